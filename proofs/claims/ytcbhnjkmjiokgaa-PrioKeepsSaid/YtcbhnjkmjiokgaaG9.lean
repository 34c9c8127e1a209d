/- The merge, cut at the middle or behind it. -/
import Derived.Test.YtcbhnjkmjiokgaaG8
namespace Go.Proofs.Ytcbhnjkmjiokgaa.PPPrio
open Go.RowKit Go.Proofs.YtcbhnjkmjiokgaaW.PrintWords Go.Proofs.YtcbhnjkmjiokgaaW.PrintLast Go.Proofs.YtcbhnjkmjiokgaaW.PrintMore
set_option linter.unusedVariables false
set_option linter.unusedSimpArgs false


set_option maxHeartbeats 20000000 in
set_option maxRecDepth 100000 in
theorem merge_low (N : Nat) (ih : ∀ (g n cap a m b : Nat) (f : Nat → S38) (w : World), b - a ≤ N → n < 1099511627776 → RowF w g n cap f → b ≤ n → a < m → m < b → Srt f a m → Srt f m b → Calls Try.prog 30 #[.slice (some ⟨g, 0, none⟩) n cap, .int .i64 a, .int .i64 m, .int .i64 b, cmpV] w (Merged n a b g cap f w))
    (g n cap a m b mid : Nat) (f : Nat → S38) (w : World) (hN : b - a ≤ N + 1) (hn : n < 1099511627776) (hR : RowF w g n cap f) (hbn : b ≤ n) (ham1 : a + 1 < m) (hmb1 : m + 1 < b) (h1 : Srt f a m) (h2 : Srt f m b) (hmid : mid = (a + b) / 2) (hcase : ¬ mid < m) :
    Calls Try.prog 30 #[.slice (some ⟨g, 0, none⟩) n cap, .int .i64 a, .int .i64 m, .int .i64 b, cmpV] w (Merged n a b g cap f w) := by
  have ham : a < m := by omega
  have hmb : m < b := by omega
  have HR := Aside0.mk hR
  have H1 := Aside0.mk h1
  have H2 := Aside0.mk h2
  clear hR h1 h2
  have hu38 := Try.underlying38
  obtain ⟨d, hd⟩ : ∃ d, d = m - a := ⟨_, rfl⟩
  have hmd : (m : Int) - (a : Int) = (d : Int) := by omega
  have hd1 : ((d : Int) == 1) = false := by rw [beq_eq_false_iff_ne]; omega
  obtain ⟨d2, hdd⟩ : ∃ d2, d2 = b - m := ⟨_, rfl⟩
  have hbm : (b : Int) - (m : Int) = (d2 : Int) := by omega
  have hd2 : ((d2 : Int) == 1) = false := by rw [beq_eq_false_iff_ne]; omega
  have hmide : ((a : Int) + (b : Int)) / 2 = (mid : Int) := by omega
  obtain ⟨nn, hnn⟩ : ∃ nn, nn = mid + m := ⟨_, rfl⟩
  have hnne : (mid : Int) + (m : Int) = (nn : Int) := by omega
  obtain ⟨pp, hpp⟩ : ∃ pp, pp = nn - 1 := ⟨_, rfl⟩
  have hppe : (nn : Int) - 1 = (pp : Int) := by omega
  clear hd hdd
  have hmm : m ≤ mid := by omega
  have HC := Aside0.mk (Cut.mk (s0 := a) (r0 := m) ham hmb hmid (.inr ⟨hmm, rfl, rfl⟩))
  have hcm : decide (mid < m) = false := decide_eq_false hcase
  have HMID := Aside0.mk hmid
  have HNN := Aside0.mk hnn
  have HPP := Aside0.mk hpp
  clear hmid hnn hpp hcase
  go_enter Try.func30, Try.ntmps30
  go_wp2_with fail
  clear hmd hd1 hbm hd2 hmide hnne hppe hcm
  go_loopg [20, 21] (m - a) (fun kq v20 v21 w' => ∃ (s r : Nat), s + kq = r ∧ a ≤ s ∧ r ≤ m ∧ v20 = .int .i64 s ∧ v21 = .int .i64 r ∧ Aside0 (SS w w' g n cap f) ∧ Aside0 (Fnd f (mid + m - 1) a m s r))
  case atStart =>
    have hb0 := HC.out.bounds (f := f) (s := a) (Nat.le_refl _) (HC.out.ord)
    exact ⟨a, m, by omega, Nat.le_refl _, Nat.le_refl _, rfl, rfl, ⟨⟨HR.out, .refl _ _⟩⟩, ⟨⟨fun k h1 h2 => by omega, fun k h1 h2 => by omega⟩⟩⟩
  case round =>
    clear HR
    obtain ⟨s, r, hk, hs0s, hr0, rfl, rfl, HS, HF⟩ := hrel
    by_cases hsr : s < r
    · have hd : decide (s < r) = true := decide_eq_true hsr
      obtain ⟨c, hc⟩ : ∃ c, c = (s + r) / 2 := ⟨_, rfl⟩
      have hce : ((s : Int) + (r : Int)) / 2 = (c : Int) := by omega
      have hsc : s ≤ c := by omega
      have hcr : c < r := by omega
      have hbd := HC.out.bounds (f := f) (s := c) (by omega) (by omega)
      have hbd2 := HC.out.last (c := c) (by omega) (by omega)
      obtain ⟨q, hq⟩ : ∃ q, q = mid + m - 1 - c := ⟨_, rfl⟩
      have hqc : (pp : Int) - (c : Int) = (q : Int) := by have := HNN.out; have := HPP.out; omega
      have hxn : q < n := by omega
      have hyn : c < n := by omega
      have HBD := Aside0.mk hbd
      have HBD2 := Aside0.mk hbd2
      have HQ := Aside0.mk hq
      clear hc hbd hbd2 hq
      cases hlt : ltI (f q) (f c) with
      | false =>
        have ho : decide (ordI (f q) (f c) < 0) = false := by rw [ordI_neg]; exact hlt
        have HLT := Aside0.mk hlt
        clear hlt
        go_wp2_with fail
        have hwq : wrap64 (q : Int) = (q : Int) := by unfold wrap64; omega
        refine start_ (n := 14) (S := fun w' => w'.cell? ⟨g, q * 2, none⟩ = some (.int .i64 (f q).f0) ∧ w'.cell? ⟨g, q * 2 + 1, none⟩ = some (.int .i64 (f q).f1) ∧ w'.cell? ⟨g, c * 2, none⟩ = some (.int .i64 (f c).f0) ∧ w'.cell? ⟨g, c * 2 + 1, none⟩ = some (.int .i64 (f c).f1) ∧ Aside0 (SS w w' g n cap (f))) (ds := []) #[false, false, false, false, false, false, false, false, false, false, false, false, false, false] (by kernel_rfl) rfl rfl ⟨(HS.out.step (below_drew (Below.refl _ _))).row.at0 q hxn, (HS.out.step (below_drew (Below.refl _ _))).row.at1 q hxn, (HS.out.step (below_drew (Below.refl _ _))).row.at0 c hyn, (HS.out.step (below_drew (Below.refl _ _))).row.at1 c hyn, ⟨(HS.out.step (below_drew (Below.refl _ _)))⟩⟩ (fun hHeld => ?_)
        generalize World.drew wr = W1 at hHeld ⊢
        refine pure_ (i := 0) (N := some 158) (v := ?_) (a' := ?_) #[true, false, false, false, false, false, false, false, false, false, false, false, false, false] rfl rfl (by kernel_rfl) (fun _ _ _ h => h) (Or.inl ⟨by rfl, ?_⟩) ?_ ?_
        rotate_left
        · intro w'
          go_simp
          with_reducible rfl
        rotate_left
        · simp only [Act.put, List.setIfInBounds_toArray, List.set_cons_zero, List.set_cons_succ, i64_w, i32_w]
          rfl
        refine pure_ (i := 1) (N := some 159) (v := ?_) (a' := ?_) #[true, true, false, false, false, false, false, false, false, false, false, false, false, false] rfl rfl (by kernel_rfl) (fun _ _ _ h => h) (Or.inl ⟨by rfl, ?_⟩) ?_ ?_
        rotate_left
        · intro w'
          go_simp
          with_reducible rfl
        rotate_left
        · simp only [Act.put, List.setIfInBounds_toArray, List.set_cons_zero, List.set_cons_succ, i64_w, i32_w]
          rfl
        refine pure_ (i := 2) (N := some 160) (v := ?_) (a' := ?_) #[true, true, true, false, false, false, false, false, false, false, false, false, false, false] rfl rfl (by kernel_rfl) (fun _ _ _ h => h) (Or.inl ⟨by rfl, ?_⟩) ?_ ?_
        rotate_left
        · intro w'
          go_simp
          with_reducible rfl
        rotate_left
        · simp only [Act.put, List.setIfInBounds_toArray, List.set_cons_zero, List.set_cons_succ, i64_w, i32_w]
          rfl
        refine pure_ (i := 3) (N := some 161) (v := ?_) (a' := ?_) #[true, true, true, true, false, false, false, false, false, false, false, false, false, false] rfl rfl (by kernel_rfl) (fun _ _ _ h => h) (Or.inl ⟨by rfl, ?_⟩) ?_ ?_
        rotate_left
        · intro w'
          go_simp
          with_reducible rfl
        rotate_left
        · simp only [Act.put, List.setIfInBounds_toArray, List.set_cons_zero, List.set_cons_succ, i64_w, i32_w]
          rfl
        refine pure_ (i := 4) (N := some 162) (v := ?_) (a' := ?_) #[true, true, true, true, true, false, false, false, false, false, false, false, false, false] rfl rfl (by kernel_rfl) (fun _ _ _ h => h) (Or.inl ⟨by rfl, ?_⟩) ?_ ?_
        rotate_left
        · intro w'
          go_simp
          with_reducible rfl
        rotate_left
        · simp only [Act.put, List.setIfInBounds_toArray, List.set_cons_zero, List.set_cons_succ, i64_w, i32_w]
          rfl
        refine pure_ (i := 5) (N := some 163) (v := ?_) (a' := ?_) #[true, true, true, true, true, true, false, false, false, false, false, false, false, false] rfl rfl (by kernel_rfl) (fun _ _ _ h => h) (Or.inl ⟨by rfl, ?_⟩) ?_ ?_
        rotate_left
        · intro w'
          go_simp
          with_reducible rfl
        rotate_left
        · simp only [Act.put, List.setIfInBounds_toArray, List.set_cons_zero, List.set_cons_succ, i64_w, i32_w]
          rfl
        refine pure_ (i := 7) (N := some 165) (v := ?_) (a' := ?_) #[true, true, true, true, true, true, false, true, false, false, false, false, false, false] rfl rfl (by kernel_rfl) (fun _ _ _ h => h) (Or.inl ⟨by rfl, ?_⟩) ?_ ?_
        rotate_left
        · intro w'
          go_simp
          with_reducible rfl
        rotate_left
        · simp only [Act.put, List.setIfInBounds_toArray, List.set_cons_zero, List.set_cons_succ, i64_w, i32_w]
          rfl
        refine pure_ (i := 8) (N := some 166) (v := ?_) (a' := ?_) #[true, true, true, true, true, true, false, true, true, false, false, false, false, false] rfl rfl (by kernel_rfl) (fun _ _ _ h => h) (Or.inl ⟨by rfl, ?_⟩) ?_ ?_
        rotate_left
        · intro w'
          go_simp
          with_reducible rfl
        rotate_left
        · simp only [Act.put, List.setIfInBounds_toArray, List.set_cons_zero, List.set_cons_succ, i64_w, i32_w]
          rfl
        refine pure_ (i := 9) (N := some 167) (v := ?_) (a' := ?_) #[true, true, true, true, true, true, false, true, true, true, false, false, false, false] rfl rfl (by kernel_rfl) (fun _ _ _ h => h) (Or.inl ⟨by rfl, ?_⟩) ?_ ?_
        rotate_left
        · intro w'
          go_simp
          with_reducible rfl
        rotate_left
        · simp only [Act.put, List.setIfInBounds_toArray, List.set_cons_zero, List.set_cons_succ, i64_w, i32_w]
          rfl
        refine take_ (i := 6) (N := some 164) (v := ?_) (a' := ?_) #[true, true, true, true, true, true, true, true, true, true, false, false, false, false] rfl rfl (by kernel_rfl) (fun _ _ _ h => h) (Or.inl ⟨by rfl, ?_⟩) hHeld ?_ ?_
        rotate_left
        · rintro w' ⟨s0, s1, s2, s3, s4⟩
          go_simp
          with_reducible rfl
        rotate_left
        · simp only [Act.put, List.setIfInBounds_toArray, List.set_cons_zero, List.set_cons_succ, i64_w, i32_w]
          rfl
        refine take_ (i := 10) (N := some 168) (v := ?_) (a' := ?_) #[true, true, true, true, true, true, true, true, true, true, true, false, false, false] rfl rfl (by kernel_rfl) (fun _ _ _ h => h) (Or.inl ⟨by rfl, ?_⟩) hHeld ?_ ?_
        rotate_left
        · rintro w' ⟨s0, s1, s2, s3, s4⟩
          go_simp
          with_reducible rfl
        rotate_left
        · simp only [Act.put, List.setIfInBounds_toArray, List.set_cons_zero, List.set_cons_succ, i64_w, i32_w]
          rfl
        refine one_ (i := 11) (N := some 169) #[true, true, true, true, true, true, true, true, true, true, true, true, false, false] rfl rfl (by kernel_rfl) (by decide) (fun K hK => ?_)
        refine call_ 24 #[.agg #[.int .i64 (f q).f0, .int .i64 (f q).f1], .agg #[.int .i64 (f c).f0, .int .i64 (f c).f1]] (by rfl) rfl ?_ ?_
        · first | (go_simp; done) | (go_simp; rfl)
        with_reducible refine (order_calls (f q) (f c) _).mono ?_
        rintro e wo11 ⟨rfl, hb⟩
        refine ⟨_, rfl, ?_⟩
        have hX := hHeld.2.2.2.2.out.step hb
        refine hK.out _ _ ⟨hX.row.at0 q hxn, hX.row.at1 q hxn, hX.row.at0 c hyn, hX.row.at1 c hyn, ⟨hX⟩⟩ (fun hHeld => ?_)
        clear hK K
        refine norm_ (a' := ?_) ?_ ?_
        rotate_left
        · show Act.put _ (some 169) _ = _
          simp only [Act.put, List.setIfInBounds_toArray, List.set_cons_zero, List.set_cons_succ, i64_w, i32_w]
          rfl
        refine pure_ (i := 12) (N := some 170) (v := ?_) (a' := ?_) #[true, true, true, true, true, true, true, true, true, true, true, true, true, false] rfl rfl (by kernel_rfl) (fun _ _ _ h => h) (Or.inl ⟨by rfl, ?_⟩) ?_ ?_
        rotate_left
        · intro w'
          go_simp
          with_reducible rfl
        rotate_left
        · simp only [Act.put, List.setIfInBounds_toArray, List.set_cons_zero, List.set_cons_succ, i64_w, i32_w]
          rfl
        refine pure_ (i := 13) (N := some 171) (v := ?_) (a' := ?_) #[true, true, true, true, true, true, true, true, true, true, true, true, true, true] rfl rfl (by kernel_rfl) (fun _ _ _ h => h) (Or.inl ⟨by rfl, ?_⟩) ?_ ?_
        rotate_left
        · intro w'
          go_simp
          with_reducible rfl
        rotate_left
        · simp only [Act.put, List.setIfInBounds_toArray, List.set_cons_zero, List.set_cons_succ, i64_w, i32_w]
          rfl
        refine done_ (by kernel_rfl) ?_

        have HS := Aside0.mk hX
        clear hX hHeld hb ho hwq
        go_wp2_with fail
        clear hce hd hqc
        go_roundg (r - (c + 1))
        case measure => omega
        case rel => exact ⟨c + 1, r, by omega, by omega, hr0, by go_num, rfl, HS, ⟨HF.out.no HC.out H1.out H2.out hs0s hsc hcr hr0 (by rw [← HQ.out]; exact HLT.out)⟩⟩
      | true =>
        have ho : decide (ordI (f q) (f c) < 0) = true := by rw [ordI_neg]; exact hlt
        have HLT := Aside0.mk hlt
        clear hlt
        go_wp2_with fail
        have hwq : wrap64 (q : Int) = (q : Int) := by unfold wrap64; omega
        refine start_ (n := 14) (S := fun w' => w'.cell? ⟨g, q * 2, none⟩ = some (.int .i64 (f q).f0) ∧ w'.cell? ⟨g, q * 2 + 1, none⟩ = some (.int .i64 (f q).f1) ∧ w'.cell? ⟨g, c * 2, none⟩ = some (.int .i64 (f c).f0) ∧ w'.cell? ⟨g, c * 2 + 1, none⟩ = some (.int .i64 (f c).f1) ∧ Aside0 (SS w w' g n cap (f))) (ds := []) #[false, false, false, false, false, false, false, false, false, false, false, false, false, false] (by kernel_rfl) rfl rfl ⟨(HS.out.step (below_drew (Below.refl _ _))).row.at0 q hxn, (HS.out.step (below_drew (Below.refl _ _))).row.at1 q hxn, (HS.out.step (below_drew (Below.refl _ _))).row.at0 c hyn, (HS.out.step (below_drew (Below.refl _ _))).row.at1 c hyn, ⟨(HS.out.step (below_drew (Below.refl _ _)))⟩⟩ (fun hHeld => ?_)
        generalize World.drew wr = W1 at hHeld ⊢
        refine pure_ (i := 0) (N := some 158) (v := ?_) (a' := ?_) #[true, false, false, false, false, false, false, false, false, false, false, false, false, false] rfl rfl (by kernel_rfl) (fun _ _ _ h => h) (Or.inl ⟨by rfl, ?_⟩) ?_ ?_
        rotate_left
        · intro w'
          go_simp
          with_reducible rfl
        rotate_left
        · simp only [Act.put, List.setIfInBounds_toArray, List.set_cons_zero, List.set_cons_succ, i64_w, i32_w]
          rfl
        refine pure_ (i := 1) (N := some 159) (v := ?_) (a' := ?_) #[true, true, false, false, false, false, false, false, false, false, false, false, false, false] rfl rfl (by kernel_rfl) (fun _ _ _ h => h) (Or.inl ⟨by rfl, ?_⟩) ?_ ?_
        rotate_left
        · intro w'
          go_simp
          with_reducible rfl
        rotate_left
        · simp only [Act.put, List.setIfInBounds_toArray, List.set_cons_zero, List.set_cons_succ, i64_w, i32_w]
          rfl
        refine pure_ (i := 2) (N := some 160) (v := ?_) (a' := ?_) #[true, true, true, false, false, false, false, false, false, false, false, false, false, false] rfl rfl (by kernel_rfl) (fun _ _ _ h => h) (Or.inl ⟨by rfl, ?_⟩) ?_ ?_
        rotate_left
        · intro w'
          go_simp
          with_reducible rfl
        rotate_left
        · simp only [Act.put, List.setIfInBounds_toArray, List.set_cons_zero, List.set_cons_succ, i64_w, i32_w]
          rfl
        refine pure_ (i := 3) (N := some 161) (v := ?_) (a' := ?_) #[true, true, true, true, false, false, false, false, false, false, false, false, false, false] rfl rfl (by kernel_rfl) (fun _ _ _ h => h) (Or.inl ⟨by rfl, ?_⟩) ?_ ?_
        rotate_left
        · intro w'
          go_simp
          with_reducible rfl
        rotate_left
        · simp only [Act.put, List.setIfInBounds_toArray, List.set_cons_zero, List.set_cons_succ, i64_w, i32_w]
          rfl
        refine pure_ (i := 4) (N := some 162) (v := ?_) (a' := ?_) #[true, true, true, true, true, false, false, false, false, false, false, false, false, false] rfl rfl (by kernel_rfl) (fun _ _ _ h => h) (Or.inl ⟨by rfl, ?_⟩) ?_ ?_
        rotate_left
        · intro w'
          go_simp
          with_reducible rfl
        rotate_left
        · simp only [Act.put, List.setIfInBounds_toArray, List.set_cons_zero, List.set_cons_succ, i64_w, i32_w]
          rfl
        refine pure_ (i := 5) (N := some 163) (v := ?_) (a' := ?_) #[true, true, true, true, true, true, false, false, false, false, false, false, false, false] rfl rfl (by kernel_rfl) (fun _ _ _ h => h) (Or.inl ⟨by rfl, ?_⟩) ?_ ?_
        rotate_left
        · intro w'
          go_simp
          with_reducible rfl
        rotate_left
        · simp only [Act.put, List.setIfInBounds_toArray, List.set_cons_zero, List.set_cons_succ, i64_w, i32_w]
          rfl
        refine pure_ (i := 7) (N := some 165) (v := ?_) (a' := ?_) #[true, true, true, true, true, true, false, true, false, false, false, false, false, false] rfl rfl (by kernel_rfl) (fun _ _ _ h => h) (Or.inl ⟨by rfl, ?_⟩) ?_ ?_
        rotate_left
        · intro w'
          go_simp
          with_reducible rfl
        rotate_left
        · simp only [Act.put, List.setIfInBounds_toArray, List.set_cons_zero, List.set_cons_succ, i64_w, i32_w]
          rfl
        refine pure_ (i := 8) (N := some 166) (v := ?_) (a' := ?_) #[true, true, true, true, true, true, false, true, true, false, false, false, false, false] rfl rfl (by kernel_rfl) (fun _ _ _ h => h) (Or.inl ⟨by rfl, ?_⟩) ?_ ?_
        rotate_left
        · intro w'
          go_simp
          with_reducible rfl
        rotate_left
        · simp only [Act.put, List.setIfInBounds_toArray, List.set_cons_zero, List.set_cons_succ, i64_w, i32_w]
          rfl
        refine pure_ (i := 9) (N := some 167) (v := ?_) (a' := ?_) #[true, true, true, true, true, true, false, true, true, true, false, false, false, false] rfl rfl (by kernel_rfl) (fun _ _ _ h => h) (Or.inl ⟨by rfl, ?_⟩) ?_ ?_
        rotate_left
        · intro w'
          go_simp
          with_reducible rfl
        rotate_left
        · simp only [Act.put, List.setIfInBounds_toArray, List.set_cons_zero, List.set_cons_succ, i64_w, i32_w]
          rfl
        refine take_ (i := 6) (N := some 164) (v := ?_) (a' := ?_) #[true, true, true, true, true, true, true, true, true, true, false, false, false, false] rfl rfl (by kernel_rfl) (fun _ _ _ h => h) (Or.inl ⟨by rfl, ?_⟩) hHeld ?_ ?_
        rotate_left
        · rintro w' ⟨s0, s1, s2, s3, s4⟩
          go_simp
          with_reducible rfl
        rotate_left
        · simp only [Act.put, List.setIfInBounds_toArray, List.set_cons_zero, List.set_cons_succ, i64_w, i32_w]
          rfl
        refine take_ (i := 10) (N := some 168) (v := ?_) (a' := ?_) #[true, true, true, true, true, true, true, true, true, true, true, false, false, false] rfl rfl (by kernel_rfl) (fun _ _ _ h => h) (Or.inl ⟨by rfl, ?_⟩) hHeld ?_ ?_
        rotate_left
        · rintro w' ⟨s0, s1, s2, s3, s4⟩
          go_simp
          with_reducible rfl
        rotate_left
        · simp only [Act.put, List.setIfInBounds_toArray, List.set_cons_zero, List.set_cons_succ, i64_w, i32_w]
          rfl
        refine one_ (i := 11) (N := some 169) #[true, true, true, true, true, true, true, true, true, true, true, true, false, false] rfl rfl (by kernel_rfl) (by decide) (fun K hK => ?_)
        refine call_ 24 #[.agg #[.int .i64 (f q).f0, .int .i64 (f q).f1], .agg #[.int .i64 (f c).f0, .int .i64 (f c).f1]] (by rfl) rfl ?_ ?_
        · first | (go_simp; done) | (go_simp; rfl)
        with_reducible refine (order_calls (f q) (f c) _).mono ?_
        rintro e wo11 ⟨rfl, hb⟩
        refine ⟨_, rfl, ?_⟩
        have hX := hHeld.2.2.2.2.out.step hb
        refine hK.out _ _ ⟨hX.row.at0 q hxn, hX.row.at1 q hxn, hX.row.at0 c hyn, hX.row.at1 c hyn, ⟨hX⟩⟩ (fun hHeld => ?_)
        clear hK K
        refine norm_ (a' := ?_) ?_ ?_
        rotate_left
        · show Act.put _ (some 169) _ = _
          simp only [Act.put, List.setIfInBounds_toArray, List.set_cons_zero, List.set_cons_succ, i64_w, i32_w]
          rfl
        refine pure_ (i := 12) (N := some 170) (v := ?_) (a' := ?_) #[true, true, true, true, true, true, true, true, true, true, true, true, true, false] rfl rfl (by kernel_rfl) (fun _ _ _ h => h) (Or.inl ⟨by rfl, ?_⟩) ?_ ?_
        rotate_left
        · intro w'
          go_simp
          with_reducible rfl
        rotate_left
        · simp only [Act.put, List.setIfInBounds_toArray, List.set_cons_zero, List.set_cons_succ, i64_w, i32_w]
          rfl
        refine pure_ (i := 13) (N := some 171) (v := ?_) (a' := ?_) #[true, true, true, true, true, true, true, true, true, true, true, true, true, true] rfl rfl (by kernel_rfl) (fun _ _ _ h => h) (Or.inl ⟨by rfl, ?_⟩) ?_ ?_
        rotate_left
        · intro w'
          go_simp
          with_reducible rfl
        rotate_left
        · simp only [Act.put, List.setIfInBounds_toArray, List.set_cons_zero, List.set_cons_succ, i64_w, i32_w]
          rfl
        refine done_ (by kernel_rfl) ?_

        have HS := Aside0.mk hX
        clear hX hHeld hb ho hwq
        go_wp2_with fail
        clear hce hd hqc
        go_roundg (c - s)
        case measure => omega
        case rel => exact ⟨s, c, by omega, hs0s, by omega, rfl, rfl, HS, ⟨HF.out.yes HC.out H1.out H2.out hs0s hsc hcr hr0 (by rw [← HQ.out]; exact HLT.out)⟩⟩
    · obtain rfl : s = r := by omega
      have hd : decide (s < s) = false := decide_eq_false (by omega)
      have hH := halves HC.out HF.out H1.out H2.out hs0s hr0
      obtain ⟨b1, b2, b3, b4, b5, b6, b7, b8, b9⟩ := HC.out.bounds (f := f) hs0s hr0
      obtain ⟨e, he⟩ : ∃ e, e = mid + m - s := ⟨_, rfl⟩
      have hmc := HC.out.mids
      rw [← he] at hH b4 b5 b6
      have hen : (nn : Int) - (s : Int) = (e : Int) := by have := HNN.out; omega
      have HH := Aside0.mk hH
      clear hH he b7 b8 b9 hk HF
      by_cases hT : s < m ∧ m < e
      · have hT1 : decide (s < m) = true := decide_eq_true hT.1
        have hT2 : decide (m < e) = true := decide_eq_true hT.2
        by_cases hL : a < s ∧ s < mid
        · have hL1 : decide (a < s) = true := decide_eq_true hL.1
          have hL2 : decide (s < mid) = true := decide_eq_true hL.2
          go_wp2_with fail
          refine (rotate_calls g n cap s m e f cmpV _ hn HS.out.row hT.1 hT.2 (by omega)).mono ?_
          rintro e7 w7 ⟨rfl, hr7, hg7, hm7⟩
          have HS1 := Aside0.mk (SS.mk hr7 (HS.out.gr.trans hg7))
          have HM1 := Aside0.mk (hm7.wider (lo' := a) (hi' := b) b1 b6)
          clear hr7 hg7 hm7 HS
          by_cases hR : mid < e ∧ e < b
          · have hR1 : decide (mid < e) = true := decide_eq_true hR.1
            have hR2 : decide (e < b) = true := decide_eq_true hR.2
            go_wp2_with fail
            refine (ih g n cap a s mid (rotAt f s m e) _ (by omega) hn HS1.out.row (by omega) hL.1 hL.2 HH.out.l1 HH.out.l2).mono ?_
            rintro e8 w8 ⟨rfl, f2, hs2, hm2, ho2⟩
            have HSC := Aside0.mk (SS.mk hs2.row (HS1.out.gr.trans hs2.gr))
            have HM2 := Aside0.mk hm2
            have HO2 := Aside0.mk ho2
            clear hs2 hm2 ho2 HS1
            go_wp2_with fail
            refine (ih g n cap mid e b f2 _ (by omega) hn HSC.out.row hbn hR.1 hR.2 (Srt.same HH.out.l3 HM2.out (Nat.le_refl _)) (Srt.same HH.out.l4 HM2.out (by omega))).mono ?_
            rintro e9 w9 ⟨rfl, f3, hs3, hm3, ho3⟩
            go_wp2_with fail
            go_end0
            exact merged_end HH.out (by omega) (by omega) HM1.out HM2.out HO2.out hm3 ho3 ⟨hs3.row, HSC.out.gr.trans hs3.gr⟩
          · rcases Nat.lt_or_ge mid e with hR3 | hR3
            · have hR1 : decide (mid < e) = true := decide_eq_true hR3
              have hR2 : decide (e < b) = false := decide_eq_false (by omega)
              go_wp2_with fail
              refine (ih g n cap a s mid (rotAt f s m e) _ (by omega) hn HS1.out.row (by omega) hL.1 hL.2 HH.out.l1 HH.out.l2).mono ?_
              rintro e8 w8 ⟨rfl, f2, hs2, hm2, ho2⟩
              have HSC := Aside0.mk (SS.mk hs2.row (HS1.out.gr.trans hs2.gr))
              have HM2 := Aside0.mk hm2
              have HO2 := Aside0.mk ho2
              clear hs2 hm2 ho2 HS1
              go_wp2_with fail
              go_end0
              exact merged_end HH.out (by omega) (by omega) HM1.out HM2.out HO2.out (.refl _ _ _ _) (right_done HH.out HM2.out b5 b6 hR) HSC.out
            · have hR1 : decide (mid < e) = false := decide_eq_false (by omega)
              go_wp2_with fail
              refine (ih g n cap a s mid (rotAt f s m e) _ (by omega) hn HS1.out.row (by omega) hL.1 hL.2 HH.out.l1 HH.out.l2).mono ?_
              rintro e8 w8 ⟨rfl, f2, hs2, hm2, ho2⟩
              have HSC := Aside0.mk (SS.mk hs2.row (HS1.out.gr.trans hs2.gr))
              have HM2 := Aside0.mk hm2
              have HO2 := Aside0.mk ho2
              clear hs2 hm2 ho2 HS1
              go_wp2_with fail
              go_end0
              exact merged_end HH.out (by omega) (by omega) HM1.out HM2.out HO2.out (.refl _ _ _ _) (right_done HH.out HM2.out b5 b6 hR) HSC.out
        · rcases Nat.lt_or_ge a s with hL3 | hL3
          · have hL1 : decide (a < s) = true := decide_eq_true hL3
            have hL2 : decide (s < mid) = false := decide_eq_false (by omega)
            go_wp2_with fail
            refine (rotate_calls g n cap s m e f cmpV _ hn HS.out.row hT.1 hT.2 (by omega)).mono ?_
            rintro e7 w7 ⟨rfl, hr7, hg7, hm7⟩
            have HS1 := Aside0.mk (SS.mk hr7 (HS.out.gr.trans hg7))
            have HM1 := Aside0.mk (hm7.wider (lo' := a) (hi' := b) b1 b6)
            clear hr7 hg7 hm7 HS
            by_cases hR : mid < e ∧ e < b
            · have hR1 : decide (mid < e) = true := decide_eq_true hR.1
              have hR2 : decide (e < b) = true := decide_eq_true hR.2
              have HO2 := Aside0.mk (left_done HH.out b1 b3 hL)
              have HSC := HS1
              clear HS1
              have HM2 : Aside0 (Same n a mid (rotAt f s m e) (rotAt f s m e)) := ⟨.refl _ _ _ _⟩
              go_wp2_with fail
              refine (ih g n cap mid e b (rotAt f s m e) _ (by omega) hn HSC.out.row hbn hR.1 hR.2 (Srt.same HH.out.l3 HM2.out (Nat.le_refl _)) (Srt.same HH.out.l4 HM2.out (by omega))).mono ?_
              rintro e9 w9 ⟨rfl, f3, hs3, hm3, ho3⟩
              go_wp2_with fail
              go_end0
              exact merged_end HH.out (by omega) (by omega) HM1.out HM2.out HO2.out hm3 ho3 ⟨hs3.row, HSC.out.gr.trans hs3.gr⟩
            · rcases Nat.lt_or_ge mid e with hR3 | hR3
              · have hR1 : decide (mid < e) = true := decide_eq_true hR3
                have hR2 : decide (e < b) = false := decide_eq_false (by omega)
                have HO2 := Aside0.mk (left_done HH.out b1 b3 hL)
                have HSC := HS1
                clear HS1
                have HM2 : Aside0 (Same n a mid (rotAt f s m e) (rotAt f s m e)) := ⟨.refl _ _ _ _⟩
                go_wp2_with fail
                go_end0
                exact merged_end HH.out (by omega) (by omega) HM1.out HM2.out HO2.out (.refl _ _ _ _) (right_done HH.out HM2.out b5 b6 hR) HSC.out
              · have hR1 : decide (mid < e) = false := decide_eq_false (by omega)
                have HO2 := Aside0.mk (left_done HH.out b1 b3 hL)
                have HSC := HS1
                clear HS1
                have HM2 : Aside0 (Same n a mid (rotAt f s m e) (rotAt f s m e)) := ⟨.refl _ _ _ _⟩
                go_wp2_with fail
                go_end0
                exact merged_end HH.out (by omega) (by omega) HM1.out HM2.out HO2.out (.refl _ _ _ _) (right_done HH.out HM2.out b5 b6 hR) HSC.out
          · have hL1 : decide (a < s) = false := decide_eq_false (by omega)
            go_wp2_with fail
            refine (rotate_calls g n cap s m e f cmpV _ hn HS.out.row hT.1 hT.2 (by omega)).mono ?_
            rintro e7 w7 ⟨rfl, hr7, hg7, hm7⟩
            have HS1 := Aside0.mk (SS.mk hr7 (HS.out.gr.trans hg7))
            have HM1 := Aside0.mk (hm7.wider (lo' := a) (hi' := b) b1 b6)
            clear hr7 hg7 hm7 HS
            by_cases hR : mid < e ∧ e < b
            · have hR1 : decide (mid < e) = true := decide_eq_true hR.1
              have hR2 : decide (e < b) = true := decide_eq_true hR.2
              have HO2 := Aside0.mk (left_done HH.out b1 b3 hL)
              have HSC := HS1
              clear HS1
              have HM2 : Aside0 (Same n a mid (rotAt f s m e) (rotAt f s m e)) := ⟨.refl _ _ _ _⟩
              go_wp2_with fail
              refine (ih g n cap mid e b (rotAt f s m e) _ (by omega) hn HSC.out.row hbn hR.1 hR.2 (Srt.same HH.out.l3 HM2.out (Nat.le_refl _)) (Srt.same HH.out.l4 HM2.out (by omega))).mono ?_
              rintro e9 w9 ⟨rfl, f3, hs3, hm3, ho3⟩
              go_wp2_with fail
              go_end0
              exact merged_end HH.out (by omega) (by omega) HM1.out HM2.out HO2.out hm3 ho3 ⟨hs3.row, HSC.out.gr.trans hs3.gr⟩
            · rcases Nat.lt_or_ge mid e with hR3 | hR3
              · have hR1 : decide (mid < e) = true := decide_eq_true hR3
                have hR2 : decide (e < b) = false := decide_eq_false (by omega)
                have HO2 := Aside0.mk (left_done HH.out b1 b3 hL)
                have HSC := HS1
                clear HS1
                have HM2 : Aside0 (Same n a mid (rotAt f s m e) (rotAt f s m e)) := ⟨.refl _ _ _ _⟩
                go_wp2_with fail
                go_end0
                exact merged_end HH.out (by omega) (by omega) HM1.out HM2.out HO2.out (.refl _ _ _ _) (right_done HH.out HM2.out b5 b6 hR) HSC.out
              · have hR1 : decide (mid < e) = false := decide_eq_false (by omega)
                have HO2 := Aside0.mk (left_done HH.out b1 b3 hL)
                have HSC := HS1
                clear HS1
                have HM2 : Aside0 (Same n a mid (rotAt f s m e) (rotAt f s m e)) := ⟨.refl _ _ _ _⟩
                go_wp2_with fail
                go_end0
                exact merged_end HH.out (by omega) (by omega) HM1.out HM2.out HO2.out (.refl _ _ _ _) (right_done HH.out HM2.out b5 b6 hR) HSC.out
      · rcases Nat.lt_or_ge s m with hT3 | hT3
        · have hT1 : decide (s < m) = true := decide_eq_true hT3
          have hT2 : decide (m < e) = false := decide_eq_false (by omega)
          by_cases hL : a < s ∧ s < mid
          · have hL1 : decide (a < s) = true := decide_eq_true hL.1
            have hL2 : decide (s < mid) = true := decide_eq_true hL.2
            have hrn := rotAt_none f s m e b2 b4 hT
            have HS1 : Aside0 (SS w wr g n cap (rotAt f s m e)) := ⟨by rw [hrn]; exact HS.out⟩
            have HM1 : Aside0 (Same n a b f (rotAt f s m e)) := ⟨by rw [hrn]; exact .refl _ _ _ _⟩
            clear hrn HS
            by_cases hR : mid < e ∧ e < b
            · have hR1 : decide (mid < e) = true := decide_eq_true hR.1
              have hR2 : decide (e < b) = true := decide_eq_true hR.2
              go_wp2_with fail
              refine (ih g n cap a s mid (rotAt f s m e) _ (by omega) hn HS1.out.row (by omega) hL.1 hL.2 HH.out.l1 HH.out.l2).mono ?_
              rintro e8 w8 ⟨rfl, f2, hs2, hm2, ho2⟩
              have HSC := Aside0.mk (SS.mk hs2.row (HS1.out.gr.trans hs2.gr))
              have HM2 := Aside0.mk hm2
              have HO2 := Aside0.mk ho2
              clear hs2 hm2 ho2 HS1
              go_wp2_with fail
              refine (ih g n cap mid e b f2 _ (by omega) hn HSC.out.row hbn hR.1 hR.2 (Srt.same HH.out.l3 HM2.out (Nat.le_refl _)) (Srt.same HH.out.l4 HM2.out (by omega))).mono ?_
              rintro e9 w9 ⟨rfl, f3, hs3, hm3, ho3⟩
              go_wp2_with fail
              go_end0
              exact merged_end HH.out (by omega) (by omega) HM1.out HM2.out HO2.out hm3 ho3 ⟨hs3.row, HSC.out.gr.trans hs3.gr⟩
            · rcases Nat.lt_or_ge mid e with hR3 | hR3
              · have hR1 : decide (mid < e) = true := decide_eq_true hR3
                have hR2 : decide (e < b) = false := decide_eq_false (by omega)
                go_wp2_with fail
                refine (ih g n cap a s mid (rotAt f s m e) _ (by omega) hn HS1.out.row (by omega) hL.1 hL.2 HH.out.l1 HH.out.l2).mono ?_
                rintro e8 w8 ⟨rfl, f2, hs2, hm2, ho2⟩
                have HSC := Aside0.mk (SS.mk hs2.row (HS1.out.gr.trans hs2.gr))
                have HM2 := Aside0.mk hm2
                have HO2 := Aside0.mk ho2
                clear hs2 hm2 ho2 HS1
                go_wp2_with fail
                go_end0
                exact merged_end HH.out (by omega) (by omega) HM1.out HM2.out HO2.out (.refl _ _ _ _) (right_done HH.out HM2.out b5 b6 hR) HSC.out
              · have hR1 : decide (mid < e) = false := decide_eq_false (by omega)
                go_wp2_with fail
                refine (ih g n cap a s mid (rotAt f s m e) _ (by omega) hn HS1.out.row (by omega) hL.1 hL.2 HH.out.l1 HH.out.l2).mono ?_
                rintro e8 w8 ⟨rfl, f2, hs2, hm2, ho2⟩
                have HSC := Aside0.mk (SS.mk hs2.row (HS1.out.gr.trans hs2.gr))
                have HM2 := Aside0.mk hm2
                have HO2 := Aside0.mk ho2
                clear hs2 hm2 ho2 HS1
                go_wp2_with fail
                go_end0
                exact merged_end HH.out (by omega) (by omega) HM1.out HM2.out HO2.out (.refl _ _ _ _) (right_done HH.out HM2.out b5 b6 hR) HSC.out
          · rcases Nat.lt_or_ge a s with hL3 | hL3
            · have hL1 : decide (a < s) = true := decide_eq_true hL3
              have hL2 : decide (s < mid) = false := decide_eq_false (by omega)
              have hrn := rotAt_none f s m e b2 b4 hT
              have HS1 : Aside0 (SS w wr g n cap (rotAt f s m e)) := ⟨by rw [hrn]; exact HS.out⟩
              have HM1 : Aside0 (Same n a b f (rotAt f s m e)) := ⟨by rw [hrn]; exact .refl _ _ _ _⟩
              clear hrn HS
              by_cases hR : mid < e ∧ e < b
              · have hR1 : decide (mid < e) = true := decide_eq_true hR.1
                have hR2 : decide (e < b) = true := decide_eq_true hR.2
                have HO2 := Aside0.mk (left_done HH.out b1 b3 hL)
                have HSC := HS1
                clear HS1
                have HM2 : Aside0 (Same n a mid (rotAt f s m e) (rotAt f s m e)) := ⟨.refl _ _ _ _⟩
                go_wp2_with fail
                refine (ih g n cap mid e b (rotAt f s m e) _ (by omega) hn HSC.out.row hbn hR.1 hR.2 (Srt.same HH.out.l3 HM2.out (Nat.le_refl _)) (Srt.same HH.out.l4 HM2.out (by omega))).mono ?_
                rintro e9 w9 ⟨rfl, f3, hs3, hm3, ho3⟩
                go_wp2_with fail
                go_end0
                exact merged_end HH.out (by omega) (by omega) HM1.out HM2.out HO2.out hm3 ho3 ⟨hs3.row, HSC.out.gr.trans hs3.gr⟩
              · rcases Nat.lt_or_ge mid e with hR3 | hR3
                · have hR1 : decide (mid < e) = true := decide_eq_true hR3
                  have hR2 : decide (e < b) = false := decide_eq_false (by omega)
                  have HO2 := Aside0.mk (left_done HH.out b1 b3 hL)
                  have HSC := HS1
                  clear HS1
                  have HM2 : Aside0 (Same n a mid (rotAt f s m e) (rotAt f s m e)) := ⟨.refl _ _ _ _⟩
                  go_wp2_with fail
                  go_end0
                  exact merged_end HH.out (by omega) (by omega) HM1.out HM2.out HO2.out (.refl _ _ _ _) (right_done HH.out HM2.out b5 b6 hR) HSC.out
                · have hR1 : decide (mid < e) = false := decide_eq_false (by omega)
                  have HO2 := Aside0.mk (left_done HH.out b1 b3 hL)
                  have HSC := HS1
                  clear HS1
                  have HM2 : Aside0 (Same n a mid (rotAt f s m e) (rotAt f s m e)) := ⟨.refl _ _ _ _⟩
                  go_wp2_with fail
                  go_end0
                  exact merged_end HH.out (by omega) (by omega) HM1.out HM2.out HO2.out (.refl _ _ _ _) (right_done HH.out HM2.out b5 b6 hR) HSC.out
            · have hL1 : decide (a < s) = false := decide_eq_false (by omega)
              have hrn := rotAt_none f s m e b2 b4 hT
              have HS1 : Aside0 (SS w wr g n cap (rotAt f s m e)) := ⟨by rw [hrn]; exact HS.out⟩
              have HM1 : Aside0 (Same n a b f (rotAt f s m e)) := ⟨by rw [hrn]; exact .refl _ _ _ _⟩
              clear hrn HS
              by_cases hR : mid < e ∧ e < b
              · have hR1 : decide (mid < e) = true := decide_eq_true hR.1
                have hR2 : decide (e < b) = true := decide_eq_true hR.2
                have HO2 := Aside0.mk (left_done HH.out b1 b3 hL)
                have HSC := HS1
                clear HS1
                have HM2 : Aside0 (Same n a mid (rotAt f s m e) (rotAt f s m e)) := ⟨.refl _ _ _ _⟩
                go_wp2_with fail
                refine (ih g n cap mid e b (rotAt f s m e) _ (by omega) hn HSC.out.row hbn hR.1 hR.2 (Srt.same HH.out.l3 HM2.out (Nat.le_refl _)) (Srt.same HH.out.l4 HM2.out (by omega))).mono ?_
                rintro e9 w9 ⟨rfl, f3, hs3, hm3, ho3⟩
                go_wp2_with fail
                go_end0
                exact merged_end HH.out (by omega) (by omega) HM1.out HM2.out HO2.out hm3 ho3 ⟨hs3.row, HSC.out.gr.trans hs3.gr⟩
              · rcases Nat.lt_or_ge mid e with hR3 | hR3
                · have hR1 : decide (mid < e) = true := decide_eq_true hR3
                  have hR2 : decide (e < b) = false := decide_eq_false (by omega)
                  have HO2 := Aside0.mk (left_done HH.out b1 b3 hL)
                  have HSC := HS1
                  clear HS1
                  have HM2 : Aside0 (Same n a mid (rotAt f s m e) (rotAt f s m e)) := ⟨.refl _ _ _ _⟩
                  go_wp2_with fail
                  go_end0
                  exact merged_end HH.out (by omega) (by omega) HM1.out HM2.out HO2.out (.refl _ _ _ _) (right_done HH.out HM2.out b5 b6 hR) HSC.out
                · have hR1 : decide (mid < e) = false := decide_eq_false (by omega)
                  have HO2 := Aside0.mk (left_done HH.out b1 b3 hL)
                  have HSC := HS1
                  clear HS1
                  have HM2 : Aside0 (Same n a mid (rotAt f s m e) (rotAt f s m e)) := ⟨.refl _ _ _ _⟩
                  go_wp2_with fail
                  go_end0
                  exact merged_end HH.out (by omega) (by omega) HM1.out HM2.out HO2.out (.refl _ _ _ _) (right_done HH.out HM2.out b5 b6 hR) HSC.out
        · have hT1 : decide (s < m) = false := decide_eq_false (by omega)
          by_cases hL : a < s ∧ s < mid
          · have hL1 : decide (a < s) = true := decide_eq_true hL.1
            have hL2 : decide (s < mid) = true := decide_eq_true hL.2
            have hrn := rotAt_none f s m e b2 b4 hT
            have HS1 : Aside0 (SS w wr g n cap (rotAt f s m e)) := ⟨by rw [hrn]; exact HS.out⟩
            have HM1 : Aside0 (Same n a b f (rotAt f s m e)) := ⟨by rw [hrn]; exact .refl _ _ _ _⟩
            clear hrn HS
            by_cases hR : mid < e ∧ e < b
            · have hR1 : decide (mid < e) = true := decide_eq_true hR.1
              have hR2 : decide (e < b) = true := decide_eq_true hR.2
              go_wp2_with fail
              refine (ih g n cap a s mid (rotAt f s m e) _ (by omega) hn HS1.out.row (by omega) hL.1 hL.2 HH.out.l1 HH.out.l2).mono ?_
              rintro e8 w8 ⟨rfl, f2, hs2, hm2, ho2⟩
              have HSC := Aside0.mk (SS.mk hs2.row (HS1.out.gr.trans hs2.gr))
              have HM2 := Aside0.mk hm2
              have HO2 := Aside0.mk ho2
              clear hs2 hm2 ho2 HS1
              go_wp2_with fail
              refine (ih g n cap mid e b f2 _ (by omega) hn HSC.out.row hbn hR.1 hR.2 (Srt.same HH.out.l3 HM2.out (Nat.le_refl _)) (Srt.same HH.out.l4 HM2.out (by omega))).mono ?_
              rintro e9 w9 ⟨rfl, f3, hs3, hm3, ho3⟩
              go_wp2_with fail
              go_end0
              exact merged_end HH.out (by omega) (by omega) HM1.out HM2.out HO2.out hm3 ho3 ⟨hs3.row, HSC.out.gr.trans hs3.gr⟩
            · rcases Nat.lt_or_ge mid e with hR3 | hR3
              · have hR1 : decide (mid < e) = true := decide_eq_true hR3
                have hR2 : decide (e < b) = false := decide_eq_false (by omega)
                go_wp2_with fail
                refine (ih g n cap a s mid (rotAt f s m e) _ (by omega) hn HS1.out.row (by omega) hL.1 hL.2 HH.out.l1 HH.out.l2).mono ?_
                rintro e8 w8 ⟨rfl, f2, hs2, hm2, ho2⟩
                have HSC := Aside0.mk (SS.mk hs2.row (HS1.out.gr.trans hs2.gr))
                have HM2 := Aside0.mk hm2
                have HO2 := Aside0.mk ho2
                clear hs2 hm2 ho2 HS1
                go_wp2_with fail
                go_end0
                exact merged_end HH.out (by omega) (by omega) HM1.out HM2.out HO2.out (.refl _ _ _ _) (right_done HH.out HM2.out b5 b6 hR) HSC.out
              · have hR1 : decide (mid < e) = false := decide_eq_false (by omega)
                go_wp2_with fail
                refine (ih g n cap a s mid (rotAt f s m e) _ (by omega) hn HS1.out.row (by omega) hL.1 hL.2 HH.out.l1 HH.out.l2).mono ?_
                rintro e8 w8 ⟨rfl, f2, hs2, hm2, ho2⟩
                have HSC := Aside0.mk (SS.mk hs2.row (HS1.out.gr.trans hs2.gr))
                have HM2 := Aside0.mk hm2
                have HO2 := Aside0.mk ho2
                clear hs2 hm2 ho2 HS1
                go_wp2_with fail
                go_end0
                exact merged_end HH.out (by omega) (by omega) HM1.out HM2.out HO2.out (.refl _ _ _ _) (right_done HH.out HM2.out b5 b6 hR) HSC.out
          · rcases Nat.lt_or_ge a s with hL3 | hL3
            · have hL1 : decide (a < s) = true := decide_eq_true hL3
              have hL2 : decide (s < mid) = false := decide_eq_false (by omega)
              have hrn := rotAt_none f s m e b2 b4 hT
              have HS1 : Aside0 (SS w wr g n cap (rotAt f s m e)) := ⟨by rw [hrn]; exact HS.out⟩
              have HM1 : Aside0 (Same n a b f (rotAt f s m e)) := ⟨by rw [hrn]; exact .refl _ _ _ _⟩
              clear hrn HS
              by_cases hR : mid < e ∧ e < b
              · have hR1 : decide (mid < e) = true := decide_eq_true hR.1
                have hR2 : decide (e < b) = true := decide_eq_true hR.2
                have HO2 := Aside0.mk (left_done HH.out b1 b3 hL)
                have HSC := HS1
                clear HS1
                have HM2 : Aside0 (Same n a mid (rotAt f s m e) (rotAt f s m e)) := ⟨.refl _ _ _ _⟩
                go_wp2_with fail
                refine (ih g n cap mid e b (rotAt f s m e) _ (by omega) hn HSC.out.row hbn hR.1 hR.2 (Srt.same HH.out.l3 HM2.out (Nat.le_refl _)) (Srt.same HH.out.l4 HM2.out (by omega))).mono ?_
                rintro e9 w9 ⟨rfl, f3, hs3, hm3, ho3⟩
                go_wp2_with fail
                go_end0
                exact merged_end HH.out (by omega) (by omega) HM1.out HM2.out HO2.out hm3 ho3 ⟨hs3.row, HSC.out.gr.trans hs3.gr⟩
              · rcases Nat.lt_or_ge mid e with hR3 | hR3
                · have hR1 : decide (mid < e) = true := decide_eq_true hR3
                  have hR2 : decide (e < b) = false := decide_eq_false (by omega)
                  have HO2 := Aside0.mk (left_done HH.out b1 b3 hL)
                  have HSC := HS1
                  clear HS1
                  have HM2 : Aside0 (Same n a mid (rotAt f s m e) (rotAt f s m e)) := ⟨.refl _ _ _ _⟩
                  go_wp2_with fail
                  go_end0
                  exact merged_end HH.out (by omega) (by omega) HM1.out HM2.out HO2.out (.refl _ _ _ _) (right_done HH.out HM2.out b5 b6 hR) HSC.out
                · have hR1 : decide (mid < e) = false := decide_eq_false (by omega)
                  have HO2 := Aside0.mk (left_done HH.out b1 b3 hL)
                  have HSC := HS1
                  clear HS1
                  have HM2 : Aside0 (Same n a mid (rotAt f s m e) (rotAt f s m e)) := ⟨.refl _ _ _ _⟩
                  go_wp2_with fail
                  go_end0
                  exact merged_end HH.out (by omega) (by omega) HM1.out HM2.out HO2.out (.refl _ _ _ _) (right_done HH.out HM2.out b5 b6 hR) HSC.out
            · have hL1 : decide (a < s) = false := decide_eq_false (by omega)
              have hrn := rotAt_none f s m e b2 b4 hT
              have HS1 : Aside0 (SS w wr g n cap (rotAt f s m e)) := ⟨by rw [hrn]; exact HS.out⟩
              have HM1 : Aside0 (Same n a b f (rotAt f s m e)) := ⟨by rw [hrn]; exact .refl _ _ _ _⟩
              clear hrn HS
              by_cases hR : mid < e ∧ e < b
              · have hR1 : decide (mid < e) = true := decide_eq_true hR.1
                have hR2 : decide (e < b) = true := decide_eq_true hR.2
                have HO2 := Aside0.mk (left_done HH.out b1 b3 hL)
                have HSC := HS1
                clear HS1
                have HM2 : Aside0 (Same n a mid (rotAt f s m e) (rotAt f s m e)) := ⟨.refl _ _ _ _⟩
                go_wp2_with fail
                refine (ih g n cap mid e b (rotAt f s m e) _ (by omega) hn HSC.out.row hbn hR.1 hR.2 (Srt.same HH.out.l3 HM2.out (Nat.le_refl _)) (Srt.same HH.out.l4 HM2.out (by omega))).mono ?_
                rintro e9 w9 ⟨rfl, f3, hs3, hm3, ho3⟩
                go_wp2_with fail
                go_end0
                exact merged_end HH.out (by omega) (by omega) HM1.out HM2.out HO2.out hm3 ho3 ⟨hs3.row, HSC.out.gr.trans hs3.gr⟩
              · rcases Nat.lt_or_ge mid e with hR3 | hR3
                · have hR1 : decide (mid < e) = true := decide_eq_true hR3
                  have hR2 : decide (e < b) = false := decide_eq_false (by omega)
                  have HO2 := Aside0.mk (left_done HH.out b1 b3 hL)
                  have HSC := HS1
                  clear HS1
                  have HM2 : Aside0 (Same n a mid (rotAt f s m e) (rotAt f s m e)) := ⟨.refl _ _ _ _⟩
                  go_wp2_with fail
                  go_end0
                  exact merged_end HH.out (by omega) (by omega) HM1.out HM2.out HO2.out (.refl _ _ _ _) (right_done HH.out HM2.out b5 b6 hR) HSC.out
                · have hR1 : decide (mid < e) = false := decide_eq_false (by omega)
                  have HO2 := Aside0.mk (left_done HH.out b1 b3 hL)
                  have HSC := HS1
                  clear HS1
                  have HM2 : Aside0 (Same n a mid (rotAt f s m e) (rotAt f s m e)) := ⟨.refl _ _ _ _⟩
                  go_wp2_with fail
                  go_end0
                  exact merged_end HH.out (by omega) (by omega) HM1.out HM2.out HO2.out (.refl _ _ _ _) (right_done HH.out HM2.out b5 b6 hR) HSC.out
end Go.Proofs.Ytcbhnjkmjiokgaa.PPPrio
