/- The merge where the second stretch has one item. -/
import Derived.Test.YtcbhnjkmjiokgaaG6
namespace Go.Proofs.Ytcbhnjkmjiokgaa.PPPrio
open Go.RowKit Go.Proofs.YtcbhnjkmjiokgaaW.PrintWords Go.Proofs.YtcbhnjkmjiokgaaW.PrintLast Go.Proofs.YtcbhnjkmjiokgaaW.PrintMore
set_option linter.unusedVariables false
set_option linter.unusedSimpArgs false

set_option maxHeartbeats 1000000 in
set_option maxRecDepth 100000 in
theorem merge_last (g n cap a m b : Nat) (f : Nat → S38) (w : World) (hn : n < 1099511627776) (hR : RowF w g n cap f) (hbn : b ≤ n) (ham : a + 1 < m) (hmb : b = m + 1) (h1 : Srt f a m) :
    Calls Try.prog 30 #[.slice (some ⟨g, 0, none⟩) n cap, .int .i64 a, .int .i64 m, .int .i64 b, cmpV] w (Merged n a b g cap f w) := by
  have HR := Aside0.mk hR
  have H1 := Aside0.mk h1
  clear hR h1
  have hu38 := Try.underlying38
  obtain ⟨d, hd⟩ : ∃ d, d = m - a := ⟨_, rfl⟩
  have hmd : (m : Int) - (a : Int) = (d : Int) := by omega
  have hd1 : ((d : Int) == 1) = false := by rw [beq_eq_false_iff_ne]; omega
  have hw1 : (b : Int) - (m : Int) = 1 := by omega
  have HM := Aside0.mk hmb
  clear hmb hd
  go_enter Try.func30, Try.ntmps30
  go_wp2_with fail
  clear hmd hd1 hw1
  go_loopg [14, 15] (m - a) (fun kq v14 v15 w' => ∃ (i j : Nat), i + kq = j ∧ a ≤ i ∧ j ≤ m ∧ v14 = .int .i64 i ∧ v15 = .int .i64 j ∧ Aside0 (SS w w' g n cap f) ∧ Aside0 (∀ k, a ≤ k → k < i → ltI (f m) (f k) = false) ∧ Aside0 (∀ k, j ≤ k → k < m → ltI (f m) (f k) = true))
  case atStart => exact ⟨a, m, by omega, by omega, by omega, rfl, rfl, ⟨⟨HR.out, .refl _ _⟩⟩, ⟨fun k h1 h2 => by omega⟩, ⟨fun k h1 h2 => by omega⟩⟩
  case round =>
    clear HR
    obtain ⟨i, j, hk, hai, hjm, rfl, rfl, HS, HA, HB⟩ := hrel
    by_cases hij : i < j
    · have hd : decide (i < j) = true := decide_eq_true hij
      obtain ⟨h, hh⟩ : ∃ h, h = (i + j) / 2 := ⟨_, rfl⟩
      have hhe : ((i : Int) + (j : Int)) / 2 = (h : Int) := by omega
      have hih : i ≤ h := by omega
      have hhj : h < j := by omega
      have hyn : h < n := by have := HM.out; omega
      have hxn : m < n := by have := HM.out; omega
      clear hh
      cases hlt : ltI (f m) (f h) with
      | false =>
        have ho : decide (ordI (f m) (f h) < 0) = false := by rw [ordI_neg]; exact hlt
        have HLT := Aside0.mk hlt
        clear hlt
        go_wp2_with fail
        refine start_ (n := 12) (S := fun w' => w'.cell? ⟨g, m * 2, none⟩ = some (.int .i64 (f m).f0) ∧ w'.cell? ⟨g, m * 2 + 1, none⟩ = some (.int .i64 (f m).f1) ∧ w'.cell? ⟨g, h * 2, none⟩ = some (.int .i64 (f h).f0) ∧ w'.cell? ⟨g, h * 2 + 1, none⟩ = some (.int .i64 (f h).f1) ∧ Aside0 (SS w w' g n cap (f))) (ds := []) #[false, false, false, false, false, false, false, false, false, false, false, false] (by kernel_rfl) rfl rfl ⟨(HS.out.step (below_drew (Below.refl _ _))).row.at0 m hxn, (HS.out.step (below_drew (Below.refl _ _))).row.at1 m hxn, (HS.out.step (below_drew (Below.refl _ _))).row.at0 h hyn, (HS.out.step (below_drew (Below.refl _ _))).row.at1 h hyn, ⟨(HS.out.step (below_drew (Below.refl _ _)))⟩⟩ (fun hHeld => ?_)
        generalize World.drew wr = W1 at hHeld ⊢
        refine pure_ (i := 0) (N := some 92) (v := ?_) (a' := ?_) #[true, false, false, false, false, false, false, false, false, false, false, false] rfl rfl (by kernel_rfl) (fun _ _ _ h => h) (Or.inl ⟨by rfl, ?_⟩) ?_ ?_
        rotate_left
        · intro w'
          go_simp
          with_reducible rfl
        rotate_left
        · simp only [Act.put, List.setIfInBounds_toArray, List.set_cons_zero, List.set_cons_succ, i64_w, i32_w]
          rfl
        refine pure_ (i := 1) (N := some 93) (v := ?_) (a' := ?_) #[true, true, false, false, false, false, false, false, false, false, false, false] rfl rfl (by kernel_rfl) (fun _ _ _ h => h) (Or.inl ⟨by rfl, ?_⟩) ?_ ?_
        rotate_left
        · intro w'
          go_simp
          with_reducible rfl
        rotate_left
        · simp only [Act.put, List.setIfInBounds_toArray, List.set_cons_zero, List.set_cons_succ, i64_w, i32_w]
          rfl
        refine pure_ (i := 2) (N := some 94) (v := ?_) (a' := ?_) #[true, true, true, false, false, false, false, false, false, false, false, false] rfl rfl (by kernel_rfl) (fun _ _ _ h => h) (Or.inl ⟨by rfl, ?_⟩) ?_ ?_
        rotate_left
        · intro w'
          go_simp
          with_reducible rfl
        rotate_left
        · simp only [Act.put, List.setIfInBounds_toArray, List.set_cons_zero, List.set_cons_succ, i64_w, i32_w]
          rfl
        refine pure_ (i := 3) (N := some 95) (v := ?_) (a' := ?_) #[true, true, true, true, false, false, false, false, false, false, false, false] rfl rfl (by kernel_rfl) (fun _ _ _ h => h) (Or.inl ⟨by rfl, ?_⟩) ?_ ?_
        rotate_left
        · intro w'
          go_simp
          with_reducible rfl
        rotate_left
        · simp only [Act.put, List.setIfInBounds_toArray, List.set_cons_zero, List.set_cons_succ, i64_w, i32_w]
          rfl
        refine pure_ (i := 5) (N := some 97) (v := ?_) (a' := ?_) #[true, true, true, true, false, true, false, false, false, false, false, false] rfl rfl (by kernel_rfl) (fun _ _ _ h => h) (Or.inl ⟨by rfl, ?_⟩) ?_ ?_
        rotate_left
        · intro w'
          go_simp
          with_reducible rfl
        rotate_left
        · simp only [Act.put, List.setIfInBounds_toArray, List.set_cons_zero, List.set_cons_succ, i64_w, i32_w]
          rfl
        refine pure_ (i := 6) (N := some 98) (v := ?_) (a' := ?_) #[true, true, true, true, false, true, true, false, false, false, false, false] rfl rfl (by kernel_rfl) (fun _ _ _ h => h) (Or.inl ⟨by rfl, ?_⟩) ?_ ?_
        rotate_left
        · intro w'
          go_simp
          with_reducible rfl
        rotate_left
        · simp only [Act.put, List.setIfInBounds_toArray, List.set_cons_zero, List.set_cons_succ, i64_w, i32_w]
          rfl
        refine pure_ (i := 7) (N := some 99) (v := ?_) (a' := ?_) #[true, true, true, true, false, true, true, true, false, false, false, false] rfl rfl (by kernel_rfl) (fun _ _ _ h => h) (Or.inl ⟨by rfl, ?_⟩) ?_ ?_
        rotate_left
        · intro w'
          go_simp
          with_reducible rfl
        rotate_left
        · simp only [Act.put, List.setIfInBounds_toArray, List.set_cons_zero, List.set_cons_succ, i64_w, i32_w]
          rfl
        refine take_ (i := 4) (N := some 96) (v := ?_) (a' := ?_) #[true, true, true, true, true, true, true, true, false, false, false, false] rfl rfl (by kernel_rfl) (fun _ _ _ h => h) (Or.inl ⟨by rfl, ?_⟩) hHeld ?_ ?_
        rotate_left
        · rintro w' ⟨s0, s1, s2, s3, s4⟩
          go_simp
          with_reducible rfl
        rotate_left
        · simp only [Act.put, List.setIfInBounds_toArray, List.set_cons_zero, List.set_cons_succ, i64_w, i32_w]
          rfl
        refine take_ (i := 8) (N := some 100) (v := ?_) (a' := ?_) #[true, true, true, true, true, true, true, true, true, false, false, false] rfl rfl (by kernel_rfl) (fun _ _ _ h => h) (Or.inl ⟨by rfl, ?_⟩) hHeld ?_ ?_
        rotate_left
        · rintro w' ⟨s0, s1, s2, s3, s4⟩
          go_simp
          with_reducible rfl
        rotate_left
        · simp only [Act.put, List.setIfInBounds_toArray, List.set_cons_zero, List.set_cons_succ, i64_w, i32_w]
          rfl
        refine one_ (i := 9) (N := some 101) #[true, true, true, true, true, true, true, true, true, true, false, false] rfl rfl (by kernel_rfl) (by decide) (fun K hK => ?_)
        refine call_ 24 #[.agg #[.int .i64 (f m).f0, .int .i64 (f m).f1], .agg #[.int .i64 (f h).f0, .int .i64 (f h).f1]] (by rfl) rfl ?_ ?_
        · first | (go_simp; done) | (go_simp; rfl)
        with_reducible refine (order_calls (f m) (f h) _).mono ?_
        rintro e wo9 ⟨rfl, hb⟩
        refine ⟨_, rfl, ?_⟩
        have hX := hHeld.2.2.2.2.out.step hb
        refine hK.out _ _ ⟨hX.row.at0 m hxn, hX.row.at1 m hxn, hX.row.at0 h hyn, hX.row.at1 h hyn, ⟨hX⟩⟩ (fun hHeld => ?_)
        clear hK K
        refine norm_ (a' := ?_) ?_ ?_
        rotate_left
        · show Act.put _ (some 101) _ = _
          simp only [Act.put, List.setIfInBounds_toArray, List.set_cons_zero, List.set_cons_succ, i64_w, i32_w]
          rfl
        refine pure_ (i := 10) (N := some 102) (v := ?_) (a' := ?_) #[true, true, true, true, true, true, true, true, true, true, true, false] rfl rfl (by kernel_rfl) (fun _ _ _ h => h) (Or.inl ⟨by rfl, ?_⟩) ?_ ?_
        rotate_left
        · intro w'
          go_simp
          with_reducible rfl
        rotate_left
        · simp only [Act.put, List.setIfInBounds_toArray, List.set_cons_zero, List.set_cons_succ, i64_w, i32_w]
          rfl
        refine pure_ (i := 11) (N := some 103) (v := ?_) (a' := ?_) #[true, true, true, true, true, true, true, true, true, true, true, true] rfl rfl (by kernel_rfl) (fun _ _ _ h => h) (Or.inl ⟨by rfl, ?_⟩) ?_ ?_
        rotate_left
        · intro w'
          go_simp
          with_reducible rfl
        rotate_left
        · simp only [Act.put, List.setIfInBounds_toArray, List.set_cons_zero, List.set_cons_succ, i64_w, i32_w]
          rfl
        refine done_ (by kernel_rfl) ?_
        have HS := Aside0.mk hX
        clear hX hHeld hb ho
        go_wp2_with fail
        clear hhe hd
        go_roundg (j - (h + 1))
        case measure => omega
        case rel => exact ⟨h + 1, j, by omega, by omega, hjm, by go_num, rfl, HS, ⟨fun k h1 h2 => by
          by_cases e : k = h
          · rw [e]; exact HLT.out
          · by_cases e2 : k < i
            · exact HA.out k h1 e2
            · have := H1.out k h (by omega) (by omega) (by omega)
              exact le_trans' this HLT.out⟩, HB⟩
      | true =>
        have ho : decide (ordI (f m) (f h) < 0) = true := by rw [ordI_neg]; exact hlt
        have HLT := Aside0.mk hlt
        clear hlt
        go_wp2_with fail
        refine start_ (n := 12) (S := fun w' => w'.cell? ⟨g, m * 2, none⟩ = some (.int .i64 (f m).f0) ∧ w'.cell? ⟨g, m * 2 + 1, none⟩ = some (.int .i64 (f m).f1) ∧ w'.cell? ⟨g, h * 2, none⟩ = some (.int .i64 (f h).f0) ∧ w'.cell? ⟨g, h * 2 + 1, none⟩ = some (.int .i64 (f h).f1) ∧ Aside0 (SS w w' g n cap (f))) (ds := []) #[false, false, false, false, false, false, false, false, false, false, false, false] (by kernel_rfl) rfl rfl ⟨(HS.out.step (below_drew (Below.refl _ _))).row.at0 m hxn, (HS.out.step (below_drew (Below.refl _ _))).row.at1 m hxn, (HS.out.step (below_drew (Below.refl _ _))).row.at0 h hyn, (HS.out.step (below_drew (Below.refl _ _))).row.at1 h hyn, ⟨(HS.out.step (below_drew (Below.refl _ _)))⟩⟩ (fun hHeld => ?_)
        generalize World.drew wr = W1 at hHeld ⊢
        refine pure_ (i := 0) (N := some 92) (v := ?_) (a' := ?_) #[true, false, false, false, false, false, false, false, false, false, false, false] rfl rfl (by kernel_rfl) (fun _ _ _ h => h) (Or.inl ⟨by rfl, ?_⟩) ?_ ?_
        rotate_left
        · intro w'
          go_simp
          with_reducible rfl
        rotate_left
        · simp only [Act.put, List.setIfInBounds_toArray, List.set_cons_zero, List.set_cons_succ, i64_w, i32_w]
          rfl
        refine pure_ (i := 1) (N := some 93) (v := ?_) (a' := ?_) #[true, true, false, false, false, false, false, false, false, false, false, false] rfl rfl (by kernel_rfl) (fun _ _ _ h => h) (Or.inl ⟨by rfl, ?_⟩) ?_ ?_
        rotate_left
        · intro w'
          go_simp
          with_reducible rfl
        rotate_left
        · simp only [Act.put, List.setIfInBounds_toArray, List.set_cons_zero, List.set_cons_succ, i64_w, i32_w]
          rfl
        refine pure_ (i := 2) (N := some 94) (v := ?_) (a' := ?_) #[true, true, true, false, false, false, false, false, false, false, false, false] rfl rfl (by kernel_rfl) (fun _ _ _ h => h) (Or.inl ⟨by rfl, ?_⟩) ?_ ?_
        rotate_left
        · intro w'
          go_simp
          with_reducible rfl
        rotate_left
        · simp only [Act.put, List.setIfInBounds_toArray, List.set_cons_zero, List.set_cons_succ, i64_w, i32_w]
          rfl
        refine pure_ (i := 3) (N := some 95) (v := ?_) (a' := ?_) #[true, true, true, true, false, false, false, false, false, false, false, false] rfl rfl (by kernel_rfl) (fun _ _ _ h => h) (Or.inl ⟨by rfl, ?_⟩) ?_ ?_
        rotate_left
        · intro w'
          go_simp
          with_reducible rfl
        rotate_left
        · simp only [Act.put, List.setIfInBounds_toArray, List.set_cons_zero, List.set_cons_succ, i64_w, i32_w]
          rfl
        refine pure_ (i := 5) (N := some 97) (v := ?_) (a' := ?_) #[true, true, true, true, false, true, false, false, false, false, false, false] rfl rfl (by kernel_rfl) (fun _ _ _ h => h) (Or.inl ⟨by rfl, ?_⟩) ?_ ?_
        rotate_left
        · intro w'
          go_simp
          with_reducible rfl
        rotate_left
        · simp only [Act.put, List.setIfInBounds_toArray, List.set_cons_zero, List.set_cons_succ, i64_w, i32_w]
          rfl
        refine pure_ (i := 6) (N := some 98) (v := ?_) (a' := ?_) #[true, true, true, true, false, true, true, false, false, false, false, false] rfl rfl (by kernel_rfl) (fun _ _ _ h => h) (Or.inl ⟨by rfl, ?_⟩) ?_ ?_
        rotate_left
        · intro w'
          go_simp
          with_reducible rfl
        rotate_left
        · simp only [Act.put, List.setIfInBounds_toArray, List.set_cons_zero, List.set_cons_succ, i64_w, i32_w]
          rfl
        refine pure_ (i := 7) (N := some 99) (v := ?_) (a' := ?_) #[true, true, true, true, false, true, true, true, false, false, false, false] rfl rfl (by kernel_rfl) (fun _ _ _ h => h) (Or.inl ⟨by rfl, ?_⟩) ?_ ?_
        rotate_left
        · intro w'
          go_simp
          with_reducible rfl
        rotate_left
        · simp only [Act.put, List.setIfInBounds_toArray, List.set_cons_zero, List.set_cons_succ, i64_w, i32_w]
          rfl
        refine take_ (i := 4) (N := some 96) (v := ?_) (a' := ?_) #[true, true, true, true, true, true, true, true, false, false, false, false] rfl rfl (by kernel_rfl) (fun _ _ _ h => h) (Or.inl ⟨by rfl, ?_⟩) hHeld ?_ ?_
        rotate_left
        · rintro w' ⟨s0, s1, s2, s3, s4⟩
          go_simp
          with_reducible rfl
        rotate_left
        · simp only [Act.put, List.setIfInBounds_toArray, List.set_cons_zero, List.set_cons_succ, i64_w, i32_w]
          rfl
        refine take_ (i := 8) (N := some 100) (v := ?_) (a' := ?_) #[true, true, true, true, true, true, true, true, true, false, false, false] rfl rfl (by kernel_rfl) (fun _ _ _ h => h) (Or.inl ⟨by rfl, ?_⟩) hHeld ?_ ?_
        rotate_left
        · rintro w' ⟨s0, s1, s2, s3, s4⟩
          go_simp
          with_reducible rfl
        rotate_left
        · simp only [Act.put, List.setIfInBounds_toArray, List.set_cons_zero, List.set_cons_succ, i64_w, i32_w]
          rfl
        refine one_ (i := 9) (N := some 101) #[true, true, true, true, true, true, true, true, true, true, false, false] rfl rfl (by kernel_rfl) (by decide) (fun K hK => ?_)
        refine call_ 24 #[.agg #[.int .i64 (f m).f0, .int .i64 (f m).f1], .agg #[.int .i64 (f h).f0, .int .i64 (f h).f1]] (by rfl) rfl ?_ ?_
        · first | (go_simp; done) | (go_simp; rfl)
        with_reducible refine (order_calls (f m) (f h) _).mono ?_
        rintro e wo9 ⟨rfl, hb⟩
        refine ⟨_, rfl, ?_⟩
        have hX := hHeld.2.2.2.2.out.step hb
        refine hK.out _ _ ⟨hX.row.at0 m hxn, hX.row.at1 m hxn, hX.row.at0 h hyn, hX.row.at1 h hyn, ⟨hX⟩⟩ (fun hHeld => ?_)
        clear hK K
        refine norm_ (a' := ?_) ?_ ?_
        rotate_left
        · show Act.put _ (some 101) _ = _
          simp only [Act.put, List.setIfInBounds_toArray, List.set_cons_zero, List.set_cons_succ, i64_w, i32_w]
          rfl
        refine pure_ (i := 10) (N := some 102) (v := ?_) (a' := ?_) #[true, true, true, true, true, true, true, true, true, true, true, false] rfl rfl (by kernel_rfl) (fun _ _ _ h => h) (Or.inl ⟨by rfl, ?_⟩) ?_ ?_
        rotate_left
        · intro w'
          go_simp
          with_reducible rfl
        rotate_left
        · simp only [Act.put, List.setIfInBounds_toArray, List.set_cons_zero, List.set_cons_succ, i64_w, i32_w]
          rfl
        refine pure_ (i := 11) (N := some 103) (v := ?_) (a' := ?_) #[true, true, true, true, true, true, true, true, true, true, true, true] rfl rfl (by kernel_rfl) (fun _ _ _ h => h) (Or.inl ⟨by rfl, ?_⟩) ?_ ?_
        rotate_left
        · intro w'
          go_simp
          with_reducible rfl
        rotate_left
        · simp only [Act.put, List.setIfInBounds_toArray, List.set_cons_zero, List.set_cons_succ, i64_w, i32_w]
          rfl
        refine done_ (by kernel_rfl) ?_
        have HS := Aside0.mk hX
        clear hX hHeld hb ho
        go_wp2_with fail
        clear hhe hd
        go_roundg (h - i)
        case measure => omega
        case rel => exact ⟨i, h, by omega, by omega, by omega, rfl, rfl, HS, HA, ⟨fun k h1 h2 => by
          by_cases e : k = h
          · rw [e]; exact HLT.out
          · by_cases e2 : j ≤ k
            · exact HB.out k e2 h2
            · have := H1.out h k (by omega) (by omega) (by omega)
              exact lt_le_trans HLT.out this⟩⟩
    · obtain rfl : i = j := by omega
      have hd : decide (i < i) = false := decide_eq_false (by omega)
      go_wp2_with fail
      obtain ⟨wo, rfl⟩ : ∃ wo : World, wo = wr := ⟨_, rfl⟩
      clear hd
      go_loopg [17] (m - i) (fun kq v17 w' => ∃ k : Nat, i ≤ k ∧ k = i + kq ∧ k ≤ m ∧ v17 = .int .i64 k ∧ Aside0 (SS w w' g n cap (mvDn f m k)) ∧ Aside0 (Same n a b f (mvDn f m k)))
      case atStart => exact ⟨m, by omega, by omega, Nat.le_refl _, rfl, ⟨by rw [mvDn_zero]; exact HS.out⟩, ⟨by rw [mvDn_zero]; exact .refl _ _ _ _⟩⟩
      case round =>
        clear HS
        obtain ⟨k, hik, hkq', hkm, rfl, HS, HX⟩ := hrel
        by_cases hlt : i < k
        · have hd : decide (i < k) = true := decide_eq_true hlt
          obtain ⟨q, hq⟩ : ∃ q, q = k - 1 := ⟨_, rfl⟩
          have hkq : (k : Int) - 1 = (q : Int) := by omega
          have hpn : k < n := by have := HM.out; omega
          have hqn : q < n := by have := HM.out; omega
          have HQ := Aside0.mk hq
          have HKQ := Aside0.mk hkq'
          clear hq hkq'
          go_wp2_with fail
          have hwq : wrap64 (q : Int) = (q : Int) := by unfold wrap64; omega
          have HR := Aside0.mk HS.out.row
          have HG := Aside0.mk HS.out.gr
          refine start_ (n := 18) (S := fun w' => w'.cell? ⟨g, k * 2, none⟩ = some (.int .i64 ((mvDn f m k) k).f0) ∧ w'.cell? ⟨g, k * 2 + 1, none⟩ = some (.int .i64 ((mvDn f m k) k).f1) ∧ w'.frozen? ⟨g, k * 2, none⟩ = false ∧ w'.frozen? ⟨g, k * 2 + 1, none⟩ = false ∧ w'.cell? ⟨g, q * 2, none⟩ = some (.int .i64 ((mvDn f m k) q).f0) ∧ w'.cell? ⟨g, q * 2 + 1, none⟩ = some (.int .i64 ((mvDn f m k) q).f1) ∧ w'.frozen? ⟨g, q * 2, none⟩ = false ∧ w'.frozen? ⟨g, q * 2 + 1, none⟩ = false ∧ Aside0 (RowF w' g n cap ((mvDn f m k))) ∧ Aside0 (w.grownBy w' (some g))) (ds := [15, 17]) #[false, false, false, false, false, false, false, false, false, false, false, false, false, false, false, false, false, false] (by kernel_rfl) rfl rfl ⟨(HR.out.below (below_drew (Below.refl _ _))).at0 k hpn, (HR.out.below (below_drew (Below.refl _ _))).at1 k hpn, (HR.out.below (below_drew (Below.refl _ _))).fz (k * 2), (HR.out.below (below_drew (Below.refl _ _))).fz (k * 2 + 1), (HR.out.below (below_drew (Below.refl _ _))).at0 q hqn, (HR.out.below (below_drew (Below.refl _ _))).at1 q hqn, (HR.out.below (below_drew (Below.refl _ _))).fz (q * 2), (HR.out.below (below_drew (Below.refl _ _))).fz (q * 2 + 1), ⟨(HR.out.below (below_drew (Below.refl _ _)))⟩, ⟨(HG.out.trans (gb_drew _ _))⟩⟩ (fun hHeld => ?_)
          generalize World.drew wr = W1 at hHeld ⊢
          refine pure_ (i := 0) (N := some 113) (v := ?_) (a' := ?_) #[true, false, false, false, false, false, false, false, false, false, false, false, false, false, false, false, false, false] rfl rfl (by kernel_rfl) (fun _ _ _ h => h) (Or.inl ⟨by rfl, ?_⟩) ?_ ?_
          rotate_left
          · intro w'
            go_simp
            with_reducible rfl
          rotate_left
          · simp only [Act.put, List.setIfInBounds_toArray, List.set_cons_zero, List.set_cons_succ, i64_w, i32_w]
            rfl
          refine pure_ (i := 1) (N := some 114) (v := ?_) (a' := ?_) #[true, true, false, false, false, false, false, false, false, false, false, false, false, false, false, false, false, false] rfl rfl (by kernel_rfl) (fun _ _ _ h => h) (Or.inl ⟨by rfl, ?_⟩) ?_ ?_
          rotate_left
          · intro w'
            go_simp
            with_reducible rfl
          rotate_left
          · simp only [Act.put, List.setIfInBounds_toArray, List.set_cons_zero, List.set_cons_succ, i64_w, i32_w]
            rfl
          refine pure_ (i := 2) (N := some 115) (v := ?_) (a' := ?_) #[true, true, true, false, false, false, false, false, false, false, false, false, false, false, false, false, false, false] rfl rfl (by kernel_rfl) (fun _ _ _ h => h) (Or.inl ⟨by rfl, ?_⟩) ?_ ?_
          rotate_left
          · intro w'
            go_simp
            with_reducible rfl
          rotate_left
          · simp only [Act.put, List.setIfInBounds_toArray, List.set_cons_zero, List.set_cons_succ, i64_w, i32_w]
            rfl
          refine pure_ (i := 3) (N := some 116) (v := ?_) (a' := ?_) #[true, true, true, true, false, false, false, false, false, false, false, false, false, false, false, false, false, false] rfl rfl (by kernel_rfl) (fun _ _ _ h => h) (Or.inl ⟨by rfl, ?_⟩) ?_ ?_
          rotate_left
          · intro w'
            go_simp
            with_reducible rfl
          rotate_left
          · simp only [Act.put, List.setIfInBounds_toArray, List.set_cons_zero, List.set_cons_succ, i64_w, i32_w]
            rfl
          refine pure_ (i := 4) (N := some 117) (v := ?_) (a' := ?_) #[true, true, true, true, true, false, false, false, false, false, false, false, false, false, false, false, false, false] rfl rfl (by kernel_rfl) (fun _ _ _ h => h) (Or.inl ⟨by rfl, ?_⟩) ?_ ?_
          rotate_left
          · intro w'
            go_simp
            with_reducible rfl
          rotate_left
          · simp only [Act.put, List.setIfInBounds_toArray, List.set_cons_zero, List.set_cons_succ, i64_w, i32_w]
            rfl
          refine pure_ (i := 5) (N := some 118) (v := ?_) (a' := ?_) #[true, true, true, true, true, true, false, false, false, false, false, false, false, false, false, false, false, false] rfl rfl (by kernel_rfl) (fun _ _ _ h => h) (Or.inl ⟨by rfl, ?_⟩) ?_ ?_
          rotate_left
          · intro w'
            go_simp
            with_reducible rfl
          rotate_left
          · simp only [Act.put, List.setIfInBounds_toArray, List.set_cons_zero, List.set_cons_succ, i64_w, i32_w]
            rfl
          refine pure_ (i := 6) (N := some 119) (v := ?_) (a' := ?_) #[true, true, true, true, true, true, true, false, false, false, false, false, false, false, false, false, false, false] rfl rfl (by kernel_rfl) (fun _ _ _ h => h) (Or.inl ⟨by rfl, ?_⟩) ?_ ?_
          rotate_left
          · intro w'
            go_simp
            with_reducible rfl
          rotate_left
          · simp only [Act.put, List.setIfInBounds_toArray, List.set_cons_zero, List.set_cons_succ, i64_w, i32_w]
            rfl
          refine pure_ (i := 7) (N := some 120) (v := ?_) (a' := ?_) #[true, true, true, true, true, true, true, true, false, false, false, false, false, false, false, false, false, false] rfl rfl (by kernel_rfl) (fun _ _ _ h => h) (Or.inl ⟨by rfl, ?_⟩) ?_ ?_
          rotate_left
          · intro w'
            go_simp
            with_reducible rfl
          rotate_left
          · simp only [Act.put, List.setIfInBounds_toArray, List.set_cons_zero, List.set_cons_succ, i64_w, i32_w]
            rfl
          refine pure_ (i := 8) (N := some 121) (v := ?_) (a' := ?_) #[true, true, true, true, true, true, true, true, true, false, false, false, false, false, false, false, false, false] rfl rfl (by kernel_rfl) (fun _ _ _ h => h) (Or.inl ⟨by rfl, ?_⟩) ?_ ?_
          rotate_left
          · intro w'
            go_simp
            with_reducible rfl
          rotate_left
          · simp only [Act.put, List.setIfInBounds_toArray, List.set_cons_zero, List.set_cons_succ, i64_w, i32_w]
            rfl
          refine pure_ (i := 10) (N := some 123) (v := ?_) (a' := ?_) #[true, true, true, true, true, true, true, true, true, false, true, false, false, false, false, false, false, false] rfl rfl (by kernel_rfl) (fun _ _ _ h => h) (Or.inl ⟨by rfl, ?_⟩) ?_ ?_
          rotate_left
          · intro w'
            go_simp
            with_reducible rfl
          rotate_left
          · simp only [Act.put, List.setIfInBounds_toArray, List.set_cons_zero, List.set_cons_succ, i64_w, i32_w]
            rfl
          refine pure_ (i := 11) (N := some 124) (v := ?_) (a' := ?_) #[true, true, true, true, true, true, true, true, true, false, true, true, false, false, false, false, false, false] rfl rfl (by kernel_rfl) (fun _ _ _ h => h) (Or.inl ⟨by rfl, ?_⟩) ?_ ?_
          rotate_left
          · intro w'
            go_simp
            with_reducible rfl
          rotate_left
          · simp only [Act.put, List.setIfInBounds_toArray, List.set_cons_zero, List.set_cons_succ, i64_w, i32_w]
            rfl
          refine pure_ (i := 12) (N := some 125) (v := ?_) (a' := ?_) #[true, true, true, true, true, true, true, true, true, false, true, true, true, false, false, false, false, false] rfl rfl (by kernel_rfl) (fun _ _ _ h => h) (Or.inl ⟨by rfl, ?_⟩) ?_ ?_
          rotate_left
          · intro w'
            go_simp
            with_reducible rfl
          rotate_left
          · simp only [Act.put, List.setIfInBounds_toArray, List.set_cons_zero, List.set_cons_succ, i64_w, i32_w]
            rfl
          refine take_ (i := 9) (N := some 122) (v := ?_) (a' := ?_) #[true, true, true, true, true, true, true, true, true, true, true, true, true, false, false, false, false, false] rfl rfl (by kernel_rfl) (fun _ _ _ h => h) (Or.inl ⟨by rfl, ?_⟩) hHeld ?_ ?_
          rotate_left
          · rintro w' ⟨s0, s1, s2, s3, s4, s5, s6, s7, s8, s9⟩
            go_simp
            with_reducible rfl
          rotate_left
          · simp only [Act.put, List.setIfInBounds_toArray, List.set_cons_zero, List.set_cons_succ, i64_w, i32_w]
            rfl
          refine take_ (i := 13) (N := some 126) (v := ?_) (a' := ?_) #[true, true, true, true, true, true, true, true, true, true, true, true, true, true, false, false, false, false] rfl rfl (by kernel_rfl) (fun _ _ _ h => h) (Or.inl ⟨by rfl, ?_⟩) hHeld ?_ ?_
          rotate_left
          · rintro w' ⟨s0, s1, s2, s3, s4, s5, s6, s7, s8, s9⟩
            go_simp
            with_reducible rfl
          rotate_left
          · simp only [Act.put, List.setIfInBounds_toArray, List.set_cons_zero, List.set_cons_succ, i64_w, i32_w]
            rfl
          refine pure_ (i := 14) (N := some 127) (v := ?_) (a' := ?_) #[true, true, true, true, true, true, true, true, true, true, true, true, true, true, true, false, false, false] rfl rfl (by kernel_rfl) (fun _ _ _ h => h) (Or.inl ⟨by rfl, ?_⟩) ?_ ?_
          rotate_left
          · intro w'
            go_simp
            with_reducible rfl
          rotate_left
          · simp only [Act.put, List.setIfInBounds_toArray, List.set_cons_zero, List.set_cons_succ, i64_w, i32_w]
            rfl
          refine last_ (i := 15) (N := none) #[true, true, true, true, true, true, true, true, true, true, true, true, true, true, true, true, false, false] rfl rfl (by kernel_rfl) (by decide) (fun K hK => ?_)
          refine skip_ (w1 := ?_) (by rfl) rfl ?_ ?_
          rotate_left
          · go_simp
            rfl
          have hRp := hHeld.2.2.2.2.2.2.2.2.1.out.put k hpn ((mvDn f m k) q)
          have hG1 := (hHeld.2.2.2.2.2.2.2.2.2.out.trans (gb_set _ g (k * 2) (.int .i64 ((mvDn f m k) q).f0))).trans (gb_set _ g (k * 2 + 1) (.int .i64 ((mvDn f m k) q).f1))
          generalize (W1.setCell ⟨g, k * 2, none⟩ (.int .i64 ((mvDn f m k) q).f0)).setCell ⟨g, k * 2 + 1, none⟩ (.int .i64 ((mvDn f m k) q).f1) = W2 at hRp hG1 ⊢
          have hz0 := hRp.at0 q hqn
          have hz1 := hRp.at1 q hqn
          have hy0 := hRp.fz (q * 2)
          have hy1 := hRp.fz (q * 2 + 1)
          have hRp := Aside0.mk hRp
          refine hK.out _ _ ?_
          clear hK K
          refine pure_ (i := 16) (N := some 128) (v := ?_) (a' := ?_) #[true, true, true, true, true, true, true, true, true, true, true, true, true, true, true, true, true, false] rfl rfl (by kernel_rfl) (fun _ _ _ h => h) (Or.inl ⟨by rfl, ?_⟩) ?_ ?_
          rotate_left
          · intro w'
            go_simp
            with_reducible rfl
          rotate_left
          · simp only [Act.put, List.setIfInBounds_toArray, List.set_cons_zero, List.set_cons_succ, i64_w, i32_w]
            rfl
          refine last_ (i := 17) (N := none) #[true, true, true, true, true, true, true, true, true, true, true, true, true, true, true, true, true, true] rfl rfl (by kernel_rfl) (by decide) (fun K hK => ?_)
          refine skip_ (w1 := ?_) (by rfl) rfl ?_ ?_
          rotate_left
          · go_simp
            rfl
          have hRp := hRp.out.put q hqn ((mvDn f m k) k)
          have hG1 := (hG1.trans (gb_set _ g (q * 2) (.int .i64 ((mvDn f m k) k).f0))).trans (gb_set _ g (q * 2 + 1) (.int .i64 ((mvDn f m k) k).f1))
          generalize (W2.setCell ⟨g, q * 2, none⟩ (.int .i64 ((mvDn f m k) k).f0)).setCell ⟨g, q * 2 + 1, none⟩ (.int .i64 ((mvDn f m k) k).f1) = W3 at hRp hG1 ⊢
          refine hK.out _ _ ?_
          clear hK K
          refine done_ (by kernel_rfl) ?_
          have hk1 : k = q + 1 := by clear hwq; have := HQ.out; omega
          have HS := Aside0.mk (SS.mk (hRp.congr (f' := mvDn f m q) (fun x hx => by rw [hk1, ← mvDn_succ f m q (by clear hwq; omega), ← hk1]; exact put2 (mvDn f m k) k q x)) hG1)
          clear hRp hG1 hz0 hz1 hy0 hy1 hHeld HR HG hwq
          have HK1 := Aside0.mk hk1
          clear hk1
          go_wp2_with fail
          clear hkq hd
          go_roundg (q - i)
          case measure => have := HQ.out; have := HKQ.out; omega
          case rel =>
            have e := HK1.out
            refine ⟨q, by omega, by omega, by omega, rfl, HS, ⟨?_⟩⟩
            rw [← mvDn_succ f m q (by omega), ← e]
            have e2 := HM.out
            exact HX.out.trans (Same.swp k q (by omega) (by omega) (by omega) (by omega) hbn)
        · obtain rfl : k = i := by omega
          have hd : decide (k < k) = false := decide_eq_false (by omega)
          clear hkq'
          go_wp2_with fail
          go_end0
          have e2 := HM.out
          refine ⟨rfl, _, HS.out, HX.out, by rw [e2]; exact Srt.mvDn H1.out hai hjm (fun x h1 h2 => HA.out x h1 h2) (fun x h1 h2 => HB.out x h1 h2)⟩
end Go.Proofs.Ytcbhnjkmjiokgaa.PPPrio
