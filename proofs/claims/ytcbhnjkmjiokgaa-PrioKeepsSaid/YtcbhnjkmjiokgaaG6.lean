/- The merge where the first stretch has one item. -/
import Derived.Test.YtcbhnjkmjiokgaaG4
import Derived.Test.YtcbhnjkmjiokgaaG5
namespace Go.Proofs.Ytcbhnjkmjiokgaa.PPPrio
open Go.RowKit Go.Proofs.YtcbhnjkmjiokgaaW.PrintWords Go.Proofs.YtcbhnjkmjiokgaaW.PrintLast Go.Proofs.YtcbhnjkmjiokgaaW.PrintMore
set_option linter.unusedVariables false
set_option linter.unusedSimpArgs false
/-- What the merge leaves. -/
def Merged (n a b : Nat) (g cap : Nat) (f : Nat → S38) (w : World) (e : Ending) (w' : World) : Prop := e = .returned (.tuple #[]) ∧ ∃ f', SS w w' g n cap f' ∧ Same n a b f f' ∧ Srt f' a b

set_option maxHeartbeats 600000 in
set_option maxRecDepth 100000 in
theorem merge_one (g n cap a m b : Nat) (f : Nat → S38) (w : World) (hn : n < 1099511627776) (hR : RowF w g n cap f) (hbn : b ≤ n) (ham : m = a + 1) (hmb : m < b) (h2 : Srt f m b) :
    Calls Try.prog 30 #[.slice (some ⟨g, 0, none⟩) n cap, .int .i64 a, .int .i64 m, .int .i64 b, cmpV] w (Merged n a b g cap f w) := by
  have HR := Aside0.mk hR
  have H2 := Aside0.mk h2
  clear hR h2
  have hu38 := Try.underlying38
  have hw0 : (m : Int) - (a : Int) = 1 := by omega
  have HM := Aside0.mk ham
  clear ham
  go_enter Try.func30, Try.ntmps30
  go_wp2_with fail
  clear hw0
  go_loopg [10, 11] (b - m) (fun kq v10 v11 w' => ∃ (i j : Nat), i + kq = j ∧ m ≤ i ∧ j ≤ b ∧ v10 = .int .i64 i ∧ v11 = .int .i64 j ∧ Aside0 (SS w w' g n cap f) ∧ Aside0 (∀ k, m ≤ k → k < i → ltI (f k) (f a) = true) ∧ Aside0 (∀ k, j ≤ k → k < b → ltI (f k) (f a) = false))
  case atStart => exact ⟨m, b, by omega, by omega, by omega, rfl, rfl, ⟨⟨HR.out, .refl _ _⟩⟩, ⟨fun k h1 h2 => by omega⟩, ⟨fun k h1 h2 => by omega⟩⟩
  case round =>
    clear HR
    obtain ⟨i, j, hk, hmi, hjb, rfl, rfl, HS, HA, HB⟩ := hrel
    by_cases hij : i < j
    · have hd : decide (i < j) = true := decide_eq_true hij
      obtain ⟨h, hh⟩ : ∃ h, h = (i + j) / 2 := ⟨_, rfl⟩
      have hhe : ((i : Int) + (j : Int)) / 2 = (h : Int) := by omega
      have hih : i ≤ h := by omega
      have hhj : h < j := by omega
      have hxn : h < n := by omega
      have hyn : a < n := by have := HM.out; omega
      clear hh
      cases hlt : ltI (f h) (f a) with
      | true =>
        have ho : decide (ordI (f h) (f a) < 0) = true := by rw [ordI_neg]; exact hlt
        have HLT := Aside0.mk hlt
        clear hlt
        go_wp2_with fail
        refine start_ (n := 11) (S := fun w' => w'.cell? ⟨g, h * 2, none⟩ = some (.int .i64 (f h).f0) ∧ w'.cell? ⟨g, h * 2 + 1, none⟩ = some (.int .i64 (f h).f1) ∧ w'.cell? ⟨g, a * 2, none⟩ = some (.int .i64 (f a).f0) ∧ w'.cell? ⟨g, a * 2 + 1, none⟩ = some (.int .i64 (f a).f1) ∧ Aside0 (SS w w' g n cap (f))) (ds := []) #[false, false, false, false, false, false, false, false, false, false, false] (by kernel_rfl) rfl rfl ⟨(HS.out.step (below_drew (Below.refl _ _))).row.at0 h hxn, (HS.out.step (below_drew (Below.refl _ _))).row.at1 h hxn, (HS.out.step (below_drew (Below.refl _ _))).row.at0 a hyn, (HS.out.step (below_drew (Below.refl _ _))).row.at1 a hyn, ⟨(HS.out.step (below_drew (Below.refl _ _)))⟩⟩ (fun hHeld => ?_)
        generalize World.drew wr = W1 at hHeld ⊢
        refine pure_ (i := 0) (N := some 40) (v := ?_) (a' := ?_) #[true, false, false, false, false, false, false, false, false, false, false] rfl rfl (by kernel_rfl) (fun _ _ _ h => h) (Or.inl ⟨by rfl, ?_⟩) ?_ ?_
        rotate_left
        · intro w'
          go_simp
          with_reducible rfl
        rotate_left
        · simp only [Act.put, List.setIfInBounds_toArray, List.set_cons_zero, List.set_cons_succ, i64_w, i32_w]
          rfl
        refine pure_ (i := 1) (N := some 41) (v := ?_) (a' := ?_) #[true, true, false, false, false, false, false, false, false, false, false] rfl rfl (by kernel_rfl) (fun _ _ _ h => h) (Or.inl ⟨by rfl, ?_⟩) ?_ ?_
        rotate_left
        · intro w'
          go_simp
          with_reducible rfl
        rotate_left
        · simp only [Act.put, List.setIfInBounds_toArray, List.set_cons_zero, List.set_cons_succ, i64_w, i32_w]
          rfl
        refine pure_ (i := 2) (N := some 42) (v := ?_) (a' := ?_) #[true, true, true, false, false, false, false, false, false, false, false] rfl rfl (by kernel_rfl) (fun _ _ _ h => h) (Or.inl ⟨by rfl, ?_⟩) ?_ ?_
        rotate_left
        · intro w'
          go_simp
          with_reducible rfl
        rotate_left
        · simp only [Act.put, List.setIfInBounds_toArray, List.set_cons_zero, List.set_cons_succ, i64_w, i32_w]
          rfl
        refine pure_ (i := 3) (N := some 43) (v := ?_) (a' := ?_) #[true, true, true, true, false, false, false, false, false, false, false] rfl rfl (by kernel_rfl) (fun _ _ _ h => h) (Or.inl ⟨by rfl, ?_⟩) ?_ ?_
        rotate_left
        · intro w'
          go_simp
          with_reducible rfl
        rotate_left
        · simp only [Act.put, List.setIfInBounds_toArray, List.set_cons_zero, List.set_cons_succ, i64_w, i32_w]
          rfl
        refine pure_ (i := 5) (N := some 45) (v := ?_) (a' := ?_) #[true, true, true, true, false, true, false, false, false, false, false] rfl rfl (by kernel_rfl) (fun _ _ _ h => h) (Or.inl ⟨by rfl, ?_⟩) ?_ ?_
        rotate_left
        · intro w'
          go_simp
          with_reducible rfl
        rotate_left
        · simp only [Act.put, List.setIfInBounds_toArray, List.set_cons_zero, List.set_cons_succ, i64_w, i32_w]
          rfl
        refine pure_ (i := 6) (N := some 46) (v := ?_) (a' := ?_) #[true, true, true, true, false, true, true, false, false, false, false] rfl rfl (by kernel_rfl) (fun _ _ _ h => h) (Or.inl ⟨by rfl, ?_⟩) ?_ ?_
        rotate_left
        · intro w'
          go_simp
          with_reducible rfl
        rotate_left
        · simp only [Act.put, List.setIfInBounds_toArray, List.set_cons_zero, List.set_cons_succ, i64_w, i32_w]
          rfl
        refine pure_ (i := 7) (N := some 47) (v := ?_) (a' := ?_) #[true, true, true, true, false, true, true, true, false, false, false] rfl rfl (by kernel_rfl) (fun _ _ _ h => h) (Or.inl ⟨by rfl, ?_⟩) ?_ ?_
        rotate_left
        · intro w'
          go_simp
          with_reducible rfl
        rotate_left
        · simp only [Act.put, List.setIfInBounds_toArray, List.set_cons_zero, List.set_cons_succ, i64_w, i32_w]
          rfl
        refine take_ (i := 4) (N := some 44) (v := ?_) (a' := ?_) #[true, true, true, true, true, true, true, true, false, false, false] rfl rfl (by kernel_rfl) (fun _ _ _ h => h) (Or.inl ⟨by rfl, ?_⟩) hHeld ?_ ?_
        rotate_left
        · rintro w' ⟨s0, s1, s2, s3, s4⟩
          go_simp
          with_reducible rfl
        rotate_left
        · simp only [Act.put, List.setIfInBounds_toArray, List.set_cons_zero, List.set_cons_succ, i64_w, i32_w]
          rfl
        refine take_ (i := 8) (N := some 48) (v := ?_) (a' := ?_) #[true, true, true, true, true, true, true, true, true, false, false] rfl rfl (by kernel_rfl) (fun _ _ _ h => h) (Or.inl ⟨by rfl, ?_⟩) hHeld ?_ ?_
        rotate_left
        · rintro w' ⟨s0, s1, s2, s3, s4⟩
          go_simp
          with_reducible rfl
        rotate_left
        · simp only [Act.put, List.setIfInBounds_toArray, List.set_cons_zero, List.set_cons_succ, i64_w, i32_w]
          rfl
        refine one_ (i := 9) (N := some 49) #[true, true, true, true, true, true, true, true, true, true, false] rfl rfl (by kernel_rfl) (by decide) (fun K hK => ?_)
        refine call_ 24 #[.agg #[.int .i64 (f h).f0, .int .i64 (f h).f1], .agg #[.int .i64 (f a).f0, .int .i64 (f a).f1]] (by rfl) rfl ?_ ?_
        · first | (go_simp; done) | (go_simp; rfl)
        with_reducible refine (order_calls (f h) (f a) _).mono ?_
        rintro e wo9 ⟨rfl, hb⟩
        refine ⟨_, rfl, ?_⟩
        have hX := hHeld.2.2.2.2.out.step hb
        refine hK.out _ _ ⟨hX.row.at0 h hxn, hX.row.at1 h hxn, hX.row.at0 a hyn, hX.row.at1 a hyn, ⟨hX⟩⟩ (fun hHeld => ?_)
        clear hK K
        refine norm_ (a' := ?_) ?_ ?_
        rotate_left
        · show Act.put _ (some 49) _ = _
          simp only [Act.put, List.setIfInBounds_toArray, List.set_cons_zero, List.set_cons_succ, i64_w, i32_w]
          rfl
        refine pure_ (i := 10) (N := some 50) (v := ?_) (a' := ?_) #[true, true, true, true, true, true, true, true, true, true, true] rfl rfl (by kernel_rfl) (fun _ _ _ h => h) (Or.inl ⟨by rfl, ?_⟩) ?_ ?_
        rotate_left
        · intro w'
          go_simp
          with_reducible rfl
        rotate_left
        · simp only [Act.put, List.setIfInBounds_toArray, List.set_cons_zero, List.set_cons_succ, i64_w, i32_w]
          rfl
        refine done_ (by kernel_rfl) ?_
        have HS := Aside0.mk hX
        clear hX hHeld hb ho
        go_wp2_with fail
        clear hhe hd
        go_roundg (j - (h + 1))
        case measure => omega
        case rel => exact ⟨h + 1, j, by omega, by omega, hjb, by go_num, rfl, HS, ⟨fun k h1 h2 => by
          by_cases e : k = h
          · rw [e]; exact HLT.out
          · by_cases e2 : k < i
            · exact HA.out k h1 e2
            · have := H2.out k h (by omega) (by omega) (by omega)
              exact le_lt_trans this HLT.out⟩, HB⟩
      | false =>
        have ho : decide (ordI (f h) (f a) < 0) = false := by rw [ordI_neg]; exact hlt
        have HLT := Aside0.mk hlt
        clear hlt
        go_wp2_with fail
        refine start_ (n := 11) (S := fun w' => w'.cell? ⟨g, h * 2, none⟩ = some (.int .i64 (f h).f0) ∧ w'.cell? ⟨g, h * 2 + 1, none⟩ = some (.int .i64 (f h).f1) ∧ w'.cell? ⟨g, a * 2, none⟩ = some (.int .i64 (f a).f0) ∧ w'.cell? ⟨g, a * 2 + 1, none⟩ = some (.int .i64 (f a).f1) ∧ Aside0 (SS w w' g n cap (f))) (ds := []) #[false, false, false, false, false, false, false, false, false, false, false] (by kernel_rfl) rfl rfl ⟨(HS.out.step (below_drew (Below.refl _ _))).row.at0 h hxn, (HS.out.step (below_drew (Below.refl _ _))).row.at1 h hxn, (HS.out.step (below_drew (Below.refl _ _))).row.at0 a hyn, (HS.out.step (below_drew (Below.refl _ _))).row.at1 a hyn, ⟨(HS.out.step (below_drew (Below.refl _ _)))⟩⟩ (fun hHeld => ?_)
        generalize World.drew wr = W1 at hHeld ⊢
        refine pure_ (i := 0) (N := some 40) (v := ?_) (a' := ?_) #[true, false, false, false, false, false, false, false, false, false, false] rfl rfl (by kernel_rfl) (fun _ _ _ h => h) (Or.inl ⟨by rfl, ?_⟩) ?_ ?_
        rotate_left
        · intro w'
          go_simp
          with_reducible rfl
        rotate_left
        · simp only [Act.put, List.setIfInBounds_toArray, List.set_cons_zero, List.set_cons_succ, i64_w, i32_w]
          rfl
        refine pure_ (i := 1) (N := some 41) (v := ?_) (a' := ?_) #[true, true, false, false, false, false, false, false, false, false, false] rfl rfl (by kernel_rfl) (fun _ _ _ h => h) (Or.inl ⟨by rfl, ?_⟩) ?_ ?_
        rotate_left
        · intro w'
          go_simp
          with_reducible rfl
        rotate_left
        · simp only [Act.put, List.setIfInBounds_toArray, List.set_cons_zero, List.set_cons_succ, i64_w, i32_w]
          rfl
        refine pure_ (i := 2) (N := some 42) (v := ?_) (a' := ?_) #[true, true, true, false, false, false, false, false, false, false, false] rfl rfl (by kernel_rfl) (fun _ _ _ h => h) (Or.inl ⟨by rfl, ?_⟩) ?_ ?_
        rotate_left
        · intro w'
          go_simp
          with_reducible rfl
        rotate_left
        · simp only [Act.put, List.setIfInBounds_toArray, List.set_cons_zero, List.set_cons_succ, i64_w, i32_w]
          rfl
        refine pure_ (i := 3) (N := some 43) (v := ?_) (a' := ?_) #[true, true, true, true, false, false, false, false, false, false, false] rfl rfl (by kernel_rfl) (fun _ _ _ h => h) (Or.inl ⟨by rfl, ?_⟩) ?_ ?_
        rotate_left
        · intro w'
          go_simp
          with_reducible rfl
        rotate_left
        · simp only [Act.put, List.setIfInBounds_toArray, List.set_cons_zero, List.set_cons_succ, i64_w, i32_w]
          rfl
        refine pure_ (i := 5) (N := some 45) (v := ?_) (a' := ?_) #[true, true, true, true, false, true, false, false, false, false, false] rfl rfl (by kernel_rfl) (fun _ _ _ h => h) (Or.inl ⟨by rfl, ?_⟩) ?_ ?_
        rotate_left
        · intro w'
          go_simp
          with_reducible rfl
        rotate_left
        · simp only [Act.put, List.setIfInBounds_toArray, List.set_cons_zero, List.set_cons_succ, i64_w, i32_w]
          rfl
        refine pure_ (i := 6) (N := some 46) (v := ?_) (a' := ?_) #[true, true, true, true, false, true, true, false, false, false, false] rfl rfl (by kernel_rfl) (fun _ _ _ h => h) (Or.inl ⟨by rfl, ?_⟩) ?_ ?_
        rotate_left
        · intro w'
          go_simp
          with_reducible rfl
        rotate_left
        · simp only [Act.put, List.setIfInBounds_toArray, List.set_cons_zero, List.set_cons_succ, i64_w, i32_w]
          rfl
        refine pure_ (i := 7) (N := some 47) (v := ?_) (a' := ?_) #[true, true, true, true, false, true, true, true, false, false, false] rfl rfl (by kernel_rfl) (fun _ _ _ h => h) (Or.inl ⟨by rfl, ?_⟩) ?_ ?_
        rotate_left
        · intro w'
          go_simp
          with_reducible rfl
        rotate_left
        · simp only [Act.put, List.setIfInBounds_toArray, List.set_cons_zero, List.set_cons_succ, i64_w, i32_w]
          rfl
        refine take_ (i := 4) (N := some 44) (v := ?_) (a' := ?_) #[true, true, true, true, true, true, true, true, false, false, false] rfl rfl (by kernel_rfl) (fun _ _ _ h => h) (Or.inl ⟨by rfl, ?_⟩) hHeld ?_ ?_
        rotate_left
        · rintro w' ⟨s0, s1, s2, s3, s4⟩
          go_simp
          with_reducible rfl
        rotate_left
        · simp only [Act.put, List.setIfInBounds_toArray, List.set_cons_zero, List.set_cons_succ, i64_w, i32_w]
          rfl
        refine take_ (i := 8) (N := some 48) (v := ?_) (a' := ?_) #[true, true, true, true, true, true, true, true, true, false, false] rfl rfl (by kernel_rfl) (fun _ _ _ h => h) (Or.inl ⟨by rfl, ?_⟩) hHeld ?_ ?_
        rotate_left
        · rintro w' ⟨s0, s1, s2, s3, s4⟩
          go_simp
          with_reducible rfl
        rotate_left
        · simp only [Act.put, List.setIfInBounds_toArray, List.set_cons_zero, List.set_cons_succ, i64_w, i32_w]
          rfl
        refine one_ (i := 9) (N := some 49) #[true, true, true, true, true, true, true, true, true, true, false] rfl rfl (by kernel_rfl) (by decide) (fun K hK => ?_)
        refine call_ 24 #[.agg #[.int .i64 (f h).f0, .int .i64 (f h).f1], .agg #[.int .i64 (f a).f0, .int .i64 (f a).f1]] (by rfl) rfl ?_ ?_
        · first | (go_simp; done) | (go_simp; rfl)
        with_reducible refine (order_calls (f h) (f a) _).mono ?_
        rintro e wo9 ⟨rfl, hb⟩
        refine ⟨_, rfl, ?_⟩
        have hX := hHeld.2.2.2.2.out.step hb
        refine hK.out _ _ ⟨hX.row.at0 h hxn, hX.row.at1 h hxn, hX.row.at0 a hyn, hX.row.at1 a hyn, ⟨hX⟩⟩ (fun hHeld => ?_)
        clear hK K
        refine norm_ (a' := ?_) ?_ ?_
        rotate_left
        · show Act.put _ (some 49) _ = _
          simp only [Act.put, List.setIfInBounds_toArray, List.set_cons_zero, List.set_cons_succ, i64_w, i32_w]
          rfl
        refine pure_ (i := 10) (N := some 50) (v := ?_) (a' := ?_) #[true, true, true, true, true, true, true, true, true, true, true] rfl rfl (by kernel_rfl) (fun _ _ _ h => h) (Or.inl ⟨by rfl, ?_⟩) ?_ ?_
        rotate_left
        · intro w'
          go_simp
          with_reducible rfl
        rotate_left
        · simp only [Act.put, List.setIfInBounds_toArray, List.set_cons_zero, List.set_cons_succ, i64_w, i32_w]
          rfl
        refine done_ (by kernel_rfl) ?_
        have HS := Aside0.mk hX
        clear hX hHeld hb ho
        go_wp2_with fail
        clear hhe hd
        go_roundg (h - i)
        case measure => omega
        case rel => exact ⟨i, h, by omega, by omega, by omega, rfl, rfl, HS, HA, ⟨fun k h1 h2 => by
          by_cases e : k = h
          · rw [e]; exact HLT.out
          · by_cases e2 : j ≤ k
            · exact HB.out k e2 h2
            · have := H2.out h k (by omega) (by omega) (by omega)
              exact le_trans' HLT.out this⟩⟩
    · obtain rfl : i = j := by omega
      have hd : decide (i < i) = false := decide_eq_false (by omega)
      go_wp2_with fail
      obtain ⟨p, hp⟩ : ∃ p, p = i - 1 := ⟨_, rfl⟩
      have hpi : (i : Int) - 1 = (p : Int) := by have := HM.out; omega
      obtain ⟨wo, rfl⟩ : ∃ wo : World, wo = wr := ⟨_, rfl⟩
      have HP := Aside0.mk hp
      clear hp hd
      go_loopg [13] (p - a) (fun kq v13 w' => ∃ k : Nat, a ≤ k ∧ k + kq = p ∧ v13 = .int .i64 k ∧ Aside0 (SS w w' g n cap (mvUp f a k)) ∧ Aside0 (Same n a b f (mvUp f a k)))
      case atStart => exact ⟨a, by omega, by have := HP.out; have := HM.out; omega, rfl, ⟨by rw [mvUp_zero]; exact HS.out⟩, ⟨by rw [mvUp_zero]; exact .refl _ _ _ _⟩⟩
      case round =>
        clear HS
        obtain ⟨k, hak, hkp, rfl, HS, HX⟩ := hrel
        have hpb : p < b := by have := HP.out; omega
        by_cases hlt : k < p
        · have hd : decide (k < p) = true := decide_eq_true hlt
          obtain ⟨q, hq⟩ : ∃ q, q = k + 1 := ⟨_, rfl⟩
          have hkq : (k : Int) + 1 = (q : Int) := by omega
          have hpn : k < n := by omega
          have hqn : q < n := by omega
          have HQ := Aside0.mk hq
          clear hq
          go_wp2_with fail
          have hwq : wrap64 (q : Int) = (q : Int) := by unfold wrap64; omega
          have HR := Aside0.mk HS.out.row
          have HG := Aside0.mk HS.out.gr
          refine start_ (n := 18) (S := fun w' => w'.cell? ⟨g, k * 2, none⟩ = some (.int .i64 ((mvUp f a k) k).f0) ∧ w'.cell? ⟨g, k * 2 + 1, none⟩ = some (.int .i64 ((mvUp f a k) k).f1) ∧ w'.frozen? ⟨g, k * 2, none⟩ = false ∧ w'.frozen? ⟨g, k * 2 + 1, none⟩ = false ∧ w'.cell? ⟨g, q * 2, none⟩ = some (.int .i64 ((mvUp f a k) q).f0) ∧ w'.cell? ⟨g, q * 2 + 1, none⟩ = some (.int .i64 ((mvUp f a k) q).f1) ∧ w'.frozen? ⟨g, q * 2, none⟩ = false ∧ w'.frozen? ⟨g, q * 2 + 1, none⟩ = false ∧ Aside0 (RowF w' g n cap ((mvUp f a k))) ∧ Aside0 (w.grownBy w' (some g))) (ds := [15, 17]) #[false, false, false, false, false, false, false, false, false, false, false, false, false, false, false, false, false, false] (by kernel_rfl) rfl rfl ⟨(HR.out.below (below_drew (Below.refl _ _))).at0 k hpn, (HR.out.below (below_drew (Below.refl _ _))).at1 k hpn, (HR.out.below (below_drew (Below.refl _ _))).fz (k * 2), (HR.out.below (below_drew (Below.refl _ _))).fz (k * 2 + 1), (HR.out.below (below_drew (Below.refl _ _))).at0 q hqn, (HR.out.below (below_drew (Below.refl _ _))).at1 q hqn, (HR.out.below (below_drew (Below.refl _ _))).fz (q * 2), (HR.out.below (below_drew (Below.refl _ _))).fz (q * 2 + 1), ⟨(HR.out.below (below_drew (Below.refl _ _)))⟩, ⟨(HG.out.trans (gb_drew _ _))⟩⟩ (fun hHeld => ?_)
          generalize World.drew wr = W1 at hHeld ⊢
          refine pure_ (i := 0) (N := some 61) (v := ?_) (a' := ?_) #[true, false, false, false, false, false, false, false, false, false, false, false, false, false, false, false, false, false] rfl rfl (by kernel_rfl) (fun _ _ _ h => h) (Or.inl ⟨by rfl, ?_⟩) ?_ ?_
          rotate_left
          · intro w'
            go_simp
            with_reducible rfl
          rotate_left
          · simp only [Act.put, List.setIfInBounds_toArray, List.set_cons_zero, List.set_cons_succ, i64_w, i32_w]
            rfl
          refine pure_ (i := 1) (N := some 62) (v := ?_) (a' := ?_) #[true, true, false, false, false, false, false, false, false, false, false, false, false, false, false, false, false, false] rfl rfl (by kernel_rfl) (fun _ _ _ h => h) (Or.inl ⟨by rfl, ?_⟩) ?_ ?_
          rotate_left
          · intro w'
            go_simp
            with_reducible rfl
          rotate_left
          · simp only [Act.put, List.setIfInBounds_toArray, List.set_cons_zero, List.set_cons_succ, i64_w, i32_w]
            rfl
          refine pure_ (i := 2) (N := some 63) (v := ?_) (a' := ?_) #[true, true, true, false, false, false, false, false, false, false, false, false, false, false, false, false, false, false] rfl rfl (by kernel_rfl) (fun _ _ _ h => h) (Or.inl ⟨by rfl, ?_⟩) ?_ ?_
          rotate_left
          · intro w'
            go_simp
            with_reducible rfl
          rotate_left
          · simp only [Act.put, List.setIfInBounds_toArray, List.set_cons_zero, List.set_cons_succ, i64_w, i32_w]
            rfl
          refine pure_ (i := 3) (N := some 64) (v := ?_) (a' := ?_) #[true, true, true, true, false, false, false, false, false, false, false, false, false, false, false, false, false, false] rfl rfl (by kernel_rfl) (fun _ _ _ h => h) (Or.inl ⟨by rfl, ?_⟩) ?_ ?_
          rotate_left
          · intro w'
            go_simp
            with_reducible rfl
          rotate_left
          · simp only [Act.put, List.setIfInBounds_toArray, List.set_cons_zero, List.set_cons_succ, i64_w, i32_w]
            rfl
          refine pure_ (i := 4) (N := some 65) (v := ?_) (a' := ?_) #[true, true, true, true, true, false, false, false, false, false, false, false, false, false, false, false, false, false] rfl rfl (by kernel_rfl) (fun _ _ _ h => h) (Or.inl ⟨by rfl, ?_⟩) ?_ ?_
          rotate_left
          · intro w'
            go_simp
            with_reducible rfl
          rotate_left
          · simp only [Act.put, List.setIfInBounds_toArray, List.set_cons_zero, List.set_cons_succ, i64_w, i32_w]
            rfl
          refine pure_ (i := 5) (N := some 66) (v := ?_) (a' := ?_) #[true, true, true, true, true, true, false, false, false, false, false, false, false, false, false, false, false, false] rfl rfl (by kernel_rfl) (fun _ _ _ h => h) (Or.inl ⟨by rfl, ?_⟩) ?_ ?_
          rotate_left
          · intro w'
            go_simp
            with_reducible rfl
          rotate_left
          · simp only [Act.put, List.setIfInBounds_toArray, List.set_cons_zero, List.set_cons_succ, i64_w, i32_w]
            rfl
          refine pure_ (i := 6) (N := some 67) (v := ?_) (a' := ?_) #[true, true, true, true, true, true, true, false, false, false, false, false, false, false, false, false, false, false] rfl rfl (by kernel_rfl) (fun _ _ _ h => h) (Or.inl ⟨by rfl, ?_⟩) ?_ ?_
          rotate_left
          · intro w'
            go_simp
            with_reducible rfl
          rotate_left
          · simp only [Act.put, List.setIfInBounds_toArray, List.set_cons_zero, List.set_cons_succ, i64_w, i32_w]
            rfl
          refine pure_ (i := 7) (N := some 68) (v := ?_) (a' := ?_) #[true, true, true, true, true, true, true, true, false, false, false, false, false, false, false, false, false, false] rfl rfl (by kernel_rfl) (fun _ _ _ h => h) (Or.inl ⟨by rfl, ?_⟩) ?_ ?_
          rotate_left
          · intro w'
            go_simp
            with_reducible rfl
          rotate_left
          · simp only [Act.put, List.setIfInBounds_toArray, List.set_cons_zero, List.set_cons_succ, i64_w, i32_w]
            rfl
          refine pure_ (i := 8) (N := some 69) (v := ?_) (a' := ?_) #[true, true, true, true, true, true, true, true, true, false, false, false, false, false, false, false, false, false] rfl rfl (by kernel_rfl) (fun _ _ _ h => h) (Or.inl ⟨by rfl, ?_⟩) ?_ ?_
          rotate_left
          · intro w'
            go_simp
            with_reducible rfl
          rotate_left
          · simp only [Act.put, List.setIfInBounds_toArray, List.set_cons_zero, List.set_cons_succ, i64_w, i32_w]
            rfl
          refine pure_ (i := 10) (N := some 71) (v := ?_) (a' := ?_) #[true, true, true, true, true, true, true, true, true, false, true, false, false, false, false, false, false, false] rfl rfl (by kernel_rfl) (fun _ _ _ h => h) (Or.inl ⟨by rfl, ?_⟩) ?_ ?_
          rotate_left
          · intro w'
            go_simp
            with_reducible rfl
          rotate_left
          · simp only [Act.put, List.setIfInBounds_toArray, List.set_cons_zero, List.set_cons_succ, i64_w, i32_w]
            rfl
          refine pure_ (i := 11) (N := some 72) (v := ?_) (a' := ?_) #[true, true, true, true, true, true, true, true, true, false, true, true, false, false, false, false, false, false] rfl rfl (by kernel_rfl) (fun _ _ _ h => h) (Or.inl ⟨by rfl, ?_⟩) ?_ ?_
          rotate_left
          · intro w'
            go_simp
            with_reducible rfl
          rotate_left
          · simp only [Act.put, List.setIfInBounds_toArray, List.set_cons_zero, List.set_cons_succ, i64_w, i32_w]
            rfl
          refine pure_ (i := 12) (N := some 73) (v := ?_) (a' := ?_) #[true, true, true, true, true, true, true, true, true, false, true, true, true, false, false, false, false, false] rfl rfl (by kernel_rfl) (fun _ _ _ h => h) (Or.inl ⟨by rfl, ?_⟩) ?_ ?_
          rotate_left
          · intro w'
            go_simp
            with_reducible rfl
          rotate_left
          · simp only [Act.put, List.setIfInBounds_toArray, List.set_cons_zero, List.set_cons_succ, i64_w, i32_w]
            rfl
          refine take_ (i := 9) (N := some 70) (v := ?_) (a' := ?_) #[true, true, true, true, true, true, true, true, true, true, true, true, true, false, false, false, false, false] rfl rfl (by kernel_rfl) (fun _ _ _ h => h) (Or.inl ⟨by rfl, ?_⟩) hHeld ?_ ?_
          rotate_left
          · rintro w' ⟨s0, s1, s2, s3, s4, s5, s6, s7, s8, s9⟩
            go_simp
            with_reducible rfl
          rotate_left
          · simp only [Act.put, List.setIfInBounds_toArray, List.set_cons_zero, List.set_cons_succ, i64_w, i32_w]
            rfl
          refine take_ (i := 13) (N := some 74) (v := ?_) (a' := ?_) #[true, true, true, true, true, true, true, true, true, true, true, true, true, true, false, false, false, false] rfl rfl (by kernel_rfl) (fun _ _ _ h => h) (Or.inl ⟨by rfl, ?_⟩) hHeld ?_ ?_
          rotate_left
          · rintro w' ⟨s0, s1, s2, s3, s4, s5, s6, s7, s8, s9⟩
            go_simp
            with_reducible rfl
          rotate_left
          · simp only [Act.put, List.setIfInBounds_toArray, List.set_cons_zero, List.set_cons_succ, i64_w, i32_w]
            rfl
          refine pure_ (i := 14) (N := some 75) (v := ?_) (a' := ?_) #[true, true, true, true, true, true, true, true, true, true, true, true, true, true, true, false, false, false] rfl rfl (by kernel_rfl) (fun _ _ _ h => h) (Or.inl ⟨by rfl, ?_⟩) ?_ ?_
          rotate_left
          · intro w'
            go_simp
            with_reducible rfl
          rotate_left
          · simp only [Act.put, List.setIfInBounds_toArray, List.set_cons_zero, List.set_cons_succ, i64_w, i32_w]
            rfl
          refine last_ (i := 15) (N := none) #[true, true, true, true, true, true, true, true, true, true, true, true, true, true, true, true, false, false] rfl rfl (by kernel_rfl) (by decide) (fun K hK => ?_)
          refine skip_ (w1 := ?_) (by rfl) rfl ?_ ?_
          rotate_left
          · go_simp
            rfl
          have hRp := hHeld.2.2.2.2.2.2.2.2.1.out.put k hpn ((mvUp f a k) q)
          have hG1 := (hHeld.2.2.2.2.2.2.2.2.2.out.trans (gb_set _ g (k * 2) (.int .i64 ((mvUp f a k) q).f0))).trans (gb_set _ g (k * 2 + 1) (.int .i64 ((mvUp f a k) q).f1))
          generalize (W1.setCell ⟨g, k * 2, none⟩ (.int .i64 ((mvUp f a k) q).f0)).setCell ⟨g, k * 2 + 1, none⟩ (.int .i64 ((mvUp f a k) q).f1) = W2 at hRp hG1 ⊢
          have hz0 := hRp.at0 q hqn
          have hz1 := hRp.at1 q hqn
          have hy0 := hRp.fz (q * 2)
          have hy1 := hRp.fz (q * 2 + 1)
          have hRp := Aside0.mk hRp
          refine hK.out _ _ ?_
          clear hK K
          refine pure_ (i := 16) (N := some 76) (v := ?_) (a' := ?_) #[true, true, true, true, true, true, true, true, true, true, true, true, true, true, true, true, true, false] rfl rfl (by kernel_rfl) (fun _ _ _ h => h) (Or.inl ⟨by rfl, ?_⟩) ?_ ?_
          rotate_left
          · intro w'
            go_simp
            with_reducible rfl
          rotate_left
          · simp only [Act.put, List.setIfInBounds_toArray, List.set_cons_zero, List.set_cons_succ, i64_w, i32_w]
            rfl
          refine last_ (i := 17) (N := none) #[true, true, true, true, true, true, true, true, true, true, true, true, true, true, true, true, true, true] rfl rfl (by kernel_rfl) (by decide) (fun K hK => ?_)
          refine skip_ (w1 := ?_) (by rfl) rfl ?_ ?_
          rotate_left
          · go_simp
            rfl
          have hRp := hRp.out.put q hqn ((mvUp f a k) k)
          have hG1 := (hG1.trans (gb_set _ g (q * 2) (.int .i64 ((mvUp f a k) k).f0))).trans (gb_set _ g (q * 2 + 1) (.int .i64 ((mvUp f a k) k).f1))
          generalize (W2.setCell ⟨g, q * 2, none⟩ (.int .i64 ((mvUp f a k) k).f0)).setCell ⟨g, q * 2 + 1, none⟩ (.int .i64 ((mvUp f a k) k).f1) = W3 at hRp hG1 ⊢
          refine hK.out _ _ ?_
          clear hK K
          refine done_ (by kernel_rfl) ?_
          have HS := Aside0.mk (SS.mk (hRp.congr (f' := mvUp f a q) (fun x hx => by rw [HQ.out, ← mvUp_succ f a k hak, ← HQ.out]; exact put2 (mvUp f a k) k q x)) hG1)
          clear hRp hG1 hz0 hz1 hy0 hy1 hHeld HR HG hwq
          go_wp2_with fail
          clear hkq hd
          go_roundg (p - q)
          case measure => have := HQ.out; omega
          case rel =>
            have e := HQ.out
            refine ⟨q, by omega, by omega, rfl, HS, ⟨?_⟩⟩
            rw [e, ← mvUp_succ f a k hak]
            exact HX.out.trans (Same.swp k (k + 1) (by omega) (by omega) (by omega) (by omega) hbn)
        · obtain rfl : k = p := by omega
          have hd : decide (k < k) = false := decide_eq_false (by omega)
          go_wp2_with fail
          go_end0
          have e1 := HP.out
          have e2 := HM.out
          refine ⟨rfl, _, HS.out, HX.out, Srt.mvUp (by rw [← e2]; exact H2.out) hak hpb (fun x h1 h2 => HA.out x (by omega) (by omega)) (fun x h1 h2 => HB.out x (by omega) h2)⟩
end Go.Proofs.Ytcbhnjkmjiokgaa.PPPrio
