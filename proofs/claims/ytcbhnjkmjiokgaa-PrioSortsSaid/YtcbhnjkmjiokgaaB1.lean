/- The contract of the reference's Sort: the outer loop by hand, the inner one and the last region as the kit's print has them (gen_refsort.py). -/
import Derived.Test.YtcbhnjkmjiokgaaB0
namespace Go.Proofs.Ytcbhnjkmjiokgaa.PPPrio
open Go.RowKit Go.Proofs.YtcbhnjkmjiokgaaW.PrintWords Go.Proofs.YtcbhnjkmjiokgaaW.PrintLast Go.Proofs.YtcbhnjkmjiokgaaW.PrintMore
attribute [local go_sem] max2_int min2_int max_two min_two max_three min_three max_four min_four   -- for this text's walks alone
set_option linter.unusedVariables false
set_option linter.unusedSimpArgs false

def berthingref13_Sort.T6 : Bool × List (List Nat × List Nat) := (true, [([], []), ([0], [0]), ([1], [1]), ([2], [2]), ([2], [2]), ([3, 4, 2], [2, 3, 4]), ([5, 2], [2, 5]), ([2], [2]), ([2], [2]), ([8, 2], [2, 8]), ([7, 9, 2], [2, 7, 9]), ([10, 2], [2, 10]), ([6, 11, 2, 2], [2, 6, 11]), ([2, 12], [2, 12])])
def berthingref13_Sort.B6 : List Nat := [0, 1, 3, 7, 7, 31, 63, 7, 7, 263, 903, 1927, 4095, 8191]
theorem berthingref13_Sort.tab6 : rtab .any (opsOf Try.f14 6) = berthingref13_Sort.T6 := by kernel_rfl
theorem berthingref13_Sort.bits6 : waitsOk berthingref13_Sort.T6.2 berthingref13_Sort.B6 = true := by kernel_rfl
def berthingref13_Sort.T8 : Bool × List (List Nat × List Nat) := (true, [([], []), ([], []), ([], []), ([1, 2], [1, 2]), ([0, 3], [0, 3]), ([], []), ([], []), ([5, 6], [5, 6]), ([7], [7]), ([8], [8]), ([4, 9, 4], [4, 9]), ([], []), ([], []), ([11, 12], [11, 12]), ([10, 13, 10], [10, 13]), ([14, 14, 0, 1, 2, 3, 4, 5, 6, 7, 8, 9, 10, 11, 12, 13, 14], [1, 11, 14])])
def berthingref13_Sort.B8 : List Nat := [0, 0, 0, 6, 15, 0, 0, 96, 224, 480, 1023, 0, 0, 6144, 16383, 32767]
theorem berthingref13_Sort.tab8 : rtab .any (opsOf Try.f14 8) = berthingref13_Sort.T8 := by kernel_rfl
theorem berthingref13_Sort.bits8 : waitsOk berthingref13_Sort.T8.2 berthingref13_Sort.B8 = true := by kernel_rfl
set_option maxHeartbeats 8000000 in
set_option maxRecDepth 100000 in
theorem berthingref13_Sort.calls (A0 : Option Addr) (c0 : Nat) (l0 : List (S39)) (r : List (S39)) (w : World) (hr0 : Kd.C k39 w A0 l0.length l0) (hc0 : l0.length ≤ c0) (h : berthingref13_Sort.f l0 = some r) :
    Calls Try.prog 14 #[.slice A0 l0.length c0] w fun e w' => ∃ v0_ : Value, e = .returned (v0_) ∧ Kd.R k39 39 w' w.heap.size (fun _ => True) v0_ r ∧ Below w.heap.size w w' := by
  have hn : l0.length < 1099511627776 := by
    unfold berthingref13_Sort.f at h
    by_cases e : l0.length < 1099511627776
    · exact e
    · rw [if_neg e] at h; cases h
  have hr : refN l0 l0.length = r := by unfold berthingref13_Sort.f at h; rw [if_pos hn] at h; exact Option.some.inj h
  have hu39 := Try.underlying39
  have HRo := Aside0.mk hr0
  have HC0 := Aside0.mk hc0
  have HLEN := Aside0.mk hn
  have HS := Aside0.mk hr
  clear hr0 hc0 hn hr h
  have HB := Aside0.mk (Below.refl w.heap.size w)
  go_enter Try.func14, Try.ntmps14
  go_wp2
  go_loopg [3, 4] l0.length (fun kq v3 v4 w' => ∃ (a4 : Int) (l3 : List (S39)), v4 = .int .i64 a4 ∧ Aside0 (0 ≤ a4 ∧ (kq : Int) + a4 = (l0.length : Int)) ∧ Aside0 (l3 = refN l0 a4.toNat) ∧ Aside0 (Kd.R k39 39 w' w.heap.size (fun _ => True) v3 l3) ∧ Aside0 (Below w.heap.size w w'))
  case atStart => exact ⟨0, [], rfl, ⟨by omega⟩, ⟨rfl⟩, ⟨Kd.R_nil _ _ _ _ _⟩, ⟨HB.out⟩⟩
  case round =>
    clear HB
    obtain ⟨a4, l3, rfl, HI, HL, HOo, HBo⟩ := hrel
    obtain ⟨wi, rfl⟩ : ∃ x, x = wr := ⟨_, rfl⟩
    obtain ⟨go, rfl⟩ : ∃ x, x = gk := ⟨_, rfl⟩
    obtain ⟨A3, c3, e3⟩ := Kd.R_slice HOo.out
    subst e3
    have HR0 := Aside0.mk (Kd.C_below HRo.out HBo.out)
    have HR3 := Aside0.mk (Kd.R_reads' HOo.out).2.2
    have HC3 := Aside0.mk (Kd.R_reads' HOo.out).2.1
    by_cases c5 : a4 < (l0.length : Int)
    · have c5b0 : decide (a4 < (l0.length : Int)) = true := decide_eq_true c5
      obtain ⟨go1, rfl⟩ : ∃ x, go = x + 1 := ⟨go - 1, by have := HI.out; omega⟩
      have hlen3 : l3.length < 1099511627776 := by have h1 := HI.out; have h2 := HLEN.out; rw [HL.out, refN_len]; omega
      obtain ⟨r5, hr5⟩ : ∃ x : Int, x = ((posR (rd_T39 l0 a4) l3 l3.length : Nat) : Int) := ⟨_, rfl⟩
      obtain ⟨r8, hr8⟩ : ∃ x, x = putR (rd_T39 l0 a4) l3 := ⟨_, rfl⟩
      obtain ⟨k, hk⟩ : ∃ x, x = l3.length + 1 := ⟨_, rfl⟩
      have H' : Aside0 (berthingref13_pos.l0 k l0 l3 a4 (l3.length : Int) = some r5) := ⟨by rw [hk, hr5]; exact pos_is l0 l3 a4 HI.out.1 c5 hlen3 _ (Nat.le_refl _)⟩
      have HCH : Aside0 (berthingref13_chain.f l0 l3 a4 r5 = some r8) := ⟨by rw [hr5, hr8]; exact chain_is l0 l3 a4 HI.out.1 c5 hlen3⟩
      have HR8 : Aside0 (r8 = refN l0 (a4.toNat + 1)) := ⟨by rw [hr8, refN, ← HL.out]; rfl⟩
      clear hr5 hr8 hk hlen3 c5 HL
      have HB := Aside0.mk (Below.refl wi.heap.size wi)
      go_wp2
      go_loopg [5] k (fun kq v5 w' => ∃ (x5_1 : Int), v5 = .int .i64 x5_1 ∧ Aside0 (berthingref13_pos.l0 kq l0 l3 a4 x5_1 = some r5) ∧ Aside0 (kq ≤ k) ∧ Aside0 (Below wi.heap.size wi w'))
      case atStart => exact ⟨((l3.length : Int)), (by first | rfl | (simp; done) | (simp [*]; done)), H', ⟨Nat.le_refl _⟩, ⟨by repeat (first | (with_reducible first | exact HB.out | apply below_alloc | apply pw_below_drewN | apply below_drew1) | exact HB.out)⟩⟩
      case round =>
        clear H'
        try clear c1
        try clear c2
        try clear p2
        try clear c3
        obtain ⟨x5_1, rfl, HA, HK1, HB⟩ := hrel
        cases gk with
        | zero => exact absurd HA.out (by simp [berthingref13_pos.l0])
        | succ k1 =>
          have H := HA.out
          clear HA
          simp only [berthingref13_pos.l0] at H
          by_cases c6 : x5_1 > 0
          · rw [if_pos c6] at H
            have c6b0 : decide (0 < x5_1) = true := decide_eq_true c6
            clear c6
            by_cases c7 : 0 ≤ a4
            · rw [if_pos c7] at H
              have c7b0 : decide (0 ≤ a4) = true := decide_eq_true c7
              clear c7
              by_cases c8 : a4 < (l0.length : Int)
              · rw [if_pos c8] at H
                have c8b0 : decide (a4 < (l0.length : Int)) = true := decide_eq_true c8
                clear c8
                obtain ⟨ji9, hji9⟩ : ∃ j_ : Int, (wrap64 (x5_1 - 1)) = j_ := ⟨_, rfl⟩
                replace H : (if 0 ≤ (ji9) then (if (ji9) < (l3.length : Int) then ((berthingref13_Less.f ((rd_T39 l0 a4).f0) ((rd_T39 l0 a4).f1) ((rd_T39 l3 (ji9)).f0) ((rd_T39 l3 (ji9)).f1)).bind fun t144 => (if t144 = true then (berthingref13_pos.l0 k1 l0 l3 a4 ji9) else (some x5_1))) else (none)) else (none)) = some r5 := by first | (rw [hji9] at H; exact H) | (simp only [hji9] at H ⊢; exact H)
                have hji9w : (IntKind.i64.wrap (x5_1 - 1)) = ji9 := (i64_w _).trans hji9
                by_cases c10 : 0 ≤ (ji9)
                · rw [if_pos c10] at H
                  have c10b0 : decide (0 ≤ (ji9)) = true := decide_eq_true c10
                  clear c10
                  by_cases c11 : (ji9) < (l3.length : Int)
                  · rw [if_pos c11] at H
                    have c11b0 : decide ((ji9) < (l3.length : Int)) = true := decide_eq_true c11
                    clear c11
                    replace H := Option.bind_eq_some_iff.mp H
                    obtain ⟨t144, A120, H⟩ := H
                    replace H : (if t144 = true then (berthingref13_pos.l0 k1 l0 l3 a4 ji9) else (some x5_1)) = some r5 := H
                    have A12 := Aside0.mk A120
                    clear A120
                    by_cases c13 : t144 = true
                    · subst c13
                      have H1 : (berthingref13_pos.l0 k1 l0 l3 a4 ji9) = some r5 := by rw [if_pos rfl] at H; exact H
                      clear H
                      have H := H1
                      clear H1
                      have H' := Aside0.mk H
                      clear H
                      try go_wp2
                      have n0_ := Aside0.mk (below_drew1 HB.out)
                      clear HB
                      have HB := n0_
                      clear n0_
                      have p142 : 0 ≤ (a4 : Int) := of_decide_eq_true (by first | (with_reducible assumption) | assumption)
                      have q142 : a4 < (l0.length : Int) := of_decide_eq_true (by first | (with_reducible assumption) | assumption)
                      obtain ⟨ad142, e142, hx142_0, hx142_1⟩ := at_T39 HR0.out a4 p142 q142
                      have hw142_1 := hx142_1
                      have hw142_0 := hx142_0
                      cases e142
                      replace hx142_0 := (HB.out.cell (World.block_lt_of_cell? wi _ hx142_0)).trans hx142_0
                      replace hx142_1 := (HB.out.cell (World.block_lt_of_cell? wi _ hx142_1)).trans hx142_1
                      replace p142 := eq_true p142
                      replace q142 := eq_true q142
                      have p143 : 0 ≤ ((ji9) : Int) := of_decide_eq_true (by first | (with_reducible assumption) | assumption)
                      have q143 : (ji9) < (l3.length : Int) := of_decide_eq_true (by first | (with_reducible assumption) | assumption)
                      obtain ⟨ad143, e143, hx143_0, hx143_1⟩ := at_T39 HR3.out (ji9) p143 q143
                      have hw143_1 := hx143_1
                      have hw143_0 := hx143_0
                      cases e143
                      replace hx143_0 := (HB.out.cell (World.block_lt_of_cell? wi _ hx143_0)).trans hx143_0
                      replace hx143_1 := (HB.out.cell (World.block_lt_of_cell? wi _ hx143_1)).trans hx143_1
                      replace p143 := eq_true p143
                      replace q143 := eq_true q143
                      refine start_ (n := 14) (S := fun w' => w'.cell? (ad142.add ((a4).toNat * 2)) = some (.int .i64 ((rd_T39 l0 a4).f0)) ∧ w'.cell? ⟨(ad142.add ((a4).toNat * 2)).block, (ad142.add ((a4).toNat * 2)).off + 1, none⟩ = some (.int .i64 ((rd_T39 l0 a4).f1)) ∧ w'.cell? (ad143.add (((ji9)).toNat * 2)) = some (.int .i64 ((rd_T39 l3 (ji9)).f0)) ∧ w'.cell? ⟨(ad143.add (((ji9)).toNat * 2)).block, (ad143.add (((ji9)).toNat * 2)).off + 1, none⟩ = some (.int .i64 ((rd_T39 l3 (ji9)).f1))) (ds := []) #[false, false, false, false, false, false, false, false, false, false, false, false, false, false] (by kernel_rfl) rfl rfl ⟨((HB.out.cell (World.block_lt_of_cell? wi _ hw142_0)).trans hw142_0), ((HB.out.cell (World.block_lt_of_cell? wi _ hw142_1)).trans hw142_1), ((HB.out.cell (World.block_lt_of_cell? wi _ hw143_0)).trans hw143_0), ((HB.out.cell (World.block_lt_of_cell? wi _ hw143_1)).trans hw143_1)⟩ (fun hHeld => ?_); refine with_tabW berthingref13_Sort.tab6 berthingref13_Sort.bits6 (fun HT_ HW_ => ?_)
                      generalize wr.drew = w14 at HB hx142_0 hx142_1 hx143_0 hx143_1 hHeld ⊢
                      refine pure_ (i := 0) (N := some 14) (v := ?_) (a' := ?_) #[true, false, false, false, false, false, false, false, false, false, false, false, false, false] rfl rfl (any_of HT_.out (by kernel_rfl)) (fun _ _ _ h => h) (Or.inl ⟨by rfl, ?_⟩) ?_ ?_
                      rotate_left
                      · intro w'
                        go_simp
                        with_reducible rfl
                      rotate_left
                      · simp only [Act.put, List.setIfInBounds_toArray, List.set_cons_zero, List.set_cons_succ, i64_w, i32_w]
                        rfl
                      refine pure_ (i := 1) (N := some 15) (v := ?_) (a' := ?_) #[true, true, false, false, false, false, false, false, false, false, false, false, false, false] rfl rfl (any_of HT_.out (by kernel_rfl)) (fun _ _ _ h => h) (Or.inl ⟨by rfl, ?_⟩) ?_ ?_
                      rotate_left
                      · intro w'
                        go_simp
                        with_reducible rfl
                      rotate_left
                      · simp only [Act.put, List.setIfInBounds_toArray, List.set_cons_zero, List.set_cons_succ, i64_w, i32_w]
                        rfl
                      refine pure_ (i := 2) (N := some 16) (v := ?_) (a' := ?_) #[true, true, true, false, false, false, false, false, false, false, false, false, false, false] rfl rfl (any_of HT_.out (by kernel_rfl)) (fun _ _ _ h => h) (Or.inl ⟨by rfl, ?_⟩) ?_ ?_
                      rotate_left
                      · intro w'
                        go_simp
                        with_reducible rfl
                      rotate_left
                      · simp only [Act.put, List.setIfInBounds_toArray, List.set_cons_zero, List.set_cons_succ, i64_w, i32_w]
                        rfl
                      refine pure_ (i := 3) (N := some 17) (v := ?_) (a' := ?_) #[true, true, true, true, false, false, false, false, false, false, false, false, false, false] rfl rfl (any_of HT_.out (by kernel_rfl)) (fun _ _ _ h => h) (Or.inl ⟨by rfl, ?_⟩) ?_ ?_
                      rotate_left
                      · intro w'
                        go_simp
                        with_reducible rfl
                      rotate_left
                      · simp only [Act.put, List.setIfInBounds_toArray, List.set_cons_zero, List.set_cons_succ, i64_w, i32_w]
                        rfl
                      refine pure_ (i := 4) (N := some 18) (v := ?_) (a' := ?_) #[true, true, true, true, true, false, false, false, false, false, false, false, false, false] rfl rfl (any_of HT_.out (by kernel_rfl)) (fun _ _ _ h => h) (Or.inl ⟨by rfl, ?_⟩) ?_ ?_
                      rotate_left
                      · intro w'
                        go_simp
                        with_reducible rfl
                      rotate_left
                      · simp only [Act.put, List.setIfInBounds_toArray, List.set_cons_zero, List.set_cons_succ, i64_w, i32_w]
                        rfl
                      refine pure_ (i := 5) (N := some 19) (v := ?_) (a' := ?_) #[true, true, true, true, true, true, false, false, false, false, false, false, false, false] rfl rfl (any_of HT_.out (by kernel_rfl)) (fun _ _ _ h => h) (Or.inl ⟨by rfl, ?_⟩) ?_ ?_
                      rotate_left
                      · intro w'
                        go_simp
                        with_reducible rfl
                      rotate_left
                      · simp only [Act.put, List.setIfInBounds_toArray, List.set_cons_zero, List.set_cons_succ, i64_w, i32_w]
                        rfl
                      refine pure_ (i := 7) (N := some 21) (v := ?_) (a' := ?_) #[true, true, true, true, true, true, false, true, false, false, false, false, false, false] rfl rfl (any_of HT_.out (by kernel_rfl)) (fun _ _ _ h => h) (Or.inl ⟨by rfl, ?_⟩) ?_ ?_
                      rotate_left
                      · intro w'
                        go_simp
                        with_reducible rfl
                      rotate_left
                      · simp only [Act.put, List.setIfInBounds_toArray, List.set_cons_zero, List.set_cons_succ, i64_w, i32_w]
                        rfl
                      refine pure_ (i := 8) (N := some 22) (v := ?_) (a' := ?_) #[true, true, true, true, true, true, false, true, true, false, false, false, false, false] rfl rfl (any_of HT_.out (by kernel_rfl)) (fun _ _ _ h => h) (Or.inl ⟨by rfl, ?_⟩) ?_ ?_
                      rotate_left
                      · intro w'
                        go_simp
                        with_reducible rfl
                      rotate_left
                      · simp only [Act.put, List.setIfInBounds_toArray, List.set_cons_zero, List.set_cons_succ, i64_w, i32_w]
                        rfl
                      refine pure_ (i := 9) (N := some 23) (v := ?_) (a' := ?_) #[true, true, true, true, true, true, false, true, true, true, false, false, false, false] rfl rfl (any_of HT_.out (by kernel_rfl)) (fun _ _ _ h => h) (Or.inl ⟨by rfl, ?_⟩) ?_ ?_
                      rotate_left
                      · intro w'
                        go_simp
                        with_reducible rfl
                      rotate_left
                      · simp only [Act.put, List.setIfInBounds_toArray, List.set_cons_zero, List.set_cons_succ, i64_w, i32_w]
                        rfl
                      refine pure_ (i := 10) (N := some 24) (v := ?_) (a' := ?_) #[true, true, true, true, true, true, false, true, true, true, true, false, false, false] rfl rfl (any_of HT_.out (by kernel_rfl)) (fun _ _ _ h => h) (Or.inl ⟨by rfl, ?_⟩) ?_ ?_
                      rotate_left
                      · intro w'
                        go_simp
                        with_reducible rfl
                      rotate_left
                      · simp only [Act.put, List.setIfInBounds_toArray, List.set_cons_zero, List.set_cons_succ, i64_w, i32_w]
                        rfl
                      refine take_ (i := 6) (N := some 20) (v := ?_) (a' := ?_) #[true, true, true, true, true, true, true, true, true, true, true, false, false, false] rfl rfl (take_ofW HT_.out HW_.out (by kernel_rfl)) (fun _ _ _ h => h) (Or.inl ⟨by rfl, ?_⟩) hHeld ?_ ?_
                      rotate_left
                      · rintro w' ⟨s0, s1, s2, s3⟩
                        go_simp
                        with_reducible rfl
                      rotate_left
                      · simp only [Act.put, List.setIfInBounds_toArray, List.set_cons_zero, List.set_cons_succ, i64_w, i32_w]
                        rfl
                      refine take_ (i := 11) (N := some 25) (v := ?_) (a' := ?_) #[true, true, true, true, true, true, true, true, true, true, true, true, false, false] rfl rfl (take_ofW HT_.out HW_.out (by kernel_rfl)) (fun _ _ _ h => h) (Or.inl ⟨by rfl, ?_⟩) hHeld ?_ ?_
                      rotate_left
                      · rintro w' ⟨s0, s1, s2, s3⟩
                        go_simp
                        with_reducible rfl
                      rotate_left
                      · simp only [Act.put, List.setIfInBounds_toArray, List.set_cons_zero, List.set_cons_succ, i64_w, i32_w]
                        rfl
                      refine one_ (i := 12) (N := some 26) #[true, true, true, true, true, true, true, true, true, true, true, true, true, false] rfl rfl (one_of HT_.out (by kernel_rfl)) (by decide) (fun K hK => ?_)
                      refine goes_ Try.func25 (by kernel_rfl) rfl #[.agg #[.int .i64 ((rd_T39 l0 a4).f0), .int .i64 ((rd_T39 l0 a4).f1)], .agg #[.int .i64 ((rd_T39 l3 (ji9)).f0), .int .i64 ((rd_T39 l3 (ji9)).f1)]] (by rfl) rfl rfl (by (try simp only [List.map_toArray, List.map_cons, List.map_nil]); first | done | (simp only [hji9]; rfl) | rfl | (simp only [List.length_drop, List.length_take]; rfl)) ?_
                      with_reducible refine (berthingref13_Less.calls ((rd_T39 l0 a4).f0) ((rd_T39 l0 a4).f1) ((rd_T39 l3 (ji9)).f0) ((rd_T39 l3 (ji9)).f1) true _ A12.out).mono ?_
                      rintro e w15 ⟨rfl, hb⟩
                      refine ⟨_, rfl, ?_⟩
                      have n0_ := Aside0.mk (below_step (by repeat (first | (with_reducible first | exact HB.out | apply below_alloc | apply pw_below_drewN | apply below_drew1) | exact HB.out)) hb)
                      clear HB
                      have HB := n0_
                      clear n0_
                      (try clear hb)
                      (try clear hb2)
                      (try clear hk)
                      (try clear hi)
                      refine hK.out _ _ ⟨((HB.out.cell (World.block_lt_of_cell? wi _ hw142_0)).trans hw142_0), ((HB.out.cell (World.block_lt_of_cell? wi _ hw142_1)).trans hw142_1), ((HB.out.cell (World.block_lt_of_cell? wi _ hw143_0)).trans hw143_0), ((HB.out.cell (World.block_lt_of_cell? wi _ hw143_1)).trans hw143_1)⟩ (fun hHeld => ?_)
                      clear hK K
                      refine norm_ (a' := ?_) ?_ ?_
                      rotate_left
                      · show Act.put _ (some 26) _ = _
                        simp only [Act.put, List.setIfInBounds_toArray, List.set_cons_zero, List.set_cons_succ, i64_w, i32_w]
                        rfl
                      refine pure_ (i := 13) (N := some 27) (v := ?_) (a' := ?_) #[true, true, true, true, true, true, true, true, true, true, true, true, true, true] rfl rfl (any_of HT_.out (by kernel_rfl)) (fun _ _ _ h => h) (Or.inl ⟨by rfl, ?_⟩) ?_ ?_
                      rotate_left
                      · intro w'
                        go_simp
                        with_reducible rfl
                      rotate_left
                      · simp only [Act.put, List.setIfInBounds_toArray, List.set_cons_zero, List.set_cons_succ, i64_w, i32_w]
                        rfl
                      refine done_ (done_of HT_.out (by kernel_rfl)) ?_
                      try go_wp2
                      go_roundg k1
                      case measure => have := HK1.out; omega
                      case rel => exact ⟨(ji9), (by first | rfl | (simp; done) | (simp only [← hji9] <;> (first | rfl | simp)) | (simp [*]; done)), H', ⟨by have := HK1.out; omega⟩, ⟨by repeat (first | (with_reducible first | exact HB.out | apply below_alloc | apply pw_below_drewN | apply below_drew1) | exact HB.out)⟩⟩
                    · replace c13 := Bool.eq_false_iff.mpr c13
                      subst c13
                      have H1 : (some x5_1) = some r5 := by rw [if_neg (show ¬ (false = true) by decide)] at H; exact H
                      clear H
                      have H := H1
                      clear H1
                      obtain rfl := Option.some.inj H
                      try go_wp2
                      have n0_ := Aside0.mk (below_drew1 HB.out)
                      clear HB
                      have HB := n0_
                      clear n0_
                      have p142 : 0 ≤ (a4 : Int) := of_decide_eq_true (by first | (with_reducible assumption) | assumption)
                      have q142 : a4 < (l0.length : Int) := of_decide_eq_true (by first | (with_reducible assumption) | assumption)
                      obtain ⟨ad142, e142, hx142_0, hx142_1⟩ := at_T39 HR0.out a4 p142 q142
                      have hw142_1 := hx142_1
                      have hw142_0 := hx142_0
                      cases e142
                      replace hx142_0 := (HB.out.cell (World.block_lt_of_cell? wi _ hx142_0)).trans hx142_0
                      replace hx142_1 := (HB.out.cell (World.block_lt_of_cell? wi _ hx142_1)).trans hx142_1
                      replace p142 := eq_true p142
                      replace q142 := eq_true q142
                      have p143 : 0 ≤ ((ji9) : Int) := of_decide_eq_true (by first | (with_reducible assumption) | assumption)
                      have q143 : (ji9) < (l3.length : Int) := of_decide_eq_true (by first | (with_reducible assumption) | assumption)
                      obtain ⟨ad143, e143, hx143_0, hx143_1⟩ := at_T39 HR3.out (ji9) p143 q143
                      have hw143_1 := hx143_1
                      have hw143_0 := hx143_0
                      cases e143
                      replace hx143_0 := (HB.out.cell (World.block_lt_of_cell? wi _ hx143_0)).trans hx143_0
                      replace hx143_1 := (HB.out.cell (World.block_lt_of_cell? wi _ hx143_1)).trans hx143_1
                      replace p143 := eq_true p143
                      replace q143 := eq_true q143
                      refine start_ (n := 14) (S := fun w' => w'.cell? (ad142.add ((a4).toNat * 2)) = some (.int .i64 ((rd_T39 l0 a4).f0)) ∧ w'.cell? ⟨(ad142.add ((a4).toNat * 2)).block, (ad142.add ((a4).toNat * 2)).off + 1, none⟩ = some (.int .i64 ((rd_T39 l0 a4).f1)) ∧ w'.cell? (ad143.add (((ji9)).toNat * 2)) = some (.int .i64 ((rd_T39 l3 (ji9)).f0)) ∧ w'.cell? ⟨(ad143.add (((ji9)).toNat * 2)).block, (ad143.add (((ji9)).toNat * 2)).off + 1, none⟩ = some (.int .i64 ((rd_T39 l3 (ji9)).f1))) (ds := []) #[false, false, false, false, false, false, false, false, false, false, false, false, false, false] (by kernel_rfl) rfl rfl ⟨((HB.out.cell (World.block_lt_of_cell? wi _ hw142_0)).trans hw142_0), ((HB.out.cell (World.block_lt_of_cell? wi _ hw142_1)).trans hw142_1), ((HB.out.cell (World.block_lt_of_cell? wi _ hw143_0)).trans hw143_0), ((HB.out.cell (World.block_lt_of_cell? wi _ hw143_1)).trans hw143_1)⟩ (fun hHeld => ?_); refine with_tabW berthingref13_Sort.tab6 berthingref13_Sort.bits6 (fun HT_ HW_ => ?_)
                      generalize wr.drew = w16 at HB hx142_0 hx142_1 hx143_0 hx143_1 hHeld ⊢
                      refine pure_ (i := 0) (N := some 14) (v := ?_) (a' := ?_) #[true, false, false, false, false, false, false, false, false, false, false, false, false, false] rfl rfl (any_of HT_.out (by kernel_rfl)) (fun _ _ _ h => h) (Or.inl ⟨by rfl, ?_⟩) ?_ ?_
                      rotate_left
                      · intro w'
                        go_simp
                        with_reducible rfl
                      rotate_left
                      · simp only [Act.put, List.setIfInBounds_toArray, List.set_cons_zero, List.set_cons_succ, i64_w, i32_w]
                        rfl
                      refine pure_ (i := 1) (N := some 15) (v := ?_) (a' := ?_) #[true, true, false, false, false, false, false, false, false, false, false, false, false, false] rfl rfl (any_of HT_.out (by kernel_rfl)) (fun _ _ _ h => h) (Or.inl ⟨by rfl, ?_⟩) ?_ ?_
                      rotate_left
                      · intro w'
                        go_simp
                        with_reducible rfl
                      rotate_left
                      · simp only [Act.put, List.setIfInBounds_toArray, List.set_cons_zero, List.set_cons_succ, i64_w, i32_w]
                        rfl
                      refine pure_ (i := 2) (N := some 16) (v := ?_) (a' := ?_) #[true, true, true, false, false, false, false, false, false, false, false, false, false, false] rfl rfl (any_of HT_.out (by kernel_rfl)) (fun _ _ _ h => h) (Or.inl ⟨by rfl, ?_⟩) ?_ ?_
                      rotate_left
                      · intro w'
                        go_simp
                        with_reducible rfl
                      rotate_left
                      · simp only [Act.put, List.setIfInBounds_toArray, List.set_cons_zero, List.set_cons_succ, i64_w, i32_w]
                        rfl
                      refine pure_ (i := 3) (N := some 17) (v := ?_) (a' := ?_) #[true, true, true, true, false, false, false, false, false, false, false, false, false, false] rfl rfl (any_of HT_.out (by kernel_rfl)) (fun _ _ _ h => h) (Or.inl ⟨by rfl, ?_⟩) ?_ ?_
                      rotate_left
                      · intro w'
                        go_simp
                        with_reducible rfl
                      rotate_left
                      · simp only [Act.put, List.setIfInBounds_toArray, List.set_cons_zero, List.set_cons_succ, i64_w, i32_w]
                        rfl
                      refine pure_ (i := 4) (N := some 18) (v := ?_) (a' := ?_) #[true, true, true, true, true, false, false, false, false, false, false, false, false, false] rfl rfl (any_of HT_.out (by kernel_rfl)) (fun _ _ _ h => h) (Or.inl ⟨by rfl, ?_⟩) ?_ ?_
                      rotate_left
                      · intro w'
                        go_simp
                        with_reducible rfl
                      rotate_left
                      · simp only [Act.put, List.setIfInBounds_toArray, List.set_cons_zero, List.set_cons_succ, i64_w, i32_w]
                        rfl
                      refine pure_ (i := 5) (N := some 19) (v := ?_) (a' := ?_) #[true, true, true, true, true, true, false, false, false, false, false, false, false, false] rfl rfl (any_of HT_.out (by kernel_rfl)) (fun _ _ _ h => h) (Or.inl ⟨by rfl, ?_⟩) ?_ ?_
                      rotate_left
                      · intro w'
                        go_simp
                        with_reducible rfl
                      rotate_left
                      · simp only [Act.put, List.setIfInBounds_toArray, List.set_cons_zero, List.set_cons_succ, i64_w, i32_w]
                        rfl
                      refine pure_ (i := 7) (N := some 21) (v := ?_) (a' := ?_) #[true, true, true, true, true, true, false, true, false, false, false, false, false, false] rfl rfl (any_of HT_.out (by kernel_rfl)) (fun _ _ _ h => h) (Or.inl ⟨by rfl, ?_⟩) ?_ ?_
                      rotate_left
                      · intro w'
                        go_simp
                        with_reducible rfl
                      rotate_left
                      · simp only [Act.put, List.setIfInBounds_toArray, List.set_cons_zero, List.set_cons_succ, i64_w, i32_w]
                        rfl
                      refine pure_ (i := 8) (N := some 22) (v := ?_) (a' := ?_) #[true, true, true, true, true, true, false, true, true, false, false, false, false, false] rfl rfl (any_of HT_.out (by kernel_rfl)) (fun _ _ _ h => h) (Or.inl ⟨by rfl, ?_⟩) ?_ ?_
                      rotate_left
                      · intro w'
                        go_simp
                        with_reducible rfl
                      rotate_left
                      · simp only [Act.put, List.setIfInBounds_toArray, List.set_cons_zero, List.set_cons_succ, i64_w, i32_w]
                        rfl
                      refine pure_ (i := 9) (N := some 23) (v := ?_) (a' := ?_) #[true, true, true, true, true, true, false, true, true, true, false, false, false, false] rfl rfl (any_of HT_.out (by kernel_rfl)) (fun _ _ _ h => h) (Or.inl ⟨by rfl, ?_⟩) ?_ ?_
                      rotate_left
                      · intro w'
                        go_simp
                        with_reducible rfl
                      rotate_left
                      · simp only [Act.put, List.setIfInBounds_toArray, List.set_cons_zero, List.set_cons_succ, i64_w, i32_w]
                        rfl
                      refine pure_ (i := 10) (N := some 24) (v := ?_) (a' := ?_) #[true, true, true, true, true, true, false, true, true, true, true, false, false, false] rfl rfl (any_of HT_.out (by kernel_rfl)) (fun _ _ _ h => h) (Or.inl ⟨by rfl, ?_⟩) ?_ ?_
                      rotate_left
                      · intro w'
                        go_simp
                        with_reducible rfl
                      rotate_left
                      · simp only [Act.put, List.setIfInBounds_toArray, List.set_cons_zero, List.set_cons_succ, i64_w, i32_w]
                        rfl
                      refine take_ (i := 6) (N := some 20) (v := ?_) (a' := ?_) #[true, true, true, true, true, true, true, true, true, true, true, false, false, false] rfl rfl (take_ofW HT_.out HW_.out (by kernel_rfl)) (fun _ _ _ h => h) (Or.inl ⟨by rfl, ?_⟩) hHeld ?_ ?_
                      rotate_left
                      · rintro w' ⟨s0, s1, s2, s3⟩
                        go_simp
                        with_reducible rfl
                      rotate_left
                      · simp only [Act.put, List.setIfInBounds_toArray, List.set_cons_zero, List.set_cons_succ, i64_w, i32_w]
                        rfl
                      refine take_ (i := 11) (N := some 25) (v := ?_) (a' := ?_) #[true, true, true, true, true, true, true, true, true, true, true, true, false, false] rfl rfl (take_ofW HT_.out HW_.out (by kernel_rfl)) (fun _ _ _ h => h) (Or.inl ⟨by rfl, ?_⟩) hHeld ?_ ?_
                      rotate_left
                      · rintro w' ⟨s0, s1, s2, s3⟩
                        go_simp
                        with_reducible rfl
                      rotate_left
                      · simp only [Act.put, List.setIfInBounds_toArray, List.set_cons_zero, List.set_cons_succ, i64_w, i32_w]
                        rfl
                      refine one_ (i := 12) (N := some 26) #[true, true, true, true, true, true, true, true, true, true, true, true, true, false] rfl rfl (one_of HT_.out (by kernel_rfl)) (by decide) (fun K hK => ?_)
                      refine goes_ Try.func25 (by kernel_rfl) rfl #[.agg #[.int .i64 ((rd_T39 l0 a4).f0), .int .i64 ((rd_T39 l0 a4).f1)], .agg #[.int .i64 ((rd_T39 l3 (ji9)).f0), .int .i64 ((rd_T39 l3 (ji9)).f1)]] (by rfl) rfl rfl (by (try simp only [List.map_toArray, List.map_cons, List.map_nil]); first | done | (simp only [hji9]; rfl) | rfl | (simp only [List.length_drop, List.length_take]; rfl)) ?_
                      with_reducible refine (berthingref13_Less.calls ((rd_T39 l0 a4).f0) ((rd_T39 l0 a4).f1) ((rd_T39 l3 (ji9)).f0) ((rd_T39 l3 (ji9)).f1) false _ A12.out).mono ?_
                      rintro e w17 ⟨rfl, hb⟩
                      refine ⟨_, rfl, ?_⟩
                      have n0_ := Aside0.mk (below_step (by repeat (first | (with_reducible first | exact HB.out | apply below_alloc | apply pw_below_drewN | apply below_drew1) | exact HB.out)) hb)
                      clear HB
                      have HB := n0_
                      clear n0_
                      (try clear hb)
                      (try clear hb2)
                      (try clear hk)
                      (try clear hi)
                      refine hK.out _ _ ⟨((HB.out.cell (World.block_lt_of_cell? wi _ hw142_0)).trans hw142_0), ((HB.out.cell (World.block_lt_of_cell? wi _ hw142_1)).trans hw142_1), ((HB.out.cell (World.block_lt_of_cell? wi _ hw143_0)).trans hw143_0), ((HB.out.cell (World.block_lt_of_cell? wi _ hw143_1)).trans hw143_1)⟩ (fun hHeld => ?_)
                      clear hK K
                      refine norm_ (a' := ?_) ?_ ?_
                      rotate_left
                      · show Act.put _ (some 26) _ = _
                        simp only [Act.put, List.setIfInBounds_toArray, List.set_cons_zero, List.set_cons_succ, i64_w, i32_w]
                        rfl
                      refine pure_ (i := 13) (N := some 27) (v := ?_) (a' := ?_) #[true, true, true, true, true, true, true, true, true, true, true, true, true, true] rfl rfl (any_of HT_.out (by kernel_rfl)) (fun _ _ _ h => h) (Or.inl ⟨by rfl, ?_⟩) ?_ ?_
                      rotate_left
                      · intro w'
                        go_simp
                        with_reducible rfl
                      rotate_left
                      · simp only [Act.put, List.setIfInBounds_toArray, List.set_cons_zero, List.set_cons_succ, i64_w, i32_w]
                        rfl
                      refine done_ (done_of HT_.out (by kernel_rfl)) ?_
                      try go_wp2
                      try clear hji9w
                      try clear hji9
                      have H : ((some (([] : List (S39)) : List (S39))).bind fun y142 => (if 0 ≤ x5_1 then (if x5_1 ≤ (l3.length : Int) then ((some (l3.take (x5_1 : Int).toNat : List (S39))).bind fun y145 => (if y142.length + y145.length < 8796093022208 then ((some (y142 ++ y145 : List (S39))).bind fun y149 => (if 0 ≤ a4 then (if a4 < (l0.length : Int) then ((some (([(⟨(rd_T39 l0 a4).f0, (rd_T39 l0 a4).f1⟩ : S39)] : List (S39)) : List (S39))).bind fun y153 => (if y149.length + y153.length < 8796093022208 then ((some (y149 ++ y153 : List (S39))).bind fun y156 => ((some (l3.drop (x5_1 : Int).toNat : List (S39))).bind fun y159 => (if y156.length + y159.length < 8796093022208 then (some (y156 ++ y159)) else (none)))) else (none))) else (none)) else (none))) else (none))) else (none)) else (none))) = some r8 := HCH.out
                      obtain ⟨y142, hy142⟩ : ∃ y_ : List (S39), y_ = (([] : List (S39))) := ⟨_, rfl⟩
                      replace H : (if 0 ≤ x5_1 then (if x5_1 ≤ (l3.length : Int) then ((some (l3.take (x5_1 : Int).toNat : List (S39))).bind fun y145 => (if y142.length + y145.length < 8796093022208 then ((some (y142 ++ y145 : List (S39))).bind fun y149 => (if 0 ≤ a4 then (if a4 < (l0.length : Int) then ((some (([(⟨(rd_T39 l0 a4).f0, (rd_T39 l0 a4).f1⟩ : S39)] : List (S39)) : List (S39))).bind fun y153 => (if y149.length + y153.length < 8796093022208 then ((some (y149 ++ y153 : List (S39))).bind fun y156 => ((some (l3.drop (x5_1 : Int).toNat : List (S39))).bind fun y159 => (if y156.length + y159.length < 8796093022208 then (some (y156 ++ y159)) else (none)))) else (none))) else (none)) else (none))) else (none))) else (none)) else (none)) = some r8 := by first | (rw [hy142]; with_reducible exact H) | (have H2_ := (Option.bind_some _ _).symm.trans H; rw [hy142]; with_reducible exact H2_) | (have H2_ := (Option.bind_some _ _).symm.trans H; with_reducible exact H2_) | with_reducible exact H | (rw [hy142]; exact H) | exact H
                      have Ny142 := Aside0.mk hy142
                      by_cases c7 : 0 ≤ x5_1
                      · rw [if_pos c7] at H
                        have c7b0 := eq_true c7
                        have c7b1 : decide (0 ≤ x5_1) = true := decide_eq_true c7
                        clear c7
                        by_cases c8 : x5_1 ≤ (l3.length : Int)
                        · rw [if_pos c8] at H
                          have c8b0 := eq_true c8
                          have c8b1 : decide (x5_1 ≤ (l3.length : Int)) = true := decide_eq_true c8
                          clear c8
                          obtain ⟨y145, hy145⟩ : ∃ y_ : List (S39), y_ = (l3.take (x5_1 : Int).toNat) := ⟨_, rfl⟩
                          replace H : (if y142.length + y145.length < 8796093022208 then ((some (y142 ++ y145 : List (S39))).bind fun y149 => (if 0 ≤ a4 then (if a4 < (l0.length : Int) then ((some (([(⟨(rd_T39 l0 a4).f0, (rd_T39 l0 a4).f1⟩ : S39)] : List (S39)) : List (S39))).bind fun y153 => (if y149.length + y153.length < 8796093022208 then ((some (y149 ++ y153 : List (S39))).bind fun y156 => ((some (l3.drop (x5_1 : Int).toNat : List (S39))).bind fun y159 => (if y156.length + y159.length < 8796093022208 then (some (y156 ++ y159)) else (none)))) else (none))) else (none)) else (none))) else (none)) = some r8 := by first | (rw [hy145]; with_reducible exact H) | (have H2_ := (Option.bind_some _ _).symm.trans H; rw [hy145]; with_reducible exact H2_) | (have H2_ := (Option.bind_some _ _).symm.trans H; with_reducible exact H2_) | with_reducible exact H | (rw [hy145]; exact H) | exact H
                          have Ny145 := Aside0.mk hy145
                          by_cases c9 : y142.length + y145.length < 8796093022208
                          · rw [if_pos c9] at H
                            have LMc9 := Aside0.mk c9
                            clear c9
                            obtain ⟨y149, hy149⟩ : ∃ y_ : List (S39), y_ = (y142 ++ y145) := ⟨_, rfl⟩
                            replace H : (if 0 ≤ a4 then (if a4 < (l0.length : Int) then ((some (([(⟨(rd_T39 l0 a4).f0, (rd_T39 l0 a4).f1⟩ : S39)] : List (S39)) : List (S39))).bind fun y153 => (if y149.length + y153.length < 8796093022208 then ((some (y149 ++ y153 : List (S39))).bind fun y156 => ((some (l3.drop (x5_1 : Int).toNat : List (S39))).bind fun y159 => (if y156.length + y159.length < 8796093022208 then (some (y156 ++ y159)) else (none)))) else (none))) else (none)) else (none)) = some r8 := by first | (rw [hy149]; with_reducible exact H) | (have H2_ := (Option.bind_some _ _).symm.trans H; rw [hy149]; with_reducible exact H2_) | (have H2_ := (Option.bind_some _ _).symm.trans H; with_reducible exact H2_) | with_reducible exact H | (rw [hy149]; exact H) | exact H
                            have Ny149 := Aside0.mk hy149
                            by_cases c10 : 0 ≤ a4
                            · rw [if_pos c10] at H
                              have c10b0 : decide (0 ≤ a4) = true := decide_eq_true c10
                              clear c10
                              by_cases c11 : a4 < (l0.length : Int)
                              · rw [if_pos c11] at H
                                have c11b0 : decide (a4 < (l0.length : Int)) = true := decide_eq_true c11
                                clear c11
                                obtain ⟨y153, hy153⟩ : ∃ y_ : List (S39), y_ = (([(⟨(rd_T39 l0 a4).f0, (rd_T39 l0 a4).f1⟩ : S39)] : List (S39))) := ⟨_, rfl⟩
                                replace H : (if y149.length + y153.length < 8796093022208 then ((some (y149 ++ y153 : List (S39))).bind fun y156 => ((some (l3.drop (x5_1 : Int).toNat : List (S39))).bind fun y159 => (if y156.length + y159.length < 8796093022208 then (some (y156 ++ y159)) else (none)))) else (none)) = some r8 := by first | (rw [hy153]; with_reducible exact H) | (have H2_ := (Option.bind_some _ _).symm.trans H; rw [hy153]; with_reducible exact H2_) | (have H2_ := (Option.bind_some _ _).symm.trans H; with_reducible exact H2_) | with_reducible exact H | (rw [hy153]; exact H) | exact H
                                have Ny153 := Aside0.mk hy153
                                by_cases c12 : y149.length + y153.length < 8796093022208
                                · rw [if_pos c12] at H
                                  have LMc12 := Aside0.mk c12
                                  clear c12
                                  obtain ⟨y156, hy156⟩ : ∃ y_ : List (S39), y_ = (y149 ++ y153) := ⟨_, rfl⟩
                                  replace H : ((some (l3.drop (x5_1 : Int).toNat : List (S39))).bind fun y159 => (if y156.length + y159.length < 8796093022208 then (some (y156 ++ y159)) else (none))) = some r8 := by first | (rw [hy156]; with_reducible exact H) | (have H2_ := (Option.bind_some _ _).symm.trans H; rw [hy156]; with_reducible exact H2_) | (have H2_ := (Option.bind_some _ _).symm.trans H; with_reducible exact H2_) | with_reducible exact H | (rw [hy156]; exact H) | exact H
                                  have Ny156 := Aside0.mk hy156
                                  have c13b0 := eq_true (of_decide_eq_true (by first | (with_reducible assumption) | assumption) : 0 ≤ x5_1)
                                  have c14b0 := eq_true (of_decide_eq_true (by first | (with_reducible assumption) | assumption) : x5_1 ≤ (l3.length : Int))
                                  obtain ⟨y159, hy159⟩ : ∃ y_ : List (S39), y_ = (l3.drop (x5_1 : Int).toNat) := ⟨_, rfl⟩
                                  replace H : (if y156.length + y159.length < 8796093022208 then (some (y156 ++ y159)) else (none)) = some r8 := by first | (rw [hy159]; with_reducible exact H) | (have H2_ := (Option.bind_some _ _).symm.trans H; rw [hy159]; with_reducible exact H2_) | (have H2_ := (Option.bind_some _ _).symm.trans H; with_reducible exact H2_) | with_reducible exact H | (rw [hy159]; exact H) | exact H
                                  have Ny159 := Aside0.mk hy159
                                  by_cases c15 : y156.length + y159.length < 8796093022208
                                  · rw [if_pos c15] at H
                                    have LMc15 := Aside0.mk c15
                                    clear c15
                                    obtain ⟨y163, hy163⟩ : ∃ y_ : List (S39), y_ = (y156 ++ y159) := ⟨_, rfl⟩
                                    replace H : (some y163) = some r8 := by first | (rw [hy163]; with_reducible exact H) | (have H2_ := (Option.bind_some _ _).symm.trans H; rw [hy163]; with_reducible exact H2_) | (have H2_ := (Option.bind_some _ _).symm.trans H; with_reducible exact H2_) | with_reducible exact H | (rw [hy163]; exact H) | exact H
                                    have Ny163 := Aside0.mk hy163
                                    obtain rfl := Option.some.inj H
                                    try go_wp2
                                    have n0_ := Aside0.mk (below_drew1 HB.out)
                                    clear HB
                                    have HB := n0_
                                    clear n0_
                                    have q17 : (x5_1 : Int) ≤ ((l3.length : Int) : Int) := of_decide_eq_true (by first | (with_reducible assumption) | assumption)
                                    obtain ⟨i017, hi017, _, hsz17, _⟩ := info_parts info39
                                    have hroom17 : l3.length ≤ c3 := HC3.out
                                    have hC17 : Kd.C k39 _ (some ad143) l3.length l3 := HR3.out
                                    have hcut17 := cut_to (P := Try.prog) 36 39 .i64 Try.underlying36 hi017 (some ad143) l3.length c3 x5_1 (of_decide_eq_true (by first | (with_reducible assumption) | assumption)) q17 hroom17
                                    have hr17 := Kd.C_take (m := (x5_1 : Int).toNat) hC17 (by omega)
                                    have hy17 : y145.length = (x5_1 : Int).toNat := (by rw [Ny145.out, List.length_take]; omega)
                                    rw [← Ny145.out] at hr17
                                    rw [← hy17] at hcut17
                                    have HR148 := Aside0.mk hr17
                                    have HC148 := Aside0.mk (show y145.length ≤ c3 from by omega)
                                    have KY17 := Aside0.mk hy17
                                    replace q17 := eq_true q17
                                    have p152 : 0 ≤ (a4 : Int) := of_decide_eq_true (by first | (with_reducible assumption) | assumption)
                                    have q152 : a4 < (l0.length : Int) := of_decide_eq_true (by first | (with_reducible assumption) | assumption)
                                    obtain ⟨ad152, e152, hx152_0, hx152_1⟩ := at_T39 HR0.out a4 p152 q152
                                    have hw152_1 := hx152_1
                                    have hw152_0 := hx152_0
                                    obtain rfl : ad142 = ad152 := (by injection e152)
                                    replace hx152_0 := (HB.out.cell (World.block_lt_of_cell? wi _ hx152_0)).trans hx152_0
                                    replace hx152_1 := (HB.out.cell (World.block_lt_of_cell? wi _ hx152_1)).trans hx152_1
                                    replace p152 := eq_true p152
                                    replace q152 := eq_true q152
                                    have q18 : (x5_1 : Int) ≤ ((l3.length : Int) : Int) := of_decide_eq_true (by first | (with_reducible assumption) | assumption)
                                    obtain ⟨i018, hi018, _, hsz18, _⟩ := info_parts info39
                                    have hroom18 : l3.length ≤ c3 := HC3.out
                                    have hC18 : Kd.C k39 _ (some ad143) l3.length l3 := HR3.out
                                    have q018 : (0 : Int) ≤ (x5_1 : Int) := of_decide_eq_true (by first | (with_reducible assumption) | assumption)
                                    have hcut18 := cut_from (P := Try.prog) 36 39 .i64 Try.underlying36 hi018 2 hsz18 (some ad143) l3.length c3 x5_1 q018 q18
                                    have hr18 := Kd.C_drop (m := (x5_1 : Int).toNat) (c := c3) hC18 (by omega) hroom18
                                    obtain ⟨A18, hA18⟩ : ∃ A1, A1 = (if c3 = (x5_1 : Int).toNat then (some ad143) else ((some ad143) : Option Addr).map (·.add ((x5_1 : Int).toNat * 2))) := ⟨_, rfl⟩
                                    obtain ⟨c18, hc18⟩ : ∃ c1, c1 = c3 - (x5_1 : Int).toNat := ⟨_, rfl⟩
                                    have hy18 : y159.length = l3.length - (x5_1 : Int).toNat := (by rw [Ny159.out, List.length_drop] <;> omega)
                                    rw [show (l3).drop (x5_1 : Int).toNat = y159 from Ny159.out.symm] at hr18
                                    replace hr18 : Kd.C k39 _ A18 y159.length y159 := (by rw [hA18]; exact hr18)
                                    rw [← hy18, ← hA18, ← hc18] at hcut18
                                    have HR162 := Aside0.mk hr18
                                    have HC162 := Aside0.mk (show y159.length ≤ c18 from by rw [hy18, hc18]; exact Nat.sub_le_sub_right hroom18 _)
                                    have KY18 := Aside0.mk hy18
                                    have KA18 := Aside0.mk hA18
                                    replace q18 := eq_true q18
                                    refine start_ (n := 16) (S := fun w' => w'.cell? (ad142.add ((a4).toNat * 2)) = some (.int .i64 ((rd_T39 l0 a4).f0)) ∧ w'.cell? ⟨(ad142.add ((a4).toNat * 2)).block, (ad142.add ((a4).toNat * 2)).off + 1, none⟩ = some (.int .i64 ((rd_T39 l0 a4).f1))) (ds := []) #[false, false, false, false, false, false, false, false, false, false, false, false, false, false, false, false] (by kernel_rfl) rfl rfl ⟨((HB.out.cell (World.block_lt_of_cell? wi _ hw152_0)).trans hw152_0), ((HB.out.cell (World.block_lt_of_cell? wi _ hw152_1)).trans hw152_1)⟩ (fun hHeld => ?_); refine with_tabW berthingref13_Sort.tab8 berthingref13_Sort.bits8 (fun HT_ HW_ => ?_)
                                    generalize w17.drew = x16 at HB HR148 HR162 hx152_0 hx152_1 hHeld ⊢
                                    refine pure_ (i := 1) (N := some 31) (v := ?_) (a' := ?_) #[false, true, false, false, false, false, false, false, false, false, false, false, false, false, false, false] rfl rfl (any_of HT_.out (by kernel_rfl)) (fun _ _ _ h => h) (Or.inl ⟨by rfl, ?_⟩) ?_ ?_
                                    rotate_left
                                    · intro w'
                                      go_simp
                                      with_reducible rfl
                                    rotate_left
                                    · simp only [Act.put, List.setIfInBounds_toArray, List.set_cons_zero, List.set_cons_succ, i64_w, i32_w]
                                      rfl
                                    refine pure_ (i := 2) (N := some 32) (v := ?_) (a' := ?_) #[false, true, true, false, false, false, false, false, false, false, false, false, false, false, false, false] rfl rfl (any_of HT_.out (by kernel_rfl)) (fun _ _ _ h => h) (Or.inl ⟨by rfl, ?_⟩) ?_ ?_
                                    rotate_left
                                    · intro w'
                                      go_simp
                                      with_reducible rfl
                                    rotate_left
                                    · simp only [Act.put, List.setIfInBounds_toArray, List.set_cons_zero, List.set_cons_succ, i64_w, i32_w]
                                      rfl
                                    refine pure_ (i := 3) (N := some 33) (v := ?_) (a' := ?_) #[false, true, true, true, false, false, false, false, false, false, false, false, false, false, false, false] rfl rfl (any_of HT_.out (by kernel_rfl)) (fun _ _ _ h => h) (Or.inl ⟨by rfl, ?_⟩) ?_ ?_
                                    rotate_left
                                    · intro w'
                                      go_simp
                                      with_reducible rfl
                                    rotate_left
                                    · simp only [Act.put, List.setIfInBounds_toArray, List.set_cons_zero, List.set_cons_succ, i64_w, i32_w]
                                      rfl
                                    refine pure_ (i := 5) (N := some 35) (v := ?_) (a' := ?_) #[false, true, true, true, false, true, false, false, false, false, false, false, false, false, false, false] rfl rfl (any_of HT_.out (by kernel_rfl)) (fun _ _ _ h => h) (Or.inl ⟨by rfl, ?_⟩) ?_ ?_
                                    rotate_left
                                    · intro w'
                                      go_simp
                                      with_reducible rfl
                                    rotate_left
                                    · simp only [Act.put, List.setIfInBounds_toArray, List.set_cons_zero, List.set_cons_succ, i64_w, i32_w]
                                      rfl
                                    refine pure_ (i := 6) (N := some 36) (v := ?_) (a' := ?_) #[false, true, true, true, false, true, true, false, false, false, false, false, false, false, false, false] rfl rfl (any_of HT_.out (by kernel_rfl)) (fun _ _ _ h => h) (Or.inl ⟨by rfl, ?_⟩) ?_ ?_
                                    rotate_left
                                    · intro w'
                                      go_simp
                                      with_reducible rfl
                                    rotate_left
                                    · simp only [Act.put, List.setIfInBounds_toArray, List.set_cons_zero, List.set_cons_succ, i64_w, i32_w]
                                      rfl
                                    refine pure_ (i := 7) (N := some 37) (v := ?_) (a' := ?_) #[false, true, true, true, false, true, true, true, false, false, false, false, false, false, false, false] rfl rfl (any_of HT_.out (by kernel_rfl)) (fun _ _ _ h => h) (Or.inl ⟨by rfl, ?_⟩) ?_ ?_
                                    rotate_left
                                    · intro w'
                                      go_simp
                                      with_reducible rfl
                                    rotate_left
                                    · simp only [Act.put, List.setIfInBounds_toArray, List.set_cons_zero, List.set_cons_succ, i64_w, i32_w]
                                      rfl
                                    refine pure_ (i := 11) (N := some 41) (v := ?_) (a' := ?_) #[false, true, true, true, false, true, true, true, false, false, false, true, false, false, false, false] rfl rfl (any_of HT_.out (by kernel_rfl)) (fun _ _ _ h => h) (Or.inl ⟨by rfl, ?_⟩) ?_ ?_
                                    rotate_left
                                    · intro w'
                                      go_simp
                                      with_reducible rfl
                                    rotate_left
                                    · simp only [Act.put, List.setIfInBounds_toArray, List.set_cons_zero, List.set_cons_succ, i64_w, i32_w]
                                      rfl
                                    refine pure_ (i := 12) (N := some 42) (v := ?_) (a' := ?_) #[false, true, true, true, false, true, true, true, false, false, false, true, true, false, false, false] rfl rfl (any_of HT_.out (by kernel_rfl)) (fun _ _ _ h => h) (Or.inl ⟨by rfl, ?_⟩) ?_ ?_
                                    rotate_left
                                    · intro w'
                                      go_simp
                                      with_reducible rfl
                                    rotate_left
                                    · simp only [Act.put, List.setIfInBounds_toArray, List.set_cons_zero, List.set_cons_succ, i64_w, i32_w]
                                      rfl
                                    refine pure_ (i := 13) (N := some 43) (v := ?_) (a' := ?_) #[false, true, true, true, false, true, true, true, false, false, false, true, true, true, false, false] rfl rfl (any_of HT_.out (by kernel_rfl)) (fun _ _ _ h => h) (Or.inl ⟨by rfl, ?_⟩) ?_ ?_
                                    rotate_left
                                    · intro w'
                                      go_simp
                                      with_reducible rfl
                                    rotate_left
                                    · simp only [Act.put, List.setIfInBounds_toArray, List.set_cons_zero, List.set_cons_succ, i64_w, i32_w]
                                      rfl
                                    refine take_ (i := 8) (N := some 38) (v := ?_) (a' := ?_) #[false, true, true, true, false, true, true, true, true, false, false, true, true, true, false, false] rfl rfl (take_ofW HT_.out HW_.out (by kernel_rfl)) (fun _ _ _ h => h) (Or.inl ⟨by rfl, ?_⟩) hHeld ?_ ?_
                                    rotate_left
                                    · rintro w' ⟨s0, s1⟩
                                      go_simp
                                      with_reducible rfl
                                    rotate_left
                                    · simp only [Act.put, List.setIfInBounds_toArray, List.set_cons_zero, List.set_cons_succ, i64_w, i32_w]
                                      rfl
                                    refine join_ (σ := Value × Value × Value) 3 #[true, true, true, true, true, true, true, true, true, true, false, true, true, true, false, false] (fun s_ => [(30, s_.1), (34, s_.2.1), (39, s_.2.2)]) (fun s_ w' => (w'.cell? (ad142.add ((a4).toNat * 2)) = some (.int .i64 ((rd_T39 l0 a4).f0)) ∧ w'.cell? ⟨(ad142.add ((a4).toNat * 2)).block, (ad142.add ((a4).toNat * 2)).off + 1, none⟩ = some (.int .i64 ((rd_T39 l0 a4).f1))) ∧ (Kd.R k39 39 w' wi.heap.size (fun k_ => some k_ ≠ (s_.2.2 : Value).ownBlock) s_.2.1 y149) ∧ (Kd.R k39 39 w' wi.heap.size (fun k_ => some k_ ≠ (s_.2.1 : Value).ownBlock) s_.2.2 y153) ∧ (Below wi.heap.size wi w')) ?_ ?_
                                    rotate_left
                                    · intro hCont
                                      refine two_ (i := 0) (j := 9) (Ni := some 30) (Nj := some 39) #[true, true, true, true, false, true, true, true, true, false, false, true, true, true, false, false] #[false, true, true, true, false, true, true, true, true, true, false, true, true, true, false, false] rfl rfl rfl rfl (two_of HT_.out (by kernel_rfl)) (by decide) (by decide) (fun K hK => ?_) (fun K hK => ?_)
                                      · skip
                                        refine Kd.R_lit_step k39 _ 39 ?hg (N := 30) ?hd (xs := ([] : List (S39))) (inner := []) (ok := fun _ => True) (okp := fun _ => True) ?hr ?hp (fun _ hk => hk) trivial (Below.refl _ _) (Nat.le_refl _) (by simp) ?_; (case hd => rfl); (case hg => rfl); (case hr => first | (go_simp; done) | (go_simp; rfl)); (case hp => exact (Reps.none _ _))
                                        intro v143 x19 ho20 hb hg_ hnew_
                                        (first | rw [← Ny142.out] at ho20 | (simp only [Int.reduceToNat] at ho20; rw [← Ny142.out] at ho20))
                                        have n0_ := Aside0.mk (Kd.R_lower ho20 (below_size (by repeat (first | (with_reducible first | exact HB.out | apply below_alloc | apply pw_below_drewN | apply below_drew1) | exact HB.out))))
                                        have n1_ := Aside0.mk (below_step (by repeat (first | (with_reducible first | exact HB.out | apply below_alloc | apply pw_below_drewN | apply below_drew1) | exact HB.out)) hb)
                                        clear HB
                                        have HO144 := n0_
                                        have HB := n1_
                                        clear n0_ n1_
                                        refine hK.out _ _ ⟨((HB.out.cell (World.block_lt_of_cell? wi _ hw152_0)).trans hw152_0), ((HB.out.cell (World.block_lt_of_cell? wi _ hw152_1)).trans hw152_1)⟩ (fun hHeld => ?_)
                                        refine norm_ (a' := ?_) ?_ ?_
                                        rotate_left
                                        · show Act.put _ (some 30) _ = _
                                          simp only [Act.put, List.setIfInBounds_toArray, List.set_cons_zero, List.set_cons_succ, i64_w, i32_w]
                                          rfl
                                        refine two_ (i := 4) (j := 9) (Ni := some 34) (Nj := some 39) #[true, true, true, true, true, true, true, true, true, false, false, true, true, true, false, false] #[true, true, true, true, false, true, true, true, true, true, false, true, true, true, false, false] rfl rfl rfl rfl (two_of HT_.out (by kernel_rfl)) (by decide) (by decide) (fun K hK => ?_) (fun K hK => ?_)
                                        · skip
                                          refine Kd.R_append_rows_step k39 (w0 := wi) wi.heap.size (by rfl) (.tmp 30) (.tmp 33) 36 39 (.agg #[(.int .i64 0), (.int .i64 0)]) 16 rfl Try.underlying36 info39 rfl (by decide) (by omega) v143 y142 y145 _ _ _ (fun _ => True) (fun _ => False) rfl rfl ?aO ?aR (fun _ _ h => h) (fun _ h => h.elim) ?aF ?aB ?aS ?aL ?_
                                          (case aR => repeat (first | exact (Kd.C_below HR148.out HB.out) | (have e_ := Kd.C_below HR148.out HB.out; rw [KY17.out] at e_; exact e_) | (with_reducible refine Kd.C_alloc ?_ _) | (with_reducible refine Kd.C_drewN ?_ _) | (with_reducible refine Kd.C_drew ?_)))
                                          (case aB => exact (by repeat (first | (with_reducible first | exact HB.out | apply below_alloc | apply pw_below_drewN | apply below_drew1) | exact HB.out)))
                                          (case aF => exact (fun _ _ => trivial))
                                          (case aO => exact (by (with_reducible repeat (first | apply Kd.R_alloc | apply Kd.R_drewN | apply Kd.R_drew)); exact HO144.out))
                                          (case aS => exact (below_size (by repeat (first | (with_reducible first | exact HB.out | apply below_alloc | apply pw_below_drewN | apply below_drew1) | exact HB.out))))
                                          (case aL => have := LMc9.out; omega)
                                          intro v150 x21 ho hb hg hat
                                          rw [← Ny149.out] at ho
                                          have n0_ := Aside0.mk (hb)
                                          have n1_ := Aside0.mk (ho)
                                          clear HB
                                          clear HO144
                                          have HB := n0_
                                          have HO151 := n1_
                                          clear n0_ n1_
                                          refine hK.out _ _ ⟨((HB.out.cell (World.block_lt_of_cell? wi _ hw152_0)).trans hw152_0), ((HB.out.cell (World.block_lt_of_cell? wi _ hw152_1)).trans hw152_1)⟩ (fun hHeld => ?_)
                                          refine norm_ (a' := ?_) ?_ ?_
                                          rotate_left
                                          · show Act.put _ (some 34) _ = _
                                            simp only [Act.put, List.setIfInBounds_toArray, List.set_cons_zero, List.set_cons_succ, i64_w, i32_w]
                                            rfl
                                          refine one_ (i := 9) (N := some 39) #[true, true, true, true, true, true, true, true, true, true, false, true, true, true, false, false] rfl rfl (one_of HT_.out (by kernel_rfl)) (by decide) (fun K hK => ?_)
                                          refine Kd.R_lit_step k39 _ 39 ?hg (N := 39) ?hd (xs := ([(⟨(rd_T39 l0 a4).f0, (rd_T39 l0 a4).f1⟩ : S39)] : List (S39))) (inner := [.int .i64 ((rd_T39 l0 a4).f0), .int .i64 ((rd_T39 l0 a4).f1)]) (ok := fun _ => True) (okp := fun _ => True) ?hr ?hp (fun _ hk => hk) trivial (Below.refl _ _) (Nat.le_refl _) (by simp) ?_; (case hd => rfl); (case hg => rfl); (case hr => first | (go_simp; done) | (go_simp; rfl)); (case hp => exact (Reps.c2 (show Kd.M k39 _ _ _ (⟨(rd_T39 l0 a4).f0, (rd_T39 l0 a4).f1⟩ : S39) [.int .i64 ((rd_T39 l0 a4).f0), .int .i64 ((rd_T39 l0 a4).f1)] from (k39_mkM _ _ _ (⟨(rd_T39 l0 a4).f0, (rd_T39 l0 a4).f1⟩ : S39) )) (Reps.none _ _)))
                                          intro v154 x22 ho23 hb hg_ hnew_
                                          (first | rw [← Ny153.out] at ho23 | (simp only [Int.reduceToNat] at ho23; rw [← Ny153.out] at ho23))
                                          have n0_ := Aside0.mk (Kd.R_elder' (by (with_reducible repeat (first | apply Kd.R_alloc | apply Kd.R_drewN | apply Kd.R_drew)); exact HO151.out) (Kd.R_base ho23) hb)
                                          have n1_ := Aside0.mk (Kd.R_lower (Kd.R_new' ho23 (Kd.R_lt (by (with_reducible repeat (first | apply Kd.R_alloc | apply Kd.R_drewN | apply Kd.R_drew)); exact HO151.out))) (below_size (by repeat (first | (with_reducible first | exact HB.out | apply below_alloc | apply pw_below_drewN | apply below_drew1) | exact HB.out))))
                                          have n2_ := Aside0.mk (below_step (by repeat (first | (with_reducible first | exact HB.out | apply below_alloc | apply pw_below_drewN | apply below_drew1) | exact HB.out)) hb)
                                          clear HO151
                                          clear HB
                                          have HO151 := n0_
                                          have HO155 := n1_
                                          have HB := n2_
                                          clear n0_ n1_ n2_
                                          refine hK.out _ _ ⟨((HB.out.cell (World.block_lt_of_cell? wi _ hw152_0)).trans hw152_0), ((HB.out.cell (World.block_lt_of_cell? wi _ hw152_1)).trans hw152_1)⟩ (fun hHeld => ?_)
                                          refine norm_ (a' := ?_) ?_ ?_
                                          rotate_left
                                          · show Act.put _ (some 39) _ = _
                                            simp only [Act.put, List.setIfInBounds_toArray, List.set_cons_zero, List.set_cons_succ, i64_w, i32_w]
                                            rfl
                                          exact norm_ (by simp only [putAll, Act.put, List.setIfInBounds_toArray, List.set_cons_zero, List.set_cons_succ]) (hCont (v143, v150, v154) _ ⟨hHeld, (by (with_reducible repeat (first | apply Kd.R_alloc | apply Kd.R_drewN | apply Kd.R_drew)); exact Kd.R_mono HO151.out (fun _ hk => hk.2)), (by (with_reducible repeat (first | apply Kd.R_alloc | apply Kd.R_drewN | apply Kd.R_drew)); exact Kd.R_mono HO155.out (fun _ hk => hk.2)), (by repeat (first | (with_reducible first | exact HB.out | apply below_alloc | apply pw_below_drewN | apply below_drew1) | exact HB.out))⟩)
                                        · skip
                                          refine Kd.R_lit_step k39 _ 39 ?hg (N := 39) ?hd (xs := ([(⟨(rd_T39 l0 a4).f0, (rd_T39 l0 a4).f1⟩ : S39)] : List (S39))) (inner := [.int .i64 ((rd_T39 l0 a4).f0), .int .i64 ((rd_T39 l0 a4).f1)]) (ok := fun _ => True) (okp := fun _ => True) ?hr ?hp (fun _ hk => hk) trivial (Below.refl _ _) (Nat.le_refl _) (by simp) ?_; (case hd => rfl); (case hg => rfl); (case hr => first | (go_simp; done) | (go_simp; rfl)); (case hp => exact (Reps.c2 (show Kd.M k39 _ _ _ (⟨(rd_T39 l0 a4).f0, (rd_T39 l0 a4).f1⟩ : S39) [.int .i64 ((rd_T39 l0 a4).f0), .int .i64 ((rd_T39 l0 a4).f1)] from (k39_mkM _ _ _ (⟨(rd_T39 l0 a4).f0, (rd_T39 l0 a4).f1⟩ : S39) )) (Reps.none _ _)))
                                          intro v154 x21 ho22 hb hg_ hnew_
                                          (first | rw [← Ny153.out] at ho22 | (simp only [Int.reduceToNat] at ho22; rw [← Ny153.out] at ho22))
                                          have n0_ := Aside0.mk (Kd.R_elder' (by (with_reducible repeat (first | apply Kd.R_alloc | apply Kd.R_drewN | apply Kd.R_drew)); exact HO144.out) (Kd.R_base ho22) hb)
                                          have n1_ := Aside0.mk (Kd.R_lower (Kd.R_new' ho22 (Kd.R_lt (by (with_reducible repeat (first | apply Kd.R_alloc | apply Kd.R_drewN | apply Kd.R_drew)); exact HO144.out))) (below_size (by repeat (first | (with_reducible first | exact HB.out | apply below_alloc | apply pw_below_drewN | apply below_drew1) | exact HB.out))))
                                          have n2_ := Aside0.mk (below_step (by repeat (first | (with_reducible first | exact HB.out | apply below_alloc | apply pw_below_drewN | apply below_drew1) | exact HB.out)) hb)
                                          clear HO144
                                          clear HB
                                          have HO144 := n0_
                                          have HO155 := n1_
                                          have HB := n2_
                                          clear n0_ n1_ n2_
                                          refine hK.out _ _ ⟨((HB.out.cell (World.block_lt_of_cell? wi _ hw152_0)).trans hw152_0), ((HB.out.cell (World.block_lt_of_cell? wi _ hw152_1)).trans hw152_1)⟩ (fun hHeld => ?_)
                                          refine norm_ (a' := ?_) ?_ ?_
                                          rotate_left
                                          · show Act.put _ (some 39) _ = _
                                            simp only [Act.put, List.setIfInBounds_toArray, List.set_cons_zero, List.set_cons_succ, i64_w, i32_w]
                                            rfl
                                          refine one_ (i := 4) (N := some 34) #[true, true, true, true, true, true, true, true, true, true, false, true, true, true, false, false] rfl rfl (one_of HT_.out (by kernel_rfl)) (by decide) (fun K hK => ?_)
                                          refine Kd.R_append_rows_step k39 (w0 := wi) wi.heap.size (by rfl) (.tmp 30) (.tmp 33) 36 39 (.agg #[(.int .i64 0), (.int .i64 0)]) 16 rfl Try.underlying36 info39 rfl (by decide) (by omega) v143 y142 y145 _ _ _ (fun k_ => some k_ ≠ (v154 : Value).ownBlock) (fun _ => False) rfl rfl ?aO ?aR (fun _ _ h => h) (fun _ h => h.elim) ?aF ?aB ?aS ?aL ?_
                                          (case aR => repeat (first | exact (Kd.C_below HR148.out HB.out) | (have e_ := Kd.C_below HR148.out HB.out; rw [KY17.out] at e_; exact e_) | (with_reducible refine Kd.C_alloc ?_ _) | (with_reducible refine Kd.C_drewN ?_ _) | (with_reducible refine Kd.C_drew ?_)))
                                          (case aB => exact (by repeat (first | (with_reducible first | exact HB.out | apply below_alloc | apply pw_below_drewN | apply below_drew1) | exact HB.out)))
                                          (case aF => exact (fun k_ hk => Kd.fresh' (Kd.R_lt (by (with_reducible repeat (first | apply Kd.R_alloc | apply Kd.R_drewN | apply Kd.R_drew)); exact HO155.out)) k_ hk))
                                          (case aO => exact (by (with_reducible repeat (first | apply Kd.R_alloc | apply Kd.R_drewN | apply Kd.R_drew)); exact Kd.R_mono HO144.out (fun _ hk => hk.2)))
                                          (case aS => exact (below_size (by repeat (first | (with_reducible first | exact HB.out | apply below_alloc | apply pw_below_drewN | apply below_drew1) | exact HB.out))))
                                          (case aL => have := LMc9.out; omega)
                                          intro v150 x23 ho hb hg hat
                                          rw [← Ny149.out] at ho
                                          have n0_ := Aside0.mk (Kd.R_after (ok := (fun _ => True)) (by (with_reducible repeat (first | apply Kd.R_alloc | apply Kd.R_drewN | apply Kd.R_drew)); exact HO155.out) hg hat)
                                          have n1_ := Aside0.mk (hb)
                                          have n2_ := Aside0.mk (ho)
                                          clear HO155
                                          clear HB
                                          clear HO144
                                          have HO155 := n0_
                                          have HB := n1_
                                          have HO151 := n2_
                                          clear n0_ n1_ n2_
                                          refine hK.out _ _ ⟨((HB.out.cell (World.block_lt_of_cell? wi _ hw152_0)).trans hw152_0), ((HB.out.cell (World.block_lt_of_cell? wi _ hw152_1)).trans hw152_1)⟩ (fun hHeld => ?_)
                                          refine norm_ (a' := ?_) ?_ ?_
                                          rotate_left
                                          · show Act.put _ (some 34) _ = _
                                            simp only [Act.put, List.setIfInBounds_toArray, List.set_cons_zero, List.set_cons_succ, i64_w, i32_w]
                                            rfl
                                          exact norm_ (by simp only [putAll, Act.put, List.setIfInBounds_toArray, List.set_cons_zero, List.set_cons_succ]) (hCont (v143, v150, v154) _ ⟨hHeld, (by (with_reducible repeat (first | apply Kd.R_alloc | apply Kd.R_drewN | apply Kd.R_drew)); exact HO151.out), (by (with_reducible repeat (first | apply Kd.R_alloc | apply Kd.R_drewN | apply Kd.R_drew)); exact Kd.R_mono HO155.out (fun _ hk => hk.2)), (by repeat (first | (with_reducible first | exact HB.out | apply below_alloc | apply pw_below_drewN | apply below_drew1) | exact HB.out))⟩)
                                      · skip
                                        refine Kd.R_lit_step k39 _ 39 ?hg (N := 39) ?hd (xs := ([(⟨(rd_T39 l0 a4).f0, (rd_T39 l0 a4).f1⟩ : S39)] : List (S39))) (inner := [.int .i64 ((rd_T39 l0 a4).f0), .int .i64 ((rd_T39 l0 a4).f1)]) (ok := fun _ => True) (okp := fun _ => True) ?hr ?hp (fun _ hk => hk) trivial (Below.refl _ _) (Nat.le_refl _) (by simp) ?_; (case hd => rfl); (case hg => rfl); (case hr => first | (go_simp; done) | (go_simp; rfl)); (case hp => exact (Reps.c2 (show Kd.M k39 _ _ _ (⟨(rd_T39 l0 a4).f0, (rd_T39 l0 a4).f1⟩ : S39) [.int .i64 ((rd_T39 l0 a4).f0), .int .i64 ((rd_T39 l0 a4).f1)] from (k39_mkM _ _ _ (⟨(rd_T39 l0 a4).f0, (rd_T39 l0 a4).f1⟩ : S39) )) (Reps.none _ _)))
                                        intro v154 x19 ho20 hb hg_ hnew_
                                        (first | rw [← Ny153.out] at ho20 | (simp only [Int.reduceToNat] at ho20; rw [← Ny153.out] at ho20))
                                        have n0_ := Aside0.mk (Kd.R_lower ho20 (below_size (by repeat (first | (with_reducible first | exact HB.out | apply below_alloc | apply pw_below_drewN | apply below_drew1) | exact HB.out))))
                                        have n1_ := Aside0.mk (below_step (by repeat (first | (with_reducible first | exact HB.out | apply below_alloc | apply pw_below_drewN | apply below_drew1) | exact HB.out)) hb)
                                        clear HB
                                        have HO155 := n0_
                                        have HB := n1_
                                        clear n0_ n1_
                                        refine hK.out _ _ ⟨((HB.out.cell (World.block_lt_of_cell? wi _ hw152_0)).trans hw152_0), ((HB.out.cell (World.block_lt_of_cell? wi _ hw152_1)).trans hw152_1)⟩ (fun hHeld => ?_)
                                        refine norm_ (a' := ?_) ?_ ?_
                                        rotate_left
                                        · show Act.put _ (some 39) _ = _
                                          simp only [Act.put, List.setIfInBounds_toArray, List.set_cons_zero, List.set_cons_succ, i64_w, i32_w]
                                          rfl
                                        refine one_ (i := 0) (N := some 30) #[true, true, true, true, false, true, true, true, true, true, false, true, true, true, false, false] rfl rfl (one_of HT_.out (by kernel_rfl)) (by decide) (fun K hK => ?_)
                                        refine Kd.R_lit_step k39 _ 39 ?hg (N := 30) ?hd (xs := ([] : List (S39))) (inner := []) (ok := fun _ => True) (okp := fun _ => True) ?hr ?hp (fun _ hk => hk) trivial (Below.refl _ _) (Nat.le_refl _) (by simp) ?_; (case hd => rfl); (case hg => rfl); (case hr => first | (go_simp; done) | (go_simp; rfl)); (case hp => exact (Reps.none _ _))
                                        intro v143 x21 ho22 hb hg_ hnew_
                                        (first | rw [← Ny142.out] at ho22 | (simp only [Int.reduceToNat] at ho22; rw [← Ny142.out] at ho22))
                                        have n0_ := Aside0.mk (Kd.R_elder' (by (with_reducible repeat (first | apply Kd.R_alloc | apply Kd.R_drewN | apply Kd.R_drew)); exact HO155.out) (Kd.R_base ho22) hb)
                                        have n1_ := Aside0.mk (Kd.R_lower (Kd.R_new' ho22 (Kd.R_lt (by (with_reducible repeat (first | apply Kd.R_alloc | apply Kd.R_drewN | apply Kd.R_drew)); exact HO155.out))) (below_size (by repeat (first | (with_reducible first | exact HB.out | apply below_alloc | apply pw_below_drewN | apply below_drew1) | exact HB.out))))
                                        have n2_ := Aside0.mk (below_step (by repeat (first | (with_reducible first | exact HB.out | apply below_alloc | apply pw_below_drewN | apply below_drew1) | exact HB.out)) hb)
                                        clear HO155
                                        clear HB
                                        have HO155 := n0_
                                        have HO144 := n1_
                                        have HB := n2_
                                        clear n0_ n1_ n2_
                                        refine hK.out _ _ ⟨((HB.out.cell (World.block_lt_of_cell? wi _ hw152_0)).trans hw152_0), ((HB.out.cell (World.block_lt_of_cell? wi _ hw152_1)).trans hw152_1)⟩ (fun hHeld => ?_)
                                        refine norm_ (a' := ?_) ?_ ?_
                                        rotate_left
                                        · show Act.put _ (some 30) _ = _
                                          simp only [Act.put, List.setIfInBounds_toArray, List.set_cons_zero, List.set_cons_succ, i64_w, i32_w]
                                          rfl
                                        refine one_ (i := 4) (N := some 34) #[true, true, true, true, true, true, true, true, true, true, false, true, true, true, false, false] rfl rfl (one_of HT_.out (by kernel_rfl)) (by decide) (fun K hK => ?_)
                                        refine Kd.R_append_rows_step k39 (w0 := wi) wi.heap.size (by rfl) (.tmp 30) (.tmp 33) 36 39 (.agg #[(.int .i64 0), (.int .i64 0)]) 16 rfl Try.underlying36 info39 rfl (by decide) (by omega) v143 y142 y145 _ _ _ (fun k_ => some k_ ≠ (v154 : Value).ownBlock) (fun _ => False) rfl rfl ?aO ?aR (fun _ _ h => h) (fun _ h => h.elim) ?aF ?aB ?aS ?aL ?_
                                        (case aR => repeat (first | exact (Kd.C_below HR148.out HB.out) | (have e_ := Kd.C_below HR148.out HB.out; rw [KY17.out] at e_; exact e_) | (with_reducible refine Kd.C_alloc ?_ _) | (with_reducible refine Kd.C_drewN ?_ _) | (with_reducible refine Kd.C_drew ?_)))
                                        (case aB => exact (by repeat (first | (with_reducible first | exact HB.out | apply below_alloc | apply pw_below_drewN | apply below_drew1) | exact HB.out)))
                                        (case aF => exact (fun k_ hk => Kd.fresh' (Kd.R_lt (by (with_reducible repeat (first | apply Kd.R_alloc | apply Kd.R_drewN | apply Kd.R_drew)); exact HO155.out)) k_ hk))
                                        (case aO => exact (by (with_reducible repeat (first | apply Kd.R_alloc | apply Kd.R_drewN | apply Kd.R_drew)); exact Kd.R_mono HO144.out (fun _ hk => hk.2)))
                                        (case aS => exact (below_size (by repeat (first | (with_reducible first | exact HB.out | apply below_alloc | apply pw_below_drewN | apply below_drew1) | exact HB.out))))
                                        (case aL => have := LMc9.out; omega)
                                        intro v150 x23 ho hb hg hat
                                        rw [← Ny149.out] at ho
                                        have n0_ := Aside0.mk (Kd.R_after (ok := (fun _ => True)) (by (with_reducible repeat (first | apply Kd.R_alloc | apply Kd.R_drewN | apply Kd.R_drew)); exact HO155.out) hg hat)
                                        have n1_ := Aside0.mk (hb)
                                        have n2_ := Aside0.mk (ho)
                                        clear HO155
                                        clear HB
                                        clear HO144
                                        have HO155 := n0_
                                        have HB := n1_
                                        have HO151 := n2_
                                        clear n0_ n1_ n2_
                                        refine hK.out _ _ ⟨((HB.out.cell (World.block_lt_of_cell? wi _ hw152_0)).trans hw152_0), ((HB.out.cell (World.block_lt_of_cell? wi _ hw152_1)).trans hw152_1)⟩ (fun hHeld => ?_)
                                        refine norm_ (a' := ?_) ?_ ?_
                                        rotate_left
                                        · show Act.put _ (some 34) _ = _
                                          simp only [Act.put, List.setIfInBounds_toArray, List.set_cons_zero, List.set_cons_succ, i64_w, i32_w]
                                          rfl
                                        exact norm_ (by simp only [putAll, Act.put, List.setIfInBounds_toArray, List.set_cons_zero, List.set_cons_succ]) (hCont (v143, v150, v154) _ ⟨hHeld, (by (with_reducible repeat (first | apply Kd.R_alloc | apply Kd.R_drewN | apply Kd.R_drew)); exact HO151.out), (by (with_reducible repeat (first | apply Kd.R_alloc | apply Kd.R_drewN | apply Kd.R_drew)); exact Kd.R_mono HO155.out (fun _ hk => hk.2)), (by repeat (first | (with_reducible first | exact HB.out | apply below_alloc | apply pw_below_drewN | apply below_drew1) | exact HB.out))⟩)
                                    rintro ⟨v143, v150, v154⟩ x24 ⟨hS_, h0_, h1_, h2_⟩
                                    have n0_ : Aside0 (Kd.R k39 39 x24 wi.heap.size (fun k_ => some k_ ≠ (v154 : Value).ownBlock) v150 y149) := ⟨h0_⟩
                                    have n1_ : Aside0 (Kd.R k39 39 x24 wi.heap.size (fun k_ => some k_ ≠ (v150 : Value).ownBlock) v154 y153) := ⟨h1_⟩
                                    have n2_ : Aside0 (Below wi.heap.size wi x24) := ⟨h2_⟩
                                    clear HB
                                    have HO151 := n0_
                                    have HO155 := n1_
                                    have HB := n2_
                                    clear n0_ n1_ n2_
                                    have hHeld : x24.cell? (ad142.add ((a4).toNat * 2)) = some (.int .i64 ((rd_T39 l0 a4).f0)) ∧ x24.cell? ⟨(ad142.add ((a4).toNat * 2)).block, (ad142.add ((a4).toNat * 2)).off + 1, none⟩ = some (.int .i64 ((rd_T39 l0 a4).f1)) := hS_
                                    obtain ⟨Ao26, co26, eo26⟩ := Kd.R_slice HO155.out
                                    (first | subst eo26 | (injection eo26 with f1_ f2_ f3_; have f4_ := f1_.symm; have f5_ := f3_.symm; clear f1_ f2_ f3_; subst f4_; subst f5_))
                                    refine norm_ (a' := ?_) ?_ ?_
                                    rotate_left
                                    · simp only [putAll, Act.put, List.setIfInBounds_toArray, List.set_cons_zero, List.set_cons_succ]
                                      rfl
                                    refine one_ (i := 10) (N := some 40) #[true, true, true, true, true, true, true, true, true, true, true, true, true, true, false, false] rfl rfl (one_of HT_.out (by kernel_rfl)) (by decide) (fun K hK => ?_)
                                    refine Kd.R_append_rows_step k39 (w0 := wi) wi.heap.size (by rfl) (.tmp 34) (.tmp 39) 36 39 (.agg #[(.int .i64 0), (.int .i64 0)]) 16 rfl Try.underlying36 info39 rfl (by decide) (by omega) v150 y149 y153 _ _ _ (fun k_ => some k_ ≠ (.slice Ao26 y153.length co26 : Value).ownBlock) (fun _ => False) rfl rfl ?aO ?aR (fun _ _ h => h) (fun _ h => h.elim) ?aF ?aB ?aS ?aL ?_
                                    (case aR => repeat (first | exact (Kd.R_reads' HO155.out).2.2 | (with_reducible refine Kd.C_alloc ?_ _) | (with_reducible refine Kd.C_drewN ?_ _) | (with_reducible refine Kd.C_drew ?_)))
                                    (case aB => exact (by repeat (first | (with_reducible first | exact HB.out | apply below_alloc | apply pw_below_drewN | apply below_drew1) | exact HB.out)))
                                    (case aF => exact (fun k_ hk => Kd.fresh' (Kd.R_lt (by (with_reducible repeat (first | apply Kd.R_alloc | apply Kd.R_drewN | apply Kd.R_drew)); exact HO155.out)) k_ hk))
                                    (case aO => exact (by (with_reducible repeat (first | apply Kd.R_alloc | apply Kd.R_drewN | apply Kd.R_drew)); exact HO151.out))
                                    (case aS => exact (below_size (by repeat (first | (with_reducible first | exact HB.out | apply below_alloc | apply pw_below_drewN | apply below_drew1) | exact HB.out))))
                                    (case aL => have := LMc12.out; omega)
                                    intro v157 x25 ho hb hg hat
                                    rw [← Ny156.out] at ho
                                    have n0_ := Aside0.mk (Kd.R_after (ok := (fun _ => True)) (by (with_reducible repeat (first | apply Kd.R_alloc | apply Kd.R_drewN | apply Kd.R_drew)); exact Kd.R_mono HO155.out (fun _ hk => ⟨trivial, hk⟩)) hg hat)
                                    have n1_ := Aside0.mk (hb)
                                    have n2_ := Aside0.mk (ho)
                                    clear HO155
                                    clear HB
                                    clear HO151
                                    have HO155 := n0_
                                    have HB := n1_
                                    have HO158 := n2_
                                    clear n0_ n1_ n2_
                                    refine hK.out _ _ ⟨((HB.out.cell (World.block_lt_of_cell? wi _ hw152_0)).trans hw152_0), ((HB.out.cell (World.block_lt_of_cell? wi _ hw152_1)).trans hw152_1)⟩ (fun hHeld => ?_)
                                    refine norm_ (a' := ?_) ?_ ?_
                                    rotate_left
                                    · show Act.put _ (some 40) _ = _
                                      simp only [Act.put, List.setIfInBounds_toArray, List.set_cons_zero, List.set_cons_succ, i64_w, i32_w]
                                      rfl
                                    refine one_ (i := 14) (N := some 44) #[true, true, true, true, true, true, true, true, true, true, true, true, true, true, true, false] rfl rfl (one_of HT_.out (by kernel_rfl)) (by decide) (fun K hK => ?_)
                                    refine Kd.R_append_rows_step k39 (w0 := wi) wi.heap.size (by rfl) (.tmp 40) (.tmp 43) 36 39 (.agg #[(.int .i64 0), (.int .i64 0)]) 16 rfl Try.underlying36 info39 rfl (by decide) (by omega) v157 y156 y159 _ _ _ (fun k_ => some k_ ≠ (.slice Ao26 y153.length co26 : Value).ownBlock) (fun _ => False) rfl rfl ?aO ?aR (fun _ _ h => h) (fun _ h => h.elim) ?aF ?aB ?aS ?aL ?_
                                    (case aR => repeat (first | exact (Kd.C_below HR162.out HB.out) | (have e_ := Kd.C_below HR162.out HB.out; rw [KY18.out, KA18.out] at e_; exact e_) | (with_reducible refine Kd.C_alloc ?_ _) | (with_reducible refine Kd.C_drewN ?_ _) | (with_reducible refine Kd.C_drew ?_)))
                                    (case aB => exact (by repeat (first | (with_reducible first | exact HB.out | apply below_alloc | apply pw_below_drewN | apply below_drew1) | exact HB.out)))
                                    (case aF => exact (fun k_ hk => Kd.fresh' (Kd.R_lt (by (with_reducible repeat (first | apply Kd.R_alloc | apply Kd.R_drewN | apply Kd.R_drew)); exact HO155.out)) k_ hk))
                                    (case aO => exact (by (with_reducible repeat (first | apply Kd.R_alloc | apply Kd.R_drewN | apply Kd.R_drew)); exact HO158.out))
                                    (case aS => exact (below_size (by repeat (first | (with_reducible first | exact HB.out | apply below_alloc | apply pw_below_drewN | apply below_drew1) | exact HB.out))))
                                    (case aL => have := LMc15.out; omega)
                                    intro v164 x27 ho hb hg hat
                                    rw [← Ny163.out] at ho
                                    have n0_ := Aside0.mk (Kd.R_after (ok := (fun _ => True)) (by (with_reducible repeat (first | apply Kd.R_alloc | apply Kd.R_drewN | apply Kd.R_drew)); exact HO155.out) hg hat)
                                    have n1_ := Aside0.mk (hb)
                                    have n2_ := Aside0.mk (ho)
                                    clear HO155
                                    clear HB
                                    clear HO158
                                    have HO155 := n0_
                                    have HB := n1_
                                    have HO165 := n2_
                                    clear n0_ n1_ n2_
                                    refine hK.out _ _ ⟨((HB.out.cell (World.block_lt_of_cell? wi _ hw152_0)).trans hw152_0), ((HB.out.cell (World.block_lt_of_cell? wi _ hw152_1)).trans hw152_1)⟩ (fun hHeld => ?_)
                                    refine norm_ (a' := ?_) ?_ ?_
                                    rotate_left
                                    · show Act.put _ (some 44) _ = _
                                      simp only [Act.put, List.setIfInBounds_toArray, List.set_cons_zero, List.set_cons_succ, i64_w, i32_w]
                                      rfl
                                    refine pure_ (i := 15) (N := some 3) (v := ?_) (a' := ?_) #[true, true, true, true, true, true, true, true, true, true, true, true, true, true, true, true] rfl rfl (any_of HT_.out (by kernel_rfl)) (fun _ _ _ h => h) (Or.inl ⟨by rfl, ?_⟩) ?_ ?_
                                    rotate_left
                                    · intro w'
                                      go_simp
                                      with_reducible rfl
                                    rotate_left
                                    · simp only [Act.put, List.setIfInBounds_toArray, List.set_cons_zero, List.set_cons_succ, i64_w, i32_w]
                                      rfl
                                    refine done_ (done_of HT_.out (by kernel_rfl)) ?_
                                    try go_wp2
                                    all_goals (
                                      go_roundg go1
                                      case measure => have := HI.out; omega
                                      case rel => exact ⟨wrap64 (a4 + 1), y163, (by first | rfl | (simp only [i64_w]) | (simp [i64_w])), ⟨by have h1 := HI.out; have h2 := HLEN.out; rw [IntWalk.wrap64_in _ (by omega)]; omega⟩, ⟨by have h1 := HI.out; have h2 := HLEN.out; rw [HR8.out, IntWalk.wrap64_in _ (by omega), show (a4 + 1).toNat = a4.toNat + 1 by omega]⟩, ⟨Kd.R_lower (by (with_reducible repeat (first | apply Kd.R_alloc | apply Kd.R_drewN | apply Kd.R_drew)); exact Kd.R_mono HO165.out (fun _ hk => trivial)) HBo.out.size⟩, ⟨below_step HBo.out (by repeat (first | (with_reducible first | exact HB.out | apply below_alloc | apply pw_below_drewN | apply below_drew1) | exact HB.out))⟩⟩)
                                  · rw [if_neg c15] at H
                                    exact absurd H (by simp)
                                · rw [if_neg c12] at H
                                  exact absurd H (by simp)
                              · rw [if_neg c11] at H
                                exact absurd H (by simp)
                            · rw [if_neg c10] at H
                              exact absurd H (by simp)
                          · rw [if_neg c9] at H
                            exact absurd H (by simp)
                        · rw [if_neg c8] at H
                          exact absurd H (by simp)
                      · rw [if_neg c7] at H
                        exact absurd H (by simp)
                  · rw [if_neg c11] at H
                    exact absurd H (by simp)
                · rw [if_neg c10] at H
                  exact absurd H (by simp)
              · rw [if_neg c8] at H
                exact absurd H (by simp)
            · rw [if_neg c7] at H
              exact absurd H (by simp)
          · rw [if_neg c6] at H
            have c6b0 : decide (0 < x5_1) = false := decide_eq_false c6
            clear c6
            obtain rfl := Option.some.inj H
            try go_wp2
            have n0_ := Aside0.mk (below_drew1 HB.out)
            clear HB
            have HB := n0_
            clear n0_
            refine start_ (n := 14) (S := fun w' => True) (ds := []) #[false, false, false, false, false, false, false, false, false, false, false, false, false, false] (by kernel_rfl) rfl rfl trivial (fun hHeld => ?_); refine with_tabW berthingref13_Sort.tab6 berthingref13_Sort.bits6 (fun HT_ HW_ => ?_)
            generalize wr.drew = w18 at HB hHeld ⊢
            refine pure_ (i := 0) (N := some 14) (v := ?_) (a' := ?_) #[true, false, false, false, false, false, false, false, false, false, false, false, false, false] rfl rfl (any_of HT_.out (by kernel_rfl)) (fun _ _ _ h => h) (Or.inl ⟨by rfl, ?_⟩) ?_ ?_
            rotate_left
            · intro w'
              go_simp
              with_reducible rfl
            rotate_left
            · simp only [Act.put, List.setIfInBounds_toArray, List.set_cons_zero, List.set_cons_succ, i64_w, i32_w]
              rfl
            refine pure_ (i := 1) (N := some 15) (v := ?_) (a' := ?_) #[true, true, false, false, false, false, false, false, false, false, false, false, false, false] rfl rfl (any_of HT_.out (by kernel_rfl)) (fun _ _ _ h => h) (Or.inl ⟨by rfl, ?_⟩) ?_ ?_
            rotate_left
            · intro w'
              go_simp
              with_reducible rfl
            rotate_left
            · simp only [Act.put, List.setIfInBounds_toArray, List.set_cons_zero, List.set_cons_succ, i64_w, i32_w]
              rfl
            refine pure_ (i := 2) (N := some 16) (v := ?_) (a' := ?_) #[true, true, true, false, false, false, false, false, false, false, false, false, false, false] rfl rfl (any_of HT_.out (by kernel_rfl)) (fun _ _ _ h => h) (Or.inl ⟨by rfl, ?_⟩) ?_ ?_
            rotate_left
            · intro w'
              go_simp
              with_reducible rfl
            rotate_left
            · simp only [Act.put, List.setIfInBounds_toArray, List.set_cons_zero, List.set_cons_succ, i64_w, i32_w]
              rfl
            refine pure_ (i := 3) (N := some 17) (v := undef) (a' := ?_) #[true, true, true, true, false, false, false, false, false, false, false, false, false, false] rfl rfl (any_of HT_.out (by kernel_rfl)) (fun _ _ _ h => h) (Or.inr ⟨by rfl, rfl⟩) ?_ ?_
            rotate_left
            · simp only [Act.put, List.setIfInBounds_toArray, List.set_cons_zero, List.set_cons_succ, i64_w, i32_w]
              rfl
            refine pure_ (i := 4) (N := some 18) (v := undef) (a' := ?_) #[true, true, true, true, true, false, false, false, false, false, false, false, false, false] rfl rfl (any_of HT_.out (by kernel_rfl)) (fun _ _ _ h => h) (Or.inr ⟨by rfl, rfl⟩) ?_ ?_
            rotate_left
            · simp only [Act.put, List.setIfInBounds_toArray, List.set_cons_zero, List.set_cons_succ, i64_w, i32_w]
              rfl
            refine pure_ (i := 5) (N := some 19) (v := undef) (a' := ?_) #[true, true, true, true, true, true, false, false, false, false, false, false, false, false] rfl rfl (any_of HT_.out (by kernel_rfl)) (fun _ _ _ h => h) (Or.inr ⟨by rfl, rfl⟩) ?_ ?_
            rotate_left
            · simp only [Act.put, List.setIfInBounds_toArray, List.set_cons_zero, List.set_cons_succ, i64_w, i32_w]
              rfl
            refine pure_ (i := 6) (N := some 20) (v := undef) (a' := ?_) #[true, true, true, true, true, true, true, false, false, false, false, false, false, false] rfl rfl (any_of HT_.out (by kernel_rfl)) (fun _ _ _ h => h) (Or.inr ⟨by rfl, rfl⟩) ?_ ?_
            rotate_left
            · simp only [Act.put, List.setIfInBounds_toArray, List.set_cons_zero, List.set_cons_succ, i64_w, i32_w]
              rfl
            refine pure_ (i := 7) (N := some 21) (v := undef) (a' := ?_) #[true, true, true, true, true, true, true, true, false, false, false, false, false, false] rfl rfl (any_of HT_.out (by kernel_rfl)) (fun _ _ _ h => h) (Or.inr ⟨by rfl, rfl⟩) ?_ ?_
            rotate_left
            · simp only [Act.put, List.setIfInBounds_toArray, List.set_cons_zero, List.set_cons_succ, i64_w, i32_w]
              rfl
            refine pure_ (i := 8) (N := some 22) (v := undef) (a' := ?_) #[true, true, true, true, true, true, true, true, true, false, false, false, false, false] rfl rfl (any_of HT_.out (by kernel_rfl)) (fun _ _ _ h => h) (Or.inr ⟨by rfl, rfl⟩) ?_ ?_
            rotate_left
            · simp only [Act.put, List.setIfInBounds_toArray, List.set_cons_zero, List.set_cons_succ, i64_w, i32_w]
              rfl
            refine pure_ (i := 9) (N := some 23) (v := undef) (a' := ?_) #[true, true, true, true, true, true, true, true, true, true, false, false, false, false] rfl rfl (any_of HT_.out (by kernel_rfl)) (fun _ _ _ h => h) (Or.inr ⟨by rfl, rfl⟩) ?_ ?_
            rotate_left
            · simp only [Act.put, List.setIfInBounds_toArray, List.set_cons_zero, List.set_cons_succ, i64_w, i32_w]
              rfl
            refine pure_ (i := 10) (N := some 24) (v := undef) (a' := ?_) #[true, true, true, true, true, true, true, true, true, true, true, false, false, false] rfl rfl (any_of HT_.out (by kernel_rfl)) (fun _ _ _ h => h) (Or.inr ⟨by rfl, rfl⟩) ?_ ?_
            rotate_left
            · simp only [Act.put, List.setIfInBounds_toArray, List.set_cons_zero, List.set_cons_succ, i64_w, i32_w]
              rfl
            refine pure_ (i := 11) (N := some 25) (v := undef) (a' := ?_) #[true, true, true, true, true, true, true, true, true, true, true, true, false, false] rfl rfl (any_of HT_.out (by kernel_rfl)) (fun _ _ _ h => h) (Or.inr ⟨by rfl, rfl⟩) ?_ ?_
            rotate_left
            · simp only [Act.put, List.setIfInBounds_toArray, List.set_cons_zero, List.set_cons_succ, i64_w, i32_w]
              rfl
            refine pure_ (i := 12) (N := some 26) (v := undef) (a' := ?_) #[true, true, true, true, true, true, true, true, true, true, true, true, true, false] rfl rfl (any_of HT_.out (by kernel_rfl)) (fun _ _ _ h => h) (Or.inr ⟨by rfl, rfl⟩) ?_ ?_
            rotate_left
            · simp only [Act.put, List.setIfInBounds_toArray, List.set_cons_zero, List.set_cons_succ, i64_w, i32_w]
              rfl
            refine pure_ (i := 13) (N := some 27) (v := ?_) (a' := ?_) #[true, true, true, true, true, true, true, true, true, true, true, true, true, true] rfl rfl (any_of HT_.out (by kernel_rfl)) (fun _ _ _ h => h) (Or.inl ⟨by rfl, ?_⟩) ?_ ?_
            rotate_left
            · intro w'
              go_simp
              with_reducible rfl
            rotate_left
            · simp only [Act.put, List.setIfInBounds_toArray, List.set_cons_zero, List.set_cons_succ, i64_w, i32_w]
              rfl
            refine done_ (done_of HT_.out (by kernel_rfl)) ?_
            try go_wp2
            try clear hji9w
            try clear hji9
            have H : ((some (([] : List (S39)) : List (S39))).bind fun y142 => (if 0 ≤ x5_1 then (if x5_1 ≤ (l3.length : Int) then ((some (l3.take (x5_1 : Int).toNat : List (S39))).bind fun y145 => (if y142.length + y145.length < 8796093022208 then ((some (y142 ++ y145 : List (S39))).bind fun y149 => (if 0 ≤ a4 then (if a4 < (l0.length : Int) then ((some (([(⟨(rd_T39 l0 a4).f0, (rd_T39 l0 a4).f1⟩ : S39)] : List (S39)) : List (S39))).bind fun y153 => (if y149.length + y153.length < 8796093022208 then ((some (y149 ++ y153 : List (S39))).bind fun y156 => ((some (l3.drop (x5_1 : Int).toNat : List (S39))).bind fun y159 => (if y156.length + y159.length < 8796093022208 then (some (y156 ++ y159)) else (none)))) else (none))) else (none)) else (none))) else (none))) else (none)) else (none))) = some r8 := HCH.out
            obtain ⟨y142, hy142⟩ : ∃ y_ : List (S39), y_ = (([] : List (S39))) := ⟨_, rfl⟩
            replace H : (if 0 ≤ x5_1 then (if x5_1 ≤ (l3.length : Int) then ((some (l3.take (x5_1 : Int).toNat : List (S39))).bind fun y145 => (if y142.length + y145.length < 8796093022208 then ((some (y142 ++ y145 : List (S39))).bind fun y149 => (if 0 ≤ a4 then (if a4 < (l0.length : Int) then ((some (([(⟨(rd_T39 l0 a4).f0, (rd_T39 l0 a4).f1⟩ : S39)] : List (S39)) : List (S39))).bind fun y153 => (if y149.length + y153.length < 8796093022208 then ((some (y149 ++ y153 : List (S39))).bind fun y156 => ((some (l3.drop (x5_1 : Int).toNat : List (S39))).bind fun y159 => (if y156.length + y159.length < 8796093022208 then (some (y156 ++ y159)) else (none)))) else (none))) else (none)) else (none))) else (none))) else (none)) else (none)) = some r8 := by first | (rw [hy142]; with_reducible exact H) | (have H2_ := (Option.bind_some _ _).symm.trans H; rw [hy142]; with_reducible exact H2_) | (have H2_ := (Option.bind_some _ _).symm.trans H; with_reducible exact H2_) | with_reducible exact H | (rw [hy142]; exact H) | exact H
            have Ny142 := Aside0.mk hy142
            by_cases c7 : 0 ≤ x5_1
            · rw [if_pos c7] at H
              have c7b0 := eq_true c7
              have c7b1 : decide (0 ≤ x5_1) = true := decide_eq_true c7
              clear c7
              by_cases c8 : x5_1 ≤ (l3.length : Int)
              · rw [if_pos c8] at H
                have c8b0 := eq_true c8
                have c8b1 : decide (x5_1 ≤ (l3.length : Int)) = true := decide_eq_true c8
                clear c8
                obtain ⟨y145, hy145⟩ : ∃ y_ : List (S39), y_ = (l3.take (x5_1 : Int).toNat) := ⟨_, rfl⟩
                replace H : (if y142.length + y145.length < 8796093022208 then ((some (y142 ++ y145 : List (S39))).bind fun y149 => (if 0 ≤ a4 then (if a4 < (l0.length : Int) then ((some (([(⟨(rd_T39 l0 a4).f0, (rd_T39 l0 a4).f1⟩ : S39)] : List (S39)) : List (S39))).bind fun y153 => (if y149.length + y153.length < 8796093022208 then ((some (y149 ++ y153 : List (S39))).bind fun y156 => ((some (l3.drop (x5_1 : Int).toNat : List (S39))).bind fun y159 => (if y156.length + y159.length < 8796093022208 then (some (y156 ++ y159)) else (none)))) else (none))) else (none)) else (none))) else (none)) = some r8 := by first | (rw [hy145]; with_reducible exact H) | (have H2_ := (Option.bind_some _ _).symm.trans H; rw [hy145]; with_reducible exact H2_) | (have H2_ := (Option.bind_some _ _).symm.trans H; with_reducible exact H2_) | with_reducible exact H | (rw [hy145]; exact H) | exact H
                have Ny145 := Aside0.mk hy145
                by_cases c9 : y142.length + y145.length < 8796093022208
                · rw [if_pos c9] at H
                  have LMc9 := Aside0.mk c9
                  clear c9
                  obtain ⟨y149, hy149⟩ : ∃ y_ : List (S39), y_ = (y142 ++ y145) := ⟨_, rfl⟩
                  replace H : (if 0 ≤ a4 then (if a4 < (l0.length : Int) then ((some (([(⟨(rd_T39 l0 a4).f0, (rd_T39 l0 a4).f1⟩ : S39)] : List (S39)) : List (S39))).bind fun y153 => (if y149.length + y153.length < 8796093022208 then ((some (y149 ++ y153 : List (S39))).bind fun y156 => ((some (l3.drop (x5_1 : Int).toNat : List (S39))).bind fun y159 => (if y156.length + y159.length < 8796093022208 then (some (y156 ++ y159)) else (none)))) else (none))) else (none)) else (none)) = some r8 := by first | (rw [hy149]; with_reducible exact H) | (have H2_ := (Option.bind_some _ _).symm.trans H; rw [hy149]; with_reducible exact H2_) | (have H2_ := (Option.bind_some _ _).symm.trans H; with_reducible exact H2_) | with_reducible exact H | (rw [hy149]; exact H) | exact H
                  have Ny149 := Aside0.mk hy149
                  by_cases c10 : 0 ≤ a4
                  · rw [if_pos c10] at H
                    have c10b0 : decide (0 ≤ a4) = true := decide_eq_true c10
                    clear c10
                    by_cases c11 : a4 < (l0.length : Int)
                    · rw [if_pos c11] at H
                      have c11b0 : decide (a4 < (l0.length : Int)) = true := decide_eq_true c11
                      clear c11
                      obtain ⟨y153, hy153⟩ : ∃ y_ : List (S39), y_ = (([(⟨(rd_T39 l0 a4).f0, (rd_T39 l0 a4).f1⟩ : S39)] : List (S39))) := ⟨_, rfl⟩
                      replace H : (if y149.length + y153.length < 8796093022208 then ((some (y149 ++ y153 : List (S39))).bind fun y156 => ((some (l3.drop (x5_1 : Int).toNat : List (S39))).bind fun y159 => (if y156.length + y159.length < 8796093022208 then (some (y156 ++ y159)) else (none)))) else (none)) = some r8 := by first | (rw [hy153]; with_reducible exact H) | (have H2_ := (Option.bind_some _ _).symm.trans H; rw [hy153]; with_reducible exact H2_) | (have H2_ := (Option.bind_some _ _).symm.trans H; with_reducible exact H2_) | with_reducible exact H | (rw [hy153]; exact H) | exact H
                      have Ny153 := Aside0.mk hy153
                      by_cases c12 : y149.length + y153.length < 8796093022208
                      · rw [if_pos c12] at H
                        have LMc12 := Aside0.mk c12
                        clear c12
                        obtain ⟨y156, hy156⟩ : ∃ y_ : List (S39), y_ = (y149 ++ y153) := ⟨_, rfl⟩
                        replace H : ((some (l3.drop (x5_1 : Int).toNat : List (S39))).bind fun y159 => (if y156.length + y159.length < 8796093022208 then (some (y156 ++ y159)) else (none))) = some r8 := by first | (rw [hy156]; with_reducible exact H) | (have H2_ := (Option.bind_some _ _).symm.trans H; rw [hy156]; with_reducible exact H2_) | (have H2_ := (Option.bind_some _ _).symm.trans H; with_reducible exact H2_) | with_reducible exact H | (rw [hy156]; exact H) | exact H
                        have Ny156 := Aside0.mk hy156
                        have c13b0 := eq_true (of_decide_eq_true (by first | (with_reducible assumption) | assumption) : 0 ≤ x5_1)
                        have c14b0 := eq_true (of_decide_eq_true (by first | (with_reducible assumption) | assumption) : x5_1 ≤ (l3.length : Int))
                        obtain ⟨y159, hy159⟩ : ∃ y_ : List (S39), y_ = (l3.drop (x5_1 : Int).toNat) := ⟨_, rfl⟩
                        replace H : (if y156.length + y159.length < 8796093022208 then (some (y156 ++ y159)) else (none)) = some r8 := by first | (rw [hy159]; with_reducible exact H) | (have H2_ := (Option.bind_some _ _).symm.trans H; rw [hy159]; with_reducible exact H2_) | (have H2_ := (Option.bind_some _ _).symm.trans H; with_reducible exact H2_) | with_reducible exact H | (rw [hy159]; exact H) | exact H
                        have Ny159 := Aside0.mk hy159
                        by_cases c15 : y156.length + y159.length < 8796093022208
                        · rw [if_pos c15] at H
                          have LMc15 := Aside0.mk c15
                          clear c15
                          obtain ⟨y163, hy163⟩ : ∃ y_ : List (S39), y_ = (y156 ++ y159) := ⟨_, rfl⟩
                          replace H : (some y163) = some r8 := by first | (rw [hy163]; with_reducible exact H) | (have H2_ := (Option.bind_some _ _).symm.trans H; rw [hy163]; with_reducible exact H2_) | (have H2_ := (Option.bind_some _ _).symm.trans H; with_reducible exact H2_) | with_reducible exact H | (rw [hy163]; exact H) | exact H
                          have Ny163 := Aside0.mk hy163
                          obtain rfl := Option.some.inj H
                          try go_wp2
                          have n0_ := Aside0.mk (below_drew1 HB.out)
                          clear HB
                          have HB := n0_
                          clear n0_
                          have q17 : (x5_1 : Int) ≤ ((l3.length : Int) : Int) := of_decide_eq_true (by first | (with_reducible assumption) | assumption)
                          obtain ⟨i017, hi017, _, hsz17, _⟩ := info_parts info39
                          have hroom17 : l3.length ≤ c3 := HC3.out
                          have hC17 : Kd.C k39 _ A3 l3.length l3 := HR3.out
                          have hcut17 := cut_to (P := Try.prog) 36 39 .i64 Try.underlying36 hi017 A3 l3.length c3 x5_1 (of_decide_eq_true (by first | (with_reducible assumption) | assumption)) q17 hroom17
                          have hr17 := Kd.C_take (m := (x5_1 : Int).toNat) hC17 (by omega)
                          have hy17 : y145.length = (x5_1 : Int).toNat := (by rw [Ny145.out, List.length_take]; omega)
                          rw [← Ny145.out] at hr17
                          rw [← hy17] at hcut17
                          have HR148 := Aside0.mk hr17
                          have HC148 := Aside0.mk (show y145.length ≤ c3 from by omega)
                          have KY17 := Aside0.mk hy17
                          replace q17 := eq_true q17
                          have p152 : 0 ≤ (a4 : Int) := of_decide_eq_true (by first | (with_reducible assumption) | assumption)
                          have q152 : a4 < (l0.length : Int) := of_decide_eq_true (by first | (with_reducible assumption) | assumption)
                          obtain ⟨ad152, e152, hx152_0, hx152_1⟩ := at_T39 HR0.out a4 p152 q152
                          have hw152_1 := hx152_1
                          have hw152_0 := hx152_0
                          cases e152
                          replace hx152_0 := (HB.out.cell (World.block_lt_of_cell? wi _ hx152_0)).trans hx152_0
                          replace hx152_1 := (HB.out.cell (World.block_lt_of_cell? wi _ hx152_1)).trans hx152_1
                          replace p152 := eq_true p152
                          replace q152 := eq_true q152
                          have q18 : (x5_1 : Int) ≤ ((l3.length : Int) : Int) := of_decide_eq_true (by first | (with_reducible assumption) | assumption)
                          obtain ⟨i018, hi018, _, hsz18, _⟩ := info_parts info39
                          have hroom18 : l3.length ≤ c3 := HC3.out
                          have hC18 : Kd.C k39 _ A3 l3.length l3 := HR3.out
                          have q018 : (0 : Int) ≤ (x5_1 : Int) := of_decide_eq_true (by first | (with_reducible assumption) | assumption)
                          have hcut18 := cut_from (P := Try.prog) 36 39 .i64 Try.underlying36 hi018 2 hsz18 A3 l3.length c3 x5_1 q018 q18
                          have hr18 := Kd.C_drop (m := (x5_1 : Int).toNat) (c := c3) hC18 (by omega) hroom18
                          obtain ⟨A18, hA18⟩ : ∃ A1, A1 = (if c3 = (x5_1 : Int).toNat then A3 else (A3 : Option Addr).map (·.add ((x5_1 : Int).toNat * 2))) := ⟨_, rfl⟩
                          obtain ⟨c18, hc18⟩ : ∃ c1, c1 = c3 - (x5_1 : Int).toNat := ⟨_, rfl⟩
                          have hy18 : y159.length = l3.length - (x5_1 : Int).toNat := (by rw [Ny159.out, List.length_drop] <;> omega)
                          rw [show (l3).drop (x5_1 : Int).toNat = y159 from Ny159.out.symm] at hr18
                          replace hr18 : Kd.C k39 _ A18 y159.length y159 := (by rw [hA18]; exact hr18)
                          rw [← hy18, ← hA18, ← hc18] at hcut18
                          have HR162 := Aside0.mk hr18
                          have HC162 := Aside0.mk (show y159.length ≤ c18 from by rw [hy18, hc18]; exact Nat.sub_le_sub_right hroom18 _)
                          have KY18 := Aside0.mk hy18
                          have KA18 := Aside0.mk hA18
                          replace q18 := eq_true q18
                          refine start_ (n := 16) (S := fun w' => w'.cell? (ad152.add ((a4).toNat * 2)) = some (.int .i64 ((rd_T39 l0 a4).f0)) ∧ w'.cell? ⟨(ad152.add ((a4).toNat * 2)).block, (ad152.add ((a4).toNat * 2)).off + 1, none⟩ = some (.int .i64 ((rd_T39 l0 a4).f1))) (ds := []) #[false, false, false, false, false, false, false, false, false, false, false, false, false, false, false, false] (by kernel_rfl) rfl rfl ⟨((HB.out.cell (World.block_lt_of_cell? wi _ hw152_0)).trans hw152_0), ((HB.out.cell (World.block_lt_of_cell? wi _ hw152_1)).trans hw152_1)⟩ (fun hHeld => ?_); refine with_tabW berthingref13_Sort.tab8 berthingref13_Sort.bits8 (fun HT_ HW_ => ?_)
                          generalize w18.drew = x16 at HB HR148 HR162 hx152_0 hx152_1 hHeld ⊢
                          refine pure_ (i := 1) (N := some 31) (v := ?_) (a' := ?_) #[false, true, false, false, false, false, false, false, false, false, false, false, false, false, false, false] rfl rfl (any_of HT_.out (by kernel_rfl)) (fun _ _ _ h => h) (Or.inl ⟨by rfl, ?_⟩) ?_ ?_
                          rotate_left
                          · intro w'
                            go_simp
                            with_reducible rfl
                          rotate_left
                          · simp only [Act.put, List.setIfInBounds_toArray, List.set_cons_zero, List.set_cons_succ, i64_w, i32_w]
                            rfl
                          refine pure_ (i := 2) (N := some 32) (v := ?_) (a' := ?_) #[false, true, true, false, false, false, false, false, false, false, false, false, false, false, false, false] rfl rfl (any_of HT_.out (by kernel_rfl)) (fun _ _ _ h => h) (Or.inl ⟨by rfl, ?_⟩) ?_ ?_
                          rotate_left
                          · intro w'
                            go_simp
                            with_reducible rfl
                          rotate_left
                          · simp only [Act.put, List.setIfInBounds_toArray, List.set_cons_zero, List.set_cons_succ, i64_w, i32_w]
                            rfl
                          refine pure_ (i := 3) (N := some 33) (v := ?_) (a' := ?_) #[false, true, true, true, false, false, false, false, false, false, false, false, false, false, false, false] rfl rfl (any_of HT_.out (by kernel_rfl)) (fun _ _ _ h => h) (Or.inl ⟨by rfl, ?_⟩) ?_ ?_
                          rotate_left
                          · intro w'
                            go_simp
                            with_reducible rfl
                          rotate_left
                          · simp only [Act.put, List.setIfInBounds_toArray, List.set_cons_zero, List.set_cons_succ, i64_w, i32_w]
                            rfl
                          refine pure_ (i := 5) (N := some 35) (v := ?_) (a' := ?_) #[false, true, true, true, false, true, false, false, false, false, false, false, false, false, false, false] rfl rfl (any_of HT_.out (by kernel_rfl)) (fun _ _ _ h => h) (Or.inl ⟨by rfl, ?_⟩) ?_ ?_
                          rotate_left
                          · intro w'
                            go_simp
                            with_reducible rfl
                          rotate_left
                          · simp only [Act.put, List.setIfInBounds_toArray, List.set_cons_zero, List.set_cons_succ, i64_w, i32_w]
                            rfl
                          refine pure_ (i := 6) (N := some 36) (v := ?_) (a' := ?_) #[false, true, true, true, false, true, true, false, false, false, false, false, false, false, false, false] rfl rfl (any_of HT_.out (by kernel_rfl)) (fun _ _ _ h => h) (Or.inl ⟨by rfl, ?_⟩) ?_ ?_
                          rotate_left
                          · intro w'
                            go_simp
                            with_reducible rfl
                          rotate_left
                          · simp only [Act.put, List.setIfInBounds_toArray, List.set_cons_zero, List.set_cons_succ, i64_w, i32_w]
                            rfl
                          refine pure_ (i := 7) (N := some 37) (v := ?_) (a' := ?_) #[false, true, true, true, false, true, true, true, false, false, false, false, false, false, false, false] rfl rfl (any_of HT_.out (by kernel_rfl)) (fun _ _ _ h => h) (Or.inl ⟨by rfl, ?_⟩) ?_ ?_
                          rotate_left
                          · intro w'
                            go_simp
                            with_reducible rfl
                          rotate_left
                          · simp only [Act.put, List.setIfInBounds_toArray, List.set_cons_zero, List.set_cons_succ, i64_w, i32_w]
                            rfl
                          refine pure_ (i := 11) (N := some 41) (v := ?_) (a' := ?_) #[false, true, true, true, false, true, true, true, false, false, false, true, false, false, false, false] rfl rfl (any_of HT_.out (by kernel_rfl)) (fun _ _ _ h => h) (Or.inl ⟨by rfl, ?_⟩) ?_ ?_
                          rotate_left
                          · intro w'
                            go_simp
                            with_reducible rfl
                          rotate_left
                          · simp only [Act.put, List.setIfInBounds_toArray, List.set_cons_zero, List.set_cons_succ, i64_w, i32_w]
                            rfl
                          refine pure_ (i := 12) (N := some 42) (v := ?_) (a' := ?_) #[false, true, true, true, false, true, true, true, false, false, false, true, true, false, false, false] rfl rfl (any_of HT_.out (by kernel_rfl)) (fun _ _ _ h => h) (Or.inl ⟨by rfl, ?_⟩) ?_ ?_
                          rotate_left
                          · intro w'
                            go_simp
                            with_reducible rfl
                          rotate_left
                          · simp only [Act.put, List.setIfInBounds_toArray, List.set_cons_zero, List.set_cons_succ, i64_w, i32_w]
                            rfl
                          refine pure_ (i := 13) (N := some 43) (v := ?_) (a' := ?_) #[false, true, true, true, false, true, true, true, false, false, false, true, true, true, false, false] rfl rfl (any_of HT_.out (by kernel_rfl)) (fun _ _ _ h => h) (Or.inl ⟨by rfl, ?_⟩) ?_ ?_
                          rotate_left
                          · intro w'
                            go_simp
                            with_reducible rfl
                          rotate_left
                          · simp only [Act.put, List.setIfInBounds_toArray, List.set_cons_zero, List.set_cons_succ, i64_w, i32_w]
                            rfl
                          refine take_ (i := 8) (N := some 38) (v := ?_) (a' := ?_) #[false, true, true, true, false, true, true, true, true, false, false, true, true, true, false, false] rfl rfl (take_ofW HT_.out HW_.out (by kernel_rfl)) (fun _ _ _ h => h) (Or.inl ⟨by rfl, ?_⟩) hHeld ?_ ?_
                          rotate_left
                          · rintro w' ⟨s0, s1⟩
                            go_simp
                            with_reducible rfl
                          rotate_left
                          · simp only [Act.put, List.setIfInBounds_toArray, List.set_cons_zero, List.set_cons_succ, i64_w, i32_w]
                            rfl
                          refine join_ (σ := Value × Value × Value) 3 #[true, true, true, true, true, true, true, true, true, true, false, true, true, true, false, false] (fun s_ => [(30, s_.1), (34, s_.2.1), (39, s_.2.2)]) (fun s_ w' => (w'.cell? (ad152.add ((a4).toNat * 2)) = some (.int .i64 ((rd_T39 l0 a4).f0)) ∧ w'.cell? ⟨(ad152.add ((a4).toNat * 2)).block, (ad152.add ((a4).toNat * 2)).off + 1, none⟩ = some (.int .i64 ((rd_T39 l0 a4).f1))) ∧ (Kd.R k39 39 w' wi.heap.size (fun k_ => some k_ ≠ (s_.2.2 : Value).ownBlock) s_.2.1 y149) ∧ (Kd.R k39 39 w' wi.heap.size (fun k_ => some k_ ≠ (s_.2.1 : Value).ownBlock) s_.2.2 y153) ∧ (Below wi.heap.size wi w')) ?_ ?_
                          rotate_left
                          · intro hCont
                            refine two_ (i := 0) (j := 9) (Ni := some 30) (Nj := some 39) #[true, true, true, true, false, true, true, true, true, false, false, true, true, true, false, false] #[false, true, true, true, false, true, true, true, true, true, false, true, true, true, false, false] rfl rfl rfl rfl (two_of HT_.out (by kernel_rfl)) (by decide) (by decide) (fun K hK => ?_) (fun K hK => ?_)
                            · skip
                              refine Kd.R_lit_step k39 _ 39 ?hg (N := 30) ?hd (xs := ([] : List (S39))) (inner := []) (ok := fun _ => True) (okp := fun _ => True) ?hr ?hp (fun _ hk => hk) trivial (Below.refl _ _) (Nat.le_refl _) (by simp) ?_; (case hd => rfl); (case hg => rfl); (case hr => first | (go_simp; done) | (go_simp; rfl)); (case hp => exact (Reps.none _ _))
                              intro v143 x19 ho20 hb hg_ hnew_
                              (first | rw [← Ny142.out] at ho20 | (simp only [Int.reduceToNat] at ho20; rw [← Ny142.out] at ho20))
                              have n0_ := Aside0.mk (Kd.R_lower ho20 (below_size (by repeat (first | (with_reducible first | exact HB.out | apply below_alloc | apply pw_below_drewN | apply below_drew1) | exact HB.out))))
                              have n1_ := Aside0.mk (below_step (by repeat (first | (with_reducible first | exact HB.out | apply below_alloc | apply pw_below_drewN | apply below_drew1) | exact HB.out)) hb)
                              clear HB
                              have HO144 := n0_
                              have HB := n1_
                              clear n0_ n1_
                              refine hK.out _ _ ⟨((HB.out.cell (World.block_lt_of_cell? wi _ hw152_0)).trans hw152_0), ((HB.out.cell (World.block_lt_of_cell? wi _ hw152_1)).trans hw152_1)⟩ (fun hHeld => ?_)
                              refine norm_ (a' := ?_) ?_ ?_
                              rotate_left
                              · show Act.put _ (some 30) _ = _
                                simp only [Act.put, List.setIfInBounds_toArray, List.set_cons_zero, List.set_cons_succ, i64_w, i32_w]
                                rfl
                              refine two_ (i := 4) (j := 9) (Ni := some 34) (Nj := some 39) #[true, true, true, true, true, true, true, true, true, false, false, true, true, true, false, false] #[true, true, true, true, false, true, true, true, true, true, false, true, true, true, false, false] rfl rfl rfl rfl (two_of HT_.out (by kernel_rfl)) (by decide) (by decide) (fun K hK => ?_) (fun K hK => ?_)
                              · skip
                                refine Kd.R_append_rows_step k39 (w0 := wi) wi.heap.size (by rfl) (.tmp 30) (.tmp 33) 36 39 (.agg #[(.int .i64 0), (.int .i64 0)]) 16 rfl Try.underlying36 info39 rfl (by decide) (by omega) v143 y142 y145 _ _ _ (fun _ => True) (fun _ => False) rfl rfl ?aO ?aR (fun _ _ h => h) (fun _ h => h.elim) ?aF ?aB ?aS ?aL ?_
                                (case aR => repeat (first | exact (Kd.C_below HR148.out HB.out) | (have e_ := Kd.C_below HR148.out HB.out; rw [KY17.out] at e_; exact e_) | (with_reducible refine Kd.C_alloc ?_ _) | (with_reducible refine Kd.C_drewN ?_ _) | (with_reducible refine Kd.C_drew ?_)))
                                (case aB => exact (by repeat (first | (with_reducible first | exact HB.out | apply below_alloc | apply pw_below_drewN | apply below_drew1) | exact HB.out)))
                                (case aF => exact (fun _ _ => trivial))
                                (case aO => exact (by (with_reducible repeat (first | apply Kd.R_alloc | apply Kd.R_drewN | apply Kd.R_drew)); exact HO144.out))
                                (case aS => exact (below_size (by repeat (first | (with_reducible first | exact HB.out | apply below_alloc | apply pw_below_drewN | apply below_drew1) | exact HB.out))))
                                (case aL => have := LMc9.out; omega)
                                intro v150 x21 ho hb hg hat
                                rw [← Ny149.out] at ho
                                have n0_ := Aside0.mk (hb)
                                have n1_ := Aside0.mk (ho)
                                clear HB
                                clear HO144
                                have HB := n0_
                                have HO151 := n1_
                                clear n0_ n1_
                                refine hK.out _ _ ⟨((HB.out.cell (World.block_lt_of_cell? wi _ hw152_0)).trans hw152_0), ((HB.out.cell (World.block_lt_of_cell? wi _ hw152_1)).trans hw152_1)⟩ (fun hHeld => ?_)
                                refine norm_ (a' := ?_) ?_ ?_
                                rotate_left
                                · show Act.put _ (some 34) _ = _
                                  simp only [Act.put, List.setIfInBounds_toArray, List.set_cons_zero, List.set_cons_succ, i64_w, i32_w]
                                  rfl
                                refine one_ (i := 9) (N := some 39) #[true, true, true, true, true, true, true, true, true, true, false, true, true, true, false, false] rfl rfl (one_of HT_.out (by kernel_rfl)) (by decide) (fun K hK => ?_)
                                refine Kd.R_lit_step k39 _ 39 ?hg (N := 39) ?hd (xs := ([(⟨(rd_T39 l0 a4).f0, (rd_T39 l0 a4).f1⟩ : S39)] : List (S39))) (inner := [.int .i64 ((rd_T39 l0 a4).f0), .int .i64 ((rd_T39 l0 a4).f1)]) (ok := fun _ => True) (okp := fun _ => True) ?hr ?hp (fun _ hk => hk) trivial (Below.refl _ _) (Nat.le_refl _) (by simp) ?_; (case hd => rfl); (case hg => rfl); (case hr => first | (go_simp; done) | (go_simp; rfl)); (case hp => exact (Reps.c2 (show Kd.M k39 _ _ _ (⟨(rd_T39 l0 a4).f0, (rd_T39 l0 a4).f1⟩ : S39) [.int .i64 ((rd_T39 l0 a4).f0), .int .i64 ((rd_T39 l0 a4).f1)] from (k39_mkM _ _ _ (⟨(rd_T39 l0 a4).f0, (rd_T39 l0 a4).f1⟩ : S39) )) (Reps.none _ _)))
                                intro v154 x22 ho23 hb hg_ hnew_
                                (first | rw [← Ny153.out] at ho23 | (simp only [Int.reduceToNat] at ho23; rw [← Ny153.out] at ho23))
                                have n0_ := Aside0.mk (Kd.R_elder' (by (with_reducible repeat (first | apply Kd.R_alloc | apply Kd.R_drewN | apply Kd.R_drew)); exact HO151.out) (Kd.R_base ho23) hb)
                                have n1_ := Aside0.mk (Kd.R_lower (Kd.R_new' ho23 (Kd.R_lt (by (with_reducible repeat (first | apply Kd.R_alloc | apply Kd.R_drewN | apply Kd.R_drew)); exact HO151.out))) (below_size (by repeat (first | (with_reducible first | exact HB.out | apply below_alloc | apply pw_below_drewN | apply below_drew1) | exact HB.out))))
                                have n2_ := Aside0.mk (below_step (by repeat (first | (with_reducible first | exact HB.out | apply below_alloc | apply pw_below_drewN | apply below_drew1) | exact HB.out)) hb)
                                clear HO151
                                clear HB
                                have HO151 := n0_
                                have HO155 := n1_
                                have HB := n2_
                                clear n0_ n1_ n2_
                                refine hK.out _ _ ⟨((HB.out.cell (World.block_lt_of_cell? wi _ hw152_0)).trans hw152_0), ((HB.out.cell (World.block_lt_of_cell? wi _ hw152_1)).trans hw152_1)⟩ (fun hHeld => ?_)
                                refine norm_ (a' := ?_) ?_ ?_
                                rotate_left
                                · show Act.put _ (some 39) _ = _
                                  simp only [Act.put, List.setIfInBounds_toArray, List.set_cons_zero, List.set_cons_succ, i64_w, i32_w]
                                  rfl
                                exact norm_ (by simp only [putAll, Act.put, List.setIfInBounds_toArray, List.set_cons_zero, List.set_cons_succ]) (hCont (v143, v150, v154) _ ⟨hHeld, (by (with_reducible repeat (first | apply Kd.R_alloc | apply Kd.R_drewN | apply Kd.R_drew)); exact Kd.R_mono HO151.out (fun _ hk => hk.2)), (by (with_reducible repeat (first | apply Kd.R_alloc | apply Kd.R_drewN | apply Kd.R_drew)); exact Kd.R_mono HO155.out (fun _ hk => hk.2)), (by repeat (first | (with_reducible first | exact HB.out | apply below_alloc | apply pw_below_drewN | apply below_drew1) | exact HB.out))⟩)
                              · skip
                                refine Kd.R_lit_step k39 _ 39 ?hg (N := 39) ?hd (xs := ([(⟨(rd_T39 l0 a4).f0, (rd_T39 l0 a4).f1⟩ : S39)] : List (S39))) (inner := [.int .i64 ((rd_T39 l0 a4).f0), .int .i64 ((rd_T39 l0 a4).f1)]) (ok := fun _ => True) (okp := fun _ => True) ?hr ?hp (fun _ hk => hk) trivial (Below.refl _ _) (Nat.le_refl _) (by simp) ?_; (case hd => rfl); (case hg => rfl); (case hr => first | (go_simp; done) | (go_simp; rfl)); (case hp => exact (Reps.c2 (show Kd.M k39 _ _ _ (⟨(rd_T39 l0 a4).f0, (rd_T39 l0 a4).f1⟩ : S39) [.int .i64 ((rd_T39 l0 a4).f0), .int .i64 ((rd_T39 l0 a4).f1)] from (k39_mkM _ _ _ (⟨(rd_T39 l0 a4).f0, (rd_T39 l0 a4).f1⟩ : S39) )) (Reps.none _ _)))
                                intro v154 x21 ho22 hb hg_ hnew_
                                (first | rw [← Ny153.out] at ho22 | (simp only [Int.reduceToNat] at ho22; rw [← Ny153.out] at ho22))
                                have n0_ := Aside0.mk (Kd.R_elder' (by (with_reducible repeat (first | apply Kd.R_alloc | apply Kd.R_drewN | apply Kd.R_drew)); exact HO144.out) (Kd.R_base ho22) hb)
                                have n1_ := Aside0.mk (Kd.R_lower (Kd.R_new' ho22 (Kd.R_lt (by (with_reducible repeat (first | apply Kd.R_alloc | apply Kd.R_drewN | apply Kd.R_drew)); exact HO144.out))) (below_size (by repeat (first | (with_reducible first | exact HB.out | apply below_alloc | apply pw_below_drewN | apply below_drew1) | exact HB.out))))
                                have n2_ := Aside0.mk (below_step (by repeat (first | (with_reducible first | exact HB.out | apply below_alloc | apply pw_below_drewN | apply below_drew1) | exact HB.out)) hb)
                                clear HO144
                                clear HB
                                have HO144 := n0_
                                have HO155 := n1_
                                have HB := n2_
                                clear n0_ n1_ n2_
                                refine hK.out _ _ ⟨((HB.out.cell (World.block_lt_of_cell? wi _ hw152_0)).trans hw152_0), ((HB.out.cell (World.block_lt_of_cell? wi _ hw152_1)).trans hw152_1)⟩ (fun hHeld => ?_)
                                refine norm_ (a' := ?_) ?_ ?_
                                rotate_left
                                · show Act.put _ (some 39) _ = _
                                  simp only [Act.put, List.setIfInBounds_toArray, List.set_cons_zero, List.set_cons_succ, i64_w, i32_w]
                                  rfl
                                refine one_ (i := 4) (N := some 34) #[true, true, true, true, true, true, true, true, true, true, false, true, true, true, false, false] rfl rfl (one_of HT_.out (by kernel_rfl)) (by decide) (fun K hK => ?_)
                                refine Kd.R_append_rows_step k39 (w0 := wi) wi.heap.size (by rfl) (.tmp 30) (.tmp 33) 36 39 (.agg #[(.int .i64 0), (.int .i64 0)]) 16 rfl Try.underlying36 info39 rfl (by decide) (by omega) v143 y142 y145 _ _ _ (fun k_ => some k_ ≠ (v154 : Value).ownBlock) (fun _ => False) rfl rfl ?aO ?aR (fun _ _ h => h) (fun _ h => h.elim) ?aF ?aB ?aS ?aL ?_
                                (case aR => repeat (first | exact (Kd.C_below HR148.out HB.out) | (have e_ := Kd.C_below HR148.out HB.out; rw [KY17.out] at e_; exact e_) | (with_reducible refine Kd.C_alloc ?_ _) | (with_reducible refine Kd.C_drewN ?_ _) | (with_reducible refine Kd.C_drew ?_)))
                                (case aB => exact (by repeat (first | (with_reducible first | exact HB.out | apply below_alloc | apply pw_below_drewN | apply below_drew1) | exact HB.out)))
                                (case aF => exact (fun k_ hk => Kd.fresh' (Kd.R_lt (by (with_reducible repeat (first | apply Kd.R_alloc | apply Kd.R_drewN | apply Kd.R_drew)); exact HO155.out)) k_ hk))
                                (case aO => exact (by (with_reducible repeat (first | apply Kd.R_alloc | apply Kd.R_drewN | apply Kd.R_drew)); exact Kd.R_mono HO144.out (fun _ hk => hk.2)))
                                (case aS => exact (below_size (by repeat (first | (with_reducible first | exact HB.out | apply below_alloc | apply pw_below_drewN | apply below_drew1) | exact HB.out))))
                                (case aL => have := LMc9.out; omega)
                                intro v150 x23 ho hb hg hat
                                rw [← Ny149.out] at ho
                                have n0_ := Aside0.mk (Kd.R_after (ok := (fun _ => True)) (by (with_reducible repeat (first | apply Kd.R_alloc | apply Kd.R_drewN | apply Kd.R_drew)); exact HO155.out) hg hat)
                                have n1_ := Aside0.mk (hb)
                                have n2_ := Aside0.mk (ho)
                                clear HO155
                                clear HB
                                clear HO144
                                have HO155 := n0_
                                have HB := n1_
                                have HO151 := n2_
                                clear n0_ n1_ n2_
                                refine hK.out _ _ ⟨((HB.out.cell (World.block_lt_of_cell? wi _ hw152_0)).trans hw152_0), ((HB.out.cell (World.block_lt_of_cell? wi _ hw152_1)).trans hw152_1)⟩ (fun hHeld => ?_)
                                refine norm_ (a' := ?_) ?_ ?_
                                rotate_left
                                · show Act.put _ (some 34) _ = _
                                  simp only [Act.put, List.setIfInBounds_toArray, List.set_cons_zero, List.set_cons_succ, i64_w, i32_w]
                                  rfl
                                exact norm_ (by simp only [putAll, Act.put, List.setIfInBounds_toArray, List.set_cons_zero, List.set_cons_succ]) (hCont (v143, v150, v154) _ ⟨hHeld, (by (with_reducible repeat (first | apply Kd.R_alloc | apply Kd.R_drewN | apply Kd.R_drew)); exact HO151.out), (by (with_reducible repeat (first | apply Kd.R_alloc | apply Kd.R_drewN | apply Kd.R_drew)); exact Kd.R_mono HO155.out (fun _ hk => hk.2)), (by repeat (first | (with_reducible first | exact HB.out | apply below_alloc | apply pw_below_drewN | apply below_drew1) | exact HB.out))⟩)
                            · skip
                              refine Kd.R_lit_step k39 _ 39 ?hg (N := 39) ?hd (xs := ([(⟨(rd_T39 l0 a4).f0, (rd_T39 l0 a4).f1⟩ : S39)] : List (S39))) (inner := [.int .i64 ((rd_T39 l0 a4).f0), .int .i64 ((rd_T39 l0 a4).f1)]) (ok := fun _ => True) (okp := fun _ => True) ?hr ?hp (fun _ hk => hk) trivial (Below.refl _ _) (Nat.le_refl _) (by simp) ?_; (case hd => rfl); (case hg => rfl); (case hr => first | (go_simp; done) | (go_simp; rfl)); (case hp => exact (Reps.c2 (show Kd.M k39 _ _ _ (⟨(rd_T39 l0 a4).f0, (rd_T39 l0 a4).f1⟩ : S39) [.int .i64 ((rd_T39 l0 a4).f0), .int .i64 ((rd_T39 l0 a4).f1)] from (k39_mkM _ _ _ (⟨(rd_T39 l0 a4).f0, (rd_T39 l0 a4).f1⟩ : S39) )) (Reps.none _ _)))
                              intro v154 x19 ho20 hb hg_ hnew_
                              (first | rw [← Ny153.out] at ho20 | (simp only [Int.reduceToNat] at ho20; rw [← Ny153.out] at ho20))
                              have n0_ := Aside0.mk (Kd.R_lower ho20 (below_size (by repeat (first | (with_reducible first | exact HB.out | apply below_alloc | apply pw_below_drewN | apply below_drew1) | exact HB.out))))
                              have n1_ := Aside0.mk (below_step (by repeat (first | (with_reducible first | exact HB.out | apply below_alloc | apply pw_below_drewN | apply below_drew1) | exact HB.out)) hb)
                              clear HB
                              have HO155 := n0_
                              have HB := n1_
                              clear n0_ n1_
                              refine hK.out _ _ ⟨((HB.out.cell (World.block_lt_of_cell? wi _ hw152_0)).trans hw152_0), ((HB.out.cell (World.block_lt_of_cell? wi _ hw152_1)).trans hw152_1)⟩ (fun hHeld => ?_)
                              refine norm_ (a' := ?_) ?_ ?_
                              rotate_left
                              · show Act.put _ (some 39) _ = _
                                simp only [Act.put, List.setIfInBounds_toArray, List.set_cons_zero, List.set_cons_succ, i64_w, i32_w]
                                rfl
                              refine one_ (i := 0) (N := some 30) #[true, true, true, true, false, true, true, true, true, true, false, true, true, true, false, false] rfl rfl (one_of HT_.out (by kernel_rfl)) (by decide) (fun K hK => ?_)
                              refine Kd.R_lit_step k39 _ 39 ?hg (N := 30) ?hd (xs := ([] : List (S39))) (inner := []) (ok := fun _ => True) (okp := fun _ => True) ?hr ?hp (fun _ hk => hk) trivial (Below.refl _ _) (Nat.le_refl _) (by simp) ?_; (case hd => rfl); (case hg => rfl); (case hr => first | (go_simp; done) | (go_simp; rfl)); (case hp => exact (Reps.none _ _))
                              intro v143 x21 ho22 hb hg_ hnew_
                              (first | rw [← Ny142.out] at ho22 | (simp only [Int.reduceToNat] at ho22; rw [← Ny142.out] at ho22))
                              have n0_ := Aside0.mk (Kd.R_elder' (by (with_reducible repeat (first | apply Kd.R_alloc | apply Kd.R_drewN | apply Kd.R_drew)); exact HO155.out) (Kd.R_base ho22) hb)
                              have n1_ := Aside0.mk (Kd.R_lower (Kd.R_new' ho22 (Kd.R_lt (by (with_reducible repeat (first | apply Kd.R_alloc | apply Kd.R_drewN | apply Kd.R_drew)); exact HO155.out))) (below_size (by repeat (first | (with_reducible first | exact HB.out | apply below_alloc | apply pw_below_drewN | apply below_drew1) | exact HB.out))))
                              have n2_ := Aside0.mk (below_step (by repeat (first | (with_reducible first | exact HB.out | apply below_alloc | apply pw_below_drewN | apply below_drew1) | exact HB.out)) hb)
                              clear HO155
                              clear HB
                              have HO155 := n0_
                              have HO144 := n1_
                              have HB := n2_
                              clear n0_ n1_ n2_
                              refine hK.out _ _ ⟨((HB.out.cell (World.block_lt_of_cell? wi _ hw152_0)).trans hw152_0), ((HB.out.cell (World.block_lt_of_cell? wi _ hw152_1)).trans hw152_1)⟩ (fun hHeld => ?_)
                              refine norm_ (a' := ?_) ?_ ?_
                              rotate_left
                              · show Act.put _ (some 30) _ = _
                                simp only [Act.put, List.setIfInBounds_toArray, List.set_cons_zero, List.set_cons_succ, i64_w, i32_w]
                                rfl
                              refine one_ (i := 4) (N := some 34) #[true, true, true, true, true, true, true, true, true, true, false, true, true, true, false, false] rfl rfl (one_of HT_.out (by kernel_rfl)) (by decide) (fun K hK => ?_)
                              refine Kd.R_append_rows_step k39 (w0 := wi) wi.heap.size (by rfl) (.tmp 30) (.tmp 33) 36 39 (.agg #[(.int .i64 0), (.int .i64 0)]) 16 rfl Try.underlying36 info39 rfl (by decide) (by omega) v143 y142 y145 _ _ _ (fun k_ => some k_ ≠ (v154 : Value).ownBlock) (fun _ => False) rfl rfl ?aO ?aR (fun _ _ h => h) (fun _ h => h.elim) ?aF ?aB ?aS ?aL ?_
                              (case aR => repeat (first | exact (Kd.C_below HR148.out HB.out) | (have e_ := Kd.C_below HR148.out HB.out; rw [KY17.out] at e_; exact e_) | (with_reducible refine Kd.C_alloc ?_ _) | (with_reducible refine Kd.C_drewN ?_ _) | (with_reducible refine Kd.C_drew ?_)))
                              (case aB => exact (by repeat (first | (with_reducible first | exact HB.out | apply below_alloc | apply pw_below_drewN | apply below_drew1) | exact HB.out)))
                              (case aF => exact (fun k_ hk => Kd.fresh' (Kd.R_lt (by (with_reducible repeat (first | apply Kd.R_alloc | apply Kd.R_drewN | apply Kd.R_drew)); exact HO155.out)) k_ hk))
                              (case aO => exact (by (with_reducible repeat (first | apply Kd.R_alloc | apply Kd.R_drewN | apply Kd.R_drew)); exact Kd.R_mono HO144.out (fun _ hk => hk.2)))
                              (case aS => exact (below_size (by repeat (first | (with_reducible first | exact HB.out | apply below_alloc | apply pw_below_drewN | apply below_drew1) | exact HB.out))))
                              (case aL => have := LMc9.out; omega)
                              intro v150 x23 ho hb hg hat
                              rw [← Ny149.out] at ho
                              have n0_ := Aside0.mk (Kd.R_after (ok := (fun _ => True)) (by (with_reducible repeat (first | apply Kd.R_alloc | apply Kd.R_drewN | apply Kd.R_drew)); exact HO155.out) hg hat)
                              have n1_ := Aside0.mk (hb)
                              have n2_ := Aside0.mk (ho)
                              clear HO155
                              clear HB
                              clear HO144
                              have HO155 := n0_
                              have HB := n1_
                              have HO151 := n2_
                              clear n0_ n1_ n2_
                              refine hK.out _ _ ⟨((HB.out.cell (World.block_lt_of_cell? wi _ hw152_0)).trans hw152_0), ((HB.out.cell (World.block_lt_of_cell? wi _ hw152_1)).trans hw152_1)⟩ (fun hHeld => ?_)
                              refine norm_ (a' := ?_) ?_ ?_
                              rotate_left
                              · show Act.put _ (some 34) _ = _
                                simp only [Act.put, List.setIfInBounds_toArray, List.set_cons_zero, List.set_cons_succ, i64_w, i32_w]
                                rfl
                              exact norm_ (by simp only [putAll, Act.put, List.setIfInBounds_toArray, List.set_cons_zero, List.set_cons_succ]) (hCont (v143, v150, v154) _ ⟨hHeld, (by (with_reducible repeat (first | apply Kd.R_alloc | apply Kd.R_drewN | apply Kd.R_drew)); exact HO151.out), (by (with_reducible repeat (first | apply Kd.R_alloc | apply Kd.R_drewN | apply Kd.R_drew)); exact Kd.R_mono HO155.out (fun _ hk => hk.2)), (by repeat (first | (with_reducible first | exact HB.out | apply below_alloc | apply pw_below_drewN | apply below_drew1) | exact HB.out))⟩)
                          rintro ⟨v143, v150, v154⟩ x24 ⟨hS_, h0_, h1_, h2_⟩
                          have n0_ : Aside0 (Kd.R k39 39 x24 wi.heap.size (fun k_ => some k_ ≠ (v154 : Value).ownBlock) v150 y149) := ⟨h0_⟩
                          have n1_ : Aside0 (Kd.R k39 39 x24 wi.heap.size (fun k_ => some k_ ≠ (v150 : Value).ownBlock) v154 y153) := ⟨h1_⟩
                          have n2_ : Aside0 (Below wi.heap.size wi x24) := ⟨h2_⟩
                          clear HB
                          have HO151 := n0_
                          have HO155 := n1_
                          have HB := n2_
                          clear n0_ n1_ n2_
                          have hHeld : x24.cell? (ad152.add ((a4).toNat * 2)) = some (.int .i64 ((rd_T39 l0 a4).f0)) ∧ x24.cell? ⟨(ad152.add ((a4).toNat * 2)).block, (ad152.add ((a4).toNat * 2)).off + 1, none⟩ = some (.int .i64 ((rd_T39 l0 a4).f1)) := hS_
                          obtain ⟨Ao26, co26, eo26⟩ := Kd.R_slice HO155.out
                          (first | subst eo26 | (injection eo26 with f1_ f2_ f3_; have f4_ := f1_.symm; have f5_ := f3_.symm; clear f1_ f2_ f3_; subst f4_; subst f5_))
                          refine norm_ (a' := ?_) ?_ ?_
                          rotate_left
                          · simp only [putAll, Act.put, List.setIfInBounds_toArray, List.set_cons_zero, List.set_cons_succ]
                            rfl
                          refine one_ (i := 10) (N := some 40) #[true, true, true, true, true, true, true, true, true, true, true, true, true, true, false, false] rfl rfl (one_of HT_.out (by kernel_rfl)) (by decide) (fun K hK => ?_)
                          refine Kd.R_append_rows_step k39 (w0 := wi) wi.heap.size (by rfl) (.tmp 34) (.tmp 39) 36 39 (.agg #[(.int .i64 0), (.int .i64 0)]) 16 rfl Try.underlying36 info39 rfl (by decide) (by omega) v150 y149 y153 _ _ _ (fun k_ => some k_ ≠ (.slice Ao26 y153.length co26 : Value).ownBlock) (fun _ => False) rfl rfl ?aO ?aR (fun _ _ h => h) (fun _ h => h.elim) ?aF ?aB ?aS ?aL ?_
                          (case aR => repeat (first | exact (Kd.R_reads' HO155.out).2.2 | (with_reducible refine Kd.C_alloc ?_ _) | (with_reducible refine Kd.C_drewN ?_ _) | (with_reducible refine Kd.C_drew ?_)))
                          (case aB => exact (by repeat (first | (with_reducible first | exact HB.out | apply below_alloc | apply pw_below_drewN | apply below_drew1) | exact HB.out)))
                          (case aF => exact (fun k_ hk => Kd.fresh' (Kd.R_lt (by (with_reducible repeat (first | apply Kd.R_alloc | apply Kd.R_drewN | apply Kd.R_drew)); exact HO155.out)) k_ hk))
                          (case aO => exact (by (with_reducible repeat (first | apply Kd.R_alloc | apply Kd.R_drewN | apply Kd.R_drew)); exact HO151.out))
                          (case aS => exact (below_size (by repeat (first | (with_reducible first | exact HB.out | apply below_alloc | apply pw_below_drewN | apply below_drew1) | exact HB.out))))
                          (case aL => have := LMc12.out; omega)
                          intro v157 x25 ho hb hg hat
                          rw [← Ny156.out] at ho
                          have n0_ := Aside0.mk (Kd.R_after (ok := (fun _ => True)) (by (with_reducible repeat (first | apply Kd.R_alloc | apply Kd.R_drewN | apply Kd.R_drew)); exact Kd.R_mono HO155.out (fun _ hk => ⟨trivial, hk⟩)) hg hat)
                          have n1_ := Aside0.mk (hb)
                          have n2_ := Aside0.mk (ho)
                          clear HO155
                          clear HB
                          clear HO151
                          have HO155 := n0_
                          have HB := n1_
                          have HO158 := n2_
                          clear n0_ n1_ n2_
                          refine hK.out _ _ ⟨((HB.out.cell (World.block_lt_of_cell? wi _ hw152_0)).trans hw152_0), ((HB.out.cell (World.block_lt_of_cell? wi _ hw152_1)).trans hw152_1)⟩ (fun hHeld => ?_)
                          refine norm_ (a' := ?_) ?_ ?_
                          rotate_left
                          · show Act.put _ (some 40) _ = _
                            simp only [Act.put, List.setIfInBounds_toArray, List.set_cons_zero, List.set_cons_succ, i64_w, i32_w]
                            rfl
                          refine one_ (i := 14) (N := some 44) #[true, true, true, true, true, true, true, true, true, true, true, true, true, true, true, false] rfl rfl (one_of HT_.out (by kernel_rfl)) (by decide) (fun K hK => ?_)
                          refine Kd.R_append_rows_step k39 (w0 := wi) wi.heap.size (by rfl) (.tmp 40) (.tmp 43) 36 39 (.agg #[(.int .i64 0), (.int .i64 0)]) 16 rfl Try.underlying36 info39 rfl (by decide) (by omega) v157 y156 y159 _ _ _ (fun k_ => some k_ ≠ (.slice Ao26 y153.length co26 : Value).ownBlock) (fun _ => False) rfl rfl ?aO ?aR (fun _ _ h => h) (fun _ h => h.elim) ?aF ?aB ?aS ?aL ?_
                          (case aR => repeat (first | exact (Kd.C_below HR162.out HB.out) | (have e_ := Kd.C_below HR162.out HB.out; rw [KY18.out, KA18.out] at e_; exact e_) | (with_reducible refine Kd.C_alloc ?_ _) | (with_reducible refine Kd.C_drewN ?_ _) | (with_reducible refine Kd.C_drew ?_)))
                          (case aB => exact (by repeat (first | (with_reducible first | exact HB.out | apply below_alloc | apply pw_below_drewN | apply below_drew1) | exact HB.out)))
                          (case aF => exact (fun k_ hk => Kd.fresh' (Kd.R_lt (by (with_reducible repeat (first | apply Kd.R_alloc | apply Kd.R_drewN | apply Kd.R_drew)); exact HO155.out)) k_ hk))
                          (case aO => exact (by (with_reducible repeat (first | apply Kd.R_alloc | apply Kd.R_drewN | apply Kd.R_drew)); exact HO158.out))
                          (case aS => exact (below_size (by repeat (first | (with_reducible first | exact HB.out | apply below_alloc | apply pw_below_drewN | apply below_drew1) | exact HB.out))))
                          (case aL => have := LMc15.out; omega)
                          intro v164 x27 ho hb hg hat
                          rw [← Ny163.out] at ho
                          have n0_ := Aside0.mk (Kd.R_after (ok := (fun _ => True)) (by (with_reducible repeat (first | apply Kd.R_alloc | apply Kd.R_drewN | apply Kd.R_drew)); exact HO155.out) hg hat)
                          have n1_ := Aside0.mk (hb)
                          have n2_ := Aside0.mk (ho)
                          clear HO155
                          clear HB
                          clear HO158
                          have HO155 := n0_
                          have HB := n1_
                          have HO165 := n2_
                          clear n0_ n1_ n2_
                          refine hK.out _ _ ⟨((HB.out.cell (World.block_lt_of_cell? wi _ hw152_0)).trans hw152_0), ((HB.out.cell (World.block_lt_of_cell? wi _ hw152_1)).trans hw152_1)⟩ (fun hHeld => ?_)
                          refine norm_ (a' := ?_) ?_ ?_
                          rotate_left
                          · show Act.put _ (some 44) _ = _
                            simp only [Act.put, List.setIfInBounds_toArray, List.set_cons_zero, List.set_cons_succ, i64_w, i32_w]
                            rfl
                          refine pure_ (i := 15) (N := some 3) (v := ?_) (a' := ?_) #[true, true, true, true, true, true, true, true, true, true, true, true, true, true, true, true] rfl rfl (any_of HT_.out (by kernel_rfl)) (fun _ _ _ h => h) (Or.inl ⟨by rfl, ?_⟩) ?_ ?_
                          rotate_left
                          · intro w'
                            go_simp
                            with_reducible rfl
                          rotate_left
                          · simp only [Act.put, List.setIfInBounds_toArray, List.set_cons_zero, List.set_cons_succ, i64_w, i32_w]
                            rfl
                          refine done_ (done_of HT_.out (by kernel_rfl)) ?_
                          try go_wp2
                          all_goals (
                            go_roundg go1
                            case measure => have := HI.out; omega
                            case rel => exact ⟨wrap64 (a4 + 1), y163, (by first | rfl | (simp only [i64_w]) | (simp [i64_w])), ⟨by have h1 := HI.out; have h2 := HLEN.out; rw [IntWalk.wrap64_in _ (by omega)]; omega⟩, ⟨by have h1 := HI.out; have h2 := HLEN.out; rw [HR8.out, IntWalk.wrap64_in _ (by omega), show (a4 + 1).toNat = a4.toNat + 1 by omega]⟩, ⟨Kd.R_lower (by (with_reducible repeat (first | apply Kd.R_alloc | apply Kd.R_drewN | apply Kd.R_drew)); exact Kd.R_mono HO165.out (fun _ hk => trivial)) HBo.out.size⟩, ⟨below_step HBo.out (by repeat (first | (with_reducible first | exact HB.out | apply below_alloc | apply pw_below_drewN | apply below_drew1) | exact HB.out))⟩⟩)
                        · rw [if_neg c15] at H
                          exact absurd H (by simp)
                      · rw [if_neg c12] at H
                        exact absurd H (by simp)
                    · rw [if_neg c11] at H
                      exact absurd H (by simp)
                  · rw [if_neg c10] at H
                    exact absurd H (by simp)
                · rw [if_neg c9] at H
                  exact absurd H (by simp)
              · rw [if_neg c8] at H
                exact absurd H (by simp)
            · rw [if_neg c7] at H
              exact absurd H (by simp)
    · have c5b0 : decide (a4 < (l0.length : Int)) = false := decide_eq_false c5
      have HZ : Aside0 (l3 = r) := ⟨by have := HI.out; rw [HL.out, ← HS.out, show a4.toNat = l0.length by omega]⟩
      clear c5
      go_wp2
      go_ret
      exact ⟨_, rfl, by rw [← HZ.out]; exact HOo.out, HBo.out⟩
end Go.Proofs.Ytcbhnjkmjiokgaa.PPPrio
