/- each, and the closures of pick and Area. -/
import Derived.Test.YtaeifdmabkjoiaaA5
/- The contract of each, with closure 48. -/
namespace Go.Proofs.Ytaeifdmabkjoiaa.PPU
open Go.RowKit Go.Proofs.YtaeifdmabkjoiaaW.PrintWords Go.Proofs.YtaeifdmabkjoiaaW.PrintLast Go.Proofs.YtaeifdmabkjoiaaW.PrintMore
set_option linter.unusedVariables false
set_option linter.unusedSimpArgs false

set_option maxHeartbeats 4000000 in
set_option maxRecDepth 100000 in
theorem each48 (p g cap n : Nat) (f : Nat → S67) (a b : Int) (s1 c1 c2 : Nat) (J : Nat → World → Prop) (w : World) (hI : Is w p g cap n f) (hW : Wf n f) (hn : n ≤ 2000) (hJ0 : J 0 w) (hJB : ∀ k w1 w2, J k w1 → Below w1.heap.size w1 w2 → J k w2)
    (hp1 : p ≠ c1) (hp2 : p ≠ c2) (hg1 : g ≠ c1) (hg2 : g ≠ c2) (hc1 : c1 < w.heap.size) (hc2 : c2 < w.heap.size)
    (hJs : ∀ k w', k < n → J k w' → ¬ plo a f k < phi b n f k → J (k + 1) w')
    (hJc : ∀ k w', k < n → J k w' → plo a f k < phi b n f k → Calls Try.prog 48 #[.int .i64 (f k).f1, .int .i64 (phi b n f k - plo a f k), .pointer (some ⟨s1, 0, none⟩)] w' fun e w'' => e = .returned (.tuple #[]) ∧ J (k + 1) w'' ∧ Kp w' w'' c1 c2) :
    Calls Try.prog 47 #[ptrV p, .agg #[.int .i64 a, .int .i64 b], .func (.func 48) #[] #[.pointer (some ⟨s1, 0, none⟩)]] w fun e w' => e = .returned (.tuple #[]) ∧ J n w' ∧ Kp w w' c1 c2 := by
  have HI := Aside0.mk hI
  have HW := Aside0.mk hW
  have HJ0 := Aside0.mk hJ0
  have HJB := Aside0.mk hJB
  have HJS := Aside0.mk hJs
  have HJC := Aside0.mk hJc
  have hp := hW.pos
  have hu25 := Try.underlying25
  have hu67 := Try.underlying67
  clear hI hW hJ0 hJB hJs hJc
  go_enter Try.func47, Try.ntmps47
  go_wp2_with fail
  refine (none_calls p g cap n f _ (HI.out.below ((Below.refl _ w).alloc (Nat.le_refl _) _)) hp).mono ?_
  rintro e w1 ⟨rfl, hb1⟩
  have HB1 := Aside0.mk (show Below w.heap.size w w1 from below_step ((Below.refl _ w).alloc (Nat.le_refl _) _) hb1)
  have HBX := Aside0.mk (blk_below (blk_new w (.cells #[.int .i64 a, .int .i64 b] 25 (0, 0))) hb1)
  have HI1 := Aside0.mk (HI.out.below HB1.out)
  have HJ1 := Aside0.mk (HJB.out 0 w w1 HJ0.out HB1.out)
  obtain ⟨B, hB⟩ : ∃ B, B = w.heap.size := ⟨_, rfl⟩
  rw [← hB] at HBX ⊢
  have hBl : B < w1.heap.size := blk_lt HBX.out
  have HBe := Aside0.mk hB
  have c0 := HI1.out.cell
  clear hb1 hB
  go_wp2_with fail
  go_loopg [17] n (fun kq v17 w' => ∃ k : Nat, n - k = kq ∧ v17 = .int .i64 k ∧ Aside0 (k ≤ n) ∧ Aside0 (J k w') ∧ Aside0 (Kp w1 w' c1 c2))
  case atStart => exact ⟨0, by omega, rfl, ⟨Nat.zero_le _⟩, HJ1, ⟨Kp.refl _ _ _⟩⟩
  case round =>
    obtain ⟨k, hk, rfl, HK, HJ, HKp⟩ := hrel
    subst hk
    clear c0
    by_cases hkn : k < n
    · have h1 : decide (k < n) = true := decide_eq_true hkn
      have HIs := Aside0.mk (HKp.out.is HI1.out hp1 hp2 hg1 hg2)
      have HBr := Aside0.mk ((HKp.out.block B hBl (by have := HBe.out; omega) (by have := HBe.out; omega)).trans HBX.out)
      have hpl := HIs.out.lt
      have hgl := HIs.out.row.lt
      have hBl2 : B < wr.heap.size := blk_lt HBr.out
      have c0 := HIs.out.cell
      have r0 := HIs.out.row.at0 k hkn
      have r1 := HIs.out.row.at1 k hkn
      have q0 : wr.cell? ⟨B, 0, none⟩ = some (.int .i64 a) := (blk_cell HBr.out 0).trans rfl
      have q1 : wr.cell? ⟨B, 1, none⟩ = some (.int .i64 b) := (blk_cell HBr.out 1).trans rfl
      have hb3 : (0 : Int) ≤ (k : Int) := by omega
      have hb4 : (k : Int) < (n : Int) := by omega
      have hx1 : ¬ (p = wr.heap.size) := by omega
      have hx2 : ¬ (g = wr.heap.size) := by omega
      have hx3 : ¬ (B = wr.heap.size) := by omega
      have hc := HW.out.low k hkn
      have hc' := HW.out.top k hkn
      have hen := enF_bd HW.out.toWf0 k hkn
      have HEN := Aside0.mk (show (0 ≤ (f k).f0 ∧ (f k).f0 ≤ 1099511627776) ∧ 0 ≤ enF n f k ∧ enF n f k ≤ 1099511627776 by omega)
      clear hc hc' hen
      by_cases hk1 : k + 1 < n
      · have h2 : decide (k + 1 < n) = true := decide_eq_true hk1
        have r2 := HIs.out.row.at0 (k + 1) hk1
        have hb5 : (0 : Int) ≤ (k : Int) + 1 := by omega
        have hb6 : (k : Int) + 1 < (n : Int) := by omega
        have hb7 : ((k : Int) + 1).toNat = k + 1 := by omega
        have hee := show enF n f k = (f (k + 1)).f0 from if_pos hk1
        have HEE := Aside0.mk hee
        clear hee
        go_wp2_with fail
        by_cases hne : plo a f k < phi b n f k
        · refine (ecut_yes a b _ n f k _ HEE.out.symm HEN.out hne).mono ?_
          rintro e w2 ⟨rfl, hb2⟩
          have HB2 := Aside0.mk (show Below wr.heap.size wr w2 from below_step ((Below.refl _ wr).alloc (Nat.le_refl _) _) hb2)
          have HT := Aside0.mk (blk_below (blk_new wr (.cells #[.int .i64 (f k).f0, .int .i64 (f k).f1] 67 (0, 0))) hb2)
          clear c0 r0 r1 q0 q1 hx1 hx2 hx3 hb2 r2
          obtain ⟨T7, hT7⟩ : ∃ T7, T7 = wr.heap.size := ⟨_, rfl⟩
          rw [← hT7] at HT ⊢
          clear hT7
          have hpb := plo_bd HW.out.toWf0 a k hkn
          have hqb := phi_bd HW.out.toWf0 b k hkn
          have hcl1 := clp_id hpb.1 hpb.2
          have hcl2 := clp_id hqb.1 hqb.2
          have HNE := Aside0.mk (show ¬ clp (phi b n f k) ≤ clp (plo a f k) by rw [hcl1, hcl2]; omega)
          clear hcl1 hcl2
          go_wp2_with fail
          refine (empty_no _ _ _ (by have := HNE.out; omega)).mono ?_
          rintro e w3 ⟨rfl, hb3⟩
          have HB3 := Aside0.mk (show Below w2.heap.size w2 w3 from below_step ((Below.refl _ w2).alloc (Nat.le_refl _) _) hb3)
          have HT3 := blk_below HT.out HB3.out
          have HS9 := blk_below (blk_new w2 (.cells #[.int .i64 (plo a f k), .int .i64 (phi b n f k)] 25 (0, 0))) hb3
          have t1 : w3.cell? ⟨T7, 1, none⟩ = some (.int .i64 (f k).f1) := (blk_cell HT3 1).trans rfl
          have u0 : w3.cell? ⟨w2.heap.size, 0, none⟩ = some (.int .i64 (plo a f k)) := (blk_cell HS9 0).trans rfl
          have u1 : w3.cell? ⟨w2.heap.size, 1, none⟩ = some (.int .i64 (phi b n f k)) := (blk_cell HS9 1).trans rfl
          have HB4 := Aside0.mk (show Below wr.heap.size wr w3 from below_step HB2.out HB3.out)
          clear hb3 HT3 HS9
          obtain ⟨hpb1, hpb2⟩ := hpb
          obtain ⟨hqb1, hqb2⟩ := hqb
          have hge : 0 ≤ phi b n f k - plo a f k := by omega
          go_wp2_with fail
          refine (HJC.out k w3 hkn (HJB.out k wr w3 HJ.out HB4.out) hne).mono ?_
          rintro e w4 ⟨rfl, hj4, hk4⟩
          have HJ4 := Aside0.mk hj4
          have HK4 := Aside0.mk ((HKp.out.below HB4.out).trans hk4 (.inl rfl))
          clear t1 u0 u1 hj4 hk4
          go_wp2_with fail
          go_roundg (n - (k + 1))
          case measure => omega
          case rel => exact ⟨k + 1, rfl, by go_num, ⟨by omega⟩, HJ4, HK4⟩
        · refine (ecut_no a b _ n f k _ HEE.out.symm HEN.out hne).mono ?_
          rintro e w2 ⟨rfl, hb2⟩
          have HB2 := Aside0.mk (show Below wr.heap.size wr w2 from below_step ((Below.refl _ wr).alloc (Nat.le_refl _) _) hb2)
          clear c0 r0 r1 q0 q1 hx1 hx2 hx3 hb2 r2
          obtain ⟨T7, hT7⟩ : ∃ T7, T7 = wr.heap.size := ⟨_, rfl⟩
          rw [← hT7]
          clear hT7
          go_wp2_with fail
          refine (empty_yes 0 0 _ (Int.le_refl _)).mono ?_
          rintro e w3 ⟨rfl, hb3⟩
          have HB3 := Aside0.mk (show Below wr.heap.size wr w3 from below_step HB2.out (below_step ((Below.refl _ w2).alloc (Nat.le_refl _) _) hb3))
          clear hb3
          have HJ4 := Aside0.mk (HJS.out k w3 hkn (HJB.out k wr w3 HJ.out HB3.out) hne)
          have HK4 := Aside0.mk (HKp.out.below HB3.out)
          go_wp2_with fail
          go_roundg (n - (k + 1))
          case measure => omega
          case rel => exact ⟨k + 1, rfl, by go_num, ⟨by omega⟩, HJ4, HK4⟩
      · have h2 : decide (k + 1 < n) = false := decide_eq_false hk1
        have hb6 : ¬ ((k : Int) + 1 < (n : Int)) := by omega
        have hee := show enF n f k = 1099511627776 from if_neg hk1
        have HEE := Aside0.mk hee
        clear hee
        go_wp2_with fail
        by_cases hne : plo a f k < phi b n f k
        · refine (ecut_yes a b _ n f k _ HEE.out.symm HEN.out hne).mono ?_
          rintro e w2 ⟨rfl, hb2⟩
          have HB2 := Aside0.mk (show Below wr.heap.size wr w2 from below_step ((Below.refl _ wr).alloc (Nat.le_refl _) _) hb2)
          have HT := Aside0.mk (blk_below (blk_new wr (.cells #[.int .i64 (f k).f0, .int .i64 (f k).f1] 67 (0, 0))) hb2)
          clear c0 r0 r1 q0 q1 hx1 hx2 hx3 hb2
          obtain ⟨T7, hT7⟩ : ∃ T7, T7 = wr.heap.size := ⟨_, rfl⟩
          rw [← hT7] at HT ⊢
          clear hT7
          have hpb := plo_bd HW.out.toWf0 a k hkn
          have hqb := phi_bd HW.out.toWf0 b k hkn
          have hcl1 := clp_id hpb.1 hpb.2
          have hcl2 := clp_id hqb.1 hqb.2
          have HNE := Aside0.mk (show ¬ clp (phi b n f k) ≤ clp (plo a f k) by rw [hcl1, hcl2]; omega)
          clear hcl1 hcl2
          go_wp2_with fail
          refine (empty_no _ _ _ (by have := HNE.out; omega)).mono ?_
          rintro e w3 ⟨rfl, hb3⟩
          have HB3 := Aside0.mk (show Below w2.heap.size w2 w3 from below_step ((Below.refl _ w2).alloc (Nat.le_refl _) _) hb3)
          have HT3 := blk_below HT.out HB3.out
          have HS9 := blk_below (blk_new w2 (.cells #[.int .i64 (plo a f k), .int .i64 (phi b n f k)] 25 (0, 0))) hb3
          have t1 : w3.cell? ⟨T7, 1, none⟩ = some (.int .i64 (f k).f1) := (blk_cell HT3 1).trans rfl
          have u0 : w3.cell? ⟨w2.heap.size, 0, none⟩ = some (.int .i64 (plo a f k)) := (blk_cell HS9 0).trans rfl
          have u1 : w3.cell? ⟨w2.heap.size, 1, none⟩ = some (.int .i64 (phi b n f k)) := (blk_cell HS9 1).trans rfl
          have HB4 := Aside0.mk (show Below wr.heap.size wr w3 from below_step HB2.out HB3.out)
          clear hb3 HT3 HS9
          obtain ⟨hpb1, hpb2⟩ := hpb
          obtain ⟨hqb1, hqb2⟩ := hqb
          have hge : 0 ≤ phi b n f k - plo a f k := by omega
          go_wp2_with fail
          refine (HJC.out k w3 hkn (HJB.out k wr w3 HJ.out HB4.out) hne).mono ?_
          rintro e w4 ⟨rfl, hj4, hk4⟩
          have HJ4 := Aside0.mk hj4
          have HK4 := Aside0.mk ((HKp.out.below HB4.out).trans hk4 (.inl rfl))
          clear t1 u0 u1 hj4 hk4
          go_wp2_with fail
          go_roundg (n - (k + 1))
          case measure => omega
          case rel => exact ⟨k + 1, rfl, by go_num, ⟨by omega⟩, HJ4, HK4⟩
        · refine (ecut_no a b _ n f k _ HEE.out.symm HEN.out hne).mono ?_
          rintro e w2 ⟨rfl, hb2⟩
          have HB2 := Aside0.mk (show Below wr.heap.size wr w2 from below_step ((Below.refl _ wr).alloc (Nat.le_refl _) _) hb2)
          clear c0 r0 r1 q0 q1 hx1 hx2 hx3 hb2
          obtain ⟨T7, hT7⟩ : ∃ T7, T7 = wr.heap.size := ⟨_, rfl⟩
          rw [← hT7]
          clear hT7
          go_wp2_with fail
          refine (empty_yes 0 0 _ (Int.le_refl _)).mono ?_
          rintro e w3 ⟨rfl, hb3⟩
          have HB3 := Aside0.mk (show Below wr.heap.size wr w3 from below_step HB2.out (below_step ((Below.refl _ w2).alloc (Nat.le_refl _) _) hb3))
          clear hb3
          have HJ4 := Aside0.mk (HJS.out k w3 hkn (HJB.out k wr w3 HJ.out HB3.out) hne)
          have HK4 := Aside0.mk (HKp.out.below HB3.out)
          go_wp2_with fail
          go_roundg (n - (k + 1))
          case measure => omega
          case rel => exact ⟨k + 1, rfl, by go_num, ⟨by omega⟩, HJ4, HK4⟩
    · have h1 : decide (k < n) = false := decide_eq_false hkn
      obtain rfl : k = n := by have := HK.out; omega
      go_wp2_with fail
      go_end0
      exact ⟨rfl, HJ.out, (Kp.of_below HB1.out c1 c2).trans HKp.out (.inl rfl)⟩
end Go.Proofs.Ytaeifdmabkjoiaa.PPU

/- The contract of each, with closure 61. -/
namespace Go.Proofs.Ytaeifdmabkjoiaa.PPU
open Go.RowKit Go.Proofs.YtaeifdmabkjoiaaW.PrintWords Go.Proofs.YtaeifdmabkjoiaaW.PrintLast Go.Proofs.YtaeifdmabkjoiaaW.PrintMore
set_option linter.unusedVariables false
set_option linter.unusedSimpArgs false

set_option maxHeartbeats 4000000 in
set_option maxRecDepth 100000 in
theorem each61 (p g cap n : Nat) (f : Nat → S67) (a b : Int) (s1 s2 s3 c1 c2 : Nat) (J : Nat → World → Prop) (w : World) (hI : Is w p g cap n f) (hW : Wf n f) (hn : n ≤ 2000) (hJ0 : J 0 w) (hJB : ∀ k w1 w2, J k w1 → Below w1.heap.size w1 w2 → J k w2)
    (hp1 : p ≠ c1) (hp2 : p ≠ c2) (hg1 : g ≠ c1) (hg2 : g ≠ c2) (hc1 : c1 < w.heap.size) (hc2 : c2 < w.heap.size)
    (hJs : ∀ k w', k < n → J k w' → ¬ plo a f k < phi b n f k → J (k + 1) w')
    (hJc : ∀ k w', k < n → J k w' → plo a f k < phi b n f k → Calls Try.prog 61 #[.int .i64 (f k).f1, .int .i64 (phi b n f k - plo a f k), .pointer (some ⟨s1, 0, none⟩), .pointer (some ⟨s2, 0, none⟩), .pointer (some ⟨s3, 0, none⟩)] w' fun e w'' => e = .returned (.tuple #[]) ∧ J (k + 1) w'' ∧ Kp w' w'' c1 c2) :
    Calls Try.prog 47 #[ptrV p, .agg #[.int .i64 a, .int .i64 b], .func (.func 61) #[] #[.pointer (some ⟨s1, 0, none⟩), .pointer (some ⟨s2, 0, none⟩), .pointer (some ⟨s3, 0, none⟩)]] w fun e w' => e = .returned (.tuple #[]) ∧ J n w' ∧ Kp w w' c1 c2 := by
  have HI := Aside0.mk hI
  have HW := Aside0.mk hW
  have HJ0 := Aside0.mk hJ0
  have HJB := Aside0.mk hJB
  have HJS := Aside0.mk hJs
  have HJC := Aside0.mk hJc
  have hp := hW.pos
  have hu25 := Try.underlying25
  have hu67 := Try.underlying67
  clear hI hW hJ0 hJB hJs hJc
  go_enter Try.func47, Try.ntmps47
  go_wp2_with fail
  refine (none_calls p g cap n f _ (HI.out.below ((Below.refl _ w).alloc (Nat.le_refl _) _)) hp).mono ?_
  rintro e w1 ⟨rfl, hb1⟩
  have HB1 := Aside0.mk (show Below w.heap.size w w1 from below_step ((Below.refl _ w).alloc (Nat.le_refl _) _) hb1)
  have HBX := Aside0.mk (blk_below (blk_new w (.cells #[.int .i64 a, .int .i64 b] 25 (0, 0))) hb1)
  have HI1 := Aside0.mk (HI.out.below HB1.out)
  have HJ1 := Aside0.mk (HJB.out 0 w w1 HJ0.out HB1.out)
  obtain ⟨B, hB⟩ : ∃ B, B = w.heap.size := ⟨_, rfl⟩
  rw [← hB] at HBX ⊢
  have hBl : B < w1.heap.size := blk_lt HBX.out
  have HBe := Aside0.mk hB
  have c0 := HI1.out.cell
  clear hb1 hB
  go_wp2_with fail
  go_loopg [17] n (fun kq v17 w' => ∃ k : Nat, n - k = kq ∧ v17 = .int .i64 k ∧ Aside0 (k ≤ n) ∧ Aside0 (J k w') ∧ Aside0 (Kp w1 w' c1 c2))
  case atStart => exact ⟨0, by omega, rfl, ⟨Nat.zero_le _⟩, HJ1, ⟨Kp.refl _ _ _⟩⟩
  case round =>
    obtain ⟨k, hk, rfl, HK, HJ, HKp⟩ := hrel
    subst hk
    clear c0
    by_cases hkn : k < n
    · have h1 : decide (k < n) = true := decide_eq_true hkn
      have HIs := Aside0.mk (HKp.out.is HI1.out hp1 hp2 hg1 hg2)
      have HBr := Aside0.mk ((HKp.out.block B hBl (by have := HBe.out; omega) (by have := HBe.out; omega)).trans HBX.out)
      have hpl := HIs.out.lt
      have hgl := HIs.out.row.lt
      have hBl2 : B < wr.heap.size := blk_lt HBr.out
      have c0 := HIs.out.cell
      have r0 := HIs.out.row.at0 k hkn
      have r1 := HIs.out.row.at1 k hkn
      have q0 : wr.cell? ⟨B, 0, none⟩ = some (.int .i64 a) := (blk_cell HBr.out 0).trans rfl
      have q1 : wr.cell? ⟨B, 1, none⟩ = some (.int .i64 b) := (blk_cell HBr.out 1).trans rfl
      have hb3 : (0 : Int) ≤ (k : Int) := by omega
      have hb4 : (k : Int) < (n : Int) := by omega
      have hx1 : ¬ (p = wr.heap.size) := by omega
      have hx2 : ¬ (g = wr.heap.size) := by omega
      have hx3 : ¬ (B = wr.heap.size) := by omega
      have hc := HW.out.low k hkn
      have hc' := HW.out.top k hkn
      have hen := enF_bd HW.out.toWf0 k hkn
      have HEN := Aside0.mk (show (0 ≤ (f k).f0 ∧ (f k).f0 ≤ 1099511627776) ∧ 0 ≤ enF n f k ∧ enF n f k ≤ 1099511627776 by omega)
      clear hc hc' hen
      by_cases hk1 : k + 1 < n
      · have h2 : decide (k + 1 < n) = true := decide_eq_true hk1
        have r2 := HIs.out.row.at0 (k + 1) hk1
        have hb5 : (0 : Int) ≤ (k : Int) + 1 := by omega
        have hb6 : (k : Int) + 1 < (n : Int) := by omega
        have hb7 : ((k : Int) + 1).toNat = k + 1 := by omega
        have hee := show enF n f k = (f (k + 1)).f0 from if_pos hk1
        have HEE := Aside0.mk hee
        clear hee
        go_wp2_with fail
        by_cases hne : plo a f k < phi b n f k
        · refine (ecut_yes a b _ n f k _ HEE.out.symm HEN.out hne).mono ?_
          rintro e w2 ⟨rfl, hb2⟩
          have HB2 := Aside0.mk (show Below wr.heap.size wr w2 from below_step ((Below.refl _ wr).alloc (Nat.le_refl _) _) hb2)
          have HT := Aside0.mk (blk_below (blk_new wr (.cells #[.int .i64 (f k).f0, .int .i64 (f k).f1] 67 (0, 0))) hb2)
          clear c0 r0 r1 q0 q1 hx1 hx2 hx3 hb2 r2
          obtain ⟨T7, hT7⟩ : ∃ T7, T7 = wr.heap.size := ⟨_, rfl⟩
          rw [← hT7] at HT ⊢
          clear hT7
          have hpb := plo_bd HW.out.toWf0 a k hkn
          have hqb := phi_bd HW.out.toWf0 b k hkn
          have hcl1 := clp_id hpb.1 hpb.2
          have hcl2 := clp_id hqb.1 hqb.2
          have HNE := Aside0.mk (show ¬ clp (phi b n f k) ≤ clp (plo a f k) by rw [hcl1, hcl2]; omega)
          clear hcl1 hcl2
          go_wp2_with fail
          refine (empty_no _ _ _ (by have := HNE.out; omega)).mono ?_
          rintro e w3 ⟨rfl, hb3⟩
          have HB3 := Aside0.mk (show Below w2.heap.size w2 w3 from below_step ((Below.refl _ w2).alloc (Nat.le_refl _) _) hb3)
          have HT3 := blk_below HT.out HB3.out
          have HS9 := blk_below (blk_new w2 (.cells #[.int .i64 (plo a f k), .int .i64 (phi b n f k)] 25 (0, 0))) hb3
          have t1 : w3.cell? ⟨T7, 1, none⟩ = some (.int .i64 (f k).f1) := (blk_cell HT3 1).trans rfl
          have u0 : w3.cell? ⟨w2.heap.size, 0, none⟩ = some (.int .i64 (plo a f k)) := (blk_cell HS9 0).trans rfl
          have u1 : w3.cell? ⟨w2.heap.size, 1, none⟩ = some (.int .i64 (phi b n f k)) := (blk_cell HS9 1).trans rfl
          have HB4 := Aside0.mk (show Below wr.heap.size wr w3 from below_step HB2.out HB3.out)
          clear hb3 HT3 HS9
          obtain ⟨hpb1, hpb2⟩ := hpb
          obtain ⟨hqb1, hqb2⟩ := hqb
          have hge : 0 ≤ phi b n f k - plo a f k := by omega
          go_wp2_with fail
          refine (HJC.out k w3 hkn (HJB.out k wr w3 HJ.out HB4.out) hne).mono ?_
          rintro e w4 ⟨rfl, hj4, hk4⟩
          have HJ4 := Aside0.mk hj4
          have HK4 := Aside0.mk ((HKp.out.below HB4.out).trans hk4 (.inl rfl))
          clear t1 u0 u1 hj4 hk4
          go_wp2_with fail
          go_roundg (n - (k + 1))
          case measure => omega
          case rel => exact ⟨k + 1, rfl, by go_num, ⟨by omega⟩, HJ4, HK4⟩
        · refine (ecut_no a b _ n f k _ HEE.out.symm HEN.out hne).mono ?_
          rintro e w2 ⟨rfl, hb2⟩
          have HB2 := Aside0.mk (show Below wr.heap.size wr w2 from below_step ((Below.refl _ wr).alloc (Nat.le_refl _) _) hb2)
          clear c0 r0 r1 q0 q1 hx1 hx2 hx3 hb2 r2
          obtain ⟨T7, hT7⟩ : ∃ T7, T7 = wr.heap.size := ⟨_, rfl⟩
          rw [← hT7]
          clear hT7
          go_wp2_with fail
          refine (empty_yes 0 0 _ (Int.le_refl _)).mono ?_
          rintro e w3 ⟨rfl, hb3⟩
          have HB3 := Aside0.mk (show Below wr.heap.size wr w3 from below_step HB2.out (below_step ((Below.refl _ w2).alloc (Nat.le_refl _) _) hb3))
          clear hb3
          have HJ4 := Aside0.mk (HJS.out k w3 hkn (HJB.out k wr w3 HJ.out HB3.out) hne)
          have HK4 := Aside0.mk (HKp.out.below HB3.out)
          go_wp2_with fail
          go_roundg (n - (k + 1))
          case measure => omega
          case rel => exact ⟨k + 1, rfl, by go_num, ⟨by omega⟩, HJ4, HK4⟩
      · have h2 : decide (k + 1 < n) = false := decide_eq_false hk1
        have hb6 : ¬ ((k : Int) + 1 < (n : Int)) := by omega
        have hee := show enF n f k = 1099511627776 from if_neg hk1
        have HEE := Aside0.mk hee
        clear hee
        go_wp2_with fail
        by_cases hne : plo a f k < phi b n f k
        · refine (ecut_yes a b _ n f k _ HEE.out.symm HEN.out hne).mono ?_
          rintro e w2 ⟨rfl, hb2⟩
          have HB2 := Aside0.mk (show Below wr.heap.size wr w2 from below_step ((Below.refl _ wr).alloc (Nat.le_refl _) _) hb2)
          have HT := Aside0.mk (blk_below (blk_new wr (.cells #[.int .i64 (f k).f0, .int .i64 (f k).f1] 67 (0, 0))) hb2)
          clear c0 r0 r1 q0 q1 hx1 hx2 hx3 hb2
          obtain ⟨T7, hT7⟩ : ∃ T7, T7 = wr.heap.size := ⟨_, rfl⟩
          rw [← hT7] at HT ⊢
          clear hT7
          have hpb := plo_bd HW.out.toWf0 a k hkn
          have hqb := phi_bd HW.out.toWf0 b k hkn
          have hcl1 := clp_id hpb.1 hpb.2
          have hcl2 := clp_id hqb.1 hqb.2
          have HNE := Aside0.mk (show ¬ clp (phi b n f k) ≤ clp (plo a f k) by rw [hcl1, hcl2]; omega)
          clear hcl1 hcl2
          go_wp2_with fail
          refine (empty_no _ _ _ (by have := HNE.out; omega)).mono ?_
          rintro e w3 ⟨rfl, hb3⟩
          have HB3 := Aside0.mk (show Below w2.heap.size w2 w3 from below_step ((Below.refl _ w2).alloc (Nat.le_refl _) _) hb3)
          have HT3 := blk_below HT.out HB3.out
          have HS9 := blk_below (blk_new w2 (.cells #[.int .i64 (plo a f k), .int .i64 (phi b n f k)] 25 (0, 0))) hb3
          have t1 : w3.cell? ⟨T7, 1, none⟩ = some (.int .i64 (f k).f1) := (blk_cell HT3 1).trans rfl
          have u0 : w3.cell? ⟨w2.heap.size, 0, none⟩ = some (.int .i64 (plo a f k)) := (blk_cell HS9 0).trans rfl
          have u1 : w3.cell? ⟨w2.heap.size, 1, none⟩ = some (.int .i64 (phi b n f k)) := (blk_cell HS9 1).trans rfl
          have HB4 := Aside0.mk (show Below wr.heap.size wr w3 from below_step HB2.out HB3.out)
          clear hb3 HT3 HS9
          obtain ⟨hpb1, hpb2⟩ := hpb
          obtain ⟨hqb1, hqb2⟩ := hqb
          have hge : 0 ≤ phi b n f k - plo a f k := by omega
          go_wp2_with fail
          refine (HJC.out k w3 hkn (HJB.out k wr w3 HJ.out HB4.out) hne).mono ?_
          rintro e w4 ⟨rfl, hj4, hk4⟩
          have HJ4 := Aside0.mk hj4
          have HK4 := Aside0.mk ((HKp.out.below HB4.out).trans hk4 (.inl rfl))
          clear t1 u0 u1 hj4 hk4
          go_wp2_with fail
          go_roundg (n - (k + 1))
          case measure => omega
          case rel => exact ⟨k + 1, rfl, by go_num, ⟨by omega⟩, HJ4, HK4⟩
        · refine (ecut_no a b _ n f k _ HEE.out.symm HEN.out hne).mono ?_
          rintro e w2 ⟨rfl, hb2⟩
          have HB2 := Aside0.mk (show Below wr.heap.size wr w2 from below_step ((Below.refl _ wr).alloc (Nat.le_refl _) _) hb2)
          clear c0 r0 r1 q0 q1 hx1 hx2 hx3 hb2
          obtain ⟨T7, hT7⟩ : ∃ T7, T7 = wr.heap.size := ⟨_, rfl⟩
          rw [← hT7]
          clear hT7
          go_wp2_with fail
          refine (empty_yes 0 0 _ (Int.le_refl _)).mono ?_
          rintro e w3 ⟨rfl, hb3⟩
          have HB3 := Aside0.mk (show Below wr.heap.size wr w3 from below_step HB2.out (below_step ((Below.refl _ w2).alloc (Nat.le_refl _) _) hb3))
          clear hb3
          have HJ4 := Aside0.mk (HJS.out k w3 hkn (HJB.out k wr w3 HJ.out HB3.out) hne)
          have HK4 := Aside0.mk (HKp.out.below HB3.out)
          go_wp2_with fail
          go_roundg (n - (k + 1))
          case measure => omega
          case rel => exact ⟨k + 1, rfl, by go_num, ⟨by omega⟩, HJ4, HK4⟩
    · have h1 : decide (k < n) = false := decide_eq_false hkn
      obtain rfl : k = n := by have := HK.out; omega
      go_wp2_with fail
      go_end0
      exact ⟨rfl, HJ.out, (Kp.of_below HB1.out c1 c2).trans HKp.out (.inl rfl)⟩
end Go.Proofs.Ytaeifdmabkjoiaa.PPU

/- The plain law of a span's levels: their area, the least and the greatest of them. -/
namespace Go.Proofs.Ytaeifdmabkjoiaa.PPU
open Go.RowKit Go.Proofs.YtaeifdmabkjoiaaW.PrintWords Go.Proofs.YtaeifdmabkjoiaaW.PrintLast Go.Proofs.YtaeifdmabkjoiaaW.PrintMore
set_option linter.unusedVariables false
set_option linter.unusedSimpArgs false

/-- The levels of k times from x on, all together; those below 0 count nothing. -/
def sumN (L : Int → Int) (x : Int) : Nat → Int
  | 0 => 0
  | k + 1 => sumN L x k + max 0 (L (x + k))
def sumL (L : Int → Int) (x y : Int) : Int := sumN L x (y - x).toNat
theorem sumN_add (L : Int → Int) (x : Int) (j : Nat) : ∀ k, sumN L x (j + k) = sumN L x j + sumN L (x + j) k
  | 0 => by simp [sumN]
  | k + 1 => by
    show sumN L x (j + k) + max 0 (L (x + ((j + k : Nat) : Int))) = sumN L x j + (sumN L (x + j) k + max 0 (L (x + j + k)))
    rw [sumN_add L x j k, show x + ((j + k : Nat) : Int) = x + j + k by omega]
    omega
theorem sumN_nonneg (L : Int → Int) (x : Int) : ∀ k, 0 ≤ sumN L x k
  | 0 => Int.le_refl _
  | k + 1 => by
    have := sumN_nonneg L x k
    unfold sumN
    omega
theorem sumN_const (L : Int → Int) (x v : Int) : ∀ k : Nat, (∀ s, x ≤ s → s < x + k → L s = v) → sumN L x k = k * max 0 v
  | 0, _ => by simp [sumN]
  | k + 1, h => by
    unfold sumN
    rw [sumN_const L x v k (fun s h1 h2 => h s h1 (by omega)), h (x + k) (by omega) (by omega)]
    have : ((k + 1 : Nat) : Int) * max 0 v = k * max 0 v + max 0 v := by
      rw [show ((k + 1 : Nat) : Int) = (k : Int) + 1 by omega, Int.add_mul, Int.one_mul]
    rw [this]
theorem sumN_congr (L L' : Int → Int) (x : Int) : ∀ k : Nat, (∀ s, x ≤ s → s < x + k → L s = L' s) → sumN L x k = sumN L' x k
  | 0, _ => rfl
  | k + 1, h => by
    unfold sumN
    rw [sumN_congr L L' x k (fun s h1 h2 => h s h1 (by omega)), h (x + k) (by omega) (by omega)]
theorem sumN_le (L : Int → Int) (x M : Int) (hM : 0 ≤ M) : ∀ k : Nat, (∀ s, x ≤ s → s < x + k → L s ≤ M) → sumN L x k ≤ k * M
  | 0, _ => by simp [sumN]
  | k + 1, h => by
    unfold sumN
    have h1 := sumN_le L x M hM k (fun s h1 h2 => h s h1 (by omega))
    have h2 := h (x + k) (by omega) (by omega)
    have : ((k + 1 : Nat) : Int) * M = k * M + M := by
      rw [show ((k + 1 : Nat) : Int) = (k : Int) + 1 by omega, Int.add_mul, Int.one_mul]
    omega
theorem sumL_empty (L : Int → Int) (x y : Int) (h : y ≤ x) : sumL L x y = 0 := by
  unfold sumL
  rw [show (y - x).toNat = 0 by omega]
  rfl
theorem sumL_split (L : Int → Int) (x y z : Int) (h1 : x ≤ y) (h2 : y ≤ z) : sumL L x z = sumL L x y + sumL L y z := by
  unfold sumL
  rw [show (z - x).toNat = (y - x).toNat + (z - y).toNat by omega, sumN_add, show x + ((y - x).toNat : Int) = y by omega]
theorem sumL_const (L : Int → Int) (x y v : Int) (h0 : x ≤ y) (h : ∀ s, x ≤ s → s < y → L s = v) : sumL L x y = (y - x) * max 0 v := by
  unfold sumL
  rw [sumN_const L x v _ (fun s h1 h2 => h s h1 (by omega)), show (((y - x).toNat : Nat) : Int) = y - x by omega]
theorem sumL_nonneg (L : Int → Int) (x y : Int) : 0 ≤ sumL L x y := sumN_nonneg _ _ _
theorem sumL_congr (L L' : Int → Int) (x y : Int) (h : ∀ s, x ≤ s → s < y → L s = L' s) : sumL L x y = sumL L' x y := by
  unfold sumL
  exact sumN_congr L L' x _ (fun s h1 h2 => h s h1 (by omega))
theorem sumL_le (L : Int → Int) (x y M : Int) (hM : 0 ≤ M) (h0 : x ≤ y) (h : ∀ s, x ≤ s → s < y → L s ≤ M) : sumL L x y ≤ (y - x) * M := by
  unfold sumL
  have := sumN_le L x M hM (y - x).toNat (fun s h1 h2 => h s h1 (by omega))
  rwa [show (((y - x).toNat : Nat) : Int) = y - x by omega] at this

/-- What Area has summed up behind k steps. -/
def arS (a b : Int) (n : Nat) (f : Nat → S67) : Nat → Int
  | 0 => 0
  | k + 1 => if plo a f k < phi b n f k then min (arS a b n f k + min ((phi b n f k - plo a f k) * max 0 (f k).f1) 1099511627776) 1099511627776 else arS a b n f k
/-- What pick has met behind k steps. -/
def pkS (ah : Int → Int → Bool) (a b : Int) (n : Nat) (f : Nat → S67) : Nat → Option Int
  | 0 => none
  | k + 1 => if plo a f k < phi b n f k then (match pkS ah a b n f k with | none => some (f k).f1 | some v => if ah (f k).f1 v = true then some (f k).f1 else some v) else pkS ah a b n f k
section
variable {n : Nat} {f : Nat → S67} {L : Int → Int}
theorem arS_bd (a b : Int) (n : Nat) (f : Nat → S67) : ∀ k, 0 ≤ arS a b n f k ∧ arS a b n f k ≤ 1099511627776
  | 0 => by simp [arS]
  | k + 1 => by
    have h := arS_bd a b n f k
    unfold arS
    split
    · rename_i h1
      have h2 : 0 ≤ (phi b n f k - plo a f k) * max 0 (f k).f1 := Int.mul_nonneg (by omega) (by omega)
      omega
    · exact h
def stF (n : Nat) (f : Nat → S67) (k : Nat) : Int := if k < n then (f k).f0 else 1099511627776
theorem plc_piece (hW : Wf0 n f) (k : Nat) (hk : k < n) (s : Int) (h1 : (f k).f0 ≤ s) (h2 : s < enF n f k) : Plc n f s k := by
  refine ⟨hk, h1, fun j h3 h4 => ?_⟩
  have h5 : k + 1 < n := by omega
  have h6 : enF n f k = (f (k + 1)).f0 := if_pos h5
  rcases Nat.eq_or_lt_of_le h3 with e | e
  · rw [← e]; show s < (f (k + 1)).f0; omega
  · have := hW.lt (k + 1) j e h4
    omega
theorem arS_sum (hW : Wf0 n f) (hL : ∀ s, 0 ≤ s → s < 1099511627776 → lev n f s = L s) (a b : Int) : ∀ k, k ≤ n → arS a b n f k = min (sumL L (clp a) (mn (clp b) (stF n f k))) 1099511627776
  | 0, _ => by
    have h1 := clp_bd a
    have h2 : stF n f 0 = 0 := by unfold stF; rw [if_pos hW.pos, hW.zero]
    rw [h2, sumL_empty _ _ _ (by unfold mn; split <;> omega)]
    unfold arS
    omega
  | k + 1, hk => by
    have hkn : k < n := hk
    have ih := arS_sum hW hL a b k (by omega)
    have e1 : stF n f k = (f k).f0 := if_pos hkn
    have e2 : stF n f (k + 1) = enF n f k := rfl
    have h1 := clp_bd a
    have h2 := clp_bd b
    have h3 := enF_bd hW k hkn
    have h4 := hW.low k hkn
    rw [e1] at ih
    rw [e2]
    unfold arS
    rw [ih]
    by_cases hne : plo a f k < phi b n f k
    · rw [if_pos hne]
      have hc := sumL_const L (plo a f k) (phi b n f k) (f k).f1 (by omega) (fun s h5 h6 => by
        have h7 : (f k).f0 ≤ s := by unfold plo mx at h5; split at h5 <;> omega
        have h8 : s < enF n f k := by unfold phi mn at h6; split at h6 <;> omega
        rw [← hL s (by omega) (by omega)]
        exact lev_plc (plc_piece hW k hkn s h7 h8))
      rw [← hc]
      have hs : sumL L (clp a) (phi b n f k) = sumL L (clp a) (mn (clp b) (f k).f0) + sumL L (plo a f k) (phi b n f k) := by
        by_cases h5 : clp a ≤ (f k).f0
        · have e3 : plo a f k = (f k).f0 := by unfold plo mx; split <;> omega
          have e4 : mn (clp b) (f k).f0 = (f k).f0 := by
            rw [e3] at hne
            unfold phi at hne
            unfold mn at hne ⊢
            split <;> split at hne <;> omega
          rw [e3, e4]
          exact sumL_split L _ _ _ h5 (by omega)
        · have e3 : plo a f k = clp a := by unfold plo mx; split <;> omega
          rw [e3, sumL_empty L (clp a) (mn (clp b) (f k).f0) (by unfold mn; split <;> omega), Int.zero_add]
      have e5 : mn (clp b) (enF n f k) = phi b n f k := rfl
      rw [e5, hs]
      have p1 := sumL_nonneg L (clp a) (mn (clp b) (f k).f0)
      have p2 := sumL_nonneg L (plo a f k) (phi b n f k)
      omega
    · rw [if_neg hne]
      by_cases h5 : clp a ≤ (f k).f0
      · have e3 : plo a f k = (f k).f0 := by unfold plo mx; split <;> omega
        have e4 : mn (clp b) (f k).f0 = mn (clp b) (enF n f k) := by
          rw [e3] at hne
          unfold phi at hne
          unfold mn at hne ⊢
          (repeat' split) <;> split at hne <;> omega
        rw [e4]
      · have e3 : plo a f k = clp a := by unfold plo mx; split <;> omega
        rw [e3] at hne
        rw [sumL_empty L (clp a) (mn (clp b) (f k).f0) (by unfold mn; split <;> omega), sumL_empty L (clp a) (mn (clp b) (enF n f k)) (by unfold phi at hne; omega)]
theorem area_law (hW : Wf0 n f) (hL : ∀ s, 0 ≤ s → s < 1099511627776 → lev n f s = L s) (a b : Int) : arS a b n f n = min (sumL L (clp a) (clp b)) 1099511627776 := by
  have h2 := clp_bd b
  rw [arS_sum hW hL a b n (Nat.le_refl _), show stF n f n = 1099511627776 from if_neg (Nat.lt_irrefl _), show mn (clp b) 1099511627776 = clp b by unfold mn; split <;> omega]
/-- Some time of the span is in step k. -/
theorem piece_of (hW : Wf0 n f) (a b s : Int) (h1 : clp a ≤ s) (h2 : s < clp b) : ∃ k, k < n ∧ plo a f k < phi b n f k ∧ lev n f s = (f k).f1 := by
  have h3 := clp_bd a
  have h4 := clp_bd b
  obtain ⟨q, hq⟩ := hW.plc s (by omega)
  have h5 : s < enF n f q := by
    unfold enF
    split
    · rename_i h6
      exact hq.hi (q + 1) (by omega) h6
    · omega
  have h6 := hq.le
  refine ⟨q, hq.lt, ?_, lev_plc hq⟩
  unfold plo phi mx mn
  (repeat' split) <;> omega
theorem of_piece (hW : Wf0 n f) (a b : Int) (k : Nat) (hk : k < n) (h : plo a f k < phi b n f k) : clp a ≤ plo a f k ∧ plo a f k < clp b ∧ lev n f (plo a f k) = (f k).f1 := by
  have h1 : clp a ≤ plo a f k ∧ (f k).f0 ≤ plo a f k := by unfold plo mx; split <;> omega
  have h2 : phi b n f k ≤ clp b ∧ phi b n f k ≤ enF n f k := by unfold phi mn; split <;> omega
  exact ⟨h1.1, by omega, lev_plc (plc_piece hW k hk _ h1.2 (by omega))⟩
end
section
variable {n : Nat} {f : Nat → S67} {L : Int → Int}
theorem least_inv (a b : Int) (n : Nat) (f : Nat → S67) : ∀ k, match pkS (fun x y => decide (x < y)) a b n f k with
    | none => ∀ j, j < k → ¬ plo a f j < phi b n f j
    | some m => (∃ j, j < k ∧ plo a f j < phi b n f j ∧ (f j).f1 = m) ∧ ∀ j, j < k → plo a f j < phi b n f j → m ≤ (f j).f1
  | 0 => fun j hj => by omega
  | k + 1 => by
    have ih := least_inv a b n f k
    unfold pkS
    by_cases hne : plo a f k < phi b n f k
    · rw [if_pos hne]
      cases hp : pkS (fun x y => decide (x < y)) a b n f k with
      | none =>
        rw [hp] at ih
        refine ⟨⟨k, by omega, hne, rfl⟩, fun j hj hn => ?_⟩
        by_cases e : j = k
        · rw [e]; exact Int.le_refl _
        · exact absurd hn (ih j (by omega))
      | some v =>
        rw [hp] at ih
        obtain ⟨⟨i, h1, h2, h3⟩, h4⟩ := ih
        by_cases c : (f k).f1 < v
        · simp only [decide_eq_true c, if_true]
          refine ⟨⟨k, by omega, hne, rfl⟩, fun j hj hn => ?_⟩
          by_cases e : j = k
          · rw [e]; exact Int.le_refl _
          · have := h4 j (by omega) hn
            omega
        · simp only [decide_eq_false c, Bool.false_eq_true, if_false]
          refine ⟨⟨i, by omega, h2, h3⟩, fun j hj hn => ?_⟩
          by_cases e : j = k
          · rw [e]; omega
          · exact h4 j (by omega) hn
    · rw [if_neg hne]
      cases hp : pkS (fun x y => decide (x < y)) a b n f k with
      | none =>
        rw [hp] at ih
        intro j hj
        by_cases e : j = k
        · rw [e]; exact hne
        · exact ih j (by omega)
      | some v =>
        rw [hp] at ih
        obtain ⟨⟨i, h1, h2, h3⟩, h4⟩ := ih
        refine ⟨⟨i, by omega, h2, h3⟩, fun j hj hn => ?_⟩
        by_cases e : j = k
        · rw [e] at hn; exact absurd hn hne
        · exact h4 j (by omega) hn
/-- The least level of a span; 0 where it is empty. -/
structure Least (L : Int → Int) (a b m : Int) : Prop where
  none : clp b ≤ clp a → m = 0
  some : clp a < clp b → (∃ s, clp a ≤ s ∧ s < clp b ∧ L s = m) ∧ ∀ s, clp a ≤ s → s < clp b → m ≤ L s
theorem least_law (hW : Wf0 n f) (hL : ∀ s, 0 ≤ s → s < 1099511627776 → lev n f s = L s) (a b : Int) : Least L a b ((pkS (fun x y => decide (x < y)) a b n f n).getD 0) := by
  have h := least_inv a b n f n
  have h1 := clp_bd a
  have h2 := clp_bd b
  cases hp : pkS (fun x y => decide (x < y)) a b n f n with
  | none =>
    rw [hp] at h
    refine ⟨fun _ => rfl, fun h3 => ?_⟩
    obtain ⟨k, h4, h5, _⟩ := piece_of hW a b (clp a) (Int.le_refl _) h3
    exact absurd h5 (h k h4)
  | some m =>
    rw [hp] at h
    obtain ⟨⟨j, h3, h4, h5⟩, h6⟩ := h
    have h7 := of_piece hW a b j h3 h4
    refine ⟨fun h8 => by omega, fun h8 => ⟨⟨plo a f j, h7.1, h7.2.1, ?_⟩, fun s h9 h10 => ?_⟩⟩
    · rw [← hL _ (by omega) (by omega), h7.2.2, h5]; rfl
    · obtain ⟨k, h11, h12, h13⟩ := piece_of hW a b s h9 h10
      have := h6 k h11 h12
      rw [← hL s (by omega) (by omega), h13]
      exact this
end
section
variable {n : Nat} {f : Nat → S67} {L : Int → Int}
theorem most_inv (a b : Int) (n : Nat) (f : Nat → S67) : ∀ k, match pkS (fun x y => decide (x > y)) a b n f k with
    | none => ∀ j, j < k → ¬ plo a f j < phi b n f j
    | some m => (∃ j, j < k ∧ plo a f j < phi b n f j ∧ (f j).f1 = m) ∧ ∀ j, j < k → plo a f j < phi b n f j → (f j).f1 ≤ m
  | 0 => fun j hj => by omega
  | k + 1 => by
    have ih := most_inv a b n f k
    unfold pkS
    by_cases hne : plo a f k < phi b n f k
    · rw [if_pos hne]
      cases hp : pkS (fun x y => decide (x > y)) a b n f k with
      | none =>
        rw [hp] at ih
        refine ⟨⟨k, by omega, hne, rfl⟩, fun j hj hn => ?_⟩
        by_cases e : j = k
        · rw [e]; exact Int.le_refl _
        · exact absurd hn (ih j (by omega))
      | some v =>
        rw [hp] at ih
        obtain ⟨⟨i, h1, h2, h3⟩, h4⟩ := ih
        by_cases c : (f k).f1 > v
        · simp only [decide_eq_true c, if_true]
          refine ⟨⟨k, by omega, hne, rfl⟩, fun j hj hn => ?_⟩
          by_cases e : j = k
          · rw [e]; exact Int.le_refl _
          · have := h4 j (by omega) hn
            omega
        · simp only [decide_eq_false c, Bool.false_eq_true, if_false]
          refine ⟨⟨i, by omega, h2, h3⟩, fun j hj hn => ?_⟩
          by_cases e : j = k
          · rw [e]; omega
          · exact h4 j (by omega) hn
    · rw [if_neg hne]
      cases hp : pkS (fun x y => decide (x > y)) a b n f k with
      | none =>
        rw [hp] at ih
        intro j hj
        by_cases e : j = k
        · rw [e]; exact hne
        · exact ih j (by omega)
      | some v =>
        rw [hp] at ih
        obtain ⟨⟨i, h1, h2, h3⟩, h4⟩ := ih
        refine ⟨⟨i, by omega, h2, h3⟩, fun j hj hn => ?_⟩
        by_cases e : j = k
        · rw [e] at hn; exact absurd hn hne
        · exact h4 j (by omega) hn
/-- The greatest level of a span; 0 where it is empty. -/
structure Most (L : Int → Int) (a b m : Int) : Prop where
  none : clp b ≤ clp a → m = 0
  some : clp a < clp b → (∃ s, clp a ≤ s ∧ s < clp b ∧ L s = m) ∧ ∀ s, clp a ≤ s → s < clp b → L s ≤ m
theorem most_law (hW : Wf0 n f) (hL : ∀ s, 0 ≤ s → s < 1099511627776 → lev n f s = L s) (a b : Int) : Most L a b ((pkS (fun x y => decide (x > y)) a b n f n).getD 0) := by
  have h := most_inv a b n f n
  have h1 := clp_bd a
  have h2 := clp_bd b
  cases hp : pkS (fun x y => decide (x > y)) a b n f n with
  | none =>
    rw [hp] at h
    refine ⟨fun _ => rfl, fun h3 => ?_⟩
    obtain ⟨k, h4, h5, _⟩ := piece_of hW a b (clp a) (Int.le_refl _) h3
    exact absurd h5 (h k h4)
  | some m =>
    rw [hp] at h
    obtain ⟨⟨j, h3, h4, h5⟩, h6⟩ := h
    have h7 := of_piece hW a b j h3 h4
    refine ⟨fun h8 => by omega, fun h8 => ⟨⟨plo a f j, h7.1, h7.2.1, ?_⟩, fun s h9 h10 => ?_⟩⟩
    · rw [← hL _ (by omega) (by omega), h7.2.2, h5]; rfl
    · obtain ⟨k, h11, h12, h13⟩ := piece_of hW a b s h9 h10
      have := h6 k h11 h12
      rw [← hL s (by omega) (by omega), h13]
      exact this
end
end Go.Proofs.Ytaeifdmabkjoiaa.PPU

/- The contracts of tick.Add and tick.Times on times; of the closures of Area and pick. -/
namespace Go.Proofs.Ytaeifdmabkjoiaa.PPU
open Go.RowKit Go.Proofs.YtaeifdmabkjoiaaW.PrintWords Go.Proofs.YtaeifdmabkjoiaaW.PrintLast Go.Proofs.YtaeifdmabkjoiaaW.PrintMore
set_option linter.unusedVariables false
set_option linter.unusedSimpArgs false

theorem tadd_c (x y : Int) (w : World) (hx : 0 ≤ x ∧ x ≤ 1099511627776) (hy : 0 ≤ y ∧ y ≤ 1099511627776) : Calls Try.prog 49 #[.int .i64 x, .int .i64 y] w fun e w' => e = .returned (.int .i64 (min (x + y) 1099511627776)) ∧ Below w.heap.size w w' := by
  refine tick_Add.calls x y _ w ?_
  have e1 : ∀ x, tick_Clamp.f x = some (clp x) := fun _ => rfl
  unfold tick_Add.f
  rw [e1, e1, clp_id hx.1 hx.2, clp_id hy.1 hy.2]
  simp only [Option.bind_some]
  rw [IntWalk.wrap64_in _ (by omega), e1]
  simp only [Option.bind_some]
  congr 1
  unfold clp mx mn
  (repeat' split) <;> omega
theorem ttimes_c (m v : Int) (w : World) (hm : 0 ≤ m ∧ m ≤ 1099511627776) : Calls Try.prog 50 #[.int .i64 m, .int .i64 v] w fun e w' => e = .returned (.int .i64 (min (m * max 0 v) 1099511627776)) ∧ Below w.heap.size w w' := by
  refine tick_Times.calls 1 m v _ w ?_
  have e1 : ∀ x, tick_Clamp.f x = some (clp x) := fun _ => rfl
  unfold tick_Times.f
  rw [e1, clp_id hm.1 hm.2]
  simp only [Option.bind_some]
  by_cases h1 : v < 1
  · rw [if_pos h1, show max 0 v = 0 by omega]
    rw [tick_Times.j0, if_pos rfl, Int.mul_zero]
    congr 1
  · rw [if_neg h1, show max 0 v = v by omega]
    rw [tick_Times.j0]
    by_cases h2 : m = 0
    · subst h2
      rw [if_pos rfl, Int.zero_mul]
      congr 1
    · rw [if_neg (by simpa using h2), if_neg h2]
      have e2 : Int.tdiv 1099511627776 m = 1099511627776 / m := Int.tdiv_eq_ediv_of_nonneg (by omega)
      have e3 : 0 ≤ 1099511627776 / m := Int.ediv_nonneg (by omega) hm.1
      have e4 : 1099511627776 / m ≤ 1099511627776 := Int.ediv_le_self _ (by omega)
      rw [e2, IntWalk.wrap64_in _ (by omega)]
      have e5 : v ≤ 1099511627776 / m ↔ v * m ≤ 1099511627776 := Int.le_ediv_iff_mul_le (by omega)
      rw [Int.mul_comm m v]
      by_cases h3 : v ≤ 1099511627776 / m
      · have h4 := e5.1 h3
        have h5 : 0 ≤ v * m := Int.mul_nonneg (by omega) hm.1
        rw [if_neg (by omega), IntWalk.wrap64_in _ (by omega)]
        congr 1
        omega
      · have h4 : ¬ v * m ≤ 1099511627776 := fun h => h3 (e5.2 h)
        rw [if_pos (by omega)]
        congr 1
        omega
set_option maxHeartbeats 4000000 in
set_option maxRecDepth 100000 in
theorem area1_c (s1 : Nat) (S m v : Int) (w : World) (hc : w.heap[s1]? = some (.cells #[.int .i64 S] 23 (0, 0))) (hS : 0 ≤ S ∧ S ≤ 1099511627776) (hm : 0 ≤ m ∧ m ≤ 1099511627776) :
    Calls Try.prog 48 #[.int .i64 v, .int .i64 m, .pointer (some ⟨s1, 0, none⟩)] w fun e w' => e = .returned (.tuple #[]) ∧ w'.heap[s1]? = some (.cells #[.int .i64 (min (S + min (m * max 0 v) 1099511627776) 1099511627776)] 23 (0, 0)) ∧ Kp w w' s1 s1 := by
  have HC := Aside0.mk hc
  have c0 : w.cell? ⟨s1, 0, none⟩ = some (.int .i64 S) := (blk_cell hc 0).trans rfl
  have hsl := blk_lt hc
  have hT : 0 ≤ min (m * max 0 v) 1099511627776 ∧ min (m * max 0 v) 1099511627776 ≤ 1099511627776 := by
    have : 0 ≤ m * max 0 v := Int.mul_nonneg hm.1 (by omega)
    omega
  have HT := Aside0.mk hT
  have HS := Aside0.mk hS
  have HM := Aside0.mk hm
  have HF := Aside0.mk (fun (w' : World) (hb : Below w.heap.size w w') => show w'.heap[s1]? = some (.cells #[.int .i64 S] 23 (0, 0)) from blk_below hc hb)
  clear hc hT hS hm
  go_enter Try.func48, Try.ntmps48
  go_region_with (first
    | ((with_reducible refine (ttimes_c m v _ HM.out).mono ?_); rintro e w2 ⟨rfl, hb⟩; have HB2 := Aside0.mk (show Below w.heap.size w w2 from (Below.refl _ w).drew.trans hb); have c2 : w2.cell? ⟨s1, 0, none⟩ = some (.int .i64 S) := (blk_cell (HF.out _ HB2.out) 0).trans rfl; clear hb)
    | ((with_reducible refine (tadd_c S _ _ HS.out HT.out).mono ?_); rintro e w3 ⟨rfl, hb⟩; have HB3 := Aside0.mk (show Below w.heap.size w w3 from below_step HB2.out hb); have c3 : w3.cell? ⟨s1, 0, none⟩ = some (.int .i64 S) := (blk_cell (HF.out _ HB3.out) 0).trans rfl; have f3 : w3.frozen? ⟨s1, 0, none⟩ = false := blk_frozen (HF.out _ HB3.out) 0; clear hb))
  all_goals
    go_wp2_with fail
    go_end0
    exact ⟨rfl, blk_set (HF.out _ HB3.out) 0 _, (Kp.of_below HB3.out s1 s1).set _ _ (.inl rfl)⟩
/-- pick's closure: what it has met, and the function that says which level is ahead. -/
def PkM (w : World) (s1 s2 s3 F : Nat) (o : Option Int) : Prop := w.heap[s1]? = some (.cells #[.bool o.isSome] 4 (0, 0)) ∧ w.heap[s2]? = some (.cells #[.func (.func F) #[] #[]] 85 (0, 0)) ∧ w.heap[s3]? = some (.cells #[.int .i64 (o.getD 0)] 3 (0, 0))
theorem PkM.below {w w' : World} {s1 s2 s3 F : Nat} {o : Option Int} (h : PkM w s1 s2 s3 F o) (hb : Below w.heap.size w w') : PkM w' s1 s2 s3 F o := ⟨blk_below h.1 hb, blk_below h.2.1 hb, blk_below h.2.2 hb⟩
theorem PkM.take {w : World} {s1 s2 s3 F : Nat} {o : Option Int} (h : PkM w s1 s2 s3 F o) (v : Int) (h13 : s1 ≠ s3) (h12 : s1 ≠ s2) (h23 : s2 ≠ s3) : PkM ((w.setCell ⟨s3, 0, none⟩ (.int .i64 v)).setCell ⟨s1, 0, none⟩ (.bool true)) s1 s2 s3 F (some v) := by
  obtain ⟨h1, h2, h3⟩ := h
  refine ⟨?_, ?_, ?_⟩
  · exact blk_set (blk_far h1 (p := ⟨s3, 0, none⟩) h13 _) 0 _
  · exact blk_far (blk_far h2 (p := ⟨s3, 0, none⟩) h23 _) (p := ⟨s1, 0, none⟩) (fun e => h12 e.symm) _
  · exact blk_far (blk_set h3 0 _) (p := ⟨s1, 0, none⟩) (fun e => h13 e.symm) _
def pkStep (ah : Int → Int → Bool) (o : Option Int) (v : Int) : Option Int := match o with | none => some v | some x => if ah v x = true then some v else some x
end Go.Proofs.Ytaeifdmabkjoiaa.PPU

/- The contracts of pick's closure. -/
namespace Go.Proofs.Ytaeifdmabkjoiaa.PPU
open Go.RowKit Go.Proofs.YtaeifdmabkjoiaaW.PrintWords Go.Proofs.YtaeifdmabkjoiaaW.PrintLast Go.Proofs.YtaeifdmabkjoiaaW.PrintMore
set_option linter.unusedVariables false
set_option linter.unusedSimpArgs false

set_option maxHeartbeats 4000000 in
set_option maxRecDepth 100000 in
theorem pick1_45 (s1 s2 s3 : Nat) (o : Option Int) (m v : Int) (w : World) (hM : PkM w s1 s2 s3 45 o) (h12 : s1 ≠ s2) (h13 : s1 ≠ s3) (h23 : s2 ≠ s3) :
    Calls Try.prog 61 #[.int .i64 v, .int .i64 m, .pointer (some ⟨s1, 0, none⟩), .pointer (some ⟨s2, 0, none⟩), .pointer (some ⟨s3, 0, none⟩)] w fun e w' => e = .returned (.tuple #[]) ∧ PkM w' s1 s2 s3 45 (pkStep (fun x y => decide (x < y)) o v) ∧ Kp w w' s1 s3 := by
  have HM := Aside0.mk hM
  clear hM
  cases o with
  | none =>
    have c1 : w.cell? ⟨s1, 0, none⟩ = some (.bool false) := (blk_cell HM.out.1 0).trans rfl
    have c3 : w.cell? ⟨s3, 0, none⟩ = some (.int .i64 0) := (blk_cell HM.out.2.2 0).trans rfl
    have f1 := blk_frozen HM.out.1 0
    have f3 := blk_frozen HM.out.2.2 0
    have h31 : s3 ≠ s1 := fun e => h13 e.symm
    have HT := Aside0.mk (HM.out.take v h13 h12 h23)
    go_enter Try.func61, Try.ntmps61
    go_wp2_with fail
    go_end0
    exact ⟨rfl, HT.out, ((Kp.refl w s1 s3).set _ _ (.inr rfl)).set _ _ (.inl rfl)⟩
  | some x =>
    have c1 : w.cell? ⟨s1, 0, none⟩ = some (.bool true) := (blk_cell HM.out.1 0).trans rfl
    have c2 : w.cell? ⟨s2, 0, none⟩ = some (.func (.func 45) #[] #[]) := (blk_cell HM.out.2.1 0).trans rfl
    have c3 : w.cell? ⟨s3, 0, none⟩ = some (.int .i64 x) := (blk_cell HM.out.2.2 0).trans rfl
    have h31 : s3 ≠ s1 := fun e => h13 e.symm
    by_cases hc : v < x
    · have HC := Aside0.mk hc
      clear hc
      go_enter Try.func61, Try.ntmps61
      go_wp2_with fail
      refine (usage_Steps_LeastC1.calls v x true _ (by unfold usage_Steps_LeastC1.f; rw [decide_eq_true HC.out])).mono ?_
      rintro e w2 ⟨rfl, hb⟩
      have HB := Aside0.mk hb.below
      have HM2 := Aside0.mk (HM.out.below HB.out)
      have f1 := blk_frozen HM2.out.1 0
      have f3 := blk_frozen HM2.out.2.2 0
      have d1 : w2.cell? ⟨s1, 0, none⟩ = some (.bool true) := (blk_cell HM2.out.1 0).trans rfl
      have d3 : w2.cell? ⟨s3, 0, none⟩ = some (.int .i64 x) := (blk_cell HM2.out.2.2 0).trans rfl
      clear hb c1 c2 c3
      go_wp2_with fail
      go_end0
      refine ⟨rfl, ?_, ((Kp.of_below HB.out s1 s3).set _ _ (.inr rfl)).set _ _ (.inl rfl)⟩
      show PkM _ s1 s2 s3 45 (if decide (v < x) = true then some v else some x)
      rw [if_pos (decide_eq_true HC.out)]
      exact HM2.out.take v h13 h12 h23
    · have HC := Aside0.mk hc
      clear hc
      go_enter Try.func61, Try.ntmps61
      go_wp2_with fail
      refine (usage_Steps_LeastC1.calls v x false _ (by unfold usage_Steps_LeastC1.f; rw [decide_eq_false (by have := HC.out; omega)])).mono ?_
      rintro e w2 ⟨rfl, hb⟩
      have HB := Aside0.mk hb.below
      have HM2 := Aside0.mk (HM.out.below HB.out)
      clear hb c1 c2 c3
      go_wp2_with fail
      go_end0
      refine ⟨rfl, ?_, Kp.of_below HB.out s1 s3⟩
      show PkM _ s1 s2 s3 45 (if decide (v < x) = true then some v else some x)
      rw [if_neg (by have := HC.out; simp; omega)]
      exact HM2.out
set_option maxHeartbeats 4000000 in
set_option maxRecDepth 100000 in
theorem pick1_46 (s1 s2 s3 : Nat) (o : Option Int) (m v : Int) (w : World) (hM : PkM w s1 s2 s3 46 o) (h12 : s1 ≠ s2) (h13 : s1 ≠ s3) (h23 : s2 ≠ s3) :
    Calls Try.prog 61 #[.int .i64 v, .int .i64 m, .pointer (some ⟨s1, 0, none⟩), .pointer (some ⟨s2, 0, none⟩), .pointer (some ⟨s3, 0, none⟩)] w fun e w' => e = .returned (.tuple #[]) ∧ PkM w' s1 s2 s3 46 (pkStep (fun x y => decide (x > y)) o v) ∧ Kp w w' s1 s3 := by
  have HM := Aside0.mk hM
  clear hM
  cases o with
  | none =>
    have c1 : w.cell? ⟨s1, 0, none⟩ = some (.bool false) := (blk_cell HM.out.1 0).trans rfl
    have c3 : w.cell? ⟨s3, 0, none⟩ = some (.int .i64 0) := (blk_cell HM.out.2.2 0).trans rfl
    have f1 := blk_frozen HM.out.1 0
    have f3 := blk_frozen HM.out.2.2 0
    have h31 : s3 ≠ s1 := fun e => h13 e.symm
    have HT := Aside0.mk (HM.out.take v h13 h12 h23)
    go_enter Try.func61, Try.ntmps61
    go_wp2_with fail
    go_end0
    exact ⟨rfl, HT.out, ((Kp.refl w s1 s3).set _ _ (.inr rfl)).set _ _ (.inl rfl)⟩
  | some x =>
    have c1 : w.cell? ⟨s1, 0, none⟩ = some (.bool true) := (blk_cell HM.out.1 0).trans rfl
    have c2 : w.cell? ⟨s2, 0, none⟩ = some (.func (.func 46) #[] #[]) := (blk_cell HM.out.2.1 0).trans rfl
    have c3 : w.cell? ⟨s3, 0, none⟩ = some (.int .i64 x) := (blk_cell HM.out.2.2 0).trans rfl
    have h31 : s3 ≠ s1 := fun e => h13 e.symm
    by_cases hc : v > x
    · have HC := Aside0.mk hc
      clear hc
      go_enter Try.func61, Try.ntmps61
      go_wp2_with fail
      refine (usage_Steps_MostC1.calls v x true _ (by unfold usage_Steps_MostC1.f; rw [decide_eq_true HC.out])).mono ?_
      rintro e w2 ⟨rfl, hb⟩
      have HB := Aside0.mk hb.below
      have HM2 := Aside0.mk (HM.out.below HB.out)
      have f1 := blk_frozen HM2.out.1 0
      have f3 := blk_frozen HM2.out.2.2 0
      have d1 : w2.cell? ⟨s1, 0, none⟩ = some (.bool true) := (blk_cell HM2.out.1 0).trans rfl
      have d3 : w2.cell? ⟨s3, 0, none⟩ = some (.int .i64 x) := (blk_cell HM2.out.2.2 0).trans rfl
      clear hb c1 c2 c3
      go_wp2_with fail
      go_end0
      refine ⟨rfl, ?_, ((Kp.of_below HB.out s1 s3).set _ _ (.inr rfl)).set _ _ (.inl rfl)⟩
      show PkM _ s1 s2 s3 46 (if decide (v > x) = true then some v else some x)
      rw [if_pos (decide_eq_true HC.out)]
      exact HM2.out.take v h13 h12 h23
    · have HC := Aside0.mk hc
      clear hc
      go_enter Try.func61, Try.ntmps61
      go_wp2_with fail
      refine (usage_Steps_MostC1.calls v x false _ (by unfold usage_Steps_MostC1.f; rw [decide_eq_false (by have := HC.out; omega)])).mono ?_
      rintro e w2 ⟨rfl, hb⟩
      have HB := Aside0.mk hb.below
      have HM2 := Aside0.mk (HM.out.below HB.out)
      clear hb c1 c2 c3
      go_wp2_with fail
      go_end0
      refine ⟨rfl, ?_, Kp.of_below HB.out s1 s3⟩
      show PkM _ s1 s2 s3 46 (if decide (v > x) = true then some v else some x)
      rw [if_neg (by have := HC.out; simp; omega)]
      exact HM2.out
end Go.Proofs.Ytaeifdmabkjoiaa.PPU
