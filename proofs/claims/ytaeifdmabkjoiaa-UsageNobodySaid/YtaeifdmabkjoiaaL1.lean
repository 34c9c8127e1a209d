/- The walk of UsageNobody. -/
import Derived.Test.YtaeifdmabkjoiaaA7
namespace Go.Proofs.Ytaeifdmabkjoiaa.PPU
open Go.RowKit Go.Proofs.YtaeifdmabkjoiaaW.PrintWords Go.Proofs.YtaeifdmabkjoiaaW.PrintLast Go.Proofs.YtaeifdmabkjoiaaW.PrintMore
set_option linter.unusedVariables false
set_option linter.unusedSimpArgs false

set_option maxHeartbeats 8000000 in
set_option maxRecDepth 100000 in
theorem nobody_law (k a b y : Int) (w : World) : Calls Try.prog 5 #[.agg #[.int .i64 k, .int .i64 a, .int .i64 b, .int .i64 y]] w fun e w' => e = .returned (.bool true) ∧ Below w.heap.size w w' := by
  have hu25 := Try.underlying25
  have hu50 := Try.underlying50
  have hu58 := Try.underlying58
  go_enter Try.func5, Try.ntmps5
  go_wp2_with fail
  have HB0 := Aside0.mk (show Below w.heap.size w (w.alloc (.cells #[.int .i64 k, .int .i64 a, .int .i64 b, .int .i64 y] 50 (0, 0))) from (Below.refl _ w).alloc (Nat.le_refl _) _)
  have HX0 := Aside0.mk (blk_new w (.cells #[.int .i64 k, .int .i64 a, .int .i64 b, .int .i64 y] 50 (0, 0)))
  obtain ⟨B, hB⟩ : ∃ B, B = w.heap.size := ⟨_, rfl⟩
  rw [← hB] at HX0 ⊢
  clear hB
  go_loopg [3] 2 (fun kq v3 w' => ∃ i : Nat, 2 - i = kq ∧ v3 = .int .i64 i ∧ Aside0 (i ≤ 2) ∧ Aside0 (Below w.heap.size w w') ∧ Aside0 (w'.heap[B]? = some (.cells #[.int .i64 k, .int .i64 a, .int .i64 b, .int .i64 y] 50 (0, 0))))
  case atStart => exact ⟨0, rfl, rfl, ⟨by omega⟩, HB0, HX0⟩
  case round =>
    obtain ⟨i, hi, rfl, HI, HB, HX⟩ := hrel
    subst hi
    by_cases hi2 : i < 2
    · have h1 : decide (i < 2) = true := decide_eq_true hi2
      by_cases hi1 : i = 1
      · subst hi1
        have q0 : wr.cell? ⟨B, 0, none⟩ = some (.int .i64 k) := (blk_cell HX.out 0).trans rfl
        have q1 : wr.cell? ⟨B, 1, none⟩ = some (.int .i64 a) := (blk_cell HX.out 1).trans rfl
        have q2 : wr.cell? ⟨B, 2, none⟩ = some (.int .i64 b) := (blk_cell HX.out 2).trans rfl
        have q3 : wr.cell? ⟨B, 3, none⟩ = some (.int .i64 y) := (blk_cell HX.out 3).trans rfl
        have hx : ¬ (B = wr.heap.size) := by have := blk_lt HX.out; omega
        have hx2 : B < wr.heap.size := blk_lt HX.out
        go_wp2_with fail
        have HB1 := Aside0.mk (show Below w.heap.size w (wr.alloc (.cells #[.slice none 0 0] 58 (0, 0))) from below_step HB.out ((Below.refl _ wr).alloc (Nat.le_refl _) _))
        have HX1 := Aside0.mk (blk_alloc HX.out (.cells #[.slice none 0 0] 58 (0, 0)))
        have HN1 := Aside0.mk (show Nob (wr.alloc (.cells #[.slice none 0 0] 58 (0, 0))) (.pointer none) from .inl rfl)
        clear q0 q1 q2 q3 hx hx2
        refine (add_nob _ a b y _ HN1.out).mono ?_
        rintro e w1 ⟨rfl, hb⟩
        have HB2 := Aside0.mk (below_step HB1.out hb)
        have HX2 := Aside0.mk (blk_below HX1.out hb)
        have HN2 := Aside0.mk (HN1.out.below hb)
        clear hb
        have q0 : w1.cell? ⟨B, 0, none⟩ = some (.int .i64 k) := (blk_cell HX2.out 0).trans rfl
        have q1 : w1.cell? ⟨B, 1, none⟩ = some (.int .i64 a) := (blk_cell HX2.out 1).trans rfl
        have q2 : w1.cell? ⟨B, 2, none⟩ = some (.int .i64 b) := (blk_cell HX2.out 2).trans rfl
        have q3 : w1.cell? ⟨B, 3, none⟩ = some (.int .i64 y) := (blk_cell HX2.out 3).trans rfl
        go_wp2_with fail
        clear q0 q1 q2 q3
        refine (set_nob _ a b y _ HN2.out).mono ?_
        rintro e w2 ⟨rfl, hb⟩
        have HB3 := Aside0.mk (below_step HB2.out hb)
        have HX3 := Aside0.mk (blk_below HX2.out hb)
        have HN3 := Aside0.mk (HN2.out.below hb)
        clear hb
        have q0 : w2.cell? ⟨B, 0, none⟩ = some (.int .i64 k) := (blk_cell HX3.out 0).trans rfl
        have q1 : w2.cell? ⟨B, 1, none⟩ = some (.int .i64 a) := (blk_cell HX3.out 1).trans rfl
        have q2 : w2.cell? ⟨B, 2, none⟩ = some (.int .i64 b) := (blk_cell HX3.out 2).trans rfl
        have q3 : w2.cell? ⟨B, 3, none⟩ = some (.int .i64 y) := (blk_cell HX3.out 3).trans rfl
        go_wp2_with fail
        clear q0 q1 q2 q3
        refine (forget_nob _ a _ HN3.out).mono ?_
        rintro e w3 ⟨rfl, hb⟩
        have HB4 := Aside0.mk (below_step HB3.out hb)
        have HX4 := Aside0.mk (blk_below HX3.out hb)
        have HN4 := Aside0.mk (HN3.out.below hb)
        clear hb
        have q0 : w3.cell? ⟨B, 0, none⟩ = some (.int .i64 k) := (blk_cell HX4.out 0).trans rfl
        have q1 : w3.cell? ⟨B, 1, none⟩ = some (.int .i64 a) := (blk_cell HX4.out 1).trans rfl
        have q2 : w3.cell? ⟨B, 2, none⟩ = some (.int .i64 b) := (blk_cell HX4.out 2).trans rfl
        have q3 : w3.cell? ⟨B, 3, none⟩ = some (.int .i64 y) := (blk_cell HX4.out 3).trans rfl
        go_wp2_with fail
        clear q0 q1 q2 q3
        refine (at_nob _ a _ HN4.out).mono ?_
        rintro e w4 ⟨rfl, hb⟩
        have HB5 := Aside0.mk (below_step HB4.out hb)
        have HX5 := Aside0.mk (blk_below HX4.out hb)
        have HN5 := Aside0.mk (HN4.out.below hb)
        clear hb
        have q0 : w4.cell? ⟨B, 0, none⟩ = some (.int .i64 k) := (blk_cell HX5.out 0).trans rfl
        have q1 : w4.cell? ⟨B, 1, none⟩ = some (.int .i64 a) := (blk_cell HX5.out 1).trans rfl
        have q2 : w4.cell? ⟨B, 2, none⟩ = some (.int .i64 b) := (blk_cell HX5.out 2).trans rfl
        have q3 : w4.cell? ⟨B, 3, none⟩ = some (.int .i64 y) := (blk_cell HX5.out 3).trans rfl
        go_wp2_with fail
        clear q0 q1 q2 q3
        refine (least_nob _ a b _ HN5.out).mono ?_
        rintro e w5 ⟨rfl, hb⟩
        have HB6 := Aside0.mk (below_step HB5.out hb)
        have HX6 := Aside0.mk (blk_below HX5.out hb)
        have HN6 := Aside0.mk (HN5.out.below hb)
        clear hb
        have q0 : w5.cell? ⟨B, 0, none⟩ = some (.int .i64 k) := (blk_cell HX6.out 0).trans rfl
        have q1 : w5.cell? ⟨B, 1, none⟩ = some (.int .i64 a) := (blk_cell HX6.out 1).trans rfl
        have q2 : w5.cell? ⟨B, 2, none⟩ = some (.int .i64 b) := (blk_cell HX6.out 2).trans rfl
        have q3 : w5.cell? ⟨B, 3, none⟩ = some (.int .i64 y) := (blk_cell HX6.out 3).trans rfl
        go_wp2_with fail
        clear q0 q1 q2 q3
        refine (most_nob _ a b _ HN6.out).mono ?_
        rintro e w6 ⟨rfl, hb⟩
        have HB7 := Aside0.mk (below_step HB6.out hb)
        have HX7 := Aside0.mk (blk_below HX6.out hb)
        have HN7 := Aside0.mk (HN6.out.below hb)
        clear hb
        have q0 : w6.cell? ⟨B, 0, none⟩ = some (.int .i64 k) := (blk_cell HX7.out 0).trans rfl
        have q1 : w6.cell? ⟨B, 1, none⟩ = some (.int .i64 a) := (blk_cell HX7.out 1).trans rfl
        have q2 : w6.cell? ⟨B, 2, none⟩ = some (.int .i64 b) := (blk_cell HX7.out 2).trans rfl
        have q3 : w6.cell? ⟨B, 3, none⟩ = some (.int .i64 y) := (blk_cell HX7.out 3).trans rfl
        go_wp2_with fail
        clear q0 q1 q2 q3
        refine (area_nob _ a b _ HN7.out).mono ?_
        rintro e w7 ⟨rfl, hb⟩
        have HB8 := Aside0.mk (below_step HB7.out hb)
        have HX8 := Aside0.mk (blk_below HX7.out hb)
        have HN8 := Aside0.mk (HN7.out.below hb)
        clear hb
        have q0 : w7.cell? ⟨B, 0, none⟩ = some (.int .i64 k) := (blk_cell HX8.out 0).trans rfl
        have q1 : w7.cell? ⟨B, 1, none⟩ = some (.int .i64 a) := (blk_cell HX8.out 1).trans rfl
        have q2 : w7.cell? ⟨B, 2, none⟩ = some (.int .i64 b) := (blk_cell HX8.out 2).trans rfl
        have q3 : w7.cell? ⟨B, 3, none⟩ = some (.int .i64 y) := (blk_cell HX8.out 3).trans rfl
        go_wp2_with fail
        clear q0 q1 q2 q3
        refine (list_nob _ _ HN8.out).mono ?_
        rintro e w8 ⟨rfl, hb⟩
        have HB9 := Aside0.mk (below_step HB8.out hb)
        have HX9 := Aside0.mk (blk_below HX8.out hb)
        have HN9 := Aside0.mk (HN8.out.below hb)
        clear hb
        have q0 : w8.cell? ⟨B, 0, none⟩ = some (.int .i64 k) := (blk_cell HX9.out 0).trans rfl
        have q1 : w8.cell? ⟨B, 1, none⟩ = some (.int .i64 a) := (blk_cell HX9.out 1).trans rfl
        have q2 : w8.cell? ⟨B, 2, none⟩ = some (.int .i64 b) := (blk_cell HX9.out 2).trans rfl
        have q3 : w8.cell? ⟨B, 3, none⟩ = some (.int .i64 y) := (blk_cell HX9.out 3).trans rfl
        go_wp2_with fail
        clear q0 q1 q2 q3
        refine (clone_nob _ _ HN9.out).mono ?_
        rintro e w9 ⟨rfl, hb⟩
        have HB10 := Aside0.mk (below_step HB9.out hb)
        have HX10 := Aside0.mk (blk_below HX9.out hb)
        have HN10 := Aside0.mk (HN9.out.below hb)
        clear hb
        have q0 : w9.cell? ⟨B, 0, none⟩ = some (.int .i64 k) := (blk_cell HX10.out 0).trans rfl
        have q1 : w9.cell? ⟨B, 1, none⟩ = some (.int .i64 a) := (blk_cell HX10.out 1).trans rfl
        have q2 : w9.cell? ⟨B, 2, none⟩ = some (.int .i64 b) := (blk_cell HX10.out 2).trans rfl
        have q3 : w9.cell? ⟨B, 3, none⟩ = some (.int .i64 y) := (blk_cell HX10.out 3).trans rfl
        go_wp2_with fail
        clear q0 q1 q2 q3
        refine (same_nob _ _ HN10.out).mono ?_
        rintro e w10 ⟨rfl, hb⟩
        have HB11 := Aside0.mk (below_step HB10.out hb)
        have HX11 := Aside0.mk (blk_below HX10.out hb)
        have HN11 := Aside0.mk (HN10.out.below hb)
        clear hb
        have q0 : w10.cell? ⟨B, 0, none⟩ = some (.int .i64 k) := (blk_cell HX11.out 0).trans rfl
        have q1 : w10.cell? ⟨B, 1, none⟩ = some (.int .i64 a) := (blk_cell HX11.out 1).trans rfl
        have q2 : w10.cell? ⟨B, 2, none⟩ = some (.int .i64 b) := (blk_cell HX11.out 2).trans rfl
        have q3 : w10.cell? ⟨B, 3, none⟩ = some (.int .i64 y) := (blk_cell HX11.out 3).trans rfl
        go_wp2_with fail
        clear q0 q1 q2 q3
        go_roundg (2 - (1 + 1))
        case measure => omega
        case rel => exact ⟨1 + 1, rfl, by go_num, ⟨by omega⟩, HB11, HX11⟩
      · obtain rfl : i = 0 := by omega
        have q0 : wr.cell? ⟨B, 0, none⟩ = some (.int .i64 k) := (blk_cell HX.out 0).trans rfl
        have q1 : wr.cell? ⟨B, 1, none⟩ = some (.int .i64 a) := (blk_cell HX.out 1).trans rfl
        have q2 : wr.cell? ⟨B, 2, none⟩ = some (.int .i64 b) := (blk_cell HX.out 2).trans rfl
        have q3 : wr.cell? ⟨B, 3, none⟩ = some (.int .i64 y) := (blk_cell HX.out 3).trans rfl
        have hx : ¬ (B = wr.heap.size) := by have := blk_lt HX.out; omega
        have hx2 : B < wr.heap.size := blk_lt HX.out
        go_wp2_with fail
        have HB1 := Aside0.mk (show Below w.heap.size w (wr.alloc (.cells #[.slice none 0 0] 58 (0, 0))) from below_step HB.out ((Below.refl _ wr).alloc (Nat.le_refl _) _))
        have HX1 := Aside0.mk (blk_alloc HX.out (.cells #[.slice none 0 0] 58 (0, 0)))
        have HN1 := Aside0.mk (show Nob (wr.alloc (.cells #[.slice none 0 0] 58 (0, 0))) (ptrV wr.heap.size) from .inr ⟨_, rfl, blk_new _ _⟩)
        obtain ⟨p, hp⟩ : ∃ p, p = wr.heap.size := ⟨_, rfl⟩
        rw [← hp] at HN1 ⊢
        clear hp
        clear q0 q1 q2 q3 hx hx2
        refine (add_nob _ a b y _ HN1.out).mono ?_
        rintro e w1 ⟨rfl, hb⟩
        have HB2 := Aside0.mk (below_step HB1.out hb)
        have HX2 := Aside0.mk (blk_below HX1.out hb)
        have HN2 := Aside0.mk (HN1.out.below hb)
        clear hb
        have q0 : w1.cell? ⟨B, 0, none⟩ = some (.int .i64 k) := (blk_cell HX2.out 0).trans rfl
        have q1 : w1.cell? ⟨B, 1, none⟩ = some (.int .i64 a) := (blk_cell HX2.out 1).trans rfl
        have q2 : w1.cell? ⟨B, 2, none⟩ = some (.int .i64 b) := (blk_cell HX2.out 2).trans rfl
        have q3 : w1.cell? ⟨B, 3, none⟩ = some (.int .i64 y) := (blk_cell HX2.out 3).trans rfl
        go_wp2_with fail
        clear q0 q1 q2 q3
        refine (set_nob _ a b y _ HN2.out).mono ?_
        rintro e w2 ⟨rfl, hb⟩
        have HB3 := Aside0.mk (below_step HB2.out hb)
        have HX3 := Aside0.mk (blk_below HX2.out hb)
        have HN3 := Aside0.mk (HN2.out.below hb)
        clear hb
        have q0 : w2.cell? ⟨B, 0, none⟩ = some (.int .i64 k) := (blk_cell HX3.out 0).trans rfl
        have q1 : w2.cell? ⟨B, 1, none⟩ = some (.int .i64 a) := (blk_cell HX3.out 1).trans rfl
        have q2 : w2.cell? ⟨B, 2, none⟩ = some (.int .i64 b) := (blk_cell HX3.out 2).trans rfl
        have q3 : w2.cell? ⟨B, 3, none⟩ = some (.int .i64 y) := (blk_cell HX3.out 3).trans rfl
        go_wp2_with fail
        clear q0 q1 q2 q3
        refine (forget_nob _ a _ HN3.out).mono ?_
        rintro e w3 ⟨rfl, hb⟩
        have HB4 := Aside0.mk (below_step HB3.out hb)
        have HX4 := Aside0.mk (blk_below HX3.out hb)
        have HN4 := Aside0.mk (HN3.out.below hb)
        clear hb
        have q0 : w3.cell? ⟨B, 0, none⟩ = some (.int .i64 k) := (blk_cell HX4.out 0).trans rfl
        have q1 : w3.cell? ⟨B, 1, none⟩ = some (.int .i64 a) := (blk_cell HX4.out 1).trans rfl
        have q2 : w3.cell? ⟨B, 2, none⟩ = some (.int .i64 b) := (blk_cell HX4.out 2).trans rfl
        have q3 : w3.cell? ⟨B, 3, none⟩ = some (.int .i64 y) := (blk_cell HX4.out 3).trans rfl
        go_wp2_with fail
        clear q0 q1 q2 q3
        refine (at_nob _ a _ HN4.out).mono ?_
        rintro e w4 ⟨rfl, hb⟩
        have HB5 := Aside0.mk (below_step HB4.out hb)
        have HX5 := Aside0.mk (blk_below HX4.out hb)
        have HN5 := Aside0.mk (HN4.out.below hb)
        clear hb
        have q0 : w4.cell? ⟨B, 0, none⟩ = some (.int .i64 k) := (blk_cell HX5.out 0).trans rfl
        have q1 : w4.cell? ⟨B, 1, none⟩ = some (.int .i64 a) := (blk_cell HX5.out 1).trans rfl
        have q2 : w4.cell? ⟨B, 2, none⟩ = some (.int .i64 b) := (blk_cell HX5.out 2).trans rfl
        have q3 : w4.cell? ⟨B, 3, none⟩ = some (.int .i64 y) := (blk_cell HX5.out 3).trans rfl
        go_wp2_with fail
        clear q0 q1 q2 q3
        refine (least_nob _ a b _ HN5.out).mono ?_
        rintro e w5 ⟨rfl, hb⟩
        have HB6 := Aside0.mk (below_step HB5.out hb)
        have HX6 := Aside0.mk (blk_below HX5.out hb)
        have HN6 := Aside0.mk (HN5.out.below hb)
        clear hb
        have q0 : w5.cell? ⟨B, 0, none⟩ = some (.int .i64 k) := (blk_cell HX6.out 0).trans rfl
        have q1 : w5.cell? ⟨B, 1, none⟩ = some (.int .i64 a) := (blk_cell HX6.out 1).trans rfl
        have q2 : w5.cell? ⟨B, 2, none⟩ = some (.int .i64 b) := (blk_cell HX6.out 2).trans rfl
        have q3 : w5.cell? ⟨B, 3, none⟩ = some (.int .i64 y) := (blk_cell HX6.out 3).trans rfl
        go_wp2_with fail
        clear q0 q1 q2 q3
        refine (most_nob _ a b _ HN6.out).mono ?_
        rintro e w6 ⟨rfl, hb⟩
        have HB7 := Aside0.mk (below_step HB6.out hb)
        have HX7 := Aside0.mk (blk_below HX6.out hb)
        have HN7 := Aside0.mk (HN6.out.below hb)
        clear hb
        have q0 : w6.cell? ⟨B, 0, none⟩ = some (.int .i64 k) := (blk_cell HX7.out 0).trans rfl
        have q1 : w6.cell? ⟨B, 1, none⟩ = some (.int .i64 a) := (blk_cell HX7.out 1).trans rfl
        have q2 : w6.cell? ⟨B, 2, none⟩ = some (.int .i64 b) := (blk_cell HX7.out 2).trans rfl
        have q3 : w6.cell? ⟨B, 3, none⟩ = some (.int .i64 y) := (blk_cell HX7.out 3).trans rfl
        go_wp2_with fail
        clear q0 q1 q2 q3
        refine (area_nob _ a b _ HN7.out).mono ?_
        rintro e w7 ⟨rfl, hb⟩
        have HB8 := Aside0.mk (below_step HB7.out hb)
        have HX8 := Aside0.mk (blk_below HX7.out hb)
        have HN8 := Aside0.mk (HN7.out.below hb)
        clear hb
        have q0 : w7.cell? ⟨B, 0, none⟩ = some (.int .i64 k) := (blk_cell HX8.out 0).trans rfl
        have q1 : w7.cell? ⟨B, 1, none⟩ = some (.int .i64 a) := (blk_cell HX8.out 1).trans rfl
        have q2 : w7.cell? ⟨B, 2, none⟩ = some (.int .i64 b) := (blk_cell HX8.out 2).trans rfl
        have q3 : w7.cell? ⟨B, 3, none⟩ = some (.int .i64 y) := (blk_cell HX8.out 3).trans rfl
        go_wp2_with fail
        clear q0 q1 q2 q3
        refine (list_nob _ _ HN8.out).mono ?_
        rintro e w8 ⟨rfl, hb⟩
        have HB9 := Aside0.mk (below_step HB8.out hb)
        have HX9 := Aside0.mk (blk_below HX8.out hb)
        have HN9 := Aside0.mk (HN8.out.below hb)
        clear hb
        have q0 : w8.cell? ⟨B, 0, none⟩ = some (.int .i64 k) := (blk_cell HX9.out 0).trans rfl
        have q1 : w8.cell? ⟨B, 1, none⟩ = some (.int .i64 a) := (blk_cell HX9.out 1).trans rfl
        have q2 : w8.cell? ⟨B, 2, none⟩ = some (.int .i64 b) := (blk_cell HX9.out 2).trans rfl
        have q3 : w8.cell? ⟨B, 3, none⟩ = some (.int .i64 y) := (blk_cell HX9.out 3).trans rfl
        go_wp2_with fail
        clear q0 q1 q2 q3
        refine (clone_nob _ _ HN9.out).mono ?_
        rintro e w9 ⟨rfl, hb⟩
        have HB10 := Aside0.mk (below_step HB9.out hb)
        have HX10 := Aside0.mk (blk_below HX9.out hb)
        have HN10 := Aside0.mk (HN9.out.below hb)
        clear hb
        have q0 : w9.cell? ⟨B, 0, none⟩ = some (.int .i64 k) := (blk_cell HX10.out 0).trans rfl
        have q1 : w9.cell? ⟨B, 1, none⟩ = some (.int .i64 a) := (blk_cell HX10.out 1).trans rfl
        have q2 : w9.cell? ⟨B, 2, none⟩ = some (.int .i64 b) := (blk_cell HX10.out 2).trans rfl
        have q3 : w9.cell? ⟨B, 3, none⟩ = some (.int .i64 y) := (blk_cell HX10.out 3).trans rfl
        go_wp2_with fail
        clear q0 q1 q2 q3
        refine (same_nob _ _ HN10.out).mono ?_
        rintro e w10 ⟨rfl, hb⟩
        have HB11 := Aside0.mk (below_step HB10.out hb)
        have HX11 := Aside0.mk (blk_below HX10.out hb)
        have HN11 := Aside0.mk (HN10.out.below hb)
        clear hb
        have q0 : w10.cell? ⟨B, 0, none⟩ = some (.int .i64 k) := (blk_cell HX11.out 0).trans rfl
        have q1 : w10.cell? ⟨B, 1, none⟩ = some (.int .i64 a) := (blk_cell HX11.out 1).trans rfl
        have q2 : w10.cell? ⟨B, 2, none⟩ = some (.int .i64 b) := (blk_cell HX11.out 2).trans rfl
        have q3 : w10.cell? ⟨B, 3, none⟩ = some (.int .i64 y) := (blk_cell HX11.out 3).trans rfl
        go_wp2_with fail
        clear q0 q1 q2 q3
        go_roundg (2 - (0 + 1))
        case measure => omega
        case rel => exact ⟨0 + 1, rfl, by go_num, ⟨by omega⟩, HB11, HX11⟩
    · obtain rfl : i = 2 := by have := HI.out; omega
      go_wp2_with fail
      refine (one_c _).mono ?_
      rintro e w1 ⟨rfl, hb⟩
      have HB1 := Aside0.mk (below_step HB.out hb)
      clear hb
      go_wp2_with fail
      go_ret
      exact ⟨rfl, HB1.out⟩
end Go.Proofs.Ytaeifdmabkjoiaa.PPU
