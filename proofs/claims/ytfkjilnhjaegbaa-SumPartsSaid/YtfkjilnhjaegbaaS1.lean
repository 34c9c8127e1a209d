/- The reference's Take, add and Take of the program as plain functions, and the contracts of the first two (printed by a program of this session, over a shim of Take). -/
import Derived.Test.YtfkjilnhjaegbaaS0
namespace Go.Proofs.Ytfkjilnhjaegbaa.PSum
open Go.RowKit Go.Proofs.YtfkjilnhjaegbaaW.PrintWords Go.Proofs.YtfkjilnhjaegbaaW.PrintLast Go.Proofs.YtfkjilnhjaegbaaW.PrintMore
attribute [local go_sem] max2_int min2_int max_two min_two max_three min_three max_four min_four   -- for this text's walks alone
set_option linter.unusedVariables false
set_option linter.unusedSimpArgs false

/-! ### berthingref03_Take: function 7 -/
def berthingref03_Take.l0 : Nat → ByteArray → Int → Int → Int → Option (Int × Int)
  | 0, _, _, _, _ => none
  | k + 1, x2, x8, x9, x10 => if x10 < (x2.size : Int) then (if 0 ≤ x10 then (berthingref03_Take.l0 k x2 (Int.tmod (IntKind.u64.wrap (x8 + (IntKind.u64.wrap (bt x2 x10)))) 65521) (Int.tmod (IntKind.u64.wrap (x9 + (Int.tmod (IntKind.u64.wrap (x8 + (IntKind.u64.wrap (bt x2 x10)))) 65521))) 65521) (wrap64 (x10 + 1))) else (none)) else (some ((x8) % 4294967296, (x9) % 4294967296))
def berthingref03_Take.f (k : Nat) (a0 : Int) (a1 : Int) (a2 : ByteArray) : Option (Int × Int) := berthingref03_Take.l0 k a2 (IntKind.u64.wrap (a0)) (IntKind.u64.wrap (a1)) 0
theorem berthingref03_Take.mono_l : ∀ k, (∀ y0 y1 y2 y3, LeO (berthingref03_Take.l0 k y0 y1 y2 y3) (berthingref03_Take.l0 (k + 1) y0 y1 y2 y3))
  | 0 => fun _ _ _ _ r h => by simp [berthingref03_Take.l0] at h
  | k + 1 => by
    have ih0 := berthingref03_Take.mono_l k
    · intro y0 y1 y2 y3
      unfold berthingref03_Take.l0
      repeat' first
      | (with_reducible exact ih0 _ _ _ _)
      | (with_reducible exact LeO.refl _)
      | (with_reducible exact LeO.none _)
      | (with_reducible refine LeO.ite ?_ ?_)
      | (with_reducible refine LeO.bind ?_ (fun _ => ?_))
      | exact ih0 _ _ _ _
      | exact LeO.none _
      | refine LeO.ite ?_ ?_
      | refine LeO.bind ?_ (fun _ => ?_)
theorem berthingref03_Take.mono : ∀ a0 a1 a2 k, LeO (berthingref03_Take.f k a0 a1 a2) (berthingref03_Take.f (k + 1) a0 a1 a2) := by
  intro a0 a1 a2 k
  have ih0 := berthingref03_Take.mono_l k
  unfold berthingref03_Take.f
  repeat' first
      | (with_reducible exact ih0 _ _ _ _)
      | (with_reducible exact LeO.refl _)
      | (with_reducible exact LeO.none _)
      | (with_reducible refine LeO.ite ?_ ?_)
      | (with_reducible refine LeO.bind ?_ (fun _ => ?_))
      | exact ih0 _ _ _ _
      | exact LeO.none _
      | refine LeO.ite ?_ ?_
      | refine LeO.bind ?_ (fun _ => ?_)
set_option maxHeartbeats 8000000 in
set_option maxRecDepth 100000 in
theorem berthingref03_Take.calls (k : Nat) (a0 : Int) (a1 : Int) (a2 : ByteArray) (r1 : Int) (r2 : Int) (w : World) (h : berthingref03_Take.f k a0 a1 a2 = some (r1, r2)) :
    Calls Try.prog 7 #[.int .u32 a0, .int .u32 a1, .string a2] w fun e w' => e = .returned (.tuple #[.int .u32 r1, .int .u32 r2]) ∧ Drawn0 w w' := by
  have H : (berthingref03_Take.l0 k a2 (IntKind.u64.wrap (a0)) (IntKind.u64.wrap (a1)) 0) = some (r1, r2) := h
  clear h
  have H' := Aside0.mk H
  clear H
  go_enter Try.func7, Try.ntmps7
  go_wp2
  go_loopg [8, 9, 10] k (fun kq v8 v9 v10 w' => ∃ (x8_1 : Int) (x9_1 : Int) (x10_1 : Int), v8 = .int .u64 x8_1 ∧ v9 = .int .u64 x9_1 ∧ v10 = .int .i64 x10_1 ∧ Aside0 (berthingref03_Take.l0 kq a2 x8_1 x9_1 x10_1 = some (r1, r2)) ∧ Aside0 (kq ≤ k) ∧ Drawn0 w w')
  case atStart => exact ⟨(IntKind.u64.wrap (a0)), (IntKind.u64.wrap (a1)), (0), (by first | rfl | (simp; done) | (simp [*]; done)), (by first | rfl | (simp; done) | (simp [*]; done)), (by first | rfl | (simp; done) | (simp [*]; done)), H', ⟨Nat.le_refl _⟩, by repeat (first | exact Drawn0.refl _ | apply Drawn0.step)⟩
  case round =>
    clear H'
    try clear p2
    obtain ⟨x8_1, x9_1, x10_1, rfl, rfl, rfl, HA, HK1, ⟨m1, rfl⟩⟩ := hrel
    cases gk with
    | zero => exact absurd HA.out (by simp [berthingref03_Take.l0])
    | succ k1 =>
      have H := HA.out
      clear HA
      simp only [berthingref03_Take.l0] at H
      by_cases c4 : x10_1 < (a2.size : Int)
      · rw [if_pos c4] at H
        have c4b0 : decide (x10_1 < (a2.size : Int)) = true := decide_eq_true c4
        clear c4
        by_cases c5 : 0 ≤ x10_1
        · rw [if_pos c5] at H
          have c5b0 : decide (0 ≤ x10_1) = true := decide_eq_true c5
          clear c5
          have H' := Aside0.mk H
          clear H
          have p6 : 0 ≤ (x10_1 : Int) := of_decide_eq_true (by first | (with_reducible assumption) | assumption)
          have q6 : x10_1 < (a2.size : Int) := of_decide_eq_true (by first | (with_reducible assumption) | assumption)
          have hx6 := bt_at a2 x10_1
          replace p6 := eq_true p6
          replace q6 := eq_true q6
          go_wp2
          go_roundg k1
          case measure => have := HK1.out; omega
          case rel => exact ⟨(Int.tmod (IntKind.u64.wrap (x8_1 + (IntKind.u64.wrap (bt a2 x10_1)))) 65521), (Int.tmod (IntKind.u64.wrap (x9_1 + (Int.tmod (IntKind.u64.wrap (x8_1 + (IntKind.u64.wrap (bt a2 x10_1)))) 65521))) 65521), (wrap64 (x10_1 + 1)), (by first | rfl | (simp; done) | (simp [*]; done)), (by first | rfl | (simp; done) | (simp [*]; done)), (by first | rfl | (simp; done) | (simp [*]; done)), H', ⟨by have := HK1.out; omega⟩, by repeat (first | exact Drawn0.refl _ | apply Drawn0.step)⟩
        · rw [if_neg c5] at H
          exact absurd H (by simp)
      · rw [if_neg c4] at H
        have c4b0 : decide (x10_1 < (a2.size : Int)) = false := decide_eq_false c4
        clear c4
        simp only [Option.some.injEq, Prod.mk.injEq] at H
        obtain ⟨rfl, rfl⟩ := H
        go_wp2
        go_ret2
        exact ⟨by first | rfl | (simp; done) | (simp [*]; done), by repeat (first | exact Drawn0.refl _ | apply Drawn0.step)⟩

-- NOT PRINTED: function 15 (sum_each)

/-! ### sum_add: function 17 -/
def sum_add.f (a0 : Int) (a1 : Int) : Option (Int) := some ((Int.tmod (IntKind.u64.wrap ((IntKind.u64.wrap (a0)) + (IntKind.u64.wrap (a1)))) 65521) % 4294967296)
set_option maxHeartbeats 8000000 in
set_option maxRecDepth 100000 in
theorem sum_add.calls (a0 : Int) (a1 : Int) (r : Int) (w : World) (h : sum_add.f a0 a1 = some r) :
    Calls Try.prog 17 #[.int .u32 a0, .int .u32 a1] w fun e w' => e = .returned (.int .u32 r) ∧ Drawn0 w w' := by
  have H : (some ((Int.tmod (IntKind.u64.wrap ((IntKind.u64.wrap (a0)) + (IntKind.u64.wrap (a1)))) 65521) % 4294967296)) = some r := h
  clear h
  obtain rfl := Option.some.inj H
  go_enter Try.func17, Try.ntmps17
  go_wp2
  go_ret
  exact ⟨by first | rfl | (simp; done) | (simp [*]; done), by repeat (first | exact Drawn0.refl _ | apply Drawn0.step)⟩

/-! ### sum_Running_Take: function 8 -/
def sum_Running_Take.l0 : Nat → List Int → Int → Int → Int → Int → Option (Int × Int)
  | 0, _, _, _, _, _ => none
  | k + 1, x16, x17, x18, x102000, x102001 => if x18 < x17 then (if 0 ≤ x18 then (if x18 < (x16.length : Int) then ((sum_add.f x102000 ((rd x16 x18) % 4294967296)).bind fun t104 => ((sum_add.f x102001 t104).bind fun t105 => (sum_Running_Take.l0 k x16 x17 (wrap64 (x18 + 1)) t104 t105))) else (none)) else (none)) else (some (x102000, x102001))
def sum_Running_Take.f (k : Nat) (a0_0 : Int) (a0_1 : Int) (l1 : List Int) : Option (Int × Int) := sum_Running_Take.l0 k l1 (l1.length : Int) 0 a0_0 a0_1
theorem sum_Running_Take.mono_l : ∀ k, (∀ y0 y1 y2 y3 y4, LeO (sum_Running_Take.l0 k y0 y1 y2 y3 y4) (sum_Running_Take.l0 (k + 1) y0 y1 y2 y3 y4))
  | 0 => fun _ _ _ _ _ r h => by simp [sum_Running_Take.l0] at h
  | k + 1 => by
    have ih0 := sum_Running_Take.mono_l k
    · intro y0 y1 y2 y3 y4
      unfold sum_Running_Take.l0
      repeat' first
      | (with_reducible exact ih0 _ _ _ _ _)
      | (with_reducible exact LeO.refl _)
      | (with_reducible exact LeO.none _)
      | (with_reducible refine LeO.ite ?_ ?_)
      | (with_reducible refine LeO.bind ?_ (fun _ => ?_))
      | exact ih0 _ _ _ _ _
      | exact LeO.none _
      | refine LeO.ite ?_ ?_
      | refine LeO.bind ?_ (fun _ => ?_)
theorem sum_Running_Take.mono : ∀ a0 a1 a2 k, LeO (sum_Running_Take.f k a0 a1 a2) (sum_Running_Take.f (k + 1) a0 a1 a2) := by
  intro a0 a1 a2 k
  have ih0 := sum_Running_Take.mono_l k
  unfold sum_Running_Take.f
  repeat' first
      | (with_reducible exact ih0 _ _ _ _ _)
      | (with_reducible exact LeO.refl _)
      | (with_reducible exact LeO.none _)
      | (with_reducible refine LeO.ite ?_ ?_)
      | (with_reducible refine LeO.bind ?_ (fun _ => ?_))
      | exact ih0 _ _ _ _ _
      | exact LeO.none _
      | refine LeO.ite ?_ ?_
      | refine LeO.bind ?_ (fun _ => ?_)

end Go.Proofs.Ytfkjilnhjaegbaa.PSum
