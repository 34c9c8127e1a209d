/- The contracts of all and of Right, walked by hand. -/
import Derived.Test.YtcbhnjkmjiokgaaE1
namespace Go.Proofs.Ytcbhnjkmjiokgaa.PPPrio
open Go.RowKit Go.Proofs.YtcbhnjkmjiokgaaW.PrintWords Go.Proofs.YtcbhnjkmjiokgaaW.PrintLast Go.Proofs.YtcbhnjkmjiokgaaW.PrintMore
set_option linter.unusedVariables false
set_option linter.unusedSimpArgs false

set_option maxHeartbeats 1000000 in
set_option maxRecDepth 100000 in
theorem all_calls (a b c d : Int) (w : World) :
    Calls Try.prog 16 #[.agg #[.int .i64 a, .int .i64 b, .int .i64 c, .int .i64 d]] w fun e w' => e = .returned (.agg #[.int .i64 a, .int .i64 b, .int .i64 c, .int .i64 d]) ∧ Below w.heap.size w w' := by
  have hu23 := Try.underlying23
  have hu33 := Try.underlying33
  go_enter Try.func16, Try.ntmps16
  go_wp2_with fail
  refine bodyPost_ret (results_cell_row rfl _ _ (w.heap.size + 1) 33 #[.int .i64 a, .int .i64 b, .int .i64 c, .int .i64 d] (0, 0) _ rfl ?_ hu33 rfl (by kernel_rfl)) rfl ⟨rfl, below_alloc (below_alloc (Below.refl _ _) _) _⟩
  simpa using blk_new (w.alloc (.cells #[.int .i64 a, .int .i64 b, .int .i64 c, .int .i64 d] 23)) (.cells #[.int .i64 a, .int .i64 b, .int .i64 c, .int .i64 d] 33)

theorem within_of (v : Int) : prio_within.f v 0 1000 = some (if v < 0 then 0 else if 1000 < v then 1000 else v) := by
  unfold prio_within.f mx mn
  congr 1
  split <;> split <;> (try split) <;> omega
/-- A weight is right. -/
def okW (v : Int) : Bool := decide (0 ≤ v ∧ v ≤ 1000)
theorem okW_eq (v : Int) : (v != (if v < 0 then 0 else if 1000 < v then 1000 else v)) = !okW v := by
  unfold okW
  rw [Bool.eq_iff_iff]
  simp only [bne_iff_ne, Bool.not_eq_true', decide_eq_false_iff_not]
  split <;> (try split) <;> omega
theorem within_at (v : Int) : ∃ r, prio_within.f v 0 1000 = some r ∧ (v != r) = !okW v := ⟨_, within_of v, okW_eq v⟩
/-- The weights ahead of place i are right. -/
def pre (a b c d : Int) : Nat → Bool
  | 0 => true
  | 1 => okW a
  | 2 => okW a && okW b
  | 3 => okW a && okW b && okW c
  | _ => okW a && okW b && okW c && okW d
theorem Right_is (a b c d : Int) : prio_Weights_Right.f a b c d = some (okW a && okW b && okW c && okW d) := by
  unfold prio_Weights_Right.f okW
  repeat' split
  all_goals (simp only [Option.some.injEq]; rw [Bool.eq_iff_iff]; simp <;> omega)

set_option maxHeartbeats 1000000 in
set_option maxRecDepth 100000 in
theorem right_calls (a b c d : Int) (w : World) :
    Calls Try.prog 7 #[.agg #[.int .i64 a, .int .i64 b, .int .i64 c, .int .i64 d]] w fun e w' => e = .returned (.bool (okW a && okW b && okW c && okW d)) ∧ Below w.heap.size w w' := by
  have hu23 := Try.underlying23
  have hu33 := Try.underlying33
  have i0 : ∀ w : World, (Instr.index 33 (.agg #[.int .i64 a, .int .i64 b, .int .i64 c, .int .i64 d]) (.int .i64 0)).run Try.prog w = .ok (.int .i64 a) w := fun _ => by kernel_rfl
  have i1 : ∀ w : World, (Instr.index 33 (.agg #[.int .i64 a, .int .i64 b, .int .i64 c, .int .i64 d]) (.int .i64 1)).run Try.prog w = .ok (.int .i64 b) w := fun _ => by kernel_rfl
  have i2 : ∀ w : World, (Instr.index 33 (.agg #[.int .i64 a, .int .i64 b, .int .i64 c, .int .i64 d]) (.int .i64 2)).run Try.prog w = .ok (.int .i64 c) w := fun _ => by kernel_rfl
  have i3 : ∀ w : World, (Instr.index 33 (.agg #[.int .i64 a, .int .i64 b, .int .i64 c, .int .i64 d]) (.int .i64 3)).run Try.prog w = .ok (.int .i64 d) w := fun _ => by kernel_rfl
  go_enter Try.func7, Try.ntmps7
  go_wp2_with fail
  refine (all_calls a b c d _).mono ?_
  rintro e w1 ⟨rfl, hb⟩
  have HB := Aside0.mk (below_step (below_alloc (Below.refl w.heap.size w) _) hb)
  clear hb
  go_wp2_with fail
  go_loopg [7] 4 (fun kq v7 w' => ∃ i : Nat, i + kq = 4 ∧ v7 = .int .i64 i ∧ Aside0 (pre a b c d i = true) ∧ Aside0 (Below w.heap.size w w'))
  case atStart => exact ⟨0, rfl, rfl, ⟨rfl⟩, HB⟩
  case round =>
    clear HB
    obtain ⟨i, hi, rfl, HP, HB⟩ := hrel
    match i, hi, HP with
    | 0, hi, HP =>
      obtain rfl : gk = 4 := by omega
      obtain ⟨r, hr, hne⟩ := within_at a
      have HR := Aside0.mk hr
      clear hr
      cases hk : okW a with
      | false =>
        have hn : (a != r) = true := by rw [hne, hk]; rfl
        have HK := Aside0.mk hk
        clear hne hk
        go_wp2_with fail
        refine (prio_within.calls a 0 1000 r _ HR.out).mono ?_
        rintro e w2 ⟨rfl, hb⟩
        go_wp2_with fail
        go_ret
        exact ⟨by rw [HK.out]; simp, below_step HB.out hb⟩
      | true =>
        have hn : (a != r) = false := by rw [hne, hk]; rfl
        have HK := Aside0.mk hk
        clear hne hk
        go_wp2_with fail
        refine (prio_within.calls a 0 1000 r _ HR.out).mono ?_
        rintro e w2 ⟨rfl, hb⟩
        go_wp2_with fail
        go_roundg 3
        case measure => omega
        case rel => exact ⟨1, rfl, rfl, ⟨by have := HP.out; have := HK.out; simp_all [pre]⟩, ⟨below_step HB.out hb⟩⟩
    | 1, hi, HP =>
      obtain rfl : gk = 3 := by omega
      obtain ⟨r, hr, hne⟩ := within_at b
      have HR := Aside0.mk hr
      clear hr
      cases hk : okW b with
      | false =>
        have hn : (b != r) = true := by rw [hne, hk]; rfl
        have HK := Aside0.mk hk
        clear hne hk
        go_wp2_with fail
        refine (prio_within.calls b 0 1000 r _ HR.out).mono ?_
        rintro e w2 ⟨rfl, hb⟩
        go_wp2_with fail
        go_ret
        exact ⟨by rw [HK.out]; simp, below_step HB.out hb⟩
      | true =>
        have hn : (b != r) = false := by rw [hne, hk]; rfl
        have HK := Aside0.mk hk
        clear hne hk
        go_wp2_with fail
        refine (prio_within.calls b 0 1000 r _ HR.out).mono ?_
        rintro e w2 ⟨rfl, hb⟩
        go_wp2_with fail
        go_roundg 2
        case measure => omega
        case rel => exact ⟨2, rfl, rfl, ⟨by have := HP.out; have := HK.out; simp_all [pre]⟩, ⟨below_step HB.out hb⟩⟩
    | 2, hi, HP =>
      obtain rfl : gk = 2 := by omega
      obtain ⟨r, hr, hne⟩ := within_at c
      have HR := Aside0.mk hr
      clear hr
      cases hk : okW c with
      | false =>
        have hn : (c != r) = true := by rw [hne, hk]; rfl
        have HK := Aside0.mk hk
        clear hne hk
        go_wp2_with fail
        refine (prio_within.calls c 0 1000 r _ HR.out).mono ?_
        rintro e w2 ⟨rfl, hb⟩
        go_wp2_with fail
        go_ret
        exact ⟨by rw [HK.out]; simp, below_step HB.out hb⟩
      | true =>
        have hn : (c != r) = false := by rw [hne, hk]; rfl
        have HK := Aside0.mk hk
        clear hne hk
        go_wp2_with fail
        refine (prio_within.calls c 0 1000 r _ HR.out).mono ?_
        rintro e w2 ⟨rfl, hb⟩
        go_wp2_with fail
        go_roundg 1
        case measure => omega
        case rel => exact ⟨3, rfl, rfl, ⟨by have := HP.out; have := HK.out; simp_all [pre]⟩, ⟨below_step HB.out hb⟩⟩
    | 3, hi, HP =>
      obtain rfl : gk = 1 := by omega
      obtain ⟨r, hr, hne⟩ := within_at d
      have HR := Aside0.mk hr
      clear hr
      cases hk : okW d with
      | false =>
        have hn : (d != r) = true := by rw [hne, hk]; rfl
        have HK := Aside0.mk hk
        clear hne hk
        go_wp2_with fail
        refine (prio_within.calls d 0 1000 r _ HR.out).mono ?_
        rintro e w2 ⟨rfl, hb⟩
        go_wp2_with fail
        go_ret
        exact ⟨by rw [HK.out]; simp, below_step HB.out hb⟩
      | true =>
        have hn : (d != r) = false := by rw [hne, hk]; rfl
        have HK := Aside0.mk hk
        clear hne hk
        go_wp2_with fail
        refine (prio_within.calls d 0 1000 r _ HR.out).mono ?_
        rintro e w2 ⟨rfl, hb⟩
        go_wp2_with fail
        go_roundg 0
        case measure => omega
        case rel => exact ⟨4, rfl, rfl, ⟨by have := HP.out; have := HK.out; simp_all [pre]⟩, ⟨below_step HB.out hb⟩⟩
    | 4, hi, HP =>
      have h4 : decide (((4 : Nat) : Int) < 4) = false := rfl
      go_wp2_with fail
      go_ret
      exact ⟨by have := HP.out; simp_all [pre], HB.out⟩
    | n + 5, hi, HP => omega
theorem prio_Weights_Right.calls (a0_0 : Int) (a0_1 : Int) (a0_2 : Int) (a0_3 : Int) (r : Bool) (w : World) (h : prio_Weights_Right.f a0_0 a0_1 a0_2 a0_3 = some r) :
    Calls Try.prog 7 #[.agg #[.int .i64 a0_0, .int .i64 a0_1, .int .i64 a0_2, .int .i64 a0_3]] w fun e w' => e = .returned (.bool r) ∧ Below w.heap.size w w' := by
  rw [Right_is] at h
  obtain rfl := Option.some.inj h
  exact right_calls _ _ _ _ _
end Go.Proofs.Ytcbhnjkmjiokgaa.PPPrio
