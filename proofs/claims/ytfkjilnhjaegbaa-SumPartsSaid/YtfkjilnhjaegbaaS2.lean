/- The contracts of Take, of its closure and of each, walked by hand. -/
import Derived.Test.YtfkjilnhjaegbaaS1
namespace Go.Proofs.Ytfkjilnhjaegbaa.PSum
open Go.RowKit Go.Proofs.YtfkjilnhjaegbaaW.PrintWords Go.Proofs.YtfkjilnhjaegbaaW.PrintLast Go.Proofs.YtfkjilnhjaegbaaW.PrintMore
set_option linter.unusedVariables false
set_option linter.unusedSimpArgs false

theorem gb_drewN (w : World) (n : Nat) (row : Option Nat) : w.grownBy (w.drewN n) row := ⟨rfl, rfl, rfl, Nat.le_refl _, fun _ _ _ => rfl⟩
theorem gb_set (w : World) (g i : Nat) (v : Value) : w.grownBy (w.setCell ⟨g, i, none⟩ v) (some g) :=
  ⟨rfl, rfl, rfl, by simp [World.setCell], fun j hj hne => Below.heap_setCell w _ v j (fun e => hne (by rw [e]))⟩
theorem add_blk (a : Addr) (n : Nat) : (a.add n).block = a.block := by unfold Addr.add; split <;> rfl

set_option maxHeartbeats 400000 in
theorem take1_calls (g : Nat) (a b c r1 r2 : Int) (w : World) (hb : w.heap[g]? = some (.cells #[.int .u32 a, .int .u32 b] 25 (0, 0)))
    (h1 : sum_add.f a (c % 4294967296) = some r1) (h2 : sum_add.f b r1 = some r2) :
    Calls Try.prog 16 #[.int .u8 c, .pointer (some ⟨g, 0, none⟩)] w fun e w' => e = .returned (.tuple #[]) ∧ w'.heap[g]? = some (.cells #[.int .u32 r1, .int .u32 r2] 25 (0, 0)) ∧ w.grownBy w' (some g) := by
  have HB := Aside0.mk hb
  have A1 := Aside0.mk h1
  have A2 := Aside0.mk h2
  clear h1 h2
  have hc0 : w.cell? ⟨g, 0, none⟩ = some (.int .u32 a) := (blk_cell hb 0).trans rfl
  have hc1 : w.cell? ⟨g, 1, none⟩ = some (.int .u32 b) := (blk_cell hb 1).trans rfl
  have hf0 := blk_frozen hb 0
  have hf1 := blk_frozen hb 1
  clear hb
  go_enter Try.func16, Try.ntmps16
  go_wp2_with fail
  refine (sum_add.calls _ _ r1 _ A1.out).mono ?_
  rintro e w' ⟨rfl, ⟨n1, rfl⟩⟩
  go_wp2_with fail
  refine (sum_add.calls _ _ r2 _ A2.out).mono ?_
  rintro e w' ⟨rfl, ⟨n2, rfl⟩⟩
  go_wp2_with fail
  go_end0
  refine ⟨rfl, ?_, ?_⟩
  · refine blk_put (cs := #[.int .u32 r1, .int .u32 b]) ?_ 1 _ rfl
    exact blk_put (cs := #[.int .u32 a, .int .u32 b]) HB.out 0 _ rfl
  · exact (((gb_drewN w n1 _).trans (gb_set _ g 0 _)).trans (gb_drewN _ n2 _)).trans (gb_set _ g 1 _)

/-- 'each' over the closure of Take: the block that the closure holds goes from state to state. -/
theorem each_calls (g : Nat) (A1 : Option Addr) (c1 : Nat) (l1 : List Int) (k : Nat) (a b r1 r2 : Int) (w : World) (hb : w.heap[g]? = some (.cells #[.int .u32 a, .int .u32 b] 25 (0, 0)))
    (hr1 : Kd.C (Kd.int .u8) w A1 l1.length l1) (hg : 0 < l1.length → ∀ ad, A1 = some ad → ad.block ≠ g) (h : sum_Running_Take.f k a b l1 = some (r1, r2)) :
    Calls Try.prog 15 #[.slice A1 l1.length c1, .func (.func 16) #[] #[.pointer (some ⟨g, 0, none⟩)]] w fun e w' => e = .returned (.tuple #[]) ∧ w'.heap[g]? = some (.cells #[.int .u32 r1, .int .u32 r2] 25 (0, 0)) ∧ w.grownBy w' (some g) := by
  have HB := Aside0.mk hb
  have HR1 := Aside0.mk hr1
  have HG := Aside0.mk hg
  have H' := Aside0.mk h
  clear hb hr1 hg h
  go_enter Try.func15, Try.ntmps15
  go_wp2_with fail
  go_loopg [8] k (fun kq v18 w' => ∃ (i a' b' : Int), v18 = .int .i64 i ∧ Aside0 (sum_Running_Take.l0 kq l1 (l1.length : Int) i a' b' = some (r1, r2)) ∧ Aside0 (kq ≤ k) ∧ Aside0 (w'.heap[g]? = some (.cells #[.int .u32 a', .int .u32 b'] 25 (0, 0))) ∧ Aside0 (w.grownBy w' (some g)))
  case atStart => exact ⟨0, a, b, rfl, H', ⟨Nat.le_refl _⟩, HB, ⟨.refl _ _⟩⟩
  case round =>
    clear H' HB
    obtain ⟨i, a', b', rfl, HA, HK1, HB, HGR⟩ := hrel
    cases gk with
    | zero => exact absurd HA.out (by simp [sum_Running_Take.l0])
    | succ k1 =>
      have H := HA.out
      clear HA
      simp only [sum_Running_Take.l0] at H
      by_cases c5 : i < (l1.length : Int)
      · rw [if_pos c5] at H
        by_cases c6 : 0 ≤ i
        · rw [if_pos c6, if_pos c5] at H
          obtain ⟨t104, A8, H⟩ := Option.bind_eq_some_iff.mp H
          obtain ⟨t105, A9, H⟩ := Option.bind_eq_some_iff.mp H
          have H' := Aside0.mk H
          have A8 := Aside0.mk A8
          have A9 := Aside0.mk A9
          clear H
          obtain ⟨ad, e103, hx⟩ := Kd.at_int HR1.out i c6 c5
          cases e103
          have hx1 := HGR.out.cell hx (by rw [add_blk]; simpa using HG.out (by omega) _ rfl)
          clear hx
          have p103 : 0 ≤ i := c6
          have q103 : i < (l1.length : Int) := c5
          have c5b0 : decide (i < (l1.length : Int)) = true := decide_eq_true c5
          have c6b0 : decide (0 ≤ i) = true := decide_eq_true c6
          clear c5 c6
          replace p103 := eq_true p103
          replace q103 := eq_true q103
          go_wp2_with fail
          refine (take1_calls g a' b' (rd l1 i) t104 t105 _ HB.out A8.out A9.out).mono ?_
          rintro e w' ⟨rfl, hb', hg'⟩
          have HB' := Aside0.mk hb'
          have HGR' := Aside0.mk (HGR.out.trans hg')
          clear hb' hg' HB HGR hx1
          go_wp2_with fail
          go_roundg k1
          case measure => have := HK1.out; omega
          case rel => exact ⟨wrap64 (i + 1), t104, t105, rfl, H', ⟨by have := HK1.out; omega⟩, HB', HGR'⟩
        · rw [if_neg c6] at H
          exact absurd H (by simp)
      · rw [if_neg c5] at H
        have c5b0 : decide (i < (l1.length : Int)) = false := decide_eq_false c5
        clear c5
        simp only [Option.some.injEq, Prod.mk.injEq] at H
        obtain ⟨rfl, rfl⟩ := H
        go_wp2_with fail
        go_end0
        exact ⟨rfl, HB.out, HGR.out⟩

theorem below_of_gb {w w' w0 : World} {g : Nat} (hB : Below w0.heap.size w0 w) (hg : w.grownBy w' (some g)) (hlt : w0.heap.size ≤ g) : Below w0.heap.size w0 w' :=
  hB.grown hg hB.size (fun k hk => by cases hk; exact hlt)

set_option maxHeartbeats 400000 in
theorem sum_Running_Take.calls (k : Nat) (a0_0 : Int) (a0_1 : Int) (A1 : Option Addr) (c1 : Nat) (l1 : List Int) (r1 : Int) (r2 : Int) (w : World) (hr1 : Kd.C (Kd.int .u8) w A1 l1.length l1) (hc1 : l1.length ≤ c1) (h : sum_Running_Take.f k a0_0 a0_1 l1 = some (r1, r2)) :
    Calls Try.prog 8 #[.agg #[.int .u32 a0_0, .int .u32 a0_1], .slice A1 l1.length c1] w fun e w' => e = .returned (.agg #[.int .u32 r1, .int .u32 r2]) ∧ Below w.heap.size w w' := by
  have hu25 := Try.underlying25
  have HR1 := Aside0.mk hr1
  have H' := Aside0.mk h
  clear hr1 h
  go_enter Try.func8, Try.ntmps8
  go_wp2_with fail
  refine (each_calls w.heap.size A1 c1 l1 k a0_0 a0_1 r1 r2 _ (blk_alloc (blk_new _ _) _) (Kd.C_alloc (Kd.C_alloc HR1.out _) _) (fun h0 ad e => ?_) H'.out).mono ?_
  · obtain ⟨ad', e', hx⟩ := Kd.at_int HR1.out 0 (by omega) (by omega)
    rw [e] at e'; cases e'
    have := World.block_lt_of_cell? w _ hx
    rw [add_blk] at this
    omega
  rintro e w' ⟨rfl, hb', hg'⟩
  have hB2 : w'.heap[w.heap.size + 1]? = some (.cells #[.int .u32 0, .int .u32 0] 25 (0, 0)) := blk_grown (by simpa using blk_new (w.alloc _) _) hg' (by simp)
  have hc0 : w'.cell? ⟨w.heap.size, 0, none⟩ = some (.int .u32 r1) := (blk_cell hb' 0).trans rfl
  have hc1 : w'.cell? ⟨w.heap.size, 1, none⟩ = some (.int .u32 r2) := (blk_cell hb' 1).trans rfl
  have hd0 : w'.cell? ⟨w.heap.size + 1, 0, none⟩ = some (.int .u32 0) := (blk_cell hB2 0).trans rfl
  have hd1 : w'.cell? ⟨w.heap.size + 1, 1, none⟩ = some (.int .u32 0) := (blk_cell hB2 1).trans rfl
  have hf0 := blk_frozen hB2 0
  have hf1 := blk_frozen hB2 1
  have HB2 := Aside0.mk hB2
  have HB := Aside0.mk (below_of_gb (below_alloc (below_alloc (Below.refl w.heap.size w) _) _) hg' (Nat.le_refl _))
  clear hb' hB2 hg'
  go_wp2_with fail
  refine bodyPost_ret (results_cell_row rfl _ _ (w.heap.size + 1) 25 #[.int .u32 r1, .int .u32 r2] (0, 0) _ rfl ?_ Try.underlying25 rfl (by kernel_rfl)) rfl ⟨rfl, ?_⟩
  · refine blk_put (cs := #[.int .u32 r1, .int .u32 0]) ?_ 1 _ rfl
    exact blk_put (cs := #[.int .u32 0, .int .u32 0]) HB2.out 0 _ rfl
  · exact below_set (below_set HB.out (by omega)) (by omega)
end Go.Proofs.Ytfkjilnhjaegbaa.PSum
