/- Insert of one step; the level at a time. -/
import Derived.Test.YtaeifdmabkjoiaaA1
import Derived.Shelf.Spec.SlicesInsertGrow
import Derived.Laws.NewBlocks
/- Insert of one step: there is room, and it is not the end. -/
namespace Go.Proofs.Ytaeifdmabkjoiaa.PPU
open Go.RowKit Go.Proofs.YtaeifdmabkjoiaaW.PrintWords Go.Proofs.YtaeifdmabkjoiaaW.PrintLast Go.Proofs.YtaeifdmabkjoiaaW.PrintMore
set_option linter.unusedVariables false
set_option linter.unusedSimpArgs false

/-- x comes in at place i. -/
def insF (f : Nat → S67) (i : Nat) (x : S67) (k : Nat) : S67 := if k < i then f k else if k = i then x else f (k - 1)
theorem insF_cell (f : Nat → S67) (i : Nat) (x : S67) (j : Nat) : cellOf (insF f i x) j = if j < i * 2 then cellOf f j else if j = i * 2 then .int .i64 x.f0 else if j = i * 2 + 1 then .int .i64 x.f1 else cellOf f (j - 2) := by
  rcases Nat.mod_two_eq_zero_or_one j with e | e
  · obtain ⟨k, rfl⟩ : ∃ k, j = k * 2 := ⟨j / 2, by omega⟩
    rw [cellOf_even, cellOf_even]
    unfold insF
    by_cases h1 : k < i
    · rw [if_pos h1, if_pos (by omega)]
    · by_cases h2 : k = i
      · rw [if_neg h1, if_pos h2, if_neg (by omega), if_pos (by omega)]
      · rw [if_neg h1, if_neg h2, if_neg (by omega), if_neg (by omega), if_neg (by omega), show k * 2 - 2 = (k - 1) * 2 by omega, cellOf_even]
  · obtain ⟨k, rfl⟩ : ∃ k, j = k * 2 + 1 := ⟨j / 2, by omega⟩
    rw [cellOf_odd, cellOf_odd]
    unfold insF
    by_cases h1 : k < i
    · rw [if_pos h1, if_pos (by omega)]
    · by_cases h2 : k = i
      · rw [if_neg h1, if_pos h2, if_neg (by omega), if_neg (by omega), if_pos (by omega)]
      · rw [if_neg h1, if_neg h2, if_neg (by omega), if_neg (by omega), if_neg (by omega), show k * 2 + 1 - 2 = (k - 1) * 2 + 1 by omega, cellOf_odd]
theorem RowF.of_cells {w : World} {g n cap : Nat} {f : Nat → S67} {cur : Array Value} (h1 : n ≤ cap) (h2 : w.heap[g]? = some (.cells cur 67 (0, 0))) (h3 : cur.size = cap * 2) (h4 : ∀ j, j < n * 2 → cur[j]? = some (cellOf f j)) : RowF w g n cap f :=
  ⟨h1, cur, h2, h3, fun k hk => ⟨by rw [h4 _ (by omega), cellOf_even], by rw [h4 _ (by omega), cellOf_odd]⟩⟩
theorem rowL_at (f : Nat → S67) (a m j : Nat) (h : j < m * 2) : (rowL f a m)[j]? = some (cellOf f (a * 2 + j)) := by
  unfold rowL
  simp [h]
theorem RowF.blk {w : World} {g n cap : Nat} {f : Nat → S67} (h : RowF w g n cap f) : ∃ cur : Array Value, w.heap[g]? = some (.cells cur 67 (0, 0)) ∧ cur.size = cap * 2 ∧ ∀ j, j < n * 2 → cur[j]? = some (cellOf f j) := by
  obtain ⟨h1, cur, h2, h3, h4⟩ := h
  refine ⟨cur, h2, h3, fun j hj => ?_⟩
  rw [← blk_cell h2 j]
  exact RowF.cellAt ⟨h1, cur, h2, h3, h4⟩ j hj
theorem pair_at (a b : Value) (j : Nat) (h : j < 2) : [a, b][j]? = some (if j = 0 then a else b) := by
  rcases j with _ | _ | j
  · rfl
  · rfl
  · omega

set_option maxHeartbeats 4000000 in
set_option maxRecDepth 100000 in
theorem insert_shift (g n cap i v : Nat) (f : Nat → S67) (x : S67) (w : World) (hR : RowF w g n cap f) (hi : i < n) (hroom : n + 1 ≤ cap) (hc63 : cap ≤ 9223372036854775807) (hv : w.heap[v]? = some (.cells #[.int .i64 x.f0, .int .i64 x.f1] 67 (0, 0))) (hne : v ≠ g) :
    Calls Try.prog 65 #[.slice (some ⟨g, 0, none⟩) n cap, .int .i64 i, .slice (some ⟨v, 0, none⟩) 1 1] w fun e w' => e = .returned (.slice (some ⟨g, 0, none⟩) (n + 1) cap) ∧ RowF w' g (n + 1) cap (insF f i x) ∧ w.grownBy w' (some g) := by
  have HR := Aside0.mk hR
  have HV := Aside0.mk hv
  obtain ⟨i0, hi0, hz0, hzs, hzb⟩ := info_parts info67
  have hsz : (Try.prog.info? 67).map (·.size) = some 2 := by rw [hi0]; simp [hzs]
  obtain ⟨cur, hcur, hcs, hcl⟩ := hR.blk
  have hov : ∀ lb cb, (callFunc 68 #[.slice (some ⟨v, 0, none⟩) 1 1, .slice (some ⟨g, (i + 1) * 2, none⟩) lb cb]).run Try.prog w = .ok (.value (.bool false)) w := fun lb cb => overlaps_no w v g _ 1 1 lb cb hne _ cur hv hcur (by omega)
  have hz2 : ¬ ((i : Int) = (n : Int)) := by omega
  have hw1 : IntKind.i64.wrap ((i : Int) + 1) = (i : Int) + 1 := by rw [IntKind.wrap_i64]; omega
  have hw2 : IntKind.i64.wrap ((n : Int) + 1) = (n : Int) + 1 := by rw [IntKind.wrap_i64]; omega
  have hb1 : (0 : Int) ≤ (i : Int) + 1 := by omega
  have htn : ((i : Int) + 1).toNat = i + 1 := by omega
  have htn2 : ((n : Int) + 1).toNat = n + 1 := by omega
  have hb2 : ¬ (cap = i + 1) := by omega
  have hb4 : ¬ (cap = i) := by omega
  have hb5 : (i : Int) + 1 ≤ (n : Int) + 1 := by omega
  have hb6 : i + 1 ≤ n + 1 := by omega
  have hb7 : (i : Int) ≤ (n : Int) + 1 := by omega
  have hcp1 : ∀ ty dc sc, (Builtin.copy_ #[56, 56] ty #[.slice (some ⟨g, (i + 1) * 2, none⟩) (n - i) dc, .slice (some ⟨g, i * 2, none⟩) (n + 1 - i) sc]).run Try.prog w.drew = .ok (goInt ((n - i : Nat) : Int)) (w.drew.setCells g ((i + 1) * 2) (rowL f i (n - i))) := fun ty dc sc =>
    run_copy_two w.drew 56 56 ty 67 g ((i + 1) * 2) (n - i) dc ⟨g, i * 2, none⟩ (n + 1 - i) sc (n - i) (rowL f i (n - i)) Try.underlying56 hsz (by simp only [Nat.min_def]; split <;> omega) (rowL_len _ _ _)
      (fun j u hj => by
        obtain ⟨h1, rfl⟩ := rowL_get _ _ _ _ _ hj
        rw [Addr.add_lit]
        exact HR.out.cellAt _ (by omega))
      (fun j hj => by rw [rowL_len] at hj; exact HR.out.isAt _ (by omega)) (fun j hj => HR.out.fz _) (rowL_one _ _ _)
  obtain ⟨W1, hW1⟩ : ∃ W1, W1 = w.drew.setCells g ((i + 1) * 2) (rowL f i (n - i)) := ⟨_, rfl⟩
  rw [← hW1] at hcp1
  obtain ⟨cur1, e1, s1, g1, o1⟩ := blk_setCells g 67 (rowL f i (n - i)) ((i + 1) * 2) w.drew cur hcur (by rw [rowL_len]; omega)
  rw [← hW1] at e1
  have hv1 : W1.heap[v]? = some (.cells #[.int .i64 x.f0, .int .i64 x.f1] 67 (0, 0)) := by
    rw [hW1, (gb_setCells g _ _ w.drew).block v (blk_lt hv) (fun e => hne (Option.some.inj e))]
    exact hv
  have hcp2 : ∀ ty dc, (Builtin.copy_ #[56, 56] ty #[.slice (some ⟨g, i * 2, none⟩) (n + 1 - i) dc, .slice (some ⟨v, 0, none⟩) 1 1]).run Try.prog W1 = .ok (goInt ((1 : Nat) : Int)) (W1.setCells g (i * 2) [.int .i64 x.f0, .int .i64 x.f1]) := fun ty dc =>
    run_copy_two W1 56 56 ty 67 g (i * 2) (n + 1 - i) dc ⟨v, 0, none⟩ 1 1 1 [.int .i64 x.f0, .int .i64 x.f1] Try.underlying56 hsz (by simp only [Nat.min_def]; split <;> omega) rfl
      (fun j u hj => by
        rw [Addr.add_lit, Nat.zero_add, blk_cell hv1 j]
        simpa using hj)
      (fun j hj => by
        have hj2 : j < 2 := hj
        rw [blk_cell e1, Array.getElem?_eq_getElem (by omega)]; rfl) (fun j hj => blk_frozen e1 _) (by intro u hu; simp at hu; rcases hu with rfl | rfl <;> rfl)
  have HW1 := Aside0.mk hW1
  have E1 := Aside0.mk (And.intro e1 (And.intro s1 (And.intro g1 o1)))
  have C0 := Aside0.mk (And.intro hcur (And.intro hcs hcl))
  clear hW1 e1 s1 g1 o1 hcur hcs hcl
  go_enter Try.func65, Try.ntmps65
  go_wp2_with (simp only [hov])
  go_region_law (refine Go.Proofs.step_copy_runI rfl _ _ 56 56 rfl _ _ (by simp [Act.eval, Act.put]) (by simp [Act.eval, Act.put]) (hcp1 _ _ _) ?_)
  go_wp2_with (at_builtin; refine Go.Proofs.wpList_copy_runI _ rfl _ _ 56 56 rfl _ _ rfl rfl (hcp2 _ _) ?_)
  go_ret
  obtain ⟨e1, s1, g1, o1⟩ := E1.out
  obtain ⟨hcur, hcs, hcl⟩ := C0.out
  obtain ⟨cur2, e2, s2, g2, o2⟩ := blk_setCells g 67 [.int .i64 x.f0, .int .i64 x.f1] (i * 2) W1 cur1 e1 (by rw [s1, hcs]; simp; omega)
  refine ⟨rfl, RowF.of_cells hroom e2 (by rw [s2, s1, hcs]) (fun j hj => ?_), ?_⟩
  · rw [insF_cell]
    rw [rowL_len] at g1 o1
    by_cases h1 : j < i * 2
    · rw [if_pos h1, o2 j (by omega), o1 j (by omega)]
      exact hcl j (by omega)
    · rw [if_neg h1]
      by_cases h2 : j = i * 2
      · rw [if_pos h2, h2]
        exact g2 0 (by simp)
      · rw [if_neg h2]
        by_cases h3 : j = i * 2 + 1
        · rw [if_pos h3, h3]
          exact g2 1 (by simp)
        · rw [if_neg h3, o2 j (by simp; omega)]
          have := g1 (j - (i + 1) * 2) (by omega)
          rw [rowL_at _ _ _ _ (by omega), show (i + 1) * 2 + (j - (i + 1) * 2) = j by omega, show i * 2 + (j - (i + 1) * 2) = j - 2 by omega] at this
          exact this
  · have hb : w.grownBy W1 (some g) := by
      rw [HW1.out]
      exact (gb_drew w _).trans (gb_setCells g _ _ _)
    exact hb.trans (gb_setCells g _ _ _)
end Go.Proofs.Ytaeifdmabkjoiaa.PPU

/- Insert of one step: at the end, and where there is no room. -/
namespace Go.Proofs.Ytaeifdmabkjoiaa.PPU
open Go.RowKit Go.Proofs.YtaeifdmabkjoiaaW.PrintWords Go.Proofs.YtaeifdmabkjoiaaW.PrintLast Go.Proofs.YtaeifdmabkjoiaaW.PrintMore
set_option linter.unusedVariables false
set_option linter.unusedSimpArgs false

abbrev stepCs (x : S67) : List Value := [.int .i64 x.f0, .int .i64 x.f1]
theorem stepCs_one (x : S67) : ∀ u ∈ stepCs x, u.oneCell' = true := by
  intro u hu
  simp [stepCs] at hu
  rcases hu with rfl | rfl <;> rfl
theorem src_step {w : World} {v : Nat} {x : S67} (hv : w.heap[v]? = some (.cells #[.int .i64 x.f0, .int .i64 x.f1] 67 (0, 0))) : Src Try.prog 2 56 (.slice (some ⟨v, 0, none⟩) 1 1) 1 (stepCs x) w :=
  Src.ofSlice w Try.underlying56 ⟨v, 0, none⟩ 1 1 (stepCs x) rfl (fun j u hj => by
    rw [Addr.add_lit, Nat.zero_add, blk_cell hv j]
    simpa using hj) (stepCs_one x)
set_option maxHeartbeats 4000000 in
set_option maxRecDepth 100000 in
theorem insert_end_room (g n cap v : Nat) (f : Nat → S67) (x : S67) (w : World) (hR : RowF w g n cap f) (hroom : n + 1 ≤ cap) (hc63 : cap ≤ 9223372036854775807) (hv : w.heap[v]? = some (.cells #[.int .i64 x.f0, .int .i64 x.f1] 67 (0, 0))) :
    Calls Try.prog 65 #[.slice (some ⟨g, 0, none⟩) n cap, .int .i64 n, .slice (some ⟨v, 0, none⟩) 1 1] w fun e w' => e = .returned (.slice (some ⟨g, 0, none⟩) (n + 1) cap) ∧ RowF w' g (n + 1) cap (insF f n x) ∧ w.grownBy w' (some g) := by
  obtain ⟨i0, hi0, hz0, hzs, hzb⟩ := info_parts info67
  have hsrc : Src Try.prog i0.size 56 (.slice (some ⟨v, 0, none⟩) 1 1) 1 (stepCs x) w := by rw [hzs]; exact src_step hv
  have hc : ∀ j, j < (stepCs x).length → (w.cell? ⟨g, 0 + n * i0.size + j, none⟩).isSome = true := fun j hj => by
    have hj2 : j < 2 := hj
    rw [hzs]
    exact hR.isAt _ (by omega)
  have hf : ∀ j, j < (stepCs x).length → w.frozen? ⟨g, 0 + n * i0.size + j, none⟩ = false := fun j hj => hR.fz _
  have HR := Aside0.mk hR
  have HZ := Aside0.mk hzs
  clear hR hzs
  go_enter Try.func65, Try.ntmps65
  go_wp2_with (at_builtin; refine wpList_append_room_src _ rfl _ _ 56 56 rfl 67 i0 Try.underlying56 hi0 g 0 n cap rfl _ rfl 1 (stepCs x) hsrc hroom hc hf ?_)
  go_ret
  rw [HZ.out]
  obtain ⟨cur, hcur, hcs, hcl⟩ := HR.out.blk
  obtain ⟨cur2, e2, s2, g2, o2⟩ := blk_setCells g 67 (stepCs x) (n * 2) w cur hcur (by rw [hcs]; simp; omega)
  refine ⟨rfl, RowF.of_cells hroom e2 (by rw [s2, hcs]) (fun j hj => ?_), gb_setCells g _ _ _⟩
  rw [insF_cell]
  by_cases h1 : j < n * 2
  · rw [if_pos h1, o2 j (by omega)]
    exact hcl j (by omega)
  · rw [if_neg h1]
    by_cases h2 : j = n * 2
    · rw [if_pos h2, h2]
      exact g2 0 (by simp)
    · rw [if_neg h2, if_pos (by omega), show j = n * 2 + 1 by omega]
      exact g2 1 (by simp)
set_option maxHeartbeats 4000000 in
set_option maxRecDepth 100000 in
theorem insert_end_grow (g n cap v : Nat) (f : Nat → S67) (x : S67) (w : World) (hR : RowF w g n cap f) (hroom : cap < n + 1) (hbig : n ≤ 2000) (hv : w.heap[v]? = some (.cells #[.int .i64 x.f0, .int .i64 x.f1] 67 (0, 0))) :
    Calls Try.prog 65 #[.slice (some ⟨g, 0, none⟩) n cap, .int .i64 n, .slice (some ⟨v, 0, none⟩) 1 1] w fun e w' => ∃ cap', e = .returned (.slice (some ⟨w.heap.size, 0, none⟩) (n + 1) cap') ∧ cap' ≤ 9223372036854775807 ∧ RowF w' w.heap.size (n + 1) cap' (insF f n x) ∧ w.grownBy w' none := by
  obtain ⟨i0, hi0, hz0, hzs, hzb⟩ := info_parts info67
  have hsrc : Src Try.prog i0.size 56 (.slice (some ⟨v, 0, none⟩) 1 1) 1 (stepCs x) w := by rw [hzs]; exact src_step hv
  have hold : (Builtin.firstCells i0.size n (.slice (some ⟨g, 0, none⟩) n cap)).run Try.prog w.drew = .ok (rowL f 0 n).toArray w.drew := by
    rw [hzs]
    exact run_firstCells_some w.drew 2 n ⟨g, 0, none⟩ n cap (rowL f 0 n) (by rw [rowL_len]) (fun j u hj => by
      obtain ⟨h1, rfl⟩ := rowL_get _ _ _ _ _ hj
      rw [Addr.add_lit]
      exact hR.cellAt _ (by omega))
  have hnc : n ≤ cap := hR.1
  have hrun : ∀ ty, (Builtin.append_ #[56, 56] ty #[.slice (some ⟨g, 0, none⟩) n cap, .slice (some ⟨v, 0, none⟩) 1 1]).run Try.prog w = _ := fun ty =>
    run_append_grow_src w 56 56 ty 67 i0 _ Try.underlying56 hi0 hz0 (some ⟨g, 0, none⟩) n cap (rowL f 0 n) hold _ 1 (stepCs x) hsrc hroom (by omega) (by rw [hzb]; exact growslice_fits hroom (by omega))
  obtain ⟨G, hG⟩ : ∃ G, G = grownCap w (n + 1) cap 67 := ⟨_, rfl⟩
  have hG1 : n + 1 ≤ G := by rw [hG]; exact grownCap_ge w _ _ _
  have hG63 : G ≤ 9223372036854775807 := by
    have := grownCap_le_maxLen w (n + 1) cap 67 (by unfold maxLen; omega)
    rw [← hG] at this
    unfold maxLen at this
    omega
  rw [← hG] at hrun
  obtain ⟨ROW, hROW⟩ : ∃ ROW : Array Value, ROW = (rowL f 0 n ++ stepCs x).toArray ++ Builtin.zeroCells (Value.agg #[.int .i64 0, .int .i64 0]).cells (G - (n + 1)) := ⟨_, rfl⟩
  rw [← hROW] at hrun
  have hRs : ROW.size = G * 2 := by
    rw [hROW]
    simp [size_zeroCells, rowL_len, Value.cells]
    omega
  have hRc : ∀ j, j < (n + 1) * 2 → ROW[j]? = some (cellOf (insF f n x) j) := fun j hj => by
    rw [hROW, insF_cell, Array.getElem?_append_left (by simp [rowL_len]; omega)]
    simp only [List.getElem?_toArray]
    by_cases h1 : j < n * 2
    · rw [if_pos h1, List.getElem?_append_left (by rw [rowL_len]; exact h1), rowL_at _ _ _ _ h1, Nat.zero_mul, Nat.zero_add]
    · rw [if_neg h1, List.getElem?_append_right (by rw [rowL_len]; omega), rowL_len, pair_at _ _ _ (by omega)]
      by_cases h2 : j = n * 2
      · rw [if_pos (by omega), if_pos h2]
      · rw [if_neg (by omega), if_neg h2, if_pos (by omega)]
  have HRs := Aside0.mk hRs
  have HRc := Aside0.mk hRc
  have HG := Aside0.mk hG63
  clear hRs hRc hROW hG
  go_enter Try.func65, Try.ntmps65
  go_wp2_with (at_builtin; refine Lib.wpList_append_run _ rfl _ _ _ _ rfl _ _ rfl rfl _ _ (hrun _) ?_)
  go_ret
  exact ⟨G, rfl, HG.out, RowF.of_cells hG1 (heap_alloc_new w.drew _) HRs.out HRc.out, (gb_drew w _).trans (World.grownBy_alloc w.drew _ _)⟩
set_option maxHeartbeats 4000000 in
set_option maxRecDepth 100000 in
theorem insert_grow (g n cap i v : Nat) (f : Nat → S67) (x : S67) (w : World) (hR : RowF w g n cap f) (hi : i < n) (hroom : cap < n + 1) (hbig : n ≤ 2000) (hv : w.heap[v]? = some (.cells #[.int .i64 x.f0, .int .i64 x.f1] 67 (0, 0))) :
    Calls Try.prog 65 #[.slice (some ⟨g, 0, none⟩) n cap, .int .i64 i, .slice (some ⟨v, 0, none⟩) 1 1] w fun e w' => ∃ cap', e = .returned (.slice (some ⟨w.heap.size, 0, none⟩) (n + 1) cap') ∧ cap' ≤ 9223372036854775807 ∧ RowF w' w.heap.size (n + 1) cap' (insF f i x) ∧ w.grownBy w' none := by
  obtain ⟨i0, hi0, hz0, hzs, hzb⟩ := info_parts info67
  have hsz : (Try.prog.info? 67).map (·.size) = some 2 := by rw [hi0]; simp [hzs]
  have hz2 : ¬ ((i : Int) = (n : Int)) := by omega
  have hz3 : (cap : Int) < (n : Int) + 1 := by omega
  have hnc : n ≤ cap := hR.1
  have hgw : g < w.heap.size := hR.lt
  have hvw : v < w.heap.size := blk_lt hv
  have hkk : (n : Int) + 1 - (i : Int) = ((n + 1 - i : Nat) : Int) := by omega
  have hik : i + (n + 1 - i) = n + 1 := by omega
  have hold : (Builtin.firstCells i0.size i (.slice (some ⟨g, 0, none⟩) i cap)).run Try.prog w.drew = .ok (rowL f 0 i).toArray w.drew := by
    rw [hzs]
    exact run_firstCells_some w.drew 2 i ⟨g, 0, none⟩ i cap (rowL f 0 i) (by rw [rowL_len]) (fun j u hj => by
      obtain ⟨h1, rfl⟩ := rowL_get _ _ _ _ _ hj
      rw [Addr.add_lit]
      exact hR.cellAt _ (by omega))
  have hrz : ∀ ty, (Builtin.append_ #[56, 3] ty #[.slice (some ⟨g, 0, none⟩) i cap, .int .i64 ((n : Int) + 1 - (i : Int))]).run Try.prog w = .ok (.slice (some ⟨w.heap.size, 0, none⟩) (n + 1) (grownCap w (n + 1) cap 67)) (w.drew.alloc (.cells ((rowL f 0 i).toArray ++ Builtin.zeroCells (Value.agg #[.int .i64 0, .int .i64 0]).cells (n + 1 - i) ++ Builtin.zeroCells (Value.agg #[.int .i64 0, .int .i64 0]).cells (grownCap w (n + 1) cap 67 - (n + 1))) 67)) := fun ty => by
    have h := Lib.run_append_grow_zeros w 56 3 ty 67 i0 _ .i64 .i64 Try.underlying56 Try.underlying3 hi0 hz0 (some ⟨g, 0, none⟩) i cap (rowL f 0 i) hold (n + 1 - i) (by omega) (by omega) (by omega) (by omega) (by rw [hzb]; omega) (by rw [hzb, hik]; exact growslice_fits hroom (by omega))
    rw [hik] at h
    rw [hkk]
    exact h
  obtain ⟨G, hG⟩ : ∃ G, G = grownCap w (n + 1) cap 67 := ⟨_, rfl⟩
  have hGn : n + 1 ≤ G := by rw [hG]; exact grownCap_ge w _ _ _
  have hG63 : G ≤ 9223372036854775807 := by
    have := grownCap_le_maxLen w (n + 1) cap 67 (by unfold maxLen; omega)
    rw [← hG] at this
    unfold maxLen at this
    omega
  obtain ⟨ROW, hROW⟩ : ∃ ROW : Array Value, ROW = (rowL f 0 i).toArray ++ Builtin.zeroCells (Value.agg #[.int .i64 0, .int .i64 0]).cells (n + 1 - i) ++ Builtin.zeroCells (Value.agg #[.int .i64 0, .int .i64 0]).cells (G - (n + 1)) := ⟨_, rfl⟩
  rw [← hG, ← hROW] at hrz
  have hRs : ROW.size = G * 2 := by
    rw [hROW]
    simp [size_zeroCells, rowL_len, Value.cells]
    omega
  have hRc : ∀ j, j < i * 2 → ROW[j]? = some (cellOf f j) := fun j hj => by
    rw [hROW, Array.append_assoc, Array.getElem?_append_left (by simp [rowL_len]; exact hj)]
    simp only [List.getElem?_toArray]
    rw [rowL_at _ _ _ _ hj, Nat.zero_mul, Nat.zero_add]
  obtain ⟨N, hN⟩ : ∃ N, N = w.heap.size := ⟨_, rfl⟩
  obtain ⟨W1, hW1⟩ : ∃ W1, W1 = w.drew.alloc (.cells ROW 67) := ⟨_, rfl⟩
  have e1 : W1.heap[N]? = some (.cells ROW 67 (0, 0)) := by rw [hW1, hN]; exact heap_alloc_new w.drew _
  obtain ⟨W2, hW2⟩ : ∃ W2, W2 = W1.setCells N (i * 2) (stepCs x) := ⟨_, rfl⟩
  obtain ⟨cur2, e2, s2, g2, o2⟩ := blk_setCells N 67 (stepCs x) (i * 2) W1 ROW e1 (by rw [hRs]; simp; omega)
  rw [← hW2] at e2
  have hold1 : ∀ j, j < w.heap.size → W1.heap[j]? = w.heap[j]? := fun j hj => by rw [hW1]; exact Below.heap_alloc w.drew _ j hj
  have hcpA : ∀ ty dc, (Builtin.copy_ #[56, 56] ty #[.slice (some ⟨N, i * 2, none⟩) (n + 1 - i) dc, .slice (some ⟨v, 0, none⟩) 1 1]).run Try.prog W1 = .ok (goInt ((1 : Nat) : Int)) W2 := fun ty dc => by
    rw [hW2]
    exact run_copy_two W1 56 56 ty 67 N (i * 2) (n + 1 - i) dc ⟨v, 0, none⟩ 1 1 1 (stepCs x) Try.underlying56 hsz (by simp only [Nat.min_def]; split <;> omega) rfl
      (fun j u hj => by
        rw [Addr.add_lit, Nat.zero_add, blk_cell ((hold1 v hvw).trans hv) j]
        simpa using hj)
      (fun j hj => by
        have hj2 : j < 2 := hj
        rw [blk_cell e1, Array.getElem?_eq_getElem (by omega)]; rfl) (fun j hj => blk_frozen e1 _) (stepCs_one x)
  have hgN : g ≠ N := by omega
  have hold2 : W2.heap[g]? = w.heap[g]? := by
    rw [hW2, (gb_setCells N _ _ W1).block g (by rw [hW1]; simp; omega) (fun e => hgN (Option.some.inj e))]
    exact hold1 g hgw
  have hcpB : ∀ ty dc sc, (Builtin.copy_ #[56, 56] ty #[.slice (some ⟨N, (i + 1) * 2, none⟩) (n - i) dc, .slice (some ⟨g, i * 2, none⟩) (n - i) sc]).run Try.prog W2.drew = .ok (goInt ((n - i : Nat) : Int)) (W2.drew.setCells N ((i + 1) * 2) (rowL f i (n - i))) := fun ty dc sc =>
    run_copy_two W2.drew 56 56 ty 67 N ((i + 1) * 2) (n - i) dc ⟨g, i * 2, none⟩ (n - i) sc (n - i) (rowL f i (n - i)) Try.underlying56 hsz (by simp only [Nat.min_def]; split <;> omega) (rowL_len _ _ _)
      (fun j u hj => by
        obtain ⟨h1, rfl⟩ := rowL_get _ _ _ _ _ hj
        rw [Addr.add_lit]
        obtain ⟨cur, hcur, hcs, hcl⟩ := hR.blk
        rw [blk_cell (w := W2.drew) (hold2.trans hcur)]
        exact hcl _ (by omega))
      (fun j hj => by
        rw [rowL_len] at hj
        rw [blk_cell (w := W2.drew) e2, Array.getElem?_eq_getElem (by omega)]; rfl) (fun j hj => blk_frozen (w := W2.drew) e2 _) (rowL_one _ _ _)
  have hGi : ¬ (G = i) := by omega
  have hGim : ¬ (G = i + 1) := by omega
  have hci : ¬ (cap = i) := by omega
  have hw1 : IntKind.i64.wrap ((i : Int) + 1) = (i : Int) + 1 := by rw [IntKind.wrap_i64]; omega
  have hw2 : IntKind.i64.wrap ((n : Int) + 1) = (n : Int) + 1 := by rw [IntKind.wrap_i64]; omega
  have hb1 : (0 : Int) ≤ (i : Int) + 1 := by omega
  have hin : i ≤ n := by omega
  have htn : ((i : Int) + 1).toNat = i + 1 := by omega
  have hb3 : (i : Int) ≤ (n : Int) := by omega
  have HW1 := Aside0.mk hW1
  have HW2 := Aside0.mk hW2
  have HRs := Aside0.mk hRs
  have HRc := Aside0.mk hRc
  have HG := Aside0.mk hG63
  have HR := Aside0.mk hR
  have H2 := Aside0.mk (And.intro e2 (And.intro s2 (And.intro g2 o2)))
  rw [← hN, ← hW1] at hrz
  have HN := Aside0.mk hN
  clear hkk hik hold hROW hG hRs hRc hW2 hR e1 e2 s2 g2 o2 hold1 hold2 hv hW1 hN hgw hvw
  go_enter Try.func65, Try.ntmps65
  go_wp2_with (first
    | (at_builtin; refine Lib.wpList_append_run _ rfl _ _ _ _ rfl _ _ rfl rfl _ _ (hrz _) ?_)
    | (at_builtin; refine Go.Proofs.wpList_copy_runI _ rfl _ _ 56 56 rfl _ _ rfl rfl (hcpA _ _) ?_))
  go_region_law (refine Go.Proofs.step_copy_runI rfl _ _ 56 56 rfl _ _ (by simp [Act.eval, Act.put]) (by simp [Act.eval, Act.put]) (hcpB _ _ _) ?_)
  go_wp2
  go_ret
  obtain ⟨e2, s2, g2, o2⟩ := H2.out
  obtain ⟨cur3, e3, s3, g3, o3⟩ := blk_setCells N 67 (rowL f i (n - i)) ((i + 1) * 2) W2.drew cur2 e2 (by rw [s2, HRs.out, rowL_len]; omega)
  rw [← HN.out]
  refine ⟨G, rfl, HG.out, RowF.of_cells hGn e3 (by rw [s3, s2, HRs.out]) (fun j hj => ?_), ?_⟩
  · rw [insF_cell]
    rw [rowL_len] at g3 o3
    by_cases h1 : j < i * 2
    · rw [if_pos h1, o3 j (by omega), o2 j (by omega)]
      exact HRc.out j h1
    · rw [if_neg h1]
      by_cases h2 : j = i * 2
      · rw [if_pos h2, h2, o3 _ (by omega)]
        exact g2 0 (by simp)
      · rw [if_neg h2]
        by_cases h3 : j = i * 2 + 1
        · rw [if_pos h3, h3, o3 _ (by omega)]
          exact g2 1 (by simp)
        · rw [if_neg h3]
          have := g3 (j - (i + 1) * 2) (by omega)
          rw [rowL_at _ _ _ _ (by omega), show (i + 1) * 2 + (j - (i + 1) * 2) = j by omega, show i * 2 + (j - (i + 1) * 2) = j - 2 by omega] at this
          exact this
  · have hb1 : w.grownBy W1 none := by
      rw [HW1.out]
      exact (gb_drew w _).trans (World.grownBy_alloc w.drew _ _)
    have hb2 : w.grownBy W2 none := by
      refine ⟨?_, ?_, ?_, ?_, fun j hj hne => ?_⟩
      · rw [HW2.out, (gb_setCells N _ _ _).os]; exact hb1.os
      · rw [HW2.out, (gb_setCells N _ _ _).tape]; exact hb1.tape
      · rw [HW2.out, (gb_setCells N _ _ _).output]; exact hb1.output
      · exact Nat.le_trans hb1.size (by rw [HW2.out]; exact (gb_setCells N _ _ _).size)
      · rw [HW2.out, (gb_setCells N _ _ _).block j (Nat.lt_of_lt_of_le hj hb1.size) (fun e => by have := Option.some.inj e; have := HN.out; omega)]
        exact hb1.block j hj hne
    have hz := gb_setCells N (rowL f i (n - i)) ((i + 1) * 2) W2.drew
    refine ⟨hz.os.trans hb2.os, hz.tape.trans hb2.tape, hz.output.trans hb2.output, Nat.le_trans hb2.size hz.size, fun j hj hne => ?_⟩
    rw [hz.block j (Nat.lt_of_lt_of_le hj hb2.size) (fun e => by have := Option.some.inj e; have := HN.out; omega)]
    exact hb2.block j hj hne
end Go.Proofs.Ytaeifdmabkjoiaa.PPU

/- The plain law of steps: the level at a time; a step that comes in; levels that are turned; steps of one level. -/
namespace Go.Proofs.Ytaeifdmabkjoiaa.PPU
open Go.RowKit Go.Proofs.YtaeifdmabkjoiaaW.PrintWords Go.Proofs.YtaeifdmabkjoiaaW.PrintLast Go.Proofs.YtaeifdmabkjoiaaW.PrintMore
set_option linter.unusedVariables false
set_option linter.unusedSimpArgs false

/-- The level at a time. -/
def lev : Nat → (Nat → S67) → Int → Int
  | 0, _, _ => 0
  | n + 1, f, t => if (f n).f0 ≤ t then (f n).f1 else lev n f t
theorem lev_plc {n : Nat} {f : Nat → S67} {t : Int} {q : Nat} (h : Plc n f t q) : lev n f t = (f q).f1 := by
  induction n with
  | zero => exact absurd h.lt (Nat.not_lt_zero _)
  | succ n ih =>
    unfold lev
    by_cases e : q = n
    · subst e
      rw [if_pos h.le]
    · have h1 := h.lt
      have h2 := h.hi n (by omega) (by omega)
      rw [if_neg (by omega)]
      exact ih ⟨by omega, h.le, fun k h3 h4 => h.hi k h3 (by omega)⟩
theorem lev_congr {n : Nat} {f f' : Nat → S67} (t : Int) (h : ∀ k, k < n → f k = f' k) : lev n f t = lev n f' t := by
  induction n with
  | zero => rfl
  | succ n ih => unfold lev; rw [h n (by omega), ih (fun k hk => h k (by omega))]
theorem plc_ex {n : Nat} {f : Nat → S67} {t : Int} (h0 : 0 < n) (hz : (f 0).f0 ≤ t) : ∃ q, Plc n f t q := by
  induction n with
  | zero => omega
  | succ n ih =>
    by_cases h : (f n).f0 ≤ t
    · exact ⟨n, by omega, h, fun k h1 h2 => by omega⟩
    · have hn : 0 < n := by
        refine Nat.pos_of_ne_zero (fun e => ?_)
        subst e
        exact h hz
      obtain ⟨q, h1, h2, h3⟩ := ih hn
      refine ⟨q, by omega, h2, fun k h4 h5 => ?_⟩
      by_cases e : k = n
      · subst e; omega
      · exact h3 k h4 (by omega)

/-- Steps as they are while they are worked on: they rise from 0 on, and their levels are levels. -/
structure Wf0 (n : Nat) (f : Nat → S67) : Prop where
  pos : 0 < n
  zero : (f 0).f0 = 0
  lt : ∀ i j, i < j → j < n → (f i).f0 < (f j).f0
  top : ∀ i, i < n → (f i).f0 < 1099511627776
  lv : ∀ i, i < n → -1000000 ≤ (f i).f1 ∧ (f i).f1 ≤ 1000000
/-- .. and no two that follow one another have the same level. -/
structure Wf (n : Nat) (f : Nat → S67) : Prop extends Wf0 n f where
  ne : ∀ i, i + 1 < n → (f i).f1 ≠ (f (i + 1)).f1
theorem Wf0.low {n : Nat} {f : Nat → S67} (h : Wf0 n f) (i : Nat) (hi : i < n) : 0 ≤ (f i).f0 := by
  rcases Nat.eq_zero_or_pos i with e | e
  · subst e; rw [h.zero]; exact Int.le_refl _
  · have := h.lt 0 i e hi; rw [h.zero] at this; omega
theorem Wf0.rise {n : Nat} {f : Nat → S67} (h : Wf0 n f) : Rise n f := ⟨h.lt, fun i hi => ⟨h.low i hi, by have := h.top i hi; omega⟩⟩
theorem Wf0.plc {n : Nat} {f : Nat → S67} (h : Wf0 n f) (t : Int) (ht : 0 ≤ t) : ∃ q, Plc n f t q := plc_ex h.pos (by rw [h.zero]; exact ht)
theorem Wf0.lvl {n : Nat} {f : Nat → S67} (h : Wf0 n f) (t : Int) (ht : 0 ≤ t) : -1000000 ≤ lev n f t ∧ lev n f t ≤ 1000000 := by
  obtain ⟨q, hq⟩ := h.plc t ht
  rw [lev_plc hq]
  exact h.lv q hq.lt
theorem Wf0.plc_at {n : Nat} {f : Nat → S67} (h : Wf0 n f) (i : Nat) (hi : i < n) : Plc n f (f i).f0 i := ⟨hi, Int.le_refl _, fun k h1 h2 => h.lt i k h1 h2⟩
theorem Wf0.lev_at {n : Nat} {f : Nat → S67} (h : Wf0 n f) (i : Nat) (hi : i < n) : lev n f (f i).f0 = (f i).f1 := lev_plc (h.plc_at i hi)

theorem insF_lo (f : Nat → S67) (i : Nat) (x : S67) (k : Nat) (h : k < i) : insF f i x k = f k := by unfold insF; rw [if_pos h]
theorem insF_eq (f : Nat → S67) (i : Nat) (x : S67) : insF f i x i = x := by unfold insF; rw [if_neg (Nat.lt_irrefl i), if_pos rfl]
theorem insF_hi (f : Nat → S67) (i : Nat) (x : S67) (k : Nat) (h : i ≤ k) : insF f i x (k + 1) = f k := by unfold insF; rw [if_neg (by omega), if_neg (by omega)]; rfl
theorem insF_cases (f : Nat → S67) (i : Nat) (x : S67) (k : Nat) : (k < i ∧ insF f i x k = f k) ∨ (k = i ∧ insF f i x k = x) ∨ (∃ j, k = j + 1 ∧ i ≤ j ∧ insF f i x k = f j) := by
  by_cases h1 : k < i
  · exact .inl ⟨h1, insF_lo f i x k h1⟩
  · by_cases h2 : k = i
    · subst h2; exact .inr (.inl ⟨rfl, insF_eq f _ x⟩)
    · refine .inr (.inr ⟨k - 1, by omega, by omega, ?_⟩)
      have := insF_hi f i x (k - 1) (by omega)
      rwa [show k - 1 + 1 = k by omega] at this

section
variable {n : Nat} {f : Nat → S67} {t : Int} {i : Nat}
/-- A step that comes in where its level is already. -/
theorem ins_wf (h : Wf0 n f) (hF : Fst n f t i) (hi : 0 < i) (hni : i < n → t < (f i).f0) (ht : 0 ≤ t) (htt : t < 1099511627776) : Wf0 (n + 1) (insF f i ⟨t, (f (i - 1)).f1⟩) := by
  have hin := hF.le
  refine ⟨by omega, by rw [insF_lo _ _ _ _ hi]; exact h.zero, fun a b hab hb => ?_, fun a ha => ?_, fun a ha => ?_⟩
  · rcases insF_cases f i ⟨t, (f (i - 1)).f1⟩ a with ⟨h1, e1⟩ | ⟨h1, e1⟩ | ⟨a', h1, h1', e1⟩ <;> rcases insF_cases f i ⟨t, (f (i - 1)).f1⟩ b with ⟨h2, e2⟩ | ⟨h2, e2⟩ | ⟨b', h2, h2', e2⟩ <;> rw [e1, e2]
    · exact h.lt a b hab (by omega)
    · exact hF.lo a h1
    · exact h.lt a b' (by omega) (by omega)
    · omega
    · omega
    · have := hni (by omega)
      show t < _
      rcases Nat.eq_or_lt_of_le h2' with e | e
      · subst e; exact this
      · have := h.lt i b' e (by omega); omega
    · omega
    · omega
    · exact h.lt a' b' (by omega) (by omega)
  · rcases insF_cases f i ⟨t, (f (i - 1)).f1⟩ a with ⟨h1, e1⟩ | ⟨h1, e1⟩ | ⟨a', h1, h1', e1⟩ <;> rw [e1]
    · exact h.top a (by omega)
    · exact htt
    · exact h.top a' (by omega)
  · rcases insF_cases f i ⟨t, (f (i - 1)).f1⟩ a with ⟨h1, e1⟩ | ⟨h1, e1⟩ | ⟨a', h1, h1', e1⟩ <;> rw [e1]
    · exact h.lv a (by omega)
    · exact h.lv (i - 1) (by omega)
    · exact h.lv a' (by omega)
theorem ins_lev (h : Wf0 n f) (hF : Fst n f t i) (hi : 0 < i) (hni : i < n → t < (f i).f0) (s : Int) (hs : 0 ≤ s) : lev (n + 1) (insF f i ⟨t, (f (i - 1)).f1⟩) s = lev n f s := by
  obtain ⟨q, hq⟩ := h.plc s hs
  have hin := hF.le
  rw [lev_plc hq]
  by_cases hqi : q < i
  · by_cases hst : s < t
    · have : Plc (n + 1) (insF f i ⟨t, (f (i - 1)).f1⟩) s q := by
        refine ⟨by have := hq.lt; omega, by rw [insF_lo _ _ _ _ hqi]; exact hq.le, fun k h1 h2 => ?_⟩
        rcases insF_cases f i ⟨t, (f (i - 1)).f1⟩ k with ⟨h3, e1⟩ | ⟨h3, e1⟩ | ⟨k', h3, h3', e1⟩ <;> rw [e1]
        · exact hq.hi k h1 (by omega)
        · exact hst
        · exact hq.hi k' (by omega) (by omega)
      rw [lev_plc this, insF_lo _ _ _ _ hqi]
    · have hqe : q = i - 1 := by
        refine Nat.le_antisymm (by omega) (Nat.le_of_not_lt fun h1 => ?_)
        have h2 := hq.hi (i - 1) h1 (by omega)
        have h3 := hF.lo (i - 1) (by omega)
        omega
      have : Plc (n + 1) (insF f i ⟨t, (f (i - 1)).f1⟩) s i := by
        refine ⟨by omega, by rw [insF_eq]; show t ≤ s; omega, fun k h1 h2 => ?_⟩
        rcases insF_cases f i ⟨t, (f (i - 1)).f1⟩ k with ⟨h3, e1⟩ | ⟨h3, e1⟩ | ⟨k', h3, h3', e1⟩
        · omega
        · omega
        · rw [e1]; exact hq.hi k' (by omega) (by omega)
      rw [lev_plc this, insF_eq, hqe]
  · have : Plc (n + 1) (insF f i ⟨t, (f (i - 1)).f1⟩) s (q + 1) := by
      refine ⟨by have := hq.lt; omega, by rw [insF_hi _ _ _ _ (by omega)]; exact hq.le, fun k h1 h2 => ?_⟩
      rcases insF_cases f i ⟨t, (f (i - 1)).f1⟩ k with ⟨h3, e1⟩ | ⟨h3, e1⟩ | ⟨k', h3, h3', e1⟩
      · omega
      · omega
      · rw [e1]; exact hq.hi k' (by omega) (by omega)
    rw [lev_plc this, insF_hi _ _ _ _ (by omega)]

/-- What cut leaves: the same levels, and a step (or the end) at the time. -/
structure Cut (n : Nat) (f : Nat → S67) (t : Int) (n' : Nat) (f' : Nat → S67) (i : Nat) : Prop where
  wf : Wf0 n' f'
  fst : Fst n' f' t i
  at_ : t < 1099511627776 → i < n' ∧ (f' i).f0 = t
  len : n' ≤ n + 1
  lev : ∀ s, 0 ≤ s → lev n' f' s = lev n f s
  /-- the first of the steps that are not ahead of an earlier time is there still -/
  keep : ∀ s j, s < t → Fst n f s j → j < n → (f j).f0 = s → Fst n' f' s j ∧ j < n' ∧ (f' j).f0 = s
theorem cut_end (h : Wf0 n f) (ht : 1099511627776 ≤ t) : Cut n f t n f n :=
  ⟨h, ⟨Nat.le_refl _, fun k hk => by have := h.top k hk; omega, fun k h1 h2 => by omega⟩, fun h1 => by omega, by omega, fun _ _ => rfl, fun s j _ h2 h3 h4 => ⟨h2, h3, h4⟩⟩
theorem cut_is {q : Nat} (h : Wf0 n f) (hq : Plc n f t q) (he : (f q).f0 = t) : Cut n f t n f q :=
  ⟨h, ⟨by have := hq.lt; omega, fun k hk => by have := h.lt k q hk hq.lt; omega, fun k h1 h2 => by
    rcases Nat.eq_or_lt_of_le h1 with e | e
    · subst e; omega
    · have := hq.hi k e h2; omega⟩, fun _ => ⟨hq.lt, he⟩, by omega, fun _ _ => rfl, fun s j _ h2 h3 h4 => ⟨h2, h3, h4⟩⟩
theorem cut_ins {q : Nat} (h : Wf0 n f) (hq : Plc n f t q) (he : ¬ (f q).f0 = t) (ht : 0 ≤ t) (htt : t < 1099511627776) : Cut n f t (n + 1) (insF f (q + 1) ⟨t, (f q).f1⟩) (q + 1) := by
  have hlt := hq.lt
  have hle := hq.le
  have hF : Fst n f t (q + 1) := ⟨by omega, fun k hk => by
    rcases Nat.eq_or_lt_of_le (Nat.le_of_lt_succ hk) with e | e
    · subst e; omega
    · have := h.lt k q e hlt; omega, fun k h1 h2 => by have := hq.hi k (by omega) h2; omega⟩
  have hni : q + 1 < n → t < (f (q + 1)).f0 := fun h1 => hq.hi (q + 1) (by omega) h1
  have hw := ins_wf h hF (by omega) hni ht htt
  have hl := ins_lev h hF (by omega) hni
  simp only [Nat.add_sub_cancel] at hw hl
  have e0 := insF_eq f (q + 1) ⟨t, (f q).f1⟩
  refine ⟨hw, ⟨by omega, fun k hk => ?_, fun k h1 h2 => ?_⟩, fun _ => ⟨by omega, by rw [e0]⟩, by omega, hl, fun s j hs h2 h3 h4 => ?_⟩
  · have := hw.lt k (q + 1) hk (by omega)
    rw [e0] at this
    exact this
  · rcases Nat.eq_or_lt_of_le h1 with e | e
    · rw [← e, e0]; exact Int.le_refl _
    · have := hw.lt (q + 1) k e h2
      rw [e0] at this
      have h5 : t < (insF f (q + 1) ⟨t, (f q).f1⟩ k).f0 := this
      omega
  · have hjq : j < q + 1 := by
      refine Nat.lt_of_not_le fun h5 => ?_
      have := hF.hi j h5 h3
      omega
    have e1 := insF_lo f (q + 1) ⟨t, (f q).f1⟩ j hjq
    refine ⟨⟨by omega, fun k hk => ?_, fun k h5 h6 => ?_⟩, by omega, by rw [e1]; exact h4⟩
    · rw [insF_lo _ _ _ _ (by omega)]; exact h2.lo k hk
    · rcases Nat.eq_or_lt_of_le h5 with e | e
      · rw [← e, e1]; omega
      · have := hw.lt j k e h6
        rw [e1] at this
        omega
end
/-- The nearest level. -/
def wth (x : Int) : Int := mx (-1000000) (mn x 1000000)
theorem wth_bd (x : Int) : -1000000 ≤ wth x ∧ wth x ≤ 1000000 := by unfold wth mx mn; (repeat' split) <;> omega
/-- The steps from a on, up tf b, with their levels turned. -/
def turnF (f : Nat → S67) (a b : Nat) (tf : Int → Int) (k : Nat) : S67 := if a ≤ k ∧ k < b then ⟨(f k).f0, wth (tf (f k).f1)⟩ else f k
theorem turnF_f0 (f : Nat → S67) (a b : Nat) (tf : Int → Int) (k : Nat) : (turnF f a b tf k).f0 = (f k).f0 := by unfold turnF; split <;> rfl
theorem turnF_plc {n : Nat} {f : Nat → S67} {a b : Nat} {tf : Int → Int} {t : Int} {q : Nat} (h : Plc n f t q) : Plc n (turnF f a b tf) t q :=
  ⟨h.lt, by rw [turnF_f0]; exact h.le, fun k h1 h2 => by rw [turnF_f0]; exact h.hi k h1 h2⟩
theorem turn_wf {n : Nat} {f : Nat → S67} (h : Wf0 n f) (a b : Nat) (tf : Int → Int) : Wf0 n (turnF f a b tf) :=
  ⟨h.pos, by rw [turnF_f0]; exact h.zero, fun i j h1 h2 => by rw [turnF_f0, turnF_f0]; exact h.lt i j h1 h2, fun i hi => by rw [turnF_f0]; exact h.top i hi, fun i hi => by
    unfold turnF
    split
    · exact wth_bd _
    · exact h.lv i hi⟩
theorem turn_lev {n : Nat} {f : Nat → S67} (h : Wf0 n f) {a b : Nat} {tf : Int → Int} {x y : Int} (ha : Fst n f x a) (hb : Fst n f y b) (hx : a < n ∧ (f a).f0 = x) (s : Int) (hs : 0 ≤ s) (hst : s < 1099511627776) (hy : y < 1099511627776 → b < n ∧ (f b).f0 = y) (hy2 : y ≤ 1099511627776) :
    lev n (turnF f a b tf) s = if x ≤ s ∧ s < y then wth (tf (lev n f s)) else lev n f s := by
  obtain ⟨q, hq⟩ := h.plc s hs
  rw [lev_plc hq, lev_plc (turnF_plc hq)]
  have e1 : (a ≤ q) ↔ (x ≤ s) := by
    constructor
    · intro h1
      have := hq.le
      have := ha.hi q h1 hq.lt
      omega
    · intro h1
      refine Nat.le_of_not_lt fun h2 => ?_
      have := hq.hi a h2 hx.1
      omega
  have e2 : (q < b) ↔ (s < y) := by
    constructor
    · intro h1
      rcases Int.lt_or_le y 1099511627776 with h2 | h2
      · obtain ⟨h3, h4⟩ := hy h2
        have := hq.hi b h1 h3
        omega
      · omega
    · intro h1
      refine Nat.lt_of_not_le fun h2 => ?_
      have := hb.hi q h2 hq.lt
      have := hq.le
      omega
  unfold turnF
  simp only [e1, e2]
  split <;> rfl
end Go.Proofs.Ytaeifdmabkjoiaa.PPU

/- Insert of one step, all its roads; what a call leaves that writes one Steps. -/
namespace Go.Proofs.Ytaeifdmabkjoiaa.PPU
open Go.RowKit Go.Proofs.YtaeifdmabkjoiaaW.PrintWords Go.Proofs.YtaeifdmabkjoiaaW.PrintLast Go.Proofs.YtaeifdmabkjoiaaW.PrintMore
set_option linter.unusedVariables false
set_option linter.unusedSimpArgs false

theorem gb_any {w w' : World} (h : w.grownBy w' none) (row : Option Nat) : w.grownBy w' row := ⟨h.os, h.tape, h.output, h.size, fun j hj _ => h.block j hj (fun e => by cases e)⟩
theorem gb_row {w w' : World} {g n cap : Nat} {f : Nat → S67} (h : w.grownBy w' none) (hR : RowF w g n cap f) : RowF w' g n cap f := by
  obtain ⟨a1, cur, a2, a3, a4⟩ := hR
  exact ⟨a1, cur, by rw [h.block g (blk_lt a2) (fun e => by cases e)]; exact a2, a3, a4⟩
theorem insert_calls (g n cap i v : Nat) (f : Nat → S67) (x : S67) (w : World) (hR : RowF w g n cap f) (hi : i ≤ n) (hbig : n ≤ 2000) (hc63 : cap ≤ 9223372036854775807) (hv : w.heap[v]? = some (.cells #[.int .i64 x.f0, .int .i64 x.f1] 67 (0, 0))) (hne : v ≠ g) :
    Calls Try.prog 65 #[.slice (some ⟨g, 0, none⟩) n cap, .int .i64 i, .slice (some ⟨v, 0, none⟩) 1 1] w fun e w' => ∃ g' cap', e = .returned (.slice (some ⟨g', 0, none⟩) (n + 1) cap') ∧ cap' ≤ 9223372036854775807 ∧ RowF w' g' (n + 1) cap' (insF f i x) ∧ (g' = g ∨ g' = w.heap.size) ∧ w.grownBy w' (some g) ∧ (∀ k, k < i → w'.cell? ⟨g, k * 2, none⟩ = some (.int .i64 (f k).f0) ∧ w'.cell? ⟨g, k * 2 + 1, none⟩ = some (.int .i64 (f k).f1)) := by
  have lo : ∀ {w' : World} {m cap' : Nat}, i < m → RowF w' g m cap' (insF f i x) → ∀ k, k < i → w'.cell? ⟨g, k * 2, none⟩ = some (.int .i64 (f k).f0) ∧ w'.cell? ⟨g, k * 2 + 1, none⟩ = some (.int .i64 (f k).f1) := fun hm h k hk => by
    have e1 := h.at0 k (by omega)
    have e2 := h.at1 k (by omega)
    rw [insF_lo _ _ _ _ hk] at e1 e2
    exact ⟨e1, e2⟩
  by_cases hroom : n + 1 ≤ cap
  · by_cases h : i = n
    · subst h
      exact (insert_end_room g i cap v f x w hR hroom hc63 hv).mono fun e w' ⟨h1, h2, h3⟩ => ⟨g, cap, h1, hc63, h2, .inl rfl, h3, lo (by omega) h2⟩
    · exact (insert_shift g n cap i v f x w hR (by omega) hroom hc63 hv hne).mono fun e w' ⟨h1, h2, h3⟩ => ⟨g, cap, h1, hc63, h2, .inl rfl, h3, lo (by omega) h2⟩
  · by_cases h : i = n
    · subst h
      exact (insert_end_grow g i cap v f x w hR (by omega) hbig hv).mono fun e w' ⟨cap', h1, h2, h3, h4⟩ => ⟨_, cap', h1, h2, h3, .inr rfl, gb_any h4 _, fun k hk => ⟨(gb_row h4 hR).at0 k (by omega), (gb_row h4 hR).at1 k (by omega)⟩⟩
    · exact (insert_grow g n cap i v f x w hR (by omega) (by omega) hbig hv).mono fun e w' ⟨cap', h1, h2, h3, h4⟩ => ⟨_, cap', h1, h2, h3, .inr rfl, gb_any h4 _, fun k hk => ⟨(gb_row h4 hR).at0 k (by omega), (gb_row h4 hR).at1 k (by omega)⟩⟩

/-- w' is w but for new blocks and for blocks p and g. -/
structure Kp (w w' : World) (p g : Nat) : Prop where
  os : w'.os = w.os
  tape : w'.tape = w.tape
  output : w'.output = w.output
  size : w.heap.size ≤ w'.heap.size
  block : ∀ j, j < w.heap.size → j ≠ p → j ≠ g → w'.heap[j]? = w.heap[j]?
section
variable {w w1 w2 : World} {p g g1 : Nat}
theorem Kp.refl (w : World) (p g : Nat) : Kp w w p g := ⟨rfl, rfl, rfl, Nat.le_refl _, fun _ _ _ _ => rfl⟩
theorem Kp.trans (h1 : Kp w w1 p g) (h2 : Kp w1 w2 p g1) (hg : g1 = g ∨ w.heap.size ≤ g1) : Kp w w2 p g :=
  ⟨h2.os.trans h1.os, h2.tape.trans h1.tape, h2.output.trans h1.output, Nat.le_trans h1.size h2.size, fun j hj hp hg2 => by
    rw [h2.block j (Nat.lt_of_lt_of_le hj h1.size) hp (by rcases hg with h | h <;> omega)]
    exact h1.block j hj hp hg2⟩
theorem Kp.below (h1 : Kp w w1 p g) (h2 : Below w1.heap.size w1 w2) : Kp w w2 p g :=
  ⟨h2.os.trans h1.os, h2.tape.trans h1.tape, h2.output.trans h1.output, Nat.le_trans h1.size h2.size, fun j hj hp hg2 => by
    rw [h2.block j (Nat.lt_of_lt_of_le hj h1.size)]
    exact h1.block j hj hp hg2⟩
theorem Kp.of_below (h2 : Below w.heap.size w w2) (p g : Nat) : Kp w w2 p g := (Kp.refl w p g).below h2
theorem Kp.grown (h1 : Kp w w1 p g) (h2 : w1.grownBy w2 (some g1)) (hg : g1 = g ∨ w.heap.size ≤ g1) : Kp w w2 p g :=
  ⟨h2.os.trans h1.os, h2.tape.trans h1.tape, h2.output.trans h1.output, Nat.le_trans h1.size h2.size, fun j hj hp hg2 => by
    rw [h2.block j (Nat.lt_of_lt_of_le hj h1.size) (fun e => by have := Option.some.inj e; rcases hg with h | h <;> omega)]
    exact h1.block j hj hp hg2⟩
theorem Kp.drew (h1 : Kp w w1 p g) : Kp w w1.drew p g := ⟨h1.os, h1.tape, h1.output, h1.size, h1.block⟩
theorem Kp.set (h1 : Kp w w1 p g) (a : Addr) (v : Value) (ha : a.block = p ∨ a.block = g) : Kp w (w1.setCell a v) p g :=
  ⟨h1.os, h1.tape, h1.output, by simpa [World.setCell] using h1.size, fun j hj hp hg2 => by
    rw [Below.heap_setCell _ _ _ _ (by rcases ha with h | h <;> omega)]
    exact h1.block j hj hp hg2⟩
/-- From a base on all is the call's own. -/
theorem Kp.toBelow (h : Kp w w1 p g) (B : Nat) (hB : B ≤ w.heap.size) (hp : B ≤ p) (hg : B ≤ g) : Below B w w1 :=
  ⟨h.os, h.tape, h.output, h.size, fun j hj => h.block j (by omega) (by omega) (by omega)⟩
/-- Another Steps stays. -/
theorem Kp.is {p2 g2 cap n : Nat} {f : Nat → S67} (h : Kp w w1 p g) (hI : Is w p2 g2 cap n f) (h1 : p2 ≠ p) (h2 : p2 ≠ g) (h3 : g2 ≠ p) (h4 : g2 ≠ g) : Is w1 p2 g2 cap n f := by
  refine ⟨by rw [h.block p2 hI.lt h1 h2]; exact hI.hd, ?_, hI.ne, hI.mx⟩
  obtain ⟨a1, cur, a2, a3, a4⟩ := hI.row
  exact ⟨a1, cur, by rw [h.block g2 (blk_lt a2) h3 h4]; exact a2, a3, a4⟩
/-- A Steps has another row now. -/
theorem Is.stored {p g n cap g2 n2 cap2 : Nat} {f f2 : Nat → S67} (hI : Is w p g cap n f) (hb : w.grownBy w1 (some g)) (hR : RowF w1 g2 n2 cap2 f2) (hne : p ≠ g2) (hc : cap2 ≤ 9223372036854775807) : Is (w1.setCell ⟨p, 0, none⟩ (.slice (some ⟨g2, 0, none⟩) n2 cap2)) p g2 cap2 n2 f2 := by
  have h1 : w1.heap[p]? = some (.cells #[.slice (some ⟨g, 0, none⟩) n cap] 58 (0, 0)) := by
    rw [hb.block p hI.lt (fun e => hI.ne (Option.some.inj e))]
    exact hI.hd
  refine ⟨blk_set h1 0 _, ?_, hne, hc⟩
  obtain ⟨a1, cur, a2, a3, a4⟩ := hR
  exact ⟨a1, cur, by rw [Below.heap_setCell _ _ _ _ (fun e => hne e.symm)]; exact a2, a3, a4⟩
end
end Go.Proofs.Ytaeifdmabkjoiaa.PPU
