/- Add, Set, At, Forget, Clone, List, Flat, by the level at each time. -/
import Derived.Test.YtaeifdmabkjoiaaA4
/- The contracts of Add, Set, At and Forget, by the level at each time. -/
namespace Go.Proofs.Ytaeifdmabkjoiaa.PPU
open Go.RowKit Go.Proofs.YtaeifdmabkjoiaaW.PrintWords Go.Proofs.YtaeifdmabkjoiaaW.PrintLast Go.Proofs.YtaeifdmabkjoiaaW.PrintMore
set_option linter.unusedVariables false
set_option linter.unusedSimpArgs false

/-- Block p is a Steps, its row in block g; its levels are those of L, and it has at most N steps. -/
def St (w : World) (p g N : Nat) (L : Int → Int) : Prop := ∃ cap n f, Is w p g cap n f ∧ Wf n f ∧ n ≤ N ∧ ∀ s, 0 ≤ s → s < 1099511627776 → lev n f s = L s
theorem St.below {w w' : World} {p g N : Nat} {L : Int → Int} (h : St w p g N L) (hb : Below w.heap.size w w') : St w' p g N L := by
  obtain ⟨cap, n, f, h1, h2⟩ := h
  exact ⟨cap, n, f, h1.below hb, h2⟩
theorem St.ne {w : World} {p g N : Nat} {L : Int → Int} (h : St w p g N L) : p ≠ g := by obtain ⟨cap, n, f, h1, h2⟩ := h; exact h1.ne
theorem St.lt {w : World} {p g N : Nat} {L : Int → Int} (h : St w p g N L) : p < w.heap.size := by obtain ⟨cap, n, f, h1, h2⟩ := h; exact h1.lt
theorem St.glt {w : World} {p g N : Nat} {L : Int → Int} (h : St w p g N L) : g < w.heap.size := by obtain ⟨cap, n, f, h1, h2⟩ := h; exact h1.row.lt
theorem St.kp {w w' : World} {p g p2 g2 N : Nat} {L : Int → Int} (h : St w p2 g2 N L) (hk : Kp w w' p g) (h1 : p2 ≠ p) (h2 : p2 ≠ g) (h3 : g2 ≠ p) (h4 : g2 ≠ g) : St w' p2 g2 N L := by
  obtain ⟨cap, n, f, h5, h6⟩ := h
  exact ⟨cap, n, f, hk.is h5 h1 h2 h3 h4, h6⟩
theorem St.mono {w : World} {p g N M : Nat} {L : Int → Int} (h : St w p g N L) (hM : N ≤ M) : St w p g M L := by
  obtain ⟨cap, n, f, h1, h2, h3, h4⟩ := h
  exact ⟨cap, n, f, h1, h2, by omega, h4⟩
theorem St.congr {w : World} {p g N : Nat} {L L' : Int → Int} (h : St w p g N L) (e : ∀ s, 0 ≤ s → s < 1099511627776 → L s = L' s) : St w p g N L' := by
  obtain ⟨cap, n, f, h1, h2, h3, h4⟩ := h
  exact ⟨cap, n, f, h1, h2, h3, fun s a b => (h4 s a b).trans (e s a b)⟩
theorem St.bd {w : World} {p g N : Nat} {L : Int → Int} (h : St w p g N L) (s : Int) (h0 : 0 ≤ s) (h1 : s < 1099511627776) : -1000000 ≤ L s ∧ L s ≤ 1000000 := by
  obtain ⟨cap, n, f, _, h2, _, h4⟩ := h
  rw [← h4 s h0 h1]
  exact h2.toWf0.lvl s h0
/-- By how much a level may change at most. -/
def cl2 (y : Int) : Int := mx (-2000000) (mn y 2000000)
theorem cl2_bd (y : Int) : -2000000 ≤ cl2 y ∧ cl2 y ≤ 2000000 := by unfold cl2 mx mn; (repeat' split) <;> omega
theorem cl2_max (y : Int) : max (-2000000) (min y 2000000) = cl2 y := by unfold cl2 mx mn; (repeat' split) <;> omega
def addL (L : Int → Int) (a b y : Int) (s : Int) : Int := if clp a ≤ s ∧ s < clp b then wth (L s + cl2 y) else L s
def setL (L : Int → Int) (a b y : Int) (s : Int) : Int := if clp a ≤ s ∧ s < clp b then wth y else L s

set_option maxHeartbeats 4000000 in
set_option maxRecDepth 100000 in
theorem add_c (p g N : Nat) (L : Int → Int) (a b y : Int) (w : World) (hS : St w p g N L) (hN : N ≤ 1000) :
    Calls Try.prog 19 #[ptrV p, .agg #[.int .i64 a, .int .i64 b], .int .i64 y] w fun e w' => e = .returned (.int .i64 0) ∧ ∃ g', St w' p g' (N + 2) (addL L a b y) ∧ (g' = g ∨ w.heap.size ≤ g') ∧ Kp w w' p g := by
  have HS := Aside0.mk hS
  have hpl := hS.lt
  have hgl := hS.glt
  have hu25 := Try.underlying25
  have hcl := cl2_max y
  clear hS
  go_enter Try.func19, Try.ntmps19
  go_wp2_with fail
  obtain ⟨cap, n, f, hI, hW, hn, hL⟩ := HS.out
  have HL := Aside0.mk hL
  have hb0 : Below w.heap.size w ((w.alloc (.cells #[.int .i64 a, .int .i64 b] 25 (0, 0))).alloc (.cells #[.int .i64 (cl2 y)] 3 (0, 0))) := ((Below.refl _ w).alloc (Nat.le_refl _) _).alloc (by simp) _
  refine (turn_calls53 p g cap n f a b (w.heap.size + 1) (cl2 y) (fun x => x + cl2 y) _ (hI.below hb0) hW (by omega) (by
    have := heap_alloc_new (w.alloc (.cells #[.int .i64 a, .int .i64 b] 25 (0, 0))) (.cells #[.int .i64 (cl2 y)] 3 (0, 0))
    simpa using this) (by omega) (by omega) (fun x w' hx hc => add1_calls _ _ x w' hc (cl2_bd y) hx)).mono ?_
  rintro e w2 ⟨rfl, g2, cap2, n2, f2, h1, h2, h3, h4, h5, h6⟩
  have HK := Aside0.mk (show Kp w w2 p g from (Kp.of_below hb0 p g).trans h6 (.inl rfl))
  have HG := Aside0.mk (show g2 = g ∨ w.heap.size ≤ g2 from h5.imp id (fun h => Nat.le_trans hb0.size h))
  have HS2 := Aside0.mk (show St w2 p g2 (N + 2) (addL L a b y) from ⟨cap2, n2, f2, h1, h2, by omega, fun s hs hst => by
    unfold addL
    rw [h4 s hs hst, HL.out s hs hst]⟩)
  clear h1 h2 h3 h4 h5 h6 hI hW hL hb0 hcl
  go_wp2_with fail
  go_ret
  exact ⟨rfl, g2, HS2.out, HG.out, HK.out⟩
set_option maxHeartbeats 4000000 in
set_option maxRecDepth 100000 in
theorem set_c (p g N : Nat) (L : Int → Int) (a b y : Int) (w : World) (hS : St w p g N L) (hN : N ≤ 1000) :
    Calls Try.prog 24 #[ptrV p, .agg #[.int .i64 a, .int .i64 b], .int .i64 y] w fun e w' => e = .returned (.int .i64 0) ∧ ∃ g', St w' p g' (N + 2) (setL L a b y) ∧ (g' = g ∨ w.heap.size ≤ g') ∧ Kp w w' p g := by
  have HS := Aside0.mk hS
  have hpl := hS.lt
  have hgl := hS.glt
  have hu25 := Try.underlying25
  clear hS
  go_enter Try.func24, Try.ntmps24
  go_wp2_with fail
  obtain ⟨cap, n, f, hI, hW, hn, hL⟩ := HS.out
  have HL := Aside0.mk hL
  have hb0 : Below w.heap.size w ((w.alloc (.cells #[.int .i64 a, .int .i64 b] 25 (0, 0))).alloc (.cells #[.int .i64 (y)] 3 (0, 0))) := ((Below.refl _ w).alloc (Nat.le_refl _) _).alloc (by simp) _
  refine (turn_calls56 p g cap n f a b (w.heap.size + 1) (y) (fun _ => y) _ (hI.below hb0) hW (by omega) (by
    have := heap_alloc_new (w.alloc (.cells #[.int .i64 a, .int .i64 b] 25 (0, 0))) (.cells #[.int .i64 (y)] 3 (0, 0))
    simpa using this) (by omega) (by omega) (fun x w' hx hc => set1_calls _ _ x w' hc)).mono ?_
  rintro e w2 ⟨rfl, g2, cap2, n2, f2, h1, h2, h3, h4, h5, h6⟩
  have HK := Aside0.mk (show Kp w w2 p g from (Kp.of_below hb0 p g).trans h6 (.inl rfl))
  have HG := Aside0.mk (show g2 = g ∨ w.heap.size ≤ g2 from h5.imp id (fun h => Nat.le_trans hb0.size h))
  have HS2 := Aside0.mk (show St w2 p g2 (N + 2) (setL L a b y) from ⟨cap2, n2, f2, h1, h2, by omega, fun s hs hst => by
    unfold setL
    rw [h4 s hs hst, HL.out s hs hst]⟩)
  clear h1 h2 h3 h4 h5 h6 hI hW hL hb0
  go_wp2_with fail
  go_ret
  exact ⟨rfl, g2, HS2.out, HG.out, HK.out⟩
set_option maxHeartbeats 4000000 in
set_option maxRecDepth 100000 in
theorem at_c (p g N : Nat) (L : Int → Int) (t : Int) (w : World) (hS : St w p g N L) (hN : N ≤ 2000) :
    Calls Try.prog 12 #[ptrV p, .int .i64 t] w fun e w' => e = .returned (.int .i64 (L (mn (clp t) 1099511627775))) ∧ Below w.heap.size w w' := by
  obtain ⟨cap, n, f, hI, hW, hn, hL⟩ := hS
  have HI := Aside0.mk hI
  have HW := Aside0.mk hW
  have HL := Aside0.mk hL
  have hca := clp_bd t
  have hp := hW.pos
  clear hI hW hL
  go_enter Try.func12, Try.ntmps12
  go_wp2_with fail
  refine (none_calls p g cap n f _ HI.out hp).mono ?_
  rintro e w1 ⟨rfl, hb1⟩
  have HB1 := Aside0.mk hb1
  have HI1 := Aside0.mk (HI.out.below hb1)
  have hpl := HI1.out.lt
  have hgl := HI1.out.row.lt
  clear hb1
  have c0 := HI1.out.cell
  go_wp2_with fail
  have KS : Aside0 (∀ w2, Below w1.heap.size w1 w2 → w2.cell? ⟨p, 0, none⟩ = some (.slice (some ⟨g, 0, none⟩) n cap)) := ⟨fun w2 hb => (hb.cell (p := ⟨p, 0, none⟩) hpl).trans c0⟩
  go_region_with (first
    | ((with_reducible refine (clamp_c _ _).mono ?_); rintro e w2 ⟨rfl, hb⟩; have HBa := Aside0.mk (show Below w1.heap.size w1 w2 from (Below.refl _ w1).drew.trans hb); have c2 := KS.out _ HBa.out; clear hb)
    | ((with_reducible refine (place_calls p g cap n f (clp t) _ (HI1.out.below HBa.out) ⟨hp, by omega⟩ HW.out.rise HW.out.zero hca).mono ?_); rintro e w3 ⟨q, rfl, hq, hb⟩; have HBb := Aside0.mk (show Below w1.heap.size w1 w3 from below_step HBa.out hb); have c3 := KS.out _ HBb.out; have HQ := Aside0.mk hq; have hqn := hq.lt; have hb3 : (0 : Int) ≤ (q : Int) := (by omega); have hb4 : (q : Int) < (n : Int) := (by omega); have r1 := (HI1.out.below HBb.out).row.at1 q hqn; clear hb hq))
  all_goals
    go_wp2_with fail
    go_ret
    refine ⟨ret_i ?_, HB1.out.trans (HBb.out.mono HB1.out.size)⟩
    have hm : 0 ≤ mn (clp t) 1099511627775 ∧ mn (clp t) 1099511627775 < 1099511627776 := by unfold mn; split <;> omega
    rw [← HL.out _ hm.1 hm.2]
    refine (lev_plc ⟨hqn, ?_, fun k h1 h2 => ?_⟩).symm
    · have h3 := HQ.out.le
      have h4 := HW.out.top q hqn
      unfold mn
      split <;> omega
    · have h3 := HQ.out.hi k h1 h2
      unfold mn
      split <;> omega
end Go.Proofs.Ytaeifdmabkjoiaa.PPU

/- The contracts of slices.Clone over steps, List, Clone, Flat and Forget. -/
namespace Go.Proofs.Ytaeifdmabkjoiaa.PPU
open Go.RowKit Go.Proofs.YtaeifdmabkjoiaaW.PrintWords Go.Proofs.YtaeifdmabkjoiaaW.PrintLast Go.Proofs.YtaeifdmabkjoiaaW.PrintMore
set_option linter.unusedVariables false
set_option linter.unusedSimpArgs false

theorem new2 (w : World) (o1 o2 : Obj) : ((w.alloc o1).alloc o2).heap[w.heap.size + 1]? = some o2 := by
  have h := heap_alloc_new (w.alloc o1) o2
  have e : (w.alloc o1).heap.size = w.heap.size + 1 := by simp
  rwa [e] at h
theorem new1 (w : World) (o1 o2 : Obj) : ((w.alloc o1).alloc o2).heap[w.heap.size]? = some o1 := blk_alloc (blk_new w o1) o2
def listF (n : Nat) (f : Nat → S67) : List S67 := (List.range n).map f
theorem listF_len (n : Nat) (f : Nat → S67) : (listF n f).length = n := by simp [listF]
theorem listF_get (n : Nat) (f : Nat → S67) (j : Nat) (h : j < n) : (listF n f)[j]? = some (f j) := by simp [listF, h]
theorem listF_at (n : Nat) (f : Nat → S67) (j : Nat) (h : j < n) : at67 (listF n f) j = f j := by unfold at67; rw [List.getD_eq_getElem?_getD, listF_get n f j h]; rfl
theorem RowF.kd {w : World} {g n cap : Nat} {f : Nat → S67} (h : RowF w g n cap f) (hn : n ≤ 9223372036854775807) : Kd.C k67 w (some ⟨g, 0, none⟩) n (listF n f) := by
  refine ⟨listF_len n f, hn, fun _ => ⟨_, rfl, fun j p hp => ?_⟩⟩
  have hj : j < n := by have := (List.getElem?_eq_some_iff.1 hp).1; rwa [listF_len] at this
  rw [listF_get n f j hj] at hp
  obtain rfl := Option.some.inj hp
  refine ⟨[.int .i64 (f j).f0, .int .i64 (f j).f1], rfl, k67_mk w _, fun i u hu => ?_⟩
  rw [add_plain]
  rcases i with _ | _ | i
  · obtain rfl := Option.some.inj hu
    exact h.at0 j hj
  · obtain rfl := Option.some.inj hu
    exact h.at1 j hj
  · simp at hu
theorem kd_cells {w : World} {ad : Addr} {n : Nat} {xs : List S67} (h : Kd.C k67 w (some ad) n xs) (j : Nat) (hj : j < n * 2) : w.cell? (ad.add j) = some (cellOf (at67 xs) j) := by
  obtain ⟨hl, hm, hc⟩ := h
  obtain ⟨ad', e, hc⟩ := hc (by omega)
  obtain rfl := Option.some.inj e
  have hk : j / 2 < xs.length := by omega
  obtain ⟨c, h1, h2, h3⟩ := hc (j / 2) _ (List.getElem?_eq_getElem hk)
  obtain rfl := k67_open h2
  have e1 : at67 xs (j / 2) = xs[j / 2] := by unfold at67; rw [List.getD_eq_getElem?_getD, List.getElem?_eq_getElem hk]; rfl
  rcases Nat.mod_two_eq_zero_or_one j with e2 | e2
  · have := h3 0 _ rfl
    unfold cellOf
    rw [if_pos e2, e1, ← this]
    congr 2
    show j = j / 2 * 2 + 0
    omega
  · have := h3 1 _ rfl
    unfold cellOf
    rw [if_neg (by omega), e1, ← this]
    congr 2
    show j = j / 2 * 2 + 1
    omega
theorem Is.drop {w : World} {p g cap n : Nat} {f : Nat → S67} (h : Is w p g cap n f) (hn : n ≤ 2000) : Kd.C k67 w (some ⟨g, 0, none⟩) n (listF n f) := h.row.kd (by omega)

set_option maxHeartbeats 4000000 in
set_option maxRecDepth 100000 in
theorem sclone_c (ad : Addr) (c n : Nat) (xs : List S67) (w : World) (h : Kd.C k67 w (some ad) n xs) (h0 : 0 < n) (hn : n ≤ 2000) :
    Calls Try.prog 54 #[.slice (some ad) n c] w fun e w' => ∃ g' cap', e = .returned (.slice (some ⟨g', 0, none⟩) n cap') ∧ RowF w' g' n cap' (at67 xs) ∧ w.heap.size ≤ g' ∧ cap' ≤ 9223372036854775807 ∧ Below w.heap.size w w' := by
  obtain ⟨i0, hi0, hz0, hzs, hzb⟩ := info_parts info67
  obtain ⟨W0, hW0⟩ : ∃ W0, W0 = w.alloc (.cells #[] 67 (0, 0)) := ⟨_, rfl⟩
  have hb0 : Below w.heap.size w W0 := by rw [hW0]; exact (Below.refl _ w).alloc (Nat.le_refl _) _
  have hs0 : W0.heap.size = w.heap.size + 1 := by rw [hW0]; simp
  have h' : Kd.C k67 W0 (some ad) n xs := Kd.C_below h hb0
  have hsrc : Src Try.prog i0.size 56 (.slice (some ad) n c) n (rowL (at67 xs) 0 n) W0 := by
    rw [hzs]
    exact Src.ofSlice W0 Try.underlying56 ad n c (rowL (at67 xs) 0 n) (rowL_len _ _ _) (fun j u hj => by
      obtain ⟨h1, rfl⟩ := rowL_get _ _ _ _ _ hj
      rw [kd_cells h' j h1, Nat.zero_mul, Nat.zero_add]) (rowL_one _ _ _)
  have hold : (Builtin.firstCells i0.size 0 (.slice (some ⟨w.heap.size, 0, none⟩) 0 0)).run Try.prog W0.drew = .ok ([] : List Value).toArray W0.drew := by
    rw [hzs]
    exact run_firstCells_some W0.drew 2 0 ⟨w.heap.size, 0, none⟩ 0 0 [] (by simp) (fun j u hj => by simp at hj)
  have hrun : ∀ ty, (Builtin.append_ #[56, 56] ty #[.slice (some ⟨w.heap.size, 0, none⟩) 0 0, .slice (some ad) n c]).run Try.prog W0 = _ := fun ty =>
    run_append_grow_src W0 56 56 ty 67 i0 _ Try.underlying56 hi0 hz0 (some ⟨w.heap.size, 0, none⟩) 0 0 [] hold _ n (rowL (at67 xs) 0 n) hsrc (by omega) (by omega) (by rw [hzb]; exact growslice_fits (by omega) (by omega))
  obtain ⟨G, hG⟩ : ∃ G, G = grownCap W0 (0 + n) 0 67 := ⟨_, rfl⟩
  have hG1 : n ≤ G := by
    have := grownCap_ge W0 (0 + n) 0 67
    omega
  have hG63 : G ≤ 9223372036854775807 := by
    have := grownCap_le_maxLen W0 (0 + n) 0 67 (by unfold maxLen; omega)
    rw [← hG] at this
    unfold maxLen at this
    omega
  rw [← hG] at hrun
  obtain ⟨ROW, hROW⟩ : ∃ ROW : Array Value, ROW = ([] ++ rowL (at67 xs) 0 n).toArray ++ Builtin.zeroCells (Value.agg #[.int .i64 0, .int .i64 0]).cells (G - (0 + n)) := ⟨_, rfl⟩
  rw [← hROW] at hrun
  have hRs : ROW.size = G * 2 := by
    rw [hROW]
    simp [size_zeroCells, rowL_len, Value.cells]
    omega
  have hRc : ∀ j, j < n * 2 → ROW[j]? = some (cellOf (at67 xs) j) := fun j hj => by
    rw [hROW, Array.getElem?_append_left (by simp [rowL_len]; omega)]
    simp only [List.getElem?_toArray, List.nil_append]
    rw [rowL_at _ _ _ _ hj, Nat.zero_mul, Nat.zero_add]
  have HRs := Aside0.mk hRs
  have HRc := Aside0.mk hRc
  have HG := Aside0.mk hG63
  have HW0 := Aside0.mk hW0
  clear hRs hRc hROW hG hold hsrc h' h
  subst hW0
  have HB0 := Aside0.mk hb0
  clear hs0 hb0
  rw [Nat.zero_add] at hrun
  have hnil : ∀ W, (binOp .eql 56 (.slice (some ad) n c) (.slice none 0 0)).run Try.prog W = .ok (.bool false) W := fun W => Lib.run_eql_slice_nil W 56 67 (some ad) n c 0 0 Try.underlying56
  go_enter Try.func54, Try.ntmps54
  go_wp2_with (at_builtin; refine Lib.wpList_append_run _ rfl _ _ _ _ rfl _ _ rfl rfl _ _ (hrun _) ?_)
  go_ret
  refine ⟨_, G, rfl, RowF.of_cells hG1 (new2 w _ _) HRs.out HRc.out, by omega, HG.out, ((HB0.out).alloc (by simp) _).drew⟩
set_option maxHeartbeats 4000000 in
set_option maxRecDepth 100000 in
theorem list_c (p g N : Nat) (L : Int → Int) (w : World) (hS : St w p g N L) (hN : N ≤ 2000) :
    Calls Try.prog 25 #[ptrV p] w fun e w' => ∃ g' cap' n f, e = .returned (.slice (some ⟨g', 0, none⟩) n cap') ∧ RowF w' g' n cap' f ∧ w.heap.size ≤ g' ∧ cap' ≤ 9223372036854775807 ∧ Wf n f ∧ n ≤ N ∧ (∀ s, 0 ≤ s → s < 1099511627776 → lev n f s = L s) ∧ Below w.heap.size w w' := by
  obtain ⟨cap, n, f, hI, hW, hn, hL⟩ := hS
  have HI := Aside0.mk hI
  have HW := Aside0.mk hW
  have HL := Aside0.mk hL
  have hp := hW.pos
  clear hI hW hL
  go_enter Try.func25, Try.ntmps25
  go_wp2_with fail
  refine (none_calls p g cap n f _ HI.out hp).mono ?_
  rintro e w1 ⟨rfl, hb1⟩
  have HB1 := Aside0.mk hb1
  have HI1 := Aside0.mk (HI.out.below hb1)
  have c0 := HI1.out.cell
  clear hb1
  go_wp2_with fail
  refine (sclone_c _ cap n (listF n f) _ (HI1.out.row.kd (by omega)) hp (by omega)).mono ?_
  rintro e w2 ⟨g2, cap2, rfl, h1, h2, h3, h4⟩
  have HD := Aside0.mk (And.intro h1 (And.intro h2 (And.intro h3 h4)))
  clear h1 h2 h3 h4
  go_wp2_with fail
  go_ret
  obtain ⟨h1, h2, h3, h4⟩ := HD.out
  exact ⟨g2, cap2, n, f, rfl, h1.congr (fun k hk => listF_at n f k hk), Nat.le_trans HB1.out.size h2, h3, HW.out, hn, HL.out, below_step HB1.out h4⟩
set_option maxHeartbeats 4000000 in
set_option maxRecDepth 100000 in
theorem clone_c (p g N : Nat) (L : Int → Int) (w : World) (hS : St w p g N L) (hN : N ≤ 2000) :
    Calls Try.prog 21 #[ptrV p] w fun e w' => ∃ p2 g2, e = .returned (ptrV p2) ∧ St w' p2 g2 N L ∧ w.heap.size ≤ p2 ∧ w.heap.size ≤ g2 ∧ Below w.heap.size w w' := by
  obtain ⟨cap, n, f, hI, hW, hn, hL⟩ := hS
  have HI := Aside0.mk hI
  have HW := Aside0.mk hW
  have HL := Aside0.mk hL
  have hp := hW.pos
  clear hI hW hL
  go_enter Try.func21, Try.ntmps21
  go_wp2_with fail
  refine (none_calls p g cap n f _ HI.out hp).mono ?_
  rintro e w1 ⟨rfl, hb1⟩
  have HB1 := Aside0.mk hb1
  have HI1 := Aside0.mk (HI.out.below hb1)
  have c0 := HI1.out.cell
  clear hb1
  go_wp2_with fail
  refine (sclone_c _ cap n (listF n f) _ (HI1.out.row.kd (by omega)) hp (by omega)).mono ?_
  rintro e w2 ⟨g2, cap2, rfl, h1, h2, h3, h4⟩
  have HD := Aside0.mk (And.intro h1 (And.intro h2 (And.intro h3 h4)))
  clear h1 h2 h3 h4
  go_wp2_with fail
  go_ret
  obtain ⟨h1, h2, h3, h4⟩ := HD.out
  have hb : Below w.heap.size w w2 := below_step HB1.out h4
  have hb3 : Below w2.heap.size w2 (w2.alloc (.cells #[.slice (some ⟨g2, 0, none⟩) n cap2] 58 (0, 0))) := (Below.refl _ w2).alloc (Nat.le_refl _) _
  have hg2 := h1.lt
  refine ⟨w2.heap.size, g2, rfl, ⟨cap2, n, f, ⟨heap_alloc_new w2 _, (h1.congr (fun k hk => listF_at n f k hk)).below hb3, by omega, h3⟩, HW.out, hn, HL.out⟩, hb.size, Nat.le_trans HB1.out.size h2, below_step hb hb3⟩
set_option maxHeartbeats 4000000 in
set_option maxRecDepth 100000 in
theorem flat_c (x : Int) (w : World) :
    Calls Try.prog 18 #[.int .i64 x] w fun e w' => ∃ p g, e = .returned (ptrV p) ∧ St w' p g 1 (fun _ => wth x) ∧ w.heap.size ≤ p ∧ w.heap.size ≤ g ∧ Below w.heap.size w w' := by
  go_enter Try.func18, Try.ntmps18
  go_wp2_with ((with_reducible refine (within_q _ _).mono ?_); rintro e w1 ⟨rfl, rfl⟩)
  go_ret
  have hb : Below w1.heap.size w1 ((w1.alloc (.cells #[.int .i64 0, .int .i64 (wth x)] 67 (0, 0))).alloc (.cells #[.slice (some ⟨w1.heap.size, 0, none⟩) 1 1] 58 (0, 0))) := ((Below.refl _ w1).alloc (Nat.le_refl _) _).alloc (by simp) _
  have hwf : Wf 1 (fun _ => ⟨0, wth x⟩) := ⟨⟨by omega, rfl, fun i j h1 h2 => by omega, fun i hi => by show (0 : Int) < 1099511627776; omega, fun i hi => wth_bd x⟩, fun i hi => by omega⟩
  refine ⟨w1.heap.size + 1, w1.heap.size, rfl, ⟨1, 1, fun _ => ⟨0, wth x⟩, ⟨new2 w1 _ _, ⟨Nat.le_refl _, _, new1 w1 _ _, rfl, fun k hk => ?_⟩, by omega, by omega⟩, hwf, Nat.le_refl _, fun s h1 h2 => ?_⟩, by omega, Nat.le_refl _, hb⟩
  · obtain rfl : k = 0 := by omega
    exact ⟨rfl, rfl⟩
  · have : Plc 1 (fun _ => (⟨0, wth x⟩ : S67)) s 0 := ⟨by omega, h1, fun k h3 h4 => by omega⟩
    exact lev_plc this
def forL (L : Int → Int) (t : Int) (s : Int) : Int := if t < 1099511627776 ∧ s < clp t then L (clp t) else L s
set_option maxHeartbeats 4000000 in
set_option maxRecDepth 100000 in
theorem forget_c (p g N : Nat) (L : Int → Int) (t : Int) (w : World) (hS : St w p g N L) (hN : N ≤ 1000) :
    Calls Try.prog 23 #[ptrV p, .int .i64 t] w fun e w' => e = .returned (.int .i64 0) ∧ ∃ g', St w' p g' (N + 2) (forL L t) ∧ (g' = g ∨ w.heap.size ≤ g') ∧ Kp w w' p g := by
  have HS := Aside0.mk hS
  have hbd := fun s h0 h1 => hS.bd s h0 h1
  have HBD := Aside0.mk hbd
  clear hS hbd
  by_cases ht : 1099511627776 ≤ t
  · go_enter Try.func23, Try.ntmps23
    go_wp2_with fail
    refine (at_c p g N L 0 _ HS.out (by omega)).mono ?_
    rintro e w1 ⟨rfl, hb⟩
    have HB := Aside0.mk hb
    clear hb
    go_wp2_with fail
    refine (set_c p g N L 0 0 _ _ (HS.out.below HB.out) hN).mono ?_
    rintro e w2 ⟨rfl, g2, h1, h2, h3⟩
    have HD := Aside0.mk (And.intro h1 (And.intro h2 h3))
    clear h1 h2 h3
    go_wp2_with fail
    go_ret
    obtain ⟨h1, h2, h3⟩ := HD.out
    refine ⟨rfl, g2, h1.congr (fun s h4 h5 => ?_), h2.imp id (fun h => Nat.le_trans HB.out.size h), (Kp.of_below HB.out p g).trans h3 (.inl rfl)⟩
    unfold setL forL
    rw [if_neg (by unfold clp mx mn; (repeat' split) <;> omega), if_neg (by omega)]
  · have hcl : mn (clp t) 1099511627775 = clp t := by unfold clp mn mx; (repeat' split) <;> omega
    have hc0 : clp t < 1099511627776 := by unfold clp mn mx; (repeat' split) <;> omega
    have hc1 := (clp_bd t).1
    have HCL := Aside0.mk hcl
    clear hcl
    go_enter Try.func23, Try.ntmps23
    go_wp2_with fail
    refine (at_c p g N L t _ HS.out (by omega)).mono ?_
    rintro e w1 ⟨rfl, hb⟩
    have HB := Aside0.mk hb
    clear hb
    rw [HCL.out]
    obtain ⟨y, hy⟩ : ∃ y, y = L (clp t) := ⟨_, rfl⟩
    rw [← hy]
    have HY := Aside0.mk hy
    clear hy
    go_wp2_with fail
    refine (set_c p g N L 0 t y _ (HS.out.below HB.out) hN).mono ?_
    rintro e w2 ⟨rfl, g2, h1, h2, h3⟩
    have HD := Aside0.mk (And.intro h1 (And.intro h2 h3))
    clear h1 h2 h3
    go_wp2_with fail
    go_ret
    obtain ⟨h1, h2, h3⟩ := HD.out
    refine ⟨rfl, g2, h1.congr (fun s h4 h5 => ?_), h2.imp id (fun h => Nat.le_trans HB.out.size h), (Kp.of_below HB.out p g).trans h3 (.inl rfl)⟩
    have e0 : clp 0 = 0 := by unfold clp mx mn; (repeat' split) <;> omega
    have hw := HBD.out (clp t) hc1 hc0
    have e1 : wth y = L (clp t) := by
      rw [HY.out]
      unfold wth mx mn
      (repeat' split) <;> omega
    unfold setL forL
    rw [e0, e1]
    by_cases h6 : s < clp t
    · rw [if_pos ⟨h4, h6⟩, if_pos ⟨by omega, h6⟩]
    · rw [if_neg (by omega), if_neg (by omega)]
end Go.Proofs.Ytaeifdmabkjoiaa.PPU

/- What each step's piece of a span is; the contract of Cut. -/
namespace Go.Proofs.Ytaeifdmabkjoiaa.PPU
open Go.RowKit Go.Proofs.YtaeifdmabkjoiaaW.PrintWords Go.Proofs.YtaeifdmabkjoiaaW.PrintLast Go.Proofs.YtaeifdmabkjoiaaW.PrintMore
set_option linter.unusedVariables false
set_option linter.unusedSimpArgs false

/-- Where step k ends. -/
def enF (n : Nat) (f : Nat → S67) (k : Nat) : Int := if k + 1 < n then (f (k + 1)).f0 else 1099511627776
/-- The part of a span that step k has. -/
def plo (a : Int) (f : Nat → S67) (k : Nat) : Int := mx (clp a) (f k).f0
def phi (b : Int) (n : Nat) (f : Nat → S67) (k : Nat) : Int := mn (clp b) (enF n f k)
theorem enF_bd {n : Nat} {f : Nat → S67} (h : Wf0 n f) (k : Nat) (hk : k < n) : (f k).f0 < enF n f k ∧ enF n f k ≤ 1099511627776 := by
  unfold enF
  split
  · rename_i h1
    exact ⟨h.lt k (k + 1) (by omega) h1, by have := h.top (k + 1) h1; omega⟩
  · exact ⟨h.top k hk, Int.le_refl _⟩
theorem clp_id {x : Int} (h0 : 0 ≤ x) (h1 : x ≤ 1099511627776) : clp x = x := by unfold clp mx mn; (repeat' split) <;> omega
theorem plo_bd {n : Nat} {f : Nat → S67} (h : Wf0 n f) (a : Int) (k : Nat) (hk : k < n) : 0 ≤ plo a f k ∧ plo a f k ≤ 1099511627776 := by
  have h1 := clp_bd a
  have h2 := h.low k hk
  have h3 := h.top k hk
  unfold plo mx
  split <;> omega
theorem phi_bd {n : Nat} {f : Nat → S67} (h : Wf0 n f) (b : Int) (k : Nat) (hk : k < n) : 0 ≤ phi b n f k ∧ phi b n f k ≤ 1099511627776 := by
  have h1 := clp_bd b
  have h2 := h.low k hk
  have h3 := enF_bd h k hk
  unfold phi mn
  split <;> omega
theorem ecut_f (a b d : Int) (n : Nat) (f : Nat → S67) (k : Nat) (hd : d = enF n f k) : mx (clp a) (f k).f0 = plo a f k ∧ mn (clp b) d = phi b n f k := by
  subst hd
  exact ⟨rfl, rfl⟩
theorem tcut_f (a b c d : Int) (hc : 0 ≤ c ∧ c ≤ 1099511627776) (hd : 0 ≤ d ∧ d ≤ 1099511627776) : tick_Span_Cut.f a b c d = some (if mx (clp a) c < mn (clp b) d then (mx (clp a) c, mn (clp b) d) else (0, 0)) := by
  have e1 : ∀ x, tick_Clamp.f x = some (clp x) := fun _ => rfl
  have e2 : ∀ x y, tick_Span_clean.f x y = some (clp x, clp y) := fun x y => by unfold tick_Span_clean.f; rw [e1, e1]; rfl
  have ha := clp_bd a
  have hb := clp_bd b
  have h3 : 0 ≤ mx (clp a) c ∧ mx (clp a) c ≤ 1099511627776 := by unfold mx; split <;> omega
  have h4 : 0 ≤ mn (clp b) d ∧ mn (clp b) d ≤ 1099511627776 := by unfold mn; split <;> omega
  unfold tick_Span_Cut.f
  rw [e2, e2]
  simp only [Option.bind_some]
  unfold tick_Span_Empty.f
  rw [clp_id hc.1 hc.2, clp_id hd.1 hd.2, e2, clp_id h3.1 h3.2, clp_id h4.1 h4.2]
  simp only [Option.bind_some]
  by_cases h : mx (clp a) c < mn (clp b) d
  · rw [if_pos h, if_neg (by simpa using h)]
  · rw [if_neg h, if_pos (by simpa using h)]
theorem tcut_yes (a b c d : Int) (w : World) (hc : 0 ≤ c ∧ c ≤ 1099511627776) (hd : 0 ≤ d ∧ d ≤ 1099511627776) (h : mx (clp a) c < mn (clp b) d) : Calls Try.prog 62 #[.agg #[.int .i64 a, .int .i64 b], .agg #[.int .i64 c, .int .i64 d]] w fun e w' => e = .returned (.agg #[.int .i64 (mx (clp a) c), .int .i64 (mn (clp b) d)]) ∧ Below w.heap.size w w' :=
  tick_Span_Cut.calls a b c d _ _ w (by rw [tcut_f a b c d hc hd, if_pos h])
theorem tcut_no (a b c d : Int) (w : World) (hc : 0 ≤ c ∧ c ≤ 1099511627776) (hd : 0 ≤ d ∧ d ≤ 1099511627776) (h : ¬ mx (clp a) c < mn (clp b) d) : Calls Try.prog 62 #[.agg #[.int .i64 a, .int .i64 b], .agg #[.int .i64 c, .int .i64 d]] w fun e w' => e = .returned (.agg #[.int .i64 0, .int .i64 0]) ∧ Below w.heap.size w w' :=
  tick_Span_Cut.calls a b c d _ _ w (by rw [tcut_f a b c d hc hd, if_neg h])
theorem ecut_yes (a b d : Int) (n : Nat) (f : Nat → S67) (k : Nat) (w : World) (hd : d = enF n f k) (hc : (0 ≤ (f k).f0 ∧ (f k).f0 ≤ 1099511627776) ∧ 0 ≤ enF n f k ∧ enF n f k ≤ 1099511627776) (h : plo a f k < phi b n f k) : Calls Try.prog 62 #[.agg #[.int .i64 a, .int .i64 b], .agg #[.int .i64 (f k).f0, .int .i64 d]] w fun e w' => e = .returned (.agg #[.int .i64 (plo a f k), .int .i64 (phi b n f k)]) ∧ Below w.heap.size w w' := by
  subst hd
  exact tcut_yes a b _ _ w hc.1 hc.2 h
theorem ecut_no (a b d : Int) (n : Nat) (f : Nat → S67) (k : Nat) (w : World) (hd : d = enF n f k) (hc : (0 ≤ (f k).f0 ∧ (f k).f0 ≤ 1099511627776) ∧ 0 ≤ enF n f k ∧ enF n f k ≤ 1099511627776) (h : ¬ plo a f k < phi b n f k) : Calls Try.prog 62 #[.agg #[.int .i64 a, .int .i64 b], .agg #[.int .i64 (f k).f0, .int .i64 d]] w fun e w' => e = .returned (.agg #[.int .i64 0, .int .i64 0]) ∧ Below w.heap.size w w' := by
  subst hd
  exact tcut_no a b _ _ w hc.1 hc.2 h
end Go.Proofs.Ytaeifdmabkjoiaa.PPU
