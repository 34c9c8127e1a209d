/- plain and turn. -/
import Derived.Test.YtaeifdmabkjoiaaA3
/- The contracts of plain and of the closures that turn a level. -/
namespace Go.Proofs.Ytaeifdmabkjoiaa.PPU
open Go.RowKit Go.Proofs.YtaeifdmabkjoiaaW.PrintWords Go.Proofs.YtaeifdmabkjoiaaW.PrintLast Go.Proofs.YtaeifdmabkjoiaaW.PrintMore
set_option linter.unusedVariables false
set_option linter.unusedSimpArgs false

set_option maxHeartbeats 4000000 in
set_option maxRecDepth 100000 in
theorem plain_calls (p g cap n : Nat) (f : Nat → S67) (w : World) (hI : Is w p g cap n f) (hW : Wf0 n f) (hn : n ≤ 2000) :
    Calls Try.prog 64 #[ptrV p] w fun e w' => ∃ n' f', e = .returned (.tuple #[]) ∧ Is w' p g cap n' f' ∧ Comp n f n' f' ∧ Kp w w' p g := by
  have HI := Aside0.mk hI
  have HW := Aside0.mk hW
  have c0 := hI.cell
  have hpg := hI.ne
  have hpl := hI.lt
  have fz := blk_frozen hI.hd 0
  have hgs : ∀ w', w.grownBy w' (some g) → w'.cell? ⟨p, 0, none⟩ = some (.slice (some ⟨g, 0, none⟩) n cap) ∧ w'.frozen? ⟨p, 0, none⟩ = false := fun w' hb2 =>
    have hd2 := hb2.block p hpl (fun e => hpg (Option.some.inj e))
    ⟨(World.cell?_of_block (a := ⟨p, 0, none⟩) hd2).trans c0, (World.frozen?_of_block (a := ⟨p, 0, none⟩) hd2).trans fz⟩
  have HGS := Aside0.mk hgs
  clear hI hW hgs
  go_enter Try.func64, Try.ntmps64
  go_wp2_with fail
  refine (compact_calls g cap n f _ HI.out.row HW.out hn).mono ?_
  rintro e w2 ⟨n2, f2, rfl, hR2, hC2, hb2⟩
  have c2 := (HGS.out _ hb2).1
  have f2z := (HGS.out _ hb2).2
  have HD := Aside0.mk (And.intro hR2 (And.intro hC2 hb2))
  clear hR2 hC2 hb2
  go_wp2_with fail
  obtain ⟨hR2, hC2, hb2⟩ := HD.out
  go_end0
  exact ⟨n2, f2, rfl, HI.out.stored hb2 hR2 hpg HI.out.mx, hC2, ((Kp.refl w p g).grown hb2 (.inl rfl)).set _ _ (.inl rfl)⟩
theorem add1_calls (b : Nat) (by_ x : Int) (w : World) (hc : w.cell? ⟨b, 0, none⟩ = some (.int .i64 by_)) (h1 : -2000000 ≤ by_ ∧ by_ ≤ 2000000) (h2 : -1000000 ≤ x ∧ x ≤ 1000000) :
    Calls Try.prog 53 #[.int .i64 x, .pointer (some ⟨b, 0, none⟩)] w fun e w' => e = .returned (.int .i64 (x + by_)) ∧ w' = w := by
  obtain ⟨h1a, h1b⟩ := h1
  obtain ⟨h2a, h2b⟩ := h2
  go_enter Try.func53, Try.ntmps53
  go_wp2_with fail
  go_ret
  exact ⟨rfl, rfl⟩
theorem set1_calls (b : Nat) (v x : Int) (w : World) (hc : w.cell? ⟨b, 0, none⟩ = some (.int .i64 v)) :
    Calls Try.prog 56 #[.int .i64 x, .pointer (some ⟨b, 0, none⟩)] w fun e w' => e = .returned (.int .i64 v) ∧ w' = w := by
  go_enter Try.func56, Try.ntmps56
  go_wp2_with fail
  go_ret
  exact ⟨rfl, rfl⟩
end Go.Proofs.Ytaeifdmabkjoiaa.PPU

/- The contract of turn. -/
namespace Go.Proofs.Ytaeifdmabkjoiaa.PPU
open Go.RowKit Go.Proofs.YtaeifdmabkjoiaaW.PrintWords Go.Proofs.YtaeifdmabkjoiaaW.PrintLast Go.Proofs.YtaeifdmabkjoiaaW.PrintMore
set_option linter.unusedVariables false
set_option linter.unusedSimpArgs false

/-- The nearest time. -/
def clp (t : Int) : Int := mx 0 (mn t 1099511627776)
theorem clp_bd (t : Int) : 0 ≤ clp t ∧ clp t ≤ 1099511627776 := by unfold clp mx mn; (repeat' split) <;> omega
theorem clamp_c (a : Int) (w : World) : Calls Try.prog 20 #[.int .i64 a] w fun e w' => e = .returned (.int .i64 (clp a)) ∧ Below w.heap.size w w' := tick_Clamp.calls a _ w rfl
theorem within_c (a : Int) (w : World) : Calls Try.prog 51 #[.int .i64 a] w fun e w' => e = .returned (.int .i64 (wth a)) ∧ Below w.heap.size w w' := usage_within.calls a _ w rfl
theorem ret_i {a b : Int} (h : a = b) : Ending.returned (.int .i64 a) = Ending.returned (.int .i64 b) := by rw [h]
theorem within_q (a : Int) (w : World) : Calls Try.prog 51 #[.int .i64 a] w fun e w' => e = .returned (.int .i64 (wth a)) ∧ w' = w := by
  go_enter Try.func51, Try.ntmps51
  go_wp2_with fail
  go_ret
  exact ⟨ret_i (by unfold wth mx mn; (repeat' split) <;> omega), rfl⟩
theorem empty_c (a b : Int) (w : World) : Calls Try.prog 28 #[.agg #[.int .i64 a, .int .i64 b]] w fun e w' => e = .returned (.bool (decide (clp a ≥ clp b))) ∧ Below w.heap.size w w' := tick_Span_Empty.calls a b _ w rfl
theorem empty_yes (a b : Int) (w : World) (h : clp b ≤ clp a) : Calls Try.prog 28 #[.agg #[.int .i64 a, .int .i64 b]] w fun e w' => e = .returned (.bool true) ∧ Below w.heap.size w w' := by
  have := empty_c a b w
  rw [show decide (clp a ≥ clp b) = true from decide_eq_true h] at this
  exact this
theorem empty_no (a b : Int) (w : World) (h : ¬ clp b ≤ clp a) : Calls Try.prog 28 #[.agg #[.int .i64 a, .int .i64 b]] w fun e w' => e = .returned (.bool false) ∧ Below w.heap.size w w' := by
  have := empty_c a b w
  rw [show decide (clp a ≥ clp b) = false from decide_eq_false h] at this
  exact this
/-- The level of a step is another one. -/
theorem RowF.put1 {w : World} {g n cap : Nat} {f : Nat → S67} (h : RowF w g n cap f) (k : Nat) (hk : k < n) (y : Int) : RowF (w.setCell ⟨g, k * 2 + 1, none⟩ (.int .i64 y)) g n cap (updF f k ⟨(f k).f0, y⟩) := by
  obtain ⟨h1, cur, h2, h3, h4⟩ := h
  refine ⟨h1, _, blk_set h2 _ _, by simpa using h3, fun j hj => ?_⟩
  have hs : k * 2 + 1 < cur.size := by omega
  obtain ⟨e0, e1⟩ := h4 j hj
  by_cases hjk : j = k
  · subst hjk
    rw [updF_eq]
    exact ⟨by rw [Array.getElem?_setIfInBounds_ne (by omega)]; exact e0, by rw [Array.getElem?_setIfInBounds_self_of_lt hs]⟩
  · rw [updF_ne _ _ _ _ hjk]
    exact ⟨by rw [Array.getElem?_setIfInBounds_ne (by omega)]; exact e0, by rw [Array.getElem?_setIfInBounds_ne (by omega)]; exact e1⟩
theorem Kp.set2 {w w1 : World} {p g : Nat} (h1 : Kp w w1 p g) (a : Addr) (v : Value) (ha : a.block = p ∨ a.block = g ∨ w.heap.size ≤ a.block) : Kp w (w1.setCell a v) p g :=
  ⟨h1.os, h1.tape, h1.output, by simpa [World.setCell] using h1.size, fun j hj hp hg2 => by
    rw [Below.heap_setCell _ _ _ _ (by rcases ha with h | h | h <;> omega)]
    exact h1.block j hj hp hg2⟩
theorem Is.put1 {w : World} {p g cap n : Nat} {f : Nat → S67} (h : Is w p g cap n f) (k : Nat) (hk : k < n) (y : Int) : Is (w.setCell ⟨g, k * 2 + 1, none⟩ (.int .i64 y)) p g cap n (updF f k ⟨(f k).f0, y⟩) :=
  ⟨by rw [Below.heap_setCell _ _ _ _ h.ne]; exact h.hd, h.row.put1 k hk y, h.ne, h.mx⟩
theorem Is.congr {w : World} {p g cap n : Nat} {f f' : Nat → S67} (h : Is w p g cap n f) (e : ∀ k, k < n → f k = f' k) : Is w p g cap n f' := ⟨h.hd, h.row.congr e, h.ne, h.mx⟩
theorem Is.drew {w : World} {p g cap n : Nat} {f : Nat → S67} (h : Is w p g cap n f) : Is w.drew p g cap n f := ⟨h.hd, h.row, h.ne, h.mx⟩
theorem turnF_succ (f : Nat → S67) (i k : Nat) (tf : Int → Int) (hik : i ≤ k) : ∀ j, updF (turnF f i k tf) k ⟨((turnF f i k tf) k).f0, wth (tf ((turnF f i k tf) k).f1)⟩ j = turnF f i (k + 1) tf j := by
  intro j
  have e : turnF f i k tf k = f k := by unfold turnF; rw [if_neg (by omega)]
  by_cases h : j = k
  · subst h
    rw [updF_eq, e]
    unfold turnF
    rw [if_pos (by omega)]
  · rw [updF_ne _ _ _ _ h]
    unfold turnF
    by_cases h1 : i ≤ j ∧ j < k
    · rw [if_pos h1, if_pos (by omega)]
    · rw [if_neg h1, if_neg (by omega)]
theorem turnF_none (f : Nat → S67) (i : Nat) (tf : Int → Int) : ∀ j, turnF f i i tf j = f j := fun j => by
  unfold turnF
  rw [if_neg (by omega)]

set_option maxHeartbeats 4000000 in
set_option maxRecDepth 100000 in
theorem turn_calls53 (p g cap n : Nat) (f : Nat → S67) (a b : Int) (cb : Nat) (v : Int) (tf : Int → Int) (w : World) (hI : Is w p g cap n f) (hW : Wf n f) (hn : n ≤ 1000) (hcb : w.heap[cb]? = some (.cells #[.int .i64 v] 3 (0, 0))) (hcp : cb ≠ p) (hcg : cb ≠ g)
    (hF : ∀ x w', -1000000 ≤ x ∧ x ≤ 1000000 → w'.cell? ⟨cb, 0, none⟩ = some (.int .i64 v) → Calls Try.prog 53 #[.int .i64 x, .pointer (some ⟨cb, 0, none⟩)] w' fun e w'' => e = .returned (.int .i64 (tf x)) ∧ w'' = w') :
    Calls Try.prog 52 #[ptrV p, .agg #[.int .i64 a, .int .i64 b], .func (.func 53) #[] #[.pointer (some ⟨cb, 0, none⟩)]] w fun e w' => e = .returned (.int .i64 0) ∧ ∃ g' cap' n' f', Is w' p g' cap' n' f' ∧ Wf n' f' ∧ n' ≤ n + 2 ∧ (∀ s, 0 ≤ s → s < 1099511627776 → lev n' f' s = if clp a ≤ s ∧ s < clp b then wth (tf (lev n f s)) else lev n f s) ∧ (g' = g ∨ w.heap.size ≤ g') ∧ Kp w w' p g := by
  have HI := Aside0.mk hI
  have HW := Aside0.mk hW
  have HCB := Aside0.mk hcb
  have HF := Aside0.mk hF
  have hpl := hI.lt
  have hu25 := Try.underlying25
  clear hI hW hcb hF
  go_enter Try.func52, Try.ntmps52
  go_wp2_with fail
  refine (none_calls p g cap n f _ (HI.out.below ((Below.refl _ w).alloc (Nat.le_refl _) _)) HW.out.pos).mono ?_
  rintro e w1 ⟨rfl, hb1⟩
  have BX := blk_below (blk_new w (.cells #[.int .i64 a, .int .i64 b] 25 (0, 0))) hb1
  have q0 : w1.cell? ⟨w.heap.size, 0, none⟩ = some (.int .i64 a) := (blk_cell BX 0).trans rfl
  have q1 : w1.cell? ⟨w.heap.size, 1, none⟩ = some (.int .i64 b) := (blk_cell BX 1).trans rfl
  have HB1 := Aside0.mk (show Below w.heap.size w w1 from below_step ((Below.refl _ w).alloc (Nat.le_refl _) _) hb1)
  have HBX := Aside0.mk BX
  clear BX hb1
  by_cases he : clp b ≤ clp a
  · go_wp2_with (refine (empty_yes a b _ he).mono ?_; rintro e w2 ⟨rfl, hb2⟩)
    go_ret
    refine ⟨rfl, g, cap, n, f, HI.out.below (below_step HB1.out hb2), HW.out, by omega, fun s _ _ => ?_, .inl rfl, Kp.of_below (below_step HB1.out hb2) _ _⟩
    rw [if_neg (by omega)]
  · go_wp2_with fail
    refine (empty_no a b _ (by omega)).mono ?_
    rintro e w2 ⟨rfl, hb2⟩
    have HB2 := Aside0.mk (show Below w.heap.size w w2 from below_step HB1.out hb2)
    have HBX2 := Aside0.mk (blk_below HBX.out hb2)
    clear q0 q1 hb2
    have q0 : w2.cell? ⟨w.heap.size, 0, none⟩ = some (.int .i64 a) := (blk_cell HBX2.out 0).trans rfl
    go_wp2_with fail
    refine (clamp_c a _).mono ?_
    rintro e w3 ⟨rfl, hb3⟩
    have HB3 := Aside0.mk (show Below w.heap.size w w3 from below_step HB2.out hb3)
    have HBX3 := Aside0.mk (blk_below HBX2.out hb3)
    clear q0 hb3
    go_wp2_with fail
    have hlt : clp a < clp b := by omega
    have hca := clp_bd a
    have hcb2 := clp_bd b
    refine (cut_calls p g cap n f (clp a) _ (HI.out.below HB3.out) HW.out.toWf0 (by omega) hca.1 hca.2).mono ?_
    rintro e w4 ⟨g1, cap1, n1, f1, i1, rfl, hI1, hC1, hg1, hk1⟩
    have hgl := HI.out.row.lt
    have HK4 := Aside0.mk ((Kp.of_below HB3.out p g).trans hk1 (.inl rfl))
    have HBX4 := Aside0.mk ((hk1.block w.heap.size (blk_lt HBX3.out) (by omega) (by omega)).trans HBX3.out)
    have HI1 := Aside0.mk hI1
    have HC1 := Aside0.mk hC1
    have HG1 := Aside0.mk (show g1 = g ∨ w.heap.size ≤ g1 from hg1.imp id (fun h => Nat.le_trans HB3.out.size h))
    clear hI1 hC1 hg1 hk1 HI
    have q1 : w4.cell? ⟨w.heap.size, 1, none⟩ = some (.int .i64 b) := (blk_cell HBX4.out 1).trans rfl
    go_wp2_with fail
    refine (clamp_c b _).mono ?_
    rintro e w5 ⟨rfl, hb5⟩
    have HI5 := Aside0.mk (HI1.out.below hb5)
    have HK5 := Aside0.mk (HK4.out.below hb5)
    clear q1 hb5
    go_wp2_with fail
    have hn1 := HC1.out.len
    refine (cut_calls p g1 cap1 n1 f1 (clp b) _ HI5.out HC1.out.wf (by omega) hcb2.1 hcb2.2).mono ?_
    rintro e w6 ⟨g2, cap2, n2, f2, i2, rfl, hI2, hC2, hg2, hk2⟩
    have HI2 := Aside0.mk hI2
    have HC2 := Aside0.mk hC2
    have HG2 := Aside0.mk (show g2 = g ∨ w.heap.size ≤ g2 from by
      rcases hg2 with h | h
      · rw [h]; exact HG1.out
      · exact .inr (Nat.le_trans HK5.out.size h))
    have HK6 := Aside0.mk (HK5.out.trans hk2 HG1.out)
    clear hI2 hC2 hg2 hk2
    have hn2 := HC2.out.len
    obtain ⟨hat1, hat2⟩ := HC1.out.at_ (by omega)
    have HFA := Aside0.mk (HC2.out.keep (clp a) i1 hlt HC1.out.fst hat1 hat2)
    clear hat1 hat2
    have hi12 : i1 ≤ i2 := by
      refine Nat.le_of_not_lt fun h => ?_
      have h1 := HFA.out.1.lo i2 h
      have h2 := HC2.out.fst.hi i2 (Nat.le_refl _) (by have := HFA.out.2.1; omega)
      omega
    have hi2n := HC2.out.fst.le
    have hcl : cb < w.heap.size := blk_lt HCB.out
    go_wp2_with fail
    go_loopg [9] (i2 - i1) (fun kq v9 w' => ∃ k : Nat, i2 - k = kq ∧ v9 = .int .i64 k ∧ Aside0 (i1 ≤ k ∧ k ≤ i2) ∧ Aside0 (Is w' p g2 cap2 n2 (turnF f2 i1 k tf)) ∧ Aside0 (Kp w w' p g))
    case atStart => exact ⟨i1, rfl, rfl, ⟨⟨Nat.le_refl _, hi12⟩⟩, ⟨⟨HI2.out.hd, HI2.out.row.congr (fun k _ => (turnF_none f2 i1 tf k).symm), HI2.out.ne, HI2.out.mx⟩⟩, HK6⟩
    case round =>
      obtain ⟨k, hk, rfl, HKK, HIs, HKp⟩ := hrel
      subst hk
      by_cases hki : k < i2
      · have h1 : decide (k < i2) = true := decide_eq_true hki
        have c0 := HIs.out.cell
        have hkn : k < n2 := by omega
        have r1 := HIs.out.row.at1 k hkn
        have fz := HIs.out.row.fz (k * 2 + 1)
        have cbc : wr.cell? ⟨cb, 0, none⟩ = some (.int .i64 v) := (blk_cell ((HKp.out.block cb hcl hcp hcg).trans HCB.out) 0).trans rfl
        have hb3 : (0 : Int) ≤ (k : Int) := by omega
        have hb4 : (k : Int) < (n2 : Int) := by omega
        have hlv := (turn_wf HC2.out.wf i1 k tf).lv k hkn
        have HLV := Aside0.mk hlv
        clear hlv
        have CBC : Aside0 (wr.drew.cell? ⟨cb, 0, none⟩ = some (.int .i64 v)) := ⟨cbc⟩
        go_wp2_with fail
        go_region_with (first
          | ((with_reducible refine (HF.out _ wr.drew HLV.out CBC.out).mono ?_); rintro e w7 ⟨rfl, rfl⟩)
          | ((with_reducible refine (within_q _ _).mono ?_); rintro e w7 ⟨rfl, rfl⟩))
        all_goals
          go_wp2_with fail
          go_roundg (i2 - (k + 1))
          case measure => omega
          case rel => exact ⟨k + 1, rfl, by go_num, ⟨by have := HKK.out; omega⟩, ⟨((HIs.out.put1 k hkn _).congr (fun j _ => turnF_succ f2 i1 k tf HKK.out.1 j)).drew⟩, ⟨(HKp.out.set2 _ _ (by rcases HG2.out with h | h; exact .inr (.inl h); exact .inr (.inr h))).drew⟩⟩
      · have h1 : decide (k < i2) = false := decide_eq_false hki
        obtain rfl : k = i2 := by have := HKK.out; omega
        go_wp2_with fail
        refine (plain_calls p g2 cap2 n2 _ _ HIs.out (turn_wf HC2.out.wf i1 k tf) (by omega)).mono ?_
        rintro e w8 ⟨n3, f3, rfl, hI3, hC3, hk3⟩
        have HI3 := Aside0.mk hI3
        have HC3 := Aside0.mk hC3
        have HK3 := Aside0.mk (HKp.out.trans hk3 HG2.out)
        clear hI3 hC3 hk3
        go_wp2_with fail
        go_ret
        refine ⟨rfl, g2, cap2, n3, f3, HI3.out, HC3.out.wf, by have := HC3.out.len; omega, fun s hs hst => ?_, HG2.out, HK3.out⟩
        rw [HC3.out.lev s, turn_lev HC2.out.wf HFA.out.1 HC2.out.fst HFA.out.2 s hs hst HC2.out.at_ hcb2.2, HC2.out.lev s hs, HC1.out.lev s hs]
end Go.Proofs.Ytaeifdmabkjoiaa.PPU

/- The contract of turn, with Set's closure. -/
namespace Go.Proofs.Ytaeifdmabkjoiaa.PPU
open Go.RowKit Go.Proofs.YtaeifdmabkjoiaaW.PrintWords Go.Proofs.YtaeifdmabkjoiaaW.PrintLast Go.Proofs.YtaeifdmabkjoiaaW.PrintMore
set_option linter.unusedVariables false
set_option linter.unusedSimpArgs false

set_option maxHeartbeats 4000000 in
set_option maxRecDepth 100000 in
theorem turn_calls56 (p g cap n : Nat) (f : Nat → S67) (a b : Int) (cb : Nat) (v : Int) (tf : Int → Int) (w : World) (hI : Is w p g cap n f) (hW : Wf n f) (hn : n ≤ 1000) (hcb : w.heap[cb]? = some (.cells #[.int .i64 v] 3 (0, 0))) (hcp : cb ≠ p) (hcg : cb ≠ g)
    (hF : ∀ x w', -1000000 ≤ x ∧ x ≤ 1000000 → w'.cell? ⟨cb, 0, none⟩ = some (.int .i64 v) → Calls Try.prog 56 #[.int .i64 x, .pointer (some ⟨cb, 0, none⟩)] w' fun e w'' => e = .returned (.int .i64 (tf x)) ∧ w'' = w') :
    Calls Try.prog 52 #[ptrV p, .agg #[.int .i64 a, .int .i64 b], .func (.func 56) #[] #[.pointer (some ⟨cb, 0, none⟩)]] w fun e w' => e = .returned (.int .i64 0) ∧ ∃ g' cap' n' f', Is w' p g' cap' n' f' ∧ Wf n' f' ∧ n' ≤ n + 2 ∧ (∀ s, 0 ≤ s → s < 1099511627776 → lev n' f' s = if clp a ≤ s ∧ s < clp b then wth (tf (lev n f s)) else lev n f s) ∧ (g' = g ∨ w.heap.size ≤ g') ∧ Kp w w' p g := by
  have HI := Aside0.mk hI
  have HW := Aside0.mk hW
  have HCB := Aside0.mk hcb
  have HF := Aside0.mk hF
  have hpl := hI.lt
  have hu25 := Try.underlying25
  clear hI hW hcb hF
  go_enter Try.func52, Try.ntmps52
  go_wp2_with fail
  refine (none_calls p g cap n f _ (HI.out.below ((Below.refl _ w).alloc (Nat.le_refl _) _)) HW.out.pos).mono ?_
  rintro e w1 ⟨rfl, hb1⟩
  have BX := blk_below (blk_new w (.cells #[.int .i64 a, .int .i64 b] 25 (0, 0))) hb1
  have q0 : w1.cell? ⟨w.heap.size, 0, none⟩ = some (.int .i64 a) := (blk_cell BX 0).trans rfl
  have q1 : w1.cell? ⟨w.heap.size, 1, none⟩ = some (.int .i64 b) := (blk_cell BX 1).trans rfl
  have HB1 := Aside0.mk (show Below w.heap.size w w1 from below_step ((Below.refl _ w).alloc (Nat.le_refl _) _) hb1)
  have HBX := Aside0.mk BX
  clear BX hb1
  by_cases he : clp b ≤ clp a
  · go_wp2_with (refine (empty_yes a b _ he).mono ?_; rintro e w2 ⟨rfl, hb2⟩)
    go_ret
    refine ⟨rfl, g, cap, n, f, HI.out.below (below_step HB1.out hb2), HW.out, by omega, fun s _ _ => ?_, .inl rfl, Kp.of_below (below_step HB1.out hb2) _ _⟩
    rw [if_neg (by omega)]
  · go_wp2_with fail
    refine (empty_no a b _ (by omega)).mono ?_
    rintro e w2 ⟨rfl, hb2⟩
    have HB2 := Aside0.mk (show Below w.heap.size w w2 from below_step HB1.out hb2)
    have HBX2 := Aside0.mk (blk_below HBX.out hb2)
    clear q0 q1 hb2
    have q0 : w2.cell? ⟨w.heap.size, 0, none⟩ = some (.int .i64 a) := (blk_cell HBX2.out 0).trans rfl
    go_wp2_with fail
    refine (clamp_c a _).mono ?_
    rintro e w3 ⟨rfl, hb3⟩
    have HB3 := Aside0.mk (show Below w.heap.size w w3 from below_step HB2.out hb3)
    have HBX3 := Aside0.mk (blk_below HBX2.out hb3)
    clear q0 hb3
    go_wp2_with fail
    have hlt : clp a < clp b := by omega
    have hca := clp_bd a
    have hcb2 := clp_bd b
    refine (cut_calls p g cap n f (clp a) _ (HI.out.below HB3.out) HW.out.toWf0 (by omega) hca.1 hca.2).mono ?_
    rintro e w4 ⟨g1, cap1, n1, f1, i1, rfl, hI1, hC1, hg1, hk1⟩
    have hgl := HI.out.row.lt
    have HK4 := Aside0.mk ((Kp.of_below HB3.out p g).trans hk1 (.inl rfl))
    have HBX4 := Aside0.mk ((hk1.block w.heap.size (blk_lt HBX3.out) (by omega) (by omega)).trans HBX3.out)
    have HI1 := Aside0.mk hI1
    have HC1 := Aside0.mk hC1
    have HG1 := Aside0.mk (show g1 = g ∨ w.heap.size ≤ g1 from hg1.imp id (fun h => Nat.le_trans HB3.out.size h))
    clear hI1 hC1 hg1 hk1 HI
    have q1 : w4.cell? ⟨w.heap.size, 1, none⟩ = some (.int .i64 b) := (blk_cell HBX4.out 1).trans rfl
    go_wp2_with fail
    refine (clamp_c b _).mono ?_
    rintro e w5 ⟨rfl, hb5⟩
    have HI5 := Aside0.mk (HI1.out.below hb5)
    have HK5 := Aside0.mk (HK4.out.below hb5)
    clear q1 hb5
    go_wp2_with fail
    have hn1 := HC1.out.len
    refine (cut_calls p g1 cap1 n1 f1 (clp b) _ HI5.out HC1.out.wf (by omega) hcb2.1 hcb2.2).mono ?_
    rintro e w6 ⟨g2, cap2, n2, f2, i2, rfl, hI2, hC2, hg2, hk2⟩
    have HI2 := Aside0.mk hI2
    have HC2 := Aside0.mk hC2
    have HG2 := Aside0.mk (show g2 = g ∨ w.heap.size ≤ g2 from by
      rcases hg2 with h | h
      · rw [h]; exact HG1.out
      · exact .inr (Nat.le_trans HK5.out.size h))
    have HK6 := Aside0.mk (HK5.out.trans hk2 HG1.out)
    clear hI2 hC2 hg2 hk2
    have hn2 := HC2.out.len
    obtain ⟨hat1, hat2⟩ := HC1.out.at_ (by omega)
    have HFA := Aside0.mk (HC2.out.keep (clp a) i1 hlt HC1.out.fst hat1 hat2)
    clear hat1 hat2
    have hi12 : i1 ≤ i2 := by
      refine Nat.le_of_not_lt fun h => ?_
      have h1 := HFA.out.1.lo i2 h
      have h2 := HC2.out.fst.hi i2 (Nat.le_refl _) (by have := HFA.out.2.1; omega)
      omega
    have hi2n := HC2.out.fst.le
    have hcl : cb < w.heap.size := blk_lt HCB.out
    go_wp2_with fail
    go_loopg [9] (i2 - i1) (fun kq v9 w' => ∃ k : Nat, i2 - k = kq ∧ v9 = .int .i64 k ∧ Aside0 (i1 ≤ k ∧ k ≤ i2) ∧ Aside0 (Is w' p g2 cap2 n2 (turnF f2 i1 k tf)) ∧ Aside0 (Kp w w' p g))
    case atStart => exact ⟨i1, rfl, rfl, ⟨⟨Nat.le_refl _, hi12⟩⟩, ⟨⟨HI2.out.hd, HI2.out.row.congr (fun k _ => (turnF_none f2 i1 tf k).symm), HI2.out.ne, HI2.out.mx⟩⟩, HK6⟩
    case round =>
      obtain ⟨k, hk, rfl, HKK, HIs, HKp⟩ := hrel
      subst hk
      by_cases hki : k < i2
      · have h1 : decide (k < i2) = true := decide_eq_true hki
        have c0 := HIs.out.cell
        have hkn : k < n2 := by omega
        have r1 := HIs.out.row.at1 k hkn
        have fz := HIs.out.row.fz (k * 2 + 1)
        have cbc : wr.cell? ⟨cb, 0, none⟩ = some (.int .i64 v) := (blk_cell ((HKp.out.block cb hcl hcp hcg).trans HCB.out) 0).trans rfl
        have hb3 : (0 : Int) ≤ (k : Int) := by omega
        have hb4 : (k : Int) < (n2 : Int) := by omega
        have hlv := (turn_wf HC2.out.wf i1 k tf).lv k hkn
        have HLV := Aside0.mk hlv
        clear hlv
        have CBC : Aside0 (wr.drew.cell? ⟨cb, 0, none⟩ = some (.int .i64 v)) := ⟨cbc⟩
        go_wp2_with fail
        go_region_with (first
          | ((with_reducible refine (HF.out _ wr.drew HLV.out CBC.out).mono ?_); rintro e w7 ⟨rfl, rfl⟩)
          | ((with_reducible refine (within_q _ _).mono ?_); rintro e w7 ⟨rfl, rfl⟩))
        all_goals
          go_wp2_with fail
          go_roundg (i2 - (k + 1))
          case measure => omega
          case rel => exact ⟨k + 1, rfl, by go_num, ⟨by have := HKK.out; omega⟩, ⟨((HIs.out.put1 k hkn _).congr (fun j _ => turnF_succ f2 i1 k tf HKK.out.1 j)).drew⟩, ⟨(HKp.out.set2 _ _ (by rcases HG2.out with h | h; exact .inr (.inl h); exact .inr (.inr h))).drew⟩⟩
      · have h1 : decide (k < i2) = false := decide_eq_false hki
        obtain rfl : k = i2 := by have := HKK.out; omega
        go_wp2_with fail
        refine (plain_calls p g2 cap2 n2 _ _ HIs.out (turn_wf HC2.out.wf i1 k tf) (by omega)).mono ?_
        rintro e w8 ⟨n3, f3, rfl, hI3, hC3, hk3⟩
        have HI3 := Aside0.mk hI3
        have HC3 := Aside0.mk hC3
        have HK3 := Aside0.mk (HKp.out.trans hk3 HG2.out)
        clear hI3 hC3 hk3
        go_wp2_with fail
        go_ret
        refine ⟨rfl, g2, cap2, n3, f3, HI3.out, HC3.out.wf, by have := HC3.out.len; omega, fun s hs hst => ?_, HG2.out, HK3.out⟩
        rw [HC3.out.lev s, turn_lev HC2.out.wf HFA.out.1 HC2.out.fst HFA.out.2 s hs hst HC2.out.at_ hcb2.2, HC2.out.lev s hs, HC1.out.lev s hs]
end Go.Proofs.Ytaeifdmabkjoiaa.PPU
