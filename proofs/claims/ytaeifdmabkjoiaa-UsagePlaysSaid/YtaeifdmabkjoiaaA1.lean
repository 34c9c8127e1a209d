/- Rows of steps in memory; BinarySearchFunc, none, place; copy and clear of two-cell elements. -/
import Derived.Test.YtaeifdmabkjoiaaP2
import Derived.IntWalk
import Derived.Test.YtaeifdmabkjoiaaP9
import Derived.Laws.IdiomCopy
import Derived.Lib.SliceRun
import Derived.Lib.Overlaps
import Derived.Laws.Externs
import Derived.WalkKit
/- Rows of steps as functions of their places. -/
namespace Go.Proofs.Ytaeifdmabkjoiaa.PPU
open Go.RowKit Go.Proofs.YtaeifdmabkjoiaaW.PrintWords Go.Proofs.YtaeifdmabkjoiaaW.PrintLast Go.Proofs.YtaeifdmabkjoiaaW.PrintMore
set_option linter.unusedVariables false
set_option linter.unusedSimpArgs false

theorem gb_drew (w : World) (row : Option Nat) : w.grownBy w.drew row := ⟨rfl, rfl, rfl, Nat.le_refl _, fun _ _ _ => rfl⟩
theorem gb_set (w : World) (g i : Nat) (v : Value) : w.grownBy (w.setCell ⟨g, i, none⟩ v) (some g) :=
  ⟨rfl, rfl, rfl, by simp [World.setCell], fun j hj hne => Below.heap_setCell w _ v j (fun e => hne (by rw [e]))⟩

/-- Block g holds the items f 0, f 1, .. in its first n places. -/
def RowF (w : World) (g n cap : Nat) (f : Nat → S67) : Prop :=
  n ≤ cap ∧ ∃ cur : Array Value, w.heap[g]? = some (.cells cur 67 (0, 0)) ∧ cur.size = cap * 2 ∧ ∀ k, k < n → cur[k * 2]? = some (.int .i64 (f k).f0) ∧ cur[k * 2 + 1]? = some (.int .i64 (f k).f1)
section
variable {w w' : World} {g n cap : Nat} {f f' : Nat → S67}
theorem RowF.congr (h : RowF w g n cap f) (e : ∀ k, k < n → f k = f' k) : RowF w g n cap f' := by
  obtain ⟨h1, cur, h2, h3, h4⟩ := h
  exact ⟨h1, cur, h2, h3, fun k hk => by rw [← e k hk]; exact h4 k hk⟩
theorem RowF.at0 (h : RowF w g n cap f) (k : Nat) (hk : k < n) : w.cell? ⟨g, k * 2, none⟩ = some (.int .i64 (f k).f0) := by
  obtain ⟨h1, cur, h2, h3, h4⟩ := h
  exact (blk_cell h2 _).trans (h4 k hk).1
theorem RowF.at1 (h : RowF w g n cap f) (k : Nat) (hk : k < n) : w.cell? ⟨g, k * 2 + 1, none⟩ = some (.int .i64 (f k).f1) := by
  obtain ⟨h1, cur, h2, h3, h4⟩ := h
  exact (blk_cell h2 _).trans (h4 k hk).2
theorem RowF.fz (h : RowF w g n cap f) (k : Nat) : w.frozen? ⟨g, k, none⟩ = false := by
  obtain ⟨h1, cur, h2, h3, h4⟩ := h
  exact blk_frozen h2 k
theorem RowF.lt (h : RowF w g n cap f) : g < w.heap.size := by
  obtain ⟨h1, cur, h2, h3, h4⟩ := h
  exact blk_lt h2
theorem RowF.below (h : RowF w g n cap f) (hb : Below w.heap.size w w') : RowF w' g n cap f := by
  obtain ⟨h1, cur, h2, h3, h4⟩ := h
  exact ⟨h1, cur, blk_below h2 hb, h3, h4⟩
theorem RowF.put (h : RowF w g n cap f) (k : Nat) (hk : k < n) (x : S67) : RowF ((w.setCell ⟨g, k * 2, none⟩ (.int .i64 x.f0)).setCell ⟨g, k * 2 + 1, none⟩ (.int .i64 x.f1)) g n cap (fun j => if j = k then x else f j) := by
  obtain ⟨h1, cur, h2, h3, h4⟩ := h
  refine ⟨h1, _, blk_set (blk_set h2 _ _) _ _, by simpa using h3, fun j hj => ?_⟩
  have hs : k * 2 + 1 < cur.size := by omega
  obtain ⟨e0, e1⟩ := h4 j hj
  by_cases hjk : j = k
  · subst hjk
    simp only [if_true]
    constructor
    · rw [Array.getElem?_setIfInBounds_ne (by omega), Array.getElem?_setIfInBounds_self_of_lt (by omega)]
    · rw [Array.getElem?_setIfInBounds_self_of_lt (by simpa using hs)]
  · simp only [if_neg hjk]
    constructor
    · rw [Array.getElem?_setIfInBounds_ne (by omega), Array.getElem?_setIfInBounds_ne (by omega)]; exact e0
    · rw [Array.getElem?_setIfInBounds_ne (by omega), Array.getElem?_setIfInBounds_ne (by omega)]; exact e1
end
theorem gb_below {w w1 : World} (h : Below w.heap.size w w1) (row : Option Nat) : w.grownBy w1 row := ⟨h.os, h.tape, h.output, h.size, fun i hi _ => h.block i hi⟩
def at67 (l : List S67) (k : Nat) : S67 := l.getD k z67
end Go.Proofs.Ytaeifdmabkjoiaa.PPU

/- The contract of BinarySearchFunc over steps. -/
namespace Go.Proofs.Ytaeifdmabkjoiaa.PPU
open Go.RowKit Go.Proofs.YtaeifdmabkjoiaaW.PrintWords Go.Proofs.YtaeifdmabkjoiaaW.PrintLast Go.Proofs.YtaeifdmabkjoiaaW.PrintMore
set_option linter.unusedVariables false
set_option linter.unusedSimpArgs false

/-- The steps rise in time, and all their times are times. -/
structure Rise (n : Nat) (f : Nat → S67) : Prop where
  lt : ∀ i j, i < j → j < n → (f i).f0 < (f j).f0
  bd : ∀ i, i < n → 0 ≤ (f i).f0 ∧ (f i).f0 ≤ 1099511627776
/-- i is the place of the first step that is not ahead of t. -/
structure Fst (n : Nat) (f : Nat → S67) (t : Int) (i : Nat) : Prop where
  le : i ≤ n
  lo : ∀ k, k < i → (f k).f0 < t
  hi : ∀ k, i ≤ k → k < n → t ≤ (f k).f0
theorem Rise.le {n : Nat} {f : Nat → S67} (h : Rise n f) (i j : Nat) (hij : i ≤ j) (hj : j < n) : (f i).f0 ≤ (f j).f0 := by
  rcases Nat.lt_or_ge i j with h1 | h1
  · have := h.lt i j h1 hj; omega
  · obtain rfl : i = j := by omega
    exact Int.le_refl _
abbrev placeV : Value := .func (.func 60) #[] #[]

/-- What the function that is handed over tells of a step. -/
def sgn (a t : Int) : Int := if a < t then -1 else if a = t then 0 else 1
theorem sgn_neg {a t : Int} : sgn a t < 0 ↔ a < t := by unfold sgn; (repeat' split) <;> omega
theorem sgn_zero {a t : Int} : sgn a t = 0 ↔ a = t := by unfold sgn; (repeat' split) <;> omega
theorem place_is (x : S67) (t : Int) (hx : 0 ≤ x.f0 ∧ x.f0 ≤ 1099511627776) (ht : 0 ≤ t ∧ t ≤ 1099511627776) : usage_Steps_placeC1.f x.f0 x.f1 t = some (sgn x.f0 t) := by
  unfold usage_Steps_placeC1.f sgn mx mn
  rw [IntWalk.wrap64_in _ (by omega)]
  congr 1
  (repeat' split) <;> omega
theorem place1_calls (x : S67) (t : Int) (w : World) (hx : 0 ≤ x.f0 ∧ x.f0 ≤ 1099511627776) (ht : 0 ≤ t ∧ t ≤ 1099511627776) :
    Calls Try.prog 60 #[.agg #[.int .i64 x.f0, .int .i64 x.f1], .int .i64 t] w fun e w' => e = .returned (.int .i64 (sgn x.f0 t)) ∧ Below w.heap.size w w' :=
  usage_Steps_placeC1.calls x.f0 x.f1 t _ w (place_is x t hx ht)

set_option maxHeartbeats 2000000 in
set_option maxRecDepth 100000 in
theorem bsearch_calls (g n cap : Nat) (f : Nat → S67) (t : Int) (w : World) (hn : n < 1099511627776) (hR : RowF w g n cap f) (hS : Rise n f) (ht : 0 ≤ t ∧ t ≤ 1099511627776) :
    Calls Try.prog 59 #[.slice (some ⟨g, 0, none⟩) n cap, .int .i64 t, placeV] w fun e w' => ∃ i : Nat, e = .returned (.tuple #[.int .i64 i, .bool (decide (i < n ∧ (f i).f0 = t))]) ∧ Fst n f t i ∧ Below w.heap.size w w' := by
  have HR := Aside0.mk hR
  have HS := Aside0.mk hS
  have HT := Aside0.mk ht
  have HN := Aside0.mk hn
  have hu67 := Try.underlying67
  clear hR hS ht hn
  go_enter Try.func59, Try.ntmps59
  go_wp2_with fail
  go_loopg [9, 10] n (fun kq v9 v10 w' => ∃ i j : Nat, j - i = kq ∧ v9 = .int .i64 i ∧ v10 = .int .i64 j ∧ Aside0 (i ≤ j ∧ j ≤ n) ∧ Aside0 (∀ k, k < i → (f k).f0 < t) ∧ Aside0 (∀ k, j ≤ k → k < n → t ≤ (f k).f0) ∧ Aside0 (Below w.heap.size w w'))
  case atStart => exact ⟨0, n, by omega, rfl, rfl, ⟨by omega⟩, ⟨fun k hk => absurd hk (Nat.not_lt_zero _)⟩, ⟨fun k h1 h2 => by omega⟩, ⟨.refl _ _⟩⟩
  case round =>
    obtain ⟨i, j, hk, rfl, rfl, HIJ, HLO, HHI, HB⟩ := hrel
    by_cases hij : i < j
    · have h1 : decide (i < j) = true := decide_eq_true hij
      obtain ⟨h, hh⟩ : ∃ h, h = (i + j) / 2 := ⟨_, rfl⟩
      have hhe : ((i : Int) + (j : Int)) / 2 = (h : Int) := by omega
      have hin : i < 1099511627776 := by have := HIJ.out; have := HN.out; omega
      have hjn : j < 1099511627776 := by have := HIJ.out; have := HN.out; omega
      have hih : i ≤ h := by omega
      have hhj : h < j := by omega
      have hhn : h < n := by have := HIJ.out; omega
      have c0 := (HR.out.below HB.out).at0 h hhn
      have c1 := (HR.out.below HB.out).at1 h hhn
      clear hh
      go_wp2_with (refine (place1_calls (f h) t _ (HS.out.bd h hhn) HT.out).mono ?_; rintro e w1 ⟨rfl, hb⟩)
      · rename_i hlt
        have HLT := Aside0.mk (sgn_neg.1 hlt)
        have HB2 := Aside0.mk (below_step HB.out hb)
        clear hlt hb hhe
        go_roundg (j - (h + 1))
        case measure => omega
        case rel => exact ⟨h + 1, j, rfl, by go_num, rfl, ⟨by have := HIJ.out; omega⟩, ⟨fun k h1 => by
          have h2 := HS.out.le k h (by omega) hhn
          have h3 := HLT.out
          omega⟩, HHI, HB2⟩
      · rename_i hlt
        have HLT := Aside0.mk (show t ≤ (f h).f0 from by
          refine Int.not_lt.1 (fun h1 => ?_)
          have := sgn_neg.2 h1
          omega)
        have HB2 := Aside0.mk (below_step HB.out hb)
        clear hlt hb hhe
        go_roundg (h - i)
        case measure => omega
        case rel => exact ⟨i, h, rfl, rfl, rfl, ⟨by have := HIJ.out; omega⟩, HLO, ⟨fun k h1 h2 => by
          have h3 := HS.out.le h k h1 h2
          have h4 := HLT.out
          omega⟩, HB2⟩
    · obtain rfl : i = j := by have := HIJ.out; omega
      have h1 : decide (i < i) = false := decide_eq_false hij
      by_cases hin : i < n
      · have h2 : decide (i < n) = true := decide_eq_true hin
        have c0 := (HR.out.below HB.out).at0 i hin
        have c1 := (HR.out.below HB.out).at1 i hin
        go_wp2_with (refine (place1_calls (f i) t _ (HS.out.bd i hin) HT.out).mono ?_; rintro e w1 ⟨rfl, hb⟩)
        have HB2 := Aside0.mk (below_step HB.out hb)
        clear hb
        go_ret2
        refine ⟨i, ?_, ⟨HIJ.out.2, HLO.out, HHI.out⟩, HB2.out⟩
        have e : (sgn (f i).f0 t == 0) = decide (i < n ∧ (f i).f0 = t) := by
          by_cases c : (f i).f0 = t
          · simp [c, hin, sgn_zero.2 rfl]
          · have : ¬ sgn (f i).f0 t = 0 := fun h => c (sgn_zero.1 h)
            simp [c, this]
        rw [e]; rfl
      · have h2 : decide (i < n) = false := decide_eq_false hin
        go_wp2_with fail
        go_ret2
        refine ⟨i, ?_, ⟨HIJ.out.2, HLO.out, HHI.out⟩, HB.out⟩
        have e : decide (i < n ∧ (f i).f0 = t) = false := decide_eq_false (fun h => hin h.1)
        rw [e]; rfl
end Go.Proofs.Ytaeifdmabkjoiaa.PPU

/- A Steps in memory; the contracts of none and place. -/
namespace Go.Proofs.Ytaeifdmabkjoiaa.PPU
open Go.RowKit Go.Proofs.YtaeifdmabkjoiaaW.PrintWords Go.Proofs.YtaeifdmabkjoiaaW.PrintLast Go.Proofs.YtaeifdmabkjoiaaW.PrintMore
set_option linter.unusedVariables false
set_option linter.unusedSimpArgs false

/-- Block p is a Steps; its steps lie in block g. -/
structure Is (w : World) (p g cap n : Nat) (f : Nat → S67) : Prop where
  hd : w.heap[p]? = some (.cells #[.slice (some ⟨g, 0, none⟩) n cap] 58 (0, 0))
  row : RowF w g n cap f
  ne : p ≠ g
  mx : cap ≤ 9223372036854775807
theorem Is.below {w w' : World} {p g cap n : Nat} {f : Nat → S67} (h : Is w p g cap n f) (hb : Below w.heap.size w w') : Is w' p g cap n f := ⟨blk_below h.hd hb, h.row.below hb, h.ne, h.mx⟩
theorem Is.cell {w : World} {p g cap n : Nat} {f : Nat → S67} (h : Is w p g cap n f) : w.cell? ⟨p, 0, none⟩ = some (.slice (some ⟨g, 0, none⟩) n cap) := (blk_cell h.hd 0).trans rfl
theorem Is.lt {w : World} {p g cap n : Nat} {f : Nat → S67} (h : Is w p g cap n f) : p < w.heap.size := blk_lt h.hd
/-- q is the place of the step that t is in. -/
structure Plc (n : Nat) (f : Nat → S67) (t : Int) (q : Nat) : Prop where
  lt : q < n
  le : (f q).f0 ≤ t
  hi : ∀ k, q < k → k < n → t < (f k).f0
abbrev ptrV (p : Nat) : Value := .pointer (some ⟨p, 0, none⟩)

set_option maxHeartbeats 2000000 in
set_option maxRecDepth 100000 in
theorem none_calls (p g cap n : Nat) (f : Nat → S67) (w : World) (hI : Is w p g cap n f) (h0 : 0 < n) :
    Calls Try.prog 38 #[ptrV p] w fun e w' => e = .returned (.bool false) ∧ Below w.heap.size w w' := by
  have HI := Aside0.mk hI
  clear hI
  have c0 := HI.out.cell
  have hz : ((n : Int) == 0) = false := by simp; omega
  go_enter Try.func38, Try.ntmps38
  go_wp2_with fail
  go_ret
  exact ⟨by first | rfl | simp [hz], .refl _ _⟩

set_option maxHeartbeats 2000000 in
set_option maxRecDepth 100000 in
theorem place_calls (p g cap n : Nat) (f : Nat → S67) (t : Int) (w : World) (hI : Is w p g cap n f) (hn : 0 < n ∧ n < 1099511627776) (hS : Rise n f) (hz : (f 0).f0 = 0) (ht : 0 ≤ t ∧ t ≤ 1099511627776) :
    Calls Try.prog 39 #[ptrV p, .int .i64 t] w fun e w' => ∃ q : Nat, e = .returned (.int .i64 q) ∧ Plc n f t q ∧ Below w.heap.size w w' := by
  have HI := Aside0.mk hI
  have HN := Aside0.mk hn
  have HS := Aside0.mk hS
  have HZ := Aside0.mk hz
  have HT := Aside0.mk ht
  clear hI hn hS hz ht
  have c0 := HI.out.cell
  go_enter Try.func39, Try.ntmps39
  go_wp2_with (refine (bsearch_calls g n cap f t _ HN.out.2 HI.out.row HS.out HT.out).mono ?_; rintro e w1 ⟨i, rfl, hF, hb⟩)
  · rename_i hc
    go_ret
    refine ⟨i, rfl, ⟨hc.1, by rw [hc.2]; exact Int.le_refl _, fun k h1 h2 => ?_⟩, hb⟩
    have := HS.out.lt i k h1 h2
    rw [hc.2] at this
    exact this
  · rename_i hc
    have hi : 0 < i := by
      refine Nat.pos_of_ne_zero (fun e => ?_)
      have h1 := hF.hi 0 (by omega) HN.out.1
      have h2 := HT.out.1
      have h3 := HZ.out
      have h4 := HN.out.1
      subst e
      rcases hc with h | h
      · omega
      · exact h (by omega)
    have hin := hF.le
    have hnn := HN.out.2
    go_ret
    refine ⟨i - 1, ?_, ⟨by omega, ?_, fun k h1 h2 => ?_⟩, hb⟩
    · rw [show wrap64 ((i : Int) - 1) = ((i - 1 : Nat) : Int) from by rw [IntWalk.wrap64_in _ (by omega)]; omega]; rfl
    · have := hF.lo (i - 1) (by omega)
      omega
    · have h3 := hF.hi k (by omega) h2
      rcases hc with h | h
      · omega
      · have h5 := hF.hi i (Nat.le_refl _) (by omega)
        have h6 := HS.out.le i k (by omega) h2
        omega
end Go.Proofs.Ytaeifdmabkjoiaa.PPU

/- copy and clear, where an element has two cells. -/
namespace Go.Proofs.Ytaeifdmabkjoiaa.PPU
open Go.RowKit Go.Proofs.YtaeifdmabkjoiaaW.PrintWords Go.Proofs.YtaeifdmabkjoiaaW.PrintLast Go.Proofs.YtaeifdmabkjoiaaW.PrintMore
set_option linter.unusedVariables false
set_option linter.unusedSimpArgs false

theorem run_copy_two {P : Program} (w : World) (dT sT ty elem : TypeId) (b o dLen dCap : Nat) (a : Addr) (sLen sCap m : Nat) (cs : List Value)
    (hu : P.underlying dT = some (.slice elem)) (hs : (P.info? elem).map (·.size) = some 2) (hm : Nat.min sLen dLen = m) (hn : cs.length = m * 2)
    (hsrc : ∀ j v, cs[j]? = some v → w.cell? (a.add j) = some v) (hc : ∀ j, j < cs.length → (w.cell? ⟨b, o + j, none⟩).isSome = true) (hf : ∀ j, j < cs.length → w.frozen? ⟨b, o + j, none⟩ = false) (h1 : ∀ v ∈ cs, v.oneCell' = true) :
    (Builtin.copy_ #[dT, sT] ty #[.slice (some ⟨b, o, none⟩) dLen dCap, .slice (some a) sLen sCap]).run P w = .ok (goInt m) (w.setCells b o cs) := by
  have hl := run_loadCells_list (P := P) w a cs hsrc
  have hst := run_storeCells_cells (P := P) b o cs 0 w (by simpa using hc) (by simpa using hf) h1
  cases hq : P.info? elem with
  | none => simp [hq] at hs
  | some i =>
    have hi : i.size = 2 := by simpa [hq] using hs
    simp [Builtin.copy_, run_underlying hu, Builtin.lenOf, Builtin.firstCells, sizeOf, typeInfo, hq, hi, hm, ← hn, hl, hst]
theorem run_clear_two {P : Program} (w : World) (t e ty : TypeId) (z0 z : Value) (ht : P.underlying t = some (.slice e)) (hv : ∀ w, (zeroValue e).run P w = .ok z w) (hz : z.cells = #[z0, z0]) (h1 : z0.oneCell' = true) (b o n c : Nat) (hn : 0 < n)
    (hc : ∀ j, j < n * 2 → (w.cell? ⟨b, o + j, none⟩).isSome = true) (hf : ∀ j, j < n * 2 → w.frozen? ⟨b, o + j, none⟩ = false) :
    (Builtin.clear_ #[t] ty #[.slice (some ⟨b, o, none⟩) n c]).run P w = .ok (.tuple #[]) (w.setCells b o (List.replicate (n * 2) z0)) := by
  have hzc : (Builtin.zeroCells z.cells n).toList = List.replicate (n * 2) z0 := by
    rw [hz]
    simp [Builtin.zeroCells]
    apply List.ext_getElem
    · simp
    · intro i h1 h2
      simp
      rcases Nat.mod_two_eq_zero_or_one i with e | e <;> simp [e]
  have hst := run_storeCells_cells (P := P) b o (List.replicate (n * 2) z0) 0 w (by simpa using hc) (by simpa using hf) (by intro v hv'; rw [List.eq_of_mem_replicate hv']; exact h1)
  simp only [Nat.add_zero] at hst
  obtain ⟨m, rfl⟩ : ∃ m, n = m + 1 := ⟨n - 1, by omega⟩
  simp [Builtin.clear_, run_underlying ht, hv, hzc, hst]
end Go.Proofs.Ytaeifdmabkjoiaa.PPU

/- A row of steps by its cells. -/
namespace Go.Proofs.Ytaeifdmabkjoiaa.PPU
open Go.RowKit Go.Proofs.YtaeifdmabkjoiaaW.PrintWords Go.Proofs.YtaeifdmabkjoiaaW.PrintLast Go.Proofs.YtaeifdmabkjoiaaW.PrintMore
set_option linter.unusedVariables false
set_option linter.unusedSimpArgs false

/-- Cell j of a row of steps. -/
def cellOf (f : Nat → S67) (j : Nat) : Value := if j % 2 = 0 then .int .i64 (f (j / 2)).f0 else .int .i64 (f (j / 2)).f1
/-- The cells of the m steps from place a on. -/
def rowL (f : Nat → S67) (a m : Nat) : List Value := (List.range (m * 2)).map (fun j => cellOf f (a * 2 + j))
theorem rowL_len (f : Nat → S67) (a m : Nat) : (rowL f a m).length = m * 2 := by simp [rowL]
theorem rowL_get (f : Nat → S67) (a m j : Nat) (v : Value) (h : (rowL f a m)[j]? = some v) : j < m * 2 ∧ v = cellOf f (a * 2 + j) := by
  have hj : j < m * 2 := by have := (List.getElem?_eq_some_iff.1 h).1; rwa [rowL_len] at this
  simp [rowL, hj] at h
  exact ⟨hj, h.symm⟩
theorem rowL_one (f : Nat → S67) (a m : Nat) : ∀ v ∈ rowL f a m, v.oneCell' = true := by
  intro v hv
  unfold rowL at hv
  obtain ⟨j, _, rfl⟩ := List.mem_map.1 hv
  unfold cellOf
  split <;> rfl
theorem cellOf_even (f : Nat → S67) (k : Nat) : cellOf f (k * 2) = .int .i64 (f k).f0 := by
  unfold cellOf
  rw [if_pos (by omega), show k * 2 / 2 = k by omega]
theorem cellOf_odd (f : Nat → S67) (k : Nat) : cellOf f (k * 2 + 1) = .int .i64 (f k).f1 := by
  unfold cellOf
  rw [if_neg (by omega), show (k * 2 + 1) / 2 = k by omega]
theorem RowF.cellAt {w : World} {g n cap : Nat} {f : Nat → S67} (h : RowF w g n cap f) (j : Nat) (hj : j < n * 2) : w.cell? ⟨g, j, none⟩ = some (cellOf f j) := by
  rcases Nat.mod_two_eq_zero_or_one j with e | e
  · have hk : j = j / 2 * 2 := by omega
    have := h.at0 (j / 2) (by omega)
    rw [← hk] at this
    rw [this]
    unfold cellOf
    rw [if_pos e]
  · have hk : j = j / 2 * 2 + 1 := by omega
    have := h.at1 (j / 2) (by omega)
    rw [← hk] at this
    rw [this]
    unfold cellOf
    rw [if_neg (by omega)]
theorem RowF.isAt {w : World} {g n cap : Nat} {f : Nat → S67} (h : RowF w g n cap f) (j : Nat) (hj : j < cap * 2) : (w.cell? ⟨g, j, none⟩).isSome = true := by
  obtain ⟨h1, cur, h2, h3, h4⟩ := h
  rw [blk_cell h2 j, Array.getElem?_eq_getElem (by omega)]
  rfl
end Go.Proofs.Ytaeifdmabkjoiaa.PPU

/- What stores into a row of steps leave behind. -/
namespace Go.Proofs.Ytaeifdmabkjoiaa.PPU
open Go.RowKit Go.Proofs.YtaeifdmabkjoiaaW.PrintWords Go.Proofs.YtaeifdmabkjoiaaW.PrintLast Go.Proofs.YtaeifdmabkjoiaaW.PrintMore
set_option linter.unusedVariables false
set_option linter.unusedSimpArgs false

/-- The cells after 'setCells': the block's own array turned. -/
theorem blk_setCells (g : Nat) (T : TypeId) : ∀ (vs : List Value) (o : Nat) (w : World) (cur : Array Value), w.heap[g]? = some (.cells cur T (0, 0)) → o + vs.length ≤ cur.size →
    ∃ cur' : Array Value, (w.setCells g o vs).heap[g]? = some (.cells cur' T (0, 0)) ∧ cur'.size = cur.size ∧ (∀ j, j < vs.length → cur'[o + j]? = vs[j]?) ∧ (∀ j, (j < o ∨ o + vs.length ≤ j) → cur'[j]? = cur[j]?)
  | [], o, w, cur, h, _ => ⟨cur, h, rfl, fun j hj => by simp at hj, fun j _ => rfl⟩
  | v :: r, o, w, cur, h, hl => by
    simp only [List.length_cons] at hl
    obtain ⟨cur', h1, h2, h3, h4⟩ := blk_setCells g T r (o + 1) (w.setCell ⟨g, o, none⟩ v) (cur.setIfInBounds o v) (blk_set h o v) (by simp; omega)
    refine ⟨cur', h1, by simpa using h2, fun j hj => ?_, fun j hj => ?_⟩
    · cases j with
      | zero =>
        rw [h4 (o + 0) (by omega), Nat.add_zero, Array.getElem?_setIfInBounds_self_of_lt (by omega)]
        rfl
      | succ j =>
        have := h3 j (by simpa using hj)
        rw [show o + (j + 1) = o + 1 + j by omega, this]
        rfl
    · simp only [List.length_cons] at hj
      rw [h4 j (by omega), Array.getElem?_setIfInBounds_ne (by omega)]
theorem gb_setCells (g : Nat) : ∀ (vs : List Value) (o : Nat) (w : World), w.grownBy (w.setCells g o vs) (some g)
  | [], o, w => World.grownBy.refl w _
  | v :: r, o, w => (gb_set w g o v).trans (gb_setCells g r (o + 1) _)
end Go.Proofs.Ytaeifdmabkjoiaa.PPU

/- slices.overlaps at two rows of steps in two blocks. -/
namespace Go.Proofs.Ytaeifdmabkjoiaa.PPU
open Go.RowKit Go.Proofs.YtaeifdmabkjoiaaW.PrintWords Go.Proofs.YtaeifdmabkjoiaaW.PrintLast Go.Proofs.YtaeifdmabkjoiaaW.PrintMore
set_option linter.unusedVariables false
set_option linter.unusedSimpArgs false

theorem size67 : ∀ w, (Go.sizeOf 67).run Try.prog w = .ok 2 w := fun w => by
  obtain ⟨i0, hi0, hz0, hzs, hzb⟩ := info_parts info67
  simp [sizeOf, typeInfo, hi0, hzs]
theorem overlaps_no (w : World) (v g o la ca lb cb : Nat) (hne : v ≠ g) (curA curB : Array Value) (hA : w.heap[v]? = some (.cells curA 67 (0, 0))) (hB : w.heap[g]? = some (.cells curB 67 (0, 0))) (hsz : curB.size ≠ 0) :
    (callFunc 68 #[.slice (some ⟨v, 0, none⟩) la ca, .slice (some ⟨g, o, none⟩) lb cb]).run Try.prog w = .ok (.value (.bool false)) w := by
  rw [run_callFunc_extern Try.func68 (by kernel_rfl) (by kernel_rfl) (by kernel_rfl) (e := Extern.SlicesOverlaps.overlaps #[56, 56] #[4]) (by kernel_rfl),
    Lib.run_overlaps_apart w 56 4 67 Try.underlying56 2 size67 ⟨v, 0, none⟩ ⟨g, o, none⟩ la ca lb cb hne 67 67 curA.size curB.size (by simp [World.shape?, hA]) (by simp [World.shape?, hB]) hsz (blk_frozen hA 0) (blk_frozen hA _)]
  rfl
end Go.Proofs.Ytaeifdmabkjoiaa.PPU
