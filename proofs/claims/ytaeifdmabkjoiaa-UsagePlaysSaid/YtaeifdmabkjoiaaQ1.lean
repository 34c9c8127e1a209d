/- The reference's levels; the contracts of its Add, Set, At and Forget by them. -/
import Derived.Test.YtaeifdmabkjoiaaA7
import Derived.Test.YtaeifdmabkjoiaaR1
import Derived.Test.YtaeifdmabkjoiaaP3
import Derived.Test.YtaeifdmabkjoiaaP4
import Derived.Test.YtaeifdmabkjoiaaP5
import Derived.Deep.CutRange
import Derived.Lib.QuietBelow
namespace Go.Proofs.Ytaeifdmabkjoiaa.PPU
open Go.RowKit Go.Proofs.YtaeifdmabkjoiaaW.PrintWords Go.Proofs.YtaeifdmabkjoiaaW.PrintLast Go.Proofs.YtaeifdmabkjoiaaW.PrintMore
set_option linter.unusedVariables false
set_option linter.unusedSimpArgs false

/-- What one change does to the level at a time. -/
def stepV (t v : Int) (c : S82) : Int := if clp c.f0.f0 ≤ t ∧ t < clp c.f0.f1 then (if c.f1 = true then wth c.f2 else wth (v + cl2 c.f2)) else v
/-- The level at a time behind changes. -/
def refL (first : Int) (l : List S82) (t : Int) : Int := l.foldl (stepV t) (wth first)
theorem refL_nil (first : Int) : refL first [] = fun _ => wth first := rfl
theorem refL_snoc (first : Int) (l : List S82) (c : S82) (t : Int) : refL first (l ++ [c]) t = stepV t (refL first l t) c := by unfold refL; rw [List.foldl_append]; rfl
theorem stepV_bd (t v : Int) (c : S82) (h : -1000000 ≤ v ∧ v ≤ 1000000) : -1000000 ≤ stepV t v c ∧ stepV t v c ≤ 1000000 := by
  unfold stepV
  (repeat' split)
  · exact wth_bd _
  · exact wth_bd _
  · exact h
theorem foldV_bd (t : Int) : ∀ (l : List S82) (v : Int), -1000000 ≤ v ∧ v ≤ 1000000 → -1000000 ≤ l.foldl (stepV t) v ∧ l.foldl (stepV t) v ≤ 1000000
  | [], v, h => h
  | c :: r, v, h => foldV_bd t r _ (stepV_bd t v c h)
theorem refL_bd (first : Int) (l : List S82) (t : Int) : -1000000 ≤ refL first l t ∧ refL first l t ≤ 1000000 := foldV_bd t l _ (wth_bd first)
theorem rclamp_f (x : Int) : berthingref01_Clamp.f x = some (clp x) := by
  unfold berthingref01_Clamp.f clp mx mn
  (repeat' split) <;> first | rfl | (congr 1; omega) | (exfalso; omega)
theorem rclean_f (a b : Int) : berthingref01_Span_Clean.f a b = some (if clp a ≥ clp b then (0, 0) else (clp a, clp b)) := by
  unfold berthingref01_Span_Clean.f
  rw [rclamp_f, rclamp_f]
  simp only [Option.bind_some]
  split <;> rfl
theorem rholds_f (a b t : Int) (h0 : 0 ≤ t) (h1 : t ≤ 1099511627776) : berthingref01_Span_Holds.f a b t = some (decide (clp a ≤ t ∧ t < clp b)) := by
  have ha := clp_bd a
  unfold berthingref01_Span_Holds.f
  rw [rclean_f, rclamp_f, clp_id h0 h1]
  simp only [Option.bind_some]
  by_cases h : clp a ≥ clp b
  · rw [if_pos h]
    simp only
    rw [if_pos h0]
    congr 1
    rw [Bool.eq_iff_iff]
    simp only [decide_eq_true_eq]
    omega
  · rw [if_neg h]
    simp only
    split
    · congr 1
      rw [Bool.eq_iff_iff]
      simp only [decide_eq_true_eq]
      omega
    · congr 1
      symm
      exact decide_eq_false (by omega)
theorem rat_l0 (t first : Int) (l : List S82) (h0 : 0 ≤ t) (h1 : t ≤ 1099511627776) (hl : l.length ≤ 4000) : ∀ (d i : Nat) (v : Int), l.length - i = d → i ≤ l.length → -1000000 ≤ v ∧ v ≤ 1000000 → berthingref10_Steps_At.l0 (d + 1) t v i first l = some ((l.drop i).foldl (stepV t) v) := by
  intro d
  induction d with
  | zero =>
    intro i v hd hi hv
    rw [berthingref10_Steps_At.l0, if_neg (by omega), List.drop_of_length_le (by omega)]
    rfl
  | succ d ih =>
    intro i v hd hi hv
    have hil : i < l.length := by omega
    have e : rd_T82 l (i : Int) = l[i] := by
      unfold rd_T82
      rw [Int.toNat_natCast, List.getD_eq_getElem?_getD, List.getElem?_eq_getElem hil]
      rfl
    have hc := cl2_bd l[i].f2
    have hih := fun v' hv' => ih (i + 1) v' (by omega) (by omega) hv'
    rw [berthingref10_Steps_At.l0, if_pos (by omega), if_pos (by omega), e, rholds_f _ _ _ h0 h1]
    simp only [Option.bind_some]
    rw [IntWalk.wrap64_in _ (by omega), List.drop_eq_getElem_cons hil, List.foldl_cons]
    have hs := stepV_bd t v l[i] hv
    by_cases h : clp l[i].f0.f0 ≤ t ∧ t < clp l[i].f0.f1
    · rw [if_pos (decide_eq_true h)]
      by_cases hset : l[i].f1 = true
      · rw [if_pos hset]
        have e2 : stepV t v l[i] = wth l[i].f2 := by unfold stepV; rw [if_pos h, if_pos hset]
        have e3 : berthingref10_clamp.f l[i].f2 = some (wth l[i].f2) := rfl
        rw [e3]
        simp only [Option.bind_some]
        rw [e2] at hs ⊢
        exact hih _ hs
      · rw [if_neg hset]
        have e2 : stepV t v l[i] = wth (v + cl2 l[i].f2) := by unfold stepV; rw [if_pos h, if_neg hset]
        have e3 : berthingref10_clamp2.f l[i].f2 = some (cl2 l[i].f2) := rfl
        rw [e3]
        simp only [Option.bind_some]
        have e4 : berthingref10_clamp.f (wrap64 (v + cl2 l[i].f2)) = some (wth (v + cl2 l[i].f2)) := by
          rw [IntWalk.wrap64_in _ (by omega)]
          rfl
        rw [e4]
        simp only [Option.bind_some]
        rw [e2] at hs ⊢
        exact hih _ hs
    · rw [if_neg (by simpa using h)]
      have e2 : stepV t v l[i] = v := by unfold stepV; rw [if_neg h]
      rw [e2]
      exact hih v hv
theorem rat_f (first t : Int) (l : List S82) (hl : l.length ≤ 4000) : berthingref10_Steps_At.f (l.length + 2) first l t = some (refL first l (mn (clp t) 1099511627775)) := by
  have h := clp_bd t
  unfold berthingref10_Steps_At.f
  rw [rclamp_f]
  simp only [Option.bind_some]
  have key : ∀ s, 0 ≤ s → s ≤ 1099511627776 → berthingref10_Steps_At.j0 (l.length + 2) s first l = some (refL first l s) := fun s h0 h1 => by
    rw [berthingref10_Steps_At.j0]
    have e3 : berthingref10_clamp.f first = some (wth first) := rfl
    rw [e3]
    simp only [Option.bind_some]
    have := rat_l0 s first l h0 h1 hl l.length 0 (wth first) (by omega) (by omega) (wth_bd first)
    rw [List.drop_zero] at this
    exact this
  by_cases h2 : clp t = 1099511627776
  · rw [if_pos h2, key _ (by omega) (by omega), h2]
    rfl
  · rw [if_neg h2, key _ h.1 h.2, show mn (clp t) 1099511627775 = clp t by unfold mn; split <;> omega]

/-- v is a row of changes of the call's own (from block base on). -/
def RefL (w : World) (base : Nat) (v : Value) (l : List S82) : Prop := Kd.R k82 82 w base (fun _ => True) v l
/-- What is no row of changes stays. -/
def Tk (w w' : World) : Prop := w.heap.size ≤ w'.heap.size ∧ ∀ i, i < w.heap.size → (∀ cells, w.heap[i]? ≠ some (.cells cells 82 (0, 0))) → w'.heap[i]? = w.heap[i]?
section
variable {w w' : World} {base : Nat} {v : Value} {l : List S82}
theorem RefL.below (h : RefL w base v l) (hb : Below w.heap.size w w') : RefL w' base v l := Kd.R_below h hb
theorem RefL.typed (h : RefL w base v l) : Kd.R k82 82 w base (fun k => ∃ cells, w.heap[k]? = some (.cells cells 82 (0, 0))) v l :=
  Kd.R_mono (Kd.R_bound h) (fun k hk => by
    obtain ⟨_, _, _, q, hq, cells, hc⟩ := hk
    have e : q = 82 := by
      have : q ∈ (82 :: k82.E : List Nat) := hq
      simpa [k82, Kd.iso, Kd.pair, k38, Kd.bool, Kd.int, Kd.scalar] using this
    rw [e] at hc
    exact ⟨cells, hc⟩)
theorem RefL.kp {p g N : Nat} {L : Int → Int} (h : RefL w base v l) (hS : St w p g N L) (hk : Kp w w' p g) : RefL w' base v l := by
  refine Kd.R_mono (Kd.R_step h.typed (fun k hk1 hk2 => ?_)) (fun _ _ => trivial)
  obtain ⟨cells, hc⟩ := hk1
  obtain ⟨cap, n, f, hI, _⟩ := hS
  obtain ⟨_, cur, hrow, _, _⟩ := hI.row
  refine hk.block k hk2 (fun e => ?_) (fun e => ?_)
  · rw [e, hI.hd] at hc
    simp at hc
  · rw [e, hrow] at hc
    simp at hc
theorem RefL.set {B : Nat} {cs : Array Value} {t : TypeId} (h : RefL w base v l) (hB : w.heap[B]? = some (.cells cs t (0, 0))) (ht : t ≠ 82) (j : Nat) (u : Value) : RefL (w.setCell ⟨B, j, none⟩ u) base v l := by
  refine Kd.R_mono (Kd.R_step h.typed (fun k hk1 hk2 => ?_)) (fun _ _ => trivial)
  obtain ⟨cells, hc⟩ := hk1
  refine Below.heap_setCell _ _ _ _ (fun e => ?_)
  have e' : k = B := e
  rw [e', hB] at hc
  simp at hc
  exact ht hc.2
theorem RefL.slice (h : RefL w base v l) : ∃ A c, v = .slice A l.length c ∧ l.length ≤ c ∧ Kd.C k82 w A l.length l := Kd.R_reads h
theorem St.tk {p g N : Nat} {L : Int → Int} (h : St w p g N L) (ht : Tk w w') : St w' p g N L := by
  obtain ⟨cap, n, f, hI, h2⟩ := h
  obtain ⟨a1, cur, a2, a3, a4⟩ := hI.row
  refine ⟨cap, n, f, ⟨?_, ⟨a1, cur, ?_, a3, a4⟩, hI.ne, hI.mx⟩, h2⟩
  · rw [ht.2 p hI.lt (fun cells e => by rw [hI.hd] at e; simp at e)]
    exact hI.hd
  · rw [ht.2 g (blk_lt a2) (fun cells e => by rw [a2] at e; simp at e)]
    exact a2
theorem Tk.blk {B : Nat} {cs : Array Value} {t : TypeId} (ht : Tk w w') (hB : w.heap[B]? = some (.cells cs t (0, 0))) (hne : t ≠ 82) : w'.heap[B]? = some (.cells cs t (0, 0)) := by
  rw [ht.2 B (blk_lt hB) (fun cells e => by rw [hB] at e; simp at e; exact hne e.2)]
  exact hB
theorem Tk.of_below (hb : Below w.heap.size w w') : Tk w w' := ⟨hb.size, fun i hi _ => hb.block i hi⟩
end
abbrev chA (a b y : Int) : S82 := ⟨⟨a, b⟩, false, y⟩
abbrev chS (a b y : Int) : S82 := ⟨⟨a, b⟩, true, y⟩
theorem radd_c (first a b y : Int) (A : Option Addr) (c base : Nat) (l : List S82) (w : World) (h : RefL w base (.slice A l.length c) l) (hl : l.length ≤ 4000) (hbase : base ≤ w.heap.size) :
    Calls Try.prog 30 #[.agg #[.int .i64 first, .slice A l.length c], .agg #[.int .i64 a, .int .i64 b], .int .i64 y] w fun e w' => ∃ A' c', e = .returned (.agg #[.int .i64 first, .slice A' (l ++ [chA a b y]).length c']) ∧ RefL w' base (.slice A' (l ++ [chA a b y]).length c') (l ++ [chA a b y]) ∧ Below w.heap.size w w' := by
  obtain ⟨A0, c0, e0, hc0, hC⟩ := h.slice
  simp only [Value.slice.injEq] at e0
  obtain ⟨rfl, _, rfl⟩ := e0
  refine (berthingref10_Steps_Add.calls first A c l a b y first (l ++ [chA a b y]) w hC hc0 (by
    unfold berthingref10_Steps_Add.f
    simp only [Option.bind_some, List.length_nil, List.nil_append, Nat.zero_add, List.length_cons]
    rw [if_pos (by omega), if_pos (by omega)])).mono ?_
  rintro e w' ⟨v, rfl, hR, hb⟩
  have hR2 : RefL w' base v (l ++ [chA a b y]) := Kd.R_lower hR hbase
  obtain ⟨A', c', rfl, _, _⟩ := hR2.slice
  exact ⟨A', c', rfl, hR2, hb⟩
theorem rset_c (first a b y : Int) (A : Option Addr) (c base : Nat) (l : List S82) (w : World) (h : RefL w base (.slice A l.length c) l) (hl : l.length ≤ 4000) (hbase : base ≤ w.heap.size) :
    Calls Try.prog 31 #[.agg #[.int .i64 first, .slice A l.length c], .agg #[.int .i64 a, .int .i64 b], .int .i64 y] w fun e w' => ∃ A' c', e = .returned (.agg #[.int .i64 first, .slice A' (l ++ [chS a b y]).length c']) ∧ RefL w' base (.slice A' (l ++ [chS a b y]).length c') (l ++ [chS a b y]) ∧ Below w.heap.size w w' := by
  obtain ⟨A0, c0, e0, hc0, hC⟩ := h.slice
  simp only [Value.slice.injEq] at e0
  obtain ⟨rfl, _, rfl⟩ := e0
  refine (berthingref10_Steps_Set.calls first A c l a b y first (l ++ [chS a b y]) w hC hc0 (by
    unfold berthingref10_Steps_Set.f
    simp only [Option.bind_some, List.length_nil, List.nil_append, Nat.zero_add, List.length_cons]
    rw [if_pos (by omega), if_pos (by omega)])).mono ?_
  rintro e w' ⟨v, rfl, hR, hb⟩
  have hR2 : RefL w' base v (l ++ [chS a b y]) := Kd.R_lower hR hbase
  obtain ⟨A', c', rfl, _, _⟩ := hR2.slice
  exact ⟨A', c', rfl, hR2, hb⟩
theorem rat_c (first t : Int) (A : Option Addr) (c base : Nat) (l : List S82) (w : World) (h : RefL w base (.slice A l.length c) l) (hl : l.length ≤ 4000) :
    Calls Try.prog 13 #[.agg #[.int .i64 first, .slice A l.length c], .int .i64 t] w fun e w' => e = .returned (.int .i64 (refL first l (mn (clp t) 1099511627775))) ∧ Below w.heap.size w w' := by
  obtain ⟨A0, c0, e0, hc0, hC⟩ := h.slice
  simp only [Value.slice.injEq] at e0
  obtain ⟨rfl, _, rfl⟩ := e0
  exact berthingref10_Steps_At.calls (l.length + 2) first A c l t _ w hC hc0 (rat_f first t l hl)
/-- What the reference's Forget adds. -/
def forC (first t : Int) (l : List S82) : List S82 := if t ≥ 1099511627776 then l else l ++ [chS 0 t (refL first l (mn (clp t) 1099511627775))]
theorem rforget_c (first t : Int) (A : Option Addr) (c : Nat) (l : List S82) (w0 w : World) (hB : Below w0.heap.size w0 w) (h : RefL w w0.heap.size (.slice A l.length c) l) (hl : l.length ≤ 4000) :
    Calls Try.prog 32 #[.agg #[.int .i64 first, .slice A l.length c], .int .i64 t] w fun e w' => ∃ A' c', e = .returned (.agg #[.int .i64 first, .slice A' (forC first t l).length c']) ∧ RefL w' w0.heap.size (.slice A' (forC first t l).length c') (forC first t l) ∧ Below w0.heap.size w0 w' ∧ Tk w w' := by
  refine (berthingref10_Steps_Forget.calls (l.length + 2) first _ _ l t first (forC first t l) w0 w hB h.typed (by
    unfold berthingref10_Steps_Forget.f forC
    by_cases ht : t ≥ 1099511627776
    · rw [if_pos ht, if_pos ht]
    · rw [if_neg ht, if_neg ht, rat_f first t l hl]
      simp only [Option.bind_some]
      unfold berthingref10_Steps_Set.f
      simp only [Option.bind_some, List.length_nil, List.nil_append, Nat.zero_add, List.length_cons]
      rw [if_pos (by omega), if_pos (by omega)]
      rfl)).mono ?_
  rintro e w' ⟨v, rfl, hR, hb, hk⟩
  have hR2 : RefL w' w0.heap.size v (forC first t l) := Kd.R_mono hR (fun _ _ => trivial)
  obtain ⟨A', c', rfl, _, _⟩ := hR2.slice
  exact ⟨A', c', rfl, hR2, hb, hk.1, fun i hi hne => hk.2 i hi (fun ⟨cells, e⟩ => hne cells e)⟩
end Go.Proofs.Ytaeifdmabkjoiaa.PPU
