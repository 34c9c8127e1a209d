/- The plain law of PrioKeeps: what is sorted is a permutation in order, and sorted again it is the same. -/
import Derived.Test.YtcbhnjkmjiokgaaK1
namespace Go.Proofs.Ytcbhnjkmjiokgaa.PPPrio
open Go.RowKit Go.Proofs.YtcbhnjkmjiokgaaW.PrintWords Go.Proofs.YtcbhnjkmjiokgaaW.PrintMore
set_option linter.unusedVariables false
set_option linter.unusedSimpArgs false

theorem order_ge' (x y : S38) : ∀ n, prio_order.f (3 + n) x.f0 x.f1 y.f0 y.f1 = some (ordI x y)
  | 0 => order_is x y
  | n + 1 => prio_order.mono _ _ _ _ (3 + n) _ (order_ge' x y n)
theorem Less38' (x y : S38) (n k : Nat) (hk : k = 3 + n) : prio_Less.f k x.f0 x.f1 y.f0 y.f1 = some (ltI x y) := by
  subst hk
  unfold prio_Less.f
  rw [order_ge']
  simp only [Option.bind_some]
  rw [ordI_neg]
theorem rd38' (x : List S38) (i : Nat) (h : i < x.length) : rd_T38 x (i : Int) = x[i] := by
  show x.getD i z38 = x[i]
  rw [List.getD_eq_getElem?_getD, List.getElem?_eq_getElem h]; rfl
def eqx (a b : Int) (y : S38) : Bool := (y.f0 == a && (y.f1 == b))
def cnt (a b : Int) (l : List S38) (i : Nat) : Nat := (l.take i).countP (eqx a b)
theorem cnt_le (a b : Int) (l : List S38) (i : Nat) : cnt a b l i ≤ i := by
  unfold cnt
  have := List.countP_le_length (p := eqx a b) (l := l.take i)
  rw [List.length_take] at this
  omega
theorem cnt_yes {a b : Int} {l : List S38} {i : Nat} (h : i < l.length) (e : eqx a b l[i] = true) : cnt a b l (i + 1) = cnt a b l i + 1 := by
  unfold cnt
  rw [List.take_succ_eq_append_getElem h, List.countP_append, List.countP_singleton, if_pos e]
theorem cnt_no {a b : Int} {l : List S38} {i : Nat} (h : i < l.length) (e : ¬ eqx a b l[i] = true) : cnt a b l (i + 1) = cnt a b l i := by
  unfold cnt
  rw [List.take_succ_eq_append_getElem h, List.countP_append, List.countP_singleton, if_neg e, Nat.add_zero]
theorem wsucc (n : Nat) (h : n < 1099511627776) : wrap64 ((n : Int) + 1) = ((n + 1 : Nat) : Int) := by rw [IntWalk.wrap64_in _ (by omega)]; omega

/-- All that a round does, where what follows it answers true. -/
theorem kround (x s : List S38) (a b : Int) (K i : Nat) (hA : Asc s) (hl : s.length = x.length) (hi : i < x.length) (hb : x.length < 1099511627776) (hK : ∃ n, K = 3 + n)
    (ih : berthinglaw13_PrioKeeps.l0 K x s s (cnt a b s (i + 1) : Int) (cnt a b x (i + 1) : Int) ((i + 1 : Nat) : Int) a b = some true) :
    berthinglaw13_PrioKeeps.l0 (K + 4) x s s (cnt a b s i : Int) (cnt a b x i : Int) (i : Int) a b = some true := by
  obtain ⟨n, hn⟩ := hK
  have h4 : ∀ (y7 y8 : Nat), y7 = cnt a b s (i + 1) → y8 = cnt a b x (i + 1) → berthinglaw13_PrioKeeps.j4 (K + 1) x s s (y7 : Int) (y8 : Int) (i : Int) false a b = some true := by
    intro y7 y8 e7 e8
    subst e7 e8
    have L1 : prio_Less.f K x[i].f0 x[i].f1 a b = some (ltI x[i] ⟨a, b⟩) := Less38' x[i] ⟨a, b⟩ n K hn
    have L2 : prio_Less.f K a b x[i].f0 x[i].f1 = some (ltI ⟨a, b⟩ x[i]) := Less38' ⟨a, b⟩ x[i] n K hn
    rw [berthinglaw13_PrioKeeps.j4, if_neg (by decide), if_pos (by omega), if_pos (by omega), rd38' x i hi, L1, L2, wsucc i (by omega)]
    simp only [Option.bind_some]
    by_cases c : ltI x[i] ⟨a, b⟩ = true
    · rw [if_pos c, if_pos c, if_neg (by rw [ltI_asymm c]; decide)]
      exact ih
    · rw [if_neg c, if_neg c]
      by_cases c2 : ltI ⟨a, b⟩ x[i] = true
      · rw [if_pos c2]; exact ih
      · rw [if_neg c2]
        have e : x[i] = ⟨a, b⟩ := ltI_antisymm (by simpa using c) (by simpa using c2)
        rw [if_neg (by rw [e]; simp)]
        exact ih
  have h3 : ∀ (y7 y8 : Nat), y7 = cnt a b s (i + 1) → y8 = cnt a b x (i + 1) → berthinglaw13_PrioKeeps.j3 (K + 2) x s s (y7 : Int) (y8 : Int) (i : Int) a b = some true := by
    intro y7 y8 e7 e8
    rw [show K + 2 = (K + 1) + 1 from rfl, berthinglaw13_PrioKeeps.j3, if_pos (by omega), if_pos (by omega), if_pos (by omega), rd38' s i (by omega), if_neg (by simp)]
    by_cases c : (i : Int) > 0
    · have ew1 : wrap64 ((i : Int) - 1) = ((i - 1 : Nat) : Int) := by rw [IntWalk.wrap64_in _ (by omega)]; omega
      rw [if_pos c, ew1, if_pos (by omega), if_pos (by omega), rd38' s (i - 1) (by omega), Less38' s[i] s[i - 1] (n + 1) (K + 1) (by omega)]
      have hlt : ltI s[i] s[i - 1] = false := List.pairwise_iff_getElem.1 hA (i - 1) i (by omega) (by omega) (by omega)
      rw [hlt]
      exact h4 y7 y8 e7 e8
    · rw [if_neg c]
      exact h4 y7 y8 e7 e8
  have h2 : ∀ (y8 : Nat), y8 = cnt a b x (i + 1) → berthinglaw13_PrioKeeps.j2 (K + 3) x s s (cnt a b s i : Int) (y8 : Int) (i : Int) a b = some true := by
    intro y8 e8
    rw [show K + 3 = (K + 2) + 1 from rfl, berthinglaw13_PrioKeeps.j2, if_pos (by omega), if_pos (by omega), rd38' s i (by omega)]
    by_cases c : eqx a b s[i] = true
    · rw [if_pos (show (s[i].f0 == a && (s[i].f1 == b)) = true from c), wsucc _ (by have := cnt_le a b s i; omega)]
      exact h3 _ y8 (cnt_yes (by omega) c).symm e8
    · rw [if_neg (show ¬ (s[i].f0 == a && (s[i].f1 == b)) = true from c)]
      exact h3 _ y8 (cnt_no (by omega) c).symm e8
  rw [show K + 4 = (K + 3) + 1 from rfl, berthinglaw13_PrioKeeps.l0, if_pos (by omega), if_pos (by omega), rd38' x i hi]
  by_cases c : eqx a b x[i] = true
  · rw [if_pos (show (x[i].f0 == a && (x[i].f1 == b)) = true from c), wsucc _ (by have := cnt_le a b x i; omega)]
    exact h2 _ (cnt_yes hi c).symm
  · rw [if_neg (show ¬ (x[i].f0 == a && (x[i].f1 == b)) = true from c)]
    exact h2 _ (cnt_no hi c).symm

theorem kl0_ok (x s : List S38) (a b : Int) (hA : Asc s) (hp : s.Perm x) (hb : x.length < 1099511627776) : ∀ m i, i + m = x.length →
    berthinglaw13_PrioKeeps.l0 (4 * m + 7) x s s (cnt a b s i : Int) (cnt a b x i : Int) (i : Int) a b = some true
  | 0, i, h => by
    obtain rfl : i = x.length := by omega
    have hl := hp.length_eq
    have ec : cnt a b s x.length = cnt a b x x.length := by
      unfold cnt
      rw [← hl, List.take_length, hl, List.take_length]
      exact hp.countP_eq _
    have L : prio_Less.f 6 a b a b = some (ltI ⟨a, b⟩ ⟨a, b⟩) := Less38' ⟨a, b⟩ ⟨a, b⟩ 3 6 rfl
    rw [show 4 * 0 + 7 = 6 + 1 from rfl, berthinglaw13_PrioKeeps.l0, if_neg (by omega), ec, if_pos rfl, L, ltI_irrefl]
    simp only [Option.bind_some]
    rw [if_neg (by decide), one_is]
    rfl
  | m + 1, i, h => by
    rw [show 4 * (m + 1) + 7 = (4 * m + 7) + 4 by omega]
    exact kround x s a b (4 * m + 7) i hA hp.length_eq (by omega) hb ⟨4 * m + 4, by omega⟩ (kl0_ok x s a b hA hp hb m (i + 1) (by omega))
theorem sortI_same (l : List S38) (h : Asc l) : sortI l = l := asc_unique (sortI_perm l) (sortI_asc l) h
theorem PrioKeeps (x : List S38) (a b : Int) (hb : x.length < 1099511627776) : berthinglaw13_PrioKeeps.f (4 * x.length + 8) x a b = some true := by
  have hl : (sortI x).length = x.length := (sortI_perm x).length_eq
  have e1 : prio_Sort.f x = some (sortI x) := by unfold prio_Sort.f; rw [if_pos hb]
  have e2 : prio_Sort.f (sortI x) = some (sortI x) := by unfold prio_Sort.f; rw [if_pos (by omega), sortI_same _ (sortI_asc x)]
  unfold berthinglaw13_PrioKeeps.f
  rw [e1]
  simp only [Option.bind_some]
  rw [e2]
  simp only [Option.bind_some]
  rw [if_pos (by rw [hl]), hl, show ((x.length : Int) != (x.length : Int)) = false by simp, show 4 * x.length + 8 = (4 * x.length + 7) + 1 from rfl, berthinglaw13_PrioKeeps.j0, if_neg (by decide)]
  have := kl0_ok x (sortI x) a b (sortI_asc x) (sortI_perm x) hb x.length 0 (by omega)
  simpa [cnt] using this
end Go.Proofs.Ytcbhnjkmjiokgaa.PPPrio
