/- The order of items; sorted stretches; the contract of order. -/
import Derived.Test.YtcbhnjkmjiokgaaG1
namespace Go.Proofs.Ytcbhnjkmjiokgaa.PPPrio
open Go.RowKit Go.Proofs.YtcbhnjkmjiokgaaW.PrintWords Go.Proofs.YtcbhnjkmjiokgaaW.PrintLast Go.Proofs.YtcbhnjkmjiokgaaW.PrintMore
set_option linter.unusedVariables false
set_option linter.unusedSimpArgs false

def ltI (x y : S38) : Bool := decide (y.f1 < x.f1 ∨ x.f1 = y.f1 ∧ x.f0 < y.f0)
def cmpI (a b : Int) : Int := if a < b then -1 else if a > b then 1 else 0
def ordI (x y : S38) : Int := if cmpI y.f1 x.f1 ≠ 0 then cmpI y.f1 x.f1 else cmpI x.f0 y.f0
theorem ordI_neg (x y : S38) : decide (ordI x y < 0) = ltI x y := by
  unfold ordI ltI cmpI
  rw [Bool.eq_iff_iff]
  simp only [decide_eq_true_eq]
  repeat' split
  all_goals omega
theorem ltI_iff (x y : S38) : ltI x y = true ↔ (y.f1 < x.f1 ∨ x.f1 = y.f1 ∧ x.f0 < y.f0) := by unfold ltI; simp
theorem ltI_false (x y : S38) : ltI x y = false ↔ ¬ (y.f1 < x.f1 ∨ x.f1 = y.f1 ∧ x.f0 < y.f0) := by unfold ltI; simp
theorem ltI_asymm {x y : S38} (h : ltI x y = true) : ltI y x = false := by rw [ltI_iff] at h; rw [ltI_false]; omega
theorem le_trans' {x y z : S38} (h1 : ltI y x = false) (h2 : ltI z y = false) : ltI z x = false := by rw [ltI_false] at *; omega
theorem ltI_irrefl (x : S38) : ltI x x = false := by rw [ltI_false]; omega
theorem S38_ext {x y : S38} (h0 : x.f0 = y.f0) (h1 : x.f1 = y.f1) : x = y := by cases x; cases y; simp_all
theorem ltI_antisymm {x y : S38} (h1 : ltI x y = false) (h2 : ltI y x = false) : x = y := by rw [ltI_false] at *; exact S38_ext (by omega) (by omega)

theorem cmp_is (a b : Int) : cmp_Compare_int.f a b = some (cmpI a b) := by
  unfold cmp_Compare_int.f cmp_isNaN_int.f cmpI
  simp only [bne_self_eq_false, Option.bind_some]
  repeat' split
  all_goals (first | rfl | omega | simp_all)
theorem or_is (x y : Int) : cmp_Or_int.f 3 [x, y] = some (if x ≠ 0 then x else y) := by
  have w1 : wrap64 1 = 1 := by unfold wrap64; omega
  have w2 : wrap64 2 = 2 := by unfold wrap64; omega
  by_cases hx : x = 0
  · subst hx
    have r0 : rd [0, y] 0 = 0 := rfl
    have r1 : rd [0, y] 1 = y := rfl
    by_cases hy : y = 0
    · subst hy
      simp [cmp_Or_int.f, cmp_Or_int.l0, r0, r1, w1, w2]
    · simp [cmp_Or_int.f, cmp_Or_int.l0, r0, r1, w1, w2, hy]
  · have r0 : rd [x, y] 0 = x := rfl
    simp [cmp_Or_int.f, cmp_Or_int.l0, r0, w1, w2, hx]
theorem order_is (x y : S38) : prio_order.f 3 x.f0 x.f1 y.f0 y.f1 = some (ordI x y) := by
  unfold prio_order.f
  rw [cmp_is, cmp_is]
  simp only [Option.bind_some]
  rw [or_is]
  rfl
theorem order_calls (x y : S38) (w : World) :
    Calls Try.prog 24 #[.agg #[.int .i64 x.f0, .int .i64 x.f1], .agg #[.int .i64 y.f0, .int .i64 y.f1]] w fun e w' => e = .returned (.int .i64 (ordI x y)) ∧ Below w.heap.size w w' :=
  prio_order.calls 3 _ _ _ _ _ w (order_is x y)

/-- From lo up to hi the items stand in order. -/
def Srt (f : Nat → S38) (lo hi : Nat) : Prop := ∀ i j, lo ≤ i → i < j → j < hi → ltI (f j) (f i) = false
/-- The same items, each as often, in the first n places. -/
def Pm (n : Nat) (f f' : Nat → S38) : Prop := ((List.range n).map f').Perm ((List.range n).map f)
theorem Pm.refl (n : Nat) (f : Nat → S38) : Pm n f f := List.Perm.refl _
theorem Pm.trans {n : Nat} {f f' f'' : Nat → S38} (h : Pm n f f') (h' : Pm n f' f'') : Pm n f f'' := List.Perm.trans h' h
theorem map_split (n p : Nat) (f : Nat → S38) (hp : p < n) : (List.range n).map f = (List.range p).map f ++ f p :: (List.range (n - (p + 1))).map (fun k => f (p + 1 + k)) := by
  obtain ⟨d, rfl⟩ : ∃ d, n = p + (1 + d) := ⟨n - p - 1, by omega⟩
  rw [List.range_add, List.map_append, List.map_map, show p + (1 + d) - (p + 1) = d by omega, List.range_add, List.map_append]
  simp [Function.comp_def, Nat.add_assoc, Nat.add_comm 1]
theorem Pm.swp_lt (n : Nat) (f : Nat → S38) (p q : Nat) (hpq : p < q) (hq : q < n) : Pm n f (swp f p q) := by
  unfold Pm
  rw [map_split n p f (by omega), map_split n p (swp f p q) (by omega)]
  rw [map_split (n - (p + 1)) (q - (p + 1)) (fun k => f (p + 1 + k)) (by omega), map_split (n - (p + 1)) (q - (p + 1)) (fun k => swp f p q (p + 1 + k)) (by omega)]
  have e1 : (List.range p).map (swp f p q) = (List.range p).map f := List.map_congr_left (fun k hk => by have := List.mem_range.1 hk; unfold swp; rw [if_neg (by omega), if_neg (by omega)])
  have e2 : (List.range (q - (p + 1))).map (fun k => swp f p q (p + 1 + k)) = (List.range (q - (p + 1))).map (fun k => f (p + 1 + k)) := List.map_congr_left (fun k hk => by have := List.mem_range.1 hk; unfold swp; rw [if_neg (by omega), if_neg (by omega)])
  have e3 : (List.range (n - (p + 1) - (q - (p + 1) + 1))).map (fun k => swp f p q (p + 1 + (q - (p + 1) + 1 + k))) = (List.range (n - (p + 1) - (q - (p + 1) + 1))).map (fun k => f (p + 1 + (q - (p + 1) + 1 + k))) := List.map_congr_left (fun k hk => by unfold swp; rw [if_neg (by omega), if_neg (by omega)])
  have e4 : swp f p q p = f q := by unfold swp; rw [if_pos rfl]
  have e5 : p + 1 + (q - (p + 1)) = q := by omega
  have e6 : swp f p q q = f p := by unfold swp; rw [if_neg (by omega), if_pos rfl]
  rw [e1, e2, e3, e4, e5, e6]
  refine List.Perm.append_left _ ?_
  generalize (List.range (q - (p + 1))).map (fun k => f (p + 1 + k)) = m
  generalize (List.range (n - (p + 1) - (q - (p + 1) + 1))).map (fun k => f (p + 1 + (q - (p + 1) + 1 + k))) = b
  refine (List.Perm.cons _ List.perm_middle).trans ?_
  refine (List.Perm.swap _ _ _).trans ?_
  exact List.Perm.cons _ List.perm_middle.symm
theorem swp_comm (f : Nat → S38) (p q : Nat) : swp f p q = swp f q p := by
  funext k; unfold swp
  by_cases h1 : k = p
  · by_cases h2 : k = q
    · rw [if_pos h1, if_pos h2]; rw [← h1, ← h2]
    · rw [if_pos h1, if_neg h2, if_pos h1]
  · rw [if_neg h1]
    by_cases h2 : k = q
    · rw [if_pos h2, if_pos h2]
    · rw [if_neg h2, if_neg h2, if_neg h1]
theorem Pm.swp (n : Nat) (f : Nat → S38) (p q : Nat) (hp : p < n) (hq : q < n) : Pm n f (swp f p q) := by
  rcases Nat.lt_trichotomy p q with h | h | h
  · exact Pm.swp_lt n f p q h hq
  · subst h
    have : PPPrio.swp f p p = f := by funext k; unfold PPPrio.swp; split <;> simp_all
    rw [this]; exact Pm.refl _ _
  · rw [swp_comm]; exact Pm.swp_lt n f q p h hp
/-- What the sort makes of the row, from lo up to hi: the same items, nothing else turned. -/
structure Same (n lo hi : Nat) (f f' : Nat → S38) : Prop where
  pm : Pm n f f'
  out : ∀ k, k < lo ∨ hi ≤ k → f' k = f k
  mem : ∀ k, lo ≤ k → k < hi → ∃ k', lo ≤ k' ∧ k' < hi ∧ f' k = f k'
theorem Same.refl (n lo hi : Nat) (f : Nat → S38) : Same n lo hi f f := ⟨Pm.refl _ _, fun _ _ => rfl, fun k h1 h2 => ⟨k, h1, h2, rfl⟩⟩
theorem Same.trans {n lo hi : Nat} {f f' f'' : Nat → S38} (h : Same n lo hi f f') (h' : Same n lo hi f' f'') : Same n lo hi f f'' := ⟨h.pm.trans h'.pm, fun k hk => (h'.out k hk).trans (h.out k hk), fun k h1 h2 => by
    obtain ⟨k1, a1, b1, e1⟩ := h'.mem k h1 h2
    obtain ⟨k2, a2, b2, e2⟩ := h.mem k1 a1 b1
    exact ⟨k2, a2, b2, e1.trans e2⟩⟩
theorem Same.swp {n lo hi : Nat} {f : Nat → S38} (p q : Nat) (hp : lo ≤ p) (hp' : p < hi) (hq : lo ≤ q) (hq' : q < hi) (hn : hi ≤ n) : Same n lo hi f (swp f p q) :=
  ⟨Pm.swp n f p q (by omega) (by omega), fun k hk => by unfold PPPrio.swp; rw [if_neg (by omega), if_neg (by omega)], fun k h1 h2 => by
    unfold PPPrio.swp
    by_cases e1 : k = p
    · rw [if_pos e1]; exact ⟨q, hq, hq', rfl⟩
    · rw [if_neg e1]
      by_cases e2 : k = q
      · rw [if_pos e2]; exact ⟨p, hp, hp', rfl⟩
      · rw [if_neg e2]; exact ⟨k, h1, h2, rfl⟩⟩
theorem Same.wider {n lo hi lo' hi' : Nat} {f f' : Nat → S38} (h : Same n lo hi f f') (h1 : lo' ≤ lo) (h2 : hi ≤ hi') : Same n lo' hi' f f' := ⟨h.pm, fun k hk => h.out k (by omega), fun k a b => by
    by_cases e : lo ≤ k ∧ k < hi
    · obtain ⟨k', c, d, e'⟩ := h.mem k e.1 e.2
      exact ⟨k', by omega, by omega, e'⟩
    · exact ⟨k, a, b, h.out k (by omega)⟩⟩
theorem Same.swapAt {n lo hi : Nat} (f : Nat → S38) (a b : Nat) (ha : lo ≤ a) (hn : hi ≤ n) : ∀ c, a + c ≤ b → b + c ≤ hi → Same n lo hi f (swapAt f a b c)
  | 0, _, _ => by rw [swapAt_zero]; exact .refl _ _ _ _
  | c + 1, h1, h2 => by
    rw [← swapAt_succ f a b c (by omega)]
    exact (Same.swapAt f a b ha hn c (by omega) (by omega)).trans (Same.swp _ _ (by omega) (by omega) (by omega) (by omega) hn)

/-- Insertion, on its way: all is in order up to i, but for the item at j, which may be ahead of those before it. -/
def Ins (f : Nat → S38) (a i j : Nat) : Prop := ∀ p q, a ≤ p → p < q → q ≤ i → q ≠ j → ltI (f q) (f p) = false
theorem Ins.start {f : Nat → S38} {a i : Nat} (h : Srt f a i) : Ins f a i i := fun p q h1 h2 h3 h4 => h p q h1 h2 (by omega)
theorem Ins.step {f : Nat → S38} {a i j : Nat} (h : Ins f a i j) (hj : a < j) (hji : j ≤ i) (hlt : ltI (f j) (f (j - 1)) = true) : Ins (swp f j (j - 1)) a i (j - 1) := by
  intro p q h1 h2 h3 h4
  unfold swp
  by_cases hq : q = j
  · subst hq
    rw [if_pos rfl]
    by_cases hp : p = q - 1
    · subst hp; rw [if_neg (by omega), if_pos rfl]; exact ltI_asymm hlt
    · rw [if_neg (by omega), if_neg hp]; exact h p (q - 1) h1 (by omega) (by omega) (by omega)
  · rw [if_neg hq, if_neg h4]
    by_cases hp : p = j
    · subst hp; rw [if_pos rfl]; exact h (p - 1) q (by omega) (by omega) h3 hq
    · rw [if_neg hp]
      by_cases hp' : p = j - 1
      · subst hp'; rw [if_pos rfl]; exact h j q (by omega) (by omega) h3 hq
      · rw [if_neg hp']; exact h p q h1 h2 h3 hq
theorem Ins.done {f : Nat → S38} {a i j : Nat} (h : Ins f a i j) (hj : a ≤ j) (hji : j ≤ i) (hs : j = a ∨ ltI (f j) (f (j - 1)) = false) : Srt f a (i + 1) := by
  intro p q h1 h2 h3
  by_cases hq : q = j
  · subst hq
    rcases hs with hs | hs
    · omega
    · by_cases hp : p = q - 1
      · subst hp; exact hs
      · exact le_trans' (h p (q - 1) h1 (by omega) (by omega) (by omega)) hs
  · exact h p q h1 h2 (by omega) hq
end Go.Proofs.Ytcbhnjkmjiokgaa.PPPrio
