/- The plain law of the merge: an item moved up, an item moved down, the cut and the rotation. -/
import Derived.Test.YtcbhnjkmjiokgaaG2
namespace Go.Proofs.Ytcbhnjkmjiokgaa.PPPrio
set_option linter.unusedVariables false
set_option linter.unusedSimpArgs false

/-- What stood at a goes up to p. -/
def mvUp (f : Nat → S38) (a p : Nat) : Nat → S38 := fun k => if a ≤ k ∧ k < p then f (k + 1) else if k = p then f a else f k
theorem mvUp_zero (f : Nat → S38) (a : Nat) : mvUp f a a = f := by
  funext k; unfold mvUp
  by_cases h : k = a
  · rw [if_neg (by omega), if_pos h, h]
  · rw [if_neg (by omega), if_neg h]
theorem mvUp_succ (f : Nat → S38) (a p : Nat) (h : a ≤ p) : swp (mvUp f a p) p (p + 1) = mvUp f a (p + 1) := by
  funext k; unfold swp mvUp
  by_cases h1 : k = p
  · subst h1
    rw [if_pos rfl, if_neg (by omega), if_neg (by omega), if_pos (by omega)]
  · rw [if_neg h1]
    by_cases h2 : k = p + 1
    · subst h2
      rw [if_pos rfl, if_neg (by omega), if_pos rfl, if_neg (by omega), if_pos rfl]
    · rw [if_neg h2, if_neg h1, if_neg h2]
      by_cases h3 : a ≤ k ∧ k < p
      · rw [if_pos h3, if_pos (by omega)]
      · rw [if_neg h3, if_neg (by omega)]
theorem Srt.mvUp {f : Nat → S38} {a p b : Nat} (h : Srt f (a + 1) b) (hap : a ≤ p) (hpb : p < b) (h1 : ∀ k, a < k → k ≤ p → ltI (f k) (f a) = true) (h2 : ∀ k, p < k → k < b → ltI (f k) (f a) = false) : Srt (mvUp f a p) a b := by
  intro i j hi hij hj
  unfold PPPrio.mvUp
  by_cases hj1 : j < p
  · rw [if_pos ⟨by omega, hj1⟩, if_pos ⟨hi, by omega⟩]; exact h _ _ (by omega) (by omega) (by omega)
  · by_cases hj2 : j = p
    · rw [if_neg (by omega), if_pos hj2, if_pos ⟨hi, by omega⟩]
      exact ltI_asymm (h1 _ (by omega) (by omega))
    · rw [if_neg (by omega), if_neg hj2]
      by_cases hi1 : i < p
      · rw [if_pos ⟨hi, hi1⟩]; exact h _ _ (by omega) (by omega) hj
      · rw [if_neg (by omega)]
        by_cases hi2 : i = p
        · rw [if_pos hi2]; exact h2 j (by omega) hj
        · rw [if_neg hi2]; exact h _ _ (by omega) hij hj
/-- What stood at m goes down to p. -/
def mvDn (f : Nat → S38) (m p : Nat) : Nat → S38 := fun k => if p < k ∧ k ≤ m then f (k - 1) else if k = p then f m else f k
theorem mvDn_zero (f : Nat → S38) (m : Nat) : mvDn f m m = f := by
  funext k; unfold mvDn
  by_cases h : k = m
  · rw [if_neg (by omega), if_pos h, h]
  · rw [if_neg (by omega), if_neg h]
theorem mvDn_succ (f : Nat → S38) (m p : Nat) (h : p < m) : swp (mvDn f m (p + 1)) (p + 1) p = mvDn f m p := by
  funext k; unfold swp mvDn
  by_cases h1 : k = p + 1
  · subst h1
    rw [if_pos rfl, if_neg (by omega), if_neg (by omega), if_pos (by omega)]
    rfl
  · rw [if_neg h1]
    by_cases h2 : k = p
    · subst h2
      rw [if_pos rfl, if_neg (by omega), if_pos rfl, if_neg (by omega), if_pos rfl]
    · rw [if_neg h2, if_neg h1, if_neg h2]
      by_cases h3 : p + 1 < k ∧ k ≤ m
      · rw [if_pos h3, if_pos (by omega)]
      · rw [if_neg h3, if_neg (by omega)]
theorem Srt.mvDn {f : Nat → S38} {a p m : Nat} (h : Srt f a m) (hap : a ≤ p) (hpm : p ≤ m) (h1 : ∀ k, a ≤ k → k < p → ltI (f m) (f k) = false) (h2 : ∀ k, p ≤ k → k < m → ltI (f m) (f k) = true) : Srt (mvDn f m p) a (m + 1) := by
  intro i j hi hij hj
  unfold PPPrio.mvDn
  by_cases hj1 : p < j
  · rw [if_pos ⟨hj1, by omega⟩]
    by_cases hi1 : p < i
    · rw [if_pos ⟨hi1, by omega⟩]; exact h _ _ (by omega) (by omega) (by omega)
    · rw [if_neg (by omega)]
      by_cases hi2 : i = p
      · rw [if_pos hi2]; exact ltI_asymm (h2 _ (by omega) (by omega))
      · rw [if_neg hi2]; exact h _ _ (by omega) (by omega) (by omega)
  · rw [if_neg (by omega)]
    by_cases hj2 : j = p
    · rw [if_pos hj2, if_neg (by omega), if_neg (by omega)]; exact h1 _ (by omega) (by omega)
    · rw [if_neg hj2, if_neg (by omega), if_neg (by omega)]; exact h _ _ (by omega) hij (by omega)

/-- A search on its way: below s the cut's test says no, from r on yes. -/
def Fnd (f : Nat → S38) (p s0 r0 s r : Nat) : Prop := (∀ c, s0 ≤ c → c < s → ltI (f (p - c)) (f c) = false) ∧ (∀ c, r ≤ c → c < r0 → ltI (f (p - c)) (f c) = true)
/-- Where the cut's search begins and ends. -/
structure Cut (a m b mid s0 r0 : Nat) : Prop where
  am : a < m
  mb : m < b
  hmid : mid = (a + b) / 2
  h : (mid < m ∧ s0 = mid + m - b ∧ r0 = mid) ∨ (m ≤ mid ∧ s0 = a ∧ r0 = m)
theorem Fnd.no {f : Nat → S38} {a m b mid s0 r0 s r c : Nat} (hc : Cut a m b mid s0 r0) (h : Fnd f (mid + m - 1) s0 r0 s r) (h1 : Srt f a m) (h2 : Srt f m b) (hs : s0 ≤ s) (hsc : s ≤ c) (hcr : c < r) (hr : r ≤ r0) (ht : ltI (f (mid + m - 1 - c)) (f c) = false) : Fnd f (mid + m - 1) s0 r0 (c + 1) r := by
  obtain ⟨q1, q2, q3, q4⟩ := hc
  refine ⟨fun x hx0 hx => ?_, h.2⟩
  by_cases e : x = c
  · subst e; exact ht
  · by_cases hxs : x < s
    · exact h.1 x hx0 hxs
    · have l1 : ltI (f c) (f x) = false := h1 x c (by omega) (by omega) (by omega)
      have l2 : ltI (f (mid + m - 1 - x)) (f (mid + m - 1 - c)) = false := h2 _ _ (by omega) (by omega) (by omega)
      exact le_trans' (le_trans' l1 ht) l2
theorem lt_le_trans {x y z : S38} (h1 : ltI x y = true) (h2 : ltI z y = false) : ltI x z = true := by rw [ltI_iff] at *; rw [ltI_false] at h2; omega
theorem le_lt_trans {x y z : S38} (h1 : ltI y x = false) (h2 : ltI y z = true) : ltI x z = true := by rw [ltI_iff] at *; rw [ltI_false] at h1; omega
theorem Fnd.yes {f : Nat → S38} {a m b mid s0 r0 s r c : Nat} (hc : Cut a m b mid s0 r0) (h : Fnd f (mid + m - 1) s0 r0 s r) (h1 : Srt f a m) (h2 : Srt f m b) (hs : s0 ≤ s) (hsc : s ≤ c) (hcr : c < r) (hr : r ≤ r0) (ht : ltI (f (mid + m - 1 - c)) (f c) = true) : Fnd f (mid + m - 1) s0 r0 s c := by
  obtain ⟨q1, q2, q3, q4⟩ := hc
  refine ⟨h.1, fun x hx0 hx => ?_⟩
  by_cases e : x = c
  · subst e; exact ht
  · by_cases hxr : r ≤ x
    · exact h.2 x hxr hx
    · have l1 : ltI (f x) (f c) = false := h1 c x (by omega) (by omega) (by omega)
      have l2 : ltI (f (mid + m - 1 - c)) (f (mid + m - 1 - x)) = false := h2 _ _ (by omega) (by omega) (by omega)
      exact lt_le_trans (le_lt_trans l2 ht) l1

/-- Behind the rotation: both halves in two ordered stretches, and the first half ahead of the second. -/
structure Halves (f1 : Nat → S38) (a s mid e b : Nat) : Prop where
  l1 : Srt f1 a s
  l2 : Srt f1 s mid
  l3 : Srt f1 mid e
  l4 : Srt f1 e b
  x : ∀ i j, a ≤ i → i < mid → mid ≤ j → j < b → ltI (f1 j) (f1 i) = false
theorem Cut.bounds {f : Nat → S38} {a m b mid s0 r0 s : Nat} (hc : Cut a m b mid s0 r0) (h0 : s0 ≤ s) (h1 : s ≤ r0) : a ≤ s ∧ s ≤ m ∧ s ≤ mid ∧ m ≤ mid + m - s ∧ mid ≤ mid + m - s ∧ mid + m - s ≤ b ∧ a ≤ s0 ∧ r0 ≤ m ∧ s0 ≤ r0 := by
  obtain ⟨q1, q2, q3, q4⟩ := hc
  omega
theorem halves {f : Nat → S38} {a m b mid s0 r0 s : Nat} (hc : Cut a m b mid s0 r0) (h : Fnd f (mid + m - 1) s0 r0 s s) (h1 : Srt f a m) (h2 : Srt f m b) (hs : s0 ≤ s) (hr : s ≤ r0) : Halves (rotAt f s m (mid + m - s)) a s mid (mid + m - s) b := by
  obtain ⟨c1, c2, c3, c4, c5, c6, c7, c8, c9⟩ := hc.bounds (f := f) hs hr
  obtain ⟨q1, q2, q3, q4⟩ := hc
  have F1 : ∀ x y, a ≤ x → x < s → mid + m - s ≤ y → y < b → ltI (f y) (f x) = false := by
    intro x y hx hxs hy hyb
    have hss : s0 < s := by omega
    have t := h.1 (s - 1) (by omega) (by omega)
    rw [show mid + m - 1 - (s - 1) = mid + m - s by omega] at t
    have l1 : ltI (f (s - 1)) (f x) = false := by
      by_cases e : x = s - 1
      · rw [e]; exact ltI_irrefl _
      · exact h1 x (s - 1) hx (by omega) (by omega)
    have l2 : ltI (f y) (f (mid + m - s)) = false := by
      by_cases e : y = mid + m - s
      · rw [e]; exact ltI_irrefl _
      · exact h2 _ y (by omega) (by omega) hyb
    exact le_trans' (le_trans' l1 t) l2
  have F2 : ∀ x y, s ≤ x → x < m → m ≤ y → y < mid + m - s → ltI (f x) (f y) = false := by
    intro x y hx hxm hy hye
    have hss : s < r0 := by omega
    have t := h.2 s (Nat.le_refl _) hss
    rw [show mid + m - 1 - s = mid + m - s - 1 by omega] at t
    have l1 : ltI (f x) (f s) = false := by
      by_cases e : x = s
      · rw [e]; exact ltI_irrefl _
      · exact h1 s x (by omega) (by omega) (by omega)
    have l2 : ltI (f (mid + m - s - 1)) (f y) = false := by
      by_cases e : y = mid + m - s - 1
      · rw [e]; exact ltI_irrefl _
      · exact h2 y _ hy (by omega) (by omega)
    exact ltI_asymm (lt_le_trans (le_lt_trans l2 t) l1)
  have R1 : ∀ k, k < s → rotAt f s m (mid + m - s) k = f k := fun k hk => by unfold rotAt; rw [if_neg (by omega), if_neg (by omega)]
  have R2 : ∀ k, s ≤ k → k < mid → rotAt f s m (mid + m - s) k = f (k - s + m) := fun k hk hk' => by unfold rotAt; rw [if_pos (by omega)]
  have R3 : ∀ k, mid ≤ k → k < mid + m - s → rotAt f s m (mid + m - s) k = f (k - (mid - s)) := fun k hk hk' => by
    unfold rotAt; rw [if_neg (by omega), if_pos (by omega), show mid + m - s - m = mid - s by omega]
  have R4 : ∀ k, mid + m - s ≤ k → rotAt f s m (mid + m - s) k = f k := fun k hk => by unfold rotAt; rw [if_neg (by omega), if_neg (by omega)]
  refine ⟨fun i j hi hij hj => ?_, fun i j hi hij hj => ?_, fun i j hi hij hj => ?_, fun i j hi hij hj => ?_, fun i j hi hi' hj hj' => ?_⟩
  · rw [R1 i (by omega), R1 j hj]; exact h1 i j hi hij (by omega)
  · rw [R2 i hi (by omega), R2 j (by omega) hj]; exact h2 _ _ (by omega) (by omega) (by omega)
  · rw [R3 i hi (by omega), R3 j (by omega) hj]; exact h1 _ _ (by omega) (by omega) (by omega)
  · rw [R4 i hi, R4 j (by omega)]; exact h2 i j (by omega) hij hj
  · by_cases hi2 : i < s
    · rw [R1 i hi2]
      by_cases hj2 : j < mid + m - s
      · rw [R3 j hj hj2]; exact h1 _ _ hi (by omega) (by omega)
      · rw [R4 j (by omega)]; exact F1 i j hi hi2 (by omega) hj'
    · rw [R2 i (by omega) hi']
      by_cases hj2 : j < mid + m - s
      · rw [R3 j hj hj2]; exact F2 _ _ (by omega) (by omega) (by omega) (by omega)
      · rw [R4 j (by omega)]; exact h2 _ _ (by omega) (by omega) hj'
theorem merged {n : Nat} {f1 f2 f3 : Nat → S38} {a s mid e b : Nat} (h : Halves f1 a s mid e b) (ham : a ≤ mid) (hmb : mid ≤ b) (s2 : Same n a mid f1 f2) (o2 : Srt f2 a mid) (s3 : Same n mid b f2 f3) (o3 : Srt f3 mid b) : Srt f3 a b := by
  intro i j hi hij hj
  by_cases hjm : j < mid
  · rw [s3.out i (by omega), s3.out j (by omega)]; exact o2 i j hi hij hjm
  · by_cases him : mid ≤ i
    · exact o3 i j him hij hj
    · rw [s3.out i (by omega)]
      obtain ⟨i', a1, a2, e1⟩ := s2.mem i hi (by omega)
      obtain ⟨j', b1, b2, e2⟩ := s3.mem j (by omega) hj
      rw [e1, e2, s2.out j' (by omega)]
      exact h.x i' j' a1 a2 b1 b2
theorem rotAt_none (f : Nat → S38) (s m e : Nat) (hs : s ≤ m) (he : m ≤ e) (h : ¬ (s < m ∧ m < e)) : rotAt f s m e = f := by
  funext k
  unfold rotAt
  by_cases e1 : s = m
  · subst e1
    by_cases h1 : s ≤ k ∧ k < s + (e - s)
    · rw [if_pos h1, show k - s + s = k by omega]
    · rw [if_neg h1, if_neg (by omega)]
  · obtain rfl : m = e := by omega
    rw [if_neg (by omega)]
    by_cases h1 : s + (m - m) ≤ k ∧ k < m
    · rw [if_pos h1, show k - (m - m) = k by omega]
    · rw [if_neg h1]
end Go.Proofs.Ytcbhnjkmjiokgaa.PPPrio
