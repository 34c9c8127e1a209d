/- The plain law: check sums by sums; what one byte, two bytes, two texts do to them. -/
import Derived.Test.YtfkjilnhjaegbaaM
namespace Go.Proofs.Ytfkjilnhjaegbaa.PSum
open Go.RowKit Go.Proofs.YtfkjilnhjaegbaaW.PrintWords

set_option linter.unusedSimpArgs false
set_option linter.unusedVariables false
def sm : List Int → Int
  | [] => 0
  | c :: l => c + sm l
def wt : List Int → Int
  | [] => 0
  | c :: l => ((l.length : Int) + 1) * c + wt l
theorem sm_append (a b : List Int) : sm (a ++ b) = sm a + sm b := by
  induction a with
  | nil => simp [sm]
  | cons c a ih => simp only [List.cons_append, sm, ih]; omega
theorem wt_append (a b : List Int) : wt (a ++ b) = wt a + (b.length : Int) * sm a + wt b := by
  induction a with
  | nil => simp [sm, wt]
  | cons c a ih =>
    simp only [List.cons_append, sm, wt, ih, List.length_append, Int.natCast_add, Int.add_mul, Int.mul_add]
    omega

theorem emod_sub_mul (x q n : Int) (h : n = x + 65521 * q) : n % 65521 = x % 65521 := by subst h; omega

theorem tk_closed (l : List Int) : ∀ a b : Int, (0 ≤ a ∧ a < 65521) → (0 ≤ b ∧ b < 65521) → (tk (a, b) l).1 = (a + sm l) % 65521 ∧ (tk (a, b) l).2 = (b + (l.length : Int) * a + wt l) % 65521 := by
  induction l with
  | nil => intro a b ha hb; simp only [tk_nil, sm, wt, List.length_nil]; constructor <;> omega
  | cons c l ih =>
    intro a b ha hb
    rw [tk_cons]
    have h := ih ((a + c) % 65521) ((b + (a + c) % 65521) % 65521) (by omega) (by omega)
    have hs : stepT (a, b) c = ((a + c) % 65521, (b + (a + c) % 65521) % 65521) := rfl
    rw [hs, h.1, h.2]
    simp only [sm, wt, List.length_cons, Int.natCast_add]
    have hq : (a + c) % 65521 = a + c - 65521 * ((a + c) / 65521) := by omega
    generalize (a + c) / 65521 = q at hq
    rw [hq]
    constructor
    · omega
    · have hr : (b + (a + c - 65521 * q)) % 65521 = b + (a + c - 65521 * q) - 65521 * ((b + (a + c - 65521 * q)) / 65521) := by omega
      generalize (b + (a + c - 65521 * q)) / 65521 = s at hr
      rw [hr]
      refine emod_sub_mul _ (-(q + s + (l.length : Int) * q)) _ ?_
      have e1 : (l.length : Int) * (a + c - 65521 * q) = (l.length : Int) * a + (l.length : Int) * c - 65521 * ((l.length : Int) * q) := by
        rw [Int.mul_sub, Int.mul_add, Int.mul_left_comm]
      have e2 : ((l.length : Int) + ((1 : Nat) : Int)) * a = (l.length : Int) * a + a := by rw [Int.add_mul]; simp
      have e3 : ((l.length : Int) + 1) * c = (l.length : Int) * c + c := by rw [Int.add_mul]; simp
      rw [e1, e2, e3]
      generalize (l.length : Int) * a = u
      generalize (l.length : Int) * c = v
      generalize (l.length : Int) * q = t
      omega

theorem cs_parts (l : List Int) : cs l = (((l.length : Int) + wt l) % 65521) * 65536 + (1 + sm l) % 65521 := by
  have h := tk_closed l 1 0 (by omega) (by omega)
  unfold cs val
  rw [h.1, h.2, Int.zero_add, Int.mul_one]
  omega
theorem cs_eq (l m : List Int) : cs l = cs m ↔ ((l.length : Int) + wt l) % 65521 = ((m.length : Int) + wt m) % 65521 ∧ (1 + sm l) % 65521 = (1 + sm m) % 65521 := by
  rw [cs_parts, cs_parts]
  constructor
  · intro h; omega
  · rintro ⟨h1, h2⟩; rw [h1, h2]

theorem split_at (l : List Int) (k : Nat) (hk : k < l.length) : l = l.take k ++ rd l k :: l.drop (k + 1) := by
  rw [← rd_drop l k hk, List.take_append_drop]
theorem set_at (l : List Int) (k : Nat) (hk : k < l.length) (x : Int) : l.set k x = l.take k ++ x :: l.drop (k + 1) := by
  rw [List.set_eq_take_append_cons_drop, if_pos hk]

theorem cs_set (l : List Int) (hl : Bytes l) (k : Nat) (hk : k < l.length) (x : Int) (hx : 0 ≤ x ∧ x < 256) : (cs (l.set k x) == cs l) = (rd l k == x) := by
  have hr := hl _ (rd_mem l k hk)
  rw [Bool.eq_iff_iff, beq_iff_eq, beq_iff_eq, cs_eq]
  have e1 : sm (l.set k x) = sm l + x - rd l k := by
    rw [set_at l k hk x]
    conv => rhs; rw [split_at l k hk]
    rw [sm_append, sm_append]; simp only [sm]
    have : rd (l.take k ++ rd l k :: l.drop (k + 1)) k = rd l k := by rw [← split_at l k hk]
    omega
  constructor
  · rintro ⟨_, h⟩; rw [e1] at h; omega
  · intro h
    have : l.set k x = l := by
      subst h
      rw [set_at l k hk, ← split_at l k hk]
    rw [this]; exact ⟨rfl, rfl⟩

theorem coprime_small : ∀ y : Nat, y < 256 → 0 < y → Nat.gcd 65521 y = 1 := by decide +kernel
theorem no_factor (x y : Nat) (hx : 0 < x) (hx' : x < 65521) (hy : 0 < y) (hy' : y < 256) (h : 65521 ∣ x * y) : False := by
  have := Nat.Coprime.dvd_of_dvd_mul_right (coprime_small y hy' hy) h
  have := Nat.le_of_dvd hx this
  omega

/-- Two bytes at different places change places. -/
theorem swap_sums (a m b : List Int) (x y : Int) :
    sm (a ++ y :: (m ++ x :: b)) = sm (a ++ x :: (m ++ y :: b)) ∧ wt (a ++ y :: (m ++ x :: b)) = wt (a ++ x :: (m ++ y :: b)) + ((m.length : Int) + 1) * (y - x) := by
  constructor
  · simp only [sm_append, sm]; omega
  · simp only [wt_append, sm_append, sm, wt, List.length_append, List.length_cons, Int.natCast_add, Int.add_mul, Int.mul_add, Int.mul_sub, Int.sub_mul]
    simp only [Int.mul_comm]
    omega

theorem cs_swap' (a m b : List Int) (x y : Int) (hx : 0 ≤ x ∧ x < 256) (hy : 0 ≤ y ∧ y < 256) (hm : m.length < 60000) : cs (a ++ y :: (m ++ x :: b)) = cs (a ++ x :: (m ++ y :: b)) ↔ x = y := by
  have h := swap_sums a m b x y
  have hlen : (a ++ y :: (m ++ x :: b)).length = (a ++ x :: (m ++ y :: b)).length := by simp
  rw [cs_eq, hlen, h.1, h.2]
  constructor
  · rintro ⟨h1, _⟩
    have hd : (65521 : Int) ∣ ((m.length : Int) + 1) * (y - x) := by omega
    rcases Int.lt_trichotomy x y with hlt | heq | hgt
    · exfalso
      obtain ⟨d, hd1⟩ : ∃ d : Nat, y - x = d := ⟨(y - x).toNat, by omega⟩
      rw [hd1] at hd
      have hd2 : (65521 : Nat) ∣ (m.length + 1) * d := by
        have : ((m.length : Int) + 1) * (d : Int) = (((m.length + 1) * d : Nat) : Int) := by simp
        rw [this] at hd
        exact Int.natCast_dvd_natCast.1 hd
      exact no_factor _ d (by omega) (by omega) (by omega) (by omega) hd2
    · exact heq
    · exfalso
      obtain ⟨d, hd1⟩ : ∃ d : Nat, x - y = d := ⟨(x - y).toNat, by omega⟩
      have he : y - x = -(d : Int) := by omega
      rw [he, Int.mul_neg, Int.dvd_neg] at hd
      have hd2 : (65521 : Nat) ∣ (m.length + 1) * d := by
        have : ((m.length : Int) + 1) * (d : Int) = (((m.length + 1) * d : Nat) : Int) := by simp
        rw [this] at hd
        exact Int.natCast_dvd_natCast.1 hd
      exact no_factor _ d (by omega) (by omega) (by omega) (by omega) hd2
  · intro h; subst h; simp

theorem swap_lists (l : List Int) (i j : Nat) (hij : i < j) (hj : j < l.length) : ∃ a m b, l = a ++ rd l i :: (m ++ rd l j :: b) ∧ (l.set i (rd l j)).set j (rd l i) = a ++ rd l j :: (m ++ rd l i :: b) ∧ m.length < l.length := by
  have e1 := split_at l i (by omega)
  have e2 := split_at (l.drop (i + 1)) (j - (i + 1)) (by simp; omega)
  have e3 : rd (l.drop (i + 1)) ((j - (i + 1) : Nat) : Int) = rd l j := by
    unfold rd
    simp only [List.getD_eq_getElem?_getD, List.getElem?_drop, Int.toNat_natCast]
    rw [show i + 1 + (j - (i + 1)) = j by omega]
  rw [e3] at e2
  refine ⟨l.take i, (l.drop (i + 1)).take (j - (i + 1)), (l.drop (i + 1)).drop (j - (i + 1) + 1), ?_, ?_, by simp; omega⟩
  · rw [← e2]; exact e1
  · rw [set_at l i (by omega), List.set_append_right _ _ (by simp; omega)]
    have hm : min i l.length = i := by omega
    simp only [List.length_take, hm]
    obtain ⟨q, hq⟩ : ∃ q, j - i = q + 1 := ⟨j - i - 1, by omega⟩
    rw [hq, List.set_cons_succ, set_at _ q (by simp; omega)]
    rw [show j - (i + 1) = q by omega]

theorem cs_swap (l : List Int) (hl : Bytes l) (hn : l.length < 60000) (i j : Nat) (hi : i < l.length) (hj : j < l.length) : (cs ((l.set i (rd l j)).set j (rd l i)) == cs l) = (rd l i == rd l j) := by
  have hri := hl _ (rd_mem l i hi)
  have hrj := hl _ (rd_mem l j hj)
  rw [Bool.eq_iff_iff, beq_iff_eq, beq_iff_eq]
  rcases Nat.lt_trichotomy i j with h | h | h
  · obtain ⟨a, m, b, e1, e2, hm⟩ := swap_lists l i j h hj
    have := cs_swap' a m b (rd l i) (rd l j) hri hrj (by omega)
    rw [← e1, ← e2] at this
    exact this
  · subst h
    simp only [iff_true, List.set_set]
    have : l.set i (rd l i) = l := by rw [set_at l i hi, ← split_at l i hi]
    rw [this]
  · obtain ⟨a, m, b, e1, e2, hm⟩ := swap_lists l j i h hi
    have := cs_swap' a m b (rd l j) (rd l i) hrj hri (by omega)
    rw [← e1, ← e2] at this
    rw [List.set_comm _ _ (by omega), this]
    exact eq_comm
end Go.Proofs.Ytfkjilnhjaegbaa.PSum
