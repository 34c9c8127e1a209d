/- The plain law of PrioAges: what waits longer, is less kind, needs more or used less has no lesser priority. -/
import Derived.Test.YtcbhnjkmjiokgaaA2
namespace Go.Proofs.Ytcbhnjkmjiokgaa.PPPrio
open Go.RowKit Go.Proofs.YtcbhnjkmjiokgaaW.PrintWords Go.Proofs.YtcbhnjkmjiokgaaW.PrintLast Go.Proofs.YtcbhnjkmjiokgaaW.PrintMore
set_option linter.unusedVariables false
set_option linter.unusedSimpArgs false

theorem i64_mask (n : Int) (j : Nat) (m : Int) (hm : (BitVec.ofInt 64 m).toNat = 2 ^ j - 1) (hj : j ≤ 62) : bits .and .i64 n m = n % 2 ^ j := by
  have key : (BitVec.ofInt 64 n &&& BitVec.ofInt 64 m).toNat = (n % ((2 ^ 64 : Nat) : Int)).toNat % 2 ^ j := by
    rw [BitVec.toNat_and, BitVec.toNat_ofInt, hm, Nat.and_two_pow_sub_one_eq_mod]
  show IntKind.i64.wrap ((BitVec.ofInt 64 n &&& BitVec.ofInt 64 m).toNat : Nat) = n % 2 ^ j
  rw [key]
  have hd : ((2 ^ j : Nat) : Int) ∣ ((2 ^ 64 : Nat) : Int) := by
    refine Int.natCast_dvd_natCast.2 (Nat.pow_dvd_pow 2 (by omega))
  have h0 : (0 : Int) < ((2 ^ j : Nat) : Int) := by exact_mod_cast Nat.two_pow_pos j
  have hle : ((2 ^ j : Nat) : Int) ≤ 2 ^ 62 := by exact_mod_cast Nat.pow_le_pow_right (by decide) hj
  have h1 : 0 ≤ n % ((2 ^ 64 : Nat) : Int) := Int.emod_nonneg _ (by decide)
  have e : (((n % ((2 ^ 64 : Nat) : Int)).toNat % 2 ^ j : Nat) : Int) = n % 2 ^ j := by
    rw [Int.natCast_emod, Int.toNat_of_nonneg h1, Int.emod_emod_of_dvd _ hd]
    norm_cast
  rw [e]
  have h2 : 0 ≤ n % 2 ^ j := Int.emod_nonneg _ (by have := h0; norm_cast at this ⊢; omega)
  have h3 : n % 2 ^ j < 2 ^ j := Int.emod_lt_of_pos _ (by exact_mod_cast h0)
  have h4 : (2 : Int) ^ j ≤ 2 ^ 62 := by exact_mod_cast hle
  rw [IntKind.wrap_i64]
  have : (2 : Int) ^ 62 = 4611686018427387904 := by decide
  omega
theorem mask4095 (n : Int) : bits .and .i64 n 4095 = n % 4096 := i64_mask n 12 4095 (by decide) (by decide)
theorem mask63 (n : Int) : bits .and .i64 n 63 = n % 64 := i64_mask n 6 63 (by decide) (by decide)
theorem mask1023 (n : Int) : bits .and .i64 n 1023 = n % 1024 := i64_mask n 10 1023 (by decide) (by decide)

theorem ofI_mono (a b c d t x y z t' x' y' z' : Int) (ht : t ≤ t') (hx : x ≤ x') (hy : y ≤ y') (hz : z' ≤ z) : ofI a b c d t x y z ≤ ofI a b c d t' x' y' z' := by
  unfold ofI
  by_cases h : rightB a b c d = true
  · rw [if_pos h, if_pos h]
    obtain ⟨ha, hb, hc, hd⟩ := (rightB_iff a b c d).1 h
    unfold pr
    have h1 := Int.mul_le_mul_of_nonneg_left (age_mono t t' ht) ha.1
    have h2 := Int.mul_le_mul_of_nonneg_left (near_mono x x' 0 64 hx) hb.1
    have h3 := Int.mul_le_mul_of_nonneg_left (near_mono y y' 0 1000 hy) hc.1
    have h4 := Int.mul_le_mul_of_nonneg_left (near_mono z' z (-100) 100 hz) hd.1
    omega
  · rw [if_neg h, if_neg h]; exact Int.le_refl _

theorem ofI_zero (a b c d t x y z : Int) (h : rightB a b c d = false) : ofI a b c d t x y z = 0 := by unfold ofI; rw [if_neg (by simp [h])]

theorem Of_ge (a b c d t x y z : Int) : ∀ n, prio_Weights_Of.f (6 + n) a b c d t x y z = some (ofI a b c d t x y z)
  | 0 => Of_is a b c d t x y z
  | n + 1 => prio_Weights_Of.mono a b c d t x y z (6 + n) _ (Of_ge a b c d t x y z n)

theorem j6_ok (A a b c d t x y z m0 m1 m2 m3 t' x' y' z' : Int) (q : Bool) (h0 : rightB a b c d = false → A = 0)
    (h1 : q = true → wrap64 (z - m3 % 64) = z - m3 % 64 ∧ A ≤ ofI a b c d t' x' y' (z - m3 % 64)) (h2 : q = false → A ≤ ofI a b c d t' x' y' z') :
    berthinglaw13_PrioAges.j6 (6 + 1) A q a b c d t x y z m0 m1 m2 m3 t' x' y' z' = some true := by
  have hR : prio_Weights_Right.f a b c d = some (rightB a b c d) := Right_is a b c d
  rw [berthinglaw13_PrioAges.j6]
  cases q with
  | true =>
    obtain ⟨e, hle⟩ := h1 rfl
    rw [if_pos rfl, mask63, e, Of_is]
    simp only [Option.bind_some]
    rw [if_pos (show ofI a b c d t' x' y' (z - m3 % 64) ≥ A from hle), hR]
    simp only [Option.bind_some]
    by_cases h : rightB a b c d = true
    · rw [if_pos h, one_is]; rfl
    · rw [if_neg h, if_pos (h0 (by simpa using h)), one_is]; rfl
  | false =>
    have hle := h2 rfl
    rw [if_neg (by decide), Of_is]
    simp only [Option.bind_some]
    rw [if_pos (show ofI a b c d t' x' y' z' ≥ A from hle), hR]
    simp only [Option.bind_some]
    by_cases h : rightB a b c d = true
    · rw [if_pos h, one_is]; rfl
    · rw [if_neg h, if_pos (h0 (by simpa using h)), one_is]; rfl

theorem j5_ok (A a b c d t x y z m0 m1 m2 m3 t' x' y' : Int) (h0 : rightB a b c d = false → A = 0) (h : A ≤ ofI a b c d t' x' y' z) :
    berthinglaw13_PrioAges.j5 (7 + 1) A a b c d t x y z m0 m1 m2 m3 t' x' y' z = some true := by
  have hm : ofI a b c d t' x' y' z ≤ ofI a b c d t' x' y' (z - m3 % 64) := ofI_mono _ _ _ _ _ _ _ _ _ _ _ _ (Int.le_refl _) (Int.le_refl _) (Int.le_refl _) (by omega)
  rw [berthinglaw13_PrioAges.j5]
  by_cases c1 : z > -1000
  · rw [if_pos c1]
    refine j6_ok _ _ _ _ _ _ _ _ _ _ _ _ _ _ _ _ _ _ h0 (fun hq => ⟨w64 _ ?_, by omega⟩) (fun _ => h)
    have := of_decide_eq_true hq
    omega
  · rw [if_neg c1]
    exact j6_ok _ _ _ _ _ _ _ _ _ _ _ _ _ _ _ _ _ _ h0 (fun hq => by cases hq) (fun _ => h)

theorem j4_ok (A a b c d t x y z m0 m1 m2 m3 t' x' : Int) (q : Bool) (hq : q = true → -5000 < y ∧ y < 5000) (h0 : rightB a b c d = false → A = 0) (h : A ≤ ofI a b c d t' x' y z) :
    berthinglaw13_PrioAges.j4 (8 + 1) A q a b c d t x y z m0 m1 m2 m3 t' x' y z = some true := by
  have hm : ofI a b c d t' x' y z ≤ ofI a b c d t' x' (y + m2 % 1024) z := ofI_mono _ _ _ _ _ _ _ _ _ _ _ _ (Int.le_refl _) (Int.le_refl _) (by omega) (Int.le_refl _)
  rw [berthinglaw13_PrioAges.j4]
  cases q with
  | true =>
    have := hq rfl
    rw [if_pos rfl, mask1023, w64 (y + m2 % 1024) (by omega)]
    exact j5_ok _ _ _ _ _ _ _ _ _ _ _ _ _ _ _ _ h0 (by omega)
  | false =>
    rw [if_neg (by decide)]
    exact j5_ok _ _ _ _ _ _ _ _ _ _ _ _ _ _ _ _ h0 h
theorem j3_ok (A a b c d t x y z m0 m1 m2 m3 t' x' : Int) (h0 : rightB a b c d = false → A = 0) (h : A ≤ ofI a b c d t' x' y z) :
    berthinglaw13_PrioAges.j3 (9 + 1) A a b c d t x y z m0 m1 m2 m3 t' x' y z = some true := by
  rw [berthinglaw13_PrioAges.j3]
  by_cases c1 : y > -5000
  · rw [if_pos c1]
    exact j4_ok _ _ _ _ _ _ _ _ _ _ _ _ _ _ _ _ (fun hq => ⟨by omega, of_decide_eq_true hq⟩) h0 h
  · rw [if_neg c1]
    exact j4_ok _ _ _ _ _ _ _ _ _ _ _ _ _ _ _ _ (fun hq => by cases hq) h0 h
theorem j2_ok (A a b c d t x y z m0 m1 m2 m3 t' : Int) (q : Bool) (hq : q = true → -1000 < x ∧ x < 1000) (h0 : rightB a b c d = false → A = 0) (h : A ≤ ofI a b c d t' x y z) :
    berthinglaw13_PrioAges.j2 (10 + 1) A q a b c d t x y z m0 m1 m2 m3 t' x y z = some true := by
  have hm : ofI a b c d t' x y z ≤ ofI a b c d t' (x + m1 % 64) y z := ofI_mono _ _ _ _ _ _ _ _ _ _ _ _ (Int.le_refl _) (by omega) (Int.le_refl _) (Int.le_refl _)
  rw [berthinglaw13_PrioAges.j2]
  cases q with
  | true =>
    have := hq rfl
    rw [if_pos rfl, mask63, w64 (x + m1 % 64) (by omega)]
    exact j3_ok _ _ _ _ _ _ _ _ _ _ _ _ _ _ _ h0 (by omega)
  | false =>
    rw [if_neg (by decide)]
    exact j3_ok _ _ _ _ _ _ _ _ _ _ _ _ _ _ _ h0 h
theorem j1_ok (A a b c d t x y z m0 m1 m2 m3 t' : Int) (h0 : rightB a b c d = false → A = 0) (h : A ≤ ofI a b c d t' x y z) :
    berthinglaw13_PrioAges.j1 (11 + 1) A a b c d t x y z m0 m1 m2 m3 t' x y z = some true := by
  rw [berthinglaw13_PrioAges.j1]
  by_cases c1 : x > -1000
  · rw [if_pos c1]
    exact j2_ok _ _ _ _ _ _ _ _ _ _ _ _ _ _ _ (fun hq => ⟨by omega, of_decide_eq_true hq⟩) h0 h
  · rw [if_neg c1]
    exact j2_ok _ _ _ _ _ _ _ _ _ _ _ _ _ _ _ (fun hq => by cases hq) h0 h
theorem j0_ok (A a b c d t x y z m0 m1 m2 m3 : Int) (q : Bool) (hq : q = true → 0 ≤ t ∧ t < 1099511627776) (h0 : rightB a b c d = false → A = 0) (h : A ≤ ofI a b c d t x y z) :
    berthinglaw13_PrioAges.j0 (12 + 1) A q a b c d t x y z m0 m1 m2 m3 t x y z = some true := by
  have hm : ofI a b c d t x y z ≤ ofI a b c d (t + m0 % 4096) x y z := ofI_mono _ _ _ _ _ _ _ _ _ _ _ _ (by omega) (Int.le_refl _) (Int.le_refl _) (Int.le_refl _)
  rw [berthinglaw13_PrioAges.j0]
  cases q with
  | true =>
    have := hq rfl
    rw [if_pos rfl, mask4095, w64 (t + m0 % 4096) (by omega)]
    exact j1_ok _ _ _ _ _ _ _ _ _ _ _ _ _ _ h0 (by omega)
  | false =>
    rw [if_neg (by decide)]
    exact j1_ok _ _ _ _ _ _ _ _ _ _ _ _ _ _ h0 h
theorem PrioAges (a b c d t x y z m0 m1 m2 m3 : Int) : berthinglaw13_PrioAges.f 13 a b c d t x y z m0 m1 m2 m3 = some true := by
  unfold berthinglaw13_PrioAges.f
  rw [Of_ge a b c d t x y z 7]
  simp only [Option.bind_some]
  have h0 : rightB a b c d = false → ofI a b c d t x y z = 0 := ofI_zero _ _ _ _ _ _ _ _
  by_cases c1 : t ≥ 0
  · rw [if_pos c1]
    exact j0_ok _ _ _ _ _ _ _ _ _ _ _ _ _ _ (fun hq => ⟨c1, of_decide_eq_true hq⟩) h0 (Int.le_refl _)
  · rw [if_neg c1]
    exact j0_ok _ _ _ _ _ _ _ _ _ _ _ _ _ _ (fun hq => by cases hq) h0 (Int.le_refl _)
end Go.Proofs.Ytcbhnjkmjiokgaa.PPPrio
