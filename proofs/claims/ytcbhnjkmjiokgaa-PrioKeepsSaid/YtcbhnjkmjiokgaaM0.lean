/- The plain law of priorities, without the laws' own contracts: what Of computes, the reference's Of. -/
import Derived.Test.YtcbhnjkmjiokgaaE6
import Derived.Laws.Bits128
namespace Go.Proofs.Ytcbhnjkmjiokgaa.PPPrio
open Go.RowKit Go.Proofs.YtcbhnjkmjiokgaaW.PrintWords Go.Proofs.YtcbhnjkmjiokgaaW.PrintMore
set_option linter.unusedVariables false
set_option linter.unusedSimpArgs false

def rightB (a b c d : Int) : Bool := okW a && okW b && okW c && okW d
def near (v lo hi : Int) : Int := mx lo (mn v hi)
def ageI (t : Int) : Int := mn (near t 0 1099511627776 / 16) 1000
def pr (a b c d t x y z : Int) : Int := a * ageI t + b * near x 0 64 + c * near y 0 1000 - d * near z (-100) 100
theorem near_bd (v lo hi : Int) (h : lo ≤ hi) : lo ≤ near v lo hi ∧ near v lo hi ≤ hi := by unfold near mx mn; (repeat' split) <;> omega
theorem near_mono (v v' lo hi : Int) (h : v ≤ v') : near v lo hi ≤ near v' lo hi := by unfold near mx mn; (repeat' split) <;> omega
theorem age_bd (t : Int) : 0 ≤ ageI t ∧ ageI t ≤ 1000 := by
  have := near_bd t 0 1099511627776 (by omega)
  unfold ageI mn
  split <;> omega
theorem age_mono (t t' : Int) (h : t ≤ t') : ageI t ≤ ageI t' := by
  have h1 := near_mono t t' 0 1099511627776 h
  have h2 := near_bd t 0 1099511627776 (by omega)
  unfold ageI mn
  (repeat' split) <;> omega
theorem prod_bd (w v k : Int) (hw : 0 ≤ w ∧ w ≤ 1000) (hk : 0 ≤ k ∧ k ≤ 1000) (hv : -k ≤ v ∧ v ≤ k) : -1000000 ≤ w * v ∧ w * v ≤ 1000000 := by
  have h1 : w * v ≤ w * k := Int.mul_le_mul_of_nonneg_left hv.2 hw.1
  have h2 : w * (-k) ≤ w * v := Int.mul_le_mul_of_nonneg_left hv.1 hw.1
  have h3 : w * k ≤ 1000 * 1000 := Int.mul_le_mul hw.2 hk.2 hk.1 (by omega)
  have h4 : w * (-k) = -(w * k) := by rw [Int.mul_neg]
  omega
theorem rightB_iff (a b c d : Int) : rightB a b c d = true ↔ (0 ≤ a ∧ a ≤ 1000) ∧ (0 ≤ b ∧ b ≤ 1000) ∧ (0 ≤ c ∧ c ≤ 1000) ∧ (0 ≤ d ∧ d ≤ 1000) := by
  unfold rightB okW
  simp only [Bool.and_eq_true, decide_eq_true_eq]
  omega
theorem w64 (n : Int) (h : -9223372036854775808 ≤ n ∧ n ≤ 9223372036854775807) : wrap64 n = n := IntWalk.wrap64_in n h

theorem sum4 (p q r s : Int) (hp : -1000000 ≤ p ∧ p ≤ 1000000) (hq : -1000000 ≤ q ∧ q ≤ 1000000) (hr : -1000000 ≤ r ∧ r ≤ 1000000) (hs : -1000000 ≤ s ∧ s ≤ 1000000) : prio_sum.f 6 [p, q, r, s] = some (p + q + r + s) := by
  have r0 : rd [p, q, r, s] 0 = p := rfl
  have r1 : rd [p, q, r, s] 1 = q := rfl
  have r2 : rd [p, q, r, s] 2 = r := rfl
  have r3 : rd [p, q, r, s] 3 = s := rfl
  have e1 : wrap64 1 = 1 := w64 _ (by omega)
  have e2 : wrap64 2 = 2 := w64 _ (by omega)
  have e3 : wrap64 3 = 3 := w64 _ (by omega)
  have e4 : wrap64 4 = 4 := w64 _ (by omega)
  have s1 : wrap64 p = p := w64 _ (by omega)
  have s2 : wrap64 (p + q) = p + q := w64 _ (by omega)
  have s3 : wrap64 (p + q + r) = p + q + r := w64 _ (by omega)
  have s4 : wrap64 (p + q + r + s) = p + q + r + s := w64 _ (by omega)
  simp [prio_sum.f, prio_sum.l0, r0, r1, r2, r3, e1, e2, e3, e4, s1, s2, s3, s4]
theorem clamp_is (t : Int) : tick_Clamp.f t = some (near t 0 1099511627776) := rfl
theorem within_is (v lo hi : Int) : prio_within.f v lo hi = some (near v lo hi) := rfl
theorem rnear_is (v lo hi : Int) : berthingref13_near.f v lo hi = some (near v lo hi) := rfl
theorem rclamp_is (t : Int) : berthingref01_Clamp.f t = some (near t 0 1099511627776) := by
  unfold berthingref01_Clamp.f near mx mn
  (repeat' split) <;> (first | rfl | omega | (congr 1; omega))
theorem rRight_is (a b c d : Int) : berthingref13_Weights_Right.f a b c d = some (rightB a b c d) := by
  have := Right_is a b c d
  unfold rightB
  rw [← this]; rfl
theorem terms (a b c d t x y z : Int) (h : rightB a b c d = true) : (-1000000 ≤ a * ageI t ∧ a * ageI t ≤ 1000000) ∧ (-1000000 ≤ b * near x 0 64 ∧ b * near x 0 64 ≤ 1000000) ∧ (-1000000 ≤ c * near y 0 1000 ∧ c * near y 0 1000 ≤ 1000000) ∧ (-1000000 ≤ d * near z (-100) 100 ∧ d * near z (-100) 100 ≤ 1000000) := by
  obtain ⟨ha, hb, hc, hd⟩ := (rightB_iff a b c d).1 h
  have h1 := age_bd t
  have h2 := near_bd x 0 64 (by omega)
  have h3 := near_bd y 0 1000 (by omega)
  have h4 := near_bd z (-100) 100 (by omega)
  exact ⟨prod_bd _ _ 1000 ha (by omega) (by omega), prod_bd _ _ 64 hb (by omega) (by omega), prod_bd _ _ 1000 hc (by omega) (by omega), prod_bd _ _ 100 hd (by omega) (by omega)⟩
theorem age_is (t : Int) : mn (wrap64 ((near t 0 1099511627776).tdiv 16)) 1000 = ageI t := by
  have h := near_bd t 0 1099511627776 (by omega)
  rw [Int.tdiv_eq_ediv_of_nonneg h.1, w64 _ (by omega)]
  rfl
def ofI (a b c d t x y z : Int) : Int := if rightB a b c d = true then pr a b c d t x y z else 0
theorem Of_is (a b c d t x y z : Int) : prio_Weights_Of.f 6 a b c d t x y z = some (ofI a b c d t x y z) := by
  unfold prio_Weights_Of.f ofI
  have hR : prio_Weights_Right.f a b c d = some (rightB a b c d) := Right_is a b c d
  rw [hR]
  simp only [Option.bind_some]
  by_cases h : rightB a b c d = true
  · rw [if_pos h, if_pos h, clamp_is, within_is, within_is, within_is]
    simp only [Option.bind_some]
    obtain ⟨t1, t2, t3, t4⟩ := terms a b c d t x y z h
    obtain ⟨ha, hb, hc, hd⟩ := (rightB_iff a b c d).1 h
    rw [age_is, w64 (-d) (by omega), Int.neg_mul, w64 _ (by omega), w64 _ (by omega), w64 _ (by omega), w64 _ (by omega), sum4 _ _ _ _ t1 t2 t3 (by omega)]
    simp only [Option.bind_some]
    unfold pr
    congr 1
  · rw [if_neg h, if_neg h]
theorem rOf_is (a b c d t x y z : Int) : berthingref13_Weights_Of.f a b c d t x y z = some (ofI a b c d t x y z) := by
  unfold berthingref13_Weights_Of.f ofI
  rw [rRight_is]
  simp only [Option.bind_some]
  by_cases h : rightB a b c d = true
  · rw [if_pos h, if_pos h, rclamp_is, rnear_is, rnear_is, rnear_is]
    simp only [Option.bind_some]
    obtain ⟨t1, t2, t3, t4⟩ := terms a b c d t x y z h
    rw [age_is, w64 (a * ageI t) (by omega), w64 (b * _) (by omega), w64 (c * _) (by omega), w64 (d * _) (by omega), w64 (a * ageI t + b * near x 0 64) (by omega), w64 (a * ageI t + b * near x 0 64 + c * near y 0 1000) (by omega), w64 _ (by omega)]
    rfl
  · rw [if_neg h, if_neg h]
theorem one_is : berthinglaw13_one.f 6 = some true := by
  unfold berthinglaw13_one.f
  have h1 : prio_Sort.f [(⟨2, 1⟩ : S38), (⟨1, 1⟩ : S38), (⟨3, 5⟩ : S38)] = some [⟨3, 5⟩, ⟨1, 1⟩, ⟨2, 1⟩] := by
    unfold prio_Sort.f
    rw [if_pos (by decide)]
    rfl
  rw [h1]
  simp only [Option.bind_some]
  rw [Of_is]
  have h2 : ofI 2 0 0 0 40 0 0 0 = 4 := by decide +kernel
  rw [h2]
  rfl
end Go.Proofs.Ytcbhnjkmjiokgaa.PPPrio
