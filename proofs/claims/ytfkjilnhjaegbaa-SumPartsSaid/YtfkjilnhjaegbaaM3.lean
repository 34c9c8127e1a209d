/- The plain law: the check sum of two texts by theirs. -/
import Derived.Test.YtfkjilnhjaegbaaM2
import Derived.Laws.BitsLemmas
namespace Go.Proofs.Ytfkjilnhjaegbaa.PSum
open Go.RowKit Go.Proofs.YtfkjilnhjaegbaaW.PrintWords Go.Proofs.YtfkjilnhjaegbaaW.PrintMore
set_option linter.unusedSimpArgs false
set_option linter.unusedVariables false

theorem wraps_u32 (n : Int) (h₀ : 0 ≤ n) (h₁ : n < 2 ^ 32) : IntKind.u32.wrap n = n := by rw [IntKind.wrap_u32]; omega
theorem u32_and_ffff (x : Int) (h₀ : 0 ≤ x) (h₁ : x < 4294967296) : bits .and .u32 x 65535 = x % 65536 :=
  bits_mask .u32 32 (by decide) wraps_u32 16 (by decide) x h₀ h₁
theorem cs_u32 (l : List Int) : U32 (cs l) := by
  rw [cs_parts]; unfold U32; omega
theorem cs_lo (l : List Int) : cs l % 65536 = (1 + sm l) % 65521 := by rw [cs_parts]; omega
theorem cs_hi (l : List Int) : cs l / 65536 = ((l.length : Int) + wt l) % 65521 := by rw [cs_parts]; omega

theorem both_ok (a b : List Int) (hb : b.length < 60000) : sum_Both.f (cs a) (cs b) (b.length : Int) = some (cs (a ++ b)) := by
  have ua := cs_u32 a
  have ub := cs_u32 b
  have la := cs_lo a
  have ha := cs_hi a
  have lb := cs_lo b
  have hh := cs_hi b
  unfold sum_Both.f
  have ua' : 0 ≤ cs a ∧ cs a < 4294967296 := ua
  have ub' : 0 ≤ cs b ∧ cs b < 4294967296 := ub
  rw [u32_and_ffff _ ua'.1 ua'.2, u32_and_ffff _ ub'.1 ub'.2, la, lb, ha, hh]
  clear la lb ha hh ua ub ua' ub'
  have hlen : ((a ++ b).length : Int) = (a.length : Int) + (b.length : Int) := by simp
  rw [cs_parts (a ++ b), hlen, sm_append, wt_append]
  have hm : mx (b.length : Int) 0 = (b.length : Int) := by unfold mx; rw [if_neg (by omega)]
  rw [hm]
  generalize sm a = p
  generalize sm b = q
  generalize wt a = u
  generalize wt b = v
  generalize (a.length : Int) = n
  obtain ⟨m, hm1⟩ : ∃ m : Int, (b.length : Int) = m := ⟨_, rfl⟩
  have hm0 : 0 ≤ m := by omega
  have hm2 : m < 60000 := by omega
  rw [hm1]
  clear hlen hm hb hm1
  have t : ∀ x : Int, 0 ≤ x → x.tmod 65521 = x % 65521 := fun x h => Int.tmod_eq_emod_of_nonneg h
  have e1 : IntKind.u64.wrap m = m := by rw [IntKind.wrap_u64]; omega
  rw [e1, t m hm0]
  rw [t ((1 + p) % 65521) (by omega), t ((n + u) % 65521) (by omega), t ((m + v) % 65521) (by omega), t ((1 + q) % 65521) (by omega), add_ok _ _ (by unfold U32; omega) (by unfold U32; omega)]
  simp only [Option.bind_some]
  rw [add_ok _ _ (by unfold U32; omega) (by unfold U32; omega)]
  simp only [Option.bind_some]
  have e2 : m % 65521 % 4294967296 = m := by omega
  rw [e2]
  have e3 : ((1 + p) % 65521 % 65521 + 65520) % 65521 = p % 65521 := by omega
  rw [e3]
  have e4 : IntKind.u64.wrap (p % 65521) = p % 65521 := by rw [IntKind.wrap_u64]; omega
  rw [e4]
  obtain ⟨s, hs⟩ : ∃ s, p % 65521 = s := ⟨_, rfl⟩
  have hs0 : 0 ≤ s := by omega
  have hs1 : s < 65521 := by omega
  rw [hs]
  have hp0 : 0 ≤ s * m := Int.mul_nonneg hs0 hm0
  have hp1 : s * m ≤ 65521 * 60000 := by
    have := Int.mul_le_mul (Int.le_of_lt hs1) (Int.le_of_lt hm2) hm0 (by omega)
    exact this
  have e5 : IntKind.u64.wrap (s * m) = s * m := by rw [IntKind.wrap_u64]; omega
  rw [e5, t _ hp0]
  have e6 : s * m % 65521 % 4294967296 = s * m % 65521 := by omega
  rw [e6, add_ok _ _ (by unfold U32; omega) (by unfold U32; omega)]
  simp only [Option.bind_some]
  rw [add_ok _ _ (by unfold U32; omega) (by unfold U32; omega)]
  simp only [Option.bind_some]
  unfold sum_Running_Value.f
  simp only [Option.bind_some]
  congr 1
  have hd : p = s + 65521 * (p / 65521) := by omega
  have e7 : m * p = s * m + 65521 * (m * (p / 65521)) := by
    conv => lhs; rw [hd]
    rw [Int.mul_add, Int.mul_comm m s, Int.mul_left_comm]
  generalize p / 65521 = c at hd e7
  generalize m * c = d at e7
  generalize s * m = f at *
  rw [e7]
  clear e1 e2 e3 e4 e5 e6 e7 t hp0 hp1
  have hB : (((n + u) % 65521 % 65521 + (m + v) % 65521 % 65521) % 65521 + f % 65521) % 65521 = (n + m + (u + (f + 65521 * d) + v)) % 65521 := by
    clear hs hs0 hs1 hd
    omega
  have hA : (s + (1 + q) % 65521 % 65521) % 65521 = (1 + (p + q)) % 65521 := by omega
  rw [hA, hB]
  have x0 : 0 ≤ (n + m + (u + (f + 65521 * d) + v)) % 65521 := by omega
  have x1 : (n + m + (u + (f + 65521 * d) + v)) % 65521 < 65521 := by omega
  have y0 : 0 ≤ (1 + (p + q)) % 65521 := by omega
  have y1 : (1 + (p + q)) % 65521 < 65521 := by omega
  generalize (n + m + (u + (f + 65521 * d) + v)) % 65521 = x at *
  generalize (1 + (p + q)) % 65521 = y at *
  clear hA hB hs hd
  omega
end Go.Proofs.Ytfkjilnhjaegbaa.PSum
