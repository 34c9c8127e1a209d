/- The reference's List: right steps with the reference's levels. -/
import Derived.Test.YtaeifdmabkjoiaaT2
namespace Go.Proofs.Ytaeifdmabkjoiaa.PPU
open Go.RowKit Go.Proofs.YtaeifdmabkjoiaaW.PrintWords Go.Proofs.YtaeifdmabkjoiaaW.PrintLast Go.Proofs.YtaeifdmabkjoiaaW.PrintMore
set_option linter.unusedVariables false
set_option linter.unusedSimpArgs false

def at74 (rs : List S74) (i : Nat) : S67 := ⟨(rd_T74 rs (i : Int)).f0, (rd_T74 rs (i : Int)).f1⟩
theorem rd74_get (l : List S74) (i : Nat) (h : i < l.length) : rd_T74 l (i : Int) = l[i] := by
 unfold rd_T74
 rw [Int.toNat_natCast, List.getD_eq_getElem?_getD, List.getElem?_eq_getElem h]
 rfl
theorem at74_left (xs : List S74) (v : S74) (i : Nat) (h : i < xs.length) : at74 (xs ++ [v]) i = at74 xs i := by
 unfold at74
 rw [rd74_get _ i (by simp; omega), rd74_get _ i h, List.getElem_append_left h]
theorem at74_last (xs : List S74) (v : S74) : at74 (xs ++ [v]) xs.length = ⟨v.f0, v.f1⟩ := by
 unfold at74
 rw [rd74_get _ xs.length (by simp)]
 simp
theorem lev_congr' {n : Nat} {f g : Nat → S67} (h : ∀ i, i < n → f i = g i) (t : Int) : lev n f t = lev n g t := by
 induction n with
 | zero => rfl
 | succ n ih =>
  unfold lev
  rw [h n (Nat.lt_succ_self n), ih (fun i hi => h i (by omega))]
/-- Steps up to the time bd. -/
structure Upto (F : Int → Int) (rs : List S74) (bd : Int) : Prop where
 zero : 0 < rs.length → (at74 rs 0).f0 = 0
 lt : ∀ i j, i < j → j < rs.length → (at74 rs i).f0 < (at74 rs j).f0
 top : ∀ i, i < rs.length → (at74 rs i).f0 < bd
 lv : ∀ i, i < rs.length → -1000000 ≤ (at74 rs i).f1 ∧ (at74 rs i).f1 ≤ 1000000
 ne : ∀ i, i + 1 < rs.length → (at74 rs i).f1 ≠ (at74 rs (i + 1)).f1
 lev : ∀ s, 0 ≤ s → s < bd → lev rs.length (at74 rs) s = F s
theorem Upto.wf {F : Int → Int} {rs : List S74} (h : Upto F rs 1099511627776) (hp : 0 < rs.length) : Wf rs.length (at74 rs) := { pos := hp, zero := h.zero hp, lt := h.lt, top := h.top, lv := h.lv, ne := h.ne }
theorem Upto.nil (F : Int → Int) : Upto F [] 0 := ⟨fun h => absurd h (by simp), fun i j h1 h2 => absurd h2 (by simp), fun i h => absurd h (by simp), fun i h => absurd h (by simp), fun i h => absurd h (by simp), fun s h0 h1 => by omega⟩
theorem Upto.more {F : Int → Int} {rs : List S74} {bd bd' v : Int} (h : Upto F rs bd) (hb : bd < bd') (h0 : rs.length = 0 → bd = 0) (hv : -1000000 ≤ v ∧ v ≤ 1000000) (hF : ∀ s, bd ≤ s → s < bd' → F s = v) (hne : 0 < rs.length → (at74 rs (rs.length - 1)).f1 ≠ v) : Upto F (rs ++ [(⟨bd, v⟩ : S74)]) bd' := by
 have hlen : (rs ++ [(⟨bd, v⟩ : S74)]).length = rs.length + 1 := by simp
 have hl := at74_last rs (⟨bd, v⟩ : S74)
 have ho := fun i hi => at74_left rs (⟨bd, v⟩ : S74) i hi
 refine ⟨fun _ => ?_, fun i j h1 h2 => ?_, fun i h1 => ?_, fun i h1 => ?_, fun i h1 => ?_, fun s h1 h2 => ?_⟩
 ·rcases Nat.eq_zero_or_pos rs.length with e | e
  ·rw [e] at hl
   rw [hl]
   exact h0 e
  ·rw [ho 0 e]; exact h.zero e
 ·rw [hlen] at h2
  by_cases h3 : j < rs.length
  ·rw [ho i (by omega), ho j h3]; exact h.lt i j h1 h3
  ·have e : j = rs.length := by omega
   subst e
   rw [ho i h1, hl]
   exact h.top i h1
 ·rw [hlen] at h1
  by_cases h3 : i < rs.length
  ·rw [ho i h3]; have := h.top i h3; omega
  ·have e : i = rs.length := by omega
   subst e
   rw [hl]; exact hb
 ·rw [hlen] at h1
  by_cases h3 : i < rs.length
  ·rw [ho i h3]; exact h.lv i h3
  ·have e : i = rs.length := by omega
   subst e
   rw [hl]; exact hv
 ·rw [hlen] at h1
  by_cases h3 : i + 1 < rs.length
  ·rw [ho i (by omega), ho (i + 1) h3]; exact h.ne i h3
  ·have e : i + 1 = rs.length := by omega
   have hn := hne (by omega)
   rw [ho i (by omega), e, hl]
   rw [← e, Nat.add_sub_cancel] at hn
   exact hn
 ·rw [hlen]
  show (if (at74 (rs ++ [(⟨bd, v⟩ : S74)]) rs.length).f0 ≤ s then (at74 (rs ++ [(⟨bd, v⟩ : S74)]) rs.length).f1 else PPU.lev rs.length (at74 (rs ++ [(⟨bd, v⟩ : S74)])) s) = F s
  rw [hl]
  by_cases h3 : bd ≤ s
  ·rw [if_pos h3]
   exact (hF s h3 h2).symm
  ·rw [if_neg h3, lev_congr' ho]
   exact h.lev s h1 (by omega)
theorem Upto.same {F : Int → Int} {rs : List S74} {bd bd' v : Int} (h : Upto F rs bd) (hb : bd < bd') (hp : 0 < rs.length) (hF : ∀ s, bd ≤ s → s < bd' → F s = v) (he : (at74 rs (rs.length - 1)).f1 = v) : Upto F rs bd' := by
 refine ⟨h.zero, h.lt, fun i hi => by have := h.top i hi; omega, h.lv, h.ne, fun s h1 h2 => ?_⟩
 by_cases h3 : bd ≤ s
 ·rw [hF s h3 h2, ← he]
  have ht := h.top (rs.length - 1) (by omega)
  obtain ⟨n, hn⟩ : ∃ n, rs.length = n + 1 := ⟨rs.length - 1, by omega⟩
  rw [hn, Nat.add_sub_cancel] at ht ⊢
  show (if (at74 rs n).f0 ≤ s then (at74 rs n).f1 else PPU.lev n (at74 rs) s) = _
  rw [if_pos (by omega)]
 ·exact h.lev s h1 (by omega)
theorem list_l0 (first : Int) (L : List S82) (hL : L.length ≤ 4000) (l : List Int) (hT : Tms l) (hsub : ∀ x, x ∈ tmL L → x ∈ l) (hl : l.length ≤ 20000) :
  ∀ (d i k : Nat) (rs : List S74), l.length - i = d → i ≤ l.length → rs.length ≤ i → (0 < i → 0 < rs.length) → d + L.length + 2 < k → Upto (refL first L) rs (stT l i) →
   ∃ rs', berthingref10_Steps_List.l0 k rs l i first L = some rs' ∧ Upto (refL first L) rs' 1099511627776 ∧ rs'.length ≤ l.length ∧ (0 < l.length → 0 < rs'.length) := by
 intro d
 induction d with
 | zero =>
  intro i k rs hd hi hx hp hk hC
  obtain ⟨k, rfl⟩ : ∃ m, k = m + 1 := ⟨k - 1, by omega⟩
  refine ⟨rs, ?_, ?_, by omega, fun h => hp (by omega)⟩
  ·rw [berthingref10_Steps_List.l0, if_neg (by omega)]
  ·unfold stT at hC
   rw [if_neg (by omega)] at hC
   exact hC
 | succ d ih =>
  intro i k rs hd hi hx hp hk hC
  obtain ⟨k, rfl⟩ : ∃ m, k = m + 1 := ⟨k - 1, by omega⟩
  have hil : i < l.length := by omega
  have hs := hT.st i hil
  have ei : stT l i = rd l (i : Int) := by unfold stT; rw [if_pos hil]
  have hgap := hT.gap i hil
  have hst : ∀ s, stT l i ≤ s → s < stT l (i + 1) → refL first L s = refL first L (stT l i) := fun s h5 h6 =>
   refL_stay first L _ _ hs.1 h5 (by omega) (fun x hx h7 => by rcases hgap x (hsub x hx) with h10 | h10 <;> omega)
  have hbd := refL_bd first L (stT l i)
  have h0' : rs.length = 0 → stT l i = 0 := fun e => by
   rcases Nat.eq_zero_or_pos i with e2 | e2
   ·rw [e2]; exact hT.st0.2
   ·exact absurd (hp e2) (by omega)
  rw [berthingref10_Steps_List.l0, if_pos (by omega), if_pos (by omega), ← ei, rat_kk k first _ L hL (by omega) hs.1 (by omega)]
  simp only [Option.bind_some]
  rw [IntWalk.wrap64_in ((i : Int) + 1) (by omega), show (i : Int) + 1 = ((i + 1 : Nat) : Int) by omega]
  by_cases h3 : rs.length = 0
  ·rw [if_pos (by omega), if_pos (by omega)]
   exact ih (i + 1) k _ (by omega) (by omega) (by simp; omega) (by simp) (by omega) (hC.more hs.2.1 h0' hbd hst (fun h => absurd h (by omega)))
  ·rw [if_neg (by omega), IntWalk.wrap64_in ((rs.length : Int) - 1) (by omega), if_pos (by omega), if_pos (by omega)]
   have e5 : rd_T74 rs ((rs.length : Int) - 1) = rd_T74 rs ((rs.length - 1 : Nat) : Int) := by congr 1; omega
   rw [e5]
   by_cases h4 : (rd_T74 rs ((rs.length - 1 : Nat) : Int)).f1 = refL first L (stT l i)
   ·rw [if_pos h4]
    exact ih (i + 1) k _ (by omega) (by omega) (by omega) (by omega) (by omega) (hC.same hs.2.1 (by omega) hst h4)
   ·rw [if_neg h4, if_pos (by omega)]
    exact ih (i + 1) k _ (by omega) (by omega) (by simp; omega) (by simp) (by omega) (hC.more hs.2.1 h0' hbd hst (fun _ => h4))
theorem list_f (K : Nat) (hK : 30000 ≤ K) (first : Int) (L : List S82) (hL : L.length ≤ 4000) : ∃ rs, berthingref10_Steps_List.f K first L = some rs ∧ Wf rs.length (at74 rs) ∧ (∀ s, 0 ≤ s → s < 1099511627776 → lev rs.length (at74 rs) s = refL first L s) ∧ rs.length ≤ 2 + 2 * L.length := by
 have hT := tm_tms L
 have ht := tm_len L
 have hz := hT.st0
 obtain ⟨rs, e, hU, hl, hp⟩ := list_l0 first L hL (tmL L) hT (fun x hx => hx) (by omega) _ 0 K [] rfl (by omega) (by simp) (fun h => absurd h (Nat.lt_irrefl _)) (by omega) (by
  rw [hz.2]
  exact Upto.nil _)
 refine ⟨rs, ?_, hU.wf (hp hz.1), hU.lev, by omega⟩
 unfold berthingref10_Steps_List.f
 rw [times_f K first L hL (by omega)]
 exact e
end Go.Proofs.Ytaeifdmabkjoiaa.PPU
