/- The reference's In: pieces that cover the span; what the law reads off them. -/
import Derived.Test.YtaeifdmabkjoiaaT1
import Derived.Test.YtaeifdmabkjoiaaP12
namespace Go.Proofs.Ytaeifdmabkjoiaa.PPU
open Go.RowKit Go.Proofs.YtaeifdmabkjoiaaW.PrintWords Go.Proofs.YtaeifdmabkjoiaaW.PrintLast Go.Proofs.YtaeifdmabkjoiaaW.PrintMore
set_option linter.unusedVariables false
set_option linter.unusedSimpArgs false

/-- xs and ms are the levels and the lengths of pieces that lie one behind the other from a to b. -/
structure Cov (F : Int → Int) (xs ms : List Int) (a b : Int) (B : Nat → Int) : Prop where
  len : xs.length = ms.length
  first : B 0 = a
  last : B xs.length = b
  piece : ∀ i, i < xs.length → B i < B (i + 1) ∧ rd ms (i : Int) = B (i + 1) - B i ∧ ∀ s, B i ≤ s → s < B (i + 1) → F s = rd xs (i : Int)
theorem rd_left (xs : List Int) (v : Int) (i : Nat) (h : i < xs.length) : rd (xs ++ [v]) (i : Int) = rd xs (i : Int) := by
  rw [rd_get _ i (by simp; omega), rd_get _ i h, List.getElem_append_left h]
theorem rd_last (xs : List Int) (v : Int) : rd (xs ++ [v]) (xs.length : Int) = v := by
  rw [rd_get _ xs.length (by simp)]
  simp
theorem Cov.snoc {F : Int → Int} {xs ms : List Int} {a b : Int} {B : Nat → Int} (h : Cov F xs ms a b B) (v m : Int) (hm : 0 < m) (hF : ∀ s, b ≤ s → s < b + m → F s = v) : Cov F (xs ++ [v]) (ms ++ [m]) a (b + m) (fun j => if j ≤ xs.length then B j else b + m) := by
  refine ⟨by simp [h.len], by simp [h.first], ?_, fun i hi => ?_⟩
  · show (if (xs ++ [v]).length ≤ xs.length then _ else _) = _
    rw [if_neg (by rw [List.length_append, List.length_singleton]; omega)]
  rw [List.length_append, List.length_singleton] at hi
  have hl := h.last
  by_cases h1 : i < xs.length
  · have hp := h.piece i h1
    rw [rd_left _ _ _ h1, rd_left _ _ _ (by have := h.len; omega)]
    rw [if_pos (by omega), if_pos (by omega)]
    exact hp
  · have e : i = xs.length := by omega
    subst e
    rw [rd_last]
    have e2 : rd (ms ++ [m]) ((xs.length : Nat) : Int) = m := by rw [h.len]; exact rd_last _ _
    rw [e2]
    rw [if_pos (Nat.le_refl _), if_neg (by omega), hl]
    exact ⟨by omega, by omega, hF⟩
theorem rat_k (first t : Int) (l : List S82) (hl : l.length ≤ 4000) : ∀ d, berthingref10_Steps_At.f (l.length + 2 + d) first l t = some (refL first l (mn (clp t) 1099511627775))
  | 0 => rat_f first t l hl
  | d + 1 => berthingref10_Steps_At.mono _ _ _ _ _ (rat_k first t l hl d)
theorem rat_kk (k : Nat) (first t : Int) (l : List S82) (hl : l.length ≤ 4000) (hk : l.length + 2 ≤ k) (h0 : 0 ≤ t) (h1 : t < 1099511627776) : berthingref10_Steps_At.f k first l t = some (refL first l t) := by
  have := rat_k first t l hl (k - (l.length + 2))
  rw [show l.length + 2 + (k - (l.length + 2)) = k by omega, clp_id h0 (by omega), show mn t 1099511627775 = t by unfold mn; split <;> omega] at this
  exact this
theorem cut_v (ta tb li e : Int) (h0 : 0 ≤ ta) (h1 : tb ≤ 1099511627776) (h2 : ta < tb ∨ (ta = 0 ∧ tb = 0)) (h3 : 0 ≤ li) (h4 : li < e) (h5 : e ≤ 1099511627776) : berthingref01_Span_Cut.f ta tb li e = some (if mx ta li < mn tb e then (mx ta li, mn tb e) else (0, 0)) := by
  have b1 : 0 ≤ mx ta li ∧ mx ta li ≤ 1099511627776 := by unfold mx; split <;> omega
  have b2 : 0 ≤ mn tb e ∧ mn tb e ≤ 1099511627776 := by unfold mn; split <;> omega
  unfold berthingref01_Span_Cut.f
  rw [rclean_f, rclean_f, clp_id h0 (by omega), clp_id (show 0 ≤ tb by omega) h1, clp_id h3 (by omega), clp_id (show 0 ≤ e by omega) h5]
  simp only [Option.bind_some]
  rw [if_neg (show ¬ li ≥ e by omega)]
  have e1 : (if ta ≥ tb then ((0 : Int), (0 : Int)) else (ta, tb)) = (ta, tb) := by
    rcases h2 with h | ⟨h, h'⟩
    · rw [if_neg (by omega)]
    · rw [h, h']; rfl
  rw [e1]
  simp only
  rw [rclean_f, clp_id b1.1 b1.2, clp_id b2.1 b2.2]
  simp only [Option.bind_some]
  by_cases h : mx ta li < mn tb e
  · rw [if_neg (by omega), if_pos h]
  · rw [if_pos (by omega), if_neg h]
/-- Where time i of a row begins; where it ends. -/
def stT (l : List Int) (i : Nat) : Int := if i < l.length then rd l (i : Int) else 1099511627776
theorem Tms.gap {l : List Int} (h : Tms l) (i : Nat) (hi : i < l.length) (x : Int) (hx : x ∈ l) : x ≤ rd l (i : Int) ∨ stT l (i + 1) ≤ x := by
  obtain ⟨j, hj, rfl⟩ := List.mem_iff_getElem.1 hx
  rw [rd_get l i hi]
  have hp := List.pairwise_iff_getElem.1 h.rise
  rcases Nat.lt_trichotomy j i with h1 | h1 | h1
  · exact .inl (Int.le_of_lt (hp j i hj hi h1))
  · subst h1; exact .inl (Int.le_refl _)
  · right
    unfold stT
    rw [if_pos (by omega), rd_get l (i + 1) (by omega)]
    rcases Nat.eq_or_lt_of_le (show i + 1 ≤ j from h1) with e | e
    · subst e; exact Int.le_refl _
    · exact Int.le_of_lt (hp (i + 1) j (by omega) hj e)
theorem Tms.st {l : List Int} (h : Tms l) (i : Nat) (hi : i < l.length) : 0 ≤ stT l i ∧ stT l i < stT l (i + 1) ∧ stT l (i + 1) ≤ 1099511627776 := by
  have h1 := h.bd _ (List.getElem_mem hi)
  have e1 : stT l i = l[i] := by unfold stT; rw [if_pos hi, rd_get l i hi]
  rw [e1]
  unfold stT
  split
  · rename_i h2
    have h3 := h.bd _ (List.getElem_mem h2)
    rw [rd_get l (i + 1) h2]
    exact ⟨h1.1, List.pairwise_iff_getElem.1 h.rise i (i + 1) hi h2 (by omega), by omega⟩
  · exact ⟨h1.1, h1.2, Int.le_refl _⟩
theorem Tms.st0 {l : List Int} (h : Tms l) : 0 < l.length ∧ stT l 0 = 0 := by
  obtain ⟨j, hj, e⟩ := List.mem_iff_getElem.1 h.zero
  refine ⟨by omega, ?_⟩
  unfold stT
  rw [if_pos (by omega), rd_get l 0 (by omega)]
  have h1 := h.bd _ (List.getElem_mem (show 0 < l.length by omega))
  rcases Nat.eq_zero_or_pos j with e2 | e2
  · subst e2; exact e
  · have := List.pairwise_iff_getElem.1 h.rise 0 j (by omega) hj e2
    omega
theorem in_l0 (first : Int) (L : List S82) (hL : L.length ≤ 4000) (l : List Int) (hT : Tms l) (hsub : ∀ x, x ∈ tmL L → x ∈ l) (hl : l.length ≤ 20000) (ta tb : Int) (h0 : 0 ≤ ta) (h1 : tb ≤ 1099511627776) (h2 : ta < tb ∨ (ta = 0 ∧ tb = 0)) :
    ∀ (d i k : Nat) (xs ms : List Int) (B : Nat → Int), l.length - i = d → i ≤ l.length → xs.length ≤ i → 2 * d + L.length + 2 < k → Cov (refL first L) xs ms ta (mx ta (mn tb (stT l i))) B →
      ∃ xs' ms' B', berthingref10_Steps_In.l0 k xs ms l i first L ta tb = some (xs', ms') ∧ Cov (refL first L) xs' ms' ta tb B' ∧ xs'.length ≤ l.length := by
  intro d
  induction d with
  | zero =>
    intro i k xs ms B hd hi hx hk hC
    obtain ⟨k, rfl⟩ : ∃ m, k = m + 1 := ⟨k - 1, by omega⟩
    refine ⟨xs, ms, B, ?_, ?_, by omega⟩
    · rw [berthingref10_Steps_In.l0, if_neg (by omega)]
    · have e : mx ta (mn tb (stT l i)) = tb := by
        unfold stT
        rw [if_neg (by omega)]
        unfold mx mn
        (repeat' split) <;> omega
      rw [e] at hC
      exact hC
  | succ d ih =>
    intro i k xs ms B hd hi hx hk hC
    obtain ⟨k, rfl⟩ : ∃ m, k = m + 1 + 1 := ⟨k - 2, by omega⟩
    have hil : i < l.length := by omega
    have hs := hT.st i hil
    have ei : stT l i = rd l (i : Int) := by unfold stT; rw [if_pos hil]
    have hgap := hT.gap i hil
    have hstep : berthingref10_Steps_In.l0 (k + 1 + 1) xs ms l i first L ta tb = berthingref10_Steps_In.j1 (k + 1) xs ms l i (stT l (i + 1)) first L ta tb := by
      rw [berthingref10_Steps_In.l0, if_pos (by omega), IntWalk.wrap64_in _ (by omega)]
      unfold stT
      by_cases h3 : i + 1 < l.length
      · rw [if_pos (by omega), if_pos (by omega), if_pos h3]
        rfl
      · rw [if_neg (by omega), if_neg h3]
    rw [hstep, berthingref10_Steps_In.j1, if_pos (by omega), if_pos (by omega), ← ei, cut_v ta tb _ _ h0 h1 h2 hs.1 hs.2.1 hs.2.2]
    simp only [Option.bind_some]
    rw [IntWalk.wrap64_in ((i : Int) + 1) (by omega), show (i : Int) + 1 = ((i + 1 : Nat) : Int) by omega]
    by_cases h3 : mx ta (stT l i) < mn tb (stT l (i + 1))
    · rw [if_pos h3]
      simp only
      rw [if_pos h3]
      have c1 : 0 ≤ mx ta (stT l i) ∧ mx ta (stT l i) < 1099511627776 := by
        have : mn tb (stT l (i + 1)) ≤ 1099511627776 := by unfold mn; split <;> omega
        have : 0 ≤ mx ta (stT l i) := by unfold mx; split <;> omega
        omega
      rw [rat_kk k first _ L hL (by omega) c1.1 c1.2]
      simp only [Option.bind_some]
      have hlen := hC.len
      rw [if_pos (by omega), if_pos (by omega), IntWalk.wrap64_in (mn tb (stT l (i + 1)) - mx ta (stT l i)) (by have : mn tb (stT l (i + 1)) ≤ 1099511627776 := by { unfold mn; split <;> omega }; omega)]
      have e1 : mx ta (mn tb (stT l i)) = mx ta (stT l i) := by
        unfold mx mn at h3 ⊢
        (repeat' split at h3) <;> (repeat' split) <;> omega
      have e2 : mx ta (mn tb (stT l (i + 1))) = mn tb (stT l (i + 1)) := by
        unfold mx mn at h3 ⊢
        (repeat' split at h3) <;> (repeat' split) <;> omega
      rw [e1] at hC
      have hsn := hC.snoc (refL first L (mx ta (stT l i))) (mn tb (stT l (i + 1)) - mx ta (stT l i)) (by omega) (fun s h5 h6 => by
        refine refL_stay first L _ _ c1.1 h5 ?_ (fun x hx h7 => ?_)
        · have : mn tb (stT l (i + 1)) ≤ 1099511627776 := by unfold mn; split <;> omega
          omega
        · have h8 : mn tb (stT l (i + 1)) ≤ stT l (i + 1) := by unfold mn; split <;> omega
          have h9 : stT l i ≤ mx ta (stT l i) := by unfold mx; split <;> omega
          rcases hgap x (hsub x hx) with h10 | h10 <;> omega)
      rw [show mx ta (stT l i) + (mn tb (stT l (i + 1)) - mx ta (stT l i)) = mx ta (mn tb (stT l (i + 1))) by omega] at hsn
      exact ih (i + 1) k _ _ _ (by omega) (by omega) (by simp; omega) (by omega) hsn
    · rw [if_neg h3]
      simp only
      rw [if_neg (Int.lt_irrefl _)]
      have e1 : mx ta (mn tb (stT l i)) = mx ta (mn tb (stT l (i + 1))) := by
        unfold mx mn at h3 ⊢
        (repeat' split at h3) <;> (repeat' split) <;> omega
      rw [e1] at hC
      exact ih (i + 1) k _ _ _ (by omega) (by omega) (by omega) (by omega) hC
theorem in_f (K : Nat) (hK : 30000 ≤ K) (first : Int) (L : List S82) (hL : L.length ≤ 4000) (a b : Int) : ∃ xs ms B, berthingref10_Steps_In.f K first L a b = some (xs, ms) ∧ Cov (refL first L) xs ms (cln a b).1 (cln a b).2 B ∧ xs.length ≤ 2 + 2 * L.length := by
  have hb := cln_bd a b
  have hT := (tm_tms L).put (cln a b).1 hb.1
  have ht := tm_len L
  have hp := putN_len (tmL L) (cln a b).1
  have hz := hT.st0
  have h2 : (cln a b).1 < (cln a b).2 ∨ ((cln a b).1 = 0 ∧ (cln a b).2 = 0) := by
    unfold cln
    split
    · exact .inr ⟨rfl, rfl⟩
    · left; show clp a < clp b; omega
  obtain ⟨xs, ms, B, e, hC, hl⟩ := in_l0 first L hL (putN (tmL L) (cln a b).1) hT (fun x hx => (putN_mem _ _ _).2 (.inl hx)) (by omega) (cln a b).1 (cln a b).2 hb.1 hb.2.2 h2 _ 0 K [] [] (fun _ => (cln a b).1) rfl (by omega) (by simp) (by omega) (by
    rw [hz.2]
    refine ⟨rfl, rfl, ?_, fun i hi => absurd hi (by simp)⟩
    show (cln a b).1 = _
    unfold mx mn
    (repeat' split) <;> omega)
  refine ⟨xs, ms, B, ?_, hC, by omega⟩
  unfold berthingref10_Steps_In.f
  rw [rclean_f]
  simp only [Option.bind_some]
  rw [times_f K first L hL (by omega)]
  simp only [Option.bind_some]
  show (berthingref10_put.f K (tmL L) (cln a b).1).bind _ = _
  rw [put_f _ _ _ (by omega) (by omega)]
  exact e

/-- What the law's loop has behind i pieces: the least, the greatest level, the area. -/
def lawS (xs ms : List Int) : Nat → Int × Int × Int
  | 0 => (0, 0, 0)
  | i + 1 => (if i = 0 ∨ rd xs (i : Int) < (lawS xs ms i).1 then rd xs (i : Int) else (lawS xs ms i).1, if i = 0 ∨ rd xs (i : Int) > (lawS xs ms i).2.1 then rd xs (i : Int) else (lawS xs ms i).2.1,
      if rd xs (i : Int) > 0 ∧ (lawS xs ms i).2.2 < 1099511627776 then (if rd ms (i : Int) > Int.tdiv 1099511627776 (rd xs (i : Int)) then 1099511627776 else min ((lawS xs ms i).2.2 + rd ms (i : Int) * rd xs (i : Int)) 1099511627776) else (lawS xs ms i).2.2)
theorem lawS_inv {F : Int → Int} {xs ms : List Int} {a b : Int} {B : Nat → Int} (h : Cov F xs ms a b B) : ∀ i, i ≤ xs.length → a ≤ B i ∧ (0 < i → a < B i) ∧ (0 < i → (∃ s, a ≤ s ∧ s < B i ∧ F s = (lawS xs ms i).1) ∧ ∀ s, a ≤ s → s < B i → (lawS xs ms i).1 ≤ F s) ∧ (0 < i → (∃ s, a ≤ s ∧ s < B i ∧ F s = (lawS xs ms i).2.1) ∧ ∀ s, a ≤ s → s < B i → F s ≤ (lawS xs ms i).2.1) ∧ (lawS xs ms i).2.2 = min (sumL F a (B i)) 1099511627776
  | 0, _ => by
    refine ⟨by rw [h.first]; exact Int.le_refl _, fun h0 => absurd h0 (Nat.lt_irrefl _), fun h0 => absurd h0 (Nat.lt_irrefl _), fun h0 => absurd h0 (Nat.lt_irrefl _), ?_⟩
    rw [h.first, sumL_empty _ _ _ (Int.le_refl _)]
    rfl
  | i + 1, hi => by
    obtain ⟨p1, p2, p3, p4, p5⟩ := lawS_inv h i (by omega)
    obtain ⟨q1, q2, q3⟩ := h.piece i (by omega)
    have hb0 : i = 0 → B i = a := fun e => by rw [e]; exact h.first
    refine ⟨by omega, fun _ => by omega, fun _ => ?_, fun _ => ?_, ?_⟩
    · show (∃ s, a ≤ s ∧ s < B (i + 1) ∧ F s = (if i = 0 ∨ rd xs (i : Int) < (lawS xs ms i).1 then rd xs (i : Int) else (lawS xs ms i).1)) ∧ ∀ s, a ≤ s → s < B (i + 1) → (if i = 0 ∨ rd xs (i : Int) < (lawS xs ms i).1 then rd xs (i : Int) else (lawS xs ms i).1) ≤ F s
      by_cases hc : i = 0 ∨ rd xs (i : Int) < (lawS xs ms i).1
      · rw [if_pos hc]
        refine ⟨⟨B i, p1, q1, q3 _ (Int.le_refl _) q1⟩, fun s h1 h2 => ?_⟩
        by_cases h3 : B i ≤ s
        · rw [q3 s h3 h2]; exact Int.le_refl _
        · rcases hc with h4 | h4
          · have := hb0 h4; omega
          · have := (p3 (by rcases Nat.eq_zero_or_pos i with e | e; · have := hb0 e; omega
                            · exact e)).2 s h1 (by omega)
            omega
      · rw [if_neg hc]
        have hpos : 0 < i := by omega
        obtain ⟨⟨s0, g1, g2, g3⟩, g4⟩ := p3 hpos
        refine ⟨⟨s0, g1, by omega, g3⟩, fun s h1 h2 => ?_⟩
        by_cases h3 : B i ≤ s
        · rw [q3 s h3 h2]; omega
        · exact g4 s h1 (by omega)
    · show (∃ s, a ≤ s ∧ s < B (i + 1) ∧ F s = (if i = 0 ∨ rd xs (i : Int) > (lawS xs ms i).2.1 then rd xs (i : Int) else (lawS xs ms i).2.1)) ∧ ∀ s, a ≤ s → s < B (i + 1) → F s ≤ (if i = 0 ∨ rd xs (i : Int) > (lawS xs ms i).2.1 then rd xs (i : Int) else (lawS xs ms i).2.1)
      by_cases hc : i = 0 ∨ rd xs (i : Int) > (lawS xs ms i).2.1
      · rw [if_pos hc]
        refine ⟨⟨B i, p1, q1, q3 _ (Int.le_refl _) q1⟩, fun s h1 h2 => ?_⟩
        by_cases h3 : B i ≤ s
        · rw [q3 s h3 h2]; exact Int.le_refl _
        · rcases hc with h4 | h4
          · have := hb0 h4; omega
          · have := (p4 (by rcases Nat.eq_zero_or_pos i with e | e; · have := hb0 e; omega
                            · exact e)).2 s h1 (by omega)
            omega
      · rw [if_neg hc]
        have hpos : 0 < i := by omega
        obtain ⟨⟨s0, g1, g2, g3⟩, g4⟩ := p4 hpos
        refine ⟨⟨s0, g1, by omega, g3⟩, fun s h1 h2 => ?_⟩
        by_cases h3 : B i ≤ s
        · rw [q3 s h3 h2]; omega
        · exact g4 s h1 (by omega)
    · show (if rd xs (i : Int) > 0 ∧ (lawS xs ms i).2.2 < 1099511627776 then (if rd ms (i : Int) > Int.tdiv 1099511627776 (rd xs (i : Int)) then 1099511627776 else min ((lawS xs ms i).2.2 + rd ms (i : Int) * rd xs (i : Int)) 1099511627776) else (lawS xs ms i).2.2) = min (sumL F a (B (i + 1))) 1099511627776
      have hs := sumL_split F a (B i) (B (i + 1)) p1 (by omega)
      have hc := sumL_const F (B i) (B (i + 1)) (rd xs (i : Int)) (by omega) q3
      have hn := sumL_nonneg F a (B i)
      rw [hs, hc, ← q2, p5]
      generalize sumL F a (B i) = S at *
      have hm : 0 < rd ms (i : Int) := by omega
      generalize rd ms (i : Int) = m at *
      generalize rd xs (i : Int) = x at *
      by_cases hx : x > 0
      · have e : max 0 x = x := by omega
        rw [e]
        have hpos : 0 < m * x := Int.mul_pos hm hx
        by_cases h1 : min S 1099511627776 < 1099511627776
        · rw [if_pos ⟨hx, h1⟩]
          by_cases h2 : m > Int.tdiv 1099511627776 x
          · rw [if_pos h2]
            have h3 : (1099511627776 : Int) < m * x := by
              rw [Int.tdiv_eq_ediv_of_nonneg (by omega)] at h2
              have := (Int.ediv_lt_iff_lt_mul hx).1 h2
              exact this
            omega
          · rw [if_neg h2]
            omega
        · rw [if_neg (fun h => h1 h.2)]
          omega
      · rw [if_neg (fun h => hx h.1), show max 0 x = 0 by omega, Int.mul_zero, Int.add_zero]
theorem lawS_least {F : Int → Int} {xs ms : List Int} {a b : Int} {B : Nat → Int} {t1 t2 m : Int} (hC : Cov F xs ms (cln t1 t2).1 (cln t1 t2).2 B) (h : Least F t1 t2 m) : (lawS xs ms xs.length).1 = m := by
  obtain ⟨p1, p2, p3, p4, p5⟩ := lawS_inv hC xs.length (Nat.le_refl _)
  rw [hC.last] at p1 p2 p3 p4
  unfold cln at p1 p2 p3 p4
  by_cases hg : clp t1 ≥ clp t2
  · rw [if_pos hg] at p2
    have e : xs.length = 0 := by
      rcases Nat.eq_zero_or_pos xs.length with e | e
      · exact e
      · exact absurd (p2 e) (by simp)
    rw [e, h.none hg]
    rfl
  · rw [if_neg hg] at p3
    have hpos : 0 < xs.length := by
      rcases Nat.eq_zero_or_pos xs.length with e | e
      · have h1 := hC.first
        have h2 := hC.last
        unfold cln at h1 h2
        rw [if_neg hg] at h1 h2
        rw [e] at h2
        simp only at h1 h2
        omega
      · exact e
    obtain ⟨⟨s, g1, g2, g3⟩, g4⟩ := p3 hpos
    obtain ⟨⟨s', k1, k2, k3⟩, k4⟩ := h.some (by omega)
    have u1 := g4 s' k1 k2
    have u2 := k4 s g1 g2
    omega
theorem lawS_most {F : Int → Int} {xs ms : List Int} {a b : Int} {B : Nat → Int} {t1 t2 m : Int} (hC : Cov F xs ms (cln t1 t2).1 (cln t1 t2).2 B) (h : Most F t1 t2 m) : (lawS xs ms xs.length).2.1 = m := by
  obtain ⟨p1, p2, p3, p4, p5⟩ := lawS_inv hC xs.length (Nat.le_refl _)
  rw [hC.last] at p1 p2 p3 p4
  unfold cln at p1 p2 p3 p4
  by_cases hg : clp t1 ≥ clp t2
  · rw [if_pos hg] at p2
    have e : xs.length = 0 := by
      rcases Nat.eq_zero_or_pos xs.length with e | e
      · exact e
      · exact absurd (p2 e) (by simp)
    rw [e, h.none hg]
    rfl
  · rw [if_neg hg] at p4
    have hpos : 0 < xs.length := by
      rcases Nat.eq_zero_or_pos xs.length with e | e
      · have h1 := hC.first
        have h2 := hC.last
        unfold cln at h1 h2
        rw [if_neg hg] at h1 h2
        rw [e] at h2
        simp only at h1 h2
        omega
      · exact e
    obtain ⟨⟨s, g1, g2, g3⟩, g4⟩ := p4 hpos
    obtain ⟨⟨s', k1, k2, k3⟩, k4⟩ := h.some (by omega)
    have u1 := g4 s' k1 k2
    have u2 := k4 s g1 g2
    omega
theorem lawS_area {F : Int → Int} {xs ms : List Int} {B : Nat → Int} {t1 t2 : Int} (hC : Cov F xs ms (cln t1 t2).1 (cln t1 t2).2 B) : (lawS xs ms xs.length).2.2 = min (sumL F (clp t1) (clp t2)) 1099511627776 := by
  obtain ⟨p1, p2, p3, p4, p5⟩ := lawS_inv hC xs.length (Nat.le_refl _)
  rw [p5, hC.last]
  unfold cln
  split
  · rename_i h
    rw [sumL_empty _ _ _ (Int.le_refl _), sumL_empty _ _ _ h]
  · rfl
theorem lawS_bd {F : Int → Int} {xs ms : List Int} {B : Nat → Int} {a b : Int} (hC : Cov F xs ms a b B) (i : Nat) (hi : i ≤ xs.length) : 0 ≤ (lawS xs ms i).2.2 ∧ (lawS xs ms i).2.2 ≤ 1099511627776 := by
  obtain ⟨p1, p2, p3, p4, p5⟩ := lawS_inv hC i hi
  have := sumL_nonneg F a (B i)
  rw [p5]
  omega
end Go.Proofs.Ytaeifdmabkjoiaa.PPU
