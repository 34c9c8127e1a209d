/- The reference's Sort, in plain Lean: each item is put ahead of all at the end that it stands ahead of; what comes of it are the items in order. -/
import Derived.Test.YtcbhnjkmjiokgaaE8
import Derived.Test.YtcbhnjkmjiokgaaH2
namespace Go.Proofs.Ytcbhnjkmjiokgaa.PPPrio
open Go.RowKit Go.Proofs.YtcbhnjkmjiokgaaW.PrintWords Go.Proofs.YtcbhnjkmjiokgaaW.PrintMore
set_option linter.unusedVariables false
set_option linter.unusedSimpArgs false

def cv (a : S39) : S38 := ⟨a.f0, a.f1⟩
def ltR (a b : S39) : Bool := ltI (cv a) (cv b)
theorem Less_is (a b : S39) : berthingref13_Less.f a.f0 a.f1 b.f0 b.f1 = some (ltR a b) := by
  unfold berthingref13_Less.f ltR ltI cv
  by_cases h1 : a.f1 > b.f1
  · rw [if_pos h1]; simp [show b.f1 < a.f1 from h1]
  · rw [if_neg h1]
    by_cases h2 : a.f1 = b.f1
    · rw [if_pos h2]; simp [h2]
    · rw [if_neg h2]; simp [h2]; omega
def posR (x : S39) (out : List S39) : Nat → Nat
  | 0 => 0
  | k + 1 => if ltR x (out.getD k z39) = true then posR x out k else k + 1
def putR (x : S39) (out : List S39) : List S39 := out.take (posR x out out.length) ++ [x] ++ out.drop (posR x out out.length)
def refN (l : List S39) : Nat → List S39
  | 0 => []
  | i + 1 => putR (l.getD i z39) (refN l i)
theorem posR_le (x : S39) (out : List S39) : ∀ k, posR x out k ≤ k
  | 0 => Nat.le_refl _
  | k + 1 => by
    unfold posR
    split
    · exact Nat.le_succ_of_le (posR_le x out k)
    · exact Nat.le_refl _
theorem posR_up (x : S39) (out : List S39) : ∀ k j, posR x out k ≤ j → j < k → ltR x (out.getD j z39) = true
  | 0, j, _, h => absurd h (Nat.not_lt_zero _)
  | k + 1, j, h1, h2 => by
    unfold posR at h1
    split at h1
    · rename_i h
      rcases Nat.lt_or_ge j k with h3 | h3
      · exact posR_up x out k j h1 h3
      · obtain rfl : j = k := by omega
        exact h
    · omega
theorem posR_dn (x : S39) (out : List S39) : ∀ k, 0 < posR x out k → ltR x (out.getD (posR x out k - 1) z39) = false
  | 0, h => absurd h (Nat.lt_irrefl _)
  | k + 1, h => by
    by_cases c : ltR x (out.getD k z39) = true
    · have e : posR x out (k + 1) = posR x out k := by rw [posR, if_pos c]
      rw [e] at h ⊢
      exact posR_dn x out k h
    · have e : posR x out (k + 1) = k + 1 := by rw [posR, if_neg c]
      rw [e]
      simpa using c
theorem putR_len (x : S39) (out : List S39) : (putR x out).length = out.length + 1 := by
  have := posR_le x out out.length
  unfold putR
  simp
  omega
theorem refN_len (l : List S39) : ∀ i, (refN l i).length = i
  | 0 => rfl
  | i + 1 => by rw [refN, putR_len, refN_len l i]
def AscR (l : List S39) : Prop := l.Pairwise (fun a b => ltR b a = false)
theorem putR_asc (x : S39) (out : List S39) (h : AscR out) : AscR (putR x out) := by
  have hp := posR_le x out out.length
  have hx1 : ∀ a ∈ out.take (posR x out out.length), ltR x a = false := by
    intro a ha
    obtain ⟨j, hj, rfl⟩ := List.mem_iff_getElem.1 ha
    rw [List.getElem_take]
    have hj2 : j < posR x out out.length := by rw [List.length_take] at hj; omega
    have hd := posR_dn x out out.length (by omega)
    rcases Nat.lt_or_ge j (posR x out out.length - 1) with h3 | h3
    · have hl := List.pairwise_iff_getElem.1 h j (posR x out out.length - 1) (by omega) (by omega) h3
      rw [List.getD_eq_getElem?_getD, List.getElem?_eq_getElem (by omega)] at hd
      exact le_trans' hl hd
    · obtain rfl : j = posR x out out.length - 1 := by omega
      rw [List.getD_eq_getElem?_getD, List.getElem?_eq_getElem (by omega)] at hd
      exact hd
  have hx2 : ∀ b ∈ out.drop (posR x out out.length), ltR b x = false := by
    intro b hb
    obtain ⟨j, hj, rfl⟩ := List.mem_iff_getElem.1 hb
    rw [List.getElem_drop]
    rw [List.length_drop] at hj
    have hu := posR_up x out out.length (posR x out out.length + j) (by omega) (by omega)
    rw [List.getD_eq_getElem?_getD, List.getElem?_eq_getElem (by omega)] at hu
    exact ltI_asymm hu
  have h2 := h
  unfold AscR at h2
  rw [← List.take_append_drop (posR x out out.length) out, List.pairwise_append] at h2
  obtain ⟨h3, h4, h5⟩ := h2
  unfold AscR putR
  rw [List.append_assoc, List.pairwise_append]
  refine ⟨h3, ?_, ?_⟩
  · rw [List.singleton_append, List.pairwise_cons]
    exact ⟨hx2, h4⟩
  · intro a ha b hb
    rw [List.singleton_append, List.mem_cons] at hb
    rcases hb with rfl | hb
    · exact hx1 a ha
    · exact h5 a ha b hb
theorem putR_perm (x : S39) (out : List S39) : (putR x out).Perm (x :: out) := by
  unfold putR
  rw [List.append_assoc, List.singleton_append]
  refine List.perm_middle.trans ?_
  rw [List.take_append_drop]
theorem refN_asc (l : List S39) : ∀ i, AscR (refN l i)
  | 0 => List.Pairwise.nil
  | i + 1 => putR_asc _ _ (refN_asc l i)
theorem refN_perm (l : List S39) : ∀ i, i ≤ l.length → (refN l i).Perm (l.take i)
  | 0, _ => by simp [refN]
  | i + 1, h => by
    refine (putR_perm _ _).trans ?_
    rw [List.take_succ_eq_append_getElem (by omega)]
    refine List.Perm.trans ?_ (List.perm_append_singleton _ _).symm
    rw [List.getD_eq_getElem?_getD, List.getElem?_eq_getElem (by omega)]
    exact List.Perm.cons _ (refN_perm l i (by omega))
theorem refN_sort (l : List S39) : (refN l l.length).map cv = sortI (l.map cv) := by
  refine asc_unique ?_ ?_ (sortI_asc _)
  · refine List.Perm.trans ?_ (sortI_perm _).symm
    have := (refN_perm l l.length (Nat.le_refl _)).map cv
    rwa [List.take_length] at this
  · unfold Asc
    rw [List.pairwise_map]
    exact refN_asc l l.length

def berthingref13_pos.l0 : Nat → List (S39) → List (S39) → Int → Int → Option (Int)
  | 0, _, _, _, _ => none
  | k + 1, x0, x3, x4, x5 => if x5 > 0 then (if 0 ≤ x4 then (if x4 < (x0.length : Int) then (if 0 ≤ (wrap64 (x5 - 1)) then (if (wrap64 (x5 - 1)) < (x3.length : Int) then ((berthingref13_Less.f ((rd_T39 x0 x4).f0) ((rd_T39 x0 x4).f1) ((rd_T39 x3 (wrap64 (x5 - 1))).f0) ((rd_T39 x3 (wrap64 (x5 - 1))).f1)).bind fun t144 => (if t144 = true then (berthingref13_pos.l0 k x0 x3 x4 (wrap64 (x5 - 1))) else (some x5))) else (none)) else (none)) else (none)) else (none)) else (some x5)
theorem pos_is (l0 out : List S39) (x4 : Int) (h0 : 0 ≤ x4) (h1 : x4 < (l0.length : Int)) (hb : out.length < 1099511627776) : ∀ n, n ≤ out.length → berthingref13_pos.l0 (n + 1) l0 out x4 (n : Int) = some ((posR (rd_T39 l0 x4) out n : Nat) : Int)
  | 0, _ => by rw [berthingref13_pos.l0, if_neg (by omega)]; rfl
  | n + 1, hn => by
    have e : wrap64 (((n + 1 : Nat) : Int) - 1) = (n : Int) := by rw [IntWalk.wrap64_in _ (by omega)]; omega
    rw [berthingref13_pos.l0, e, if_pos (by omega), if_pos h0, if_pos h1, if_pos (by omega), if_pos (by omega), Less_is]
    simp only [Option.bind_some]
    have er : rd_T39 out (n : Int) = out.getD n z39 := rfl
    rw [er, posR]
    by_cases c : ltR (rd_T39 l0 x4) (out.getD n z39) = true
    · rw [if_pos c, if_pos c]
      exact pos_is l0 out x4 h0 h1 hb n (by omega)
    · rw [if_neg c, if_neg c]
def berthingref13_chain.f (l0 : List (S39)) (l3 : List (S39)) (a4 : Int) (a5 : Int) : Option ((List (S39))) := (some (([] : List (S39)) : List (S39))).bind fun y142 => (if 0 ≤ a5 then (if a5 ≤ (l3.length : Int) then ((some (l3.take (a5 : Int).toNat : List (S39))).bind fun y145 => (if y142.length + y145.length < 8796093022208 then ((some (y142 ++ y145 : List (S39))).bind fun y149 => (if 0 ≤ a4 then (if a4 < (l0.length : Int) then ((some (([(⟨(rd_T39 l0 a4).f0, (rd_T39 l0 a4).f1⟩ : S39)] : List (S39)) : List (S39))).bind fun y153 => (if y149.length + y153.length < 8796093022208 then ((some (y149 ++ y153 : List (S39))).bind fun y156 => ((some (l3.drop (a5 : Int).toNat : List (S39))).bind fun y159 => (if y156.length + y159.length < 8796093022208 then (some (y156 ++ y159)) else (none)))) else (none))) else (none)) else (none))) else (none))) else (none)) else (none))
theorem chain_is (l0 out : List S39) (x4 : Int) (h0 : 0 ≤ x4) (h1 : x4 < (l0.length : Int)) (hb : out.length < 1099511627776) : berthingref13_chain.f l0 out x4 ((posR (rd_T39 l0 x4) out out.length : Nat) : Int) = some (putR (rd_T39 l0 x4) out) := by
  have hp := posR_le (rd_T39 l0 x4) out out.length
  unfold berthingref13_chain.f
  simp only [Option.bind_some, List.nil_append, Int.toNat_natCast]
  rw [if_pos (by omega), if_pos (by omega), if_pos (by simp; omega), if_pos h0, if_pos h1, if_pos (by simp; omega), if_pos (by simp; omega)]
  rfl
def berthingref13_Sort.f (l0 : List (S39)) : Option ((List (S39))) := if l0.length < 1099511627776 then some (refN l0 l0.length) else none
end Go.Proofs.Ytcbhnjkmjiokgaa.PPPrio
