/- The plain law of PrioSorts: the items in order, and the reference's items in order, are the same. -/
import Derived.Test.YtcbhnjkmjiokgaaB2
namespace Go.Proofs.Ytcbhnjkmjiokgaa.PPPrio
open Go.RowKit Go.Proofs.YtcbhnjkmjiokgaaW.PrintWords Go.Proofs.YtcbhnjkmjiokgaaW.PrintMore
set_option linter.unusedVariables false
set_option linter.unusedSimpArgs false

theorem order_ge (x y : S38) : ∀ n, prio_order.f (3 + n) x.f0 x.f1 y.f0 y.f1 = some (ordI x y)
  | 0 => order_is x y
  | n + 1 => prio_order.mono _ _ _ _ (3 + n) _ (order_ge x y n)
theorem Less38 (x y : S38) (n : Nat) : prio_Less.f (3 + n) x.f0 x.f1 y.f0 y.f1 = some (ltI x y) := by
  unfold prio_Less.f
  rw [order_ge]
  simp only [Option.bind_some]
  rw [ordI_neg]
theorem one_ge : ∀ n, berthinglaw13_one.f (6 + n) = some true
  | 0 => one_is
  | n + 1 => berthinglaw13_one.mono (6 + n) _ (one_ge n)
theorem rd38 (x : List S38) (i : Nat) (h : i < x.length) : rd_T38 x (i : Int) = x[i] := by
  show x.getD i z38 = x[i]
  rw [List.getD_eq_getElem?_getD, List.getElem?_eq_getElem h]; rfl
theorem rd39 (x : List S39) (i : Nat) (h : i < x.length) : rd_T39 x (i : Int) = x[i] := by
  show x.getD i z39 = x[i]
  rw [List.getD_eq_getElem?_getD, List.getElem?_eq_getElem h]; rfl
theorem sl1_ok (x : List S38) (y : List S39) (hy : y.map cv = x) (hA : Asc x) (hb : x.length < 1099511627776) : ∀ m i, i + m = x.length → berthinglaw13_PrioSorts.l1 (m + 7) x y (i : Int) = some true
  | 0, i, h => by
    rw [show 0 + 7 = 6 + 1 from rfl, berthinglaw13_PrioSorts.l1, if_neg (by omega), one_ge 0]
    rfl
  | m + 1, i, h => by
    have hl : y.length = x.length := by rw [← hy, List.length_map]
    have ex : rd_T38 x (i : Int) = x[i] := rd38 x i (by omega)
    have ey : rd_T39 y (i : Int) = y[i] := rd39 y i (by omega)
    have exy : x[i] = cv y[i] := by
      have : x[i]? = (y.map cv)[i]? := by rw [hy]
      rw [List.getElem?_map, List.getElem?_eq_getElem (by omega), List.getElem?_eq_getElem (by omega)] at this
      exact Option.some.inj this
    have ew : wrap64 ((i : Int) + 1) = ((i + 1 : Nat) : Int) := by rw [IntWalk.wrap64_in _ (by omega)]; omega
    have ih := sl1_ok x y hy hA hb m (i + 1) (by omega)
    rw [show m + 1 + 7 = (m + 7) + 1 from rfl, berthinglaw13_PrioSorts.l1, if_pos (by omega), if_pos (by omega), if_pos (by omega), if_pos (by rw [ex, ey, exy]; rfl), if_pos (by rw [ex, ey, exy]; rfl), ew]
    by_cases c : (i : Int) > 0
    · have ew1 : wrap64 ((i : Int) - 1) = ((i - 1 : Nat) : Int) := by rw [IntWalk.wrap64_in _ (by omega)]; omega
      rw [if_pos c, ew1, if_pos (by omega), if_pos (by omega), rd38 x (i - 1) (by omega), ex, show m + 7 = 3 + (m + 4) by omega, Less38]
      have hlt : ltI x[i] x[i - 1] = false := List.pairwise_iff_getElem.1 hA (i - 1) i (by omega) (by omega) (by omega)
      rw [hlt]
      simp only [Option.bind_some]
      rw [if_neg (by decide), show 3 + (m + 4) = m + 7 by omega]
      exact ih
    · rw [if_neg c]
      exact ih
def vc (a : S38) : S39 := ⟨a.f0, a.f1⟩
theorem cv_vc (l : List S38) : (l.map vc).map cv = l := by
  rw [List.map_map]
  conv => rhs; rw [← List.map_id l]
  rfl
theorem sl0_ok (x : List S38) (hb : x.length < 1099511627776) : ∀ m i, i + m = x.length → berthinglaw13_PrioSorts.l0 (m + (x.length + 8)) x ((x.map vc).take i) (i : Int) = some true
  | 0, i, h => by
    obtain rfl : i = x.length := by omega
    have e1 : (x.map vc).take x.length = x.map vc := by rw [List.take_of_length_le (by simp)]
    have e2 : prio_Sort.f x = some (sortI x) := by unfold prio_Sort.f; rw [if_pos hb]
    have e3 : berthingref13_Sort.f (x.map vc) = some (refN (x.map vc) (x.map vc).length) := by unfold berthingref13_Sort.f; rw [if_pos (by simp; omega)]
    have e4 : (sortI x).length = x.length := (sortI_perm x).length_eq
    have e5 : (refN (x.map vc) (x.map vc).length).length = x.length := by rw [refN_len, List.length_map]
    rw [show 0 + (x.length + 8) = (x.length + 7) + 1 by omega, berthinglaw13_PrioSorts.l0, if_neg (by omega), e1, e2, e3]
    simp only [Option.bind_some]
    rw [if_pos (by rw [e4, e5])]
    refine sl1_ok (sortI x) _ ?_ (sortI_asc x) (by omega) x.length 0 (by omega)
    rw [refN_sort, cv_vc]
  | m + 1, i, h => by
    have ew : wrap64 ((i : Int) + 1) = ((i + 1 : Nat) : Int) := by rw [IntWalk.wrap64_in _ (by omega)]; omega
    rw [show m + 1 + (x.length + 8) = (m + (x.length + 8)) + 1 by omega, berthinglaw13_PrioSorts.l0, if_pos (by omega), if_pos (by omega), if_pos (by simp; omega), ew, rd38 x i (by omega)]
    have e : (x.map vc).take i ++ [(⟨x[i].f0, x[i].f1⟩ : S39)] = (x.map vc).take (i + 1) := by
      rw [List.take_succ_eq_append_getElem (by simp; omega), List.getElem_map]
      rfl
    rw [e]
    exact sl0_ok x hb m (i + 1) (by omega)
theorem PrioSorts (x : List S38) (hb : x.length < 1099511627776) : berthinglaw13_PrioSorts.f (x.length + (x.length + 8)) x = some true := sl0_ok x hb x.length 0 (by omega)
end Go.Proofs.Ytcbhnjkmjiokgaa.PPPrio
