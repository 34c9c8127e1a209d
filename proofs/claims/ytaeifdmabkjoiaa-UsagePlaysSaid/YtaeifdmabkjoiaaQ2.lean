/- The contract of Play. -/
import Derived.Test.YtaeifdmabkjoiaaQ1
namespace Go.Proofs.Ytaeifdmabkjoiaa.PPU
open Go.RowKit Go.Proofs.YtaeifdmabkjoiaaW.PrintWords Go.Proofs.YtaeifdmabkjoiaaW.PrintLast Go.Proofs.YtaeifdmabkjoiaaW.PrintMore
set_option linter.unusedVariables false
set_option linter.unusedSimpArgs false

theorem own_c (a b : Int) (w : World) : Calls Try.prog 11 #[.agg #[.int .i64 a, .int .i64 b]] w fun e w' => e = .returned (.agg #[.int .i64 a, .int .i64 b]) ∧ Below w.heap.size w w' :=
  berthinglaw01_Own.calls a b a b w rfl
theorem Kp.blk {w w' : World} {p g N B : Nat} {L : Int → Int} {cs : Array Value} {t : TypeId} (hk : Kp w w' p g) (hS : St w p g N L) (hB : w.heap[B]? = some (.cells cs t (0, 0))) (h1 : t ≠ 58) (h2 : t ≠ 67) : w'.heap[B]? = some (.cells cs t (0, 0)) := by
  obtain ⟨cap, n, f, hI, _⟩ := hS
  obtain ⟨_, cur, hrow, _, _⟩ := hI.row
  rw [hk.block B (blk_lt hB) (fun e => by rw [e, hI.hd] at hB; simp at hB; exact h1 hB.2.symm) (fun e => by rw [e, hrow] at hB; simp at hB; exact h2 hB.2.symm)]
  exact hB
theorem St.far {w w' : World} {p g N B : Nat} {L : Int → Int} {cs : Array Value} {t : TypeId} (hS : St w p g N L) (hB : w.heap[B]? = some (.cells cs t (0, 0))) (h1 : t ≠ 58) (h2 : t ≠ 67) (hk : Kp w w' B B) : St w' p g N L := by
  have hne : p ≠ B ∧ g ≠ B := by
    obtain ⟨cap, n, f, hI, _⟩ := hS
    obtain ⟨_, cur, hrow, _, _⟩ := hI.row
    exact ⟨fun e => by rw [← e, hI.hd] at hB; simp at hB; exact h1 hB.2.symm, fun e => by rw [← e, hrow] at hB; simp at hB; exact h2 hB.2.symm⟩
  exact hS.kp hk hne.1 hne.1 hne.2 hne.2
theorem refL_add (first a b y : Int) (l : List S82) (s : Int) : addL (refL first l) a b y s = refL first (l ++ [chA a b y]) s := by
  rw [refL_snoc]
  unfold addL stepV
  rfl
theorem refL_set (first a b y : Int) (l : List S82) (s : Int) : setL (refL first l) a b y s = refL first (l ++ [chS a b y]) s := by
  rw [refL_snoc]
  unfold setL stepV
  rfl
theorem refL_for (first a : Int) (l : List S82) (s : Int) (h0 : 0 ≤ s) (h1 : s < 1099511627776) : forL (refL first l) a s = refL first (forC first a l) s := by
  have hc := clp_bd a
  unfold forL forC
  by_cases h : a ≥ 1099511627776
  · rw [if_pos h, if_neg (by omega)]
  · rw [if_neg h, refL_snoc]
    have hb := refL_bd first l (mn (clp a) 1099511627775)
    have e : wth (refL first l (mn (clp a) 1099511627775)) = refL first l (mn (clp a) 1099511627775) := by
      revert hb
      generalize refL first l (mn (clp a) 1099511627775) = x
      intro hb
      unfold wth mx mn
      (repeat' split) <;> omega
    have e2 : mn (clp a) 1099511627775 = clp a := by
      have : clp a < 1099511627776 := by unfold clp mx mn; (repeat' split) <;> omega
      unfold mn
      split <;> omega
    unfold stepV
    show _ = if clp 0 ≤ s ∧ s < clp a then (if true = true then wth _ else _) else _
    rw [if_pos rfl, e, e2, show clp 0 = 0 by decide]
    by_cases h2 : s < clp a
    · rw [if_pos ⟨by omega, h2⟩, if_pos ⟨h0, h2⟩]
    · rw [if_neg (by omega), if_neg (by omega)]
theorem forC_len (first a : Int) (l : List S82) : (forC first a l).length ≤ l.length + 1 := by
  unfold forC
  split
  · omega
  · simp
set_option maxHeartbeats 8000000 in
set_option maxRecDepth 100000 in
theorem play_c (first : Int) (A : Option Addr) (len cap : Nat) (F : Nat → ActV) (most : Nat) (w : World) (hF : Acts w A len F) (hc : len ≤ 9223372036854775807) (hm : most ≤ 200) :
    Calls Try.prog 8 #[.int .i64 first, .slice A len cap, .int .i64 most] w fun e w' => ∃ p g l A' c', e = .returned (.tuple #[ptrV p, .agg #[.int .i64 first, .slice A' l.length c']]) ∧ St w' p g (1 + 2 * most) (refL first l) ∧ RefL w' w.heap.size (.slice A' l.length c') l ∧ l.length ≤ most ∧ w.heap.size ≤ p ∧ w.heap.size ≤ g ∧ Below w.heap.size w w' := by
  have HF := Aside0.mk hF
  have hu29 := Try.underlying29
  have hu50 := Try.underlying50
  have hu38 := Try.underlying38
  have hu25 := Try.underlying25
  clear hF
  go_enter Try.func8, Try.ntmps8
  go_wp2_with fail
  have hb0 : Below w.heap.size w (w.alloc (.cells #[.int .i64 0, .slice none 0 0] 29 (0, 0))) := (Below.refl _ w).alloc (Nat.le_refl _) _
  refine (flat_c first _).mono ?_
  rintro e w1 ⟨p, g, rfl, hS, hp, hg, hb⟩
  have HB1 := Aside0.mk (below_step hb0 hb)
  have HX1 := Aside0.mk (blk_below (blk_new w (.cells #[.int .i64 0, .slice none 0 0] 29 (0, 0))) hb)
  have HS1 := Aside0.mk hS
  have hsz : (w.alloc (.cells #[.int .i64 0, .slice none 0 0] 29 (0, 0))).heap.size = w.heap.size + 1 := by simp
  rw [hsz] at hp hg
  obtain ⟨B, hB⟩ : ∃ B, B = w.heap.size := ⟨_, rfl⟩
  rw [← hB] at HX1 hp hg ⊢
  have HP := Aside0.mk (show B < p ∧ B < g by omega)
  have HBe := Aside0.mk hB
  clear hS hp hg hb hb0 hsz hB
  go_upto_block 0 with fail
  have HX2 := Aside0.mk (blk_new w1 (.cells #[.int .i64 first, .slice none 0 0] 29 (0, 0)))
  have hb2 : Below w1.heap.size w1 (w1.alloc (.cells #[.int .i64 first, .slice none 0 0] 29 (0, 0))) := (Below.refl _ w1).alloc (Nat.le_refl _) _
  have HS2 := Aside0.mk (HS1.out.below hb2)
  have HB2 := Aside0.mk (below_step HB1.out hb2)
  have HX3 := Aside0.mk (blk_below HX1.out hb2)
  have HQ := Aside0.mk (show p < w1.heap.size ∧ g < w1.heap.size ∧ B < w1.heap.size from ⟨HS1.out.lt, HS1.out.glt, blk_lt HX1.out⟩)
  obtain ⟨T, hT⟩ : ∃ T, T = w1.heap.size := ⟨_, rfl⟩
  rw [← hT] at HX2 HQ ⊢
  clear hT hb2
  go_cut [] from 10 to 74 (fun wx => Aside0 (Below w.heap.size w wx) ∧ Aside0 (wx.heap[B]? = some (.cells #[.int .i64 0, .slice none 0 0] 29 (0, 0))) ∧ Aside0 (∃ g' l A' c', B < g' ∧ St wx p g' (1 + 2 * most) (refL first l) ∧ l.length ≤ most ∧ RefL wx w.heap.size (.slice A' l.length c') l ∧ wx.heap[T]? = some (.cells #[.int .i64 first, .slice A' l.length c'] 29 (0, 0))))
  case first =>
    go_wp2_with fail
    go_loopg [10] most (fun kq v10 w' => ∃ i : Nat, most - i = kq ∧ v10 = .int .i64 i ∧ Aside0 (i ≤ most ∧ i ≤ len) ∧ Aside0 (Below w.heap.size w w') ∧ Aside0 (w'.heap[B]? = some (.cells #[.int .i64 0, .slice none 0 0] 29 (0, 0))) ∧ Aside0 (∃ g' l A' c', B < g' ∧ St w' p g' (1 + 2 * i) (refL first l) ∧ l.length ≤ i ∧ RefL w' w.heap.size (.slice A' l.length c') l ∧ w'.heap[T]? = some (.cells #[.int .i64 first, .slice A' l.length c'] 29 (0, 0))))
    case atStart => exact ⟨0, by omega, rfl, ⟨by omega⟩, HB2, HX3, ⟨⟨g, [], none, 0, HP.out.2, HS2.out, Nat.le_refl _, Kd.R_nil _ _ _ _ _, HX2.out⟩⟩⟩
    case round =>
      obtain ⟨i, hi, rfl, HI, HW, HB, HS0⟩ := hrel
      subst hi
      obtain ⟨g', l, A', c', hg', hS, hl, hR, hT⟩ := HS0.out
      have HS := Aside0.mk hS
      have HR := Aside0.mk hR
      have HT := Aside0.mk hT
      clear hS hR hT HS0
      by_cases hil : i < len
      · have h1 : decide (i < len) = true := decide_eq_true hil
        by_cases him : i < most
        · have h2 : decide (i < most) = true := decide_eq_true him
          obtain ⟨ad, rfl, c0, c1, c2, c3⟩ := HF.out.below HW.out i hil
          have hb3 : (0 : Int) ≤ (i : Int) := by omega
          have hb4 : (i : Int) < (len : Int) := by omega
          go_wp2_with fail
          refine (own_c (F i).a (F i).b _).mono ?_
          rintro e w2 ⟨rfl, hb⟩
          have hb2 : Below wr.heap.size wr w2 := below_step ((Below.refl _ wr).alloc (Nat.le_refl _) _) hb
          have hX2 := blk_below (blk_new wr (.cells #[.int .i64 (F i).k, .int .i64 (F i).a, .int .i64 (F i).b, .int .i64 (F i).y] 50 (0, 0))) hb
          obtain ⟨X, hX⟩ : ∃ X, X = wr.heap.size := ⟨_, rfl⟩
          rw [← hX] at hX2 ⊢
          obtain ⟨W, hW⟩ : ∃ W, W = w2.alloc (.cells #[.int .i64 (F i).a, .int .i64 (F i).b] 38 (0, 0)) := ⟨_, rfl⟩
          have hbW : Below w2.heap.size w2 W := by rw [hW]; exact (Below.refl _ w2).alloc (Nat.le_refl _) _
          have hbW2 : Below wr.heap.size wr W := below_step hb2 hbW
          have HWY := Aside0.mk (show W.heap[w2.heap.size]? = some (.cells #[.int .i64 (F i).a, .int .i64 (F i).b] 38 (0, 0)) by rw [hW]; exact blk_new w2 _)
          obtain ⟨Y, hY⟩ : ∃ Y, Y = w2.heap.size := ⟨_, rfl⟩
          rw [← hY] at HWY
          have HYe := Aside0.mk hY
          have HWX := Aside0.mk (blk_below hX2 hbW)
          have HWT := Aside0.mk (blk_below HT.out hbW2)
          have HWB := Aside0.mk (blk_below HB.out hbW2)
          have HWR := Aside0.mk (HR.out.below hbW2)
          have HSW := Aside0.mk (HS.out.below hbW2)
          have HWW := Aside0.mk (below_step HW.out hbW2)
          have HBW := Aside0.mk (show B < W.heap.size from blk_lt HWB.out)
          have HTw := Aside0.mk (show w.heap.size ≤ T by have := HQ.out; have := HBe.out; omega)
          have HTB := Aside0.mk (show B ≠ T by have := HQ.out; omega)
          have xx0 : w2.cell? ⟨X, 0, none⟩ = some (.int .i64 (F i).k) := (blk_cell hX2 0).trans rfl
          have xl : X < w2.heap.size := blk_lt hX2
          have HWe := Aside0.mk hW
          have x0 : W.cell? ⟨X, 0, none⟩ = some (.int .i64 (F i).k) := (blk_cell HWX.out 0).trans rfl
          have x1 : W.cell? ⟨X, 1, none⟩ = some (.int .i64 (F i).a) := (blk_cell HWX.out 1).trans rfl
          have x2 : W.cell? ⟨X, 2, none⟩ = some (.int .i64 (F i).b) := (blk_cell HWX.out 2).trans rfl
          have x3 : W.cell? ⟨X, 3, none⟩ = some (.int .i64 (F i).y) := (blk_cell HWX.out 3).trans rfl
          clear c0 c1 c2 c3 hb hb2 hX hbW hbW2 hX2 xx0 hY hW
          go_upto_region 8 with fail
          rw [← HWe.out, ← HYe.out]
          clear xl
          by_cases hk0 : (F i).k = 0
          · have hk : ((F i).k == 0) = true := by simp [hk0]
            clear hk0
            go_wp2_with fail
            refine (add_c p g' (1 + 2 * i) (refL first l) (F i).a (F i).b (F i).y _ HSW.out (by omega)).mono ?_
            rintro e w3 ⟨rfl, g3, hS3, hg3, hk3⟩
            have H3X := Aside0.mk (hk3.blk HSW.out HWX.out (by decide) (by decide))
            have H3Y := Aside0.mk (hk3.blk HSW.out HWY.out (by decide) (by decide))
            have H3T := Aside0.mk (hk3.blk HSW.out HWT.out (by decide) (by decide))
            have H3B := Aside0.mk (hk3.blk HSW.out HWB.out (by decide) (by decide))
            have H3R := Aside0.mk (HWR.out.kp HSW.out hk3)
            have H3W := Aside0.mk (HWW.out.trans (hk3.toBelow w.heap.size HWW.out.size (by have := HP.out; have := HBe.out; omega) (by have := HBe.out; omega)))
            have HG3 := Aside0.mk (show B < g3 by have := hg3; have := HBW.out; omega)
            have H3S := Aside0.mk hS3
            clear x0 x1 x2 x3 hS3 hg3 hk3
            have x0 : w3.cell? ⟨X, 0, none⟩ = some (.int .i64 (F i).k) := (blk_cell H3X.out 0).trans rfl
            have x1 : w3.cell? ⟨X, 1, none⟩ = some (.int .i64 (F i).a) := (blk_cell H3X.out 1).trans rfl
            have x2 : w3.cell? ⟨X, 2, none⟩ = some (.int .i64 (F i).b) := (blk_cell H3X.out 2).trans rfl
            have x3 : w3.cell? ⟨X, 3, none⟩ = some (.int .i64 (F i).y) := (blk_cell H3X.out 3).trans rfl
            have y0 : w3.cell? ⟨Y, 0, none⟩ = some (.int .i64 (F i).a) := (blk_cell H3Y.out 0).trans rfl
            have y1 : w3.cell? ⟨Y, 1, none⟩ = some (.int .i64 (F i).b) := (blk_cell H3Y.out 1).trans rfl
            have t0 : w3.cell? ⟨T, 0, none⟩ = some (.int .i64 first) := (blk_cell H3T.out 0).trans rfl
            have t1 : w3.cell? ⟨T, 1, none⟩ = some (.slice A' l.length c') := (blk_cell H3T.out 1).trans rfl
            go_wp2_with fail
            refine (radd_c first (F i).a (F i).b (F i).y A' c' w.heap.size l _ H3R.out (by omega) H3W.out.size).mono ?_
            rintro e w4 ⟨A4, c4, rfl, hR4, hb4⟩
            have H4T := Aside0.mk (blk_below H3T.out hb4)
            have H4B := Aside0.mk (blk_below H3B.out hb4)
            have H4S := Aside0.mk ((H3S.out.below hb4).congr (fun s _ _ => refL_add first (F i).a (F i).b (F i).y l s))
            have H4W := Aside0.mk (below_step H3W.out hb4)
            have H4R := Aside0.mk hR4
            obtain ⟨nl, hnl⟩ : ∃ nl, nl = (l ++ [chA (F i).a (F i).b (F i).y]) := ⟨_, rfl⟩
            have hnlen : nl.length ≤ l.length + 1 := by rw [hnl]; simp
            rw [← hnl] at H4S H4R ⊢
            clear x0 x1 x2 x3 y0 y1 t0 t1 hR4 hb4 hnl
            have t0 : w4.cell? ⟨T, 0, none⟩ = some (.int .i64 first) := (blk_cell H4T.out 0).trans rfl
            have t1 : w4.cell? ⟨T, 1, none⟩ = some (.slice A' l.length c') := (blk_cell H4T.out 1).trans rfl
            have tz0 := blk_frozen H4T.out 0
            have tz1 := blk_frozen H4T.out 1
            go_wp2_with fail
            have hx1 := blk_set H4T.out 0 (.int .i64 first)
            have hx2 := blk_set hx1 1 (.slice A4 nl.length c4)
            have hkT : Kp w4 ((w4.setCell ⟨T, 0, none⟩ (.int .i64 first)).setCell ⟨T, 1, none⟩ (.slice A4 nl.length c4)) T T := ((Kp.refl w4 T T).set _ _ (.inl rfl)).set _ _ (.inl rfl)
            have H5W := Aside0.mk ((H4W.out.setCell (p := ⟨T, 0, none⟩) (by have := HTw.out; show w.heap.size ≤ T; omega) (.int .i64 first)).setCell (p := ⟨T, 1, none⟩) (by have := HTw.out; show w.heap.size ≤ T; omega) (.slice A4 nl.length c4))
            have H5B := Aside0.mk (blk_far (blk_far H4B.out (p := ⟨T, 0, none⟩) HTB.out (.int .i64 first)) (p := ⟨T, 1, none⟩) HTB.out (.slice A4 nl.length c4))
            have H5S := Aside0.mk (H4S.out.far H4T.out (by decide) (by decide) hkT)
            have H5R := Aside0.mk ((H4R.out.set H4T.out (by decide) 0 (.int .i64 first)).set hx1 (by decide) 1 (.slice A4 nl.length c4))
            have H5T := Aside0.mk hx2
            clear hx1 hx2 hkT t0 t1 tz0 tz1
            go_roundg (most - (i + 1))
            case measure => omega
            case rel => exact ⟨i + 1, rfl, by go_num, ⟨by omega⟩, H5W, H5B, ⟨⟨g3, nl, A4, c4, HG3.out, H5S.out.mono (by omega), by omega, H5R.out, H5T.out⟩⟩⟩
          · have hk0b : ((F i).k == 0) = false := by simp [hk0]
            by_cases hk1 : (F i).k = 1
            · have hk : ((F i).k == 1) = true := by simp [hk1]
              clear hk1 hk0
              go_wp2_with fail
              refine (set_c p g' (1 + 2 * i) (refL first l) (F i).a (F i).b (F i).y _ HSW.out (by omega)).mono ?_
              rintro e w3 ⟨rfl, g3, hS3, hg3, hk3⟩
              have H3X := Aside0.mk (hk3.blk HSW.out HWX.out (by decide) (by decide))
              have H3Y := Aside0.mk (hk3.blk HSW.out HWY.out (by decide) (by decide))
              have H3T := Aside0.mk (hk3.blk HSW.out HWT.out (by decide) (by decide))
              have H3B := Aside0.mk (hk3.blk HSW.out HWB.out (by decide) (by decide))
              have H3R := Aside0.mk (HWR.out.kp HSW.out hk3)
              have H3W := Aside0.mk (HWW.out.trans (hk3.toBelow w.heap.size HWW.out.size (by have := HP.out; have := HBe.out; omega) (by have := HBe.out; omega)))
              have HG3 := Aside0.mk (show B < g3 by have := hg3; have := HBW.out; omega)
              have H3S := Aside0.mk hS3
              clear x0 x1 x2 x3 hS3 hg3 hk3
              have x0 : w3.cell? ⟨X, 0, none⟩ = some (.int .i64 (F i).k) := (blk_cell H3X.out 0).trans rfl
              have x1 : w3.cell? ⟨X, 1, none⟩ = some (.int .i64 (F i).a) := (blk_cell H3X.out 1).trans rfl
              have x2 : w3.cell? ⟨X, 2, none⟩ = some (.int .i64 (F i).b) := (blk_cell H3X.out 2).trans rfl
              have x3 : w3.cell? ⟨X, 3, none⟩ = some (.int .i64 (F i).y) := (blk_cell H3X.out 3).trans rfl
              have y0 : w3.cell? ⟨Y, 0, none⟩ = some (.int .i64 (F i).a) := (blk_cell H3Y.out 0).trans rfl
              have y1 : w3.cell? ⟨Y, 1, none⟩ = some (.int .i64 (F i).b) := (blk_cell H3Y.out 1).trans rfl
              have t0 : w3.cell? ⟨T, 0, none⟩ = some (.int .i64 first) := (blk_cell H3T.out 0).trans rfl
              have t1 : w3.cell? ⟨T, 1, none⟩ = some (.slice A' l.length c') := (blk_cell H3T.out 1).trans rfl
              go_wp2_with fail
              refine (rset_c first (F i).a (F i).b (F i).y A' c' w.heap.size l _ H3R.out (by omega) H3W.out.size).mono ?_
              rintro e w4 ⟨A4, c4, rfl, hR4, hb4⟩
              have H4T := Aside0.mk (blk_below H3T.out hb4)
              have H4B := Aside0.mk (blk_below H3B.out hb4)
              have H4S := Aside0.mk ((H3S.out.below hb4).congr (fun s _ _ => refL_set first (F i).a (F i).b (F i).y l s))
              have H4W := Aside0.mk (below_step H3W.out hb4)
              have H4R := Aside0.mk hR4
              obtain ⟨nl, hnl⟩ : ∃ nl, nl = (l ++ [chS (F i).a (F i).b (F i).y]) := ⟨_, rfl⟩
              have hnlen : nl.length ≤ l.length + 1 := by rw [hnl]; simp
              rw [← hnl] at H4S H4R ⊢
              clear x0 x1 x2 x3 y0 y1 t0 t1 hR4 hb4 hnl
              have t0 : w4.cell? ⟨T, 0, none⟩ = some (.int .i64 first) := (blk_cell H4T.out 0).trans rfl
              have t1 : w4.cell? ⟨T, 1, none⟩ = some (.slice A' l.length c') := (blk_cell H4T.out 1).trans rfl
              have tz0 := blk_frozen H4T.out 0
              have tz1 := blk_frozen H4T.out 1
              go_wp2_with fail
              have hx1 := blk_set H4T.out 0 (.int .i64 first)
              have hx2 := blk_set hx1 1 (.slice A4 nl.length c4)
              have hkT : Kp w4 ((w4.setCell ⟨T, 0, none⟩ (.int .i64 first)).setCell ⟨T, 1, none⟩ (.slice A4 nl.length c4)) T T := ((Kp.refl w4 T T).set _ _ (.inl rfl)).set _ _ (.inl rfl)
              have H5W := Aside0.mk ((H4W.out.setCell (p := ⟨T, 0, none⟩) (by have := HTw.out; show w.heap.size ≤ T; omega) (.int .i64 first)).setCell (p := ⟨T, 1, none⟩) (by have := HTw.out; show w.heap.size ≤ T; omega) (.slice A4 nl.length c4))
              have H5B := Aside0.mk (blk_far (blk_far H4B.out (p := ⟨T, 0, none⟩) HTB.out (.int .i64 first)) (p := ⟨T, 1, none⟩) HTB.out (.slice A4 nl.length c4))
              have H5S := Aside0.mk (H4S.out.far H4T.out (by decide) (by decide) hkT)
              have H5R := Aside0.mk ((H4R.out.set H4T.out (by decide) 0 (.int .i64 first)).set hx1 (by decide) 1 (.slice A4 nl.length c4))
              have H5T := Aside0.mk hx2
              clear hx1 hx2 hkT t0 t1 tz0 tz1
              go_roundg (most - (i + 1))
              case measure => omega
              case rel => exact ⟨i + 1, rfl, by go_num, ⟨by omega⟩, H5W, H5B, ⟨⟨g3, nl, A4, c4, HG3.out, H5S.out.mono (by omega), by omega, H5R.out, H5T.out⟩⟩⟩
            · have hk1b : ((F i).k == 1) = false := by simp [hk1]
              by_cases hk2 : (F i).k = 2
              · have hk : ((F i).k == 2) = true := by simp [hk2]
                clear hk2 hk1 hk0
                go_wp2_with fail
                refine (forget_c p g' (1 + 2 * i) (refL first l) (F i).a _ HSW.out (by omega)).mono ?_
                rintro e w3 ⟨rfl, g3, hS3, hg3, hk3⟩
                have H3X := Aside0.mk (hk3.blk HSW.out HWX.out (by decide) (by decide))
                have H3Y := Aside0.mk (hk3.blk HSW.out HWY.out (by decide) (by decide))
                have H3T := Aside0.mk (hk3.blk HSW.out HWT.out (by decide) (by decide))
                have H3B := Aside0.mk (hk3.blk HSW.out HWB.out (by decide) (by decide))
                have H3R := Aside0.mk (HWR.out.kp HSW.out hk3)
                have H3W := Aside0.mk (HWW.out.trans (hk3.toBelow w.heap.size HWW.out.size (by have := HP.out; have := HBe.out; omega) (by have := HBe.out; omega)))
                have HG3 := Aside0.mk (show B < g3 by have := hg3; have := HBW.out; omega)
                have H3S := Aside0.mk hS3
                clear x0 x1 x2 x3 hS3 hg3 hk3
                have x0 : w3.cell? ⟨X, 0, none⟩ = some (.int .i64 (F i).k) := (blk_cell H3X.out 0).trans rfl
                have x1 : w3.cell? ⟨X, 1, none⟩ = some (.int .i64 (F i).a) := (blk_cell H3X.out 1).trans rfl
                have x2 : w3.cell? ⟨X, 2, none⟩ = some (.int .i64 (F i).b) := (blk_cell H3X.out 2).trans rfl
                have x3 : w3.cell? ⟨X, 3, none⟩ = some (.int .i64 (F i).y) := (blk_cell H3X.out 3).trans rfl
                have y0 : w3.cell? ⟨Y, 0, none⟩ = some (.int .i64 (F i).a) := (blk_cell H3Y.out 0).trans rfl
                have y1 : w3.cell? ⟨Y, 1, none⟩ = some (.int .i64 (F i).b) := (blk_cell H3Y.out 1).trans rfl
                have t0 : w3.cell? ⟨T, 0, none⟩ = some (.int .i64 first) := (blk_cell H3T.out 0).trans rfl
                have t1 : w3.cell? ⟨T, 1, none⟩ = some (.slice A' l.length c') := (blk_cell H3T.out 1).trans rfl
                go_wp2_with fail
                refine (rforget_c first (F i).a A' c' l w _ H3W.out H3R.out (by omega)).mono ?_
                rintro e w4 ⟨A4, c4, rfl, hR4, hb4, htk⟩
                have H4T := Aside0.mk (htk.blk H3T.out (by decide))
                have H4B := Aside0.mk (htk.blk H3B.out (by decide))
                have H4S := Aside0.mk ((H3S.out.tk htk).congr (fun s h0 h1 => refL_for first (F i).a l s h0 h1))
                have H4W := Aside0.mk hb4
                clear htk
                have H4R := Aside0.mk hR4
                obtain ⟨nl, hnl⟩ : ∃ nl, nl = (forC first (F i).a l) := ⟨_, rfl⟩
                have hnlen : nl.length ≤ l.length + 1 := by rw [hnl]; exact forC_len _ _ _
                rw [← hnl] at H4S H4R ⊢
                clear x0 x1 x2 x3 y0 y1 t0 t1 hR4 hb4 hnl
                have t0 : w4.cell? ⟨T, 0, none⟩ = some (.int .i64 first) := (blk_cell H4T.out 0).trans rfl
                have t1 : w4.cell? ⟨T, 1, none⟩ = some (.slice A' l.length c') := (blk_cell H4T.out 1).trans rfl
                have tz0 := blk_frozen H4T.out 0
                have tz1 := blk_frozen H4T.out 1
                go_wp2_with fail
                have hx1 := blk_set H4T.out 0 (.int .i64 first)
                have hx2 := blk_set hx1 1 (.slice A4 nl.length c4)
                have hkT : Kp w4 ((w4.setCell ⟨T, 0, none⟩ (.int .i64 first)).setCell ⟨T, 1, none⟩ (.slice A4 nl.length c4)) T T := ((Kp.refl w4 T T).set _ _ (.inl rfl)).set _ _ (.inl rfl)
                have H5W := Aside0.mk ((H4W.out.setCell (p := ⟨T, 0, none⟩) (by have := HTw.out; show w.heap.size ≤ T; omega) (.int .i64 first)).setCell (p := ⟨T, 1, none⟩) (by have := HTw.out; show w.heap.size ≤ T; omega) (.slice A4 nl.length c4))
                have H5B := Aside0.mk (blk_far (blk_far H4B.out (p := ⟨T, 0, none⟩) HTB.out (.int .i64 first)) (p := ⟨T, 1, none⟩) HTB.out (.slice A4 nl.length c4))
                have H5S := Aside0.mk (H4S.out.far H4T.out (by decide) (by decide) hkT)
                have H5R := Aside0.mk ((H4R.out.set H4T.out (by decide) 0 (.int .i64 first)).set hx1 (by decide) 1 (.slice A4 nl.length c4))
                have H5T := Aside0.mk hx2
                clear hx1 hx2 hkT t0 t1 tz0 tz1
                go_roundg (most - (i + 1))
                case measure => omega
                case rel => exact ⟨i + 1, rfl, by go_num, ⟨by omega⟩, H5W, H5B, ⟨⟨g3, nl, A4, c4, HG3.out, H5S.out.mono (by omega), by omega, H5R.out, H5T.out⟩⟩⟩
              · have hk2b : ((F i).k == 2) = false := by simp [hk2]
                go_wp2_with fail
                clear x0 x1 x2 x3
                go_roundg (most - (i + 1))
                case measure => omega
                case rel => exact ⟨i + 1, rfl, by go_num, ⟨by omega⟩, HWW, HWB, ⟨⟨g', l, A', c', hg', HSW.out.mono (by omega), by omega, HWR.out, HWT.out⟩⟩⟩
        · have h2 : decide (i < most) = false := decide_eq_false him
          go_wp2_with fail
          go_meet
          case rel => exact ⟨HW, HB, ⟨⟨g', l, A', c', hg', HS.out.mono (by have := HI.out; omega), by have := HI.out; omega, HR.out, HT.out⟩⟩⟩
      · have h1 : decide (i < len) = false := decide_eq_false hil
        go_wp2_with fail
        go_meet
        case rel => exact ⟨HW, HB, ⟨⟨g', l, A', c', hg', HS.out.mono (by have := HI.out; omega), by have := HI.out; omega, HR.out, HT.out⟩⟩⟩
  case rest =>
    obtain ⟨HW, HX, HS0⟩ := hcut
    obtain ⟨g', l, A', c', hg', hS, hl, hR, hT⟩ := HS0.out
    have HS := Aside0.mk hS
    have HR := Aside0.mk hR
    have HT := Aside0.mk hT
    clear hS hR hT HS0
    have r0 : wc.cell? ⟨T, 0, none⟩ = some (.int .i64 first) := (blk_cell HT.out 0).trans rfl
    have r1 : wc.cell? ⟨T, 1, none⟩ = some (.slice A' l.length c') := (blk_cell HT.out 1).trans rfl
    have b0 : wc.cell? ⟨B, 0, none⟩ = some (.int .i64 0) := (blk_cell HX.out 0).trans rfl
    have b1 : wc.cell? ⟨B, 1, none⟩ = some (.slice none 0 0) := (blk_cell HX.out 1).trans rfl
    have fz := fun j => blk_frozen HX.out j
    have hne : B ≠ T := by have := HQ.out; omega
    go_wp2_with fail
    go_region
    all_goals
      have hx1 := blk_set HX.out 0 (.int .i64 first)
      have hx2 := blk_set hx1 1 (.slice A' l.length c')
      have e0 : (((wc.setCell ⟨B, 0, none⟩ (.int .i64 first)).setCell ⟨B, 1, none⟩ (.slice A' l.length c')).drew).cell? ⟨B, 0, none⟩ = some (.int .i64 first) := (blk_cell hx2 0).trans rfl
      have e1 : (((wc.setCell ⟨B, 0, none⟩ (.int .i64 first)).setCell ⟨B, 1, none⟩ (.slice A' l.length c')).drew).cell? ⟨B, 1, none⟩ = some (.slice A' l.length c') := (blk_cell hx2 1).trans rfl
      have HX1 := Aside0.mk hx1
      clear hx1 hx2
      go_wp2_with fail
      refine bodyPost_ret (v := .tuple #[ptrV p, .agg #[.int .i64 first, .slice A' l.length c']]) (by simp [results, Try.results8, go_sem, e0, e1]) rfl ⟨p, g', l, A', c', rfl, ?_, ?_, hl, ?_, ?_, ?_⟩
      · exact (HS.out.far HX.out (by decide) (by decide) ((((Kp.refl wc B B).set _ _ (.inl rfl)).set _ _ (.inl rfl)).drew))
      · exact ((HR.out.set HX.out (by decide) 0 (.int .i64 first)).set HX1.out (by decide) 1 (.slice A' l.length c')).below ((Below.refl _ _).drew)
      · have := HP.out; have := HBe.out; omega
      · have := HBe.out; omega
      · exact ((HW.out.setCell (p := ⟨B, 0, none⟩) (by have := HBe.out; show w.heap.size ≤ B; omega) _).setCell (p := ⟨B, 1, none⟩) (by have := HBe.out; show w.heap.size ≤ B; omega) _).drew
end Go.Proofs.Ytaeifdmabkjoiaa.PPU
