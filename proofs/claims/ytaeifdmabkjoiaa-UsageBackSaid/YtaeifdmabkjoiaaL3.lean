/- The walk of UsageBack. -/
import Derived.Test.YtaeifdmabkjoiaaL2
import Derived.Lib.QuietBelow
namespace Go.Proofs.Ytaeifdmabkjoiaa.PPU
open Go.RowKit Go.Proofs.YtaeifdmabkjoiaaW.PrintWords Go.Proofs.YtaeifdmabkjoiaaW.PrintLast Go.Proofs.YtaeifdmabkjoiaaW.PrintMore
set_option linter.unusedVariables false
set_option linter.unusedSimpArgs false

set_option maxHeartbeats 8000000 in
set_option maxRecDepth 100000 in
/-- Play of no act at all. -/
theorem play0_c (w : World) : Calls Try.prog 8 #[.int .i64 0, .slice none 0 0, .int .i64 0] w fun e w' => ∃ p g, e = .returned (.tuple #[ptrV p, .agg #[.int .i64 0, .slice none 0 0]]) ∧ St w' p g 1 (fun _ => wth 0) ∧ w.heap.size ≤ p ∧ w.heap.size ≤ g ∧ Below w.heap.size w w' := by
  have hu29 := Try.underlying29
  go_enter Try.func8, Try.ntmps8
  go_wp2_with fail
  refine (flat_c 0 _).mono ?_
  rintro e w1 ⟨p, g, rfl, hS, hp, hg, hb⟩
  have hb0 : Below w.heap.size w (w.alloc (.cells #[.int .i64 0, .slice none 0 0] 29 (0, 0))) := (Below.refl _ w).alloc (Nat.le_refl _) _
  have HB1 := Aside0.mk (below_step hb0 hb)
  have HX1 := Aside0.mk (blk_below (blk_new w (.cells #[.int .i64 0, .slice none 0 0] 29 (0, 0))) hb)
  have HS1 := Aside0.mk hS
  have hsz : (w.alloc (.cells #[.int .i64 0, .slice none 0 0] 29 (0, 0))).heap.size = w.heap.size + 1 := by simp
  rw [hsz] at hp hg
  have HP := Aside0.mk (show w.heap.size < p ∧ w.heap.size < g by omega)
  obtain ⟨B, hB⟩ : ∃ B, B = w.heap.size := ⟨_, rfl⟩
  rw [← hB] at HX1 HP ⊢
  have HBe := Aside0.mk hB
  clear hS hp hg hb hb0 hsz hB
  go_wp2_with fail
  have HX2 := Aside0.mk (blk_new w1 (.cells #[.int .i64 0, .slice none 0 0] 29 (0, 0)))
  have hb2 : Below w1.heap.size w1 (w1.alloc (.cells #[.int .i64 0, .slice none 0 0] 29 (0, 0))) := (Below.refl _ w1).alloc (Nat.le_refl _) _
  have HS2 := Aside0.mk (HS1.out.below hb2)
  have HB2 := Aside0.mk (below_step HB1.out hb2)
  have HX3 := Aside0.mk (blk_below HX1.out hb2)
  have hpl : p < w1.heap.size := HS1.out.lt
  have hgl : g < w1.heap.size := HS1.out.glt
  have HQ := Aside0.mk (show p < w1.heap.size ∧ g < w1.heap.size from ⟨hpl, hgl⟩)
  obtain ⟨R, hR⟩ : ∃ R, R = w1.heap.size := ⟨_, rfl⟩
  rw [← hR] at HX2 HQ ⊢
  clear hR hb2 hpl hgl
  go_loopg [10] 0 (fun kq v w' => kq = 0 ∧ v = .int .i64 0 ∧ Aside0 (Below w.heap.size w w') ∧ Aside0 (w'.heap[B]? = some (.cells #[.int .i64 0, .slice none 0 0] 29 (0, 0))) ∧ Aside0 (w'.heap[R]? = some (.cells #[.int .i64 0, .slice none 0 0] 29 (0, 0))) ∧ Aside0 (St w' p g 1 (fun _ => wth 0)))
  case atStart => exact ⟨rfl, rfl, HB2, HX3, HX2, HS2⟩
  case round =>
    obtain ⟨rfl, rfl, HB, HX, HR, HS⟩ := hrel
    have r0 : wr.cell? ⟨R, 0, none⟩ = some (.int .i64 0) := (blk_cell HR.out 0).trans rfl
    have r1 : wr.cell? ⟨R, 1, none⟩ = some (.slice none 0 0) := (blk_cell HR.out 1).trans rfl
    have b0 : wr.cell? ⟨B, 0, none⟩ = some (.int .i64 0) := (blk_cell HX.out 0).trans rfl
    have b1 : wr.cell? ⟨B, 1, none⟩ = some (.slice none 0 0) := (blk_cell HX.out 1).trans rfl
    have fz := fun j => blk_frozen HX.out j
    have hne : B ≠ R := by have := HP.out; have := HQ.out; omega
    go_wp2_with fail
    go_region
    all_goals
      have hx := blk_set (blk_set HX.out 0 (.int .i64 0)) 1 (.slice none 0 0)
      have e0 : (((wr.setCell ⟨B, 0, none⟩ (.int .i64 0)).setCell ⟨B, 1, none⟩ (.slice none 0 0)).drew).cell? ⟨B, 0, none⟩ = some (.int .i64 0) := (blk_cell hx 0).trans rfl
      have e1 : (((wr.setCell ⟨B, 0, none⟩ (.int .i64 0)).setCell ⟨B, 1, none⟩ (.slice none 0 0)).drew).cell? ⟨B, 1, none⟩ = some (.slice none 0 0) := (blk_cell hx 1).trans rfl
      go_wp2_with fail
      refine bodyPost_ret (v := .tuple #[ptrV p, .agg #[.int .i64 0, .slice none 0 0]]) (by simp [results, Try.results8, go_sem, e0, e1]) rfl ⟨p, g, rfl, ?_, ?_, ?_, ?_⟩
      · exact HS.out.kp ((((Kp.refl wr B B).set _ _ (.inl rfl)).set _ _ (.inl rfl)).drew) (by have := HP.out; omega) (by have := HP.out; omega) (by have := HP.out; omega) (by have := HP.out; omega)
      · have := HP.out; have := HBe.out; omega
      · have := HP.out; have := HBe.out; omega
      · exact ((HB.out.setCell (by have := HBe.out; show w.heap.size ≤ B; omega) _).setCell (by have := HBe.out; show w.heap.size ≤ B; omega) _).drew
theorem tmod_bd (x : Int) : -999 ≤ x.tmod 1000 ∧ x.tmod 1000 ≤ 999 := by
  have h := Int.neg_tmod x 1000
  have h2 : (-x).tmod 1000 < 1000 := Int.tmod_lt_of_pos _ (by omega)
  have h3 : x.tmod 1000 < 1000 := Int.tmod_lt_of_pos _ (by omega)
  rw [h] at h2
  omega
theorem at_w (p g N : Nat) (L : Int → Int) (t v : Int) (w : World) (hS : St w p g N L) (hN : N ≤ 2000) (hv : L (mn (clp t) 1099511627775) = v) : Calls Try.prog 12 #[ptrV p, .int .i64 t] w fun e w' => e = .returned (.int .i64 v) ∧ Below w.heap.size w w' := by
  have h := at_c p g N L t w hS hN
  rwa [hv] at h
theorem same_v (p g N : Nat) (L : Int → Int) (p2 g2 N2 : Nat) (L2 : Int → Int) (v : Bool) (w : World) (hS : St w p g N L) (hS2 : St w p2 g2 N2 L2) (hN : N ≤ 2000) (hN2 : N2 ≤ 2000) (hv : (∀ s, 0 ≤ s → s < 1099511627776 → L s = L2 s) ↔ v = true) :
    Calls Try.prog 26 #[ptrV p, ptrV p2] w fun e w' => e = .returned (.bool v) ∧ Below w.heap.size w w' := by
  refine (same_c p g N L p2 g2 N2 L2 w hS hS2 hN hN2).mono ?_
  rintro e w' ⟨r, rfl, hr, hb⟩
  refine ⟨?_, hb⟩
  have : r = v := by
    have h := hr.trans hv
    cases r <;> cases v <;> simp_all
  rw [this]
/-- The time ahead. -/
def subV (a : Int) : Int := if clp a ≤ 1 then 0 else if clp a = 1099511627776 then 1099511627776 else clp a - 1
theorem sub_v (a : Int) (w : World) : Calls Try.prog 27 #[.int .i64 a, .int .i64 1] w fun e w' => e = .returned (.int .i64 (subV a)) ∧ Below w.heap.size w w' := by
  refine tick_Sub.calls a 1 _ w ?_
  have e1 : ∀ x, tick_Clamp.f x = some (clp x) := fun _ => rfl
  have h := clp_bd a
  unfold tick_Sub.f
  rw [e1, e1, show clp 1 = 1 by decide]
  simp only [Option.bind_some]
  unfold subV
  by_cases h1 : clp a ≤ 1
  · rw [if_pos h1, if_pos h1]
  · rw [if_neg h1, if_neg h1]
    by_cases h2 : clp a = 1099511627776
    · rw [if_pos h2, if_pos h2]
    · rw [if_neg h2, if_neg h2, IntWalk.wrap64_in _ (by omega)]
section
variable {L : Int → Int} {a b y : Int}
theorem back_in (hL : ∀ s, 0 ≤ s → s < 1099511627776 → -15984 ≤ L s ∧ L s ≤ 15984) (hy : -999 ≤ y ∧ y ≤ 999) (s : Int) (h0 : 0 ≤ s) (h1 : s < 1099511627776) : addL L a b y s = if clp a ≤ s ∧ s < clp b then L s + y else L s := by
  have := hL s h0 h1
  have e : cl2 y = y := by unfold cl2 mx mn; (repeat' split) <;> omega
  unfold addL
  rw [e]
  split
  · unfold wth mx mn
    (repeat' split) <;> omega
  · rfl
theorem back_back (hL : ∀ s, 0 ≤ s → s < 1099511627776 → -15984 ≤ L s ∧ L s ≤ 15984) (hy : -999 ≤ y ∧ y ≤ 999) (s : Int) (h0 : 0 ≤ s) (h1 : s < 1099511627776) : addL (addL L a b y) a b (-y) s = L s := by
  have h2 := back_in (a := a) (b := b) hL hy s h0 h1
  have h3 := hL s h0 h1
  have e : cl2 (-y) = -y := by unfold cl2 mx mn; (repeat' split) <;> omega
  rw [addL, e, h2]
  split
  · unfold wth mx mn
    (repeat' split) <;> omega
  · rfl
end
set_option maxHeartbeats 8000000 in
set_option maxRecDepth 100000 in
theorem back_law (A : Option Addr) (len cap : Nat) (F : Nat → ActV) (a b c : Int) (w : World) (hF : Acts w A len F) (hl : len ≤ cap) (hc : len ≤ 9223372036854775807) :
    Calls Try.prog 6 #[.slice A len cap, .agg #[.int .i64 a, .int .i64 b], .int .i64 c] w fun e w' => e = .returned (.bool true) ∧ Below w.heap.size w w' := by
  have HF := Aside0.mk hF
  have hu25 := Try.underlying25
  have hu29 := Try.underlying29
  have hu50 := Try.underlying50
  clear hF
  go_enter Try.func6, Try.ntmps6
  go_wp2_with fail
  have hb0 : Below w.heap.size w (w.alloc (.cells #[.int .i64 a, .int .i64 b] 25 (0, 0))) := (Below.refl _ w).alloc (Nat.le_refl _) _
  have hx0 := blk_new w (.cells #[.int .i64 a, .int .i64 b] 25 (0, 0))
  obtain ⟨B, hB⟩ : ∃ B, B = w.heap.size := ⟨_, rfl⟩
  have HBe := Aside0.mk hB
  refine (play0_c _).mono ?_
  rintro e w1 ⟨p, g, rfl, hS, hp, hg, hb⟩
  have hsz : (w.alloc (.cells #[.int .i64 a, .int .i64 b] 25 (0, 0))).heap.size = w.heap.size + 1 := by simp
  rw [hsz] at hp hg
  have HB1 := Aside0.mk (show Below w.heap.size w w1 from below_step hb0 hb)
  have HX1 := Aside0.mk (blk_below hx0 hb)
  rw [← hB] at HX1 hp hg ⊢
  have HS1 := Aside0.mk (hS.mono (show 1 ≤ 1 + 2 * 0 by omega))
  have hpB : B < p := by omega
  have HG1 := Aside0.mk (show B < g by omega)
  clear hb0 hx0 hb hsz hS hp hg hB
  go_upto_block 0 with fail
  go_cut [] from 9 to 39 (fun wx => Aside0 (Below w.heap.size w wx) ∧ Aside0 (wx.heap[B]? = some (.cells #[.int .i64 a, .int .i64 b] 25 (0, 0))) ∧ Aside0 (∃ g' L, B < g' ∧ St wx p g' 33 L ∧ ∀ s, 0 ≤ s → s < 1099511627776 → -15984 ≤ L s ∧ L s ≤ 15984))
  case first =>
    have hb2 : Below w1.heap.size w1 (w1.alloc (.cells #[.int .i64 0, .slice none 0 0] 29 (0, 0))) := (Below.refl _ w1).alloc (Nat.le_refl _) _
    have HB2 := Aside0.mk (below_step HB1.out hb2)
    have HX2 := Aside0.mk (blk_below HX1.out hb2)
    have HS2 := Aside0.mk (HS1.out.below hb2)
    clear hb2
    go_wp2_with fail
    go_loopg [9] 16 (fun kq v9 w' => ∃ i : Nat, 16 - i = kq ∧ v9 = .int .i64 i ∧ Aside0 (i ≤ 16 ∧ i ≤ len) ∧ Aside0 (Below w.heap.size w w') ∧ Aside0 (w'.heap[B]? = some (.cells #[.int .i64 a, .int .i64 b] 25 (0, 0))) ∧ Aside0 (∃ g' L, B < g' ∧ St w' p g' (1 + 2 * i) L ∧ ∀ s, 0 ≤ s → s < 1099511627776 → -(999 * i) ≤ L s ∧ L s ≤ 999 * i))
    case atStart => exact ⟨0, rfl, rfl, ⟨by omega⟩, HB2, HX2, ⟨⟨g, _, HG1.out, HS2.out, fun s _ _ => by show -(999 * ((0 : Nat) : Int)) ≤ wth 0 ∧ wth 0 ≤ 999 * ((0 : Nat) : Int); decide⟩⟩⟩
    case round =>
      obtain ⟨i, hi, rfl, HI, HB, HX, HS⟩ := hrel
      subst hi
      obtain ⟨g', L, hg', hS, hL⟩ := HS.out
      have HS' := Aside0.mk hS
      have HL := Aside0.mk hL
      clear hS hL
      by_cases hil : i < len
      · have h1 : decide (i < len) = true := decide_eq_true hil
        by_cases hi16 : i < 16
        · have h2 : decide (i < 16) = true := decide_eq_true hi16
          have h2' : (i : Int) < 16 := by omega
          obtain ⟨ad, rfl, c0, c1, c2, c3⟩ := HF.out.below HB.out i hil
          have hb3 : (0 : Int) ≤ (i : Int) := by omega
          have hb4 : (i : Int) < (len : Int) := by omega
          have hab : (ad.add (i * 4)).block < w.heap.size := by
            obtain ⟨ad', e, h, _⟩ := HF.out i hil
            obtain rfl := Option.some.inj e
            exact World.block_lt_of_cell? w _ h
          have HKS : Aside0 (∀ w', Kp wr w' p g' → w'.cell? ⟨(ad.add (i * 4)).block, (ad.add (i * 4)).off + 1, none⟩ = some (.int .i64 (F i).a) ∧ w'.cell? ⟨(ad.add (i * 4)).block, (ad.add (i * 4)).off + 2, none⟩ = some (.int .i64 (F i).b) ∧ w'.cell? ⟨(ad.add (i * 4)).block, (ad.add (i * 4)).off + 3, none⟩ = some (.int .i64 (F i).y)) := ⟨fun w' hk => by
            have e := hk.block (ad.add (i * 4)).block (by have := HB.out.size; omega) (by have := HBe.out; omega) (by have := HBe.out; omega)
            exact ⟨(World.cell?_of_block (a := ⟨_, _, none⟩) e).trans c1, (World.cell?_of_block (a := ⟨_, _, none⟩) e).trans c2, (World.cell?_of_block (a := ⟨_, _, none⟩) e).trans c3⟩⟩
          go_wp2_with fail
          go_region_held3 (fun w' => w'.cell? ⟨(ad.add (i * 4)).block, (ad.add (i * 4)).off + 1, none⟩ = some (.int .i64 (F i).a) ∧ w'.cell? ⟨(ad.add (i * 4)).block, (ad.add (i * 4)).off + 2, none⟩ = some (.int .i64 (F i).b) ∧ w'.cell? ⟨(ad.add (i * 4)).block, (ad.add (i * 4)).off + 3, none⟩ = some (.int .i64 (F i).y))
            (first
              | (go_keep; done)
              | (go_split_ands; exact HKS.out _ HK2.out))
            (((with_reducible refine (add_c p g' (1 + 2 * i) L (F i).a (F i).b ((F i).y.tmod 1000) _ (HS'.out.below (Below.drew (Below.refl _ _))) (by omega)).mono ?_); rintro e w2 ⟨rfl, g2, hS2, hg2, hk2⟩; have HK2 := Aside0.mk (show Kp wr w2 p g' from ((Kp.refl wr p g').drew).trans hk2 (.inl rfl)); have HS2 := Aside0.mk hS2; have HG2 := Aside0.mk (show g2 = g' ∨ wr.heap.size ≤ g2 from hg2); clear hS2 hg2 hk2))
          rename_i hHeld
          clear hHeld
          go_wp2_with fail
          have hyb := tmod_bd (F i).y
          have HR := Aside0.mk (show Below w.heap.size w w2 from HB.out.trans (HK2.out.toBelow w.heap.size HB.out.size (by have := HBe.out; omega) (by have := HBe.out; omega)))
          have HX3 := Aside0.mk ((HK2.out.block B (blk_lt HX.out) (by omega) (by omega)).trans HX.out)
          go_roundg (16 - (i + 1))
          case measure => omega
          case rel => exact ⟨i + 1, rfl, by go_num, ⟨by omega⟩, HR, HX3, ⟨⟨g2, addL L (F i).a (F i).b ((F i).y.tmod 1000), by have := HG2.out; have := blk_lt HX.out; omega, HS2.out, fun s h3 h4 => by
            have h5 := HL.out s h3 h4
            unfold addL
            split
            · rw [show cl2 ((F i).y.tmod 1000) = (F i).y.tmod 1000 by unfold cl2 mx mn; (repeat' split) <;> omega]
              unfold wth mx mn
              (repeat' split) <;> omega
            · omega⟩⟩⟩
        · have h2 : decide (i < 16) = false := decide_eq_false hi16
          have h2' : ¬ ((i : Int) < 16) := by omega
          go_wp2_with fail
          go_meet
          case rel => exact ⟨HB, HX, ⟨⟨g', L, hg', HS'.out.mono (by have := HI.out; omega), fun s h3 h4 => by have := HL.out s h3 h4; have := HI.out; omega⟩⟩⟩
      · have h1 : decide (i < len) = false := decide_eq_false hil
        go_wp2_with fail
        go_meet
        case rel => exact ⟨HB, HX, ⟨⟨g', L, hg', HS'.out.mono (by have := HI.out; omega), fun s h3 h4 => by have := HL.out s h3 h4; have := HI.out; omega⟩⟩⟩
  case rest =>
    obtain ⟨HB, HX, HS⟩ := hcut
    obtain ⟨g', L, hg', hS, hL⟩ := HS.out
    have HS' := Aside0.mk hS
    have HL := Aside0.mk hL
    clear hS hL HS HB1 HX1 HS1 HG1
    have hyb := tmod_bd c
    obtain ⟨y, hy⟩ : ∃ y, c.tmod 1000 = y := ⟨_, rfl⟩
    rw [hy] at hyb
    have HYB := Aside0.mk hyb
    have hBl : B < wc.heap.size := blk_lt HX.out
    have hpl : p < wc.heap.size := HS'.out.lt
    have hgl : g' < wc.heap.size := HS'.out.glt
    go_wp2_with fail
    refine (clone_c p g' 33 L _ HS'.out (by omega)).mono ?_
    rintro e w7 ⟨p2, g2, rfl, hS2, hp2, hg2, hb⟩
    have HB7 := Aside0.mk (below_step HB.out hb)
    have HX7 := Aside0.mk (blk_below HX.out hb)
    have HS7 := Aside0.mk (HS'.out.below hb)
    have HU7 := Aside0.mk hS2
    have HNE := Aside0.mk (show B < p2 ∧ B < g2 ∧ p < p2 ∧ p < g2 ∧ g' < p2 ∧ g' < g2 by omega)
    clear hS2 hp2 hg2 hb hBl hpl hgl
    have q0 : w7.cell? ⟨B, 0, none⟩ = some (.int .i64 a) := (blk_cell HX7.out 0).trans rfl
    have q1 : w7.cell? ⟨B, 1, none⟩ = some (.int .i64 b) := (blk_cell HX7.out 1).trans rfl
    go_wp2_with fail
    refine (add_c p g' 33 L a b y _ HS7.out (by omega)).mono ?_
    rintro e w8 ⟨rfl, g3, hS3, hg3, hk⟩
    have HB8 := Aside0.mk (HB7.out.trans (hk.toBelow w.heap.size HB7.out.size (by have := HBe.out; omega) (by have := HBe.out; omega)))
    have HX8 := Aside0.mk ((hk.block B (blk_lt HX7.out) (by omega) (by omega)).trans HX7.out)
    have HU8 := Aside0.mk (HU7.out.kp hk (by have := HNE.out; omega) (by have := HNE.out; omega) (by have := HNE.out; omega) (by have := HNE.out; omega))
    have HS8 := Aside0.mk hS3
    have HG3 := Aside0.mk (show B < g3 ∧ g3 ≠ p2 ∧ g3 ≠ g2 by
      have h1 := HNE.out
      have h2 := HU7.out.lt
      have h3 := HU7.out.glt
      have h4 := blk_lt HX7.out
      omega)
    clear q0 q1 hS3 hg3 hk hy
    have q0 : w8.cell? ⟨B, 0, none⟩ = some (.int .i64 a) := (blk_cell HX8.out 0).trans rfl
    have q1 : w8.cell? ⟨B, 1, none⟩ = some (.int .i64 b) := (blk_cell HX8.out 1).trans rfl
    have KS8 : Aside0 (∀ w', Below w8.heap.size w8 w' → w'.cell? ⟨B, 0, none⟩ = some (.int .i64 a) ∧ w'.cell? ⟨B, 1, none⟩ = some (.int .i64 b)) := ⟨fun w' hb => ⟨(blk_cell (blk_below HX8.out hb) 0).trans rfl, (blk_cell (blk_below HX8.out hb) 1).trans rfl⟩⟩
    go_upto_region 10 with fail
    go_cut [11, 12] from 49 to 54 (fun v11 v12 wx => v11 = .int .i64 (subV a) ∧ v12 = .int .i64 (clp b) ∧ Aside0 (Below w8.heap.size w8 wx))
    case first =>
      go_region_held3 (fun w' => w'.cell? ⟨B, 0, none⟩ = some (.int .i64 a) ∧ w'.cell? ⟨B, 1, none⟩ = some (.int .i64 b))
        (first
          | (go_keep; done)
          | exact KS8.out _ HBb.out
          | exact KS8.out _ HBa.out)
        (first
          | ((with_reducible refine (sub_v a _).mono ?_); rintro e x1 ⟨rfl, hb⟩; have HBa := Aside0.mk (show Below w8.heap.size w8 x1 from (Below.refl _ w8).drew.trans hb); clear hb)
          | ((with_reducible refine (clamp_c b _).mono ?_); rintro e x2 ⟨rfl, hb⟩; have HBb := Aside0.mk (show Below w8.heap.size w8 x2 from below_step HBa.out hb); clear hb))
      all_goals
        go_wp2_with fail
        go_meet
        case rel => exact ⟨by first | rfl | simp, by first | rfl | simp, HBb⟩
    case rest =>
      obtain ⟨rfl, rfl, HW8⟩ := hcut
      obtain ⟨w9, hw9⟩ : ∃ x, x = wc := ⟨_, rfl⟩
      rw [← hw9] at HW8 ⊢
      clear hw9
      have HB9 := Aside0.mk (below_step HB8.out HW8.out)
      have HX9 := Aside0.mk (blk_below HX8.out HW8.out)
      have HS9 := Aside0.mk (HS8.out.below HW8.out)
      have HU9 := Aside0.mk (HU8.out.below HW8.out)
      clear q0 q1 HW8 KS8 HB8 HX8 HS8 HU8 HB7 HX7 HS7 HU7 HB HX HS'
      have q0 : w9.cell? ⟨B, 0, none⟩ = some (.int .i64 a) := (blk_cell HX9.out 0).trans rfl
      have q1 : w9.cell? ⟨B, 1, none⟩ = some (.int .i64 b) := (blk_cell HX9.out 1).trans rfl
      have KS9 : Aside0 (∀ w', Below w9.heap.size w9 w' → w'.cell? ⟨B, 0, none⟩ = some (.int .i64 a) ∧ w'.cell? ⟨B, 1, none⟩ = some (.int .i64 b)) := ⟨fun w' hb => ⟨(blk_cell (blk_below HX9.out hb) 0).trans rfl, (blk_cell (blk_below HX9.out hb) 1).trans rfl⟩⟩
      have hca := clp_bd a
      have hcb := clp_bd b
      have HIN := Aside0.mk (fun s h0 h1 => back_in (a := a) (b := b) HL.out HYB.out s h0 h1)
      obtain ⟨v1, hv1⟩ : ∃ v, L (mn (clp (subV a)) 1099511627775) = v := ⟨_, rfl⟩
      obtain ⟨v2, hv2⟩ : ∃ v, L (mn (clp (clp b)) 1099511627775) = v := ⟨_, rfl⟩
      obtain ⟨v3, hv3⟩ : ∃ v, L (mn (clp a) 1099511627775) = v := ⟨_, rfl⟩
      have HA2 := Aside0.mk hv1
      have HA4 := Aside0.mk hv2
      have HA6 := Aside0.mk hv3
      have hsub : clp (subV a) = subV a ∧ 0 ≤ subV a ∧ (0 < clp a → clp a < 1099511627776 → subV a < clp a) := by
        have h1 : 0 ≤ subV a ∧ subV a ≤ 1099511627776 := by unfold subV; (repeat' split) <;> omega
        refine ⟨clp_id h1.1 h1.2, h1.1, fun h2 h3 => ?_⟩
        unfold subV
        (repeat' split) <;> omega
      have HSUB := Aside0.mk hsub
      have hclp0 : 0 < a → 0 < clp a := fun h => by unfold clp mx mn; (repeat' split) <;> omega
      have HCLP := Aside0.mk hclp0
      clear hv1 hv2 hv3 hsub hclp0
      go_upto_region 11 with fail
      go_cut [97] from 55 to 97 (fun v wx => v = .bool false ∧ Aside0 (Below w9.heap.size w9 wx))
      case first =>
        have k0 := cell_regrown q0
        have k1 := cell_regrown q1
        by_cases hE : clp b ≤ clp a
        · have cE := fun d os => Calls.regrown_of (empty_yes a b (Go.Sort.grow (redrawn w9 d) os) hE)
          refine wp_region_quiet_below (by kernel_rfl) (by kernel_rfl) ?_
          repeat (first | go_big_quiet_step ((first | with_reducible exact cE _ _)) | quiet_step ((first | with_reducible exact cE _ _)))
          refine wpQuiet_nil ?_
          intro _ hw'
          obtain ⟨⟨dq, osq⟩, hw''⟩ := hw'
          subst hw''
          go_wp2_with fail
          go_meet
          case rel => exact ⟨by first | rfl | simp, ⟨below_regrown w9 dq osq⟩⟩
        · have hlt : clp a < 1099511627776 := by omega
          have ha3 : mn (clp a) 1099511627775 = clp a := by unfold mn; split <;> omega
          have HA5 := Aside0.mk (show addL L a b y (mn (clp a) 1099511627775) = v3 + y by
            have h := HA6.out
            rw [ha3] at h ⊢
            rw [HIN.out (clp a) hca.1 hlt, if_pos (by omega), h])
          have hv3b := HL.out (clp a) hca.1 hlt
          have hv3c : -15984 ≤ v3 ∧ v3 ≤ 15984 := by
            have h := HA6.out
            rw [ha3] at h
            omega
          have hw3 : IntKind.i64.wrap (v3 + y) = v3 + y := IntWalk.i64_in _ (by have := HYB.out; omega)
          clear ha3 hv3b
          by_cases hP : 0 < a
          · have hP1 : decide (0 < a) = true := decide_eq_true hP
            have HA1 := Aside0.mk (show addL L a b y (mn (clp (subV a)) 1099511627775) = v1 by
              have h1 := HSUB.out
              have h2 := h1.2.2 (HCLP.out hP) hlt
              have h := HA2.out
              rw [h1.1, show mn (subV a) 1099511627775 = subV a by unfold mn; split <;> omega] at h ⊢
              rw [HIN.out _ h1.2.1 (by omega), if_neg (by omega), h])
            by_cases hN : clp b < 1099511627776
            · have hN1 : decide (clp b < 1099511627776) = true := decide_eq_true hN
              have HA3 := Aside0.mk (show addL L a b y (mn (clp (clp b)) 1099511627775) = v2 by
                have h := HA4.out
                rw [clp_id hcb.1 hcb.2, show mn (clp b) 1099511627775 = clp b by unfold mn; split <;> omega] at h ⊢
                rw [HIN.out _ hcb.1 hN, if_neg (by omega), h])
              have cE := fun d os => Calls.regrown_of (empty_no a b (Go.Sort.grow (redrawn w9 d) os) hE)
              have c1 := fun d os => Calls.regrown_of (at_w p g3 35 (addL L a b y) (subV a) v1 (Go.Sort.grow (redrawn w9 d) os) (HS9.out.below (below_regrown w9 d os)) (by omega) HA1.out)
              have c2 := fun d os => Calls.regrown_of (at_w p2 g2 33 L (subV a) v1 (Go.Sort.grow (redrawn w9 d) os) (HU9.out.below (below_regrown w9 d os)) (by omega) HA2.out)
              have c3 := fun d os => Calls.regrown_of (at_w p g3 35 (addL L a b y) (clp b) v2 (Go.Sort.grow (redrawn w9 d) os) (HS9.out.below (below_regrown w9 d os)) (by omega) HA3.out)
              have c4 := fun d os => Calls.regrown_of (at_w p2 g2 33 L (clp b) v2 (Go.Sort.grow (redrawn w9 d) os) (HU9.out.below (below_regrown w9 d os)) (by omega) HA4.out)
              have c5 := fun d os => Calls.regrown_of (at_w p g3 35 (addL L a b y) a (v3 + y) (Go.Sort.grow (redrawn w9 d) os) (HS9.out.below (below_regrown w9 d os)) (by omega) HA5.out)
              have c6 := fun d os => Calls.regrown_of (at_w p2 g2 33 L a v3 (Go.Sort.grow (redrawn w9 d) os) (HU9.out.below (below_regrown w9 d os)) (by omega) HA6.out)
              refine wp_region_quiet_below (by kernel_rfl) (by kernel_rfl) ?_
              repeat (first | go_big_quiet_step ((first | with_reducible exact cE _ _ | with_reducible exact c1 _ _ | with_reducible exact c2 _ _ | with_reducible exact c3 _ _ | with_reducible exact c4 _ _ | with_reducible exact c5 _ _ | with_reducible exact c6 _ _)) | quiet_step ((first | with_reducible exact cE _ _ | with_reducible exact c1 _ _ | with_reducible exact c2 _ _ | with_reducible exact c3 _ _ | with_reducible exact c4 _ _ | with_reducible exact c5 _ _ | with_reducible exact c6 _ _)))
              refine wpQuiet_nil ?_
              intro _ hw'
              obtain ⟨⟨dq, osq⟩, hw''⟩ := hw'
              subst hw''
              go_wp2_with fail
              go_meet
              case rel => exact ⟨by first | rfl | simp, ⟨below_regrown w9 dq osq⟩⟩
            · have hN1 : decide (clp b < 1099511627776) = false := decide_eq_false hN
              have cE := fun d os => Calls.regrown_of (empty_no a b (Go.Sort.grow (redrawn w9 d) os) hE)
              have c1 := fun d os => Calls.regrown_of (at_w p g3 35 (addL L a b y) (subV a) v1 (Go.Sort.grow (redrawn w9 d) os) (HS9.out.below (below_regrown w9 d os)) (by omega) HA1.out)
              have c2 := fun d os => Calls.regrown_of (at_w p2 g2 33 L (subV a) v1 (Go.Sort.grow (redrawn w9 d) os) (HU9.out.below (below_regrown w9 d os)) (by omega) HA2.out)
              have c3 := fun d os => Calls.regrown_of (at_w p g3 35 (addL L a b y) a (v3 + y) (Go.Sort.grow (redrawn w9 d) os) (HS9.out.below (below_regrown w9 d os)) (by omega) HA5.out)
              have c4 := fun d os => Calls.regrown_of (at_w p2 g2 33 L a v3 (Go.Sort.grow (redrawn w9 d) os) (HU9.out.below (below_regrown w9 d os)) (by omega) HA6.out)
              refine wp_region_quiet_below (by kernel_rfl) (by kernel_rfl) ?_
              repeat (first | go_big_quiet_step ((first | with_reducible exact cE _ _ | with_reducible exact c1 _ _ | with_reducible exact c2 _ _ | with_reducible exact c3 _ _ | with_reducible exact c4 _ _)) | quiet_step ((first | with_reducible exact cE _ _ | with_reducible exact c1 _ _ | with_reducible exact c2 _ _ | with_reducible exact c3 _ _ | with_reducible exact c4 _ _)))
              refine wpQuiet_nil ?_
              intro _ hw'
              obtain ⟨⟨dq, osq⟩, hw''⟩ := hw'
              subst hw''
              go_wp2_with fail
              go_meet
              case rel => exact ⟨by first | rfl | simp, ⟨below_regrown w9 dq osq⟩⟩
          · have hP1 : decide (0 < a) = false := decide_eq_false hP
            by_cases hN : clp b < 1099511627776
            · have hN1 : decide (clp b < 1099511627776) = true := decide_eq_true hN
              have HA3 := Aside0.mk (show addL L a b y (mn (clp (clp b)) 1099511627775) = v2 by
                have h := HA4.out
                rw [clp_id hcb.1 hcb.2, show mn (clp b) 1099511627775 = clp b by unfold mn; split <;> omega] at h ⊢
                rw [HIN.out _ hcb.1 hN, if_neg (by omega), h])
              have cE := fun d os => Calls.regrown_of (empty_no a b (Go.Sort.grow (redrawn w9 d) os) hE)
              have c1 := fun d os => Calls.regrown_of (at_w p g3 35 (addL L a b y) (clp b) v2 (Go.Sort.grow (redrawn w9 d) os) (HS9.out.below (below_regrown w9 d os)) (by omega) HA3.out)
              have c2 := fun d os => Calls.regrown_of (at_w p2 g2 33 L (clp b) v2 (Go.Sort.grow (redrawn w9 d) os) (HU9.out.below (below_regrown w9 d os)) (by omega) HA4.out)
              have c3 := fun d os => Calls.regrown_of (at_w p g3 35 (addL L a b y) a (v3 + y) (Go.Sort.grow (redrawn w9 d) os) (HS9.out.below (below_regrown w9 d os)) (by omega) HA5.out)
              have c4 := fun d os => Calls.regrown_of (at_w p2 g2 33 L a v3 (Go.Sort.grow (redrawn w9 d) os) (HU9.out.below (below_regrown w9 d os)) (by omega) HA6.out)
              refine wp_region_quiet_below (by kernel_rfl) (by kernel_rfl) ?_
              repeat (first | go_big_quiet_step ((first | with_reducible exact cE _ _ | with_reducible exact c1 _ _ | with_reducible exact c2 _ _ | with_reducible exact c3 _ _ | with_reducible exact c4 _ _)) | quiet_step ((first | with_reducible exact cE _ _ | with_reducible exact c1 _ _ | with_reducible exact c2 _ _ | with_reducible exact c3 _ _ | with_reducible exact c4 _ _)))
              refine wpQuiet_nil ?_
              intro _ hw'
              obtain ⟨⟨dq, osq⟩, hw''⟩ := hw'
              subst hw''
              go_wp2_with fail
              go_meet
              case rel => exact ⟨by first | rfl | simp, ⟨below_regrown w9 dq osq⟩⟩
            · have hN1 : decide (clp b < 1099511627776) = false := decide_eq_false hN
              have cE := fun d os => Calls.regrown_of (empty_no a b (Go.Sort.grow (redrawn w9 d) os) hE)
              have c1 := fun d os => Calls.regrown_of (at_w p g3 35 (addL L a b y) a (v3 + y) (Go.Sort.grow (redrawn w9 d) os) (HS9.out.below (below_regrown w9 d os)) (by omega) HA5.out)
              have c2 := fun d os => Calls.regrown_of (at_w p2 g2 33 L a v3 (Go.Sort.grow (redrawn w9 d) os) (HU9.out.below (below_regrown w9 d os)) (by omega) HA6.out)
              refine wp_region_quiet_below (by kernel_rfl) (by kernel_rfl) ?_
              repeat (first | go_big_quiet_step ((first | with_reducible exact cE _ _ | with_reducible exact c1 _ _ | with_reducible exact c2 _ _)) | quiet_step ((first | with_reducible exact cE _ _ | with_reducible exact c1 _ _ | with_reducible exact c2 _ _)))
              refine wpQuiet_nil ?_
              intro _ hw'
              obtain ⟨⟨dq, osq⟩, hw''⟩ := hw'
              subst hw''
              go_wp2_with fail
              go_meet
              case rel => exact ⟨by first | rfl | simp, ⟨below_regrown w9 dq osq⟩⟩
      case rest =>
        obtain ⟨rfl, HWa⟩ := hcut
        obtain ⟨wa, hwa⟩ : ∃ x, x = wc := ⟨_, rfl⟩
        rw [← hwa] at HWa ⊢
        clear hwa
        have HBa := Aside0.mk (below_step HB9.out HWa.out)
        have HXa := Aside0.mk (blk_below HX9.out HWa.out)
        have HSa := Aside0.mk (HS9.out.below HWa.out)
        have HUa := Aside0.mk (HU9.out.below HWa.out)
        clear q0 q1 HWa KS9 HB9 HX9 HS9 HU9
        have q0 : wa.cell? ⟨B, 0, none⟩ = some (.int .i64 a) := (blk_cell HXa.out 0).trans rfl
        have q1 : wa.cell? ⟨B, 1, none⟩ = some (.int .i64 b) := (blk_cell HXa.out 1).trans rfl
        go_upto_region 13 with fail
        go_cut [107] from 98 to 107 (fun v wx => v = .bool false ∧ Aside0 (Below wa.heap.size wa wx))
        case first =>
          by_cases hy0 : y = 0
          · have hyb0 : (y == 0) = true := by simp [hy0]
            have HV := Aside0.mk (show (∀ s, 0 ≤ s → s < 1099511627776 → addL L a b y s = L s) ↔ true = true from ⟨fun _ => rfl, fun _ s h0 h1 => by rw [HIN.out s h0 h1, hy0]; split <;> omega⟩)
            clear hy0
            go_wp2_with fail
            refine (same_v p g3 35 _ p2 g2 33 L true _ HSa.out HUa.out (by omega) (by omega) (by have h := HV.out; simpa using h)).mono ?_
            rintro e wb ⟨rfl, hb⟩
            have HBb := Aside0.mk hb
            clear hb q0 q1
            go_wp2_with fail
            go_meet
            case rel => exact ⟨by first | rfl | simp, HBb⟩
          · have hyb0 : (y == 0) = false := by simp [hy0]
            by_cases hE : clp b ≤ clp a
            · have HV := Aside0.mk (show (∀ s, 0 ≤ s → s < 1099511627776 → addL L a b y s = L s) ↔ true = true from ⟨fun _ => rfl, fun _ s h0 h1 => by rw [HIN.out s h0 h1, if_neg (by omega)]⟩)
              go_wp2_with fail
              refine (same_v p g3 35 _ p2 g2 33 L true _ HSa.out HUa.out (by omega) (by omega) (by have h := HV.out; simpa using h)).mono ?_
              rintro e wb ⟨rfl, hb⟩
              have HBb := Aside0.mk hb
              clear hb q0 q1
              have q0 : wb.cell? ⟨B, 0, none⟩ = some (.int .i64 a) := (blk_cell (blk_below HXa.out HBb.out) 0).trans rfl
              have q1 : wb.cell? ⟨B, 1, none⟩ = some (.int .i64 b) := (blk_cell (blk_below HXa.out HBb.out) 1).trans rfl
              go_wp2_with fail
              refine (empty_yes a b _ hE).mono ?_
              rintro e wd ⟨rfl, hb⟩
              have HBd := Aside0.mk (below_step HBb.out hb)
              clear hb q0 q1
              go_wp2_with fail
              go_meet
              case rel => exact ⟨by first | rfl | simp, HBd⟩
            · have HV := Aside0.mk (show (∀ s, 0 ≤ s → s < 1099511627776 → addL L a b y s = L s) ↔ false = true from ⟨fun h => by
                exfalso
                have h1 := h (clp a) hca.1 (by omega)
                rw [HIN.out (clp a) hca.1 (by omega), if_pos (by omega)] at h1
                omega, fun h => by cases h⟩)
              go_wp2_with fail
              refine (same_v p g3 35 _ p2 g2 33 L false _ HSa.out HUa.out (by omega) (by omega) (by have h := HV.out; simpa using h)).mono ?_
              rintro e wb ⟨rfl, hb⟩
              have HBb := Aside0.mk hb
              clear hb q0 q1
              have q0 : wb.cell? ⟨B, 0, none⟩ = some (.int .i64 a) := (blk_cell (blk_below HXa.out HBb.out) 0).trans rfl
              have q1 : wb.cell? ⟨B, 1, none⟩ = some (.int .i64 b) := (blk_cell (blk_below HXa.out HBb.out) 1).trans rfl
              go_wp2_with fail
              refine (empty_no a b _ (by omega)).mono ?_
              rintro e wd ⟨rfl, hb⟩
              have HBd := Aside0.mk (below_step HBb.out hb)
              clear hb q0 q1
              go_wp2_with fail
              go_meet
              case rel => exact ⟨by first | rfl | simp, HBd⟩
        case rest =>
          obtain ⟨rfl, HWb⟩ := hcut
          obtain ⟨wb, hwb⟩ : ∃ x, x = wc := ⟨_, rfl⟩
          rw [← hwb] at HWb ⊢
          clear hwb
          have HBb := Aside0.mk (below_step HBa.out HWb.out)
          have HXb := Aside0.mk (blk_below HXa.out HWb.out)
          have HSb := Aside0.mk (HSa.out.below HWb.out)
          have HUb := Aside0.mk (HUa.out.below HWb.out)
          have HBK := Aside0.mk (fun s h0 h1 => back_back (a := a) (b := b) HL.out HYB.out s h0 h1)
          clear q0 q1 HWb HBa HXa HSa HUa
          have q0 : wb.cell? ⟨B, 0, none⟩ = some (.int .i64 a) := (blk_cell HXb.out 0).trans rfl
          have q1 : wb.cell? ⟨B, 1, none⟩ = some (.int .i64 b) := (blk_cell HXb.out 1).trans rfl
          obtain ⟨hy1, hy2⟩ := hyb
          go_wp2_with fail
          refine (add_c p g3 35 _ a b (-y) _ HSb.out (by omega)).mono ?_
          rintro e wd ⟨rfl, g4, hS4, hg4, hk⟩
          have HBd := Aside0.mk (HBb.out.trans (hk.toBelow w.heap.size HBb.out.size (by have := HBe.out; omega) (by have := HBe.out; have := HG3.out; omega)))
          have HUd := Aside0.mk (HUb.out.kp hk (by have := HNE.out; omega) (by have := HG3.out; omega) (by have := HNE.out; omega) (by have := HG3.out; omega))
          have HSd := Aside0.mk hS4
          clear q0 q1 hS4 hg4 hk
          have HV := Aside0.mk (show (∀ s, 0 ≤ s → s < 1099511627776 → addL (addL L a b y) a b (-y) s = L s) ↔ true = true from ⟨fun _ => rfl, fun _ s h0 h1 => HBK.out s h0 h1⟩)
          go_wp2_with fail
          refine (same_v p g4 37 _ p2 g2 33 L true _ HSd.out HUd.out (by omega) (by omega) (by have h := HV.out; simpa using h)).mono ?_
          rintro e we ⟨rfl, hb⟩
          have HBf := Aside0.mk (below_step HBd.out hb)
          clear hb
          go_wp2_with fail
          refine (one_c _).mono ?_
          rintro e wf ⟨rfl, hb⟩
          have HBg := Aside0.mk (below_step HBf.out hb)
          clear hb
          go_wp2_with fail
          go_ret
          exact ⟨rfl, HBg.out⟩
end Go.Proofs.Ytaeifdmabkjoiaa.PPU
