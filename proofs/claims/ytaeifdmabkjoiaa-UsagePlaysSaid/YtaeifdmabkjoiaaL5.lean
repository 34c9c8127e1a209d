/- The walk of UsagePlays. -/
import Derived.Test.YtaeifdmabkjoiaaT4
import Derived.Deep.QuietTactic
import Derived.BigQuiet
namespace Go.Proofs.Ytaeifdmabkjoiaa.PPU
open Go.RowKit Go.Proofs.YtaeifdmabkjoiaaW.PrintWords Go.Proofs.YtaeifdmabkjoiaaW.PrintLast Go.Proofs.YtaeifdmabkjoiaaW.PrintMore
attribute [local go_sem] max2_int min2_int max_two min_two max_three min_three max_four min_four   -- for this text's walks alone
set_option linter.unusedVariables false
set_option linter.unusedSimpArgs false

theorem RefL.open_ {w : World} {base : Nat} {A : Option Addr} {c : Nat} {l : List S82} (h : RefL w base (.slice A l.length c) l) : l.length ≤ c ∧ Kd.C k82 w A l.length l := by
 obtain ⟨A0, c0, e0, hc0, hC⟩ := h.slice
 simp only [Value.slice.injEq] at e0
 obtain ⟨rfl, _, rfl⟩ := e0
 exact ⟨hc0, hC⟩
theorem least_w (p g N : Nat) (L : Int → Int) (a b v : Int) (w : World) (hS : St w p g N L) (hN : N ≤ 2000) (hv : ∀ m, Least L a b m → m = v) : Calls Try.prog 14 #[ptrV p, .agg #[.int .i64 a, .int .i64 b]] w fun e w' => e = .returned (.int .i64 v) ∧ Below w.heap.size w w' := by
 refine (least_c p g N L a b w hS hN).mono ?_
 rintro e w' ⟨m, rfl, hm, hb⟩
 exact ⟨ret_i (hv m hm), hb⟩
theorem most_w (p g N : Nat) (L : Int → Int) (a b v : Int) (w : World) (hS : St w p g N L) (hN : N ≤ 2000) (hv : ∀ m, Most L a b m → m = v) : Calls Try.prog 15 #[ptrV p, .agg #[.int .i64 a, .int .i64 b]] w fun e w' => e = .returned (.int .i64 v) ∧ Below w.heap.size w w' := by
 refine (most_c p g N L a b w hS hN).mono ?_
 rintro e w' ⟨m, rfl, hm, hb⟩
 exact ⟨ret_i (hv m hm), hb⟩
theorem area_w (p g N : Nat) (L : Int → Int) (a b v : Int) (w : World) (hS : St w p g N L) (hN : N ≤ 2000) (hv : min (sumL L (clp a) (clp b)) 1099511627776 = v) : Calls Try.prog 16 #[ptrV p, .agg #[.int .i64 a, .int .i64 b]] w fun e w' => e = .returned (.int .i64 v) ∧ Below w.heap.size w w' := by
 subst hv
 exact area_c p g N L a b w hS hN
theorem at_w5 (p g N : Nat) (L : Int → Int) (t v : Int) (w : World) (hS : St w p g N L) (hN : N ≤ 2000) (hv : L (mn (clp t) 1099511627775) = v) : Calls Try.prog 12 #[ptrV p, .int .i64 t] w fun e w' => e = .returned (.int .i64 v) ∧ Below w.heap.size w w' := by
 have h := at_c p g N L t w hS hN
 rwa [hv] at h
theorem rat_w (first t v : Int) (A : Option Addr) (c base : Nat) (l : List S82) (w : World) (h : RefL w base (.slice A l.length c) l) (hl : l.length ≤ 4000) (hv : refL first l (mn (clp t) 1099511627775) = v) :
  Calls Try.prog 13 #[.agg #[.int .i64 first, .slice A l.length c], .int .i64 t] w fun e w' => e = .returned (.int .i64 v) ∧ Below w.heap.size w w' := by
 have h := rat_c first t A c base l w h hl
 rwa [hv] at h
/-- One round of the law's loop. -/
def lawN (i : Nat) (x m l0 m0 a0 : Int) : Int × Int × Int := (if i = 0 ∨ x < l0 then x else l0, if i = 0 ∨ x > m0 then x else m0, if x > 0 ∧ a0 < 1099511627776 then (if m > Int.tdiv 1099511627776 x then 1099511627776 else min (a0 + m * x) 1099511627776) else a0)
theorem lawS_succ (xs ms : List Int) (i : Nat) (l0 m0 a0 : Int) (h : lawS xs ms i = (l0, m0, a0)) : lawS xs ms (i + 1) = lawN i (rd xs (i : Int)) (rd ms (i : Int)) l0 m0 a0 := by
 show (_, _, _) = _
 rw [h]
 rfl
set_option maxHeartbeats 8000000 in
set_option maxRecDepth 100000 in
theorem plays_law (first : Int) (A : Option Addr) (len cap : Nat) (F : Nat → ActV) (t1 t2 : Int) (w : World) (hF : Acts w A len F) (hl : len ≤ cap) (hc : len ≤ 9223372036854775807) :
  Calls Try.prog 3 #[.int .i64 first, .slice A len cap, .agg #[.int .i64 t1, .int .i64 t2]] w fun e w' => e = .returned (.bool true) ∧ Below w.heap.size w w' := by
 have HF := Aside0.mk hF
 have hu29 := Try.underlying29
 have hu25 := Try.underlying25
 have hu38 := Try.underlying38
 clear hF
 go_enter Try.func3, Try.ntmps3
 go_wp2_with fail
 have HB0 := Aside0.mk (show Below w.heap.size w (w.alloc (.cells #[.int .i64 t1, .int .i64 t2] 25 (0, 0))) from (Below.refl _ w).alloc (Nat.le_refl _) _)
 have HX0 := Aside0.mk (show (w.alloc (.cells #[.int .i64 t1, .int .i64 t2] 25 (0, 0))).heap[w.heap.size]? = some (.cells #[.int .i64 t1, .int .i64 t2] 25 (0, 0)) from blk_new _ _)
 refine (play_c first A len cap F 24 _ (HF.out.below HB0.out) hc (by omega)).mono ?_
 rintro e w1 ⟨p, g, l, A', c', rfl, hS, hR, hln, hp, hg, hb⟩
 have HX1 := Aside0.mk (blk_below HX0.out hb)
 have HB1 := Aside0.mk (show Below w.heap.size w w1 from below_step HB0.out hb)
 have HS1 := Aside0.mk hS
 have hcl : l.length ≤ c' := hR.open_.1
 have HR1 := Aside0.mk hR
 clear hS hR hp hg hb HX0 HB0
 go_wp2_with fail
 have HBn := Aside0.mk (show Below w1.heap.size w1 (w1.alloc (.cells #[.int .i64 first, .slice A' l.length c'] 29 (0, 0))) from (Below.refl _ w1).alloc (Nat.le_refl _) _)
 have HXn := Aside0.mk (show (w1.alloc (.cells #[.int .i64 first, .slice A' l.length c'] 29 (0, 0))).heap[w1.heap.size]? = some (.cells #[.int .i64 first, .slice A' l.length c'] 29 (0, 0)) from blk_new _ _)
 refine (like_c p g _ first l A' c' _ (HS1.out.below HBn.out) (by omega) (HR1.out.below HBn.out).open_.2 hcl (by omega)).mono ?_
 rintro e w2 ⟨rfl, hb⟩
 have HB2 := Aside0.mk (below_step HB1.out (below_step HBn.out hb))
 have HX2 := Aside0.mk (blk_below (blk_below HX1.out HBn.out) hb)
 have HY2 := Aside0.mk (blk_below HXn.out hb)
 have HS2 := Aside0.mk ((HS1.out.below HBn.out).below hb)
 have HR2 := Aside0.mk ((HR1.out.below HBn.out).below hb)
 obtain ⟨T, hT⟩ : ∃ T, T = w1.heap.size := ⟨_, rfl⟩
 rw [← hT] at HY2 ⊢
 clear hb HBn HXn HX1 HB1 HS1 HR1 hT
 obtain ⟨K, hK⟩ : ∃ K : Nat, 30000 ≤ K := ⟨30000, Nat.le_refl _⟩
 obtain ⟨xs, ms, Bd, hin, hcov, hxl⟩ := in_f K hK first l (by omega) t1 t2
 have HIN := Aside0.mk hin
 have HCV := Aside0.mk hcov
 have HML := Aside0.mk hcov.len
 clear hin hcov
 obtain ⟨n, hn⟩ : ∃ n, n = xs.length := ⟨_, rfl⟩
 have HN := Aside0.mk hn
 have hn100 : n ≤ 100 := by omega
 clear hn hxl
 have b0 : w2.cell? ⟨w.heap.size, 0, none⟩ = some (.int .i64 t1) := (blk_cell HX2.out 0).trans rfl
 have b1 : w2.cell? ⟨w.heap.size, 1, none⟩ = some (.int .i64 t2) := (blk_cell HX2.out 1).trans rfl
 have r0 : w2.cell? ⟨T, 0, none⟩ = some (.int .i64 first) := (blk_cell HY2.out 0).trans rfl
 have r1 : w2.cell? ⟨T, 1, none⟩ = some (.slice A' l.length c') := (blk_cell HY2.out 1).trans rfl
 have KS : Aside0 (∀ w3, Below w2.heap.size w2 w3 → w3.heap[T]? = some (.cells #[.int .i64 first, .slice A' l.length c'] 29 (0, 0))) := ⟨fun w3 hb => blk_below HY2.out hb⟩
 have KX : Aside0 (∀ w3, Below w2.heap.size w2 w3 → w3.heap[w.heap.size]? = some (.cells #[.int .i64 t1, .int .i64 t2] 25 (0, 0))) := ⟨fun w3 hb => blk_below HX2.out hb⟩
 go_upto_region 4 with fail
 go_cut [9, 10] from 25 to 31 (fun v9 v10 wx => ∃ A9 c9 A10 c10, v9 = .slice A9 n c9 ∧ v10 = .slice A10 n c10 ∧ n ≤ c9 ∧ n ≤ c10 ∧ Aside0 (Kd.C (Kd.int .i64) wx A9 n xs) ∧ Aside0 (Kd.C (Kd.int .i64) wx A10 n ms) ∧ Aside0 (Below w2.heap.size w2 wx))
 case first =>
  go_region_with (first
   | ((with_reducible refine (own_c t1 t2 _).mono ?_); rintro e w3 ⟨rfl, hb⟩; have HBa := Aside0.mk (show Below w2.heap.size w2 w3 from (Below.refl _ w2).drew.trans hb); have c2 : w3.cell? ⟨T, 0, none⟩ = some (.int .i64 first) := (blk_cell (KS.out _ HBa.out) 0).trans rfl; have c3 : w3.cell? ⟨T, 1, none⟩ = some (.slice A' l.length c') := (blk_cell (KS.out _ HBa.out) 1).trans rfl; clear hb)
   | ((with_reducible refine (berthingref10_Steps_In.calls K first A' c' l t1 t2 xs ms _ (HR2.out.below HBa.out).open_.2 hcl HIN.out).mono ?_); rintro e w4 ⟨v9, v10, rfl, hr1, hr2, hb⟩; obtain ⟨A9, c9, e9, hc9, hC9⟩ := Kd.R_reads hr1; obtain ⟨A10, c10, e10, hc10, hC10⟩ := Kd.R_reads hr2; rw [← HN.out] at e9 hc9 hC9; rw [← HML.out, ← HN.out] at e10 hc10 hC10; subst e9; subst e10; have HBb := Aside0.mk (show Below w2.heap.size w2 w4 from below_step HBa.out hb); have HC9 := Aside0.mk hC9; have HC10 := Aside0.mk hC10; clear hr1 hr2 hb hC9 hC10))
  all_goals
   go_wp2_with fail
   go_meet
   case rel => exact ⟨A9, c9, A10, c10, rfl, rfl, hc9, hc10, HC9, HC10, HBb⟩
 case rest =>
  obtain ⟨A9, c9, A10, c10, rfl, rfl, hc9, hc10, HC9, HC10, HBw⟩ := hcut
  clear b0 b1 r0 r1
  have HB3 := Aside0.mk (show Below w.heap.size w wc from HB2.out.trans (HBw.out.mono HB2.out.size))
  have HX3 := Aside0.mk (KX.out _ HBw.out)
  have HY3 := Aside0.mk (KS.out _ HBw.out)
  have HS3 := Aside0.mk (HS2.out.below HBw.out)
  have HR3 := Aside0.mk (HR2.out.below HBw.out)
  clear KX KS HX2 HY2 HS2 HR2 HB2 HBw
  go_wp2_with fail
  go_loopg [11, 12, 13, 14] n (fun kq v11 v12 v13 v14 w' => ∃ i : Nat, ∃ l0 m0 a0 : Int, n - i = kq ∧ v11 = .int .i64 l0 ∧ v12 = .int .i64 m0 ∧ v13 = .int .i64 a0 ∧ v14 = .int .i64 i ∧ Aside0 (i ≤ n) ∧ Aside0 (lawS xs ms i = (l0, m0, a0)) ∧ Aside0 (Below wc.heap.size wc w'))
  case atStart => exact ⟨0, 0, 0, 0, by omega, rfl, rfl, rfl, rfl, ⟨Nat.zero_le _⟩, ⟨rfl⟩, ⟨Below.refl _ _⟩⟩
  case round =>
   obtain ⟨i, l0, m0, a0, hi, rfl, rfl, rfl, rfl, HI, HL, HB⟩ := hrel
   subst hi
   by_cases hin : i < n
   ·have h1 : decide (i < n) = true := decide_eq_true hin
    have h1b : decide ((i : Int) < (n : Int)) = true := decide_eq_true (by omega)
    have hb3 : (0 : Int) ≤ (i : Int) := by omega
    have hb4 : (i : Int) < (n : Int) := by omega
    obtain ⟨ad, hA0, c0⟩ := Kd.at_int (Kd.C_below HC9.out HB.out) (i : Int) hb3 hb4
    obtain ⟨ad2, hA2, d0⟩ := Kd.at_int (Kd.C_below HC10.out HB.out) (i : Int) hb3 hb4
    subst hA0
    subst hA2
    rw [Int.toNat_natCast] at c0 d0
    have HL' := Aside0.mk (lawS_succ xs ms i l0 m0 a0 HL.out)
    have HP := Aside0.mk (HCV.out.piece i (by have := HN.out; omega))
    have HAB := Aside0.mk (lawS_bd HCV.out i (by have := HN.out; omega))
    rw [HL.out] at HAB
    obtain ⟨x, hx⟩ : ∃ x, x = rd xs (i : Int) := ⟨_, rfl⟩
    obtain ⟨m, hm⟩ : ∃ m, m = rd ms (i : Int) := ⟨_, rfl⟩
    rw [← hx] at c0 HL' HP
    rw [← hm] at d0 HL' HP
    clear hx hm
    have k0 := cell_regrown c0
    have k1 := cell_regrown d0
    have hA : 0 ≤ a0 ∧ a0 ≤ 1099511627776 := HAB.out
    have hm0 : 0 < m := by have := HP.out; omega
    go_upto_region 9 with fail
    go_cut [47] from 38 to 46 (fun v47 wx => v47 = .bool (decide (i = 0 ∨ x < l0)) ∧ wx = wr)
    case first =>
     by_cases hi0 : i = 0
     ·have h0b : ((i : Int) == 0) = true := by simp [hi0]
      have HE := Aside0.mk (show decide (i = 0 ∨ x < l0) = true from decide_eq_true (.inl hi0))
      clear hi0
      go_wp2_with fail
      go_meet
      case rel => exact ⟨by rw [HE.out], rfl⟩
     ·have h0b : ((i : Int) == 0) = false := by simp [hi0]
      by_cases hx : x < l0
      ·have hxb : decide (x < l0) = true := decide_eq_true hx
       have HE := Aside0.mk (show decide (i = 0 ∨ x < l0) = true from decide_eq_true (.inr hx))
       go_wp2_with fail
       go_meet
       case rel => exact ⟨by rw [HE.out], rfl⟩
      ·have hxb : decide (x < l0) = false := decide_eq_false hx
       have HE := Aside0.mk (show decide (i = 0 ∨ x < l0) = false from decide_eq_false (by omega))
       go_wp2_with fail
       go_meet
       case rel => exact ⟨by rw [HE.out], rfl⟩
    case rest =>
     obtain ⟨rfl, rfl⟩ := hcut
     go_upto_if 47 with fail
     go_cut [11] from 47 to 51 (fun v11 wx => v11 = .int .i64 (lawN i x m l0 m0 a0).1 ∧ wx = wc)
     case first =>
      by_cases hx : i = 0 ∨ x < l0
      ·have e : (lawN i x m l0 m0 a0).1 = x := if_pos hx
       have HE := Aside0.mk e
       have hxb : decide (i = 0 ∨ x < l0) = true := decide_eq_true hx
       rw [hxb]
       clear e hx hxb
       go_wp2_with fail
       go_meet
       case rel => exact ⟨by rw [HE.out], rfl⟩
      ·have e : (lawN i x m l0 m0 a0).1 = l0 := if_neg hx
       have HE := Aside0.mk e
       have hxb : decide (i = 0 ∨ x < l0) = false := decide_eq_false hx
       rw [hxb]
       clear e hx hxb
       go_wp2_with fail
       go_meet
       case rel => exact ⟨by rw [HE.out], rfl⟩
     case rest =>
      obtain ⟨rfl, rfl⟩ := hcut
      go_upto_region 11 with fail
      go_cut [61] from 52 to 60 (fun v61 wx => v61 = .bool (decide (i = 0 ∨ x > m0)) ∧ wx = wc)
      case first =>
       by_cases hi0 : i = 0
       ·have h0b : ((i : Int) == 0) = true := by simp [hi0]
        have HE := Aside0.mk (show decide (i = 0 ∨ x > m0) = true from decide_eq_true (.inl hi0))
        clear hi0
        go_wp2_with fail
        go_meet
        case rel => exact ⟨by rw [HE.out], rfl⟩
       ·have h0b : ((i : Int) == 0) = false := by simp [hi0]
        by_cases hx : x > m0
        ·have hxb : decide (x > m0) = true := decide_eq_true hx
         have HE := Aside0.mk (show decide (i = 0 ∨ x > m0) = true from decide_eq_true (.inr hx))
         go_wp2_with fail
         go_meet
         case rel => exact ⟨by rw [HE.out], rfl⟩
        ·have hxb : decide (x > m0) = false := decide_eq_false hx
         have HE := Aside0.mk (show decide (i = 0 ∨ x > m0) = false from decide_eq_false (by omega))
         go_wp2_with fail
         go_meet
         case rel => exact ⟨by rw [HE.out], rfl⟩
      case rest =>
       obtain ⟨rfl, rfl⟩ := hcut
       go_upto_if 61 with fail
       go_cut [12] from 61 to 65 (fun v12 wx => v12 = .int .i64 (lawN i x m l0 m0 a0).2.1 ∧ wx = wc)
       case first =>
        by_cases hx : i = 0 ∨ x > m0
        ·have e : (lawN i x m l0 m0 a0).2.1 = x := if_pos hx
         have HE := Aside0.mk e
         have hxb : decide (i = 0 ∨ x > m0) = true := decide_eq_true hx
         rw [hxb]
         clear e hx hxb
         go_wp2_with fail
         go_meet
         case rel => exact ⟨by rw [HE.out], rfl⟩
        ·have e : (lawN i x m l0 m0 a0).2.1 = m0 := if_neg hx
         have HE := Aside0.mk e
         have hxb : decide (i = 0 ∨ x > m0) = false := decide_eq_false hx
         rw [hxb]
         clear e hx hxb
         go_wp2_with fail
         go_meet
         case rel => exact ⟨by rw [HE.out], rfl⟩
       case rest =>
        obtain ⟨rfl, rfl⟩ := hcut
        go_upto_region 13 with fail
        go_cut [74] from 66 to 73 (fun v74 wx => v74 = .bool (decide (x > 0 ∧ a0 < 1099511627776)) ∧ wx = wc)
        case first =>
         by_cases hx : x > 0
         ·have hxb : decide (x > 0) = true := decide_eq_true hx
          have hxb2 : decide (0 < x) = true := decide_eq_true hx
          by_cases ha : a0 < 1099511627776
          ·have hab : decide (a0 < 1099511627776) = true := decide_eq_true ha
           have HE := Aside0.mk (show decide (x > 0 ∧ a0 < 1099511627776) = true from decide_eq_true ⟨hx, ha⟩)
           go_wp2_with fail
           go_meet
           case rel => exact ⟨by rw [HE.out], rfl⟩
          ·have hab : decide (a0 < 1099511627776) = false := decide_eq_false ha
           have HE := Aside0.mk (show decide (x > 0 ∧ a0 < 1099511627776) = false from decide_eq_false (fun h => ha h.2))
           go_wp2_with fail
           go_meet
           case rel => exact ⟨by rw [HE.out], rfl⟩
         ·have hxb : decide (x > 0) = false := decide_eq_false hx
          have hxb2 : decide (0 < x) = false := decide_eq_false hx
          have HE := Aside0.mk (show decide (x > 0 ∧ a0 < 1099511627776) = false from decide_eq_false (fun h => hx h.1))
          go_wp2_with fail
          go_meet
          case rel => exact ⟨by rw [HE.out], rfl⟩
        case rest =>
         obtain ⟨rfl, rfl⟩ := hcut
         by_cases hx : x > 0 ∧ a0 < 1099511627776
         ·have e : (lawN i x m l0 m0 a0).2.2 = (if m > Int.tdiv 1099511627776 x then 1099511627776 else min (a0 + m * x) 1099511627776) := if_pos hx
          have HE := Aside0.mk e
          have hxb : decide (x > 0 ∧ a0 < 1099511627776) = true := decide_eq_true hx
          have hx1 : 0 < x := hx.1
          have hx0 : (x == 0) = false := by simp; omega
          have hx2 : x ≠ 0 := by omega
          have hq : 0 ≤ Int.tdiv 1099511627776 x ∧ Int.tdiv 1099511627776 x ≤ 1099511627776 := by
           rw [Int.tdiv_eq_ediv_of_nonneg (by omega)]
           exact ⟨Int.ediv_nonneg (by omega) (by omega), Int.ediv_le_self _ (by omega)⟩
          have hqw : IntKind.i64.wrap (Int.tdiv 1099511627776 x) = Int.tdiv 1099511627776 x := IntWalk.i64_in _ (by omega)
          rw [hxb]
          clear e hxb
          by_cases hm : m > Int.tdiv 1099511627776 x
          ·have hmb : decide (m > Int.tdiv 1099511627776 x) = true := decide_eq_true hm
           have hmb2 : decide (Int.tdiv 1099511627776 x < m) = true := decide_eq_true hm
           have HE2 := Aside0.mk (HE.out.trans (if_pos hm))
           go_wp2_with fail
           refine wp_region_quiet_below (by kernel_rfl) (by kernel_rfl) ?_
           repeat (first | go_big_quiet_step (fail) | quiet_step (fail))
           refine wpQuiet_nil ?_
           intro _ hw'
           obtain ⟨⟨dq, osq⟩, hw''⟩ := hw'
           subst hw''
           go_wp2_with fail
           go_roundg (n - (i + 1))
           case measure => omega
           case rel => exact ⟨i + 1, _, _, _, rfl, rfl, rfl, congrArg (Value.int IntKind.i64) HE2.out.symm, by go_num, ⟨by omega⟩, HL', ⟨HB.out.trans ((below_regrown _ dq osq).mono HB.out.size)⟩⟩
          ·have hmb : decide (m > Int.tdiv 1099511627776 x) = false := decide_eq_false hm
           have hmb2 : decide (Int.tdiv 1099511627776 x < m) = false := decide_eq_false hm
           have HE2 := Aside0.mk (HE.out.trans (if_neg hm))
           have hmx : 0 ≤ m * x ∧ m * x ≤ 1099511627776 := by
            refine ⟨Int.mul_nonneg (by omega) (by omega), ?_⟩
            have h3 : m ≤ Int.tdiv 1099511627776 x := by omega
            rw [Int.tdiv_eq_ediv_of_nonneg (by omega)] at h3
            exact (Int.le_ediv_iff_mul_le hx1).1 h3
           have hw1 : IntKind.i64.wrap (m * x) = m * x := IntWalk.i64_in _ (by omega)
           have hw2 : IntKind.i64.wrap (a0 + m * x) = a0 + m * x := IntWalk.i64_in _ (by omega)
           have HMN := Aside0.mk (show mn (a0 + m * x) 1099511627776 = min (a0 + m * x) 1099511627776 by unfold mn; split <;> omega)
           go_wp2_with fail
           refine wp_region_quiet_below (by kernel_rfl) (by kernel_rfl) ?_
           repeat (first | go_big_quiet_step (fail) | quiet_step (fail))
           refine wpQuiet_nil ?_
           intro _ hw'
           obtain ⟨⟨dq, osq⟩, hw''⟩ := hw'
           subst hw''
           have c2 := k0 dq osq
           have d2 := k1 dq osq
           clear k0 k1 c0 d0
           go_wp2_with fail
           go_region
           all_goals
            go_wp2_with fail
            all_goals
             go_roundg (n - (i + 1))
             case measure => omega
             case rel => exact ⟨i + 1, _, _, _, rfl, rfl, rfl, by refine congrArg (Value.int IntKind.i64) (Eq.trans ?_ HE2.out.symm); omega, by go_num, ⟨by omega⟩, HL', ⟨HB.out.trans ((below_regrown _ dq osq).drew.mono HB.out.size)⟩⟩
         ·have e : (lawN i x m l0 m0 a0).2.2 = a0 := if_neg hx
          have HE := Aside0.mk e
          have hxb : decide (x > 0 ∧ a0 < 1099511627776) = false := decide_eq_false hx
          rw [hxb]
          clear e hx hxb
          go_wp2_with fail
          go_roundg (n - (i + 1))
          case measure => omega
          case rel => exact ⟨i + 1, _, _, _, rfl, rfl, rfl, congrArg (Value.int IntKind.i64) HE.out.symm, by go_num, ⟨by omega⟩, HL', HB⟩
   ·have h1 : decide (i < n) = false := decide_eq_false hin
    have h1b : decide ((i : Int) < (n : Int)) = false := decide_eq_false (by omega)
    obtain rfl : i = n := by have := HI.out; omega
    have hlN : lawS xs ms xs.length = (l0, m0, a0) := by rw [← HN.out]; exact HL.out
    have HVL := Aside0.mk (fun mm (h : Least (refL first l) t1 t2 mm) => show mm = l0 by have e := lawS_least (a := 0) (b := 0) HCV.out h; rw [hlN] at e; exact e.symm)
    have HVM := Aside0.mk (fun mm (h : Most (refL first l) t1 t2 mm) => show mm = m0 by have e := lawS_most (a := 0) (b := 0) HCV.out h; rw [hlN] at e; exact e.symm)
    have HVA := Aside0.mk (show min (sumL (refL first l) (clp t1) (clp t2)) 1099511627776 = a0 by have e := lawS_area HCV.out; rw [hlN] at e; exact e.symm)
    obtain ⟨v1, hv1⟩ : ∃ v, refL first l (mn (clp t1) 1099511627775) = v := ⟨_, rfl⟩
    obtain ⟨v2, hv2⟩ : ∃ v, refL first l (mn (clp t2) 1099511627775) = v := ⟨_, rfl⟩
    have HV1 := Aside0.mk hv1
    have HV2 := Aside0.mk hv2
    clear hlN hv1 hv2
    have HSr := Aside0.mk (HS3.out.below HB.out)
    have HRr := Aside0.mk (HR3.out.below HB.out)
    have HXr := Aside0.mk (blk_below HX3.out HB.out)
    have HYr := Aside0.mk (blk_below HY3.out HB.out)
    have b0 : wr.cell? ⟨w.heap.size, 0, none⟩ = some (.int .i64 t1) := (blk_cell HXr.out 0).trans rfl
    have b1 : wr.cell? ⟨w.heap.size, 1, none⟩ = some (.int .i64 t2) := (blk_cell HXr.out 1).trans rfl
    have r0 : wr.cell? ⟨T, 0, none⟩ = some (.int .i64 first) := (blk_cell HYr.out 0).trans rfl
    have r1 : wr.cell? ⟨T, 1, none⟩ = some (.slice A' l.length c') := (blk_cell HYr.out 1).trans rfl
    have kb0 := cell_regrown b0
    have kb1 := cell_regrown b1
    have kr0 := cell_regrown r0
    have kr1 := cell_regrown r1
    have cA1 := fun d os => Calls.regrown_of (at_w5 p g (1 + 2 * 24) _ t1 v1 (Go.Sort.grow (redrawn wr d) os) (HSr.out.below (below_regrown wr d os)) (by omega) HV1.out)
    have cA2 := fun d os => Calls.regrown_of (at_w5 p g (1 + 2 * 24) _ t2 v2 (Go.Sort.grow (redrawn wr d) os) (HSr.out.below (below_regrown wr d os)) (by omega) HV2.out)
    have cR1 := fun d os => Calls.regrown_of (rat_w first t1 v1 A' c' _ l (Go.Sort.grow (redrawn wr d) os) (HRr.out.below (below_regrown wr d os)) (by omega) HV1.out)
    have cR2 := fun d os => Calls.regrown_of (rat_w first t2 v2 A' c' _ l (Go.Sort.grow (redrawn wr d) os) (HRr.out.below (below_regrown wr d os)) (by omega) HV2.out)
    have cLe := fun d os => Calls.regrown_of (least_w p g (1 + 2 * 24) _ t1 t2 l0 (Go.Sort.grow (redrawn wr d) os) (HSr.out.below (below_regrown wr d os)) (by omega) HVL.out)
    have cMo := fun d os => Calls.regrown_of (most_w p g (1 + 2 * 24) _ t1 t2 m0 (Go.Sort.grow (redrawn wr d) os) (HSr.out.below (below_regrown wr d os)) (by omega) HVM.out)
    have cAr := fun d os => Calls.regrown_of (area_w p g (1 + 2 * 24) _ t1 t2 a0 (Go.Sort.grow (redrawn wr d) os) (HSr.out.below (below_regrown wr d os)) (by omega) HVA.out)
    have cOn := fun d os => Calls.regrown_of (one_c (Go.Sort.grow (redrawn wr d) os))
    go_wp2_with fail
    refine wp_region_quiet_below (by kernel_rfl) (by kernel_rfl) ?_
    repeat (first | go_big_quiet_step (first | (with_reducible exact cA1 _ _) | (with_reducible exact cR1 _ _) | (with_reducible exact cA2 _ _) | (with_reducible exact cR2 _ _) | (with_reducible exact cLe _ _) | (with_reducible exact cMo _ _) | (with_reducible exact cAr _ _) | (with_reducible exact cOn _ _)) | quiet_step (first | (with_reducible exact cA1 _ _) | (with_reducible exact cR1 _ _) | (with_reducible exact cA2 _ _) | (with_reducible exact cR2 _ _) | (with_reducible exact cLe _ _) | (with_reducible exact cMo _ _) | (with_reducible exact cAr _ _) | (with_reducible exact cOn _ _)))
    refine wpQuiet_nil ?_
    intro _ hw'
    obtain ⟨⟨dq, osq⟩, hw''⟩ := hw'
    subst hw''
    go_wp2_with fail
    go_ret
    exact ⟨rfl, HB3.out.trans ((HB.out.trans ((below_regrown wr dq osq).mono HB.out.size)).mono HB3.out.size)⟩
end Go.Proofs.Ytaeifdmabkjoiaa.PPU
