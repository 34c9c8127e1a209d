/- The law's Like: the steps that are told are the reference's. -/
import Derived.Test.YtaeifdmabkjoiaaQ2
import Derived.Test.YtaeifdmabkjoiaaT3
import Derived.Deep.QuietTactic
import Derived.BigQuiet
namespace Go.Proofs.Ytaeifdmabkjoiaa.PPU
open Go.RowKit Go.Proofs.YtaeifdmabkjoiaaW.PrintWords Go.Proofs.YtaeifdmabkjoiaaW.PrintLast Go.Proofs.YtaeifdmabkjoiaaW.PrintMore
set_option linter.unusedVariables false
set_option linter.unusedSimpArgs false

set_option maxHeartbeats 8000000 in
set_option maxRecDepth 100000 in
theorem like_c (p g N : Nat) (first : Int) (l : List S82) (A' : Option Addr) (c' : Nat) (w : World) (hS : St w p g N (refL first l)) (hN : N ≤ 2000) (hR : Kd.C k82 w A' l.length l) (hc : l.length ≤ c') (hl : l.length ≤ 4000) :
  Calls Try.prog 9 #[ptrV p, .agg #[.int .i64 first, .slice A' l.length c']] w fun e w' => e = .returned (.int .i64 1) ∧ Below w.heap.size w w' := by
 obtain ⟨K, hK⟩ : ∃ K : Nat, 30000 ≤ K := ⟨30000, Nat.le_refl _⟩
 obtain ⟨rs, hrs, hW, hlev, hlen⟩ := list_f K hK first l hl
 have HS := Aside0.mk hS
 have HR := Aside0.mk hR
 have HRS := Aside0.mk hrs
 have HW := Aside0.mk hW
 have HLV := Aside0.mk hlev
 have hu29 := Try.underlying29
 clear hS hR hrs hW hlev
 go_enter Try.func9, Try.ntmps9
 have HB0 := Aside0.mk (show Below w.heap.size w (w.alloc (.cells #[.int .i64 first, .slice A' l.length c'] 29 (0, 0))) from (Below.refl _ w).alloc (Nat.le_refl _) _)
 have HX := Aside0.mk (show (w.alloc (.cells #[.int .i64 first, .slice A' l.length c'] 29 (0, 0))).heap[w.heap.size]? = some (.cells #[.int .i64 first, .slice A' l.length c'] 29 (0, 0)) from blk_new _ _)
 have KS : Aside0 (∀ w2, Below (w.alloc (.cells #[.int .i64 first, .slice A' l.length c'] 29 (0, 0))).heap.size (w.alloc (.cells #[.int .i64 first, .slice A' l.length c'] 29 (0, 0))) w2 → w2.heap[w.heap.size]? = some (.cells #[.int .i64 first, .slice A' l.length c'] 29 (0, 0))) := ⟨fun w2 hb => blk_below HX.out hb⟩
 have HS1 := Aside0.mk (HS.out.below HB0.out)
 have HR1 := Aside0.mk (Kd.C_below HR.out HB0.out)
 have r0 : (w.alloc (.cells #[.int .i64 first, .slice A' l.length c'] 29 (0, 0))).cell? ⟨w.heap.size, 0, none⟩ = some (.int .i64 first) := (blk_cell HX.out 0).trans rfl
 have r1 : (w.alloc (.cells #[.int .i64 first, .slice A' l.length c'] 29 (0, 0))).cell? ⟨w.heap.size, 1, none⟩ = some (.slice A' l.length c') := (blk_cell HX.out 1).trans rfl
 go_upto_region 1 with fail
 go_cut [5, 6] from 8 to 11 (fun v5 v6 wx => ∃ g4 cap4 n4 f4 A5 c5, v5 = .slice (some ⟨g4, 0, none⟩) n4 cap4 ∧ v6 = .slice A5 rs.length c5 ∧ n4 ≤ cap4 ∧ cap4 ≤ 9223372036854775807 ∧ rs.length ≤ c5 ∧ Aside0 (RowF wx g4 n4 cap4 f4) ∧ Aside0 (Wf n4 f4) ∧ Aside0 (∀ s, 0 ≤ s → s < 1099511627776 → lev n4 f4 s = refL first l s) ∧ Aside0 (Kd.C k74 wx A5 rs.length rs) ∧ Aside0 (Below w.heap.size w wx))
 case first =>
  go_region_with (first
   | ((with_reducible refine (list_c p g N _ _ (HS1.out.below (Below.refl _ _).drew) hN).mono ?_); rintro e w2 ⟨g4, cap4, n4, f4, rfl, h1, h2, h3, h4, h5, h6, h7⟩; have HBa := Aside0.mk (show Below (w.alloc (.cells #[.int .i64 first, .slice A' l.length c'] 29 (0, 0))).heap.size (w.alloc (.cells #[.int .i64 first, .slice A' l.length c'] 29 (0, 0))) w2 from (Below.refl _ _).drew.trans h7); have c2 : w2.cell? ⟨w.heap.size, 0, none⟩ = some (.int .i64 first) := (blk_cell (KS.out _ HBa.out) 0).trans rfl; have c3 : w2.cell? ⟨w.heap.size, 1, none⟩ = some (.slice A' l.length c') := (blk_cell (KS.out _ HBa.out) 1).trans rfl; have HR4 := Aside0.mk h1; have HW4 := Aside0.mk h4; have HL4 := Aside0.mk h6; have hc4 : n4 ≤ cap4 := h1.1; clear h1 h2 h4 h5 h6 h7)
   | ((with_reducible refine (berthingref10_Steps_List.calls K first A' c' l rs _ (Kd.C_below HR1.out HBa.out) hc HRS.out).mono ?_); rintro e w3 ⟨v6, rfl, hr, hb⟩; obtain ⟨A5, c5, rfl, hc5, hC5⟩ := Kd.R_reads hr; have HBb := Aside0.mk (show Below (w.alloc (.cells #[.int .i64 first, .slice A' l.length c'] 29 (0, 0))).heap.size (w.alloc (.cells #[.int .i64 first, .slice A' l.length c'] 29 (0, 0))) w3 from below_step HBa.out hb); have HR5 := Aside0.mk (HR4.out.below hb); have HC5 := Aside0.mk hC5; clear hr hb hC5))
  all_goals
   go_wp2_with fail
   go_meet
   case rel => exact ⟨g4, cap4, n4, f4, A5, c5, rfl, rfl, hc4, h3, hc5, HR5, HW4, HL4, HC5, ⟨HB0.out.trans (HBb.out.mono HB0.out.size)⟩⟩
 case rest =>
  obtain ⟨g4, cap4, n4, f4, A5, c5, rfl, rfl, hc4, hm4, hc5, HR5, HW4, HL4, HC5, HBB⟩ := hcut
  obtain ⟨rfl, hfk⟩ := uniq HW4.out HW.out (fun s h0 h1 => (HL4.out s h0 h1).trans (HLV.out s h0 h1).symm)
  have HFK := Aside0.mk hfk
  clear hfk
  have hlen2 : rs.length ≤ 9000 := by omega
  go_wp2_with fail
  go_loopg [7] rs.length (fun kq v7 w' => ∃ i : Nat, rs.length - i = kq ∧ v7 = .int .i64 i ∧ Aside0 (i ≤ rs.length) ∧ Aside0 (Below w.heap.size w w') ∧ Aside0 (RowF w' g4 rs.length cap4 f4) ∧ Aside0 (Kd.C k74 w' A5 rs.length rs))
  case atStart => exact ⟨0, by omega, rfl, ⟨Nat.zero_le _⟩, HBB, HR5, HC5⟩
  case round =>
   obtain ⟨i, hi, rfl, HI, HB, HR6, HC6⟩ := hrel
   subst hi
   by_cases hin : i < rs.length
   ·have h1 : decide (i < rs.length) = true := decide_eq_true hin
    have h1b : decide ((i : Int) < (rs.length : Int)) = true := decide_eq_true (by omega)
    obtain ⟨ad, hA0, d0, d1⟩ := at_T74 HC6.out (i : Int) (by omega) (by omega)
    subst hA0
    rw [Int.toNat_natCast] at d0 d1
    have ef := HFK.out i hin
    have c0 : wr.cell? ⟨g4, i * 2, none⟩ = some (.int .i64 (rd_T74 rs (i : Int)).f0) := by have h := HR6.out.at0 i hin; rw [ef] at h; exact h
    have c1 : wr.cell? ⟨g4, i * 2 + 1, none⟩ = some (.int .i64 (rd_T74 rs (i : Int)).f1) := by have h := HR6.out.at1 i hin; rw [ef] at h; exact h
    clear ef
    have k0 := cell_regrown c0
    have k1 := cell_regrown c1
    have k2 := cell_regrown d0
    have k3 := cell_regrown d1
    have hb3 : (0 : Int) ≤ (i : Int) := by omega
    have hb4 : (i : Int) < (rs.length : Int) := by omega
    go_wp2_with fail
    refine wp_region_quiet_below (by kernel_rfl) (by kernel_rfl) ?_
    repeat (first | go_big_quiet_step (fail) | quiet_step (fail))
    refine wpQuiet_nil ?_
    intro _ hw'
    obtain ⟨⟨dq, osq⟩, hw''⟩ := hw'
    subst hw''
    go_wp2_with fail
    go_roundg (rs.length - (i + 1))
    case measure => omega
    case rel => exact ⟨i + 1, rfl, by go_num, ⟨by omega⟩, ⟨HB.out.trans ((below_regrown wr dq osq).mono HB.out.size)⟩, ⟨HR6.out.below (below_regrown wr dq osq)⟩, ⟨Kd.C_below HC6.out (below_regrown wr dq osq)⟩⟩
   ·have h1 : decide (i < rs.length) = false := decide_eq_false hin
    have h1b : decide ((i : Int) < (rs.length : Int)) = false := decide_eq_false (by omega)
    go_wp2_with fail
    go_ret
    exact ⟨rfl, HB.out⟩
end Go.Proofs.Ytaeifdmabkjoiaa.PPU
