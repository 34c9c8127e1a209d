/- The walk of UsageSteps. -/
import Derived.Test.YtaeifdmabkjoiaaQ2
import Derived.Test.YtaeifdmabkjoiaaQ3
import Derived.Deep.QuietTactic
import Derived.BigQuiet
namespace Go.Proofs.Ytaeifdmabkjoiaa.PPU
open Go.RowKit Go.Proofs.YtaeifdmabkjoiaaW.PrintWords Go.Proofs.YtaeifdmabkjoiaaW.PrintLast Go.Proofs.YtaeifdmabkjoiaaW.PrintMore
set_option linter.unusedVariables false
set_option linter.unusedSimpArgs false

theorem kd_take {w : World} {A : Option Addr} {n : Nat} {xs : List S67} (h : Kd.C k67 w A n xs) (m : Nat) (hm : m ≤ n) : Kd.C k67 w A m (xs.take m) := by
  obtain ⟨h1, h2, h3⟩ := h
  refine ⟨by rw [List.length_take]; omega, by omega, fun h0 => ?_⟩
  obtain ⟨ad, e, h4⟩ := h3 (by omega)
  refine ⟨ad, e, fun j p hp => h4 j p ?_⟩
  rw [List.getElem?_take] at hp
  split at hp
  · exact hp
  · cases hp
theorem at_v4 (p g N : Nat) (L : Int → Int) (t v : Int) (w : World) (hS : St w p g N L) (hN : N ≤ 2000) (ht : 0 ≤ t ∧ t < 1099511627776) (hv : L t = v) : Calls Try.prog 12 #[ptrV p, .int .i64 t] w fun e w' => e = .returned (.int .i64 v) ∧ Below w.heap.size w w' := by
  have h := at_c p g N L t w hS hN
  rwa [clp_id ht.1 (by omega), show mn t 1099511627775 = t by unfold mn; split <;> omega, hv] at h
theorem same_v4 (p g N : Nat) (L : Int → Int) (p2 g2 N2 : Nat) (L2 : Int → Int) (w : World) (hS : St w p g N L) (hS2 : St w p2 g2 N2 L2) (hN : N ≤ 2000) (hN2 : N2 ≤ 2000) (hv : ∀ s, 0 ≤ s → s < 1099511627776 → L s = L2 s) :
    Calls Try.prog 26 #[ptrV p, ptrV p2] w fun e w' => e = .returned (.bool true) ∧ Below w.heap.size w w' := by
  refine (same_c p g N L p2 g2 N2 L2 w hS hS2 hN hN2).mono ?_
  rintro e w' ⟨r, rfl, hr, hb⟩
  rw [hr.2 hv]
  exact ⟨rfl, hb⟩
/-- What the law has asked of the first i steps. -/
def Gd (n : Nat) (f : Nat → S67) (i : Nat) : Prop := 0 < n ∧ (f 0).f0 = 0 ∧ ∀ j, j < i → (f j).f0 < 1099511627776 ∧ okAt f j
theorem gd_iff (n : Nat) (f : Nat → S67) : Gd n f n ↔ Wf n f := by
  rw [wf_iff]
  constructor
  · rintro ⟨h0, h1, h2⟩
    exact ⟨h0, h1, (h2 (n - 1) (by omega)).1, fun j hj => (h2 j hj).2⟩
  · intro h
    have hw := (wf_iff n f).2 h
    exact ⟨h.1, h.2.1, fun j hj => ⟨hw.top j hj, h.2.2.2 j hj⟩⟩
theorem gd_step (n : Nat) (f : Nat → S67) (i : Nat) : Gd n f (i + 1) ↔ Gd n f i ∧ (f i).f0 < 1099511627776 ∧ okAt f i := by
  constructor
  · rintro ⟨h0, h1, h2⟩
    exact ⟨⟨h0, h1, fun j hj => h2 j (by omega)⟩, h2 i (by omega)⟩
  · rintro ⟨⟨h0, h1, h2⟩, h3⟩
    refine ⟨h0, h1, fun j hj => ?_⟩
    by_cases e : j = i
    · rw [e]; exact h3
    · exact h2 j (by omega)
set_option maxHeartbeats 8000000 in
set_option maxRecDepth 100000 in
theorem steps_law (A : Option Addr) (len cap : Nat) (F : Nat → ActV) (A1 : Option Addr) (cap1 : Nat) (zs : List S67) (w : World) (hF : Acts w A len F) (hl : len ≤ cap) (hc : len ≤ 9223372036854775807) (hz : Kd.C k67 w A1 zs.length zs) (hzc : zs.length ≤ cap1) :
    Calls Try.prog 7 #[.slice A len cap, .slice A1 zs.length cap1] w fun e w' => e = .returned (.bool true) ∧ Below w.heap.size w w' := by
  have HF := Aside0.mk hF
  have HZ := Aside0.mk hz
  have hzl : zs.length ≤ 9223372036854775807 := hz.2.1
  have hu29 := Try.underlying29
  have hu67 := Try.underlying67
  clear hF hz
  obtain ⟨m, hm⟩ : ∃ m, m = zs.length := ⟨_, rfl⟩
  rw [← hm] at HZ hzc hzl ⊢
  have HM := Aside0.mk hm
  clear hm
  go_enter Try.func7, Try.ntmps7
  go_wp2_with fail
  refine (play_c 5 A len cap F 20 _ HF.out hc (by omega)).mono ?_
  rintro e w1 ⟨p, g, l, A', c', rfl, hS, hR, hln, hp, hg, hb⟩
  have HB1 := Aside0.mk hb
  have HS1 := Aside0.mk hS
  clear hS hR hp hg hb
  go_wp2_with fail
  have hb1 : Below w1.heap.size w1 (w1.alloc (.cells #[.int .i64 5, .slice A' l.length c'] 29 (0, 0))) := (Below.refl _ w1).alloc (Nat.le_refl _) _
  refine (list_c p g _ _ _ (HS1.out.below hb1) (by omega)).mono ?_
  rintro e w2 ⟨g4, cap4, n4, f4, rfl, h1, h2, h3, h4, h5, h6, h7⟩
  have HB2 := Aside0.mk (below_step HB1.out (below_step hb1 h7))
  have HS2 := Aside0.mk (HS1.out.below (below_step hb1 h7))
  have HR2 := Aside0.mk h1
  have HW4 := Aside0.mk h4
  have HL4 := Aside0.mk h6
  have hn4 : n4 ≤ 41 := h5
  have hc4 : n4 ≤ cap4 := h1.1
  clear h1 h2 h3 h4 h5 h6 h7 hb1
  go_wp2_with fail
  refine (of_yes (some ⟨g4, 0, none⟩) cap4 n4 (listF n4 f4) _ (HR2.out.kd (by omega)) (listF_len _ _) hc4 (by omega) (by
    have h := HW4.out
    exact ⟨⟨h.pos, by rw [listF_at _ _ _ h.pos]; exact h.zero, fun i j h1 h2 => by rw [listF_at _ _ _ (by omega), listF_at _ _ _ h2]; exact h.lt i j h1 h2, fun i hi => by rw [listF_at _ _ _ hi]; exact h.top i hi, fun i hi => by rw [listF_at _ _ _ hi]; exact h.lv i hi⟩, fun i hi => by rw [listF_at _ _ _ (by omega), listF_at _ _ _ hi]; exact h.ne i hi⟩)).mono ?_
  rintro e w3 ⟨p2, g2, rfl, hS, hp2, hg2, hb⟩
  have HB3 := Aside0.mk (below_step HB2.out hb)
  have HS3 := Aside0.mk (HS2.out.below hb)
  have HR3 := Aside0.mk (HR2.out.below hb)
  have HU3 := Aside0.mk (hS.congr (fun s h0 h1 => (lev_congr s (fun k hk => listF_at n4 f4 k hk)).trans (HL4.out s h0 h1)))
  clear hS hp2 hg2 hb
  go_wp2_with fail
  refine (same_v4 p g _ _ p2 g2 n4 _ _ HS3.out HU3.out (by omega) (by omega) (fun s _ _ => rfl)).mono ?_
  rintro e w4 ⟨rfl, hb⟩
  have HB4 := Aside0.mk (below_step HB3.out hb)
  have HR4 := Aside0.mk (HR3.out.below hb)
  have hp4 := HW4.out.pos
  have r0 : w4.cell? ⟨g4, 0, none⟩ = some (.int .i64 0) := by
    have h := HR4.out.at0 0 hp4
    rwa [HW4.out.zero] at h
  have hn40 : ((n4 : Int) == 0) = false := by simp; omega
  have hn41 : (0 : Int) < (n4 : Int) := by omega
  clear hb
  go_upto_if 49 with fail
  go_cut [1] from 49 to 51 (fun v1 wx => ∃ n ys, v1 = .slice A1 n cap1 ∧ n ≤ 100 ∧ n ≤ cap1 ∧ Aside0 (Kd.C k67 w A1 n ys) ∧ wx = w4)
  case first =>
    by_cases h100 : 100 < m
    · have h1 : decide (100 < m) = true := decide_eq_true h100
      have h1b : decide ((100 : Int) < (m : Int)) = true := decide_eq_true (by omega)
      have h1c : (100 : Int) < (m : Int) := by omega
      have hcc : (100 : Int) ≤ (cap1 : Int) := by omega
      have hcc2 : 100 ≤ cap1 := by omega
      try rw [h1]
      go_wp2_with fail
      go_meet
      case rel => exact ⟨100, zs.take 100, rfl, by omega, by omega, ⟨kd_take HZ.out 100 (by omega)⟩, rfl⟩
    · have h1 : decide (100 < m) = false := decide_eq_false h100
      have h1b : decide ((100 : Int) < (m : Int)) = false := decide_eq_false (by omega)
      have h1c : ¬ ((100 : Int) < (m : Int)) := by omega
      try rw [h1]
      go_wp2_with fail
      go_meet
      case rel => exact ⟨m, zs, rfl, by omega, by omega, HZ, rfl⟩
  case rest =>
    obtain ⟨n, ys, rfl, hn100, hncap, HY, rfl⟩ := hcut
    go_upto_region 8 with fail
    go_cut [10] from 52 to 61 (fun v10 wx => ∃ gd : Bool, v10 = .bool gd ∧ Aside0 (gd = true ↔ Gd n (at67 ys) 0) ∧ wx = wc)
    case first =>
      by_cases h0 : 0 < n
      · have h0b : decide (0 < n) = true := decide_eq_true h0
        have h0c : (0 : Int) < (n : Int) := by omega
        obtain ⟨ad, hA0, c0, _⟩ := at_T67 (Kd.C_below HY.out HB4.out) 0 (by omega) h0c
        subst hA0
        have e0 : ad.add ((0 : Int).toNat * 2) = ad := by unfold Addr.add; simp
        rw [e0] at c0
        by_cases hz0 : (at67 ys 0).f0 = 0
        · have c0' : wc.cell? ad = some (.int .i64 0) := by rw [c0]; show some (Value.int .i64 (at67 ys 0).f0) = _; rw [hz0]
          have HZ0 := Aside0.mk hz0
          clear c0 hz0 e0
          go_wp2_with fail
          go_meet
          case rel => exact ⟨true, by first | rfl | simp, ⟨⟨fun _ => ⟨h0, HZ0.out, fun j hj => by omega⟩, fun _ => rfl⟩⟩, rfl⟩
        · have hzb : ((at67 ys 0).f0 == 0) = false := by simp [hz0]
          have c0' : wc.cell? ad = some (.int .i64 (at67 ys 0).f0) := c0
          have HZ0 := Aside0.mk hz0
          clear c0 hz0 e0
          go_wp2_with fail
          go_meet
          case rel => exact ⟨false, by first | rfl | simp, ⟨⟨(fun h => by cases h), (fun h => by exfalso; have := HZ0.out; exact this h.2.1)⟩⟩, rfl⟩
      · have h0b : decide (0 < n) = false := decide_eq_false h0
        have h0c : ¬ (0 : Int) < (n : Int) := by omega
        go_wp2_with fail
        go_meet
        case rel => exact ⟨false, by first | rfl | simp, ⟨⟨(fun h => by cases h), (fun h => by exfalso; have := h.1; omega)⟩⟩, rfl⟩
    case rest =>
      obtain ⟨gd0, rfl, HG0, rfl⟩ := hcut
      rename_i w5
      go_wp2_with fail
      go_loopg [10, 11] n (fun kq v10 v11 w' => ∃ i : Nat, ∃ gd : Bool, n - i = kq ∧ v10 = .bool gd ∧ v11 = .int .i64 i ∧ Aside0 (i ≤ n) ∧ Aside0 (gd = true ↔ Gd n (at67 ys) i) ∧ Aside0 (Below w.heap.size w w'))
      case atStart => exact ⟨0, gd0, by omega, rfl, rfl, ⟨Nat.zero_le _⟩, HG0, HB4⟩
      case round =>
        obtain ⟨i, gd, hi, rfl, rfl, HI, HGI, HBr⟩ := hrel
        subst hi
        by_cases hin : i < n
        · have h1 : decide (i < n) = true := decide_eq_true hin
          obtain ⟨ad, hA0, d0, d1⟩ := at_T67 (Kd.C_below HY.out HBr.out) (i : Int) (by omega) (by omega)
          subst hA0
          rw [Int.toNat_natCast] at d0 d1
          have c0 : wr.cell? (ad.add (i * 2)) = some (.int .i64 (at67 ys i).f0) := d0
          have c1 : wr.cell? ⟨(ad.add (i * 2)).block, (ad.add (i * 2)).off + 1, none⟩ = some (.int .i64 (at67 ys i).f1) := d1
          clear d0 d1
          have k0 := cell_regrown c0
          have k1 := cell_regrown c1
          have hb3 : (0 : Int) ≤ (i : Int) := by omega
          have hb4 : (i : Int) < (n : Int) := by omega
          cases gd with
          | false =>
            go_wp2_with fail
            refine wp_region_quiet_below (by kernel_rfl) (by kernel_rfl) ?_
            repeat (first | go_big_quiet_step (fail) | quiet_step (fail))
            refine wpQuiet_nil ?_
            intro _ hw'
            obtain ⟨⟨dq, osq⟩, hw''⟩ := hw'
            subst hw''
            go_wp2_with fail
            go_roundg (n - (i + 1))
            case measure => omega
            case rel => exact ⟨i + 1, false, rfl, by first | rfl | simp, by go_num, ⟨by omega⟩, ⟨by rw [gd_step]; exact ⟨(fun h => by cases h), (fun h => by exfalso; have := HGI.out.2 h.1; cases this)⟩⟩, ⟨HBr.out.trans ((below_regrown wr dq osq).mono HBr.out.size)⟩⟩
          | true =>
            by_cases hA : (at67 ys i).f0 < 1099511627776
            · have hAb : decide ((at67 ys i).f0 < 1099511627776) = true := decide_eq_true hA
              by_cases hB : -1000000 ≤ (at67 ys i).f1
              · have hBb : decide (-1000000 ≤ (at67 ys i).f1) = true := decide_eq_true hB
                by_cases hC : (at67 ys i).f1 ≤ 1000000
                · have hCb : decide ((at67 ys i).f1 ≤ 1000000) = true := decide_eq_true hC
                  by_cases h0 : i = 0
                  · have h0b : ((i : Int) == 0) = true := by simp [h0]
                    have H0 := Aside0.mk h0
                    clear h0
                    go_wp2_with fail
                    refine wp_region_quiet_below (by kernel_rfl) (by kernel_rfl) ?_
                    repeat (first | go_big_quiet_step (fail) | quiet_step (fail))
                    refine wpQuiet_nil ?_
                    intro _ hw'
                    obtain ⟨⟨dq, osq⟩, hw''⟩ := hw'
                    subst hw''
                    go_wp2_with fail
                    go_roundg (n - (i + 1))
                    case measure => omega
                    case rel => exact ⟨i + 1, true, rfl, by first | rfl | simp, by go_num, ⟨by omega⟩, ⟨by rw [gd_step]; exact ⟨fun _ => ⟨HGI.out.1 (by trivial), hA, ⟨hB, hC⟩, fun h => by have := H0.out; omega⟩, fun _ => rfl⟩⟩, ⟨HBr.out.trans ((below_regrown wr dq osq).mono HBr.out.size)⟩⟩
                  · have h0b : ((i : Int) == 0) = false := by simp [h0]
                    obtain ⟨ad2, hA2, e0, e1⟩ := at_T67 (Kd.C_below HY.out HBr.out) ((i - 1 : Nat) : Int) (by omega) (by omega)
                    obtain rfl := Option.some.inj hA2
                    rw [Int.toNat_natCast] at e0 e1
                    have f0 : wr.cell? (ad.add ((i - 1) * 2)) = some (.int .i64 (at67 ys (i - 1)).f0) := e0
                    have f1 : wr.cell? ⟨(ad.add ((i - 1) * 2)).block, (ad.add ((i - 1) * 2)).off + 1, none⟩ = some (.int .i64 (at67 ys (i - 1)).f1) := e1
                    clear e0 e1 hA2
                    have k2 := cell_regrown f0
                    have k3 := cell_regrown f1
                    have hw1 : IntKind.i64.wrap ((i : Int) - 1) = (i : Int) - 1 := IntWalk.i64_in _ (by omega)
                    have hv1 : (0 : Int) ≤ (i : Int) - 1 := by omega
                    have hv2 : (1 : Int) ≤ (i : Int) := by omega
                    have hv3 : (i : Int) - 1 < (n : Int) := by omega
                    have hv4 : ((i : Int) - 1).toNat = i - 1 := by omega
                    by_cases hD : (at67 ys (i - 1)).f0 < (at67 ys i).f0
                    · have hDb : decide ((at67 ys (i - 1)).f0 < (at67 ys i).f0) = true := decide_eq_true hD
                      by_cases hE : (at67 ys i).f1 = (at67 ys (i - 1)).f1
                      · have hEb : ((at67 ys i).f1 != (at67 ys (i - 1)).f1) = false := by simp [hE]
                        have HE := Aside0.mk hE
                        clear hE
                        go_wp2_with fail
                        refine wp_region_quiet_below (by kernel_rfl) (by kernel_rfl) ?_
                        repeat (first | go_big_quiet_step (fail) | quiet_step (fail))
                        refine wpQuiet_nil ?_
                        intro _ hw'
                        obtain ⟨⟨dq, osq⟩, hw''⟩ := hw'
                        subst hw''
                        go_wp2_with fail
                        go_roundg (n - (i + 1))
                        case measure => omega
                        case rel => exact ⟨i + 1, false, rfl, by first | rfl | simp, by go_num, ⟨by omega⟩, ⟨by rw [gd_step]; exact ⟨(fun h => by cases h), (fun h => by exfalso; exact (h.2.2.2 (by omega)).2 HE.out)⟩⟩, ⟨HBr.out.trans ((below_regrown wr dq osq).mono HBr.out.size)⟩⟩
                      · have hEb : ((at67 ys i).f1 != (at67 ys (i - 1)).f1) = true := by simp [hE]
                        have HE := Aside0.mk hE
                        clear hE
                        go_wp2_with fail
                        refine wp_region_quiet_below (by kernel_rfl) (by kernel_rfl) ?_
                        repeat (first | go_big_quiet_step (fail) | quiet_step (fail))
                        refine wpQuiet_nil ?_
                        intro _ hw'
                        obtain ⟨⟨dq, osq⟩, hw''⟩ := hw'
                        subst hw''
                        go_wp2_with fail
                        go_roundg (n - (i + 1))
                        case measure => omega
                        case rel => exact ⟨i + 1, true, rfl, by first | rfl | simp, by go_num, ⟨by omega⟩, ⟨by rw [gd_step]; exact ⟨fun _ => ⟨HGI.out.1 (by trivial), hA, ⟨hB, hC⟩, fun h => ⟨hD, HE.out⟩⟩, fun _ => rfl⟩⟩, ⟨HBr.out.trans ((below_regrown wr dq osq).mono HBr.out.size)⟩⟩
                    · have hDb : decide ((at67 ys (i - 1)).f0 < (at67 ys i).f0) = false := decide_eq_false hD
                      go_wp2_with fail
                      refine wp_region_quiet_below (by kernel_rfl) (by kernel_rfl) ?_
                      repeat (first | go_big_quiet_step (fail) | quiet_step (fail))
                      refine wpQuiet_nil ?_
                      intro _ hw'
                      obtain ⟨⟨dq, osq⟩, hw''⟩ := hw'
                      subst hw''
                      go_wp2_with fail
                      go_roundg (n - (i + 1))
                      case measure => omega
                      case rel => exact ⟨i + 1, false, rfl, by first | rfl | simp, by go_num, ⟨by omega⟩, ⟨by rw [gd_step]; exact ⟨(fun h => by cases h), (fun h => by exfalso; have := (h.2.2.2 (by omega)).1; omega)⟩⟩, ⟨HBr.out.trans ((below_regrown wr dq osq).mono HBr.out.size)⟩⟩
                · have hCb : decide ((at67 ys i).f1 ≤ 1000000) = false := decide_eq_false hC
                  go_wp2_with fail
                  refine wp_region_quiet_below (by kernel_rfl) (by kernel_rfl) ?_
                  repeat (first | go_big_quiet_step (fail) | quiet_step (fail))
                  refine wpQuiet_nil ?_
                  intro _ hw'
                  obtain ⟨⟨dq, osq⟩, hw''⟩ := hw'
                  subst hw''
                  go_wp2_with fail
                  go_roundg (n - (i + 1))
                  case measure => omega
                  case rel => exact ⟨i + 1, false, rfl, by first | rfl | simp, by go_num, ⟨by omega⟩, ⟨by rw [gd_step]; exact ⟨(fun h => by cases h), (fun h => by exfalso; have := h.2.2.1.2; omega)⟩⟩, ⟨HBr.out.trans ((below_regrown wr dq osq).mono HBr.out.size)⟩⟩
              · have hBb : decide (-1000000 ≤ (at67 ys i).f1) = false := decide_eq_false hB
                go_wp2_with fail
                refine wp_region_quiet_below (by kernel_rfl) (by kernel_rfl) ?_
                repeat (first | go_big_quiet_step (fail) | quiet_step (fail))
                refine wpQuiet_nil ?_
                intro _ hw'
                obtain ⟨⟨dq, osq⟩, hw''⟩ := hw'
                subst hw''
                go_wp2_with fail
                go_roundg (n - (i + 1))
                case measure => omega
                case rel => exact ⟨i + 1, false, rfl, by first | rfl | simp, by go_num, ⟨by omega⟩, ⟨by rw [gd_step]; exact ⟨(fun h => by cases h), (fun h => by exfalso; have := h.2.2.1.1; omega)⟩⟩, ⟨HBr.out.trans ((below_regrown wr dq osq).mono HBr.out.size)⟩⟩
            · have hAb : decide ((at67 ys i).f0 < 1099511627776) = false := decide_eq_false hA
              go_wp2_with fail
              refine wp_region_quiet_below (by kernel_rfl) (by kernel_rfl) ?_
              repeat (first | go_big_quiet_step (fail) | quiet_step (fail))
              refine wpQuiet_nil ?_
              intro _ hw'
              obtain ⟨⟨dq, osq⟩, hw''⟩ := hw'
              subst hw''
              go_wp2_with fail
              go_roundg (n - (i + 1))
              case measure => omega
              case rel => exact ⟨i + 1, false, rfl, by first | rfl | simp, by go_num, ⟨by omega⟩, ⟨by rw [gd_step]; exact ⟨(fun h => by cases h), (fun h => by exfalso; have := h.2.1; omega)⟩⟩, ⟨HBr.out.trans ((below_regrown wr dq osq).mono HBr.out.size)⟩⟩
        · have h1 : decide (i < n) = false := decide_eq_false hin
          obtain rfl : i = n := by have := HI.out; omega
          have HG := Aside0.mk (HGI.out.trans (gd_iff i (at67 ys)))
          have hyl : ys.length = i := HY.out.1
          have HYL := Aside0.mk hyl
          clear hyl
          by_cases hW : Wf i (at67 ys)
          · have HW := Aside0.mk hW
            obtain rfl : gd = true := HG.out.2 hW
            clear hW
            go_wp2_with fail
            refine (of_yes A1 cap1 i ys _ (Kd.C_below HY.out HBr.out) HYL.out hncap (by omega) HW.out).mono ?_
            rintro e w6 ⟨p3, g3, rfl, hS, hp3, hg3, hb⟩
            have HB6 := Aside0.mk (below_step HBr.out hb)
            have HS6 := Aside0.mk hS
            clear hS hp3 hg3 hb
            go_wp2_with fail
            go_loopg [14] i (fun kq v14 w' => ∃ j : Nat, i - j = kq ∧ v14 = .int .i64 j ∧ Aside0 (j ≤ i) ∧ Aside0 (Below w.heap.size w w') ∧ Aside0 (St w' p3 g3 i (lev i (at67 ys))))
            case atStart => exact ⟨0, by omega, rfl, ⟨Nat.zero_le _⟩, HB6, HS6⟩
            case round =>
              obtain ⟨j, hj, rfl, HJ, HB, HS⟩ := hrel
              subst hj
              by_cases hji : j < i
              · have h2 : decide (j < i) = true := decide_eq_true hji
                have h2b : decide ((j : Int) < (i : Int)) = true := decide_eq_true (by omega)
                obtain ⟨ad, hA0, d0, d1⟩ := at_T67 (Kd.C_below HY.out HB.out) (j : Int) (by omega) (by omega)
                subst hA0
                rw [Int.toNat_natCast] at d0 d1
                have c0 : wr.cell? (ad.add (j * 2)) = some (.int .i64 (at67 ys j).f0) := d0
                have c1 : wr.cell? ⟨(ad.add (j * 2)).block, (ad.add (j * 2)).off + 1, none⟩ = some (.int .i64 (at67 ys j).f1) := d1
                clear d0 d1
                have k0 := cell_regrown c0
                have k1 := cell_regrown c1
                have hb3 : (0 : Int) ≤ (j : Int) := by omega
                have hb4 : (j : Int) < (i : Int) := by omega
                have cA := fun d os => Calls.regrown_of (at_v4 p3 g3 i _ (at67 ys j).f0 (at67 ys j).f1 (Go.Sort.grow (redrawn wr d) os) (HS.out.below (below_regrown wr d os)) (by omega) ⟨HW.out.toWf0.low j hji, HW.out.top j hji⟩ (HW.out.toWf0.lev_at j hji))
                go_wp2_with fail
                refine wp_region_quiet_below (by kernel_rfl) (by kernel_rfl) ?_
                repeat (first | go_big_quiet_step ((with_reducible exact cA _ _)) | quiet_step ((with_reducible exact cA _ _)))
                refine wpQuiet_nil ?_
                intro _ hw'
                obtain ⟨⟨dq, osq⟩, hw''⟩ := hw'
                subst hw''
                go_wp2_with fail
                go_roundg (i - (j + 1))
                case measure => omega
                case rel => exact ⟨j + 1, rfl, by go_num, ⟨by omega⟩, ⟨HB.out.trans ((below_regrown wr dq osq).mono HB.out.size)⟩, ⟨HS.out.below (below_regrown wr dq osq)⟩⟩
              · have h2 : decide (j < i) = false := decide_eq_false hji
                have h2b : decide ((j : Int) < (i : Int)) = false := decide_eq_false (by omega)
                go_wp2_with fail
                refine (one_c _).mono ?_
                rintro e w7 ⟨rfl, hb⟩
                have HB7 := Aside0.mk (below_step HB.out hb)
                clear hb
                go_wp2_with fail
                go_ret
                exact ⟨rfl, HB7.out⟩
          · have HW := Aside0.mk hW
            obtain rfl : gd = false := by
              cases gd with
              | false => rfl
              | true => exact absurd (HG.out.1 (by trivial)) hW
            clear hW
            go_wp2_with fail
            refine (of_no A1 cap1 i ys _ (Kd.C_below HY.out HBr.out) HYL.out hncap (by omega) HW.out).mono ?_
            rintro e w6 ⟨rfl, hb⟩
            have HB6 := Aside0.mk (below_step HBr.out hb)
            clear hb
            go_wp2_with fail
            go_loopg [14] 0 (fun kq v14 w' => kq = 0 ∧ v14 = .int .i64 0 ∧ Aside0 (Below w.heap.size w w'))
            case atStart => exact ⟨rfl, rfl, HB6⟩
            case round =>
              obtain ⟨rfl, rfl, HB⟩ := hrel
              go_wp2_with fail
              refine (one_c _).mono ?_
              rintro e w7 ⟨rfl, hb⟩
              have HB7 := Aside0.mk (below_step HB.out hb)
              clear hb
              go_wp2_with fail
              go_ret
              exact ⟨rfl, HB7.out⟩
end Go.Proofs.Ytaeifdmabkjoiaa.PPU
