/- cut and CompactFunc. -/
import Derived.Test.YtaeifdmabkjoiaaA2
import Derived.Deep.RegionHeld3
/- The contract of cut. -/
namespace Go.Proofs.Ytaeifdmabkjoiaa.PPU
open Go.RowKit Go.Proofs.YtaeifdmabkjoiaaW.PrintWords Go.Proofs.YtaeifdmabkjoiaaW.PrintLast Go.Proofs.YtaeifdmabkjoiaaW.PrintMore
set_option linter.unusedVariables false
set_option linter.unusedSimpArgs false

theorem insert_cut (g n cap q : Nat) (f : Nat → S67) (t y : Int) (w : World) (hR : RowF w g n cap f) (hi : q < n) (hbig : n ≤ 2000) (hc63 : cap ≤ 9223372036854775807) :
    Calls Try.prog 65 #[.slice (some ⟨g, 0, none⟩) n cap, .int .i64 ((q : Int) + 1), .slice (some ⟨w.heap.size, 0, none⟩) 1 1] (w.alloc (.cells #[.int .i64 t, .int .i64 y] 67 (0, 0))).drew fun e w' => ∃ g' cap', e = .returned (.slice (some ⟨g', 0, none⟩) (n + 1) cap') ∧ cap' ≤ 9223372036854775807 ∧ RowF w' g' (n + 1) cap' (insF f (q + 1) ⟨t, y⟩) ∧ (g' = g ∨ w.heap.size ≤ g') ∧ w.grownBy w' (some g) ∧ w'.cell? ⟨g, q * 2 + 1, none⟩ = some (.int .i64 (f q).f1) := by
  have hg := hR.lt
  have hb : Below w.heap.size w (w.alloc (.cells #[.int .i64 t, .int .i64 y] 67 (0, 0))).drew := ((Below.refl _ w).alloc (Nat.le_refl _) _).drew
  have h := insert_calls g n cap (q + 1) w.heap.size f ⟨t, y⟩ (w.alloc (.cells #[.int .i64 t, .int .i64 y] 67 (0, 0))).drew (hR.below hb) (by omega) hbig hc63 (heap_alloc_new w _) (by omega)
  refine h.mono ?_
  rintro e w' ⟨g', cap', h1, h2, h3, h4, h5, h6⟩
  refine ⟨g', cap', h1, h2, h3, ?_, (gb_below hb _).trans h5, (h6 q (by omega)).2⟩
  rcases h4 with h4 | h4
  · exact .inl h4
  · refine .inr ?_
    rw [h4]
    exact hb.size

set_option maxHeartbeats 4000000 in
set_option maxRecDepth 100000 in
theorem cut_calls (p g cap n : Nat) (f : Nat → S67) (t : Int) (w : World) (hI : Is w p g cap n f) (hW : Wf0 n f) (hn : n ≤ 2000) (ht : 0 ≤ t) (htt : t ≤ 1099511627776) :
    Calls Try.prog 63 #[ptrV p, .int .i64 t] w fun e w' => ∃ g' cap' n' f', ∃ i : Nat, e = .returned (.int .i64 i) ∧ Is w' p g' cap' n' f' ∧ Cut n f t n' f' i ∧ (g' = g ∨ w.heap.size ≤ g') ∧ Kp w w' p g := by
  have HI := Aside0.mk hI
  have HW := Aside0.mk hW
  have c0 := hI.cell
  have hnn : n ≤ 9223372036854775807 := by omega
  clear hI hW
  by_cases hc : 1099511627776 ≤ t
  · go_enter Try.func63, Try.ntmps63
    go_wp2_with fail
    go_ret
    exact ⟨g, cap, n, f, n, rfl, HI.out, cut_end HW.out hc, .inl rfl, Kp.refl _ _ _⟩
  · go_enter Try.func63, Try.ntmps63
    go_wp2_with fail
    refine (place_calls p g cap n f t _ HI.out ⟨HW.out.pos, by omega⟩ HW.out.rise HW.out.zero ⟨ht, htt⟩).mono ?_
    rintro e w1 ⟨q, rfl, hq, hb⟩
    have I1 := HI.out.below hb
    have c1 := I1.cell
    have hqn := hq.lt
    have r0 := I1.row.at0 q hqn
    have r1 := I1.row.at1 q hqn
    have hpn := I1.ne
    have hpl := I1.lt
    have hfz : ∀ o, w1.frozen? ⟨p, o, none⟩ = false := fun o => blk_frozen I1.hd o
    have HI1 := Aside0.mk I1
    have HB := Aside0.mk hb
    have HQ := Aside0.mk hq
    clear I1 hb hq c0
    by_cases he : (f q).f0 = t
    · go_wp2_with fail
      go_ret
      exact ⟨g, cap, n, f, q, rfl, HI1.out, cut_is HW.out HQ.out he, .inl rfl, Kp.of_below HB.out _ _⟩
    · go_wp2_with fail
      have hgs : ∀ w', w1.grownBy w' (some g) → w'.cell? ⟨p, 0, none⟩ = some (.slice (some ⟨g, 0, none⟩) n cap) ∧ w'.frozen? ⟨p, 0, none⟩ = false := fun w' hb2 =>
        have hd2 := hb2.block p hpl (fun e => hpn (Option.some.inj e))
        ⟨(World.cell?_of_block (a := ⟨p, 0, none⟩) hd2).trans c1, (World.frozen?_of_block (a := ⟨p, 0, none⟩) hd2).trans (hfz 0)⟩
      have HGS := Aside0.mk hgs
      have KA : Aside0 (∀ o, ((w1.alloc o).drew.cell? ⟨p, 0, none⟩ = some (.slice (some ⟨g, 0, none⟩) n cap) ∧ (w1.alloc o).drew.cell? ⟨g, q * 2 + 1, none⟩ = some (.int .i64 (f q).f1) ∧ (w1.alloc o).drew.frozen? ⟨p, 0, none⟩ = false)) := ⟨fun o => by
        have hb : Below w1.heap.size w1 (w1.alloc o).drew := ((Below.refl _ w1).alloc (Nat.le_refl _) _).drew
        exact ⟨(hb.cell (p := ⟨p, 0, none⟩) hpl).trans c1, (hb.cell (p := ⟨g, _, none⟩) HI1.out.row.lt).trans r1, (hb.frozen (p := ⟨p, 0, none⟩) hpl).trans (hfz 0)⟩⟩
      have f1 := hfz 0
      clear hgs hfz r0
      have hw1 : IntKind.i64.wrap ((q : Int) + 1) = (q : Int) + 1 := IntWalk.i64_in _ (by omega)
      have hw2 : (0 : Int) ≤ (q : Int) + 1 := by omega
      have hx1 : ¬ (p = w1.heap.size) := by omega
      have hx2 : p ≠ w1.heap.size := by omega
      go_region_with ((with_reducible refine (insert_cut g n cap q f t _ _ HI1.out.row hqn hn HI1.out.mx).mono ?_); rintro e w2 ⟨g2, cap2, rfl, hcap2, hR2, hg2, hb2, hr2⟩; have HD := Aside0.mk (And.intro hcap2 (And.intro hR2 (And.intro hg2 (And.intro hb2 hr2)))); have c2 := (HGS.out _ hb2).1; have f2 := (HGS.out _ hb2).2; clear hcap2 hR2 hg2 hb2 hr2)
      all_goals
        have hqn2 : q < 9223372036854775807 := by omega
        go_wp2_with fail
        go_ret
        obtain ⟨a1, a2, a3, a4, a5⟩ := HD.out
        refine ⟨g2, cap2, n + 1, insF f (q + 1) ⟨t, (f q).f1⟩, q + 1, rfl, HI1.out.stored a4 a2 (by rcases a3 with h | h <;> omega) a1, cut_ins HW.out HQ.out he ht hc, ?_, ?_⟩
        · rcases a3 with h | h
          · exact .inl h
          · exact .inr (Nat.le_trans HB.out.size h)
        · exact ((Kp.of_below HB.out p g).grown a4 (.inl rfl)).set _ _ (.inl rfl)
end Go.Proofs.Ytaeifdmabkjoiaa.PPU

/- The plain law of compaction: steps that have the level of the step ahead go, and the level at each time stays. -/
namespace Go.Proofs.Ytaeifdmabkjoiaa.PPU
open Go.RowKit Go.Proofs.YtaeifdmabkjoiaaW.PrintWords Go.Proofs.YtaeifdmabkjoiaaW.PrintLast Go.Proofs.YtaeifdmabkjoiaaW.PrintMore
set_option linter.unusedVariables false
set_option linter.unusedSimpArgs false

/-- The first k of h are the first m of f, without those that have the level of the one ahead. -/
structure Cmp (m : Nat) (f : Nat → S67) (k : Nat) (h : Nat → S67) : Prop where
  pos : 0 < k
  le : k ≤ m
  z : h 0 = f 0
  rise : ∀ i j, i < j → j < k → (h i).f0 < (h j).f0
  last : (h (k - 1)).f1 = (f (m - 1)).f1
  lastle : (h (k - 1)).f0 ≤ (f (m - 1)).f0
  ne : ∀ i, i + 1 < k → (h i).f1 ≠ (h (i + 1)).f1
  mem : ∀ i, i < k → ∃ j, j < m ∧ h i = f j
  lev : ∀ s, lev k h s = lev m f s
def updF (h : Nat → S67) (k : Nat) (x : S67) (j : Nat) : S67 := if j = k then x else h j
theorem updF_eq (h : Nat → S67) (k : Nat) (x : S67) : updF h k x k = x := if_pos rfl
theorem updF_ne (h : Nat → S67) (k : Nat) (x : S67) (j : Nat) (hj : j ≠ k) : updF h k x j = h j := if_neg hj
section
variable {n : Nat} {f : Nat → S67}
theorem cmp_full (hW : Wf0 n f) (m : Nat) (h0 : 0 < m) (hm : m ≤ n) (hne : ∀ i, i + 1 < m → (f i).f1 ≠ (f (i + 1)).f1) : Cmp m f m f :=
  ⟨h0, Nat.le_refl _, rfl, fun i j h1 h2 => hW.lt i j h1 (by omega), rfl, Int.le_refl _, hne, fun i hi => ⟨i, hi, rfl⟩, fun s => rfl⟩
theorem cmp_skip {m k : Nat} {h : Nat → S67} (hW : Wf0 n f) (hC : Cmp m f k h) (hm : m < n) (he : (f m).f1 = (f (m - 1)).f1) : Cmp (m + 1) f k h := by
  have h1 := hC.pos
  have h2 := hC.le
  have h3 := hW.lt (m - 1) m (by omega) hm
  have h4 := hC.lastle
  refine ⟨hC.pos, by omega, hC.z, hC.rise, by rw [hC.last, Nat.add_sub_cancel, he], by rw [Nat.add_sub_cancel]; omega, hC.ne, fun i hi => ?_, fun s => ?_⟩
  · obtain ⟨j, h5, h6⟩ := hC.mem i hi
    exact ⟨j, by omega, h6⟩
  · rw [PPU.lev]
    by_cases hs : (f m).f0 ≤ s
    · rw [if_pos hs]
      have : Plc k h s (k - 1) := ⟨by omega, by omega, fun q h5 h6 => by omega⟩
      rw [lev_plc this, hC.last, he]
    · rw [if_neg hs]
      exact hC.lev s
theorem cmp_take {m k : Nat} {h : Nat → S67} (hW : Wf0 n f) (hC : Cmp m f k h) (hm : m < n) (he : (f m).f1 ≠ (f (m - 1)).f1) : Cmp (m + 1) f (k + 1) (updF h k (f m)) := by
  have h1 := hC.pos
  have h2 := hC.le
  have h3 := hW.lt (m - 1) m (by omega) hm
  have h4 := hC.lastle
  refine ⟨by omega, by omega, by rw [updF_ne _ _ _ _ (by omega)]; exact hC.z, fun i j h5 h6 => ?_, by rw [Nat.add_sub_cancel, Nat.add_sub_cancel, updF_eq], by rw [Nat.add_sub_cancel, Nat.add_sub_cancel, updF_eq]; exact Int.le_refl _, fun i hi => ?_, fun i hi => ?_, fun s => ?_⟩
  · rw [updF_ne _ _ _ i (by omega)]
    by_cases e : j = k
    · subst e
      rw [updF_eq]
      rcases Nat.eq_or_lt_of_le (Nat.le_sub_one_of_lt h5) with e | e
      · rw [e]; omega
      · have := hC.rise i (j - 1) e (by omega)
        omega
    · rw [updF_ne _ _ _ j e]
      exact hC.rise i j h5 (by omega)
  · rw [updF_ne _ _ _ i (by omega)]
    by_cases e : i + 1 = k
    · rw [e, updF_eq, show i = k - 1 by omega, hC.last]
      exact fun e => he e.symm
    · rw [updF_ne _ _ _ _ e]
      exact hC.ne i (by omega)
  · by_cases e : i = k
    · subst e
      exact ⟨m, by omega, updF_eq _ _ _⟩
    · obtain ⟨j, h5, h6⟩ := hC.mem i (by omega)
      exact ⟨j, by omega, by rw [updF_ne _ _ _ _ e]; exact h6⟩
  · rw [PPU.lev, PPU.lev, updF_eq, lev_congr s (fun j hj => updF_ne h k (f m) j (by omega)), hC.lev s]
/-- What CompactFunc leaves. -/
structure Comp (n : Nat) (f : Nat → S67) (n' : Nat) (f' : Nat → S67) : Prop where
  wf : Wf n' f'
  len : n' ≤ n
  lev : ∀ s, lev n' f' s = lev n f s
theorem Cmp.comp {k : Nat} {h : Nat → S67} (hW : Wf0 n f) (hC : Cmp n f k h) : Comp n f k h :=
  ⟨⟨⟨hC.pos, by rw [hC.z]; exact hW.zero, hC.rise, fun i hi => by obtain ⟨j, h5, h6⟩ := hC.mem i hi; rw [h6]; exact hW.top j h5, fun i hi => by obtain ⟨j, h5, h6⟩ := hC.mem i hi; rw [h6]; exact hW.lv j h5⟩, hC.ne⟩, hC.le, hC.lev⟩
end
end Go.Proofs.Ytaeifdmabkjoiaa.PPU

/- The contract of CompactFunc over steps. -/
namespace Go.Proofs.Ytaeifdmabkjoiaa.PPU
open Go.RowKit Go.Proofs.YtaeifdmabkjoiaaW.PrintWords Go.Proofs.YtaeifdmabkjoiaaW.PrintLast Go.Proofs.YtaeifdmabkjoiaaW.PrintMore
set_option linter.unusedVariables false
set_option linter.unusedSimpArgs false

abbrev plainV : Value := .func (.func 67) #[] #[]
theorem plain1_yes (x y : S67) (w : World) (h : x.f1 = y.f1) : Calls Try.prog 67 #[.agg #[.int .i64 x.f0, .int .i64 x.f1], .agg #[.int .i64 y.f0, .int .i64 y.f1]] w fun e w' => e = .returned (.bool true) ∧ Below w.heap.size w w' :=
  usage_Steps_plainC1.calls x.f0 x.f1 y.f0 y.f1 true w (by unfold usage_Steps_plainC1.f; rw [h]; simp)
theorem plain1_no (x y : S67) (w : World) (h : ¬ x.f1 = y.f1) : Calls Try.prog 67 #[.agg #[.int .i64 x.f0, .int .i64 x.f1], .agg #[.int .i64 y.f0, .int .i64 y.f1]] w fun e w' => e = .returned (.bool false) ∧ Below w.heap.size w w' :=
  usage_Steps_plainC1.calls x.f0 x.f1 y.f0 y.f1 false w (by unfold usage_Steps_plainC1.f; simp [h])
theorem clear_info : ∀ w, (zeroValue 67).run Try.prog w = .ok (.agg #[.int .i64 0, .int .i64 0]) w := fun w => by
  obtain ⟨i0, hi0, hz0, hzs, hzb⟩ := info_parts info67
  simp [zeroValue, typeInfo, hi0, hz0]

set_option maxHeartbeats 4000000 in
set_option maxRecDepth 100000 in
theorem compact_calls (g cap n : Nat) (f : Nat → S67) (w : World) (hR : RowF w g n cap f) (hW : Wf0 n f) (hn : n ≤ 2000) :
    Calls Try.prog 66 #[.slice (some ⟨g, 0, none⟩) n cap, plainV] w fun e w' => ∃ n' f', e = .returned (.slice (some ⟨g, 0, none⟩) n' cap) ∧ RowF w' g n' cap f' ∧ Comp n f n' f' ∧ w.grownBy w' (some g) := by
  have HR := Aside0.mk hR
  have HW := Aside0.mk hW
  have hnc : n ≤ cap := hR.1
  have hp := hW.pos
  have hu67 := Try.underlying67
  clear hR hW
  by_cases h2 : n < 2
  · go_enter Try.func66, Try.ntmps66
    go_wp2_with fail
    go_ret
    exact ⟨n, f, rfl, HR.out, (cmp_full HW.out n hp (Nat.le_refl _) (fun i hi => by omega)).comp HW.out, World.grownBy.refl _ _⟩
  · go_enter Try.func66, Try.ntmps66
    go_wp2_with fail
    go_loopg [5] (n - 1) (fun kq v5 w' => ∃ k : Nat, n - k = kq ∧ v5 = .int .i64 k ∧ Aside0 (0 < k ∧ k ≤ n) ∧ Aside0 (∀ i, i + 1 < k → (f i).f1 ≠ (f (i + 1)).f1) ∧ Aside0 (Below w.heap.size w w'))
    case atStart => exact ⟨1, by omega, rfl, ⟨by omega, by omega⟩, ⟨fun i hi => by omega⟩, ⟨.refl _ _⟩⟩
    case round =>
      obtain ⟨k, hk, rfl, HK, HN, HB⟩ := hrel
      subst hk
      by_cases hkn : k < n
      · have h1 : decide (k < n) = true := decide_eq_true hkn
        have hk0 : 0 < k := HK.out.1
        have RW := HR.out.below HB.out
        have a0 := RW.at0 k hkn
        have a1 := RW.at1 k hkn
        have b0 := RW.at0 (k - 1) (by omega)
        have b1 := RW.at1 (k - 1) (by omega)
        have hgl := RW.lt
        have KS : Aside0 (∀ w2, Below wr.heap.size wr w2 → w2.cell? ⟨g, k * 2, none⟩ = some (.int .i64 (f k).f0) ∧ w2.cell? ⟨g, k * 2 + 1, none⟩ = some (.int .i64 (f k).f1) ∧ w2.cell? ⟨g, (k - 1) * 2, none⟩ = some (.int .i64 (f (k - 1)).f0) ∧ w2.cell? ⟨g, (k - 1) * 2 + 1, none⟩ = some (.int .i64 (f (k - 1)).f1)) := ⟨fun w2 hb => ⟨(hb.cell (p := ⟨g, _, none⟩) hgl).trans a0, (hb.cell (p := ⟨g, _, none⟩) hgl).trans a1, (hb.cell (p := ⟨g, _, none⟩) hgl).trans b0, (hb.cell (p := ⟨g, _, none⟩) hgl).trans b1⟩⟩
        have hw1 : IntKind.i64.wrap ((k : Int) - 1) = (k : Int) - 1 := IntWalk.i64_in _ (by omega)
        have hb1 : (0 : Int) ≤ (k : Int) - 1 := by omega
        have hb2 : (k : Int) - 1 < (n : Int) := by omega
        have htn : ((k : Int) - 1).toNat = k - 1 := by omega
        have HRW := Aside0.mk RW
        clear RW hk0
        by_cases he : (f k).f1 = (f (k - 1)).f1
        · have HE := Aside0.mk he
          clear he
          have hb3 : (0 : Int) ≤ (k : Int) := by omega
          have hb5 : (1 : Int) ≤ (k : Int) := by omega
          have hb4 : (k : Int) < (n : Int) := by omega
          go_wp2_with fail
          go_region_held3 (fun w' => w'.cell? ⟨g, k * 2, none⟩ = some (.int .i64 (f k).f0) ∧ w'.cell? ⟨g, k * 2 + 1, none⟩ = some (.int .i64 (f k).f1) ∧ w'.cell? ⟨g, (k - 1) * 2, none⟩ = some (.int .i64 (f (k - 1)).f0) ∧ w'.cell? ⟨g, (k - 1) * 2 + 1, none⟩ = some (.int .i64 (f (k - 1)).f1))
            (first
              | (go_keep; done)
              | (go_split_ands; exact KS.out _ HB2.out))
            (((with_reducible refine (plain1_yes _ _ _ HE.out).mono ?_); rintro e w2 ⟨rfl, hb⟩; have HB2 := Aside0.mk (show Below wr.heap.size wr w2 from (Below.refl _ wr).drew.trans hb); clear hb))
          have hck : ¬ (cap = k) := by omega
          rename_i hHeld
          clear hw1 hb1 hb2 htn hb4 hHeld
          go_wp2_with fail
          go_loopg [5, 7] (n - (k + 1)) (fun kq v5 v7 w' => ∃ kk k2 : Nat, ∃ h : Nat → S67, n - (k + k2) = kq ∧ v5 = .int .i64 kk ∧ v7 = .int .i64 k2 ∧ Aside0 (0 < kk ∧ kk + 1 ≤ k + k2 ∧ 0 < k2 ∧ k + k2 ≤ n) ∧ Aside0 (Cmp (k + k2) f kk h) ∧ Aside0 (∀ j, k + k2 ≤ j + 1 → j < n → h j = f j) ∧ Aside0 (RowF w' g n cap h) ∧ Aside0 (w.grownBy w' (some g)))
          case atStart => exact ⟨k, 1, f, rfl, rfl, rfl, ⟨by have := HK.out; omega⟩, ⟨cmp_skip HW.out (cmp_full HW.out k HK.out.1 HK.out.2 HN.out) hkn HE.out⟩, ⟨fun j _ _ => rfl⟩, ⟨HRW.out.below HB2.out⟩, ⟨gb_below (HB.out.trans (HB2.out.mono HB.out.size)) _⟩⟩
          case round =>
            obtain ⟨kk, k2, h, hk2, rfl, rfl, HI, HC, HH, HRh, HG⟩ := hrel
            subst hk2
            have hgl2 := HRh.out.lt
            have hkk1 : kk ≤ n := by have := HI.out; omega
            have hkk2 : ¬ (cap = kk) := by have := HI.out; omega
            have hkk3 : kk < n := by have := HI.out; omega
            have hkk4 : (kk : Int) ≤ (n : Int) := by omega
            have hkk5 : (kk : Int) < (n : Int) := by omega
            by_cases hkn2 : k2 < n - k
            · have h3 : decide (k2 < n - k) = true := decide_eq_true hkn2
              have hi1 : 0 < k2 := HI.out.2.2.1
              have hm : k + k2 < n := by omega
              have a0 := HRh.out.at0 (k + k2) hm
              have a1 := HRh.out.at1 (k + k2) hm
              have b0 := HRh.out.at0 (k + (k2 - 1)) (by omega)
              have b1 := HRh.out.at1 (k + (k2 - 1)) (by omega)
              rw [HH.out (k + k2) (by omega) hm, show (k + k2) * 2 = k * 2 + k2 * 2 by omega] at a0 a1
              rw [HH.out (k + (k2 - 1)) (by omega) (by omega), show (k + (k2 - 1)) * 2 = k * 2 + (k2 - 1) * 2 by omega] at b0 b1
              have s0 := HRh.out.at0 kk hkk3
              have s1 := HRh.out.at1 kk hkk3
              have fz := fun j => HRh.out.fz j
              have KS2 : Aside0 (∀ w2, Below wr.heap.size wr w2 → w2.cell? ⟨g, k * 2 + k2 * 2, none⟩ = some (.int .i64 (f (k + k2)).f0) ∧ w2.cell? ⟨g, k * 2 + k2 * 2 + 1, none⟩ = some (.int .i64 (f (k + k2)).f1) ∧ w2.cell? ⟨g, k * 2 + (k2 - 1) * 2, none⟩ = some (.int .i64 (f (k + (k2 - 1))).f0) ∧ w2.cell? ⟨g, k * 2 + (k2 - 1) * 2 + 1, none⟩ = some (.int .i64 (f (k + (k2 - 1))).f1)) := ⟨fun w2 hb => ⟨(hb.cell (p := ⟨g, _, none⟩) hgl2).trans a0, (hb.cell (p := ⟨g, _, none⟩) hgl2).trans a1, (hb.cell (p := ⟨g, _, none⟩) hgl2).trans b0, (hb.cell (p := ⟨g, _, none⟩) hgl2).trans b1⟩⟩
              have hw1 : IntKind.i64.wrap ((k2 : Int) - 1) = (k2 : Int) - 1 := IntWalk.i64_in _ (by omega)
              have hv1 : (0 : Int) ≤ (k2 : Int) - 1 := by omega
              have hv2 : (1 : Int) ≤ (k2 : Int) := by omega
              have hv3 : (k2 : Int) - 1 < ((n - k : Nat) : Int) := by omega
              have hv4 : ((k2 : Int) - 1).toNat = k2 - 1 := by omega
              have hv5 : (0 : Int) ≤ (k2 : Int) := by omega
              have hv6 : (k2 : Int) < ((n - k : Nat) : Int) := by omega
              have hE3 : (f (k + k2)).f1 = (f (k + (k2 - 1))).f1 ↔ (f (k + k2)).f1 = (f (k + k2 - 1)).f1 := by rw [show k + k2 - 1 = k + (k2 - 1) by omega]
              have HEE := Aside0.mk hE3
              clear hE3
              by_cases he2 : (f (k + k2)).f1 = (f (k + (k2 - 1))).f1
              · have HE2 := Aside0.mk he2
                have HE3 := Aside0.mk (HEE.out.1 he2)
                clear he2
                go_wp2_with fail
                go_region_held3 (fun w' => w'.cell? ⟨g, k * 2 + k2 * 2, none⟩ = some (.int .i64 (f (k + k2)).f0) ∧ w'.cell? ⟨g, k * 2 + k2 * 2 + 1, none⟩ = some (.int .i64 (f (k + k2)).f1) ∧ w'.cell? ⟨g, k * 2 + (k2 - 1) * 2, none⟩ = some (.int .i64 (f (k + (k2 - 1))).f0) ∧ w'.cell? ⟨g, k * 2 + (k2 - 1) * 2 + 1, none⟩ = some (.int .i64 (f (k + (k2 - 1))).f1))
                  (first
                    | (go_keep; done)
                    | (go_split_ands; exact KS2.out _ HB3.out))
                  (((with_reducible refine (plain1_yes _ _ _ HE2.out).mono ?_); rintro e w3 ⟨rfl, hb⟩; have HB3 := Aside0.mk (show Below wr.heap.size wr w3 from (Below.refl _ wr).drew.trans hb); clear hb))
                rename_i hHeld
                clear hHeld
                go_wp2_with fail
                go_roundg (n - (k + (k2 + 1)))
                case measure => omega
                case rel => exact ⟨kk, k2 + 1, h, rfl, rfl, by go_num, ⟨by have := HI.out; omega⟩, ⟨cmp_skip HW.out HC.out hm HE3.out⟩, ⟨fun j h1 h2 => HH.out j (by omega) h2⟩, ⟨HRh.out.below HB3.out⟩, ⟨HG.out.trans (gb_below HB3.out _)⟩⟩
              · have HE2 := Aside0.mk he2
                clear he2
                go_wp2_with fail
                go_region_held3 (fun w' => w'.cell? ⟨g, k * 2 + k2 * 2, none⟩ = some (.int .i64 (f (k + k2)).f0) ∧ w'.cell? ⟨g, k * 2 + k2 * 2 + 1, none⟩ = some (.int .i64 (f (k + k2)).f1) ∧ w'.cell? ⟨g, k * 2 + (k2 - 1) * 2, none⟩ = some (.int .i64 (f (k + (k2 - 1))).f0) ∧ w'.cell? ⟨g, k * 2 + (k2 - 1) * 2 + 1, none⟩ = some (.int .i64 (f (k + (k2 - 1))).f1))
                  (first
                    | (go_keep; done)
                    | (go_split_ands; exact KS2.out _ HB3.out))
                  (((with_reducible refine (plain1_no _ _ _ HE2.out).mono ?_); rintro e w3 ⟨rfl, hb⟩; have HB3 := Aside0.mk (show Below wr.heap.size wr w3 from (Below.refl _ wr).drew.trans hb); clear hb))
                rename_i hHeld
                obtain ⟨c0, c1, _, _⟩ := hHeld
                have R3 := HRh.out.below HB3.out
                have t0 := R3.at0 kk hkk3
                have t1 := R3.at1 kk hkk3
                have fz3 := fun j => R3.fz j
                have HR3 := Aside0.mk R3
                clear R3 s0 s1 fz a0 a1 b0 b1
                go_wp2_with fail
                have HU := Aside0.mk (HR3.out.put kk hkk3 (f (k + k2)))
                have HG2 := Aside0.mk ((HG.out.trans (gb_below HB3.out _)).trans ((gb_set w3 g (kk * 2) (.int .i64 (f (k + k2)).f0)).trans (gb_set _ g (kk * 2 + 1) (.int .i64 (f (k + k2)).f1))))
                go_roundg (n - (k + (k2 + 1)))
                case measure => omega
                case rel => exact ⟨kk + 1, k2 + 1, updF h kk (f (k + k2)), rfl, by go_num, by go_num, ⟨by have := HI.out; omega⟩, ⟨cmp_take HW.out HC.out hm (fun e => HE2.out (HEE.out.2 e))⟩, ⟨fun j h1 h2 => by
                  rw [updF_ne _ _ _ _ (by have := HI.out; omega)]
                  exact HH.out j (by omega) h2⟩, ⟨HU.out⟩, ⟨HG2.out⟩⟩
            · have h3 : decide (k2 < n - k) = false := decide_eq_false hkn2
              have hm : k + k2 = n := by have := HI.out; omega
              have hclr : ∀ c, (Builtin.clear_ #[56] 0 #[.slice (some ⟨g, kk * 2, none⟩) (n - kk) c]).run Try.prog wr = .ok (.tuple #[]) (wr.setCells g (kk * 2) (List.replicate ((n - kk) * 2) (.int .i64 0))) := fun c =>
                run_clear_two wr 56 67 0 (.int .i64 0) _ Try.underlying56 clear_info rfl rfl g (kk * 2) (n - kk) c (by omega) (fun j hj => HRh.out.isAt _ (by omega)) (fun j hj => HRh.out.fz _)
              obtain ⟨W2, hW2⟩ : ∃ W2, W2 = wr.setCells g (kk * 2) (List.replicate ((n - kk) * 2) (.int .i64 0)) := ⟨_, rfl⟩
              rw [← hW2] at hclr
              have HW2 := Aside0.mk hW2
              clear hW2
              go_wp2_with fail
              go_ret
              rw [hm] at HC
              obtain ⟨cur, e1, e2, e3⟩ := HRh.out.blk
              obtain ⟨cur2, e4, e5, e6, e7⟩ := blk_setCells g 67 (List.replicate ((n - kk) * 2) (.int .i64 0)) (kk * 2) wr cur e1 (by rw [e2, List.length_replicate]; omega)
              refine ⟨kk, h, rfl, RowF.of_cells (by omega) (by rw [HW2.out]; exact e4) (by rw [e5, e2]) (fun j hj => by rw [e7 j (by omega)]; exact e3 j (by omega)), HC.out.comp HW.out, ?_⟩
              rw [HW2.out]
              exact HG.out.trans (gb_setCells g _ _ _)
        · have HE := Aside0.mk he
          clear he
          have hb3 : (0 : Int) ≤ (k : Int) := by omega
          have hb5 : (1 : Int) ≤ (k : Int) := by omega
          have hb4 : (k : Int) < (n : Int) := by omega
          go_wp2_with fail
          go_region_held3 (fun w' => w'.cell? ⟨g, k * 2, none⟩ = some (.int .i64 (f k).f0) ∧ w'.cell? ⟨g, k * 2 + 1, none⟩ = some (.int .i64 (f k).f1) ∧ w'.cell? ⟨g, (k - 1) * 2, none⟩ = some (.int .i64 (f (k - 1)).f0) ∧ w'.cell? ⟨g, (k - 1) * 2 + 1, none⟩ = some (.int .i64 (f (k - 1)).f1))
            (first
              | (go_keep; done)
              | (go_split_ands; exact KS.out _ HB2.out))
            (((with_reducible refine (plain1_no _ _ _ HE.out).mono ?_); rintro e w2 ⟨rfl, hb⟩; have HB2 := Aside0.mk (show Below wr.heap.size wr w2 from (Below.refl _ wr).drew.trans hb); clear hb))
          rename_i hHeld
          clear hHeld
          go_wp2_with fail
          go_roundg (n - (k + 1))
          case measure => omega
          case rel => exact ⟨k + 1, rfl, by go_num, ⟨by have := HK.out; omega⟩, ⟨fun i hi => by
            by_cases e : i + 1 = k
            · rw [e, show i = k - 1 by omega]
              exact fun e => HE.out e.symm
            · exact HN.out i (by omega)⟩, ⟨HB.out.trans (HB2.out.mono HB.out.size)⟩⟩
      · have h1 : decide (k < n) = false := decide_eq_false hkn
        go_wp2_with fail
        go_ret
        exact ⟨n, f, rfl, HR.out.below HB.out, (cmp_full HW.out n hp (Nat.le_refl _) (fun i hi => HN.out i (by have := HK.out; omega))).comp HW.out, gb_below HB.out _⟩
end Go.Proofs.Ytaeifdmabkjoiaa.PPU
