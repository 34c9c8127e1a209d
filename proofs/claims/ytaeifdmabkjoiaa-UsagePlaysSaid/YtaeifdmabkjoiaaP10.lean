/- The reference's put (printed by a program of this session, after the kit's own print). -/
import Derived.Test.YtaeifdmabkjoiaaP0
namespace Go.Proofs.Ytaeifdmabkjoiaa.PPU
open Go.RowKit Go.Proofs.YtaeifdmabkjoiaaW.PrintWords Go.Proofs.YtaeifdmabkjoiaaW.PrintLast Go.Proofs.YtaeifdmabkjoiaaW.PrintMore
attribute [local go_sem] max2_int min2_int max_two min_two max_three min_three max_four min_four   -- for this text's walks alone
set_option linter.unusedVariables false
set_option linter.unusedSimpArgs false

theorem info3 : (Try.prog.info? 3).map (fun i => (i.zero, i.size, i.bytes)) = some (some (.int .i64 0), 1, 8) := by kernel_rfl
theorem info74 : (Try.prog.info? 74).map (fun i => (i.zero, i.size, i.bytes)) = some (some (.agg #[(.int .i64 0), (.int .i64 0)]), 2, 16) := by kernel_rfl
/-! #### struct type 74 -/
structure S74 where
 f0 : Int
 f1 : Int
def z74 : S74 := ⟨(0 : Int), (0 : Int)⟩
def k74 : Kd S74 := Kd.iso (Kd.pair (Kd.int .i64) (Kd.int .i64)) (fun x : S74 => (x.f0, x.f1))
theorem k74_open {w : World} {x : S74} {cs : List Value} (h : k74.K w x cs) : cs = [.int .i64 x.f0, .int .i64 x.f1] := by
 obtain ⟨_, _, rfl, rfl, rfl⟩ := h
 exact rfl
theorem k74_openM {w : World} {base : Nat} {ok : Nat → Prop} {x : S74} {cs : List Value} (h : k74.M w base ok x cs) : cs = [.int .i64 x.f0, .int .i64 x.f1] := by
 obtain ⟨_, _, rfl, rfl, rfl⟩ := h
 exact rfl
theorem k74_mk (w : World) (x : S74)  : k74.K w x [.int .i64 x.f0, .int .i64 x.f1] := ⟨[.int .i64 x.f0], [.int .i64 x.f1], rfl, rfl, rfl⟩
theorem k74_mkM (w : World) (base : Nat) (ok : Nat → Prop) (x : S74)  : k74.M w base ok x [.int .i64 x.f0, .int .i64 x.f1] := ⟨[.int .i64 x.f0], [.int .i64 x.f1], rfl, rfl, rfl⟩
def rd_T74 (xs : List S74) (i : Int) : S74 := xs.getD i.toNat z74
theorem at_T74 {w : World} {A : Option Addr} {n : Nat} {xs : List S74} (h : Kd.C k74 w A n xs) (i : Int) (h0 : 0 ≤ i) (h1 : i < n) : ∃ ad , A = some ad ∧ w.cell? (ad.add (i.toNat * 2)) = some (.int .i64 (rd_T74 xs i).f0) ∧ w.cell? ⟨(ad.add (i.toNat * 2)).block, (ad.add (i.toNat * 2)).off + 1, none⟩ = some (.int .i64 (rd_T74 xs i).f1) := by
 obtain ⟨ad, c, e, _, hK, hc0⟩ := Kd.C_get h z74 i h0 h1
 have hc : ∀ j u, c[j]? = some u → w.cell? (ad.add (i.toNat * 2 + j)) = some u := hc0
 obtain rfl := k74_open hK
 exact ⟨ad, e, hc 0 _ rfl, by rw [← add_field _ _ 1 (by omega)]; exact hc 1 _ rfl⟩

/-! ### berthingref10_put: function 35 -/
def berthingref10_put.l0 : Nat → List Int → Int → Int → Option (List Int)
 | 0, _, _, _ => none
 | k + 1, x0, x1, x5 => if x5 < (x0.length : Int) then (if 0 ≤ x5 then (if (rd x0 x5) < x1 then (berthingref10_put.l0 k x0 x1 (wrap64 (x5 + 1))) else (if (rd x0 x5) = x1 then (some x0) else ((some (([] : List Int) : List Int)).bind fun y190 => (if x5 ≤ (x0.length : Int) then ((some (x0.take (x5 : Int).toNat : List Int)).bind fun y193 => (if y190.length + y193.length < 17592186044416 then ((some (y190 ++ y193 : List Int)).bind fun y197 => ((some (([x1] : List Int) : List Int)).bind fun y200 => (if y197.length + y200.length < 17592186044416 then ((some (y197 ++ y200 : List Int)).bind fun y203 => ((some (x0.drop (x5 : Int).toNat : List Int)).bind fun y206 => (if y203.length + y206.length < 17592186044416 then (some (y203 ++ y206)) else (none)))) else (none)))) else (none))) else (none))))) else (none)) else ((some (([] : List Int) : List Int)).bind fun y213 => (if 0 ≤ x5 then (if x5 ≤ (x0.length : Int) then ((some (x0.take (x5 : Int).toNat : List Int)).bind fun y216 => (if y213.length + y216.length < 17592186044416 then ((some (y213 ++ y216 : List Int)).bind fun y220 => ((some (([x1] : List Int) : List Int)).bind fun y223 => (if y220.length + y223.length < 17592186044416 then ((some (y220 ++ y223 : List Int)).bind fun y226 => ((some (x0.drop (x5 : Int).toNat : List Int)).bind fun y229 => (if y226.length + y229.length < 17592186044416 then (some (y226 ++ y229)) else (none)))) else (none)))) else (none))) else (none)) else (none)))
def berthingref10_put.f (k : Nat) (l0 : List Int) (a1 : Int) : Option (List Int) := if a1 ≥ 1099511627776 then (some l0) else (berthingref10_put.l0 k l0 a1 0)
theorem berthingref10_put.mono_l : ∀ k, (∀ y0 y1 y2, LeO (berthingref10_put.l0 k y0 y1 y2) (berthingref10_put.l0 (k + 1) y0 y1 y2))
 | 0 => fun _ _ _ r h => by simp [berthingref10_put.l0] at h
 | k + 1 => by
  have ih0 := berthingref10_put.mono_l k
  ·intro y0 y1 y2
   unfold berthingref10_put.l0
   repeat' first
   | (with_reducible exact ih0 _ _ _)
   | (with_reducible exact LeO.refl _)
   | (with_reducible exact LeO.none _)
   | (with_reducible refine LeO.ite ?_ ?_)
   | (with_reducible refine LeO.bind ?_ (fun _ => ?_))
   | exact ih0 _ _ _
   | exact LeO.none _
   | refine LeO.ite ?_ ?_
   | refine LeO.bind ?_ (fun _ => ?_)
theorem berthingref10_put.mono : ∀ a0 a1 k, LeO (berthingref10_put.f k a0 a1) (berthingref10_put.f (k + 1) a0 a1) := by
 intro a0 a1 k
 have ih0 := berthingref10_put.mono_l k
 unfold berthingref10_put.f
 repeat' first
   | (with_reducible exact ih0 _ _ _)
   | (with_reducible exact LeO.refl _)
   | (with_reducible exact LeO.none _)
   | (with_reducible refine LeO.ite ?_ ?_)
   | (with_reducible refine LeO.bind ?_ (fun _ => ?_))
   | exact ih0 _ _ _
   | exact LeO.none _
   | refine LeO.ite ?_ ?_
   | refine LeO.bind ?_ (fun _ => ?_)
def berthingref10_put.T8 : Bool × List (List Nat × List Nat) := (true, [([], []), ([], []), ([], []), ([1, 2], [1, 2]), ([0, 3], [0, 3]), ([], []), ([5], [5]), ([4, 6, 4], [4, 6]), ([], []), ([], []), ([8, 9], [8, 9]), ([7, 10, 7], [7, 10]), ([11, 11, 0, 1, 2, 3, 4, 5, 6, 7, 8, 9, 10, 11], [11])])
def berthingref10_put.B8 : List Nat := [0, 0, 0, 6, 15, 0, 32, 127, 0, 0, 768, 2047, 4095]
theorem berthingref10_put.tab8 : rtab .any (opsOf Try.f35 8) = berthingref10_put.T8 := by kernel_rfl
theorem berthingref10_put.bits8 : waitsOk berthingref10_put.T8.2 berthingref10_put.B8 = true := by kernel_rfl
set_option maxHeartbeats 8000000 in
set_option maxRecDepth 100000 in
theorem berthingref10_put.calls (k : Nat) (P0_ : Nat → Prop) (u9000_ : Value) (l0 : List Int) (a1 : Int) (r : List Int) (w0 w : World) (hB : Below w0.heap.size w0 w) (ho0 : Kd.R (Kd.int .i64) 2 w w0.heap.size P0_ u9000_ l0) (h : berthingref10_put.f k l0 a1 = some r) :
  Calls Try.prog 35 #[u9000_, .int .i64 a1] w fun e w' => ∃ v0_ : Value, e = .returned (v0_) ∧ Kd.R (Kd.int .i64) 2 w' w0.heap.size (fun k_ => (P0_ k_ ∨ w.heap.size ≤ k_)) v0_ r ∧ Below w0.heap.size w0 w' ∧ Kept w w' (fun k_ => P0_ k_) := by
 have HO0 := Aside0.mk (show Kd.R (Kd.int .i64) 2 w w0.heap.size (fun k_ => (P0_ k_ ∨ w.heap.size ≤ k_)) u9000_ l0 from Kd.R_mono ho0 (fun k_ hk => (.inl hk)))
 have HK := Aside0.mk (Kept.refl w (fun k_ => P0_ k_))
 have HW0 := Aside0.mk hB.size
 have HB := Aside0.mk hB
 clear hB
 have H : (if a1 ≥ 1099511627776 then (some l0) else (berthingref10_put.l0 k l0 a1 0)) = some r := h
 clear h
 by_cases c3 : a1 ≥ 1099511627776
 ·rw [if_pos c3] at H
  have c3b0 : decide (1099511627776 ≤ a1) = true := decide_eq_true c3
  clear c3
  obtain rfl := Option.some.inj H
  go_enter Try.func35, Try.ntmps35
  go_wp2
  go_ret
  exact ⟨_, by first | rfl | (simp [errW_none, errW_some] <;> rfl) | (simp [*, errW_none, errW_some] <;> rfl), by exact HO0.out, by exact HB.out, by exact HK.out⟩
 ·rw [if_neg c3] at H
  have c3b0 : decide (1099511627776 ≤ a1) = false := decide_eq_false c3
  clear c3
  have H' := Aside0.mk H
  clear H
  go_enter Try.func35, Try.ntmps35
  go_wp2
  go_loopg [5] k (fun kq v5 w' => ∃ (x5_1 : Int), v5 = .int .i64 x5_1 ∧ Aside0 (berthingref10_put.l0 kq l0 a1 x5_1 = some r) ∧ Aside0 (kq ≤ k) ∧ Aside0 (Kd.R (Kd.int .i64) 2 w' w0.heap.size (fun k_ => (P0_ k_ ∨ w.heap.size ≤ k_)) u9000_ l0) ∧ Aside0 (Kept w w' (fun k_ => P0_ k_)) ∧ Aside0 (Below w0.heap.size w0 w'))
  case atStart => exact ⟨(0), (by first | rfl | (simp; done) | (simp [*]; done)), H', ⟨Nat.le_refl _⟩, ⟨by exact HO0.out⟩, ⟨by exact HK.out⟩, ⟨by exact HB.out⟩⟩
  case round =>
   clear H'
   try clear p2
   try clear c3
   try clear c3b0
   obtain ⟨x5_1, rfl, HA, HK1, HO_0, HK, HB⟩ := hrel
   cases gk with
   | zero => exact absurd HA.out (by simp [berthingref10_put.l0])
   | succ k1 =>
    have H := HA.out
    clear HA
    simp only [berthingref10_put.l0] at H
    by_cases c4 : x5_1 < (l0.length : Int)
    ·rw [if_pos c4] at H
     have c4b0 : decide (x5_1 < (l0.length : Int)) = true := decide_eq_true c4
     clear c4
     by_cases c5 : 0 ≤ x5_1
     ·rw [if_pos c5] at H
      have c5b0 : decide (0 ≤ x5_1) = true := decide_eq_true c5
      clear c5
      by_cases c6 : (rd l0 x5_1) < a1
      ·rw [if_pos c6] at H
       have c6b0 : decide ((rd l0 x5_1) < a1) = true := decide_eq_true c6
       clear c6
       have H' := Aside0.mk H
       clear H
       obtain ⟨Ao7, co7, eo7⟩ := Kd.R_slice HO_0.out
       subst eo7
       have p188 : 0 ≤ (x5_1 : Int) := of_decide_eq_true (by assumption)
       have q188 : x5_1 < (l0.length : Int) := of_decide_eq_true (by assumption)
       obtain ⟨ad188, e188, hx188_0⟩ := Kd.at_int (Kd.R_reads' HO_0.out).2.2 x5_1 p188 q188
       cases e188
       replace p188 := eq_true p188
       replace q188 := eq_true q188
       go_wp2
       go_roundg k1
       case measure => have := HK1.out; omega
       case rel => exact ⟨(wrap64 (x5_1 + 1)), (by first | rfl | (simp; done) | (simp [*]; done)), H', ⟨by have := HK1.out; omega⟩, ⟨by exact HO_0.out⟩, ⟨by exact HK.out⟩, ⟨by exact HB.out⟩⟩
      ·rw [if_neg c6] at H
       have c6b0 : decide ((rd l0 x5_1) < a1) = false := decide_eq_false c6
       clear c6
       by_cases c8 : (rd l0 x5_1) = a1
       ·rw [if_pos c8] at H
        have c8b0 : ((rd l0 x5_1) == a1) = true := beq_iff_eq.mpr c8
        have c8b1 : ((rd l0 x5_1) != a1) = false := bne_eq_false_iff_eq.mpr c8
        clear c8
        obtain rfl := Option.some.inj H
        obtain ⟨Ao9, co9, eo9⟩ := Kd.R_slice HO_0.out
        subst eo9
        have p188 : 0 ≤ (x5_1 : Int) := of_decide_eq_true (by assumption)
        have q188 : x5_1 < (l0.length : Int) := of_decide_eq_true (by assumption)
        obtain ⟨ad188, e188, hx188_0⟩ := Kd.at_int (Kd.R_reads' HO_0.out).2.2 x5_1 p188 q188
        cases e188
        replace p188 := eq_true p188
        replace q188 := eq_true q188
        have p189 : 0 ≤ (x5_1 : Int) := of_decide_eq_true (by assumption)
        have q189 : x5_1 < (l0.length : Int) := of_decide_eq_true (by assumption)
        obtain ⟨ad189, e189, hx189_0⟩ := Kd.at_int (Kd.R_reads' HO_0.out).2.2 x5_1 p189 q189
        obtain rfl : ad188 = ad189 := (by injection e189)
        replace p189 := eq_true p189
        replace q189 := eq_true q189
        go_wp2
        go_ret
        exact ⟨_, by first | rfl | (simp [errW_none, errW_some] <;> rfl) | (simp [*, errW_none, errW_some] <;> rfl), by exact HO_0.out, by exact HB.out, by exact HK.out⟩
       ·rw [if_neg c8] at H
        have c8b0 : ((rd l0 x5_1) == a1) = false := beq_eq_false_iff_ne.mpr c8
        have c8b1 : ((rd l0 x5_1) != a1) = true := bne_iff_ne.mpr c8
        obtain ⟨y190, hy190⟩ : ∃ y_ : List Int, y_ = (([] : List Int)) := ⟨_, rfl⟩
        replace H : (if x5_1 ≤ (l0.length : Int) then ((some (l0.take (x5_1 : Int).toNat : List Int)).bind fun y193 => (if y190.length + y193.length < 17592186044416 then ((some (y190 ++ y193 : List Int)).bind fun y197 => ((some (([a1] : List Int) : List Int)).bind fun y200 => (if y197.length + y200.length < 17592186044416 then ((some (y197 ++ y200 : List Int)).bind fun y203 => ((some (l0.drop (x5_1 : Int).toNat : List Int)).bind fun y206 => (if y203.length + y206.length < 17592186044416 then (some (y203 ++ y206)) else (none)))) else (none)))) else (none))) else (none)) = some r := by first | (rw [hy190]; exact H) | exact H
        have Ny190 := Aside0.mk hy190
        clear hy190
        have c10b0 := eq_true (of_decide_eq_true (by assumption) : 0 ≤ x5_1)
        by_cases c11 : x5_1 ≤ (l0.length : Int)
        ·rw [if_pos c11] at H
         have c11b0 := eq_true c11
         have c11b1 : decide (x5_1 ≤ (l0.length : Int)) = true := decide_eq_true c11
         clear c11
         obtain ⟨y193, hy193⟩ : ∃ y_ : List Int, y_ = (l0.take (x5_1 : Int).toNat) := ⟨_, rfl⟩
         replace H : (if y190.length + y193.length < 17592186044416 then ((some (y190 ++ y193 : List Int)).bind fun y197 => ((some (([a1] : List Int) : List Int)).bind fun y200 => (if y197.length + y200.length < 17592186044416 then ((some (y197 ++ y200 : List Int)).bind fun y203 => ((some (l0.drop (x5_1 : Int).toNat : List Int)).bind fun y206 => (if y203.length + y206.length < 17592186044416 then (some (y203 ++ y206)) else (none)))) else (none)))) else (none)) = some r := by first | (rw [hy193]; exact H) | exact H
         have Ny193 := Aside0.mk hy193
         clear hy193
         by_cases c12 : y190.length + y193.length < 17592186044416
         ·rw [if_pos c12] at H
          have LMc12 := Aside0.mk c12
          clear c12
          obtain ⟨y197, hy197⟩ : ∃ y_ : List Int, y_ = (y190 ++ y193) := ⟨_, rfl⟩
          replace H : ((some (([a1] : List Int) : List Int)).bind fun y200 => (if y197.length + y200.length < 17592186044416 then ((some (y197 ++ y200 : List Int)).bind fun y203 => ((some (l0.drop (x5_1 : Int).toNat : List Int)).bind fun y206 => (if y203.length + y206.length < 17592186044416 then (some (y203 ++ y206)) else (none)))) else (none))) = some r := by first | (rw [hy197]; exact H) | exact H
          have Ny197 := Aside0.mk hy197
          clear hy197
          obtain ⟨y200, hy200⟩ : ∃ y_ : List Int, y_ = (([a1] : List Int)) := ⟨_, rfl⟩
          replace H : (if y197.length + y200.length < 17592186044416 then ((some (y197 ++ y200 : List Int)).bind fun y203 => ((some (l0.drop (x5_1 : Int).toNat : List Int)).bind fun y206 => (if y203.length + y206.length < 17592186044416 then (some (y203 ++ y206)) else (none)))) else (none)) = some r := by first | (rw [hy200]; exact H) | exact H
          have Ny200 := Aside0.mk hy200
          clear hy200
          by_cases c13 : y197.length + y200.length < 17592186044416
          ·rw [if_pos c13] at H
           have LMc13 := Aside0.mk c13
           clear c13
           obtain ⟨y203, hy203⟩ : ∃ y_ : List Int, y_ = (y197 ++ y200) := ⟨_, rfl⟩
           replace H : ((some (l0.drop (x5_1 : Int).toNat : List Int)).bind fun y206 => (if y203.length + y206.length < 17592186044416 then (some (y203 ++ y206)) else (none))) = some r := by first | (rw [hy203]; exact H) | exact H
           have Ny203 := Aside0.mk hy203
           clear hy203
           have c14b0 := eq_true (of_decide_eq_true (by assumption) : 0 ≤ x5_1)
           have c15b0 := eq_true (of_decide_eq_true (by assumption) : x5_1 ≤ (l0.length : Int))
           obtain ⟨y206, hy206⟩ : ∃ y_ : List Int, y_ = (l0.drop (x5_1 : Int).toNat) := ⟨_, rfl⟩
           replace H : (if y203.length + y206.length < 17592186044416 then (some (y203 ++ y206)) else (none)) = some r := by first | (rw [hy206]; exact H) | exact H
           have Ny206 := Aside0.mk hy206
           clear hy206
           by_cases c16 : y203.length + y206.length < 17592186044416
           ·rw [if_pos c16] at H
            have LMc16 := Aside0.mk c16
            clear c16
            obtain ⟨y210, hy210⟩ : ∃ y_ : List Int, y_ = (y203 ++ y206) := ⟨_, rfl⟩
            replace H : (some y210) = some r := by first | (rw [hy210]; exact H) | exact H
            have Ny210 := Aside0.mk hy210
            clear hy210
            obtain rfl := Option.some.inj H
            obtain ⟨Ao17, co17, eo17⟩ := Kd.R_slice HO_0.out
            subst eo17
            have p188 : 0 ≤ (x5_1 : Int) := of_decide_eq_true (by assumption)
            have q188 : x5_1 < (l0.length : Int) := of_decide_eq_true (by assumption)
            obtain ⟨ad188, e188, hx188_0⟩ := Kd.at_int (Kd.R_reads' HO_0.out).2.2 x5_1 p188 q188
            cases e188
            replace p188 := eq_true p188
            replace q188 := eq_true q188
            have p189 : 0 ≤ (x5_1 : Int) := of_decide_eq_true (by assumption)
            have q189 : x5_1 < (l0.length : Int) := of_decide_eq_true (by assumption)
            obtain ⟨ad189, e189, hx189_0⟩ := Kd.at_int (Kd.R_reads' HO_0.out).2.2 x5_1 p189 q189
            obtain rfl : ad188 = ad189 := (by injection e189)
            replace p189 := eq_true p189
            replace q189 := eq_true q189
            try go_wp2
            have n0_ := Aside0.mk (Kd.R_drew HO_0.out)
            have n1_ := Aside0.mk (Kept.drew HK.out)
            have n2_ := Aside0.mk (below_drew1 HB.out)
            clear HO_0
            clear HK
            clear HB
            have HO_0 := n0_
            have HK := n1_
            have HB := n2_
            clear n0_ n1_ n2_
            have q19 : (x5_1 : Int) ≤ ((l0.length : Int) : Int) := of_decide_eq_true (by assumption)
            obtain ⟨i019, hi019, _, hsz19, _⟩ := info_parts info2
            have hroom19 : l0.length ≤ co17 := (Kd.R_reads' HO_0.out).2.1
            have hC19 : Kd.C (Kd.int .i64) _ (some ad188) l0.length l0 := (Kd.R_reads' HO_0.out).2.2
            have hcut19 := cut_to (P := Try.prog) 34 2 .i64 Try.underlying34 hi019 (some ad188) l0.length co17 x5_1 (of_decide_eq_true (by assumption)) q19 hroom19
            have hr19 := Kd.C_take (m := (x5_1 : Int).toNat) hC19 (by omega)
            have hy19 : y193.length = (x5_1 : Int).toNat := (by rw [Ny193.out, List.length_take]; omega)
            rw [← Ny193.out] at hr19
            rw [← hy19] at hcut19
            have HR196 := Aside0.mk hr19
            have HC196 := Aside0.mk (show y193.length ≤ co17 from by omega)
            clear hr19 hC19 hroom19 hi019 hsz19
            have KY19 := Aside0.mk hy19
            clear hy19
            have KL19 := Aside0.mk (show (x5_1 : Int).toNat ≤ l0.length from by omega)
            replace q19 := eq_true q19
            have q28 : (x5_1 : Int) ≤ ((l0.length : Int) : Int) := of_decide_eq_true (by assumption)
            obtain ⟨i028, hi028, _, hsz28, _⟩ := info_parts info2
            have q028 : (0 : Int) ≤ (x5_1 : Int) := of_decide_eq_true (by assumption)
            have hcut28 := cut_from (P := Try.prog) 34 2 .i64 Try.underlying34 hi028 1 hsz28 (some ad188) l0.length co17 x5_1 q028 q28
            obtain ⟨A28, hA28⟩ : ∃ A1, A1 = (if co17 = (x5_1 : Int).toNat then (some ad188) else ((some ad188) : Option Addr).map (·.add ((x5_1 : Int).toNat * 1))) := ⟨_, rfl⟩
            obtain ⟨c28, hc28⟩ : ∃ c1, c1 = co17 - (x5_1 : Int).toNat := ⟨_, rfl⟩
            have hy28 : y206.length = l0.length - (x5_1 : Int).toNat := (by rw [Ny206.out, List.length_drop] <;> omega)
            rw [← hy28, ← hA28, ← hc28] at hcut28
            clear hi028 hsz28
            have KY28 := Aside0.mk hy28
            have KA28 := Aside0.mk hA28
            have KC28 := Aside0.mk hc28
            clear hy28 hA28 hc28
            have KL28 := Aside0.mk (show (x5_1 : Int).toNat ≤ l0.length from by omega)
            replace q28 := eq_true q28
            refine start_ (n := 13) (S := fun w' => True) (ds := []) #[false, false, false, false, false, false, false, false, false, false, false, false, false] (by kernel_rfl) rfl rfl trivial (fun hHeld => ?_); refine with_tabW berthingref10_put.tab8 berthingref10_put.bits8 (fun HT_ HW_ => ?_)
            generalize wr.drew = w18 at HO_0 HK HB HR196 hHeld ⊢
            refine pure_ (i := 1) (N := some 37) (v := ?_) (a' := ?_) #[false, true, false, false, false, false, false, false, false, false, false, false, false] rfl rfl (any_of HT_.out (by kernel_rfl)) (fun _ _ _ h => h) (Or.inl ⟨by rfl, ?_⟩) ?_ ?_
            rotate_left
            ·intro w'
             go_simp
             with_reducible rfl
            rotate_left
            ·simp only [Act.put, List.setIfInBounds_toArray, List.set_cons_zero, List.set_cons_succ, i64_w, i32_w]
             rfl
            refine pure_ (i := 2) (N := some 38) (v := ?_) (a' := ?_) #[false, true, true, false, false, false, false, false, false, false, false, false, false] rfl rfl (any_of HT_.out (by kernel_rfl)) (fun _ _ _ h => h) (Or.inl ⟨by rfl, ?_⟩) ?_ ?_
            rotate_left
            ·intro w'
             go_simp
             with_reducible rfl
            rotate_left
            ·simp only [Act.put, List.setIfInBounds_toArray, List.set_cons_zero, List.set_cons_succ, i64_w, i32_w]
             rfl
            refine pure_ (i := 3) (N := some 39) (v := ?_) (a' := ?_) #[false, true, true, true, false, false, false, false, false, false, false, false, false] rfl rfl (any_of HT_.out (by kernel_rfl)) (fun _ _ _ h => h) (Or.inl ⟨by rfl, ?_⟩) ?_ ?_
            rotate_left
            ·intro w'
             go_simp
             with_reducible rfl
            rotate_left
            ·simp only [Act.put, List.setIfInBounds_toArray, List.set_cons_zero, List.set_cons_succ, i64_w, i32_w]
             rfl
            refine pure_ (i := 5) (N := some 41) (v := ?_) (a' := ?_) #[false, true, true, true, false, true, false, false, false, false, false, false, false] rfl rfl (any_of HT_.out (by kernel_rfl)) (fun _ _ _ h => h) (Or.inl ⟨by rfl, ?_⟩) ?_ ?_
            rotate_left
            ·intro w'
             go_simp
             with_reducible rfl
            rotate_left
            ·simp only [Act.put, List.setIfInBounds_toArray, List.set_cons_zero, List.set_cons_succ, i64_w, i32_w]
             rfl
            refine pure_ (i := 8) (N := some 44) (v := ?_) (a' := ?_) #[false, true, true, true, false, true, false, false, true, false, false, false, false] rfl rfl (any_of HT_.out (by kernel_rfl)) (fun _ _ _ h => h) (Or.inl ⟨by rfl, ?_⟩) ?_ ?_
            rotate_left
            ·intro w'
             go_simp
             with_reducible rfl
            rotate_left
            ·simp only [Act.put, List.setIfInBounds_toArray, List.set_cons_zero, List.set_cons_succ, i64_w, i32_w]
             rfl
            refine pure_ (i := 9) (N := some 45) (v := ?_) (a' := ?_) #[false, true, true, true, false, true, false, false, true, true, false, false, false] rfl rfl (any_of HT_.out (by kernel_rfl)) (fun _ _ _ h => h) (Or.inl ⟨by rfl, ?_⟩) ?_ ?_
            rotate_left
            ·intro w'
             go_simp
             with_reducible rfl
            rotate_left
            ·simp only [Act.put, List.setIfInBounds_toArray, List.set_cons_zero, List.set_cons_succ, i64_w, i32_w]
             rfl
            refine pure_ (i := 10) (N := some 46) (v := ?_) (a' := ?_) #[false, true, true, true, false, true, false, false, true, true, true, false, false] rfl rfl (any_of HT_.out (by kernel_rfl)) (fun _ _ _ h => h) (Or.inl ⟨by rfl, ?_⟩) ?_ ?_
            rotate_left
            ·intro w'
             go_simp
             with_reducible rfl
            rotate_left
            ·simp only [Act.put, List.setIfInBounds_toArray, List.set_cons_zero, List.set_cons_succ, i64_w, i32_w]
             rfl
            refine join_ (σ := Value × Value × Value) 3 #[true, true, true, true, true, true, true, false, true, true, true, false, false] (fun s_ => [(36, s_.1), (40, s_.2.1), (42, s_.2.2)]) (fun s_ w' => (Kd.R (Kd.int .i64) 2 w' w0.heap.size (fun k_ => (P0_ k_ ∨ w.heap.size ≤ k_) ∧ some k_ ≠ (s_.2.2 : Value).ownBlock ∧ some k_ ≠ (.slice (some ad188) l0.length co17 : Value).ownBlock) s_.2.1 y197) ∧ (Kd.R (Kd.int .i64) 2 w' w0.heap.size (fun k_ => (P0_ k_ ∨ w.heap.size ≤ k_) ∧ some k_ ≠ (s_.2.1 : Value).ownBlock ∧ some k_ ≠ (.slice (some ad188) l0.length co17 : Value).ownBlock) s_.2.2 y200) ∧ (Kd.R (Kd.int .i64) 2 w' w0.heap.size (fun k_ => (P0_ k_ ∨ w.heap.size ≤ k_) ∧ some k_ ≠ (s_.2.1 : Value).ownBlock ∧ some k_ ≠ (s_.2.2 : Value).ownBlock) (.slice (some ad188) l0.length co17) l0) ∧ (Kept w w' (fun k_ => P0_ k_)) ∧ (Below w0.heap.size w0 w')) ?_ ?_
            rotate_left
            ·intro hCont
             refine two_ (i := 0) (j := 6) (Ni := some 36) (Nj := some 42) #[true, true, true, true, false, true, false, false, true, true, true, false, false] #[false, true, true, true, false, true, true, false, true, true, true, false, false] rfl rfl rfl rfl (two_of HT_.out (by kernel_rfl)) (by decide) (by decide) (fun K hK => ?_) (fun K hK => ?_)
             ·skip
              refine Kd.R_lit_step (Kd.int .i64) _ 2 ?hg (N := 36) ?hd (xs := ([] : List Int)) (inner := []) (ok := fun _ => True) (okp := fun _ => True) ?hr ?hp (fun _ hk => hk) trivial (Below.refl _ _) (Nat.le_refl _) (by simp) ?_; (case hd => rfl); (case hg => rfl); (case hr => first | (go_simp; done) | (go_simp; rfl)); (case hp => exact (Reps.none _ _))
              intro v191 w20 ho21 hb hg_ hnew_
              clear hg_ hnew_
              (first | rw [← Ny190.out] at ho21 | (simp only [Int.reduceToNat] at ho21; rw [← Ny190.out] at ho21))
              have n0_ := Aside0.mk (Kd.R_elder' HO_0.out (Kd.R_base ho21) hb)
              have n1_ := Aside0.mk (Kd.R_lower (Kd.R_new' (Kd.R_newM (M := fun k_ => (P0_ k_ ∨ w.heap.size ≤ k_)) ho21 (HK.out.1) (fun k_ h_ => .inr h_)) (Kd.R_lt HO_0.out)) (below_size HB.out))
              have n2_ := Aside0.mk (Kd.C_below HR196.out hb)
              have n3_ := Aside0.mk (Kept.below (S := (fun k_ => P0_ k_)) HK.out hb)
              have n4_ := Aside0.mk (below_step HB.out hb)
              clear HO_0
              clear HR196
              clear HK
              clear HB
              have HO_0 := n0_
              have HO192 := n1_
              have HR196 := n2_
              have HK := n3_
              have HB := n4_
              clear n0_ n1_ n2_ n3_ n4_
              clear hb ho21
              refine hK.out _ _ trivial (fun hHeld => ?_)
              clear hK K
              refine norm_ (a' := ?_) ?_ ?_
              rotate_left
              ·show Act.put _ (some 36) _ = _
               simp only [Act.put, List.setIfInBounds_toArray, List.set_cons_zero, List.set_cons_succ, i64_w, i32_w]
               rfl
              refine two_ (i := 4) (j := 6) (Ni := some 40) (Nj := some 42) #[true, true, true, true, true, true, false, false, true, true, true, false, false] #[true, true, true, true, false, true, true, false, true, true, true, false, false] rfl rfl rfl rfl (two_of HT_.out (by kernel_rfl)) (by decide) (by decide) (fun K hK => ?_) (fun K hK => ?_)
              ·skip
               refine Kd.R_append_rows_step (Kd.int .i64) (w0 := w0) w0.heap.size (by rfl) (.tmp 36) (.tmp 39) 34 2 (.int .i64 0) 8 rfl Try.underlying34 info2 rfl (by decide) (by omega) v191 y190 y193 _ _ _ (fun k_ => (P0_ k_ ∨ w.heap.size ≤ k_) ∧ some k_ ≠ (.slice (some ad188) l0.length co17 : Value).ownBlock) (fun _ => False) rfl rfl ?aO ?aR (fun _ _ h => h) (fun _ h => h.elim) ?aF ?aB ?aS ?aL ?_
               (case aR => exact HR196.out)
               (case aB => exact HB.out)
               (case aF => exact (fun k_ hk => ⟨(.inr (Nat.le_trans (HK.out.1) hk)), Kd.fresh' (Kd.R_lt HO_0.out) k_ hk⟩))
               (case aO => exact (by exact Kd.R_mono HO192.out (fun _ hk => ⟨hk.1.1, hk.2⟩)))
               (case aS => exact (below_size HB.out))
               (case aL => have := LMc12.out; omega)
               intro v198 w22 ho hb hg hat
               rw [← Ny197.out] at ho
               have n0_ := Aside0.mk (Kd.R_after (ok := (fun k_ => (P0_ k_ ∨ w.heap.size ≤ k_))) HO_0.out hg hat)
               have n1_ := Aside0.mk (hb)
               have n2_ := Aside0.mk (Kept.of_grown (S := (fun k_ => P0_ k_)) hg HK.out (fun k_ e_ => (HO192.out.1 k_ e_).1.1))
               have n3_ := Aside0.mk ((show Kd.C (Kd.int .i64) w22 (some ad188) y193.length y193 from by rw [Ny193.out]; exact Kd.C_take (m := (x5_1 : Int).toNat) ((Kd.R_reads' (Kd.R_after (ok := (fun k_ => (P0_ k_ ∨ w.heap.size ≤ k_))) HO_0.out hg hat)).2.2) KL19.out))
               have n4_ := Aside0.mk (ho)
               clear HO_0
               clear HB
               clear HK
               clear HR196
               clear HO192
               have HO_0 := n0_
               have HB := n1_
               have HK := n2_
               have HR196 := n3_
               have HO199 := n4_
               clear n0_ n1_ n2_ n3_ n4_
               clear ho hb hg hat
               refine hK.out _ _ trivial (fun hHeld => ?_)
               clear hK K
               refine norm_ (a' := ?_) ?_ ?_
               rotate_left
               ·show Act.put _ (some 40) _ = _
                simp only [Act.put, List.setIfInBounds_toArray, List.set_cons_zero, List.set_cons_succ, i64_w, i32_w]
                rfl
               refine one_ (i := 6) (N := some 42) #[true, true, true, true, true, true, true, false, true, true, true, false, false] rfl rfl (one_of HT_.out (by kernel_rfl)) (by decide) (fun K hK => ?_)
               refine Kd.R_lit_step (Kd.int .i64) _ 2 ?hg (N := 42) ?hd (xs := ([a1] : List Int)) (inner := [.int .i64 a1]) (ok := fun _ => True) (okp := fun _ => True) ?hr ?hp (fun _ hk => hk) trivial (Below.refl _ _) (Nat.le_refl _) (by simp) ?_; (case hd => rfl); (case hg => rfl); (case hr => first | (go_simp; done) | (go_simp; rfl)); (case hp => exact (Reps.one (show Kd.M (Kd.int .i64) _ _ _ a1 [.int .i64 a1] from rfl) (Reps.none _ _)))
               intro v201 w23 ho24 hb hg_ hnew_
               clear hg_ hnew_
               (first | rw [← Ny200.out] at ho24 | (simp only [Int.reduceToNat] at ho24; rw [← Ny200.out] at ho24))
               have n0_ := Aside0.mk (Kd.R_elder' HO_0.out (Kd.R_base ho24) hb)
               have n1_ := Aside0.mk (Kd.R_elder' HO199.out (Kd.R_base ho24) hb)
               have n2_ := Aside0.mk (Kd.R_lower (Kd.R_new' (Kd.R_new' (Kd.R_newM (M := fun k_ => (P0_ k_ ∨ w.heap.size ≤ k_)) ho24 (HK.out.1) (fun k_ h_ => .inr h_)) (Kd.R_lt HO_0.out)) (Kd.R_lt HO199.out)) (below_size HB.out))
               have n3_ := Aside0.mk (Kd.C_below HR196.out hb)
               have n4_ := Aside0.mk (Kept.below (S := (fun k_ => P0_ k_)) HK.out hb)
               have n5_ := Aside0.mk (below_step HB.out hb)
               clear HO_0
               clear HO199
               clear HR196
               clear HK
               clear HB
               have HO_0 := n0_
               have HO199 := n1_
               have HO202 := n2_
               have HR196 := n3_
               have HK := n4_
               have HB := n5_
               clear n0_ n1_ n2_ n3_ n4_ n5_
               clear hb ho24
               refine hK.out _ _ trivial (fun hHeld => ?_)
               clear hK K
               refine norm_ (a' := ?_) ?_ ?_
               rotate_left
               ·show Act.put _ (some 42) _ = _
                simp only [Act.put, List.setIfInBounds_toArray, List.set_cons_zero, List.set_cons_succ, i64_w, i32_w]
                rfl
               exact norm_ (by simp only [putAll, Act.put, List.setIfInBounds_toArray, List.set_cons_zero, List.set_cons_succ]) (hCont (v191, v198, v201) _ ⟨(by exact Kd.R_mono HO199.out (fun _ hk => ⟨hk.1.1, ⟨hk.2, hk.1.2⟩⟩)), (by exact Kd.R_mono HO202.out (fun _ hk => ⟨hk.1.1.1, ⟨hk.2, hk.1.2⟩⟩)), (by exact Kd.R_mono HO_0.out (fun _ hk => ⟨hk.1.1, ⟨hk.1.2, hk.2⟩⟩)), HK.out, HB.out⟩)
              ·skip
               refine Kd.R_lit_step (Kd.int .i64) _ 2 ?hg (N := 42) ?hd (xs := ([a1] : List Int)) (inner := [.int .i64 a1]) (ok := fun _ => True) (okp := fun _ => True) ?hr ?hp (fun _ hk => hk) trivial (Below.refl _ _) (Nat.le_refl _) (by simp) ?_; (case hd => rfl); (case hg => rfl); (case hr => first | (go_simp; done) | (go_simp; rfl)); (case hp => exact (Reps.one (show Kd.M (Kd.int .i64) _ _ _ a1 [.int .i64 a1] from rfl) (Reps.none _ _)))
               intro v201 w22 ho23 hb hg_ hnew_
               clear hg_ hnew_
               (first | rw [← Ny200.out] at ho23 | (simp only [Int.reduceToNat] at ho23; rw [← Ny200.out] at ho23))
               have n0_ := Aside0.mk (Kd.R_elder' HO_0.out (Kd.R_base ho23) hb)
               have n1_ := Aside0.mk (Kd.R_elder' HO192.out (Kd.R_base ho23) hb)
               have n2_ := Aside0.mk (Kd.R_lower (Kd.R_new' (Kd.R_new' (Kd.R_newM (M := fun k_ => (P0_ k_ ∨ w.heap.size ≤ k_)) ho23 (HK.out.1) (fun k_ h_ => .inr h_)) (Kd.R_lt HO_0.out)) (Kd.R_lt HO192.out)) (below_size HB.out))
               have n3_ := Aside0.mk (Kd.C_below HR196.out hb)
               have n4_ := Aside0.mk (Kept.below (S := (fun k_ => P0_ k_)) HK.out hb)
               have n5_ := Aside0.mk (below_step HB.out hb)
               clear HO_0
               clear HO192
               clear HR196
               clear HK
               clear HB
               have HO_0 := n0_
               have HO192 := n1_
               have HO202 := n2_
               have HR196 := n3_
               have HK := n4_
               have HB := n5_
               clear n0_ n1_ n2_ n3_ n4_ n5_
               clear hb ho23
               refine hK.out _ _ trivial (fun hHeld => ?_)
               clear hK K
               refine norm_ (a' := ?_) ?_ ?_
               rotate_left
               ·show Act.put _ (some 42) _ = _
                simp only [Act.put, List.setIfInBounds_toArray, List.set_cons_zero, List.set_cons_succ, i64_w, i32_w]
                rfl
               refine one_ (i := 4) (N := some 40) #[true, true, true, true, true, true, true, false, true, true, true, false, false] rfl rfl (one_of HT_.out (by kernel_rfl)) (by decide) (fun K hK => ?_)
               refine Kd.R_append_rows_step (Kd.int .i64) (w0 := w0) w0.heap.size (by rfl) (.tmp 36) (.tmp 39) 34 2 (.int .i64 0) 8 rfl Try.underlying34 info2 rfl (by decide) (by omega) v191 y190 y193 _ _ _ (fun k_ => (P0_ k_ ∨ w.heap.size ≤ k_) ∧ some k_ ≠ (.slice (some ad188) l0.length co17 : Value).ownBlock ∧ some k_ ≠ (v201 : Value).ownBlock) (fun _ => False) rfl rfl ?aO ?aR (fun _ _ h => h) (fun _ h => h.elim) ?aF ?aB ?aS ?aL ?_
               (case aR => exact HR196.out)
               (case aB => exact HB.out)
               (case aF => exact (fun k_ hk => ⟨(.inr (Nat.le_trans (HK.out.1) hk)), Kd.fresh' (Kd.R_lt HO_0.out) k_ hk, Kd.fresh' (Kd.R_lt HO202.out) k_ hk⟩))
               (case aO => exact (by exact Kd.R_mono HO192.out (fun _ hk => ⟨hk.1.1.1, ⟨hk.1.2, hk.2⟩⟩)))
               (case aS => exact (below_size HB.out))
               (case aL => have := LMc12.out; omega)
               intro v198 w24 ho hb hg hat
               rw [← Ny197.out] at ho
               have n0_ := Aside0.mk (Kd.R_after (ok := (fun k_ => (P0_ k_ ∨ w.heap.size ≤ k_) ∧ some k_ ≠ (v201 : Value).ownBlock)) (by exact Kd.R_mono HO_0.out (fun _ hk => ⟨⟨hk.1.1, hk.2⟩, hk.1.2⟩)) hg hat)
               have n1_ := Aside0.mk (Kd.R_after (ok := (fun k_ => (P0_ k_ ∨ w.heap.size ≤ k_) ∧ some k_ ≠ (.slice (some ad188) l0.length co17 : Value).ownBlock)) (by exact Kd.R_mono HO202.out (fun _ hk => ⟨⟨hk.1.1.1, hk.1.2⟩, hk.2⟩)) hg hat)
               have n2_ := Aside0.mk (hb)
               have n3_ := Aside0.mk (Kept.of_grown (S := (fun k_ => P0_ k_)) hg HK.out (fun k_ e_ => (HO192.out.1 k_ e_).1.1.1))
               have n4_ := Aside0.mk ((show Kd.C (Kd.int .i64) w24 (some ad188) y193.length y193 from by rw [Ny193.out]; exact Kd.C_take (m := (x5_1 : Int).toNat) ((Kd.R_reads' (Kd.R_after (ok := (fun k_ => (P0_ k_ ∨ w.heap.size ≤ k_) ∧ some k_ ≠ (v201 : Value).ownBlock)) (by exact Kd.R_mono HO_0.out (fun _ hk => ⟨⟨hk.1.1, hk.2⟩, hk.1.2⟩)) hg hat)).2.2) KL19.out))
               have n5_ := Aside0.mk (ho)
               clear HO_0
               clear HO202
               clear HB
               clear HK
               clear HR196
               clear HO192
               have HO_0 := n0_
               have HO202 := n1_
               have HB := n2_
               have HK := n3_
               have HR196 := n4_
               have HO199 := n5_
               clear n0_ n1_ n2_ n3_ n4_ n5_
               clear ho hb hg hat
               refine hK.out _ _ trivial (fun hHeld => ?_)
               clear hK K
               refine norm_ (a' := ?_) ?_ ?_
               rotate_left
               ·show Act.put _ (some 40) _ = _
                simp only [Act.put, List.setIfInBounds_toArray, List.set_cons_zero, List.set_cons_succ, i64_w, i32_w]
                rfl
               exact norm_ (by simp only [putAll, Act.put, List.setIfInBounds_toArray, List.set_cons_zero, List.set_cons_succ]) (hCont (v191, v198, v201) _ ⟨(by exact Kd.R_mono HO199.out (fun _ hk => ⟨hk.1, ⟨hk.2.2, hk.2.1⟩⟩)), (by exact Kd.R_mono HO202.out (fun _ hk => ⟨hk.1.1, ⟨hk.2, hk.1.2⟩⟩)), (by exact Kd.R_mono HO_0.out (fun _ hk => ⟨hk.1.1, ⟨hk.2, hk.1.2⟩⟩)), HK.out, HB.out⟩)
             ·skip
              refine Kd.R_lit_step (Kd.int .i64) _ 2 ?hg (N := 42) ?hd (xs := ([a1] : List Int)) (inner := [.int .i64 a1]) (ok := fun _ => True) (okp := fun _ => True) ?hr ?hp (fun _ hk => hk) trivial (Below.refl _ _) (Nat.le_refl _) (by simp) ?_; (case hd => rfl); (case hg => rfl); (case hr => first | (go_simp; done) | (go_simp; rfl)); (case hp => exact (Reps.one (show Kd.M (Kd.int .i64) _ _ _ a1 [.int .i64 a1] from rfl) (Reps.none _ _)))
              intro v201 w20 ho21 hb hg_ hnew_
              clear hg_ hnew_
              (first | rw [← Ny200.out] at ho21 | (simp only [Int.reduceToNat] at ho21; rw [← Ny200.out] at ho21))
              have n0_ := Aside0.mk (Kd.R_elder' HO_0.out (Kd.R_base ho21) hb)
              have n1_ := Aside0.mk (Kd.R_lower (Kd.R_new' (Kd.R_newM (M := fun k_ => (P0_ k_ ∨ w.heap.size ≤ k_)) ho21 (HK.out.1) (fun k_ h_ => .inr h_)) (Kd.R_lt HO_0.out)) (below_size HB.out))
              have n2_ := Aside0.mk (Kd.C_below HR196.out hb)
              have n3_ := Aside0.mk (Kept.below (S := (fun k_ => P0_ k_)) HK.out hb)
              have n4_ := Aside0.mk (below_step HB.out hb)
              clear HO_0
              clear HR196
              clear HK
              clear HB
              have HO_0 := n0_
              have HO202 := n1_
              have HR196 := n2_
              have HK := n3_
              have HB := n4_
              clear n0_ n1_ n2_ n3_ n4_
              clear hb ho21
              refine hK.out _ _ trivial (fun hHeld => ?_)
              clear hK K
              refine norm_ (a' := ?_) ?_ ?_
              rotate_left
              ·show Act.put _ (some 42) _ = _
               simp only [Act.put, List.setIfInBounds_toArray, List.set_cons_zero, List.set_cons_succ, i64_w, i32_w]
               rfl
              refine one_ (i := 0) (N := some 36) #[true, true, true, true, false, true, true, false, true, true, true, false, false] rfl rfl (one_of HT_.out (by kernel_rfl)) (by decide) (fun K hK => ?_)
              refine Kd.R_lit_step (Kd.int .i64) _ 2 ?hg (N := 36) ?hd (xs := ([] : List Int)) (inner := []) (ok := fun _ => True) (okp := fun _ => True) ?hr ?hp (fun _ hk => hk) trivial (Below.refl _ _) (Nat.le_refl _) (by simp) ?_; (case hd => rfl); (case hg => rfl); (case hr => first | (go_simp; done) | (go_simp; rfl)); (case hp => exact (Reps.none _ _))
              intro v191 w22 ho23 hb hg_ hnew_
              clear hg_ hnew_
              (first | rw [← Ny190.out] at ho23 | (simp only [Int.reduceToNat] at ho23; rw [← Ny190.out] at ho23))
              have n0_ := Aside0.mk (Kd.R_elder' HO_0.out (Kd.R_base ho23) hb)
              have n1_ := Aside0.mk (Kd.R_elder' HO202.out (Kd.R_base ho23) hb)
              have n2_ := Aside0.mk (Kd.R_lower (Kd.R_new' (Kd.R_new' (Kd.R_newM (M := fun k_ => (P0_ k_ ∨ w.heap.size ≤ k_)) ho23 (HK.out.1) (fun k_ h_ => .inr h_)) (Kd.R_lt HO_0.out)) (Kd.R_lt HO202.out)) (below_size HB.out))
              have n3_ := Aside0.mk (Kd.C_below HR196.out hb)
              have n4_ := Aside0.mk (Kept.below (S := (fun k_ => P0_ k_)) HK.out hb)
              have n5_ := Aside0.mk (below_step HB.out hb)
              clear HO_0
              clear HO202
              clear HR196
              clear HK
              clear HB
              have HO_0 := n0_
              have HO202 := n1_
              have HO192 := n2_
              have HR196 := n3_
              have HK := n4_
              have HB := n5_
              clear n0_ n1_ n2_ n3_ n4_ n5_
              clear hb ho23
              refine hK.out _ _ trivial (fun hHeld => ?_)
              clear hK K
              refine norm_ (a' := ?_) ?_ ?_
              rotate_left
              ·show Act.put _ (some 36) _ = _
               simp only [Act.put, List.setIfInBounds_toArray, List.set_cons_zero, List.set_cons_succ, i64_w, i32_w]
               rfl
              refine one_ (i := 4) (N := some 40) #[true, true, true, true, true, true, true, false, true, true, true, false, false] rfl rfl (one_of HT_.out (by kernel_rfl)) (by decide) (fun K hK => ?_)
              refine Kd.R_append_rows_step (Kd.int .i64) (w0 := w0) w0.heap.size (by rfl) (.tmp 36) (.tmp 39) 34 2 (.int .i64 0) 8 rfl Try.underlying34 info2 rfl (by decide) (by omega) v191 y190 y193 _ _ _ (fun k_ => (P0_ k_ ∨ w.heap.size ≤ k_) ∧ some k_ ≠ (.slice (some ad188) l0.length co17 : Value).ownBlock ∧ some k_ ≠ (v201 : Value).ownBlock) (fun _ => False) rfl rfl ?aO ?aR (fun _ _ h => h) (fun _ h => h.elim) ?aF ?aB ?aS ?aL ?_
              (case aR => exact HR196.out)
              (case aB => exact HB.out)
              (case aF => exact (fun k_ hk => ⟨(.inr (Nat.le_trans (HK.out.1) hk)), Kd.fresh' (Kd.R_lt HO_0.out) k_ hk, Kd.fresh' (Kd.R_lt HO202.out) k_ hk⟩))
              (case aO => exact (by exact Kd.R_mono HO192.out (fun _ hk => ⟨hk.1.1.1, ⟨hk.1.2, hk.2⟩⟩)))
              (case aS => exact (below_size HB.out))
              (case aL => have := LMc12.out; omega)
              intro v198 w24 ho hb hg hat
              rw [← Ny197.out] at ho
              have n0_ := Aside0.mk (Kd.R_after (ok := (fun k_ => (P0_ k_ ∨ w.heap.size ≤ k_) ∧ some k_ ≠ (v201 : Value).ownBlock)) HO_0.out hg hat)
              have n1_ := Aside0.mk (Kd.R_after (ok := (fun k_ => (P0_ k_ ∨ w.heap.size ≤ k_) ∧ some k_ ≠ (.slice (some ad188) l0.length co17 : Value).ownBlock)) (by exact Kd.R_mono HO202.out (fun _ hk => ⟨⟨hk.1.1.1, hk.1.2⟩, hk.2⟩)) hg hat)
              have n2_ := Aside0.mk (hb)
              have n3_ := Aside0.mk (Kept.of_grown (S := (fun k_ => P0_ k_)) hg HK.out (fun k_ e_ => (HO192.out.1 k_ e_).1.1.1))
              have n4_ := Aside0.mk ((show Kd.C (Kd.int .i64) w24 (some ad188) y193.length y193 from by rw [Ny193.out]; exact Kd.C_take (m := (x5_1 : Int).toNat) ((Kd.R_reads' (Kd.R_after (ok := (fun k_ => (P0_ k_ ∨ w.heap.size ≤ k_) ∧ some k_ ≠ (v201 : Value).ownBlock)) HO_0.out hg hat)).2.2) KL19.out))
              have n5_ := Aside0.mk (ho)
              clear HO_0
              clear HO202
              clear HB
              clear HK
              clear HR196
              clear HO192
              have HO_0 := n0_
              have HO202 := n1_
              have HB := n2_
              have HK := n3_
              have HR196 := n4_
              have HO199 := n5_
              clear n0_ n1_ n2_ n3_ n4_ n5_
              clear ho hb hg hat
              refine hK.out _ _ trivial (fun hHeld => ?_)
              clear hK K
              refine norm_ (a' := ?_) ?_ ?_
              rotate_left
              ·show Act.put _ (some 40) _ = _
               simp only [Act.put, List.setIfInBounds_toArray, List.set_cons_zero, List.set_cons_succ, i64_w, i32_w]
               rfl
              exact norm_ (by simp only [putAll, Act.put, List.setIfInBounds_toArray, List.set_cons_zero, List.set_cons_succ]) (hCont (v191, v198, v201) _ ⟨(by exact Kd.R_mono HO199.out (fun _ hk => ⟨hk.1, ⟨hk.2.2, hk.2.1⟩⟩)), (by exact Kd.R_mono HO202.out (fun _ hk => ⟨hk.1.1, ⟨hk.2, hk.1.2⟩⟩)), (by exact Kd.R_mono HO_0.out (fun _ hk => ⟨hk.1.1, ⟨hk.2, hk.1.2⟩⟩)), HK.out, HB.out⟩)
            rintro ⟨v191, v198, v201⟩ w25 ⟨h0_, h1_, h2_, h3_, h4_⟩
            have n0_ : Aside0 (Kd.R (Kd.int .i64) 2 w25 w0.heap.size (fun k_ => (P0_ k_ ∨ w.heap.size ≤ k_) ∧ some k_ ≠ (v201 : Value).ownBlock ∧ some k_ ≠ (.slice (some ad188) l0.length co17 : Value).ownBlock) v198 y197) := ⟨h0_⟩
            have n1_ : Aside0 (Kd.R (Kd.int .i64) 2 w25 w0.heap.size (fun k_ => (P0_ k_ ∨ w.heap.size ≤ k_) ∧ some k_ ≠ (v198 : Value).ownBlock ∧ some k_ ≠ (.slice (some ad188) l0.length co17 : Value).ownBlock) v201 y200) := ⟨h1_⟩
            have n2_ : Aside0 (Kd.R (Kd.int .i64) 2 w25 w0.heap.size (fun k_ => (P0_ k_ ∨ w.heap.size ≤ k_) ∧ some k_ ≠ (v198 : Value).ownBlock ∧ some k_ ≠ (v201 : Value).ownBlock) (.slice (some ad188) l0.length co17) l0) := ⟨h2_⟩
            have n3_ : Aside0 (Kept w w25 (fun k_ => P0_ k_)) := ⟨h3_⟩
            have n4_ : Aside0 (Below w0.heap.size w0 w25) := ⟨h4_⟩
            clear HO_0
            clear HK
            clear HB
            clear h0_ h1_ h2_ h3_ h4_
            have HO199 := n0_
            have HO202 := n1_
            have HO_0 := n2_
            have HK := n3_
            have HB := n4_
            clear n0_ n1_ n2_ n3_ n4_
            have hHeld := trivial
            obtain ⟨Ao27, co27, eo27⟩ := Kd.R_slice HO202.out
            (first | subst eo27 | (injection eo27 with f1_ f2_ f3_; have f4_ := f1_.symm; have f5_ := f3_.symm; clear f1_ f2_ f3_; subst f4_; subst f5_))
            refine norm_ (a' := ?_) ?_ ?_
            rotate_left
            ·simp only [putAll, Act.put, List.setIfInBounds_toArray, List.set_cons_zero, List.set_cons_succ]
             rfl
            refine one_ (i := 7) (N := some 43) #[true, true, true, true, true, true, true, true, true, true, true, false, false] rfl rfl (one_of HT_.out (by kernel_rfl)) (by decide) (fun K hK => ?_)
            refine Kd.R_append_rows_step (Kd.int .i64) (w0 := w0) w0.heap.size (by rfl) (.tmp 40) (.tmp 42) 34 2 (.int .i64 0) 8 rfl Try.underlying34 info2 rfl (by decide) (by omega) v198 y197 y200 _ _ _ (fun k_ => (P0_ k_ ∨ w.heap.size ≤ k_) ∧ some k_ ≠ (.slice (some ad188) l0.length co17 : Value).ownBlock ∧ some k_ ≠ (.slice Ao27 y200.length co27 : Value).ownBlock) (fun _ => False) rfl rfl ?aO ?aR (fun _ _ h => h) (fun _ h => h.elim) ?aF ?aB ?aS ?aL ?_
            (case aR => repeat (first | exact (Kd.R_reads' HO202.out).2.2 | (with_reducible refine Kd.C_alloc ?_ _) | (with_reducible refine Kd.C_drewN ?_ _) | (with_reducible refine Kd.C_drew ?_)))
            (case aB => exact HB.out)
            (case aF => exact (fun k_ hk => ⟨(.inr (Nat.le_trans (HK.out.1) hk)), Kd.fresh' (Kd.R_lt HO_0.out) k_ hk, Kd.fresh' (Kd.R_lt HO202.out) k_ hk⟩))
            (case aO => exact (by exact Kd.R_mono HO199.out (fun _ hk => ⟨hk.1, ⟨hk.2.2, hk.2.1⟩⟩)))
            (case aS => exact (below_size HB.out))
            (case aL => have := LMc13.out; omega)
            intro v204 w26 ho hb hg hat
            rw [← Ny203.out] at ho
            have n0_ := Aside0.mk (Kd.R_after (ok := (fun k_ => (P0_ k_ ∨ w.heap.size ≤ k_) ∧ some k_ ≠ (.slice Ao27 y200.length co27 : Value).ownBlock)) (by exact Kd.R_mono HO_0.out (fun _ hk => ⟨⟨hk.1, hk.2.2⟩, hk.2.1⟩)) hg hat)
            have n1_ := Aside0.mk (Kd.R_after (ok := (fun k_ => (P0_ k_ ∨ w.heap.size ≤ k_) ∧ some k_ ≠ (.slice (some ad188) l0.length co17 : Value).ownBlock)) (by exact Kd.R_mono HO202.out (fun _ hk => ⟨⟨hk.1, hk.2.2⟩, hk.2.1⟩)) hg hat)
            have n2_ := Aside0.mk (hb)
            have n3_ := Aside0.mk (Kept.of_grown (S := (fun k_ => P0_ k_)) hg HK.out (fun k_ e_ => (HO199.out.1 k_ e_).1))
            have n4_ := Aside0.mk (ho)
            clear HO_0
            clear HO202
            clear HB
            clear HK
            clear HO199
            have HO_0 := n0_
            have HO202 := n1_
            have HB := n2_
            have HK := n3_
            have HO205 := n4_
            clear n0_ n1_ n2_ n3_ n4_
            clear ho hb hg hat
            refine hK.out _ _ trivial (fun hHeld => ?_)
            clear hK K
            refine norm_ (a' := ?_) ?_ ?_
            rotate_left
            ·show Act.put _ (some 43) _ = _
             simp only [Act.put, List.setIfInBounds_toArray, List.set_cons_zero, List.set_cons_succ, i64_w, i32_w]
             rfl
            have hroom28 : l0.length ≤ co17 := (Kd.R_reads' HO_0.out).2.1
            have hC28 : Kd.C (Kd.int .i64) _ (some ad188) l0.length l0 := (Kd.R_reads' HO_0.out).2.2
            have hr28 := Kd.C_drop (m := (x5_1 : Int).toNat) (c := co17) hC28 KL28.out hroom28
            rw [show (l0).drop (x5_1 : Int).toNat = y206 from Ny206.out.symm] at hr28
            replace hr28 : Kd.C (Kd.int .i64) _ A28 y206.length y206 := (by rw [KA28.out]; exact hr28)
            have HR209 := Aside0.mk hr28
            have HC209 := Aside0.mk (show y206.length ≤ c28 from by rw [KY28.out, KC28.out]; exact Nat.sub_le_sub_right hroom28 _)
            clear hr28 hC28 hroom28
            refine one_ (i := 11) (N := some 47) #[true, true, true, true, true, true, true, true, true, true, true, true, false] rfl rfl (one_of HT_.out (by kernel_rfl)) (by decide) (fun K hK => ?_)
            refine Kd.R_append_rows_step (Kd.int .i64) (w0 := w0) w0.heap.size (by rfl) (.tmp 43) (.tmp 46) 34 2 (.int .i64 0) 8 rfl Try.underlying34 info2 rfl (by decide) (by omega) v204 y203 y206 _ _ _ (fun k_ => (P0_ k_ ∨ w.heap.size ≤ k_) ∧ some k_ ≠ (.slice (some ad188) l0.length co17 : Value).ownBlock ∧ some k_ ≠ (.slice Ao27 y200.length co27 : Value).ownBlock) (fun _ => False) rfl rfl ?aO ?aR (fun _ _ h => h) (fun _ h => h.elim) ?aF ?aB ?aS ?aL ?_
            (case aR => exact HR209.out)
            (case aB => exact HB.out)
            (case aF => exact (fun k_ hk => ⟨(.inr (Nat.le_trans (HK.out.1) hk)), Kd.fresh' (Kd.R_lt HO_0.out) k_ hk, Kd.fresh' (Kd.R_lt HO202.out) k_ hk⟩))
            (case aO => exact HO205.out)
            (case aS => exact (below_size HB.out))
            (case aL => have := LMc16.out; omega)
            intro v211 w29 ho hb hg hat
            rw [← Ny210.out] at ho
            have n0_ := Aside0.mk (Kd.R_after (ok := (fun k_ => (P0_ k_ ∨ w.heap.size ≤ k_) ∧ some k_ ≠ (.slice Ao27 y200.length co27 : Value).ownBlock)) HO_0.out hg hat)
            have n1_ := Aside0.mk (Kd.R_after (ok := (fun k_ => (P0_ k_ ∨ w.heap.size ≤ k_) ∧ some k_ ≠ (.slice (some ad188) l0.length co17 : Value).ownBlock)) HO202.out hg hat)
            have n2_ := Aside0.mk (hb)
            have n3_ := Aside0.mk (Kept.of_grown (S := (fun k_ => P0_ k_)) hg HK.out (fun k_ e_ => (HO205.out.1 k_ e_).1))
            have n4_ := Aside0.mk ((show Kd.C (Kd.int .i64) w29 A28 y206.length y206 from by rw [Ny206.out, KA28.out]; exact Kd.C_drop (m := (x5_1 : Int).toNat) (c := co17) ((Kd.R_reads' (Kd.R_after (ok := (fun k_ => (P0_ k_ ∨ w.heap.size ≤ k_) ∧ some k_ ≠ (.slice Ao27 y200.length co27 : Value).ownBlock)) HO_0.out hg hat)).2.2) KL28.out ((Kd.R_reads' (Kd.R_after (ok := (fun k_ => (P0_ k_ ∨ w.heap.size ≤ k_) ∧ some k_ ≠ (.slice Ao27 y200.length co27 : Value).ownBlock)) HO_0.out hg hat)).2.1)))
            have n5_ := Aside0.mk (ho)
            clear HO_0
            clear HO202
            clear HB
            clear HK
            clear HR209
            clear HO205
            have HO_0 := n0_
            have HO202 := n1_
            have HB := n2_
            have HK := n3_
            have HR209 := n4_
            have HO212 := n5_
            clear n0_ n1_ n2_ n3_ n4_ n5_
            clear ho hb hg hat
            refine hK.out _ _ trivial (fun hHeld => ?_)
            clear hK K
            refine norm_ (a' := ?_) ?_ ?_
            rotate_left
            ·show Act.put _ (some 47) _ = _
             simp only [Act.put, List.setIfInBounds_toArray, List.set_cons_zero, List.set_cons_succ, i64_w, i32_w]
             rfl
            refine pure_ (i := 12) (N := some 4) (v := ?_) (a' := ?_) #[true, true, true, true, true, true, true, true, true, true, true, true, true] rfl rfl (any_of HT_.out (by kernel_rfl)) (fun _ _ _ h => h) (Or.inl ⟨by rfl, ?_⟩) ?_ ?_
            rotate_left
            ·intro w'
             go_simp
             with_reducible rfl
            rotate_left
            ·simp only [Act.put, List.setIfInBounds_toArray, List.set_cons_zero, List.set_cons_succ, i64_w, i32_w]
             rfl
            refine done_ (done_of HT_.out (by kernel_rfl)) ?_
            try go_wp2
            go_ret
            exact ⟨_, by first | rfl | (simp [errW_none, errW_some] <;> rfl) | (simp [*, errW_none, errW_some] <;> rfl), by exact Kd.R_mono HO212.out (fun _ hk => hk.1), by exact HB.out, by exact HK.out⟩
           ·rw [if_neg c16] at H
            exact absurd H (by simp)
          ·rw [if_neg c13] at H
           exact absurd H (by simp)
         ·rw [if_neg c12] at H
          exact absurd H (by simp)
        ·rw [if_neg c11] at H
         exact absurd H (by simp)
     ·rw [if_neg c5] at H
      exact absurd H (by simp)
    ·rw [if_neg c4] at H
     have c4b0 : decide (x5_1 < (l0.length : Int)) = false := decide_eq_false c4
     clear c4
     obtain ⟨y213, hy213⟩ : ∃ y_ : List Int, y_ = (([] : List Int)) := ⟨_, rfl⟩
     replace H : (if 0 ≤ x5_1 then (if x5_1 ≤ (l0.length : Int) then ((some (l0.take (x5_1 : Int).toNat : List Int)).bind fun y216 => (if y213.length + y216.length < 17592186044416 then ((some (y213 ++ y216 : List Int)).bind fun y220 => ((some (([a1] : List Int) : List Int)).bind fun y223 => (if y220.length + y223.length < 17592186044416 then ((some (y220 ++ y223 : List Int)).bind fun y226 => ((some (l0.drop (x5_1 : Int).toNat : List Int)).bind fun y229 => (if y226.length + y229.length < 17592186044416 then (some (y226 ++ y229)) else (none)))) else (none)))) else (none))) else (none)) else (none)) = some r := by first | (rw [hy213]; exact H) | exact H
     have Ny213 := Aside0.mk hy213
     clear hy213
     by_cases c30 : 0 ≤ x5_1
     ·rw [if_pos c30] at H
      have c30b0 := eq_true c30
      have c30b1 : decide (0 ≤ x5_1) = true := decide_eq_true c30
      clear c30
      by_cases c31 : x5_1 ≤ (l0.length : Int)
      ·rw [if_pos c31] at H
       have c31b0 := eq_true c31
       have c31b1 : decide (x5_1 ≤ (l0.length : Int)) = true := decide_eq_true c31
       clear c31
       obtain ⟨y216, hy216⟩ : ∃ y_ : List Int, y_ = (l0.take (x5_1 : Int).toNat) := ⟨_, rfl⟩
       replace H : (if y213.length + y216.length < 17592186044416 then ((some (y213 ++ y216 : List Int)).bind fun y220 => ((some (([a1] : List Int) : List Int)).bind fun y223 => (if y220.length + y223.length < 17592186044416 then ((some (y220 ++ y223 : List Int)).bind fun y226 => ((some (l0.drop (x5_1 : Int).toNat : List Int)).bind fun y229 => (if y226.length + y229.length < 17592186044416 then (some (y226 ++ y229)) else (none)))) else (none)))) else (none)) = some r := by first | (rw [hy216]; exact H) | exact H
       have Ny216 := Aside0.mk hy216
       clear hy216
       by_cases c32 : y213.length + y216.length < 17592186044416
       ·rw [if_pos c32] at H
        have LMc32 := Aside0.mk c32
        clear c32
        obtain ⟨y220, hy220⟩ : ∃ y_ : List Int, y_ = (y213 ++ y216) := ⟨_, rfl⟩
        replace H : ((some (([a1] : List Int) : List Int)).bind fun y223 => (if y220.length + y223.length < 17592186044416 then ((some (y220 ++ y223 : List Int)).bind fun y226 => ((some (l0.drop (x5_1 : Int).toNat : List Int)).bind fun y229 => (if y226.length + y229.length < 17592186044416 then (some (y226 ++ y229)) else (none)))) else (none))) = some r := by first | (rw [hy220]; exact H) | exact H
        have Ny220 := Aside0.mk hy220
        clear hy220
        obtain ⟨y223, hy223⟩ : ∃ y_ : List Int, y_ = (([a1] : List Int)) := ⟨_, rfl⟩
        replace H : (if y220.length + y223.length < 17592186044416 then ((some (y220 ++ y223 : List Int)).bind fun y226 => ((some (l0.drop (x5_1 : Int).toNat : List Int)).bind fun y229 => (if y226.length + y229.length < 17592186044416 then (some (y226 ++ y229)) else (none)))) else (none)) = some r := by first | (rw [hy223]; exact H) | exact H
        have Ny223 := Aside0.mk hy223
        clear hy223
        by_cases c33 : y220.length + y223.length < 17592186044416
        ·rw [if_pos c33] at H
         have LMc33 := Aside0.mk c33
         clear c33
         obtain ⟨y226, hy226⟩ : ∃ y_ : List Int, y_ = (y220 ++ y223) := ⟨_, rfl⟩
         replace H : ((some (l0.drop (x5_1 : Int).toNat : List Int)).bind fun y229 => (if y226.length + y229.length < 17592186044416 then (some (y226 ++ y229)) else (none))) = some r := by first | (rw [hy226]; exact H) | exact H
         have Ny226 := Aside0.mk hy226
         clear hy226
         have c34b0 := eq_true (of_decide_eq_true (by assumption) : 0 ≤ x5_1)
         have c35b0 := eq_true (of_decide_eq_true (by assumption) : x5_1 ≤ (l0.length : Int))
         obtain ⟨y229, hy229⟩ : ∃ y_ : List Int, y_ = (l0.drop (x5_1 : Int).toNat) := ⟨_, rfl⟩
         replace H : (if y226.length + y229.length < 17592186044416 then (some (y226 ++ y229)) else (none)) = some r := by first | (rw [hy229]; exact H) | exact H
         have Ny229 := Aside0.mk hy229
         clear hy229
         by_cases c36 : y226.length + y229.length < 17592186044416
         ·rw [if_pos c36] at H
          have LMc36 := Aside0.mk c36
          clear c36
          obtain ⟨y233, hy233⟩ : ∃ y_ : List Int, y_ = (y226 ++ y229) := ⟨_, rfl⟩
          replace H : (some y233) = some r := by first | (rw [hy233]; exact H) | exact H
          have Ny233 := Aside0.mk hy233
          clear hy233
          obtain rfl := Option.some.inj H
          obtain ⟨Ao37, co37, eo37⟩ := Kd.R_slice HO_0.out
          subst eo37
          try go_wp2
          have n0_ := Aside0.mk (Kd.R_drew HO_0.out)
          have n1_ := Aside0.mk (Kept.drew HK.out)
          have n2_ := Aside0.mk (below_drew1 HB.out)
          clear HO_0
          clear HK
          clear HB
          have HO_0 := n0_
          have HK := n1_
          have HB := n2_
          clear n0_ n1_ n2_
          have q39 : (x5_1 : Int) ≤ ((l0.length : Int) : Int) := of_decide_eq_true (by assumption)
          obtain ⟨i039, hi039, _, hsz39, _⟩ := info_parts info2
          have hroom39 : l0.length ≤ co37 := (Kd.R_reads' HO_0.out).2.1
          have hC39 : Kd.C (Kd.int .i64) _ Ao37 l0.length l0 := (Kd.R_reads' HO_0.out).2.2
          have hcut39 := cut_to (P := Try.prog) 34 2 .i64 Try.underlying34 hi039 Ao37 l0.length co37 x5_1 (of_decide_eq_true (by assumption)) q39 hroom39
          have hr39 := Kd.C_take (m := (x5_1 : Int).toNat) hC39 (by omega)
          have hy39 : y216.length = (x5_1 : Int).toNat := (by rw [Ny216.out, List.length_take]; omega)
          rw [← Ny216.out] at hr39
          rw [← hy39] at hcut39
          have HR219 := Aside0.mk hr39
          have HC219 := Aside0.mk (show y216.length ≤ co37 from by omega)
          clear hr39 hC39 hroom39 hi039 hsz39
          have KY39 := Aside0.mk hy39
          clear hy39
          have KL39 := Aside0.mk (show (x5_1 : Int).toNat ≤ l0.length from by omega)
          replace q39 := eq_true q39
          have q48 : (x5_1 : Int) ≤ ((l0.length : Int) : Int) := of_decide_eq_true (by assumption)
          obtain ⟨i048, hi048, _, hsz48, _⟩ := info_parts info2
          have q048 : (0 : Int) ≤ (x5_1 : Int) := of_decide_eq_true (by assumption)
          have hcut48 := cut_from (P := Try.prog) 34 2 .i64 Try.underlying34 hi048 1 hsz48 Ao37 l0.length co37 x5_1 q048 q48
          obtain ⟨A48, hA48⟩ : ∃ A1, A1 = (if co37 = (x5_1 : Int).toNat then Ao37 else (Ao37 : Option Addr).map (·.add ((x5_1 : Int).toNat * 1))) := ⟨_, rfl⟩
          obtain ⟨c48, hc48⟩ : ∃ c1, c1 = co37 - (x5_1 : Int).toNat := ⟨_, rfl⟩
          have hy48 : y229.length = l0.length - (x5_1 : Int).toNat := (by rw [Ny229.out, List.length_drop] <;> omega)
          rw [← hy48, ← hA48, ← hc48] at hcut48
          clear hi048 hsz48
          have KY48 := Aside0.mk hy48
          have KA48 := Aside0.mk hA48
          have KC48 := Aside0.mk hc48
          clear hy48 hA48 hc48
          have KL48 := Aside0.mk (show (x5_1 : Int).toNat ≤ l0.length from by omega)
          replace q48 := eq_true q48
          refine start_ (n := 13) (S := fun w' => True) (ds := []) #[false, false, false, false, false, false, false, false, false, false, false, false, false] (by kernel_rfl) rfl rfl trivial (fun hHeld => ?_); refine with_tabW berthingref10_put.tab8 berthingref10_put.bits8 (fun HT_ HW_ => ?_)
          generalize wr.drew = w38 at HO_0 HK HB HR219 hHeld ⊢
          refine pure_ (i := 1) (N := some 37) (v := ?_) (a' := ?_) #[false, true, false, false, false, false, false, false, false, false, false, false, false] rfl rfl (any_of HT_.out (by kernel_rfl)) (fun _ _ _ h => h) (Or.inl ⟨by rfl, ?_⟩) ?_ ?_
          rotate_left
          ·intro w'
           go_simp
           with_reducible rfl
          rotate_left
          ·simp only [Act.put, List.setIfInBounds_toArray, List.set_cons_zero, List.set_cons_succ, i64_w, i32_w]
           rfl
          refine pure_ (i := 2) (N := some 38) (v := ?_) (a' := ?_) #[false, true, true, false, false, false, false, false, false, false, false, false, false] rfl rfl (any_of HT_.out (by kernel_rfl)) (fun _ _ _ h => h) (Or.inl ⟨by rfl, ?_⟩) ?_ ?_
          rotate_left
          ·intro w'
           go_simp
           with_reducible rfl
          rotate_left
          ·simp only [Act.put, List.setIfInBounds_toArray, List.set_cons_zero, List.set_cons_succ, i64_w, i32_w]
           rfl
          refine pure_ (i := 3) (N := some 39) (v := ?_) (a' := ?_) #[false, true, true, true, false, false, false, false, false, false, false, false, false] rfl rfl (any_of HT_.out (by kernel_rfl)) (fun _ _ _ h => h) (Or.inl ⟨by rfl, ?_⟩) ?_ ?_
          rotate_left
          ·intro w'
           go_simp
           with_reducible rfl
          rotate_left
          ·simp only [Act.put, List.setIfInBounds_toArray, List.set_cons_zero, List.set_cons_succ, i64_w, i32_w]
           rfl
          refine pure_ (i := 5) (N := some 41) (v := ?_) (a' := ?_) #[false, true, true, true, false, true, false, false, false, false, false, false, false] rfl rfl (any_of HT_.out (by kernel_rfl)) (fun _ _ _ h => h) (Or.inl ⟨by rfl, ?_⟩) ?_ ?_
          rotate_left
          ·intro w'
           go_simp
           with_reducible rfl
          rotate_left
          ·simp only [Act.put, List.setIfInBounds_toArray, List.set_cons_zero, List.set_cons_succ, i64_w, i32_w]
           rfl
          refine pure_ (i := 8) (N := some 44) (v := ?_) (a' := ?_) #[false, true, true, true, false, true, false, false, true, false, false, false, false] rfl rfl (any_of HT_.out (by kernel_rfl)) (fun _ _ _ h => h) (Or.inl ⟨by rfl, ?_⟩) ?_ ?_
          rotate_left
          ·intro w'
           go_simp
           with_reducible rfl
          rotate_left
          ·simp only [Act.put, List.setIfInBounds_toArray, List.set_cons_zero, List.set_cons_succ, i64_w, i32_w]
           rfl
          refine pure_ (i := 9) (N := some 45) (v := ?_) (a' := ?_) #[false, true, true, true, false, true, false, false, true, true, false, false, false] rfl rfl (any_of HT_.out (by kernel_rfl)) (fun _ _ _ h => h) (Or.inl ⟨by rfl, ?_⟩) ?_ ?_
          rotate_left
          ·intro w'
           go_simp
           with_reducible rfl
          rotate_left
          ·simp only [Act.put, List.setIfInBounds_toArray, List.set_cons_zero, List.set_cons_succ, i64_w, i32_w]
           rfl
          refine pure_ (i := 10) (N := some 46) (v := ?_) (a' := ?_) #[false, true, true, true, false, true, false, false, true, true, true, false, false] rfl rfl (any_of HT_.out (by kernel_rfl)) (fun _ _ _ h => h) (Or.inl ⟨by rfl, ?_⟩) ?_ ?_
          rotate_left
          ·intro w'
           go_simp
           with_reducible rfl
          rotate_left
          ·simp only [Act.put, List.setIfInBounds_toArray, List.set_cons_zero, List.set_cons_succ, i64_w, i32_w]
           rfl
          refine join_ (σ := Value × Value × Value) 3 #[true, true, true, true, true, true, true, false, true, true, true, false, false] (fun s_ => [(36, s_.1), (40, s_.2.1), (42, s_.2.2)]) (fun s_ w' => (Kd.R (Kd.int .i64) 2 w' w0.heap.size (fun k_ => (P0_ k_ ∨ w.heap.size ≤ k_) ∧ some k_ ≠ (s_.2.2 : Value).ownBlock ∧ some k_ ≠ (.slice Ao37 l0.length co37 : Value).ownBlock) s_.2.1 y220) ∧ (Kd.R (Kd.int .i64) 2 w' w0.heap.size (fun k_ => (P0_ k_ ∨ w.heap.size ≤ k_) ∧ some k_ ≠ (s_.2.1 : Value).ownBlock ∧ some k_ ≠ (.slice Ao37 l0.length co37 : Value).ownBlock) s_.2.2 y223) ∧ (Kd.R (Kd.int .i64) 2 w' w0.heap.size (fun k_ => (P0_ k_ ∨ w.heap.size ≤ k_) ∧ some k_ ≠ (s_.2.1 : Value).ownBlock ∧ some k_ ≠ (s_.2.2 : Value).ownBlock) (.slice Ao37 l0.length co37) l0) ∧ (Kept w w' (fun k_ => P0_ k_)) ∧ (Below w0.heap.size w0 w')) ?_ ?_
          rotate_left
          ·intro hCont
           refine two_ (i := 0) (j := 6) (Ni := some 36) (Nj := some 42) #[true, true, true, true, false, true, false, false, true, true, true, false, false] #[false, true, true, true, false, true, true, false, true, true, true, false, false] rfl rfl rfl rfl (two_of HT_.out (by kernel_rfl)) (by decide) (by decide) (fun K hK => ?_) (fun K hK => ?_)
           ·skip
            refine Kd.R_lit_step (Kd.int .i64) _ 2 ?hg (N := 36) ?hd (xs := ([] : List Int)) (inner := []) (ok := fun _ => True) (okp := fun _ => True) ?hr ?hp (fun _ hk => hk) trivial (Below.refl _ _) (Nat.le_refl _) (by simp) ?_; (case hd => rfl); (case hg => rfl); (case hr => first | (go_simp; done) | (go_simp; rfl)); (case hp => exact (Reps.none _ _))
            intro v214 w40 ho41 hb hg_ hnew_
            clear hg_ hnew_
            (first | rw [← Ny213.out] at ho41 | (simp only [Int.reduceToNat] at ho41; rw [← Ny213.out] at ho41))
            have n0_ := Aside0.mk (Kd.R_elder' HO_0.out (Kd.R_base ho41) hb)
            have n1_ := Aside0.mk (Kd.R_lower (Kd.R_new' (Kd.R_newM (M := fun k_ => (P0_ k_ ∨ w.heap.size ≤ k_)) ho41 (HK.out.1) (fun k_ h_ => .inr h_)) (Kd.R_lt HO_0.out)) (below_size HB.out))
            have n2_ := Aside0.mk (Kd.C_below HR219.out hb)
            have n3_ := Aside0.mk (Kept.below (S := (fun k_ => P0_ k_)) HK.out hb)
            have n4_ := Aside0.mk (below_step HB.out hb)
            clear HO_0
            clear HR219
            clear HK
            clear HB
            have HO_0 := n0_
            have HO215 := n1_
            have HR219 := n2_
            have HK := n3_
            have HB := n4_
            clear n0_ n1_ n2_ n3_ n4_
            clear hb ho41
            refine hK.out _ _ trivial (fun hHeld => ?_)
            clear hK K
            refine norm_ (a' := ?_) ?_ ?_
            rotate_left
            ·show Act.put _ (some 36) _ = _
             simp only [Act.put, List.setIfInBounds_toArray, List.set_cons_zero, List.set_cons_succ, i64_w, i32_w]
             rfl
            refine two_ (i := 4) (j := 6) (Ni := some 40) (Nj := some 42) #[true, true, true, true, true, true, false, false, true, true, true, false, false] #[true, true, true, true, false, true, true, false, true, true, true, false, false] rfl rfl rfl rfl (two_of HT_.out (by kernel_rfl)) (by decide) (by decide) (fun K hK => ?_) (fun K hK => ?_)
            ·skip
             refine Kd.R_append_rows_step (Kd.int .i64) (w0 := w0) w0.heap.size (by rfl) (.tmp 36) (.tmp 39) 34 2 (.int .i64 0) 8 rfl Try.underlying34 info2 rfl (by decide) (by omega) v214 y213 y216 _ _ _ (fun k_ => (P0_ k_ ∨ w.heap.size ≤ k_) ∧ some k_ ≠ (.slice Ao37 l0.length co37 : Value).ownBlock) (fun _ => False) rfl rfl ?aO ?aR (fun _ _ h => h) (fun _ h => h.elim) ?aF ?aB ?aS ?aL ?_
             (case aR => exact HR219.out)
             (case aB => exact HB.out)
             (case aF => exact (fun k_ hk => ⟨(.inr (Nat.le_trans (HK.out.1) hk)), Kd.fresh' (Kd.R_lt HO_0.out) k_ hk⟩))
             (case aO => exact (by exact Kd.R_mono HO215.out (fun _ hk => ⟨hk.1.1, hk.2⟩)))
             (case aS => exact (below_size HB.out))
             (case aL => have := LMc32.out; omega)
             intro v221 w42 ho hb hg hat
             rw [← Ny220.out] at ho
             have n0_ := Aside0.mk (Kd.R_after (ok := (fun k_ => (P0_ k_ ∨ w.heap.size ≤ k_))) HO_0.out hg hat)
             have n1_ := Aside0.mk (hb)
             have n2_ := Aside0.mk (Kept.of_grown (S := (fun k_ => P0_ k_)) hg HK.out (fun k_ e_ => (HO215.out.1 k_ e_).1.1))
             have n3_ := Aside0.mk ((show Kd.C (Kd.int .i64) w42 Ao37 y216.length y216 from by rw [Ny216.out]; exact Kd.C_take (m := (x5_1 : Int).toNat) ((Kd.R_reads' (Kd.R_after (ok := (fun k_ => (P0_ k_ ∨ w.heap.size ≤ k_))) HO_0.out hg hat)).2.2) KL39.out))
             have n4_ := Aside0.mk (ho)
             clear HO_0
             clear HB
             clear HK
             clear HR219
             clear HO215
             have HO_0 := n0_
             have HB := n1_
             have HK := n2_
             have HR219 := n3_
             have HO222 := n4_
             clear n0_ n1_ n2_ n3_ n4_
             clear ho hb hg hat
             refine hK.out _ _ trivial (fun hHeld => ?_)
             clear hK K
             refine norm_ (a' := ?_) ?_ ?_
             rotate_left
             ·show Act.put _ (some 40) _ = _
              simp only [Act.put, List.setIfInBounds_toArray, List.set_cons_zero, List.set_cons_succ, i64_w, i32_w]
              rfl
             refine one_ (i := 6) (N := some 42) #[true, true, true, true, true, true, true, false, true, true, true, false, false] rfl rfl (one_of HT_.out (by kernel_rfl)) (by decide) (fun K hK => ?_)
             refine Kd.R_lit_step (Kd.int .i64) _ 2 ?hg (N := 42) ?hd (xs := ([a1] : List Int)) (inner := [.int .i64 a1]) (ok := fun _ => True) (okp := fun _ => True) ?hr ?hp (fun _ hk => hk) trivial (Below.refl _ _) (Nat.le_refl _) (by simp) ?_; (case hd => rfl); (case hg => rfl); (case hr => first | (go_simp; done) | (go_simp; rfl)); (case hp => exact (Reps.one (show Kd.M (Kd.int .i64) _ _ _ a1 [.int .i64 a1] from rfl) (Reps.none _ _)))
             intro v224 w43 ho44 hb hg_ hnew_
             clear hg_ hnew_
             (first | rw [← Ny223.out] at ho44 | (simp only [Int.reduceToNat] at ho44; rw [← Ny223.out] at ho44))
             have n0_ := Aside0.mk (Kd.R_elder' HO_0.out (Kd.R_base ho44) hb)
             have n1_ := Aside0.mk (Kd.R_elder' HO222.out (Kd.R_base ho44) hb)
             have n2_ := Aside0.mk (Kd.R_lower (Kd.R_new' (Kd.R_new' (Kd.R_newM (M := fun k_ => (P0_ k_ ∨ w.heap.size ≤ k_)) ho44 (HK.out.1) (fun k_ h_ => .inr h_)) (Kd.R_lt HO_0.out)) (Kd.R_lt HO222.out)) (below_size HB.out))
             have n3_ := Aside0.mk (Kd.C_below HR219.out hb)
             have n4_ := Aside0.mk (Kept.below (S := (fun k_ => P0_ k_)) HK.out hb)
             have n5_ := Aside0.mk (below_step HB.out hb)
             clear HO_0
             clear HO222
             clear HR219
             clear HK
             clear HB
             have HO_0 := n0_
             have HO222 := n1_
             have HO225 := n2_
             have HR219 := n3_
             have HK := n4_
             have HB := n5_
             clear n0_ n1_ n2_ n3_ n4_ n5_
             clear hb ho44
             refine hK.out _ _ trivial (fun hHeld => ?_)
             clear hK K
             refine norm_ (a' := ?_) ?_ ?_
             rotate_left
             ·show Act.put _ (some 42) _ = _
              simp only [Act.put, List.setIfInBounds_toArray, List.set_cons_zero, List.set_cons_succ, i64_w, i32_w]
              rfl
             exact norm_ (by simp only [putAll, Act.put, List.setIfInBounds_toArray, List.set_cons_zero, List.set_cons_succ]) (hCont (v214, v221, v224) _ ⟨(by exact Kd.R_mono HO222.out (fun _ hk => ⟨hk.1.1, ⟨hk.2, hk.1.2⟩⟩)), (by exact Kd.R_mono HO225.out (fun _ hk => ⟨hk.1.1.1, ⟨hk.2, hk.1.2⟩⟩)), (by exact Kd.R_mono HO_0.out (fun _ hk => ⟨hk.1.1, ⟨hk.1.2, hk.2⟩⟩)), HK.out, HB.out⟩)
            ·skip
             refine Kd.R_lit_step (Kd.int .i64) _ 2 ?hg (N := 42) ?hd (xs := ([a1] : List Int)) (inner := [.int .i64 a1]) (ok := fun _ => True) (okp := fun _ => True) ?hr ?hp (fun _ hk => hk) trivial (Below.refl _ _) (Nat.le_refl _) (by simp) ?_; (case hd => rfl); (case hg => rfl); (case hr => first | (go_simp; done) | (go_simp; rfl)); (case hp => exact (Reps.one (show Kd.M (Kd.int .i64) _ _ _ a1 [.int .i64 a1] from rfl) (Reps.none _ _)))
             intro v224 w42 ho43 hb hg_ hnew_
             clear hg_ hnew_
             (first | rw [← Ny223.out] at ho43 | (simp only [Int.reduceToNat] at ho43; rw [← Ny223.out] at ho43))
             have n0_ := Aside0.mk (Kd.R_elder' HO_0.out (Kd.R_base ho43) hb)
             have n1_ := Aside0.mk (Kd.R_elder' HO215.out (Kd.R_base ho43) hb)
             have n2_ := Aside0.mk (Kd.R_lower (Kd.R_new' (Kd.R_new' (Kd.R_newM (M := fun k_ => (P0_ k_ ∨ w.heap.size ≤ k_)) ho43 (HK.out.1) (fun k_ h_ => .inr h_)) (Kd.R_lt HO_0.out)) (Kd.R_lt HO215.out)) (below_size HB.out))
             have n3_ := Aside0.mk (Kd.C_below HR219.out hb)
             have n4_ := Aside0.mk (Kept.below (S := (fun k_ => P0_ k_)) HK.out hb)
             have n5_ := Aside0.mk (below_step HB.out hb)
             clear HO_0
             clear HO215
             clear HR219
             clear HK
             clear HB
             have HO_0 := n0_
             have HO215 := n1_
             have HO225 := n2_
             have HR219 := n3_
             have HK := n4_
             have HB := n5_
             clear n0_ n1_ n2_ n3_ n4_ n5_
             clear hb ho43
             refine hK.out _ _ trivial (fun hHeld => ?_)
             clear hK K
             refine norm_ (a' := ?_) ?_ ?_
             rotate_left
             ·show Act.put _ (some 42) _ = _
              simp only [Act.put, List.setIfInBounds_toArray, List.set_cons_zero, List.set_cons_succ, i64_w, i32_w]
              rfl
             refine one_ (i := 4) (N := some 40) #[true, true, true, true, true, true, true, false, true, true, true, false, false] rfl rfl (one_of HT_.out (by kernel_rfl)) (by decide) (fun K hK => ?_)
             refine Kd.R_append_rows_step (Kd.int .i64) (w0 := w0) w0.heap.size (by rfl) (.tmp 36) (.tmp 39) 34 2 (.int .i64 0) 8 rfl Try.underlying34 info2 rfl (by decide) (by omega) v214 y213 y216 _ _ _ (fun k_ => (P0_ k_ ∨ w.heap.size ≤ k_) ∧ some k_ ≠ (.slice Ao37 l0.length co37 : Value).ownBlock ∧ some k_ ≠ (v224 : Value).ownBlock) (fun _ => False) rfl rfl ?aO ?aR (fun _ _ h => h) (fun _ h => h.elim) ?aF ?aB ?aS ?aL ?_
             (case aR => exact HR219.out)
             (case aB => exact HB.out)
             (case aF => exact (fun k_ hk => ⟨(.inr (Nat.le_trans (HK.out.1) hk)), Kd.fresh' (Kd.R_lt HO_0.out) k_ hk, Kd.fresh' (Kd.R_lt HO225.out) k_ hk⟩))
             (case aO => exact (by exact Kd.R_mono HO215.out (fun _ hk => ⟨hk.1.1.1, ⟨hk.1.2, hk.2⟩⟩)))
             (case aS => exact (below_size HB.out))
             (case aL => have := LMc32.out; omega)
             intro v221 w44 ho hb hg hat
             rw [← Ny220.out] at ho
             have n0_ := Aside0.mk (Kd.R_after (ok := (fun k_ => (P0_ k_ ∨ w.heap.size ≤ k_) ∧ some k_ ≠ (v224 : Value).ownBlock)) (by exact Kd.R_mono HO_0.out (fun _ hk => ⟨⟨hk.1.1, hk.2⟩, hk.1.2⟩)) hg hat)
             have n1_ := Aside0.mk (Kd.R_after (ok := (fun k_ => (P0_ k_ ∨ w.heap.size ≤ k_) ∧ some k_ ≠ (.slice Ao37 l0.length co37 : Value).ownBlock)) (by exact Kd.R_mono HO225.out (fun _ hk => ⟨⟨hk.1.1.1, hk.1.2⟩, hk.2⟩)) hg hat)
             have n2_ := Aside0.mk (hb)
             have n3_ := Aside0.mk (Kept.of_grown (S := (fun k_ => P0_ k_)) hg HK.out (fun k_ e_ => (HO215.out.1 k_ e_).1.1.1))
             have n4_ := Aside0.mk ((show Kd.C (Kd.int .i64) w44 Ao37 y216.length y216 from by rw [Ny216.out]; exact Kd.C_take (m := (x5_1 : Int).toNat) ((Kd.R_reads' (Kd.R_after (ok := (fun k_ => (P0_ k_ ∨ w.heap.size ≤ k_) ∧ some k_ ≠ (v224 : Value).ownBlock)) (by exact Kd.R_mono HO_0.out (fun _ hk => ⟨⟨hk.1.1, hk.2⟩, hk.1.2⟩)) hg hat)).2.2) KL39.out))
             have n5_ := Aside0.mk (ho)
             clear HO_0
             clear HO225
             clear HB
             clear HK
             clear HR219
             clear HO215
             have HO_0 := n0_
             have HO225 := n1_
             have HB := n2_
             have HK := n3_
             have HR219 := n4_
             have HO222 := n5_
             clear n0_ n1_ n2_ n3_ n4_ n5_
             clear ho hb hg hat
             refine hK.out _ _ trivial (fun hHeld => ?_)
             clear hK K
             refine norm_ (a' := ?_) ?_ ?_
             rotate_left
             ·show Act.put _ (some 40) _ = _
              simp only [Act.put, List.setIfInBounds_toArray, List.set_cons_zero, List.set_cons_succ, i64_w, i32_w]
              rfl
             exact norm_ (by simp only [putAll, Act.put, List.setIfInBounds_toArray, List.set_cons_zero, List.set_cons_succ]) (hCont (v214, v221, v224) _ ⟨(by exact Kd.R_mono HO222.out (fun _ hk => ⟨hk.1, ⟨hk.2.2, hk.2.1⟩⟩)), (by exact Kd.R_mono HO225.out (fun _ hk => ⟨hk.1.1, ⟨hk.2, hk.1.2⟩⟩)), (by exact Kd.R_mono HO_0.out (fun _ hk => ⟨hk.1.1, ⟨hk.2, hk.1.2⟩⟩)), HK.out, HB.out⟩)
           ·skip
            refine Kd.R_lit_step (Kd.int .i64) _ 2 ?hg (N := 42) ?hd (xs := ([a1] : List Int)) (inner := [.int .i64 a1]) (ok := fun _ => True) (okp := fun _ => True) ?hr ?hp (fun _ hk => hk) trivial (Below.refl _ _) (Nat.le_refl _) (by simp) ?_; (case hd => rfl); (case hg => rfl); (case hr => first | (go_simp; done) | (go_simp; rfl)); (case hp => exact (Reps.one (show Kd.M (Kd.int .i64) _ _ _ a1 [.int .i64 a1] from rfl) (Reps.none _ _)))
            intro v224 w40 ho41 hb hg_ hnew_
            clear hg_ hnew_
            (first | rw [← Ny223.out] at ho41 | (simp only [Int.reduceToNat] at ho41; rw [← Ny223.out] at ho41))
            have n0_ := Aside0.mk (Kd.R_elder' HO_0.out (Kd.R_base ho41) hb)
            have n1_ := Aside0.mk (Kd.R_lower (Kd.R_new' (Kd.R_newM (M := fun k_ => (P0_ k_ ∨ w.heap.size ≤ k_)) ho41 (HK.out.1) (fun k_ h_ => .inr h_)) (Kd.R_lt HO_0.out)) (below_size HB.out))
            have n2_ := Aside0.mk (Kd.C_below HR219.out hb)
            have n3_ := Aside0.mk (Kept.below (S := (fun k_ => P0_ k_)) HK.out hb)
            have n4_ := Aside0.mk (below_step HB.out hb)
            clear HO_0
            clear HR219
            clear HK
            clear HB
            have HO_0 := n0_
            have HO225 := n1_
            have HR219 := n2_
            have HK := n3_
            have HB := n4_
            clear n0_ n1_ n2_ n3_ n4_
            clear hb ho41
            refine hK.out _ _ trivial (fun hHeld => ?_)
            clear hK K
            refine norm_ (a' := ?_) ?_ ?_
            rotate_left
            ·show Act.put _ (some 42) _ = _
             simp only [Act.put, List.setIfInBounds_toArray, List.set_cons_zero, List.set_cons_succ, i64_w, i32_w]
             rfl
            refine one_ (i := 0) (N := some 36) #[true, true, true, true, false, true, true, false, true, true, true, false, false] rfl rfl (one_of HT_.out (by kernel_rfl)) (by decide) (fun K hK => ?_)
            refine Kd.R_lit_step (Kd.int .i64) _ 2 ?hg (N := 36) ?hd (xs := ([] : List Int)) (inner := []) (ok := fun _ => True) (okp := fun _ => True) ?hr ?hp (fun _ hk => hk) trivial (Below.refl _ _) (Nat.le_refl _) (by simp) ?_; (case hd => rfl); (case hg => rfl); (case hr => first | (go_simp; done) | (go_simp; rfl)); (case hp => exact (Reps.none _ _))
            intro v214 w42 ho43 hb hg_ hnew_
            clear hg_ hnew_
            (first | rw [← Ny213.out] at ho43 | (simp only [Int.reduceToNat] at ho43; rw [← Ny213.out] at ho43))
            have n0_ := Aside0.mk (Kd.R_elder' HO_0.out (Kd.R_base ho43) hb)
            have n1_ := Aside0.mk (Kd.R_elder' HO225.out (Kd.R_base ho43) hb)
            have n2_ := Aside0.mk (Kd.R_lower (Kd.R_new' (Kd.R_new' (Kd.R_newM (M := fun k_ => (P0_ k_ ∨ w.heap.size ≤ k_)) ho43 (HK.out.1) (fun k_ h_ => .inr h_)) (Kd.R_lt HO_0.out)) (Kd.R_lt HO225.out)) (below_size HB.out))
            have n3_ := Aside0.mk (Kd.C_below HR219.out hb)
            have n4_ := Aside0.mk (Kept.below (S := (fun k_ => P0_ k_)) HK.out hb)
            have n5_ := Aside0.mk (below_step HB.out hb)
            clear HO_0
            clear HO225
            clear HR219
            clear HK
            clear HB
            have HO_0 := n0_
            have HO225 := n1_
            have HO215 := n2_
            have HR219 := n3_
            have HK := n4_
            have HB := n5_
            clear n0_ n1_ n2_ n3_ n4_ n5_
            clear hb ho43
            refine hK.out _ _ trivial (fun hHeld => ?_)
            clear hK K
            refine norm_ (a' := ?_) ?_ ?_
            rotate_left
            ·show Act.put _ (some 36) _ = _
             simp only [Act.put, List.setIfInBounds_toArray, List.set_cons_zero, List.set_cons_succ, i64_w, i32_w]
             rfl
            refine one_ (i := 4) (N := some 40) #[true, true, true, true, true, true, true, false, true, true, true, false, false] rfl rfl (one_of HT_.out (by kernel_rfl)) (by decide) (fun K hK => ?_)
            refine Kd.R_append_rows_step (Kd.int .i64) (w0 := w0) w0.heap.size (by rfl) (.tmp 36) (.tmp 39) 34 2 (.int .i64 0) 8 rfl Try.underlying34 info2 rfl (by decide) (by omega) v214 y213 y216 _ _ _ (fun k_ => (P0_ k_ ∨ w.heap.size ≤ k_) ∧ some k_ ≠ (.slice Ao37 l0.length co37 : Value).ownBlock ∧ some k_ ≠ (v224 : Value).ownBlock) (fun _ => False) rfl rfl ?aO ?aR (fun _ _ h => h) (fun _ h => h.elim) ?aF ?aB ?aS ?aL ?_
            (case aR => exact HR219.out)
            (case aB => exact HB.out)
            (case aF => exact (fun k_ hk => ⟨(.inr (Nat.le_trans (HK.out.1) hk)), Kd.fresh' (Kd.R_lt HO_0.out) k_ hk, Kd.fresh' (Kd.R_lt HO225.out) k_ hk⟩))
            (case aO => exact (by exact Kd.R_mono HO215.out (fun _ hk => ⟨hk.1.1.1, ⟨hk.1.2, hk.2⟩⟩)))
            (case aS => exact (below_size HB.out))
            (case aL => have := LMc32.out; omega)
            intro v221 w44 ho hb hg hat
            rw [← Ny220.out] at ho
            have n0_ := Aside0.mk (Kd.R_after (ok := (fun k_ => (P0_ k_ ∨ w.heap.size ≤ k_) ∧ some k_ ≠ (v224 : Value).ownBlock)) HO_0.out hg hat)
            have n1_ := Aside0.mk (Kd.R_after (ok := (fun k_ => (P0_ k_ ∨ w.heap.size ≤ k_) ∧ some k_ ≠ (.slice Ao37 l0.length co37 : Value).ownBlock)) (by exact Kd.R_mono HO225.out (fun _ hk => ⟨⟨hk.1.1.1, hk.1.2⟩, hk.2⟩)) hg hat)
            have n2_ := Aside0.mk (hb)
            have n3_ := Aside0.mk (Kept.of_grown (S := (fun k_ => P0_ k_)) hg HK.out (fun k_ e_ => (HO215.out.1 k_ e_).1.1.1))
            have n4_ := Aside0.mk ((show Kd.C (Kd.int .i64) w44 Ao37 y216.length y216 from by rw [Ny216.out]; exact Kd.C_take (m := (x5_1 : Int).toNat) ((Kd.R_reads' (Kd.R_after (ok := (fun k_ => (P0_ k_ ∨ w.heap.size ≤ k_) ∧ some k_ ≠ (v224 : Value).ownBlock)) HO_0.out hg hat)).2.2) KL39.out))
            have n5_ := Aside0.mk (ho)
            clear HO_0
            clear HO225
            clear HB
            clear HK
            clear HR219
            clear HO215
            have HO_0 := n0_
            have HO225 := n1_
            have HB := n2_
            have HK := n3_
            have HR219 := n4_
            have HO222 := n5_
            clear n0_ n1_ n2_ n3_ n4_ n5_
            clear ho hb hg hat
            refine hK.out _ _ trivial (fun hHeld => ?_)
            clear hK K
            refine norm_ (a' := ?_) ?_ ?_
            rotate_left
            ·show Act.put _ (some 40) _ = _
             simp only [Act.put, List.setIfInBounds_toArray, List.set_cons_zero, List.set_cons_succ, i64_w, i32_w]
             rfl
            exact norm_ (by simp only [putAll, Act.put, List.setIfInBounds_toArray, List.set_cons_zero, List.set_cons_succ]) (hCont (v214, v221, v224) _ ⟨(by exact Kd.R_mono HO222.out (fun _ hk => ⟨hk.1, ⟨hk.2.2, hk.2.1⟩⟩)), (by exact Kd.R_mono HO225.out (fun _ hk => ⟨hk.1.1, ⟨hk.2, hk.1.2⟩⟩)), (by exact Kd.R_mono HO_0.out (fun _ hk => ⟨hk.1.1, ⟨hk.2, hk.1.2⟩⟩)), HK.out, HB.out⟩)
          rintro ⟨v214, v221, v224⟩ w45 ⟨h0_, h1_, h2_, h3_, h4_⟩
          have n0_ : Aside0 (Kd.R (Kd.int .i64) 2 w45 w0.heap.size (fun k_ => (P0_ k_ ∨ w.heap.size ≤ k_) ∧ some k_ ≠ (v224 : Value).ownBlock ∧ some k_ ≠ (.slice Ao37 l0.length co37 : Value).ownBlock) v221 y220) := ⟨h0_⟩
          have n1_ : Aside0 (Kd.R (Kd.int .i64) 2 w45 w0.heap.size (fun k_ => (P0_ k_ ∨ w.heap.size ≤ k_) ∧ some k_ ≠ (v221 : Value).ownBlock ∧ some k_ ≠ (.slice Ao37 l0.length co37 : Value).ownBlock) v224 y223) := ⟨h1_⟩
          have n2_ : Aside0 (Kd.R (Kd.int .i64) 2 w45 w0.heap.size (fun k_ => (P0_ k_ ∨ w.heap.size ≤ k_) ∧ some k_ ≠ (v221 : Value).ownBlock ∧ some k_ ≠ (v224 : Value).ownBlock) (.slice Ao37 l0.length co37) l0) := ⟨h2_⟩
          have n3_ : Aside0 (Kept w w45 (fun k_ => P0_ k_)) := ⟨h3_⟩
          have n4_ : Aside0 (Below w0.heap.size w0 w45) := ⟨h4_⟩
          clear HO_0
          clear HK
          clear HB
          clear h0_ h1_ h2_ h3_ h4_
          have HO222 := n0_
          have HO225 := n1_
          have HO_0 := n2_
          have HK := n3_
          have HB := n4_
          clear n0_ n1_ n2_ n3_ n4_
          have hHeld := trivial
          obtain ⟨Ao47, co47, eo47⟩ := Kd.R_slice HO225.out
          (first | subst eo47 | (injection eo47 with f1_ f2_ f3_; have f4_ := f1_.symm; have f5_ := f3_.symm; clear f1_ f2_ f3_; subst f4_; subst f5_))
          refine norm_ (a' := ?_) ?_ ?_
          rotate_left
          ·simp only [putAll, Act.put, List.setIfInBounds_toArray, List.set_cons_zero, List.set_cons_succ]
           rfl
          refine one_ (i := 7) (N := some 43) #[true, true, true, true, true, true, true, true, true, true, true, false, false] rfl rfl (one_of HT_.out (by kernel_rfl)) (by decide) (fun K hK => ?_)
          refine Kd.R_append_rows_step (Kd.int .i64) (w0 := w0) w0.heap.size (by rfl) (.tmp 40) (.tmp 42) 34 2 (.int .i64 0) 8 rfl Try.underlying34 info2 rfl (by decide) (by omega) v221 y220 y223 _ _ _ (fun k_ => (P0_ k_ ∨ w.heap.size ≤ k_) ∧ some k_ ≠ (.slice Ao37 l0.length co37 : Value).ownBlock ∧ some k_ ≠ (.slice Ao47 y223.length co47 : Value).ownBlock) (fun _ => False) rfl rfl ?aO ?aR (fun _ _ h => h) (fun _ h => h.elim) ?aF ?aB ?aS ?aL ?_
          (case aR => repeat (first | exact (Kd.R_reads' HO225.out).2.2 | (with_reducible refine Kd.C_alloc ?_ _) | (with_reducible refine Kd.C_drewN ?_ _) | (with_reducible refine Kd.C_drew ?_)))
          (case aB => exact HB.out)
          (case aF => exact (fun k_ hk => ⟨(.inr (Nat.le_trans (HK.out.1) hk)), Kd.fresh' (Kd.R_lt HO_0.out) k_ hk, Kd.fresh' (Kd.R_lt HO225.out) k_ hk⟩))
          (case aO => exact (by exact Kd.R_mono HO222.out (fun _ hk => ⟨hk.1, ⟨hk.2.2, hk.2.1⟩⟩)))
          (case aS => exact (below_size HB.out))
          (case aL => have := LMc33.out; omega)
          intro v227 w46 ho hb hg hat
          rw [← Ny226.out] at ho
          have n0_ := Aside0.mk (Kd.R_after (ok := (fun k_ => (P0_ k_ ∨ w.heap.size ≤ k_) ∧ some k_ ≠ (.slice Ao47 y223.length co47 : Value).ownBlock)) (by exact Kd.R_mono HO_0.out (fun _ hk => ⟨⟨hk.1, hk.2.2⟩, hk.2.1⟩)) hg hat)
          have n1_ := Aside0.mk (Kd.R_after (ok := (fun k_ => (P0_ k_ ∨ w.heap.size ≤ k_) ∧ some k_ ≠ (.slice Ao37 l0.length co37 : Value).ownBlock)) (by exact Kd.R_mono HO225.out (fun _ hk => ⟨⟨hk.1, hk.2.2⟩, hk.2.1⟩)) hg hat)
          have n2_ := Aside0.mk (hb)
          have n3_ := Aside0.mk (Kept.of_grown (S := (fun k_ => P0_ k_)) hg HK.out (fun k_ e_ => (HO222.out.1 k_ e_).1))
          have n4_ := Aside0.mk (ho)
          clear HO_0
          clear HO225
          clear HB
          clear HK
          clear HO222
          have HO_0 := n0_
          have HO225 := n1_
          have HB := n2_
          have HK := n3_
          have HO228 := n4_
          clear n0_ n1_ n2_ n3_ n4_
          clear ho hb hg hat
          refine hK.out _ _ trivial (fun hHeld => ?_)
          clear hK K
          refine norm_ (a' := ?_) ?_ ?_
          rotate_left
          ·show Act.put _ (some 43) _ = _
           simp only [Act.put, List.setIfInBounds_toArray, List.set_cons_zero, List.set_cons_succ, i64_w, i32_w]
           rfl
          have hroom48 : l0.length ≤ co37 := (Kd.R_reads' HO_0.out).2.1
          have hC48 : Kd.C (Kd.int .i64) _ Ao37 l0.length l0 := (Kd.R_reads' HO_0.out).2.2
          have hr48 := Kd.C_drop (m := (x5_1 : Int).toNat) (c := co37) hC48 KL48.out hroom48
          rw [show (l0).drop (x5_1 : Int).toNat = y229 from Ny229.out.symm] at hr48
          replace hr48 : Kd.C (Kd.int .i64) _ A48 y229.length y229 := (by rw [KA48.out]; exact hr48)
          have HR232 := Aside0.mk hr48
          have HC232 := Aside0.mk (show y229.length ≤ c48 from by rw [KY48.out, KC48.out]; exact Nat.sub_le_sub_right hroom48 _)
          clear hr48 hC48 hroom48
          refine one_ (i := 11) (N := some 47) #[true, true, true, true, true, true, true, true, true, true, true, true, false] rfl rfl (one_of HT_.out (by kernel_rfl)) (by decide) (fun K hK => ?_)
          refine Kd.R_append_rows_step (Kd.int .i64) (w0 := w0) w0.heap.size (by rfl) (.tmp 43) (.tmp 46) 34 2 (.int .i64 0) 8 rfl Try.underlying34 info2 rfl (by decide) (by omega) v227 y226 y229 _ _ _ (fun k_ => (P0_ k_ ∨ w.heap.size ≤ k_) ∧ some k_ ≠ (.slice Ao37 l0.length co37 : Value).ownBlock ∧ some k_ ≠ (.slice Ao47 y223.length co47 : Value).ownBlock) (fun _ => False) rfl rfl ?aO ?aR (fun _ _ h => h) (fun _ h => h.elim) ?aF ?aB ?aS ?aL ?_
          (case aR => exact HR232.out)
          (case aB => exact HB.out)
          (case aF => exact (fun k_ hk => ⟨(.inr (Nat.le_trans (HK.out.1) hk)), Kd.fresh' (Kd.R_lt HO_0.out) k_ hk, Kd.fresh' (Kd.R_lt HO225.out) k_ hk⟩))
          (case aO => exact HO228.out)
          (case aS => exact (below_size HB.out))
          (case aL => have := LMc36.out; omega)
          intro v234 w49 ho hb hg hat
          rw [← Ny233.out] at ho
          have n0_ := Aside0.mk (Kd.R_after (ok := (fun k_ => (P0_ k_ ∨ w.heap.size ≤ k_) ∧ some k_ ≠ (.slice Ao47 y223.length co47 : Value).ownBlock)) HO_0.out hg hat)
          have n1_ := Aside0.mk (Kd.R_after (ok := (fun k_ => (P0_ k_ ∨ w.heap.size ≤ k_) ∧ some k_ ≠ (.slice Ao37 l0.length co37 : Value).ownBlock)) HO225.out hg hat)
          have n2_ := Aside0.mk (hb)
          have n3_ := Aside0.mk (Kept.of_grown (S := (fun k_ => P0_ k_)) hg HK.out (fun k_ e_ => (HO228.out.1 k_ e_).1))
          have n4_ := Aside0.mk ((show Kd.C (Kd.int .i64) w49 A48 y229.length y229 from by rw [Ny229.out, KA48.out]; exact Kd.C_drop (m := (x5_1 : Int).toNat) (c := co37) ((Kd.R_reads' (Kd.R_after (ok := (fun k_ => (P0_ k_ ∨ w.heap.size ≤ k_) ∧ some k_ ≠ (.slice Ao47 y223.length co47 : Value).ownBlock)) HO_0.out hg hat)).2.2) KL48.out ((Kd.R_reads' (Kd.R_after (ok := (fun k_ => (P0_ k_ ∨ w.heap.size ≤ k_) ∧ some k_ ≠ (.slice Ao47 y223.length co47 : Value).ownBlock)) HO_0.out hg hat)).2.1)))
          have n5_ := Aside0.mk (ho)
          clear HO_0
          clear HO225
          clear HB
          clear HK
          clear HR232
          clear HO228
          have HO_0 := n0_
          have HO225 := n1_
          have HB := n2_
          have HK := n3_
          have HR232 := n4_
          have HO235 := n5_
          clear n0_ n1_ n2_ n3_ n4_ n5_
          clear ho hb hg hat
          refine hK.out _ _ trivial (fun hHeld => ?_)
          clear hK K
          refine norm_ (a' := ?_) ?_ ?_
          rotate_left
          ·show Act.put _ (some 47) _ = _
           simp only [Act.put, List.setIfInBounds_toArray, List.set_cons_zero, List.set_cons_succ, i64_w, i32_w]
           rfl
          refine pure_ (i := 12) (N := some 4) (v := ?_) (a' := ?_) #[true, true, true, true, true, true, true, true, true, true, true, true, true] rfl rfl (any_of HT_.out (by kernel_rfl)) (fun _ _ _ h => h) (Or.inl ⟨by rfl, ?_⟩) ?_ ?_
          rotate_left
          ·intro w'
           go_simp
           with_reducible rfl
          rotate_left
          ·simp only [Act.put, List.setIfInBounds_toArray, List.set_cons_zero, List.set_cons_succ, i64_w, i32_w]
           rfl
          refine done_ (done_of HT_.out (by kernel_rfl)) ?_
          try go_wp2
          go_ret
          exact ⟨_, by first | rfl | (simp [errW_none, errW_some] <;> rfl) | (simp [*, errW_none, errW_some] <;> rfl), by exact Kd.R_mono HO235.out (fun _ hk => hk.1), by exact HB.out, by exact HK.out⟩
         ·rw [if_neg c36] at H
          exact absurd H (by simp)
        ·rw [if_neg c33] at H
         exact absurd H (by simp)
       ·rw [if_neg c32] at H
        exact absurd H (by simp)
      ·rw [if_neg c31] at H
       exact absurd H (by simp)
     ·rw [if_neg c30] at H
      exact absurd H (by simp)

end Go.Proofs.Ytaeifdmabkjoiaa.PPU
