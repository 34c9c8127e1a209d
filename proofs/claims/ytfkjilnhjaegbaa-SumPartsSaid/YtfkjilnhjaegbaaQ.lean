/- The walk of SumParts. -/
import Derived.Test.YtfkjilnhjaegbaaT2
import Derived.Test.YtfkjilnhjaegbaaM3
namespace Go.Proofs.Ytfkjilnhjaegbaa.PSum
open Go.RowKit Go.Proofs.YtfkjilnhjaegbaaW.PrintWords Go.Proofs.YtfkjilnhjaegbaaW.PrintLast Go.Proofs.YtfkjilnhjaegbaaW.PrintMore
set_option linter.unusedVariables false
set_option linter.unusedSimpArgs false

set_option maxHeartbeats 1000000 in
set_option maxRecDepth 100000 in
theorem parts_out (A0 A1 A2 : Option Addr) (m0 c0 m1 c1 m2 c2 : Nat) (w : World) (b0 : m0 ≤ 140737488351232) (b1 : m1 ≤ 140737488351232) (h : 3000 < m0 + m1 ∨ (m0 + m1 ≤ 3000 ∧ 2000 < m2)) :
    Calls Try.prog 6 #[.slice A0 m0 c0, .slice A1 m1 c1, .slice A2 m2 c2] w fun e w' => e = .returned (.bool true) ∧ Below w.heap.size w w' := by
  rcases h with h | ⟨h, h2⟩
  · have h0 : decide (3000 < (m0 : Int) + (m1 : Int)) = true := decide_eq_true (by omega)
    go_enter Try.func6, Try.ntmps6
    go_wp2_with fail
    go_ret
    exact ⟨rfl, Below.refl _ _⟩
  · have h0 : decide (3000 < (m0 : Int) + (m1 : Int)) = false := decide_eq_false (by omega)
    have h1 : decide (2000 < (m2 : Int)) = true := decide_eq_true (by omega)
    go_enter Try.func6, Try.ntmps6
    go_wp2_with fail
    go_ret
    exact ⟨rfl, Below.refl _ _⟩

structure StP (w w' : World) (A0 A1 A2 A7 A8 : Option Addr) (m0 m1 m2 m7 m8 : Nat) (l0 l1 l2 : List Int) : Prop where
  bl : Below w.heap.size w w'
  r0 : (Kd.int .u8).C w' A0 m0 l0
  r1 : (Kd.int .u8).C w' A1 m1 l1
  r2 : (Kd.int .u8).C w' A2 m2 l2
  r7 : (Kd.int .u8).C w' A7 m7 (l0 ++ l1)
  r8 : (Kd.int .u8).C w' A8 m8 (l0 ++ l1 ++ l2)
theorem StP.step {w w' w3 : World} {A0 A1 A2 A7 A8 : Option Addr} {m0 m1 m2 m7 m8 : Nat} {l0 l1 l2 : List Int} (H : StP w w' A0 A1 A2 A7 A8 m0 m1 m2 m7 m8 l0 l1 l2) (hb : Below w'.heap.size w' w3) : StP w w3 A0 A1 A2 A7 A8 m0 m1 m2 m7 m8 l0 l1 l2 :=
  ⟨below_step H.bl hb, Kd.C_below H.r0 hb, Kd.C_below H.r1 hb, Kd.C_below H.r2 hb, Kd.C_below H.r7 hb, Kd.C_below H.r8 hb⟩
theorem own_C {w : World} {base n : Nat} {v : Value} {xs : List Int} (h : w.ownsRow base 5 1 v n (nums .u8 xs)) : ∃ A c, v = .slice A n c ∧ n ≤ c ∧ (Kd.int .u8).C w A n xs := by
  obtain ⟨A, c, e, hr⟩ := own_reads h
  refine ⟨A, c, e, ?_, Kd.C_of_reads (d := (0 : Int)) (h1 := fun _ => rfl) hr⟩
  rcases h.2 with ⟨h1, h2⟩ | ⟨g, cap, cur, h1, _, _, h2, _⟩
  · omega
  · rw [e] at h1; injection h1 with _ _ h3; omega

theorem Bytes.app {a b : List Int} (ha : Bytes a) (hb : Bytes b) : Bytes (a ++ b) := fun x hx => by
  rcases List.mem_append.1 hx with h | h
  · exact ha x h
  · exact hb x h
theorem sum1_of (K : Nat) (l : List Int) (hl : Bytes l) (hn : l.length ≤ 5000) (hK : 6000 ≤ K) : sum_Sum.f K [l] = some (cs l) := by
  have := sum_ok K 5001 [l] (by intro x hx; simp only [List.mem_singleton] at hx; subst hx; exact ⟨hl, by omega⟩) (by omega) (by simp) (by simp; omega)
  simpa using this
theorem parts_pure (l0 l1 l2 : List Int) (h0 : Bytes l0) (h1 : Bytes l1) (h2 : Bytes l2) (hn : l0.length + l1.length ≤ 3000) (hn2 : l2.length ≤ 2000) :
    ∃ K x1 y1 x2 y2 x3 y3, sum_Sum.f K [l0 ++ l1 ++ l2] = some (cs (l0 ++ l1 ++ l2)) ∧ sum_Sum.f K [l0, l1, l2] = some (cs (l0 ++ l1 ++ l2)) ∧ sum_Running_Take.f K 1 0 l0 = some (x1, y1) ∧ sum_Running_Take.f K x1 y1 l1 = some (x2, y2) ∧ sum_Running_Take.f K x2 y2 l2 = some (x3, y3) ∧ sum_Running_Value.f x3 y3 = some (cs (l0 ++ l1 ++ l2))
      ∧ sum_Sum.f K [l0] = some (cs l0) ∧ sum_Sum.f K [l1] = some (cs l1) ∧ sum_Sum.f K [l2] = some (cs l2) ∧ sum_Sum.f K [l0 ++ l1] = some (cs (l0 ++ l1))
      ∧ sum_Both.f (cs l0) (cs l1) (l1.length : Int) = some (cs (l0 ++ l1)) ∧ sum_Both.f (cs (l0 ++ l1)) (cs l2) (l2.length : Int) = some (cs (l0 ++ l1 ++ l2)) := by
  have u0 : U32 1 ∧ U32 0 := by unfold U32; omega
  have u1 := tk_u32 l0 (1, 0) u0.1 u0.2
  have u2 := tk_u32 l1 (tk (1, 0) l0) u1.1 u1.2
  have e3 : tk (tk (tk (1, 0) l0) l1) l2 = tk (1, 0) (l0 ++ l1 ++ l2) := by rw [tk_append, tk_append]
  refine ⟨6000, (tk (1, 0) l0).1, (tk (1, 0) l0).2, (tk (tk (1, 0) l0) l1).1, (tk (tk (1, 0) l0) l1).2, (tk (1, 0) (l0 ++ l1 ++ l2)).1, (tk (1, 0) (l0 ++ l1 ++ l2)).2, sum1_of _ _ ((h0.app h1).app h2) (by simp; omega) (by omega), ?_, take_ok _ l0 h0 (by omega) 1 0 u0.1 u0.2 (by omega), take_ok _ l1 h1 (by omega) _ _ u1.1 u1.2 (by omega), ?_, rfl, sum1_of _ _ h0 (by omega) (by omega), sum1_of _ _ h1 (by omega) (by omega), sum1_of _ _ h2 (by omega) (by omega), sum1_of _ _ (h0.app h1) (by simp; omega) (by omega), both_ok _ _ (by omega), both_ok _ _ (by omega)⟩
  · have := sum_ok 6000 3001 [l0, l1, l2] (by
      intro x hx
      simp only [List.mem_cons, List.not_mem_nil, or_false] at hx
      rcases hx with rfl | rfl | rfl
      · exact ⟨h0, by omega⟩
      · exact ⟨h1, by omega⟩
      · exact ⟨h2, by omega⟩) (by omega) (by simp) (by simp)
    simpa using this
  · rw [← e3]; exact take_ok _ l2 h2 (by omega) _ _ u2.1 u2.2 (by omega)
theorem sum3_calls (k : Nat) (g : Nat) (A0 A1 A2 : Option Addr) (m0 c0 m1 c1 m2 c2 : Nat) (l0 l1 l2 : List Int) (v : Int) (W : World) (h0 : W.cell? ⟨g, 0, none⟩ = some (.slice A0 m0 c0)) (h1 : W.cell? ⟨g, 1, none⟩ = some (.slice A1 m1 c1)) (h2 : W.cell? ⟨g, 2, none⟩ = some (.slice A2 m2 c2))
    (k0 : m0 ≤ c0) (k1 : m1 ≤ c1) (k2 : m2 ≤ c2) (r0 : (Kd.int .u8).C W A0 m0 l0) (r1 : (Kd.int .u8).C W A1 m1 l1) (r2 : (Kd.int .u8).C W A2 m2 l2) (h : sum_Sum.f k [l0, l1, l2] = some v) :
    Calls Try.prog 9 #[.slice (some ⟨g, 0, none⟩) 3 3] W fun e w' => e = .returned (.int .u32 v) ∧ Below W.heap.size W w' := by
  obtain rfl : l0.length = m0 := r0.1
  obtain rfl : l1.length = m1 := r1.1
  obtain rfl : l2.length = m2 := r2.1
  refine sum_Sum.calls k (some ⟨g, 0, none⟩) 3 [l0, l1, l2] v W (C_slices (by simp) fun j xs hj => ?_) (by simp) h
  match j, hj with
  | 0, hj => simp only [List.getElem?_cons_zero, Option.some.injEq] at hj; subst hj; exact ⟨A0, c0, by rw [add_plain]; exact h0, k0, r0⟩
  | 1, hj => simp only [List.getElem?_cons_succ, List.getElem?_cons_zero, Option.some.injEq] at hj; subst hj; exact ⟨A1, c1, by rw [add_plain]; exact h1, k1, r1⟩
  | 2, hj => simp only [List.getElem?_cons_succ, List.getElem?_cons_zero, Option.some.injEq] at hj; subst hj; exact ⟨A2, c2, by rw [add_plain]; exact h2, k2, r2⟩
  | j + 3, hj => simp at hj

set_option maxHeartbeats 2000000 in
set_option maxRecDepth 100000 in
theorem parts_main (A0 A1 A2 : Option Addr) (m0 c0 m1 c1 m2 c2 : Nat) (l0 l1 l2 : List Int) (w : World) (h01 : m0 + m1 ≤ 3000) (h2 : m2 ≤ 2000) (b0 : Bytes l0) (b1 : Bytes l1) (b2 : Bytes l2)
    (r0 : (Kd.int .u8).C w A0 m0 l0) (r1 : (Kd.int .u8).C w A1 m1 l1) (r2 : (Kd.int .u8).C w A2 m2 l2) (k0 : m0 ≤ c0) (k1 : m1 ≤ c1) (k2 : m2 ≤ c2) :
    Calls Try.prog 6 #[.slice A0 m0 c0, .slice A1 m1 c1, .slice A2 m2 c2] w fun e w' => e = .returned (.bool true) ∧ Below w.heap.size w w' := by
  obtain ⟨K, x1, y1, x2, y2, x3, y3, p1, p2, p3, p4, p5, p6, p7, p8, p9, p10, p11, p12⟩ := parts_pure l0 l1 l2 b0 b1 b2 (by rw [r0.1, r1.1]; exact h01) (by rw [r2.1]; exact h2)
  rw [r1.1] at p11
  rw [r2.1] at p12
  have L0 := Aside0.mk r0.1
  have L1 := Aside0.mk r1.1
  have L2 := Aside0.mk r2.1
  have P1 := Aside0.mk p1
  have P2 := Aside0.mk p2
  have P3 := Aside0.mk p3
  have P4 := Aside0.mk p4
  have P5 := Aside0.mk p5
  have P6 := Aside0.mk p6
  have P7 := Aside0.mk p7
  have P8 := Aside0.mk p8
  have P9 := Aside0.mk p9
  have P10 := Aside0.mk p10
  have P11 := Aside0.mk p11
  have P12 := Aside0.mk p12
  have R0 := Aside0.mk r0
  have R1 := Aside0.mk r1
  have R2 := Aside0.mk r2
  have K0 := Aside0.mk k0
  have K1 := Aside0.mk k1
  have K2 := Aside0.mk k2
  clear p1 p2 p3 p4 p5 p6 p7 p8 p9 p10 p11 p12 r0 r1 r2 b0 b1 b2 k0 k1 k2
  have g0 : decide (3000 < (m0 : Int) + (m1 : Int)) = false := decide_eq_false (by omega)
  have g1 : decide (2000 < (m2 : Int)) = false := decide_eq_false (by omega)
  go_enter Try.func6, Try.ntmps6
  go_wp2_with (first
    | (at_builtin; refine print_append_row (w0 := w) w.heap.size rfl (.tmp 21) (.tmp 22) 22 5 .u8 1 rfl Try.underlying22 (by kernel_rfl) (by decide) (.slice (some ⟨w.heap.size, 0, none⟩) 0 0) [] l0 A0 m0 c0 rfl rfl (own_lit w w.heap.size 5 .u8 [] (Nat.le_refl _) (by simp)) (Kd.reads_of_C (d := (0 : Int)) (Kd.C_alloc R0.out _)) (below_alloc (Below.refl _ _) _) (by simp) (by simp; omega) ?_; intro v1 w1 HO HB HG hat; clear HG hat; simp only [List.nil_append, L0.out] at HO; have HO1 := Aside0.mk HO; have HB1 := Aside0.mk HB; clear HO HB)
    | (at_builtin; refine print_append_row (w0 := w) w.heap.size rfl (.tmp 23) (.tmp 24) 22 5 .u8 1 rfl Try.underlying22 (by kernel_rfl) (by decide) v1 l0 l1 A1 m1 c1 rfl rfl (by rw [L0.out]; exact HO1.out) (Kd.reads_of_C (d := (0 : Int)) (Kd.C_below R1.out HB1.out)) HB1.out HB1.out.size (by rw [L0.out]; omega) ?_; intro v2 w2 HO HB HG hat; clear HG hat; obtain ⟨A7, c7, rfl, hc7, hr7⟩ := own_C HO; simp only [List.length_append, L0.out, L1.out] at hc7 hr7 ⊢; have R7 := Aside0.mk hr7; have K7 := Aside0.mk hc7; have HB2 := Aside0.mk HB; clear HO HB hc7 hr7 HO1 HB1)
    | (at_builtin; refine print_append_row (w0 := w2) w2.heap.size rfl (.tmp 26) (.tmp 27) 22 5 .u8 1 rfl Try.underlying22 (by kernel_rfl) (by decide) (.slice (some ⟨w2.heap.size, 0, none⟩) 0 0) [] (l0 ++ l1) A7 (m0 + m1) c7 rfl rfl (own_lit w2 w2.heap.size 5 .u8 [] (Nat.le_refl _) (by simp)) (Kd.reads_of_C (d := (0 : Int)) (Kd.C_alloc R7.out _)) (below_alloc (Below.refl _ _) _) (by simp) (by simp; omega) ?_; intro v3 w3 HO HB HG hat; clear HG hat; simp only [List.nil_append, List.length_append, L0.out, L1.out] at HO; have HO3 := Aside0.mk HO; have HB3 := Aside0.mk HB; clear HO HB)
    | (at_builtin; refine print_append_row (w0 := w2) w2.heap.size rfl (.tmp 28) (.tmp 29) 22 5 .u8 1 rfl Try.underlying22 (by kernel_rfl) (by decide) v3 (l0 ++ l1) l2 A2 m2 c2 rfl rfl (by rw [List.length_append, L0.out, L1.out]; exact HO3.out) (Kd.reads_of_C (d := (0 : Int)) (Kd.C_below (Kd.C_below R2.out HB2.out) HB3.out)) HB3.out HB3.out.size (by rw [List.length_append, L0.out, L1.out]; omega) ?_; intro v4 w4 HO HB HG hat; clear HG hat; obtain ⟨A8, c8, rfl, hc8, hr8⟩ := own_C HO; simp only [List.length_append, L0.out, L1.out, L2.out] at hc8 hr8 ⊢; have K8 := Aside0.mk hc8; have HX : Aside0 (StP w w4 A0 A1 A2 A7 A8 m0 m1 m2 (m0 + m1) (m0 + m1 + m2) l0 l1 l2) := ⟨⟨below_step HB2.out HB, Kd.C_below (Kd.C_below R0.out HB2.out) HB, Kd.C_below (Kd.C_below R1.out HB2.out) HB, Kd.C_below (Kd.C_below R2.out HB2.out) HB, Kd.C_below R7.out HB, hr8⟩⟩; clear HO HB hc8 hr8 HO3 HB3 HB2 R0 R1 R2 R7 L0 L1 L2))
  have HX := Aside0.mk (HX.out.step (below_alloc (Below.refl _ _) (.cells #[.slice A8 (m0 + m1 + m2) c8] 22)))
  refine (sum1_calls K ⟨w4.heap.size, 0, none⟩ A8 (m0 + m1 + m2) c8 (l0 ++ l1 ++ l2) (cs (l0 ++ l1 ++ l2)) 1 _ (by go_simp) K8.out HX.out.r8 P1.out (Nat.le_refl _)).mono ?_
  rintro e w5 ⟨rfl, hb⟩
  have HX := Aside0.mk (HX.out.step hb)
  clear hb
  go_wp2_with fail
  have HX := Aside0.mk (HX.out.step (below_alloc (Below.refl _ _) (.cells #[.slice A0 m0 c0, .slice A1 m1 c1, .slice A2 m2 c2] 22)))
  refine (sum3_calls K w5.heap.size A0 A1 A2 m0 c0 m1 c1 m2 c2 l0 l1 l2 (cs (l0 ++ l1 ++ l2)) _ (by go_simp) (by go_simp) (by go_simp) K0.out K1.out K2.out HX.out.r0 HX.out.r1 HX.out.r2 P2.out).mono ?_
  rintro e w6 ⟨rfl, hb⟩
  have HX := Aside0.mk (HX.out.step hb)
  clear hb
  go_wp2_with fail
  refine (sum_Begin.calls 1 0 _ rfl).mono ?_
  rintro e w7 ⟨rfl, hb⟩
  have HX := Aside0.mk (HX.out.step hb)
  clear hb
  go_wp2_with fail
  refine (take_calls K 1 0 A0 m0 c0 l0 x1 y1 _ HX.out.r0 K0.out P3.out).mono ?_
  rintro e w8 ⟨rfl, hb⟩
  have HX := Aside0.mk (HX.out.step hb)
  clear hb
  go_wp2_with fail
  refine (take_calls K x1 y1 A1 m1 c1 l1 x2 y2 _ HX.out.r1 K1.out P4.out).mono ?_
  rintro e w9 ⟨rfl, hb⟩
  have HX := Aside0.mk (HX.out.step hb)
  clear hb
  go_wp2_with fail
  refine (take_calls K x2 y2 A2 m2 c2 l2 x3 y3 _ HX.out.r2 K2.out P5.out).mono ?_
  rintro e w10 ⟨rfl, hb⟩
  have HX := Aside0.mk (HX.out.step hb)
  clear hb
  go_wp2_with fail
  refine (sum_Running_Value.calls x3 y3 (cs (l0 ++ l1 ++ l2)) _ P6.out).mono ?_
  rintro e w11 ⟨rfl, hb⟩
  have HX := Aside0.mk (HX.out.step hb)
  clear hb
  go_wp2_with fail
  have HX := Aside0.mk (HX.out.step (below_alloc (Below.refl _ _) (.cells #[.slice A0 m0 c0] 22)))
  refine (sum1_calls K ⟨w11.heap.size, 0, none⟩ A0 m0 c0 l0 (cs l0) 1 _ (by go_simp) K0.out HX.out.r0 P7.out (Nat.le_refl _)).mono ?_
  rintro e w12 ⟨rfl, hb⟩
  have HX := Aside0.mk (HX.out.step hb)
  clear hb
  go_wp2_with fail
  have HX := Aside0.mk (HX.out.step (below_alloc (Below.refl _ _) (.cells #[.slice A1 m1 c1] 22)))
  refine (sum1_calls K ⟨w12.heap.size, 0, none⟩ A1 m1 c1 l1 (cs l1) 1 _ (by go_simp) K1.out HX.out.r1 P8.out (Nat.le_refl _)).mono ?_
  rintro e w13 ⟨rfl, hb⟩
  have HX := Aside0.mk (HX.out.step hb)
  clear hb
  go_wp2_with fail
  refine (sum_Both.calls (cs l0) (cs l1) (m1 : Int) (cs (l0 ++ l1)) _ P11.out).mono ?_
  rintro e w14 ⟨rfl, hb⟩
  have HX := Aside0.mk (HX.out.step hb)
  clear hb
  go_wp2_with fail
  have HX := Aside0.mk (HX.out.step (below_alloc (Below.refl _ _) (.cells #[.slice A7 (m0 + m1) c7] 22)))
  refine (sum1_calls K ⟨w14.heap.size, 0, none⟩ A7 (m0 + m1) c7 (l0 ++ l1) (cs (l0 ++ l1)) 1 _ (by go_simp) K7.out HX.out.r7 P10.out (Nat.le_refl _)).mono ?_
  rintro e w15 ⟨rfl, hb⟩
  have HX := Aside0.mk (HX.out.step hb)
  clear hb
  go_wp2_with fail
  have HX := Aside0.mk (HX.out.step (below_alloc (Below.refl _ _) (.cells #[.slice A7 (m0 + m1) c7] 22)))
  refine (sum1_calls K ⟨w15.heap.size, 0, none⟩ A7 (m0 + m1) c7 (l0 ++ l1) (cs (l0 ++ l1)) 1 _ (by go_simp) K7.out HX.out.r7 P10.out (Nat.le_refl _)).mono ?_
  rintro e w16 ⟨rfl, hb⟩
  have HX := Aside0.mk (HX.out.step hb)
  clear hb
  go_wp2_with fail
  have HX := Aside0.mk (HX.out.step (below_alloc (Below.refl _ _) (.cells #[.slice A2 m2 c2] 22)))
  refine (sum1_calls K ⟨w16.heap.size, 0, none⟩ A2 m2 c2 l2 (cs l2) 1 _ (by go_simp) K2.out HX.out.r2 P9.out (Nat.le_refl _)).mono ?_
  rintro e w17 ⟨rfl, hb⟩
  have HX := Aside0.mk (HX.out.step hb)
  clear hb
  go_wp2_with fail
  refine (sum_Both.calls (cs (l0 ++ l1)) (cs l2) (m2 : Int) (cs (l0 ++ l1 ++ l2)) _ P12.out).mono ?_
  rintro e w18 ⟨rfl, hb⟩
  have HX := Aside0.mk (HX.out.step hb)
  clear hb
  go_wp2_with fail
  refine (one_calls _).mono ?_
  rintro e w19 ⟨rfl, hb⟩
  have HX := Aside0.mk (HX.out.step hb)
  clear hb
  go_wp2_with fail
  go_ret
  exact ⟨rfl, HX.out.bl⟩

theorem parts_walk (a0 : Option Addr) (len0 cap0 : Nat) (z0 : List Int) {w : World} (w0 : Came w a0 len0 cap0 z0) (y0 : len0 * 1 ≤ 140737488351232) (a1 : Option Addr) (len1 cap1 : Nat) (z1 : List Int) (w1 : Came w a1 len1 cap1 z1) (y1 : len1 * 1 ≤ 140737488351232) (a2 : Option Addr) (len2 cap2 : Nat) (z2 : List Int) (w2 : Came w a2 len2 cap2 z2) (y2 : len2 * 1 ≤ 140737488351232) (w' : World) (hw : w' = w := by rfl) :
    Calls Try.prog 6 #[.slice a0 len0 cap0, .slice a1 len1 cap1, .slice a2 len2 cap2] w' fun e w'' => e = .returned (.bool true) ∧ Below w'.heap.size w' w'' := by
  subst hw
  obtain ⟨l0, hr0, hc0, hb0⟩ := came w0
  obtain ⟨l1, hr1, hc1, hb1⟩ := came w1
  obtain ⟨l2, hr2, hc2, hb2⟩ := came w2
  by_cases h : 3000 < len0 + len1 ∨ (len0 + len1 ≤ 3000 ∧ 2000 < len2)
  · exact parts_out a0 a1 a2 len0 cap0 len1 cap1 len2 cap2 _ (by omega) (by omega) h
  · exact parts_main a0 a1 a2 len0 cap0 len1 cap1 len2 cap2 l0 l1 l2 _ (by omega) (by omega) hb0 hb1 hb2 hr0 hr1 hr2 hc0 hc1 hc2
end Go.Proofs.Ytfkjilnhjaegbaa.PSum
