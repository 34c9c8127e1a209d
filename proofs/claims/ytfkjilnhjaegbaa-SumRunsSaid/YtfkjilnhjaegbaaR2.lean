/- The walk of SumRuns. -/
import Derived.Test.YtfkjilnhjaegbaaT2
import Derived.Test.YtfkjilnhjaegbaaWEqStruct
namespace Go.Proofs.Ytfkjilnhjaegbaa.PSum
open Go.RowKit Go.Proofs.YtfkjilnhjaegbaaW.PrintWords Go.Proofs.YtfkjilnhjaegbaaW.PrintLast Go.Proofs.YtfkjilnhjaegbaaW.PrintMore
set_option linter.unusedVariables false
set_option linter.unusedSimpArgs false

structure StR (w w' : World) (g h : Nat) (a b : Int) (x y : Int) (A : Option Addr) (m c : Nat) (l : List Int) : Prop where
  bl : Below w.heap.size w w'
  s : w'.heap[g]? = some (.cells #[.int .u32 a, .int .u32 b] 25 (0, 0))
  t : w'.heap[h]? = some (.cells #[.int .u32 x, .int .u32 y] 25 (0, 0))
  r : (Kd.int .u8).C w' A m l
  ne : g ≠ h
  ge : w.heap.size ≤ h
  nr : 0 < m → ∀ ad, A = some ad → ad.block ≠ h
section
variable {w w' w3 : World} {g h : Nat} {a b x y : Int} {A : Option Addr} {m c : Nat} {l : List Int}
theorem StR.step (H : StR w w' g h a b x y A m c l) (hb : Below w'.heap.size w' w3) : StR w w3 g h a b x y A m c l := ⟨below_step H.bl hb, blk_below H.s hb, blk_below H.t hb, Kd.C_below H.r hb, H.ne, H.ge, H.nr⟩
theorem StR.s0 (H : StR w w' g h a b x y A m c l) : w'.cell? ⟨g, 0, none⟩ = some (.int .u32 a) := (blk_cell H.s 0).trans rfl
theorem StR.s1 (H : StR w w' g h a b x y A m c l) : w'.cell? ⟨g, 1, none⟩ = some (.int .u32 b) := (blk_cell H.s 1).trans rfl
theorem StR.t0 (H : StR w w' g h a b x y A m c l) : w'.cell? ⟨h, 0, none⟩ = some (.int .u32 x) := (blk_cell H.t 0).trans rfl
theorem StR.t1 (H : StR w w' g h a b x y A m c l) : w'.cell? ⟨h, 1, none⟩ = some (.int .u32 y) := (blk_cell H.t 1).trans rfl
theorem StR.f0 (H : StR w w' g h a b x y A m c l) : w'.frozen? ⟨h, 0, none⟩ = false := blk_frozen H.t 0
theorem StR.f1 (H : StR w w' g h a b x y A m c l) : w'.frozen? ⟨h, 1, none⟩ = false := blk_frozen H.t 1
end

theorem C_set {k : IntKind} {w : World} {A : Option Addr} {m : Nat} {l : List Int} (hr : (Kd.int k).C w A m l) (p : Addr) (v : Value) (hn : 0 < m → ∀ ad, A = some ad → ad.block ≠ p.block) : (Kd.int k).C (w.setCell p v) A m l := by
  refine ⟨hr.1, hr.2.1, fun h0 => ?_⟩
  obtain ⟨ad, e, hc⟩ := hr.2.2 h0
  refine ⟨ad, e, fun j x hj => ?_⟩
  obtain ⟨cs, h1, h2, h3⟩ := hc j x hj
  refine ⟨cs, h1, h2, fun i u hu => ?_⟩
  rw [World.cell?_of_block (w := w) (Below.heap_setCell w p v _ (by rw [add_blk]; exact hn h0 ad e))]
  exact h3 i u hu
theorem C_sub {k : IntKind} {w : World} {A : Option Addr} {m : Nat} {l : List Int} (hr : (Kd.int k).C w A m l) (i : Nat) (hi : i < m) : (Kd.int k).C w (A.map (fun x => x.add i)) 1 [rd l i] := by
  refine ⟨rfl, by omega, fun _ => ?_⟩
  obtain ⟨ad, e, hx⟩ := Kd.at_int hr (i : Int) (by omega) (by omega)
  refine ⟨ad.add i, by rw [e]; rfl, fun j x hj => ?_⟩
  match j, hj with
  | 0, hj =>
    simp only [List.getElem?_cons_zero, Option.some.injEq] at hj; subst hj
    refine ⟨[.int k (rd l i)], rfl, rfl, fun q u hu => ?_⟩
    match q, hu with
    | 0, hu => simp only [List.getElem?_cons_zero, Option.some.injEq] at hu; subst hu; rw [Nat.zero_mul, Nat.zero_add, addr_add_zero]; simpa using hx
    | q + 1, hu => simp at hu
  | j + 1, hj => simp at hj
theorem StR.put {w w' : World} {g h : Nat} {a b x y : Int} {A : Option Addr} {m c : Nat} {l : List Int} (H : StR w w' g h a b x y A m c l) (x1 y1 : Int) :
    StR w ((w'.setCell ⟨h, 0, none⟩ (.int .u32 x1)).setCell ⟨h, 1, none⟩ (.int .u32 y1)) g h a b x1 y1 A m c l :=
  ⟨below_set (below_set H.bl H.ge) H.ge, blk_far (blk_far H.s H.ne _) H.ne _, blk_put (blk_put H.t 0 _ rfl) 1 _ rfl, C_set (C_set H.r _ _ H.nr) _ _ H.nr, H.ne, H.ge, H.nr⟩
theorem end_pure (a b : Int) (l : List Int) (ha : U32 a) (hb : U32 b) (hl : Bytes l) (hn : l.length ≤ 1500) (x y : Int) (h : (x, y) = tk (a, b) l) : ∃ k v, sum_Running_Take.f k a b l = some (x, y) ∧ sum_Running_Take.f k a b [] = some (a, b) ∧ sum_Running_Take.f k 1 0 l = some ((tk (1, 0) l).1, (tk (1, 0) l).2) ∧ sum_Running_Value.f (tk (1, 0) l).1 (tk (1, 0) l).2 = some v ∧ sum_Sum.f k [l] = some v := by
  refine ⟨3100, cs l, ?_, take_ok _ [] (by intro z hz; simp at hz) (by simp) a b ha hb (by simp), take_ok _ l hl (by omega) 1 0 (by unfold U32; omega) (by unfold U32; omega) (by omega), rfl, ?_⟩
  · rw [h]; exact take_ok _ l hl (by omega) a b ha hb (by omega)
  · have := sum_ok 3100 3001 [l] (by intro x hx; simp only [List.mem_singleton] at hx; subst hx; exact ⟨hl, by omega⟩) (by omega) (by simp) (by simp)
    simpa using this
theorem round_pure (a b : Int) (l : List Int) (ha : U32 a) (hb : U32 b) (hl : Bytes l) (i : Nat) (hi : i < l.length) (x y : Int) (h : (x, y) = tk (a, b) (l.take i)) : ∃ x1 y1 k, sum_Running_Take.f k x y [rd l i] = some (x1, y1) ∧ (x1, y1) = tk (a, b) (l.take (i + 1)) := by
  have hu := tk_u32 (l.take i) (a, b) ha hb
  rw [← h] at hu
  refine ⟨(tk (x, y) [rd l i]).1, (tk (x, y) [rd l i]).2, 2, take_ok 2 _ (by intro z hz; simp only [List.mem_singleton] at hz; subst hz; exact hl _ (rd_mem l i hi)) (by simp) x y hu.1 hu.2 (by simp), ?_⟩
  have e : l.take (i + 1) = l.take i ++ [rd l i] := by
    rw [List.take_succ_eq_append_getElem hi]
    unfold rd
    simp [List.getD_eq_getElem?_getD, hi]
  rw [h, ← tk_append, ← e]

theorem C_blk {k : IntKind} {w : World} {A : Option Addr} {m : Nat} {l : List Int} (hr : (Kd.int k).C w A m l) {h : Nat} (hh : w.heap.size ≤ h) : 0 < m → ∀ ad, A = some ad → ad.block ≠ h := by
  intro h0 ad e
  obtain ⟨ad', e', hx⟩ := Kd.at_int hr 0 (by omega) (by omega)
  rw [e] at e'; cases e'
  have := World.block_lt_of_cell? w _ hx
  rw [add_blk] at this
  omega

set_option maxHeartbeats 1000000 in
set_option maxRecDepth 100000 in
theorem runs_all (a b : Int) (ha : U32 a) (hb : U32 b) (A : Option Addr) (c : Nat) (m : Nat) (l : List Int) (hlen : m ≤ 1500) (w : World) (hbs : Bytes l) (hr : (Kd.int .u8).C w A m l) (hc : m ≤ c) :
    Calls Try.prog 5 #[.slice A m c, .agg #[.int .u32 a, .int .u32 b]] w fun e w' => e = .returned (.bool true) ∧ Below w.heap.size w w' := by
  have HR1 := Aside0.mk hr
  have HC := Aside0.mk hc
  have hu25 := Try.underlying25
  have h0 : decide (1500 < (m : Int)) = false := decide_eq_false (by omega)
  clear hr hc
  go_enter Try.func5, Try.ntmps5
  go_wp2_with fail
  skip
  have HS0 : Aside0 (StR w ((w.alloc (.cells #[.int .u32 a, .int .u32 b] 25)).alloc (.cells #[.int .u32 a, .int .u32 b] 25)) w.heap.size (w.heap.size + 1) a b a b A m c l) :=
    ⟨⟨below_alloc (below_alloc (Below.refl _ _) _) _, blk_alloc (blk_new _ _) _, by simpa using blk_new (w.alloc (.cells #[.int .u32 a, .int .u32 b] 25)) (.cells #[.int .u32 a, .int .u32 b] 25), Kd.C_alloc (Kd.C_alloc HR1.out _) _, by omega, by omega, C_blk HR1.out (by omega)⟩⟩
  clear h0
  go_loopg [6] m (fun kq v6 w' => ∃ (i : Nat) (x y : Int), v6 = .int .i64 i ∧ Aside0 (i + kq = m) ∧ Aside0 ((x, y) = tk (a, b) (l.take i)) ∧ Aside0 (StR w w' w.heap.size (w.heap.size + 1) a b x y A m c l))
  case atStart => exact ⟨0, a, b, rfl, ⟨by omega⟩, ⟨rfl⟩, HS0⟩
  case round =>
    clear HS0
    obtain ⟨i, x, y, rfl, HI, HXY, HS⟩ := hrel
    generalize w.heap.size = g at *
    cases gk with
    | succ k1 =>
      have hlt : i < m := by have := HI.out; omega
      have hb0 : decide ((i : Int) < (m : Int)) = true := decide_eq_true (by omega)
      go_wp2_with fail
      obtain ⟨x1, y1, k, hT1, hXY1⟩ := round_pure a b l ha hb hbs i (by rw [HR1.out.1]; exact hlt) x y HXY.out
      have HT1 := Aside0.mk hT1
      have HXY1 := Aside0.mk hXY1
      clear hT1 hXY1
      have hi0 : (0 : Int) ≤ (i : Int) := by omega
      have hi3 : (0 : Int) ≤ (i : Int) + 1 := by omega
      have hw : wrap64 ((i : Int) + 1) = (i : Int) + 1 := IntWalk.wrap64_in _ (by omega)
      have ht : ((i : Int) + 1).toNat = i + 1 := by omega
      have hci : (c = i) = False := eq_false (by have := HC.out; omega)
      have hi2 : (i : Int) + 1 ≤ (c : Int) := by have := HC.out; omega
      refine start_ (n := 8) (S := fun w' => w'.cell? ⟨g + 1, 0, none⟩ = some (.int .u32 x) ∧ w'.cell? ⟨g + 1, 1, none⟩ = some (.int .u32 y) ∧ w'.frozen? ⟨g + 1, 0, none⟩ = false ∧ w'.frozen? ⟨g + 1, 1, none⟩ = false ∧ Aside0 (StR w w' g (g + 1) a b x y A m c l)) (ds := [7]) #[false, false, false, false, false, false, false, false] (by kernel_rfl) rfl rfl ⟨(HS.out.step (below_drew (Below.refl _ _))).t0, (HS.out.step (below_drew (Below.refl _ _))).t1, (HS.out.step (below_drew (Below.refl _ _))).f0, (HS.out.step (below_drew (Below.refl _ _))).f1, ⟨(HS.out.step (below_drew (Below.refl _ _)))⟩⟩ (fun hHeld => ?_)
      refine pure_ (i := 1) (N := some 20) (v := ?_) (a' := ?_) #[false, true, false, false, false, false, false, false] rfl rfl (by kernel_rfl) (fun _ _ _ h => h) (Or.inl ⟨by rfl, ?_⟩) ?_ ?_
      rotate_left
      · intro w'
        go_simp
        with_reducible rfl
      rotate_left
      · simp only [Act.put, List.setIfInBounds_toArray, List.set_cons_zero, List.set_cons_succ, i64_w, i32_w]
        rfl
      refine pure_ (i := 2) (N := some 21) (v := ?_) (a' := ?_) #[false, true, true, false, false, false, false, false] rfl rfl (by kernel_rfl) (fun _ _ _ h => h) (Or.inl ⟨by rfl, ?_⟩) ?_ ?_
      rotate_left
      · intro w'
        go_simp
        with_reducible rfl
      rotate_left
      · simp only [Act.put, List.setIfInBounds_toArray, List.set_cons_zero, List.set_cons_succ, i64_w, i32_w]
        rfl
      refine pure_ (i := 3) (N := some 22) (v := ?_) (a' := ?_) #[false, true, true, true, false, false, false, false] rfl rfl (by kernel_rfl) (fun _ _ _ h => h) (Or.inl ⟨by rfl, ?_⟩) ?_ ?_
      rotate_left
      · intro w'
        go_simp
        with_reducible rfl
      rotate_left
      · simp only [Act.put, List.setIfInBounds_toArray, List.set_cons_zero, List.set_cons_succ, i64_w, i32_w]
        rfl
      refine pure_ (i := 4) (N := some 23) (v := ?_) (a' := ?_) #[false, true, true, true, true, false, false, false] rfl rfl (by kernel_rfl) (fun _ _ _ h => h) (Or.inl ⟨by rfl, ?_⟩) ?_ ?_
      rotate_left
      · intro w'
        go_simp
        with_reducible rfl
      rotate_left
      · simp only [Act.put, List.setIfInBounds_toArray, List.set_cons_zero, List.set_cons_succ, i64_w, i32_w]
        rfl
      refine pure_ (i := 5) (N := some 24) (v := ?_) (a' := ?_) #[false, true, true, true, true, true, false, false] rfl rfl (by kernel_rfl) (fun _ _ _ h => h) (Or.inl ⟨by rfl, ?_⟩) ?_ ?_
      rotate_left
      · intro w'
        go_simp
        with_reducible rfl
      rotate_left
      · simp only [Act.put, List.setIfInBounds_toArray, List.set_cons_zero, List.set_cons_succ, i64_w, i32_w]
        rfl
      refine take_ (i := 0) (N := some 19) (v := ?_) (a' := ?_) #[true, true, true, true, true, true, false, false] rfl rfl (by kernel_rfl) (fun _ _ _ h => h) (Or.inl ⟨by rfl, ?_⟩) hHeld ?_ ?_
      rotate_left
      · rintro w' ⟨s0, s1, s2, s3, s4⟩
        go_simp
        with_reducible rfl
      rotate_left
      · simp only [Act.put, List.setIfInBounds_toArray, List.set_cons_zero, List.set_cons_succ, i64_w, i32_w]
        rfl
      refine one_ (i := 6) (N := some 25) #[true, true, true, true, true, true, true, false] rfl rfl (by kernel_rfl) (by decide) (fun K hK => ?_)
      refine goes_ Try.func8 (by kernel_rfl) rfl #[.agg #[.int .u32 x, .int .u32 y], .slice (A.map (·.add i)) 1 (c - i)] (by rfl) rfl rfl (by simp only [List.map_toArray, List.map_cons, List.map_nil]; rfl) ?_
      with_reducible refine (take_calls k x y (A.map (·.add i)) 1 (c - i) [rd l i] x1 y1 _ (C_sub hHeld.2.2.2.2.out.r i hlt) (by omega) HT1.out).mono ?_
      rintro e w3 ⟨rfl, hb⟩
      refine ⟨_, rfl, ?_⟩
      have hX := hHeld.2.2.2.2.out.step hb
      refine hK.out _ _ ⟨hX.t0, hX.t1, hX.f0, hX.f1, ⟨hX⟩⟩ (fun hHeld => ?_)
      clear hK K
      refine norm_ (a' := ?_) ?_ ?_
      rotate_left
      · show Act.put _ (some 25) _ = _
        simp only [Act.put, List.setIfInBounds_toArray, List.set_cons_zero, List.set_cons_succ, i64_w, i32_w]
        rfl
      refine last_ (i := 7) (N := none) #[true, true, true, true, true, true, true, true] rfl rfl (by kernel_rfl) (by decide) (fun K hK => ?_)
      refine skip_ (w1 := ?_) (by rfl) rfl ?_ ?_
      rotate_left
      · go_simp
        rfl
      refine hK.out _ _ ?_
      clear hK K
      refine done_ (by kernel_rfl) ?_
      have HS' := Aside0.mk (hHeld.2.2.2.2.out.put x1 y1)
      clear HS hHeld hX hw ht hci hi0 hi2 hi3 hb
      go_wp2_with fail
      go_roundg k1
      case measure => omega
      case rel => exact ⟨i + 1, x1, y1, by go_num, ⟨by have := HI.out; omega⟩, HXY1, HS'⟩
    | zero =>
      obtain rfl : i = m := by have := HI.out; omega
      have hb0 : decide ((i : Int) < (i : Int)) = false := decide_eq_false (by omega)
      obtain ⟨k, v, hT1, hT2, hT3, hV, hSu⟩ := end_pure a b l ha hb hbs (by rw [HR1.out.1]; exact hlen) x y (by have := HXY.out; rwa [List.take_of_length_le (by rw [HR1.out.1]; exact Nat.le_refl _)] at this)
      have HT1 := Aside0.mk hT1
      have HT2 := Aside0.mk hT2
      have HT3 := Aside0.mk hT3
      have HV := Aside0.mk hV
      have HSu := Aside0.mk hSu
      clear hT1 hT2 hT3 hV hSu HXY HI
      go_wp2_with fail
      refine start_ (n := 25) (S := fun w' => w'.cell? ⟨g, 0, none⟩ = some (.int .u32 a) ∧ w'.cell? ⟨g, 1, none⟩ = some (.int .u32 b) ∧ w'.cell? ⟨g + 1, 0, none⟩ = some (.int .u32 x) ∧ w'.cell? ⟨g + 1, 1, none⟩ = some (.int .u32 y) ∧ Aside0 (StR w w' g (g + 1) a b x y A i c l)) (ds := []) #[false, false, false, false, false, false, false, false, false, false, false, false, false, false, false, false, false, false, false, false, false, false, false, false, false] (by kernel_rfl) rfl rfl ⟨(HS.out.step (below_drew (Below.refl _ _))).s0, (HS.out.step (below_drew (Below.refl _ _))).s1, (HS.out.step (below_drew (Below.refl _ _))).t0, (HS.out.step (below_drew (Below.refl _ _))).t1, ⟨(HS.out.step (below_drew (Below.refl _ _)))⟩⟩ (fun hHeld => ?_)
      refine pure_ (i := 2) (N := some 28) (v := ?_) (a' := ?_) #[false, false, true, false, false, false, false, false, false, false, false, false, false, false, false, false, false, false, false, false, false, false, false, false, false] rfl rfl (by kernel_rfl) (fun _ _ _ h => h) (Or.inl ⟨by rfl, ?_⟩) ?_ ?_
      rotate_left
      · intro w'
        go_simp
        with_reducible rfl
      rotate_left
      · simp only [Act.put, List.setIfInBounds_toArray, List.set_cons_zero, List.set_cons_succ, i64_w, i32_w]
        rfl
      refine take_ (i := 0) (N := some 26) (v := ?_) (a' := ?_) #[true, false, true, false, false, false, false, false, false, false, false, false, false, false, false, false, false, false, false, false, false, false, false, false, false] rfl rfl (by kernel_rfl) (fun _ _ _ h => h) (Or.inl ⟨by rfl, ?_⟩) hHeld ?_ ?_
      rotate_left
      · rintro w' ⟨s0, s1, s2, s3, s4⟩
        go_simp
        with_reducible rfl
      rotate_left
      · simp only [Act.put, List.setIfInBounds_toArray, List.set_cons_zero, List.set_cons_succ, i64_w, i32_w]
        rfl
      refine take_ (i := 1) (N := some 27) (v := ?_) (a' := ?_) #[true, true, true, false, false, false, false, false, false, false, false, false, false, false, false, false, false, false, false, false, false, false, false, false, false] rfl rfl (by kernel_rfl) (fun _ _ _ h => h) (Or.inl ⟨by rfl, ?_⟩) hHeld ?_ ?_
      rotate_left
      · rintro w' ⟨s0, s1, s2, s3, s4⟩
        go_simp
        with_reducible rfl
      rotate_left
      · simp only [Act.put, List.setIfInBounds_toArray, List.set_cons_zero, List.set_cons_succ, i64_w, i32_w]
        rfl
      refine one_ (i := 3) (N := some 29) #[true, true, true, true, false, false, false, false, false, false, false, false, false, false, false, false, false, false, false, false, false, false, false, false, false] rfl rfl (by kernel_rfl) (by decide) (fun K hK => ?_)
      refine goes_ Try.func8 (by kernel_rfl) rfl #[.agg #[.int .u32 a, .int .u32 b], .slice A i c] (by rfl) rfl rfl (by simp only [List.map_toArray, List.map_cons, List.map_nil]; rfl) ?_
      with_reducible refine (take_calls k a b A i c l x y _ hHeld.2.2.2.2.out.r HC.out HT1.out).mono ?_
      rintro e w3 ⟨rfl, hb⟩
      refine ⟨_, rfl, ?_⟩
      have hX := hHeld.2.2.2.2.out.step hb
      refine hK.out _ _ ⟨hX.s0, hX.s1, hX.t0, hX.t1, ⟨hX⟩⟩ (fun hHeld => ?_)
      clear hK K
      refine norm_ (a' := ?_) ?_ ?_
      rotate_left
      · show Act.put _ (some 29) _ = _
        simp only [Act.put, List.setIfInBounds_toArray, List.set_cons_zero, List.set_cons_succ, i64_w, i32_w]
        rfl
      refine pure_ (i := 4) (N := some 30) (v := ?_) (a' := ?_) #[true, true, true, true, true, false, false, false, false, false, false, false, false, false, false, false, false, false, false, false, false, false, false, false, false] rfl rfl (by kernel_rfl) (fun _ _ _ h => h) (Or.inl ⟨by rfl, ?_⟩) ?_ ?_
      rotate_left
      · intro w'
        go_simp
        with_reducible rfl
      rotate_left
      · simp only [Act.put, List.setIfInBounds_toArray, List.set_cons_zero, List.set_cons_succ, i64_w, i32_w]
        rfl
      refine pure_ (i := 5) (N := some 31) (v := ?_) (a' := ?_) #[true, true, true, true, true, true, false, false, false, false, false, false, false, false, false, false, false, false, false, false, false, false, false, false, false] rfl rfl (by kernel_rfl) (fun _ _ _ h => h) (Or.inl ⟨by rfl, ?_⟩) ?_ ?_
      rotate_left
      · intro w'
        go_simp
        with_reducible rfl
      rotate_left
      · simp only [Act.put, List.setIfInBounds_toArray, List.set_cons_zero, List.set_cons_succ, i64_w, i32_w]
        rfl
      refine take_ (i := 6) (N := some 32) (v := ?_) (a' := ?_) #[true, true, true, true, true, true, true, false, false, false, false, false, false, false, false, false, false, false, false, false, false, false, false, false, false] rfl rfl (by kernel_rfl) (fun _ _ _ h => h) (Or.inl ⟨by rfl, ?_⟩) hHeld ?_ ?_
      rotate_left
      · rintro w' ⟨s0, s1, s2, s3, s4⟩
        go_simp
        with_reducible rfl
      rotate_left
      · simp only [Act.put, List.setIfInBounds_toArray, List.set_cons_zero, List.set_cons_succ, i64_w, i32_w]
        rfl
      refine take_ (i := 8) (N := some 34) (v := ?_) (a' := ?_) #[true, true, true, true, true, true, true, false, true, false, false, false, false, false, false, false, false, false, false, false, false, false, false, false, false] rfl rfl (by kernel_rfl) (fun _ _ _ h => h) (Or.inl ⟨by rfl, ?_⟩) hHeld ?_ ?_
      rotate_left
      · rintro w' ⟨s0, s1, s2, s3, s4⟩
        go_simp
        with_reducible rfl
      rotate_left
      · simp only [Act.put, List.setIfInBounds_toArray, List.set_cons_zero, List.set_cons_succ, i64_w, i32_w]
        rfl
      refine one_ (i := 7) (N := some 33) #[true, true, true, true, true, true, true, true, true, false, false, false, false, false, false, false, false, false, false, false, false, false, false, false, false] rfl rfl (by kernel_rfl) (by decide) (fun K hK => ?_)
      refine goes_ Try.func8 (by kernel_rfl) rfl #[.agg #[.int .u32 a, .int .u32 b], .slice none 0 0] (by rfl) rfl rfl (by simp only [List.map_toArray, List.map_cons, List.map_nil]; rfl) ?_
      with_reducible refine (take_calls k a b none 0 0 [] a b _ (Kd.C_nil _ _) (Nat.le_refl _) HT2.out).mono ?_
      rintro e w7 ⟨rfl, hb⟩
      refine ⟨_, rfl, ?_⟩
      have hX := hHeld.2.2.2.2.out.step hb
      refine hK.out _ _ ⟨hX.s0, hX.s1, hX.t0, hX.t1, ⟨hX⟩⟩ (fun hHeld => ?_)
      clear hK K
      refine norm_ (a' := ?_) ?_ ?_
      rotate_left
      · show Act.put _ (some 33) _ = _
        simp only [Act.put, List.setIfInBounds_toArray, List.set_cons_zero, List.set_cons_succ, i64_w, i32_w]
        rfl
      refine pure_ (i := 9) (N := some 35) (v := ?_) (a' := ?_) #[true, true, true, true, true, true, true, true, true, true, false, false, false, false, false, false, false, false, false, false, false, false, false, false, false] rfl rfl (by kernel_rfl) (fun _ _ _ h => h) (Or.inl ⟨by rfl, ?_⟩) ?_ ?_
      rotate_left
      · intro w'
        go_simp
        with_reducible rfl
      rotate_left
      · simp only [Act.put, List.setIfInBounds_toArray, List.set_cons_zero, List.set_cons_succ, i64_w, i32_w]
        rfl
      refine pure_ (i := 10) (N := some 36) (v := ?_) (a' := ?_) #[true, true, true, true, true, true, true, true, true, true, true, false, false, false, false, false, false, false, false, false, false, false, false, false, false] rfl rfl (by kernel_rfl) (fun _ _ _ h => h) (Or.inl ⟨by rfl, ?_⟩) ?_ ?_
      rotate_left
      · intro w'
        go_simp
        with_reducible rfl
      rotate_left
      · simp only [Act.put, List.setIfInBounds_toArray, List.set_cons_zero, List.set_cons_succ, i64_w, i32_w]
        rfl
      refine pure_ (i := 11) (N := some 37) (v := ?_) (a' := ?_) #[true, true, true, true, true, true, true, true, true, true, true, true, false, false, false, false, false, false, false, false, false, false, false, false, false] rfl rfl (by kernel_rfl) (fun _ _ _ h => h) (Or.inl ⟨by rfl, ?_⟩) ?_ ?_
      rotate_left
      · intro w'
        go_simp
        with_reducible rfl
      rotate_left
      · simp only [Act.put, List.setIfInBounds_toArray, List.set_cons_zero, List.set_cons_succ, i64_w, i32_w]
        rfl
      refine pure_ (i := 13) (N := some 39) (v := ?_) (a' := ?_) #[true, true, true, true, true, true, true, true, true, true, true, true, false, true, false, false, false, false, false, false, false, false, false, false, false] rfl rfl (by kernel_rfl) (fun _ _ _ h => h) (Or.inl ⟨by rfl, ?_⟩) ?_ ?_
      rotate_left
      · intro w'
        go_simp
        with_reducible rfl
      rotate_left
      · simp only [Act.put, List.setIfInBounds_toArray, List.set_cons_zero, List.set_cons_succ, i64_w, i32_w]
        rfl
      refine pure_ (i := 16) (N := some 42) (v := ?_) (a' := ?_) #[true, true, true, true, true, true, true, true, true, true, true, true, false, true, false, false, true, false, false, false, false, false, false, false, false] rfl rfl (by kernel_rfl) (fun _ _ _ h => h) (Or.inl ⟨by rfl, ?_⟩) ?_ ?_
      rotate_left
      · intro w'
        go_simp
        with_reducible rfl
      rotate_left
      · simp only [Act.put, List.setIfInBounds_toArray, List.set_cons_zero, List.set_cons_succ, i64_w, i32_w]
        rfl
      refine join_ (σ := Nat) 7 #[true, true, true, true, true, true, true, true, true, true, true, true, true, true, true, true, true, true, false, false, false, false, false, false, false] (fun s => [(38, .agg #[.int .u32 1, .int .u32 0]), (40, .agg #[.int .u32 (tk (1, 0) l).1, .int .u32 (tk (1, 0) l).2]), (41, .int .u32 v), (43, .slice (some ⟨s, 0, none⟩) 1 1)]) (fun s w' => Aside0 (StR w w' g (g + 1) a b x y A i c l) ∧ w'.cell? ⟨s, 0, none⟩ = some (.slice A i c)) ?_ ?_
      rotate_left
      · intro hCont
        refine two_ (i := 12) (j := 17) (Ni := some 38) (Nj := some 43) #[true, true, true, true, true, true, true, true, true, true, true, true, true, true, false, false, true, false, false, false, false, false, false, false, false] #[true, true, true, true, true, true, true, true, true, true, true, true, false, true, false, false, true, true, false, false, false, false, false, false, false] rfl rfl rfl rfl (by kernel_rfl) (by decide) (by decide) (fun K hK => ?_) (fun K hK => ?_)
        · skip
          refine goes_ Try.func13 (by kernel_rfl) rfl #[] (by rfl) rfl rfl (by simp only [List.map_toArray, List.map_nil]) ?_
          with_reducible refine (sum_Begin.calls 1 0 _ rfl).mono ?_
          rintro e w12 ⟨rfl, hb⟩
          refine ⟨_, rfl, ?_⟩
          have hX := hHeld.2.2.2.2.out.step hb
          refine hK.out _ _ ⟨hX.s0, hX.s1, hX.t0, hX.t1, ⟨hX⟩⟩ (fun hHeld => ?_)
          clear hK K
          refine norm_ (a' := ?_) ?_ ?_
          rotate_left
          · show Act.put _ (some 38) _ = _
            simp only [Act.put, List.setIfInBounds_toArray, List.set_cons_zero, List.set_cons_succ, i64_w, i32_w]
            rfl
          refine two_ (i := 14) (j := 17) (Ni := some 40) (Nj := some 43) #[true, true, true, true, true, true, true, true, true, true, true, true, true, true, true, false, true, false, false, false, false, false, false, false, false] #[true, true, true, true, true, true, true, true, true, true, true, true, true, true, false, false, true, true, false, false, false, false, false, false, false] rfl rfl rfl rfl (by kernel_rfl) (by decide) (by decide) (fun K hK => ?_) (fun K hK => ?_)
          · skip
            refine goes_ Try.func8 (by kernel_rfl) rfl #[.agg #[.int .u32 1, .int .u32 0], .slice A i c] (by rfl) rfl rfl (by simp only [List.map_toArray, List.map_cons, List.map_nil]; rfl) ?_
            with_reducible refine (take_calls k 1 0 A i c l (tk (1, 0) l).1 (tk (1, 0) l).2 _ hHeld.2.2.2.2.out.r HC.out HT3.out).mono ?_
            rintro e w14 ⟨rfl, hb⟩
            refine ⟨_, rfl, ?_⟩
            have hX := hHeld.2.2.2.2.out.step hb
            refine hK.out _ _ ⟨hX.s0, hX.s1, hX.t0, hX.t1, ⟨hX⟩⟩ (fun hHeld => ?_)
            clear hK K
            refine norm_ (a' := ?_) ?_ ?_
            rotate_left
            · show Act.put _ (some 40) _ = _
              simp only [Act.put, List.setIfInBounds_toArray, List.set_cons_zero, List.set_cons_succ, i64_w, i32_w]
              rfl
            refine two_ (i := 15) (j := 17) (Ni := some 41) (Nj := some 43) #[true, true, true, true, true, true, true, true, true, true, true, true, true, true, true, true, true, false, false, false, false, false, false, false, false] #[true, true, true, true, true, true, true, true, true, true, true, true, true, true, true, false, true, true, false, false, false, false, false, false, false] rfl rfl rfl rfl (by kernel_rfl) (by decide) (by decide) (fun K hK => ?_) (fun K hK => ?_)
            · skip
              refine goes_ Try.func11 (by kernel_rfl) rfl #[.agg #[.int .u32 (tk (1, 0) l).1, .int .u32 (tk (1, 0) l).2]] (by rfl) rfl rfl (by simp only [List.map_toArray, List.map_cons, List.map_nil]; rfl) ?_
              with_reducible refine (sum_Running_Value.calls _ _ v _ HV.out).mono ?_
              rintro e w15 ⟨rfl, hb⟩
              refine ⟨_, rfl, ?_⟩
              have hX := hHeld.2.2.2.2.out.step hb
              refine hK.out _ _ ⟨hX.s0, hX.s1, hX.t0, hX.t1, ⟨hX⟩⟩ (fun hHeld => ?_)
              clear hK K
              refine norm_ (a' := ?_) ?_ ?_
              rotate_left
              · show Act.put _ (some 41) _ = _
                simp only [Act.put, List.setIfInBounds_toArray, List.set_cons_zero, List.set_cons_succ, i64_w, i32_w]
                rfl
              refine one_ (i := 17) (N := some 43) #[true, true, true, true, true, true, true, true, true, true, true, true, true, true, true, true, true, true, false, false, false, false, false, false, false] rfl rfl (by kernel_rfl) (by decide) (fun K hK => ?_)
              refine value_ (w1 := ?_) (v := ?_) (by rfl) rfl ?_ ?_
              rotate_left 2
              · go_simp
                constructor
                · rfl
                · rfl
              have hX := hHeld.2.2.2.2.out.step (below_alloc (Below.refl _ _) (.cells #[.slice A i c] 22))
              have hQ : (w15.alloc (.cells #[.slice A i c] 22)).cell? ⟨w15.heap.size, 0, none⟩ = some (.slice A i c) := (blk_cell (blk_new _ _) 0).trans rfl
              refine hK.out _ _ ⟨hX.s0, hX.s1, hX.t0, hX.t1, ⟨hX⟩⟩ (fun hHeld => ?_)
              clear hK K
              refine norm_ (a' := ?_) ?_ ?_
              rotate_left
              · show Act.put _ (some 43) _ = _
                simp only [Act.put, List.setIfInBounds_toArray, List.set_cons_zero, List.set_cons_succ, i64_w, i32_w]
                rfl
              exact norm_ (by simp only [putAll, Act.put, List.setIfInBounds_toArray, List.set_cons_zero, List.set_cons_succ]) (hCont w15.heap.size _ ⟨hHeld.2.2.2.2, hQ⟩)
            · skip
              refine value_ (w1 := ?_) (v := ?_) (by rfl) rfl ?_ ?_
              rotate_left 2
              · go_simp
                constructor
                · rfl
                · rfl
              have hX := hHeld.2.2.2.2.out.step (below_alloc (Below.refl _ _) (.cells #[.slice A i c] 22))
              have hQ : (w14.alloc (.cells #[.slice A i c] 22)).cell? ⟨w14.heap.size, 0, none⟩ = some (.slice A i c) := (blk_cell (blk_new _ _) 0).trans rfl
              refine hK.out _ _ ⟨hX.s0, hX.s1, hX.t0, hX.t1, ⟨hX⟩⟩ (fun hHeld => ?_)
              clear hK K
              refine norm_ (a' := ?_) ?_ ?_
              rotate_left
              · show Act.put _ (some 43) _ = _
                simp only [Act.put, List.setIfInBounds_toArray, List.set_cons_zero, List.set_cons_succ, i64_w, i32_w]
                rfl
              refine one_ (i := 15) (N := some 41) #[true, true, true, true, true, true, true, true, true, true, true, true, true, true, true, true, true, true, false, false, false, false, false, false, false] rfl rfl (by kernel_rfl) (by decide) (fun K hK => ?_)
              refine goes_ Try.func11 (by kernel_rfl) rfl #[.agg #[.int .u32 (tk (1, 0) l).1, .int .u32 (tk (1, 0) l).2]] (by rfl) rfl rfl (by simp only [List.map_toArray, List.map_cons, List.map_nil]; rfl) ?_
              with_reducible refine (sum_Running_Value.calls _ _ v _ HV.out).mono ?_
              rintro e w15 ⟨rfl, hb⟩
              refine ⟨_, rfl, ?_⟩
              have hX := hHeld.2.2.2.2.out.step hb
              have hQ := pw_cell_below hb hQ
              refine hK.out _ _ ⟨hX.s0, hX.s1, hX.t0, hX.t1, ⟨hX⟩⟩ (fun hHeld => ?_)
              clear hK K
              refine norm_ (a' := ?_) ?_ ?_
              rotate_left
              · show Act.put _ (some 41) _ = _
                simp only [Act.put, List.setIfInBounds_toArray, List.set_cons_zero, List.set_cons_succ, i64_w, i32_w]
                rfl
              exact norm_ (by simp only [putAll, Act.put, List.setIfInBounds_toArray, List.set_cons_zero, List.set_cons_succ]) (hCont w14.heap.size _ ⟨hHeld.2.2.2.2, hQ⟩)
          · skip
            refine value_ (w1 := ?_) (v := ?_) (by rfl) rfl ?_ ?_
            rotate_left 2
            · go_simp
              constructor
              · rfl
              · rfl
            have hX := hHeld.2.2.2.2.out.step (below_alloc (Below.refl _ _) (.cells #[.slice A i c] 22))
            have hQ : (w12.alloc (.cells #[.slice A i c] 22)).cell? ⟨w12.heap.size, 0, none⟩ = some (.slice A i c) := (blk_cell (blk_new _ _) 0).trans rfl
            refine hK.out _ _ ⟨hX.s0, hX.s1, hX.t0, hX.t1, ⟨hX⟩⟩ (fun hHeld => ?_)
            clear hK K
            refine norm_ (a' := ?_) ?_ ?_
            rotate_left
            · show Act.put _ (some 43) _ = _
              simp only [Act.put, List.setIfInBounds_toArray, List.set_cons_zero, List.set_cons_succ, i64_w, i32_w]
              rfl
            refine one_ (i := 14) (N := some 40) #[true, true, true, true, true, true, true, true, true, true, true, true, true, true, true, false, true, true, false, false, false, false, false, false, false] rfl rfl (by kernel_rfl) (by decide) (fun K hK => ?_)
            refine goes_ Try.func8 (by kernel_rfl) rfl #[.agg #[.int .u32 1, .int .u32 0], .slice A i c] (by rfl) rfl rfl (by simp only [List.map_toArray, List.map_cons, List.map_nil]; rfl) ?_
            with_reducible refine (take_calls k 1 0 A i c l (tk (1, 0) l).1 (tk (1, 0) l).2 _ hHeld.2.2.2.2.out.r HC.out HT3.out).mono ?_
            rintro e w14 ⟨rfl, hb⟩
            refine ⟨_, rfl, ?_⟩
            have hX := hHeld.2.2.2.2.out.step hb
            have hQ := pw_cell_below hb hQ
            refine hK.out _ _ ⟨hX.s0, hX.s1, hX.t0, hX.t1, ⟨hX⟩⟩ (fun hHeld => ?_)
            clear hK K
            refine norm_ (a' := ?_) ?_ ?_
            rotate_left
            · show Act.put _ (some 40) _ = _
              simp only [Act.put, List.setIfInBounds_toArray, List.set_cons_zero, List.set_cons_succ, i64_w, i32_w]
              rfl
            refine one_ (i := 15) (N := some 41) #[true, true, true, true, true, true, true, true, true, true, true, true, true, true, true, true, true, true, false, false, false, false, false, false, false] rfl rfl (by kernel_rfl) (by decide) (fun K hK => ?_)
            refine goes_ Try.func11 (by kernel_rfl) rfl #[.agg #[.int .u32 (tk (1, 0) l).1, .int .u32 (tk (1, 0) l).2]] (by rfl) rfl rfl (by simp only [List.map_toArray, List.map_cons, List.map_nil]; rfl) ?_
            with_reducible refine (sum_Running_Value.calls _ _ v _ HV.out).mono ?_
            rintro e w15 ⟨rfl, hb⟩
            refine ⟨_, rfl, ?_⟩
            have hX := hHeld.2.2.2.2.out.step hb
            have hQ := pw_cell_below hb hQ
            refine hK.out _ _ ⟨hX.s0, hX.s1, hX.t0, hX.t1, ⟨hX⟩⟩ (fun hHeld => ?_)
            clear hK K
            refine norm_ (a' := ?_) ?_ ?_
            rotate_left
            · show Act.put _ (some 41) _ = _
              simp only [Act.put, List.setIfInBounds_toArray, List.set_cons_zero, List.set_cons_succ, i64_w, i32_w]
              rfl
            exact norm_ (by simp only [putAll, Act.put, List.setIfInBounds_toArray, List.set_cons_zero, List.set_cons_succ]) (hCont w12.heap.size _ ⟨hHeld.2.2.2.2, hQ⟩)
        · skip
          refine value_ (w1 := ?_) (v := ?_) (by rfl) rfl ?_ ?_
          rotate_left 2
          · go_simp
            constructor
            · rfl
            · rfl
          have hX := hHeld.2.2.2.2.out.step (below_alloc (Below.refl _ _) (.cells #[.slice A i c] 22))
          have hQ : (w7.alloc (.cells #[.slice A i c] 22)).cell? ⟨w7.heap.size, 0, none⟩ = some (.slice A i c) := (blk_cell (blk_new _ _) 0).trans rfl
          refine hK.out _ _ ⟨hX.s0, hX.s1, hX.t0, hX.t1, ⟨hX⟩⟩ (fun hHeld => ?_)
          clear hK K
          refine norm_ (a' := ?_) ?_ ?_
          rotate_left
          · show Act.put _ (some 43) _ = _
            simp only [Act.put, List.setIfInBounds_toArray, List.set_cons_zero, List.set_cons_succ, i64_w, i32_w]
            rfl
          refine one_ (i := 12) (N := some 38) #[true, true, true, true, true, true, true, true, true, true, true, true, true, true, false, false, true, true, false, false, false, false, false, false, false] rfl rfl (by kernel_rfl) (by decide) (fun K hK => ?_)
          refine goes_ Try.func13 (by kernel_rfl) rfl #[] (by rfl) rfl rfl (by simp only [List.map_toArray, List.map_nil]) ?_
          with_reducible refine (sum_Begin.calls 1 0 _ rfl).mono ?_
          rintro e w12 ⟨rfl, hb⟩
          refine ⟨_, rfl, ?_⟩
          have hX := hHeld.2.2.2.2.out.step hb
          have hQ := pw_cell_below hb hQ
          refine hK.out _ _ ⟨hX.s0, hX.s1, hX.t0, hX.t1, ⟨hX⟩⟩ (fun hHeld => ?_)
          clear hK K
          refine norm_ (a' := ?_) ?_ ?_
          rotate_left
          · show Act.put _ (some 38) _ = _
            simp only [Act.put, List.setIfInBounds_toArray, List.set_cons_zero, List.set_cons_succ, i64_w, i32_w]
            rfl
          refine one_ (i := 14) (N := some 40) #[true, true, true, true, true, true, true, true, true, true, true, true, true, true, true, false, true, true, false, false, false, false, false, false, false] rfl rfl (by kernel_rfl) (by decide) (fun K hK => ?_)
          refine goes_ Try.func8 (by kernel_rfl) rfl #[.agg #[.int .u32 1, .int .u32 0], .slice A i c] (by rfl) rfl rfl (by simp only [List.map_toArray, List.map_cons, List.map_nil]; rfl) ?_
          with_reducible refine (take_calls k 1 0 A i c l (tk (1, 0) l).1 (tk (1, 0) l).2 _ hHeld.2.2.2.2.out.r HC.out HT3.out).mono ?_
          rintro e w14 ⟨rfl, hb⟩
          refine ⟨_, rfl, ?_⟩
          have hX := hHeld.2.2.2.2.out.step hb
          have hQ := pw_cell_below hb hQ
          refine hK.out _ _ ⟨hX.s0, hX.s1, hX.t0, hX.t1, ⟨hX⟩⟩ (fun hHeld => ?_)
          clear hK K
          refine norm_ (a' := ?_) ?_ ?_
          rotate_left
          · show Act.put _ (some 40) _ = _
            simp only [Act.put, List.setIfInBounds_toArray, List.set_cons_zero, List.set_cons_succ, i64_w, i32_w]
            rfl
          refine one_ (i := 15) (N := some 41) #[true, true, true, true, true, true, true, true, true, true, true, true, true, true, true, true, true, true, false, false, false, false, false, false, false] rfl rfl (by kernel_rfl) (by decide) (fun K hK => ?_)
          refine goes_ Try.func11 (by kernel_rfl) rfl #[.agg #[.int .u32 (tk (1, 0) l).1, .int .u32 (tk (1, 0) l).2]] (by rfl) rfl rfl (by simp only [List.map_toArray, List.map_cons, List.map_nil]; rfl) ?_
          with_reducible refine (sum_Running_Value.calls _ _ v _ HV.out).mono ?_
          rintro e w15 ⟨rfl, hb⟩
          refine ⟨_, rfl, ?_⟩
          have hX := hHeld.2.2.2.2.out.step hb
          have hQ := pw_cell_below hb hQ
          refine hK.out _ _ ⟨hX.s0, hX.s1, hX.t0, hX.t1, ⟨hX⟩⟩ (fun hHeld => ?_)
          clear hK K
          refine norm_ (a' := ?_) ?_ ?_
          rotate_left
          · show Act.put _ (some 41) _ = _
            simp only [Act.put, List.setIfInBounds_toArray, List.set_cons_zero, List.set_cons_succ, i64_w, i32_w]
            rfl
          exact norm_ (by simp only [putAll, Act.put, List.setIfInBounds_toArray, List.set_cons_zero, List.set_cons_succ]) (hCont w7.heap.size _ ⟨hHeld.2.2.2.2, hQ⟩)
      rintro s w' ⟨HF, hQ⟩
      have hHeld := (⟨HF.out.s0, HF.out.s1, HF.out.t0, HF.out.t1, HF⟩ : _ ∧ _ ∧ _ ∧ _ ∧ _)
      refine norm_ (a' := ?_) ?_ ?_
      rotate_left
      · simp only [putAll, Act.put, List.setIfInBounds_toArray, List.set_cons_zero, List.set_cons_succ]
        rfl
      refine one_ (i := 18) (N := some 44) #[true, true, true, true, true, true, true, true, true, true, true, true, true, true, true, true, true, true, true, false, false, false, false, false, false] rfl rfl (by kernel_rfl) (by decide) (fun K hK => ?_)
      refine goes_ Try.func9 (by kernel_rfl) rfl #[.slice (some ⟨s, 0, none⟩) 1 1] (by rfl) rfl rfl (by simp only [List.map_toArray, List.map_cons, List.map_nil]; rfl) ?_
      with_reducible refine (sum1_calls k ⟨s, 0, none⟩ A i c l v 1 _ hQ HC.out hHeld.2.2.2.2.out.r HSu.out (Nat.le_refl _)).mono ?_
      rintro e w3 ⟨rfl, hb⟩
      refine ⟨_, rfl, ?_⟩
      have hX := hHeld.2.2.2.2.out.step hb
      refine hK.out _ _ ⟨hX.s0, hX.s1, hX.t0, hX.t1, ⟨hX⟩⟩ (fun hHeld => ?_)
      clear hK K
      refine norm_ (a' := ?_) ?_ ?_
      rotate_left
      · show Act.put _ (some 44) _ = _
        simp only [Act.put, List.setIfInBounds_toArray, List.set_cons_zero, List.set_cons_succ, i64_w, i32_w]
        rfl
      refine pure_ (i := 19) (N := some 45) (v := ?_) (a' := ?_) #[true, true, true, true, true, true, true, true, true, true, true, true, true, true, true, true, true, true, true, true, false, false, false, false, false] rfl rfl (by kernel_rfl) (fun _ _ _ h => h) (Or.inl ⟨by rfl, ?_⟩) ?_ ?_
      rotate_left
      · intro w'
        go_simp
        with_reducible rfl
      rotate_left
      · simp only [Act.put, List.setIfInBounds_toArray, List.set_cons_zero, List.set_cons_succ, i64_w, i32_w]
        rfl
      refine pure_ (i := 20) (N := some 46) (v := ?_) (a' := ?_) #[true, true, true, true, true, true, true, true, true, true, true, true, true, true, true, true, true, true, true, true, true, false, false, false, false] rfl rfl (by kernel_rfl) (fun _ _ _ h => h) (Or.inl ⟨by rfl, ?_⟩) ?_ ?_
      rotate_left
      · intro w'
        go_simp
        with_reducible rfl
      rotate_left
      · simp only [Act.put, List.setIfInBounds_toArray, List.set_cons_zero, List.set_cons_succ, i64_w, i32_w]
        rfl
      refine pure_ (i := 21) (N := some 47) (v := ?_) (a' := ?_) #[true, true, true, true, true, true, true, true, true, true, true, true, true, true, true, true, true, true, true, true, true, true, false, false, false] rfl rfl (by kernel_rfl) (fun _ _ _ h => h) (Or.inl ⟨by rfl, ?_⟩) ?_ ?_
      rotate_left
      · intro w'
        go_simp
        with_reducible rfl
      rotate_left
      · simp only [Act.put, List.setIfInBounds_toArray, List.set_cons_zero, List.set_cons_succ, i64_w, i32_w]
        rfl
      refine one_ (i := 22) (N := some 48) #[true, true, true, true, true, true, true, true, true, true, true, true, true, true, true, true, true, true, true, true, true, true, true, false, false] rfl rfl (by kernel_rfl) (by decide) (fun K hK => ?_)
      refine goes_ Try.func12 (by kernel_rfl) rfl #[] (by rfl) rfl rfl (by simp only [List.map_toArray, List.map_nil]) ?_
      with_reducible refine (one_calls _).mono ?_
      rintro e w3 ⟨rfl, hb⟩
      refine ⟨_, rfl, ?_⟩
      have hX := hHeld.2.2.2.2.out.step hb
      refine hK.out _ _ ⟨hX.s0, hX.s1, hX.t0, hX.t1, ⟨hX⟩⟩ (fun hHeld => ?_)
      clear hK K
      refine norm_ (a' := ?_) ?_ ?_
      rotate_left
      · show Act.put _ (some 48) _ = _
        simp only [Act.put, List.setIfInBounds_toArray, List.set_cons_zero, List.set_cons_succ, i64_w, i32_w]
        rfl
      refine pure_ (i := 23) (N := some 49) (v := ?_) (a' := ?_) #[true, true, true, true, true, true, true, true, true, true, true, true, true, true, true, true, true, true, true, true, true, true, true, true, false] rfl rfl (by kernel_rfl) (fun _ _ _ h => h) (Or.inl ⟨by rfl, ?_⟩) ?_ ?_
      rotate_left
      · intro w'
        go_simp
        with_reducible rfl
      rotate_left
      · simp only [Act.put, List.setIfInBounds_toArray, List.set_cons_zero, List.set_cons_succ, i64_w, i32_w]
        rfl
      refine pure_ (i := 24) (N := some 4) (v := ?_) (a' := ?_) #[true, true, true, true, true, true, true, true, true, true, true, true, true, true, true, true, true, true, true, true, true, true, true, true, true] rfl rfl (by kernel_rfl) (fun _ _ _ h => h) (Or.inl ⟨by rfl, ?_⟩) ?_ ?_
      rotate_left
      · intro w'
        go_simp
        with_reducible rfl
      rotate_left
      · simp only [Act.put, List.setIfInBounds_toArray, List.set_cons_zero, List.set_cons_succ, i64_w, i32_w]
        rfl
      refine done_ (by kernel_rfl) ?_
      go_wp2
      go_ret
      exact ⟨rfl, hHeld.2.2.2.2.out.bl⟩

set_option maxHeartbeats 1000000 in
set_option maxRecDepth 100000 in
theorem runs_cut (a b : Int) (ha : U32 a) (hb : U32 b) (A : Option Addr) (c : Nat) (n m : Nat) (hm : m = 1500) (l : List Int) (hn : 1500 < n) (hnc : n ≤ c) (w : World) (hbs : Bytes l) (hr : (Kd.int .u8).C w A m l) (hc : m ≤ c) :
    Calls Try.prog 5 #[.slice A n c, .agg #[.int .u32 a, .int .u32 b]] w fun e w' => e = .returned (.bool true) ∧ Below w.heap.size w w' := by
  have HR1 := Aside0.mk hr
  have HC := Aside0.mk hc
  have hu25 := Try.underlying25
  have h0 : decide (1500 < (n : Int)) = true := decide_eq_true (by omega)
  have hlen : m ≤ 1500 := by omega
  have HM := Aside0.mk hm
  clear hm
  clear hr hc
  go_enter Try.func5, Try.ntmps5
  go_wp2_with fail
  rw [← HM.out]
  have HS0 : Aside0 (StR w ((w.alloc (.cells #[.int .u32 a, .int .u32 b] 25)).alloc (.cells #[.int .u32 a, .int .u32 b] 25)) w.heap.size (w.heap.size + 1) a b a b A m c l) :=
    ⟨⟨below_alloc (below_alloc (Below.refl _ _) _) _, blk_alloc (blk_new _ _) _, by simpa using blk_new (w.alloc (.cells #[.int .u32 a, .int .u32 b] 25)) (.cells #[.int .u32 a, .int .u32 b] 25), Kd.C_alloc (Kd.C_alloc HR1.out _) _, by omega, by omega, C_blk HR1.out (by omega)⟩⟩
  clear h0
  go_loopg [6] m (fun kq v6 w' => ∃ (i : Nat) (x y : Int), v6 = .int .i64 i ∧ Aside0 (i + kq = m) ∧ Aside0 ((x, y) = tk (a, b) (l.take i)) ∧ Aside0 (StR w w' w.heap.size (w.heap.size + 1) a b x y A m c l))
  case atStart => exact ⟨0, a, b, rfl, ⟨by omega⟩, ⟨rfl⟩, HS0⟩
  case round =>
    clear HS0
    obtain ⟨i, x, y, rfl, HI, HXY, HS⟩ := hrel
    generalize w.heap.size = g at *
    cases gk with
    | succ k1 =>
      have hlt : i < m := by have := HI.out; omega
      have hb0 : decide ((i : Int) < (m : Int)) = true := decide_eq_true (by omega)
      go_wp2_with fail
      obtain ⟨x1, y1, k, hT1, hXY1⟩ := round_pure a b l ha hb hbs i (by rw [HR1.out.1]; exact hlt) x y HXY.out
      have HT1 := Aside0.mk hT1
      have HXY1 := Aside0.mk hXY1
      clear hT1 hXY1
      have hi0 : (0 : Int) ≤ (i : Int) := by omega
      have hi3 : (0 : Int) ≤ (i : Int) + 1 := by omega
      have hw : wrap64 ((i : Int) + 1) = (i : Int) + 1 := IntWalk.wrap64_in _ (by omega)
      have ht : ((i : Int) + 1).toNat = i + 1 := by omega
      have hci : (c = i) = False := eq_false (by have := HC.out; omega)
      have hi2 : (i : Int) + 1 ≤ (c : Int) := by have := HC.out; omega
      refine start_ (n := 8) (S := fun w' => w'.cell? ⟨g + 1, 0, none⟩ = some (.int .u32 x) ∧ w'.cell? ⟨g + 1, 1, none⟩ = some (.int .u32 y) ∧ w'.frozen? ⟨g + 1, 0, none⟩ = false ∧ w'.frozen? ⟨g + 1, 1, none⟩ = false ∧ Aside0 (StR w w' g (g + 1) a b x y A m c l)) (ds := [7]) #[false, false, false, false, false, false, false, false] (by kernel_rfl) rfl rfl ⟨(HS.out.step (below_drew (Below.refl _ _))).t0, (HS.out.step (below_drew (Below.refl _ _))).t1, (HS.out.step (below_drew (Below.refl _ _))).f0, (HS.out.step (below_drew (Below.refl _ _))).f1, ⟨(HS.out.step (below_drew (Below.refl _ _)))⟩⟩ (fun hHeld => ?_)
      refine pure_ (i := 1) (N := some 20) (v := ?_) (a' := ?_) #[false, true, false, false, false, false, false, false] rfl rfl (by kernel_rfl) (fun _ _ _ h => h) (Or.inl ⟨by rfl, ?_⟩) ?_ ?_
      rotate_left
      · intro w'
        go_simp
        with_reducible rfl
      rotate_left
      · simp only [Act.put, List.setIfInBounds_toArray, List.set_cons_zero, List.set_cons_succ, i64_w, i32_w]
        rfl
      refine pure_ (i := 2) (N := some 21) (v := ?_) (a' := ?_) #[false, true, true, false, false, false, false, false] rfl rfl (by kernel_rfl) (fun _ _ _ h => h) (Or.inl ⟨by rfl, ?_⟩) ?_ ?_
      rotate_left
      · intro w'
        go_simp
        with_reducible rfl
      rotate_left
      · simp only [Act.put, List.setIfInBounds_toArray, List.set_cons_zero, List.set_cons_succ, i64_w, i32_w]
        rfl
      refine pure_ (i := 3) (N := some 22) (v := ?_) (a' := ?_) #[false, true, true, true, false, false, false, false] rfl rfl (by kernel_rfl) (fun _ _ _ h => h) (Or.inl ⟨by rfl, ?_⟩) ?_ ?_
      rotate_left
      · intro w'
        go_simp
        with_reducible rfl
      rotate_left
      · simp only [Act.put, List.setIfInBounds_toArray, List.set_cons_zero, List.set_cons_succ, i64_w, i32_w]
        rfl
      refine pure_ (i := 4) (N := some 23) (v := ?_) (a' := ?_) #[false, true, true, true, true, false, false, false] rfl rfl (by kernel_rfl) (fun _ _ _ h => h) (Or.inl ⟨by rfl, ?_⟩) ?_ ?_
      rotate_left
      · intro w'
        go_simp
        with_reducible rfl
      rotate_left
      · simp only [Act.put, List.setIfInBounds_toArray, List.set_cons_zero, List.set_cons_succ, i64_w, i32_w]
        rfl
      refine pure_ (i := 5) (N := some 24) (v := ?_) (a' := ?_) #[false, true, true, true, true, true, false, false] rfl rfl (by kernel_rfl) (fun _ _ _ h => h) (Or.inl ⟨by rfl, ?_⟩) ?_ ?_
      rotate_left
      · intro w'
        go_simp
        with_reducible rfl
      rotate_left
      · simp only [Act.put, List.setIfInBounds_toArray, List.set_cons_zero, List.set_cons_succ, i64_w, i32_w]
        rfl
      refine take_ (i := 0) (N := some 19) (v := ?_) (a' := ?_) #[true, true, true, true, true, true, false, false] rfl rfl (by kernel_rfl) (fun _ _ _ h => h) (Or.inl ⟨by rfl, ?_⟩) hHeld ?_ ?_
      rotate_left
      · rintro w' ⟨s0, s1, s2, s3, s4⟩
        go_simp
        with_reducible rfl
      rotate_left
      · simp only [Act.put, List.setIfInBounds_toArray, List.set_cons_zero, List.set_cons_succ, i64_w, i32_w]
        rfl
      refine one_ (i := 6) (N := some 25) #[true, true, true, true, true, true, true, false] rfl rfl (by kernel_rfl) (by decide) (fun K hK => ?_)
      refine goes_ Try.func8 (by kernel_rfl) rfl #[.agg #[.int .u32 x, .int .u32 y], .slice (A.map (·.add i)) 1 (c - i)] (by rfl) rfl rfl (by simp only [List.map_toArray, List.map_cons, List.map_nil]; rfl) ?_
      with_reducible refine (take_calls k x y (A.map (·.add i)) 1 (c - i) [rd l i] x1 y1 _ (C_sub hHeld.2.2.2.2.out.r i hlt) (by omega) HT1.out).mono ?_
      rintro e w3 ⟨rfl, hb⟩
      refine ⟨_, rfl, ?_⟩
      have hX := hHeld.2.2.2.2.out.step hb
      refine hK.out _ _ ⟨hX.t0, hX.t1, hX.f0, hX.f1, ⟨hX⟩⟩ (fun hHeld => ?_)
      clear hK K
      refine norm_ (a' := ?_) ?_ ?_
      rotate_left
      · show Act.put _ (some 25) _ = _
        simp only [Act.put, List.setIfInBounds_toArray, List.set_cons_zero, List.set_cons_succ, i64_w, i32_w]
        rfl
      refine last_ (i := 7) (N := none) #[true, true, true, true, true, true, true, true] rfl rfl (by kernel_rfl) (by decide) (fun K hK => ?_)
      refine skip_ (w1 := ?_) (by rfl) rfl ?_ ?_
      rotate_left
      · go_simp
        rfl
      refine hK.out _ _ ?_
      clear hK K
      refine done_ (by kernel_rfl) ?_
      have HS' := Aside0.mk (hHeld.2.2.2.2.out.put x1 y1)
      clear HS hHeld hX hw ht hci hi0 hi2 hi3 hb
      go_wp2_with fail
      go_roundg k1
      case measure => omega
      case rel => exact ⟨i + 1, x1, y1, by go_num, ⟨by have := HI.out; omega⟩, HXY1, HS'⟩
    | zero =>
      obtain rfl : i = m := by have := HI.out; omega
      have hb0 : decide ((i : Int) < (i : Int)) = false := decide_eq_false (by omega)
      obtain ⟨k, v, hT1, hT2, hT3, hV, hSu⟩ := end_pure a b l ha hb hbs (by rw [HR1.out.1]; exact hlen) x y (by have := HXY.out; rwa [List.take_of_length_le (by rw [HR1.out.1]; exact Nat.le_refl _)] at this)
      have HT1 := Aside0.mk hT1
      have HT2 := Aside0.mk hT2
      have HT3 := Aside0.mk hT3
      have HV := Aside0.mk hV
      have HSu := Aside0.mk hSu
      clear hT1 hT2 hT3 hV hSu HXY HI
      go_wp2_with fail
      refine start_ (n := 25) (S := fun w' => w'.cell? ⟨g, 0, none⟩ = some (.int .u32 a) ∧ w'.cell? ⟨g, 1, none⟩ = some (.int .u32 b) ∧ w'.cell? ⟨g + 1, 0, none⟩ = some (.int .u32 x) ∧ w'.cell? ⟨g + 1, 1, none⟩ = some (.int .u32 y) ∧ Aside0 (StR w w' g (g + 1) a b x y A i c l)) (ds := []) #[false, false, false, false, false, false, false, false, false, false, false, false, false, false, false, false, false, false, false, false, false, false, false, false, false] (by kernel_rfl) rfl rfl ⟨(HS.out.step (below_drew (Below.refl _ _))).s0, (HS.out.step (below_drew (Below.refl _ _))).s1, (HS.out.step (below_drew (Below.refl _ _))).t0, (HS.out.step (below_drew (Below.refl _ _))).t1, ⟨(HS.out.step (below_drew (Below.refl _ _)))⟩⟩ (fun hHeld => ?_)
      refine pure_ (i := 2) (N := some 28) (v := ?_) (a' := ?_) #[false, false, true, false, false, false, false, false, false, false, false, false, false, false, false, false, false, false, false, false, false, false, false, false, false] rfl rfl (by kernel_rfl) (fun _ _ _ h => h) (Or.inl ⟨by rfl, ?_⟩) ?_ ?_
      rotate_left
      · intro w'
        go_simp
        with_reducible rfl
      rotate_left
      · simp only [Act.put, List.setIfInBounds_toArray, List.set_cons_zero, List.set_cons_succ, i64_w, i32_w]
        rfl
      refine take_ (i := 0) (N := some 26) (v := ?_) (a' := ?_) #[true, false, true, false, false, false, false, false, false, false, false, false, false, false, false, false, false, false, false, false, false, false, false, false, false] rfl rfl (by kernel_rfl) (fun _ _ _ h => h) (Or.inl ⟨by rfl, ?_⟩) hHeld ?_ ?_
      rotate_left
      · rintro w' ⟨s0, s1, s2, s3, s4⟩
        go_simp
        with_reducible rfl
      rotate_left
      · simp only [Act.put, List.setIfInBounds_toArray, List.set_cons_zero, List.set_cons_succ, i64_w, i32_w]
        rfl
      refine take_ (i := 1) (N := some 27) (v := ?_) (a' := ?_) #[true, true, true, false, false, false, false, false, false, false, false, false, false, false, false, false, false, false, false, false, false, false, false, false, false] rfl rfl (by kernel_rfl) (fun _ _ _ h => h) (Or.inl ⟨by rfl, ?_⟩) hHeld ?_ ?_
      rotate_left
      · rintro w' ⟨s0, s1, s2, s3, s4⟩
        go_simp
        with_reducible rfl
      rotate_left
      · simp only [Act.put, List.setIfInBounds_toArray, List.set_cons_zero, List.set_cons_succ, i64_w, i32_w]
        rfl
      refine one_ (i := 3) (N := some 29) #[true, true, true, true, false, false, false, false, false, false, false, false, false, false, false, false, false, false, false, false, false, false, false, false, false] rfl rfl (by kernel_rfl) (by decide) (fun K hK => ?_)
      refine goes_ Try.func8 (by kernel_rfl) rfl #[.agg #[.int .u32 a, .int .u32 b], .slice A i c] (by rfl) rfl rfl (by simp only [List.map_toArray, List.map_cons, List.map_nil]; rfl) ?_
      with_reducible refine (take_calls k a b A i c l x y _ hHeld.2.2.2.2.out.r HC.out HT1.out).mono ?_
      rintro e w3 ⟨rfl, hb⟩
      refine ⟨_, rfl, ?_⟩
      have hX := hHeld.2.2.2.2.out.step hb
      refine hK.out _ _ ⟨hX.s0, hX.s1, hX.t0, hX.t1, ⟨hX⟩⟩ (fun hHeld => ?_)
      clear hK K
      refine norm_ (a' := ?_) ?_ ?_
      rotate_left
      · show Act.put _ (some 29) _ = _
        simp only [Act.put, List.setIfInBounds_toArray, List.set_cons_zero, List.set_cons_succ, i64_w, i32_w]
        rfl
      refine pure_ (i := 4) (N := some 30) (v := ?_) (a' := ?_) #[true, true, true, true, true, false, false, false, false, false, false, false, false, false, false, false, false, false, false, false, false, false, false, false, false] rfl rfl (by kernel_rfl) (fun _ _ _ h => h) (Or.inl ⟨by rfl, ?_⟩) ?_ ?_
      rotate_left
      · intro w'
        go_simp
        with_reducible rfl
      rotate_left
      · simp only [Act.put, List.setIfInBounds_toArray, List.set_cons_zero, List.set_cons_succ, i64_w, i32_w]
        rfl
      refine pure_ (i := 5) (N := some 31) (v := ?_) (a' := ?_) #[true, true, true, true, true, true, false, false, false, false, false, false, false, false, false, false, false, false, false, false, false, false, false, false, false] rfl rfl (by kernel_rfl) (fun _ _ _ h => h) (Or.inl ⟨by rfl, ?_⟩) ?_ ?_
      rotate_left
      · intro w'
        go_simp
        with_reducible rfl
      rotate_left
      · simp only [Act.put, List.setIfInBounds_toArray, List.set_cons_zero, List.set_cons_succ, i64_w, i32_w]
        rfl
      refine take_ (i := 6) (N := some 32) (v := ?_) (a' := ?_) #[true, true, true, true, true, true, true, false, false, false, false, false, false, false, false, false, false, false, false, false, false, false, false, false, false] rfl rfl (by kernel_rfl) (fun _ _ _ h => h) (Or.inl ⟨by rfl, ?_⟩) hHeld ?_ ?_
      rotate_left
      · rintro w' ⟨s0, s1, s2, s3, s4⟩
        go_simp
        with_reducible rfl
      rotate_left
      · simp only [Act.put, List.setIfInBounds_toArray, List.set_cons_zero, List.set_cons_succ, i64_w, i32_w]
        rfl
      refine take_ (i := 8) (N := some 34) (v := ?_) (a' := ?_) #[true, true, true, true, true, true, true, false, true, false, false, false, false, false, false, false, false, false, false, false, false, false, false, false, false] rfl rfl (by kernel_rfl) (fun _ _ _ h => h) (Or.inl ⟨by rfl, ?_⟩) hHeld ?_ ?_
      rotate_left
      · rintro w' ⟨s0, s1, s2, s3, s4⟩
        go_simp
        with_reducible rfl
      rotate_left
      · simp only [Act.put, List.setIfInBounds_toArray, List.set_cons_zero, List.set_cons_succ, i64_w, i32_w]
        rfl
      refine one_ (i := 7) (N := some 33) #[true, true, true, true, true, true, true, true, true, false, false, false, false, false, false, false, false, false, false, false, false, false, false, false, false] rfl rfl (by kernel_rfl) (by decide) (fun K hK => ?_)
      refine goes_ Try.func8 (by kernel_rfl) rfl #[.agg #[.int .u32 a, .int .u32 b], .slice none 0 0] (by rfl) rfl rfl (by simp only [List.map_toArray, List.map_cons, List.map_nil]; rfl) ?_
      with_reducible refine (take_calls k a b none 0 0 [] a b _ (Kd.C_nil _ _) (Nat.le_refl _) HT2.out).mono ?_
      rintro e w7 ⟨rfl, hb⟩
      refine ⟨_, rfl, ?_⟩
      have hX := hHeld.2.2.2.2.out.step hb
      refine hK.out _ _ ⟨hX.s0, hX.s1, hX.t0, hX.t1, ⟨hX⟩⟩ (fun hHeld => ?_)
      clear hK K
      refine norm_ (a' := ?_) ?_ ?_
      rotate_left
      · show Act.put _ (some 33) _ = _
        simp only [Act.put, List.setIfInBounds_toArray, List.set_cons_zero, List.set_cons_succ, i64_w, i32_w]
        rfl
      refine pure_ (i := 9) (N := some 35) (v := ?_) (a' := ?_) #[true, true, true, true, true, true, true, true, true, true, false, false, false, false, false, false, false, false, false, false, false, false, false, false, false] rfl rfl (by kernel_rfl) (fun _ _ _ h => h) (Or.inl ⟨by rfl, ?_⟩) ?_ ?_
      rotate_left
      · intro w'
        go_simp
        with_reducible rfl
      rotate_left
      · simp only [Act.put, List.setIfInBounds_toArray, List.set_cons_zero, List.set_cons_succ, i64_w, i32_w]
        rfl
      refine pure_ (i := 10) (N := some 36) (v := ?_) (a' := ?_) #[true, true, true, true, true, true, true, true, true, true, true, false, false, false, false, false, false, false, false, false, false, false, false, false, false] rfl rfl (by kernel_rfl) (fun _ _ _ h => h) (Or.inl ⟨by rfl, ?_⟩) ?_ ?_
      rotate_left
      · intro w'
        go_simp
        with_reducible rfl
      rotate_left
      · simp only [Act.put, List.setIfInBounds_toArray, List.set_cons_zero, List.set_cons_succ, i64_w, i32_w]
        rfl
      refine pure_ (i := 11) (N := some 37) (v := ?_) (a' := ?_) #[true, true, true, true, true, true, true, true, true, true, true, true, false, false, false, false, false, false, false, false, false, false, false, false, false] rfl rfl (by kernel_rfl) (fun _ _ _ h => h) (Or.inl ⟨by rfl, ?_⟩) ?_ ?_
      rotate_left
      · intro w'
        go_simp
        with_reducible rfl
      rotate_left
      · simp only [Act.put, List.setIfInBounds_toArray, List.set_cons_zero, List.set_cons_succ, i64_w, i32_w]
        rfl
      refine pure_ (i := 13) (N := some 39) (v := ?_) (a' := ?_) #[true, true, true, true, true, true, true, true, true, true, true, true, false, true, false, false, false, false, false, false, false, false, false, false, false] rfl rfl (by kernel_rfl) (fun _ _ _ h => h) (Or.inl ⟨by rfl, ?_⟩) ?_ ?_
      rotate_left
      · intro w'
        go_simp
        with_reducible rfl
      rotate_left
      · simp only [Act.put, List.setIfInBounds_toArray, List.set_cons_zero, List.set_cons_succ, i64_w, i32_w]
        rfl
      refine pure_ (i := 16) (N := some 42) (v := ?_) (a' := ?_) #[true, true, true, true, true, true, true, true, true, true, true, true, false, true, false, false, true, false, false, false, false, false, false, false, false] rfl rfl (by kernel_rfl) (fun _ _ _ h => h) (Or.inl ⟨by rfl, ?_⟩) ?_ ?_
      rotate_left
      · intro w'
        go_simp
        with_reducible rfl
      rotate_left
      · simp only [Act.put, List.setIfInBounds_toArray, List.set_cons_zero, List.set_cons_succ, i64_w, i32_w]
        rfl
      refine join_ (σ := Nat) 7 #[true, true, true, true, true, true, true, true, true, true, true, true, true, true, true, true, true, true, false, false, false, false, false, false, false] (fun s => [(38, .agg #[.int .u32 1, .int .u32 0]), (40, .agg #[.int .u32 (tk (1, 0) l).1, .int .u32 (tk (1, 0) l).2]), (41, .int .u32 v), (43, .slice (some ⟨s, 0, none⟩) 1 1)]) (fun s w' => Aside0 (StR w w' g (g + 1) a b x y A i c l) ∧ w'.cell? ⟨s, 0, none⟩ = some (.slice A i c)) ?_ ?_
      rotate_left
      · intro hCont
        refine two_ (i := 12) (j := 17) (Ni := some 38) (Nj := some 43) #[true, true, true, true, true, true, true, true, true, true, true, true, true, true, false, false, true, false, false, false, false, false, false, false, false] #[true, true, true, true, true, true, true, true, true, true, true, true, false, true, false, false, true, true, false, false, false, false, false, false, false] rfl rfl rfl rfl (by kernel_rfl) (by decide) (by decide) (fun K hK => ?_) (fun K hK => ?_)
        · skip
          refine goes_ Try.func13 (by kernel_rfl) rfl #[] (by rfl) rfl rfl (by simp only [List.map_toArray, List.map_nil]) ?_
          with_reducible refine (sum_Begin.calls 1 0 _ rfl).mono ?_
          rintro e w12 ⟨rfl, hb⟩
          refine ⟨_, rfl, ?_⟩
          have hX := hHeld.2.2.2.2.out.step hb
          refine hK.out _ _ ⟨hX.s0, hX.s1, hX.t0, hX.t1, ⟨hX⟩⟩ (fun hHeld => ?_)
          clear hK K
          refine norm_ (a' := ?_) ?_ ?_
          rotate_left
          · show Act.put _ (some 38) _ = _
            simp only [Act.put, List.setIfInBounds_toArray, List.set_cons_zero, List.set_cons_succ, i64_w, i32_w]
            rfl
          refine two_ (i := 14) (j := 17) (Ni := some 40) (Nj := some 43) #[true, true, true, true, true, true, true, true, true, true, true, true, true, true, true, false, true, false, false, false, false, false, false, false, false] #[true, true, true, true, true, true, true, true, true, true, true, true, true, true, false, false, true, true, false, false, false, false, false, false, false] rfl rfl rfl rfl (by kernel_rfl) (by decide) (by decide) (fun K hK => ?_) (fun K hK => ?_)
          · skip
            refine goes_ Try.func8 (by kernel_rfl) rfl #[.agg #[.int .u32 1, .int .u32 0], .slice A i c] (by rfl) rfl rfl (by simp only [List.map_toArray, List.map_cons, List.map_nil]; rfl) ?_
            with_reducible refine (take_calls k 1 0 A i c l (tk (1, 0) l).1 (tk (1, 0) l).2 _ hHeld.2.2.2.2.out.r HC.out HT3.out).mono ?_
            rintro e w14 ⟨rfl, hb⟩
            refine ⟨_, rfl, ?_⟩
            have hX := hHeld.2.2.2.2.out.step hb
            refine hK.out _ _ ⟨hX.s0, hX.s1, hX.t0, hX.t1, ⟨hX⟩⟩ (fun hHeld => ?_)
            clear hK K
            refine norm_ (a' := ?_) ?_ ?_
            rotate_left
            · show Act.put _ (some 40) _ = _
              simp only [Act.put, List.setIfInBounds_toArray, List.set_cons_zero, List.set_cons_succ, i64_w, i32_w]
              rfl
            refine two_ (i := 15) (j := 17) (Ni := some 41) (Nj := some 43) #[true, true, true, true, true, true, true, true, true, true, true, true, true, true, true, true, true, false, false, false, false, false, false, false, false] #[true, true, true, true, true, true, true, true, true, true, true, true, true, true, true, false, true, true, false, false, false, false, false, false, false] rfl rfl rfl rfl (by kernel_rfl) (by decide) (by decide) (fun K hK => ?_) (fun K hK => ?_)
            · skip
              refine goes_ Try.func11 (by kernel_rfl) rfl #[.agg #[.int .u32 (tk (1, 0) l).1, .int .u32 (tk (1, 0) l).2]] (by rfl) rfl rfl (by simp only [List.map_toArray, List.map_cons, List.map_nil]; rfl) ?_
              with_reducible refine (sum_Running_Value.calls _ _ v _ HV.out).mono ?_
              rintro e w15 ⟨rfl, hb⟩
              refine ⟨_, rfl, ?_⟩
              have hX := hHeld.2.2.2.2.out.step hb
              refine hK.out _ _ ⟨hX.s0, hX.s1, hX.t0, hX.t1, ⟨hX⟩⟩ (fun hHeld => ?_)
              clear hK K
              refine norm_ (a' := ?_) ?_ ?_
              rotate_left
              · show Act.put _ (some 41) _ = _
                simp only [Act.put, List.setIfInBounds_toArray, List.set_cons_zero, List.set_cons_succ, i64_w, i32_w]
                rfl
              refine one_ (i := 17) (N := some 43) #[true, true, true, true, true, true, true, true, true, true, true, true, true, true, true, true, true, true, false, false, false, false, false, false, false] rfl rfl (by kernel_rfl) (by decide) (fun K hK => ?_)
              refine value_ (w1 := ?_) (v := ?_) (by rfl) rfl ?_ ?_
              rotate_left 2
              · go_simp
                constructor
                · rfl
                · rfl
              have hX := hHeld.2.2.2.2.out.step (below_alloc (Below.refl _ _) (.cells #[.slice A i c] 22))
              have hQ : (w15.alloc (.cells #[.slice A i c] 22)).cell? ⟨w15.heap.size, 0, none⟩ = some (.slice A i c) := (blk_cell (blk_new _ _) 0).trans rfl
              refine hK.out _ _ ⟨hX.s0, hX.s1, hX.t0, hX.t1, ⟨hX⟩⟩ (fun hHeld => ?_)
              clear hK K
              refine norm_ (a' := ?_) ?_ ?_
              rotate_left
              · show Act.put _ (some 43) _ = _
                simp only [Act.put, List.setIfInBounds_toArray, List.set_cons_zero, List.set_cons_succ, i64_w, i32_w]
                rfl
              exact norm_ (by simp only [putAll, Act.put, List.setIfInBounds_toArray, List.set_cons_zero, List.set_cons_succ]) (hCont w15.heap.size _ ⟨hHeld.2.2.2.2, hQ⟩)
            · skip
              refine value_ (w1 := ?_) (v := ?_) (by rfl) rfl ?_ ?_
              rotate_left 2
              · go_simp
                constructor
                · rfl
                · rfl
              have hX := hHeld.2.2.2.2.out.step (below_alloc (Below.refl _ _) (.cells #[.slice A i c] 22))
              have hQ : (w14.alloc (.cells #[.slice A i c] 22)).cell? ⟨w14.heap.size, 0, none⟩ = some (.slice A i c) := (blk_cell (blk_new _ _) 0).trans rfl
              refine hK.out _ _ ⟨hX.s0, hX.s1, hX.t0, hX.t1, ⟨hX⟩⟩ (fun hHeld => ?_)
              clear hK K
              refine norm_ (a' := ?_) ?_ ?_
              rotate_left
              · show Act.put _ (some 43) _ = _
                simp only [Act.put, List.setIfInBounds_toArray, List.set_cons_zero, List.set_cons_succ, i64_w, i32_w]
                rfl
              refine one_ (i := 15) (N := some 41) #[true, true, true, true, true, true, true, true, true, true, true, true, true, true, true, true, true, true, false, false, false, false, false, false, false] rfl rfl (by kernel_rfl) (by decide) (fun K hK => ?_)
              refine goes_ Try.func11 (by kernel_rfl) rfl #[.agg #[.int .u32 (tk (1, 0) l).1, .int .u32 (tk (1, 0) l).2]] (by rfl) rfl rfl (by simp only [List.map_toArray, List.map_cons, List.map_nil]; rfl) ?_
              with_reducible refine (sum_Running_Value.calls _ _ v _ HV.out).mono ?_
              rintro e w15 ⟨rfl, hb⟩
              refine ⟨_, rfl, ?_⟩
              have hX := hHeld.2.2.2.2.out.step hb
              have hQ := pw_cell_below hb hQ
              refine hK.out _ _ ⟨hX.s0, hX.s1, hX.t0, hX.t1, ⟨hX⟩⟩ (fun hHeld => ?_)
              clear hK K
              refine norm_ (a' := ?_) ?_ ?_
              rotate_left
              · show Act.put _ (some 41) _ = _
                simp only [Act.put, List.setIfInBounds_toArray, List.set_cons_zero, List.set_cons_succ, i64_w, i32_w]
                rfl
              exact norm_ (by simp only [putAll, Act.put, List.setIfInBounds_toArray, List.set_cons_zero, List.set_cons_succ]) (hCont w14.heap.size _ ⟨hHeld.2.2.2.2, hQ⟩)
          · skip
            refine value_ (w1 := ?_) (v := ?_) (by rfl) rfl ?_ ?_
            rotate_left 2
            · go_simp
              constructor
              · rfl
              · rfl
            have hX := hHeld.2.2.2.2.out.step (below_alloc (Below.refl _ _) (.cells #[.slice A i c] 22))
            have hQ : (w12.alloc (.cells #[.slice A i c] 22)).cell? ⟨w12.heap.size, 0, none⟩ = some (.slice A i c) := (blk_cell (blk_new _ _) 0).trans rfl
            refine hK.out _ _ ⟨hX.s0, hX.s1, hX.t0, hX.t1, ⟨hX⟩⟩ (fun hHeld => ?_)
            clear hK K
            refine norm_ (a' := ?_) ?_ ?_
            rotate_left
            · show Act.put _ (some 43) _ = _
              simp only [Act.put, List.setIfInBounds_toArray, List.set_cons_zero, List.set_cons_succ, i64_w, i32_w]
              rfl
            refine one_ (i := 14) (N := some 40) #[true, true, true, true, true, true, true, true, true, true, true, true, true, true, true, false, true, true, false, false, false, false, false, false, false] rfl rfl (by kernel_rfl) (by decide) (fun K hK => ?_)
            refine goes_ Try.func8 (by kernel_rfl) rfl #[.agg #[.int .u32 1, .int .u32 0], .slice A i c] (by rfl) rfl rfl (by simp only [List.map_toArray, List.map_cons, List.map_nil]; rfl) ?_
            with_reducible refine (take_calls k 1 0 A i c l (tk (1, 0) l).1 (tk (1, 0) l).2 _ hHeld.2.2.2.2.out.r HC.out HT3.out).mono ?_
            rintro e w14 ⟨rfl, hb⟩
            refine ⟨_, rfl, ?_⟩
            have hX := hHeld.2.2.2.2.out.step hb
            have hQ := pw_cell_below hb hQ
            refine hK.out _ _ ⟨hX.s0, hX.s1, hX.t0, hX.t1, ⟨hX⟩⟩ (fun hHeld => ?_)
            clear hK K
            refine norm_ (a' := ?_) ?_ ?_
            rotate_left
            · show Act.put _ (some 40) _ = _
              simp only [Act.put, List.setIfInBounds_toArray, List.set_cons_zero, List.set_cons_succ, i64_w, i32_w]
              rfl
            refine one_ (i := 15) (N := some 41) #[true, true, true, true, true, true, true, true, true, true, true, true, true, true, true, true, true, true, false, false, false, false, false, false, false] rfl rfl (by kernel_rfl) (by decide) (fun K hK => ?_)
            refine goes_ Try.func11 (by kernel_rfl) rfl #[.agg #[.int .u32 (tk (1, 0) l).1, .int .u32 (tk (1, 0) l).2]] (by rfl) rfl rfl (by simp only [List.map_toArray, List.map_cons, List.map_nil]; rfl) ?_
            with_reducible refine (sum_Running_Value.calls _ _ v _ HV.out).mono ?_
            rintro e w15 ⟨rfl, hb⟩
            refine ⟨_, rfl, ?_⟩
            have hX := hHeld.2.2.2.2.out.step hb
            have hQ := pw_cell_below hb hQ
            refine hK.out _ _ ⟨hX.s0, hX.s1, hX.t0, hX.t1, ⟨hX⟩⟩ (fun hHeld => ?_)
            clear hK K
            refine norm_ (a' := ?_) ?_ ?_
            rotate_left
            · show Act.put _ (some 41) _ = _
              simp only [Act.put, List.setIfInBounds_toArray, List.set_cons_zero, List.set_cons_succ, i64_w, i32_w]
              rfl
            exact norm_ (by simp only [putAll, Act.put, List.setIfInBounds_toArray, List.set_cons_zero, List.set_cons_succ]) (hCont w12.heap.size _ ⟨hHeld.2.2.2.2, hQ⟩)
        · skip
          refine value_ (w1 := ?_) (v := ?_) (by rfl) rfl ?_ ?_
          rotate_left 2
          · go_simp
            constructor
            · rfl
            · rfl
          have hX := hHeld.2.2.2.2.out.step (below_alloc (Below.refl _ _) (.cells #[.slice A i c] 22))
          have hQ : (w7.alloc (.cells #[.slice A i c] 22)).cell? ⟨w7.heap.size, 0, none⟩ = some (.slice A i c) := (blk_cell (blk_new _ _) 0).trans rfl
          refine hK.out _ _ ⟨hX.s0, hX.s1, hX.t0, hX.t1, ⟨hX⟩⟩ (fun hHeld => ?_)
          clear hK K
          refine norm_ (a' := ?_) ?_ ?_
          rotate_left
          · show Act.put _ (some 43) _ = _
            simp only [Act.put, List.setIfInBounds_toArray, List.set_cons_zero, List.set_cons_succ, i64_w, i32_w]
            rfl
          refine one_ (i := 12) (N := some 38) #[true, true, true, true, true, true, true, true, true, true, true, true, true, true, false, false, true, true, false, false, false, false, false, false, false] rfl rfl (by kernel_rfl) (by decide) (fun K hK => ?_)
          refine goes_ Try.func13 (by kernel_rfl) rfl #[] (by rfl) rfl rfl (by simp only [List.map_toArray, List.map_nil]) ?_
          with_reducible refine (sum_Begin.calls 1 0 _ rfl).mono ?_
          rintro e w12 ⟨rfl, hb⟩
          refine ⟨_, rfl, ?_⟩
          have hX := hHeld.2.2.2.2.out.step hb
          have hQ := pw_cell_below hb hQ
          refine hK.out _ _ ⟨hX.s0, hX.s1, hX.t0, hX.t1, ⟨hX⟩⟩ (fun hHeld => ?_)
          clear hK K
          refine norm_ (a' := ?_) ?_ ?_
          rotate_left
          · show Act.put _ (some 38) _ = _
            simp only [Act.put, List.setIfInBounds_toArray, List.set_cons_zero, List.set_cons_succ, i64_w, i32_w]
            rfl
          refine one_ (i := 14) (N := some 40) #[true, true, true, true, true, true, true, true, true, true, true, true, true, true, true, false, true, true, false, false, false, false, false, false, false] rfl rfl (by kernel_rfl) (by decide) (fun K hK => ?_)
          refine goes_ Try.func8 (by kernel_rfl) rfl #[.agg #[.int .u32 1, .int .u32 0], .slice A i c] (by rfl) rfl rfl (by simp only [List.map_toArray, List.map_cons, List.map_nil]; rfl) ?_
          with_reducible refine (take_calls k 1 0 A i c l (tk (1, 0) l).1 (tk (1, 0) l).2 _ hHeld.2.2.2.2.out.r HC.out HT3.out).mono ?_
          rintro e w14 ⟨rfl, hb⟩
          refine ⟨_, rfl, ?_⟩
          have hX := hHeld.2.2.2.2.out.step hb
          have hQ := pw_cell_below hb hQ
          refine hK.out _ _ ⟨hX.s0, hX.s1, hX.t0, hX.t1, ⟨hX⟩⟩ (fun hHeld => ?_)
          clear hK K
          refine norm_ (a' := ?_) ?_ ?_
          rotate_left
          · show Act.put _ (some 40) _ = _
            simp only [Act.put, List.setIfInBounds_toArray, List.set_cons_zero, List.set_cons_succ, i64_w, i32_w]
            rfl
          refine one_ (i := 15) (N := some 41) #[true, true, true, true, true, true, true, true, true, true, true, true, true, true, true, true, true, true, false, false, false, false, false, false, false] rfl rfl (by kernel_rfl) (by decide) (fun K hK => ?_)
          refine goes_ Try.func11 (by kernel_rfl) rfl #[.agg #[.int .u32 (tk (1, 0) l).1, .int .u32 (tk (1, 0) l).2]] (by rfl) rfl rfl (by simp only [List.map_toArray, List.map_cons, List.map_nil]; rfl) ?_
          with_reducible refine (sum_Running_Value.calls _ _ v _ HV.out).mono ?_
          rintro e w15 ⟨rfl, hb⟩
          refine ⟨_, rfl, ?_⟩
          have hX := hHeld.2.2.2.2.out.step hb
          have hQ := pw_cell_below hb hQ
          refine hK.out _ _ ⟨hX.s0, hX.s1, hX.t0, hX.t1, ⟨hX⟩⟩ (fun hHeld => ?_)
          clear hK K
          refine norm_ (a' := ?_) ?_ ?_
          rotate_left
          · show Act.put _ (some 41) _ = _
            simp only [Act.put, List.setIfInBounds_toArray, List.set_cons_zero, List.set_cons_succ, i64_w, i32_w]
            rfl
          exact norm_ (by simp only [putAll, Act.put, List.setIfInBounds_toArray, List.set_cons_zero, List.set_cons_succ]) (hCont w7.heap.size _ ⟨hHeld.2.2.2.2, hQ⟩)
      rintro s w' ⟨HF, hQ⟩
      have hHeld := (⟨HF.out.s0, HF.out.s1, HF.out.t0, HF.out.t1, HF⟩ : _ ∧ _ ∧ _ ∧ _ ∧ _)
      refine norm_ (a' := ?_) ?_ ?_
      rotate_left
      · simp only [putAll, Act.put, List.setIfInBounds_toArray, List.set_cons_zero, List.set_cons_succ]
        rfl
      refine one_ (i := 18) (N := some 44) #[true, true, true, true, true, true, true, true, true, true, true, true, true, true, true, true, true, true, true, false, false, false, false, false, false] rfl rfl (by kernel_rfl) (by decide) (fun K hK => ?_)
      refine goes_ Try.func9 (by kernel_rfl) rfl #[.slice (some ⟨s, 0, none⟩) 1 1] (by rfl) rfl rfl (by simp only [List.map_toArray, List.map_cons, List.map_nil]; rfl) ?_
      with_reducible refine (sum1_calls k ⟨s, 0, none⟩ A i c l v 1 _ hQ HC.out hHeld.2.2.2.2.out.r HSu.out (Nat.le_refl _)).mono ?_
      rintro e w3 ⟨rfl, hb⟩
      refine ⟨_, rfl, ?_⟩
      have hX := hHeld.2.2.2.2.out.step hb
      refine hK.out _ _ ⟨hX.s0, hX.s1, hX.t0, hX.t1, ⟨hX⟩⟩ (fun hHeld => ?_)
      clear hK K
      refine norm_ (a' := ?_) ?_ ?_
      rotate_left
      · show Act.put _ (some 44) _ = _
        simp only [Act.put, List.setIfInBounds_toArray, List.set_cons_zero, List.set_cons_succ, i64_w, i32_w]
        rfl
      refine pure_ (i := 19) (N := some 45) (v := ?_) (a' := ?_) #[true, true, true, true, true, true, true, true, true, true, true, true, true, true, true, true, true, true, true, true, false, false, false, false, false] rfl rfl (by kernel_rfl) (fun _ _ _ h => h) (Or.inl ⟨by rfl, ?_⟩) ?_ ?_
      rotate_left
      · intro w'
        go_simp
        with_reducible rfl
      rotate_left
      · simp only [Act.put, List.setIfInBounds_toArray, List.set_cons_zero, List.set_cons_succ, i64_w, i32_w]
        rfl
      refine pure_ (i := 20) (N := some 46) (v := ?_) (a' := ?_) #[true, true, true, true, true, true, true, true, true, true, true, true, true, true, true, true, true, true, true, true, true, false, false, false, false] rfl rfl (by kernel_rfl) (fun _ _ _ h => h) (Or.inl ⟨by rfl, ?_⟩) ?_ ?_
      rotate_left
      · intro w'
        go_simp
        with_reducible rfl
      rotate_left
      · simp only [Act.put, List.setIfInBounds_toArray, List.set_cons_zero, List.set_cons_succ, i64_w, i32_w]
        rfl
      refine pure_ (i := 21) (N := some 47) (v := ?_) (a' := ?_) #[true, true, true, true, true, true, true, true, true, true, true, true, true, true, true, true, true, true, true, true, true, true, false, false, false] rfl rfl (by kernel_rfl) (fun _ _ _ h => h) (Or.inl ⟨by rfl, ?_⟩) ?_ ?_
      rotate_left
      · intro w'
        go_simp
        with_reducible rfl
      rotate_left
      · simp only [Act.put, List.setIfInBounds_toArray, List.set_cons_zero, List.set_cons_succ, i64_w, i32_w]
        rfl
      refine one_ (i := 22) (N := some 48) #[true, true, true, true, true, true, true, true, true, true, true, true, true, true, true, true, true, true, true, true, true, true, true, false, false] rfl rfl (by kernel_rfl) (by decide) (fun K hK => ?_)
      refine goes_ Try.func12 (by kernel_rfl) rfl #[] (by rfl) rfl rfl (by simp only [List.map_toArray, List.map_nil]) ?_
      with_reducible refine (one_calls _).mono ?_
      rintro e w3 ⟨rfl, hb⟩
      refine ⟨_, rfl, ?_⟩
      have hX := hHeld.2.2.2.2.out.step hb
      refine hK.out _ _ ⟨hX.s0, hX.s1, hX.t0, hX.t1, ⟨hX⟩⟩ (fun hHeld => ?_)
      clear hK K
      refine norm_ (a' := ?_) ?_ ?_
      rotate_left
      · show Act.put _ (some 48) _ = _
        simp only [Act.put, List.setIfInBounds_toArray, List.set_cons_zero, List.set_cons_succ, i64_w, i32_w]
        rfl
      refine pure_ (i := 23) (N := some 49) (v := ?_) (a' := ?_) #[true, true, true, true, true, true, true, true, true, true, true, true, true, true, true, true, true, true, true, true, true, true, true, true, false] rfl rfl (by kernel_rfl) (fun _ _ _ h => h) (Or.inl ⟨by rfl, ?_⟩) ?_ ?_
      rotate_left
      · intro w'
        go_simp
        with_reducible rfl
      rotate_left
      · simp only [Act.put, List.setIfInBounds_toArray, List.set_cons_zero, List.set_cons_succ, i64_w, i32_w]
        rfl
      refine pure_ (i := 24) (N := some 4) (v := ?_) (a' := ?_) #[true, true, true, true, true, true, true, true, true, true, true, true, true, true, true, true, true, true, true, true, true, true, true, true, true] rfl rfl (by kernel_rfl) (fun _ _ _ h => h) (Or.inl ⟨by rfl, ?_⟩) ?_ ?_
      rotate_left
      · intro w'
        go_simp
        with_reducible rfl
      rotate_left
      · simp only [Act.put, List.setIfInBounds_toArray, List.set_cons_zero, List.set_cons_succ, i64_w, i32_w]
        rfl
      refine done_ (by kernel_rfl) ?_
      go_wp2
      go_ret
      exact ⟨rfl, hHeld.2.2.2.2.out.bl⟩

theorem runs_walk (a0 : Option Addr) (len0 cap0 : Nat) (z0 : List Int) {w : World} (w0 : Came w a0 len0 cap0 z0) (y0 : len0 * 1 ≤ 140737488351232) (a b : Int) (wa : (Lit.int .u32 a).wf = true) (wb : (Lit.int .u32 b).wf = true) (w1 : World) (hw : w1 = w := by rfl) :
    Calls Try.prog 5 #[.slice a0 len0 cap0, .agg #[.int .u32 a, .int .u32 b]] w1 fun e w' => e = .returned (.bool true) ∧ Below w1.heap.size w1 w' := by
  subst hw
  obtain ⟨l, hr, hc, hb⟩ := came w0
  rcases Nat.lt_or_ge 1500 len0 with h | h
  · exact runs_cut a b (u32_of wa) (u32_of wb) a0 cap0 len0 1500 rfl (l.take 1500) h hc _ (hb.take _) (C_cut hr (by omega)) (by omega)
  · exact runs_all a b (u32_of wa) (u32_of wb) a0 cap0 len0 l h _ hb hr hc
end Go.Proofs.Ytfkjilnhjaegbaa.PSum
