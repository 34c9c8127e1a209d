/- Least, Most, Area, Same; levels that are known; one that nobody made. -/
import Derived.Test.YtaeifdmabkjoiaaA6
import Derived.Test.YtaeifdmabkjoiaaA5
import Derived.Test.YtaeifdmabkjoiaaP6
import Derived.Laws.Pointers
/- The contracts of pick, Least, Most and Area. -/
namespace Go.Proofs.Ytaeifdmabkjoiaa.PPU
open Go.RowKit Go.Proofs.YtaeifdmabkjoiaaW.PrintWords Go.Proofs.YtaeifdmabkjoiaaW.PrintLast Go.Proofs.YtaeifdmabkjoiaaW.PrintMore
set_option linter.unusedVariables false
set_option linter.unusedSimpArgs false

theorem new4 (w : World) (o1 o2 o3 o4 : Obj) : ((((w.alloc o1).alloc o2).alloc o3).alloc o4).heap[w.heap.size + 1]? = some o2 ∧ ((((w.alloc o1).alloc o2).alloc o3).alloc o4).heap[w.heap.size + 2]? = some o3 ∧ ((((w.alloc o1).alloc o2).alloc o3).alloc o4).heap[w.heap.size + 3]? = some o4 := by
  have e1 : (w.alloc o1).heap.size = w.heap.size + 1 := by simp
  have e2 : ((w.alloc o1).alloc o2).heap.size = w.heap.size + 2 := by simp
  have e3 : (((w.alloc o1).alloc o2).alloc o3).heap.size = w.heap.size + 3 := by simp
  have h2 := blk_new (w.alloc o1) o2
  have h3 := blk_new ((w.alloc o1).alloc o2) o3
  have h4 := blk_new (((w.alloc o1).alloc o2).alloc o3) o4
  rw [e1] at h2
  rw [e2] at h3
  rw [e3] at h4
  exact ⟨blk_alloc (blk_alloc h2 _) _, blk_alloc h3 _, h4⟩
theorem below4 (w : World) (o1 o2 o3 o4 : Obj) : Below w.heap.size w ((((w.alloc o1).alloc o2).alloc o3).alloc o4) := ((((Below.refl _ w).alloc (Nat.le_refl _) _).alloc (by simp) _).alloc (by simp; omega) _).alloc (by simp; omega) _
set_option maxHeartbeats 4000000 in
set_option maxRecDepth 100000 in
theorem pick45 (p g cap n : Nat) (f : Nat → S67) (a b : Int) (w : World) (hI : Is w p g cap n f) (hW : Wf n f) (hn : n ≤ 2000) :
    Calls Try.prog 44 #[ptrV p, .agg #[.int .i64 a, .int .i64 b], .func (.func 45) #[] #[]] w fun e w' => e = .returned (.int .i64 ((pkS (fun x y => decide (x < y)) a b n f n).getD 0)) ∧ Below w.heap.size w w' := by
  have HI := Aside0.mk hI
  have HW := Aside0.mk hW
  have hu25 := Try.underlying25
  have hpl := hI.lt
  have hgl := hI.row.lt
  clear hI hW
  go_enter Try.func44, Try.ntmps44
  go_wp2_with fail
  have hb4 := below4 w (.cells #[.int .i64 a, .int .i64 b] 25 (0, 0)) (.cells #[.func (.func 45) #[] #[]] 85 (0, 0)) (.cells #[.int .i64 0] 3 (0, 0)) (.cells #[.bool false] 4 (0, 0))
  obtain ⟨h2, h3, h4⟩ := new4 w (.cells #[.int .i64 a, .int .i64 b] 25 (0, 0)) (.cells #[.func (.func 45) #[] #[]] 85 (0, 0)) (.cells #[.int .i64 0] 3 (0, 0)) (.cells #[.bool false] 4 (0, 0))
  have hsz : w.heap.size + 4 = ((((w.alloc (.cells #[.int .i64 a, .int .i64 b] 25 (0, 0))).alloc (.cells #[.func (.func 45) #[] #[]] 85 (0, 0))).alloc (.cells #[.int .i64 0] 3 (0, 0))).alloc (.cells #[.bool false] 4 (0, 0))).heap.size := by simp
  refine (each61 p g cap n f a b (w.heap.size + 3) (w.heap.size + 1) (w.heap.size + 2) (w.heap.size + 3) (w.heap.size + 2) (fun k w' => PkM w' (w.heap.size + 3) (w.heap.size + 1) (w.heap.size + 2) 45 (pkS (fun x y => decide (x < y)) a b n f k)) _ (HI.out.below hb4) HW.out hn ⟨h4, h2, h3⟩ (fun k w1 w2 h hb => h.below hb) (by omega) (by omega) (by omega) (by omega) (by omega) (by omega)
    (fun k w' hk h hne => by
      show PkM _ _ _ _ _ (if plo a f k < phi b n f k then _ else _)
      rw [if_neg hne]
      exact h)
    (fun k w' hk h hne => (pick1_45 _ _ _ _ _ (f k).f1 w' h (by omega) (by omega) (by omega)).mono fun e w'' ⟨he, h5, h6⟩ => ⟨he, by
      show PkM _ _ _ _ _ (if plo a f k < phi b n f k then _ else _)
      rw [if_pos hne]
      exact h5, h6⟩)).mono ?_
  rintro e w2 ⟨rfl, hj, hk2⟩
  have HB := Aside0.mk (show Below w.heap.size w w2 from hb4.trans (hk2.toBelow w.heap.size (by omega) (by omega) (by omega)))
  have c3 : w2.cell? ⟨w.heap.size + 2, 0, none⟩ = some (.int .i64 ((pkS (fun x y => decide (x < y)) a b n f n).getD 0)) := (blk_cell hj.2.2 0).trans rfl
  clear hb4 h2 h3 h4 hj hk2 hsz
  go_wp2_with fail
  go_ret
  exact ⟨rfl, HB.out⟩
set_option maxHeartbeats 4000000 in
set_option maxRecDepth 100000 in
theorem least_c (p g N : Nat) (L : Int → Int) (a b : Int) (w : World) (hS : St w p g N L) (hN : N ≤ 2000) :
    Calls Try.prog 14 #[ptrV p, .agg #[.int .i64 a, .int .i64 b]] w fun e w' => ∃ m, e = .returned (.int .i64 m) ∧ Least L a b m ∧ Below w.heap.size w w' := by
  obtain ⟨cap, n, f, hI, hW, hn, hL⟩ := hS
  have HI := Aside0.mk hI
  have HW := Aside0.mk hW
  have HL := Aside0.mk (least_law hW.toWf0 hL a b)
  have hu25 := Try.underlying25
  clear hI hW hL
  obtain ⟨m, hm⟩ : ∃ m, m = (pkS (fun x y => decide (x < y)) a b n f n).getD 0 := ⟨_, rfl⟩
  rw [← hm] at HL
  have HMm := Aside0.mk hm
  clear hm
  go_enter Try.func14, Try.ntmps14
  go_wp2_with fail
  have hb0 : Below w.heap.size w (w.alloc (.cells #[.int .i64 a, .int .i64 b] 25 (0, 0))) := (Below.refl _ w).alloc (Nat.le_refl _) _
  refine (pick45 p g cap n f a b _ (HI.out.below hb0) HW.out (by omega)).mono ?_
  rw [← HMm.out]
  rintro e w2 ⟨rfl, hb⟩
  have HB := Aside0.mk (below_step hb0 hb)
  clear hb hb0
  go_wp2_with fail
  go_ret
  exact ⟨m, rfl, HL.out, HB.out⟩
set_option maxHeartbeats 4000000 in
set_option maxRecDepth 100000 in
theorem pick46 (p g cap n : Nat) (f : Nat → S67) (a b : Int) (w : World) (hI : Is w p g cap n f) (hW : Wf n f) (hn : n ≤ 2000) :
    Calls Try.prog 44 #[ptrV p, .agg #[.int .i64 a, .int .i64 b], .func (.func 46) #[] #[]] w fun e w' => e = .returned (.int .i64 ((pkS (fun x y => decide (x > y)) a b n f n).getD 0)) ∧ Below w.heap.size w w' := by
  have HI := Aside0.mk hI
  have HW := Aside0.mk hW
  have hu25 := Try.underlying25
  have hpl := hI.lt
  have hgl := hI.row.lt
  clear hI hW
  go_enter Try.func44, Try.ntmps44
  go_wp2_with fail
  have hb4 := below4 w (.cells #[.int .i64 a, .int .i64 b] 25 (0, 0)) (.cells #[.func (.func 46) #[] #[]] 85 (0, 0)) (.cells #[.int .i64 0] 3 (0, 0)) (.cells #[.bool false] 4 (0, 0))
  obtain ⟨h2, h3, h4⟩ := new4 w (.cells #[.int .i64 a, .int .i64 b] 25 (0, 0)) (.cells #[.func (.func 46) #[] #[]] 85 (0, 0)) (.cells #[.int .i64 0] 3 (0, 0)) (.cells #[.bool false] 4 (0, 0))
  have hsz : w.heap.size + 4 = ((((w.alloc (.cells #[.int .i64 a, .int .i64 b] 25 (0, 0))).alloc (.cells #[.func (.func 46) #[] #[]] 85 (0, 0))).alloc (.cells #[.int .i64 0] 3 (0, 0))).alloc (.cells #[.bool false] 4 (0, 0))).heap.size := by simp
  refine (each61 p g cap n f a b (w.heap.size + 3) (w.heap.size + 1) (w.heap.size + 2) (w.heap.size + 3) (w.heap.size + 2) (fun k w' => PkM w' (w.heap.size + 3) (w.heap.size + 1) (w.heap.size + 2) 46 (pkS (fun x y => decide (x > y)) a b n f k)) _ (HI.out.below hb4) HW.out hn ⟨h4, h2, h3⟩ (fun k w1 w2 h hb => h.below hb) (by omega) (by omega) (by omega) (by omega) (by omega) (by omega)
    (fun k w' hk h hne => by
      show PkM _ _ _ _ _ (if plo a f k < phi b n f k then _ else _)
      rw [if_neg hne]
      exact h)
    (fun k w' hk h hne => (pick1_46 _ _ _ _ _ (f k).f1 w' h (by omega) (by omega) (by omega)).mono fun e w'' ⟨he, h5, h6⟩ => ⟨he, by
      show PkM _ _ _ _ _ (if plo a f k < phi b n f k then _ else _)
      rw [if_pos hne]
      exact h5, h6⟩)).mono ?_
  rintro e w2 ⟨rfl, hj, hk2⟩
  have HB := Aside0.mk (show Below w.heap.size w w2 from hb4.trans (hk2.toBelow w.heap.size (by omega) (by omega) (by omega)))
  have c3 : w2.cell? ⟨w.heap.size + 2, 0, none⟩ = some (.int .i64 ((pkS (fun x y => decide (x > y)) a b n f n).getD 0)) := (blk_cell hj.2.2 0).trans rfl
  clear hb4 h2 h3 h4 hj hk2 hsz
  go_wp2_with fail
  go_ret
  exact ⟨rfl, HB.out⟩
set_option maxHeartbeats 4000000 in
set_option maxRecDepth 100000 in
theorem most_c (p g N : Nat) (L : Int → Int) (a b : Int) (w : World) (hS : St w p g N L) (hN : N ≤ 2000) :
    Calls Try.prog 15 #[ptrV p, .agg #[.int .i64 a, .int .i64 b]] w fun e w' => ∃ m, e = .returned (.int .i64 m) ∧ Most L a b m ∧ Below w.heap.size w w' := by
  obtain ⟨cap, n, f, hI, hW, hn, hL⟩ := hS
  have HI := Aside0.mk hI
  have HW := Aside0.mk hW
  have HL := Aside0.mk (most_law hW.toWf0 hL a b)
  have hu25 := Try.underlying25
  clear hI hW hL
  obtain ⟨m, hm⟩ : ∃ m, m = (pkS (fun x y => decide (x > y)) a b n f n).getD 0 := ⟨_, rfl⟩
  rw [← hm] at HL
  have HMm := Aside0.mk hm
  clear hm
  go_enter Try.func15, Try.ntmps15
  go_wp2_with fail
  have hb0 : Below w.heap.size w (w.alloc (.cells #[.int .i64 a, .int .i64 b] 25 (0, 0))) := (Below.refl _ w).alloc (Nat.le_refl _) _
  refine (pick46 p g cap n f a b _ (HI.out.below hb0) HW.out (by omega)).mono ?_
  rw [← HMm.out]
  rintro e w2 ⟨rfl, hb⟩
  have HB := Aside0.mk (below_step hb0 hb)
  clear hb hb0
  go_wp2_with fail
  go_ret
  exact ⟨m, rfl, HL.out, HB.out⟩
set_option maxHeartbeats 4000000 in
set_option maxRecDepth 100000 in
theorem area_c (p g N : Nat) (L : Int → Int) (a b : Int) (w : World) (hS : St w p g N L) (hN : N ≤ 2000) :
    Calls Try.prog 16 #[ptrV p, .agg #[.int .i64 a, .int .i64 b]] w fun e w' => e = .returned (.int .i64 (min (sumL L (clp a) (clp b)) 1099511627776)) ∧ Below w.heap.size w w' := by
  obtain ⟨cap, n, f, hI, hW, hn, hL⟩ := hS
  have HI := Aside0.mk hI
  have HW := Aside0.mk hW
  have HL := Aside0.mk (area_law hW.toWf0 hL a b)
  have hu25 := Try.underlying25
  have hpl := hI.lt
  have hgl := hI.row.lt
  clear hI hW hL
  go_enter Try.func16, Try.ntmps16
  go_wp2_with fail
  have hb0 : Below w.heap.size w ((w.alloc (.cells #[.int .i64 a, .int .i64 b] 25 (0, 0))).alloc (.cells #[.int .i64 0] 23 (0, 0))) := ((Below.refl _ w).alloc (Nat.le_refl _) _).alloc (by simp) _
  have h2 := new2 w (.cells #[.int .i64 a, .int .i64 b] 25 (0, 0)) (.cells #[.int .i64 0] 23 (0, 0))
  have hsz : w.heap.size + 2 = ((w.alloc (.cells #[.int .i64 a, .int .i64 b] 25 (0, 0))).alloc (.cells #[.int .i64 0] 23 (0, 0))).heap.size := by simp
  refine (each48 p g cap n f a b (w.heap.size + 1) (w.heap.size + 1) (w.heap.size + 1) (fun k w' => w'.heap[w.heap.size + 1]? = some (.cells #[.int .i64 (arS a b n f k)] 23 (0, 0))) _ (HI.out.below hb0) HW.out (by omega) h2 (fun k w1 w2 h hb => blk_below h hb) (by omega) (by omega) (by omega) (by omega) (by omega) (by omega)
    (fun k w' hk h hne => by
      show w'.heap[w.heap.size + 1]? = some (.cells #[.int .i64 (if plo a f k < phi b n f k then _ else _)] 23 (0, 0))
      rw [if_neg hne]
      exact h)
    (fun k w' hk h hne => (area1_c _ _ _ (f k).f1 w' h (arS_bd a b n f k) (by
        have h7 := plo_bd HW.out.toWf0 a k hk
        have h8 := phi_bd HW.out.toWf0 b k hk
        omega)).mono fun e w'' ⟨he, h5, h6⟩ => ⟨he, by
      show w''.heap[w.heap.size + 1]? = some (.cells #[.int .i64 (if plo a f k < phi b n f k then _ else _)] 23 (0, 0))
      rw [if_pos hne]
      exact h5, h6⟩)).mono ?_
  rintro e w2 ⟨rfl, hj, hk2⟩
  have HB := Aside0.mk (show Below w.heap.size w w2 from hb0.trans (hk2.toBelow w.heap.size (by omega) (by omega) (by omega)))
  rw [HL.out] at hj
  have c3 : w2.cell? ⟨w.heap.size + 1, 0, none⟩ = some (.int .i64 (min (sumL L (clp a) (clp b)) 1099511627776)) := (blk_cell hj 0).trans rfl
  clear hb0 h2 hj hk2 hsz
  go_wp2_with fail
  go_ret
  exact ⟨rfl, HB.out⟩
end Go.Proofs.Ytaeifdmabkjoiaa.PPU

/- Right steps with the same levels are the same steps. -/
namespace Go.Proofs.Ytaeifdmabkjoiaa.PPU
open Go.RowKit Go.Proofs.YtaeifdmabkjoiaaW.PrintWords Go.Proofs.YtaeifdmabkjoiaaW.PrintLast Go.Proofs.YtaeifdmabkjoiaaW.PrintMore
set_option linter.unusedVariables false
set_option linter.unusedSimpArgs false

section
variable {n m : Nat} {f g : Nat → S67}
theorem uniq_half (hf : Wf n f) (hg : Wf m g) (h : ∀ s, 0 ≤ s → s < 1099511627776 → lev n f s = lev m g s) (k : Nat) (ih : ∀ j, j ≤ k → j < n → j < m ∧ f j = g j) (hk : k + 1 < n) (hgk : k + 1 < m → (f (k + 1)).f0 ≤ (g (k + 1)).f0) : k + 1 < m ∧ f (k + 1) = g (k + 1) := by
  have h0 := hf.toWf0.low (k + 1) hk
  have h1 := hf.top (k + 1) hk
  have h2 := h _ h0 h1
  rw [hf.toWf0.lev_at (k + 1) hk] at h2
  obtain ⟨h3, h4⟩ := ih k (Nat.le_refl _) (by omega)
  have hne := hf.ne k hk
  have hlt := hf.lt k (k + 1) (by omega) hk
  have hkm : k + 1 < m := by
    refine Nat.lt_of_not_le fun h5 => ?_
    have : Plc m g (f (k + 1)).f0 k := ⟨h3, by rw [← h4]; omega, fun j h6 h7 => by omega⟩
    rw [lev_plc this, ← h4] at h2
    exact hne h2.symm
  refine ⟨hkm, ?_⟩
  have hle := hgk hkm
  have heq : (f (k + 1)).f0 = (g (k + 1)).f0 := by
    refine Int.le_antisymm hle (Int.not_lt.1 fun h5 => ?_)
    have : Plc m g (f (k + 1)).f0 k := ⟨h3, by rw [← h4]; omega, fun j h6 h7 => by
      rcases Nat.eq_or_lt_of_le (Nat.succ_le_of_lt h6) with e | e
      · rw [← e]; exact h5
      · have := hg.lt (k + 1) j e h7; omega⟩
    rw [lev_plc this, ← h4] at h2
    exact hne h2.symm
  rw [heq, hg.toWf0.lev_at (k + 1) hkm] at h2
  cases hx : f (k + 1)
  cases hy : g (k + 1)
  rw [hx, hy] at heq h2
  simp only at heq h2
  rw [heq, h2]
theorem uniq (hf : Wf n f) (hg : Wf m g) (h : ∀ s, 0 ≤ s → s < 1099511627776 → lev n f s = lev m g s) : n = m ∧ ∀ k, k < n → f k = g k := by
  have key : ∀ k, (k < n ∨ k < m) → (k < n ∧ k < m) ∧ f k = g k := by
    intro k
    induction k using Nat.strongRecOn with
    | ind k ih =>
      cases k with
      | zero =>
        intro _
        refine ⟨⟨hf.pos, hg.pos⟩, ?_⟩
        have h1 := h 0 (Int.le_refl _) (by omega)
        have e1 := hf.toWf0.lev_at 0 hf.pos
        have e2 := hg.toWf0.lev_at 0 hg.pos
        rw [hf.zero] at e1
        rw [hg.zero] at e2
        rw [e1, e2] at h1
        have h2 := hf.zero
        have h3 := hg.zero
        cases hx : f 0
        cases hy : g 0
        rw [hx] at h1 h2
        rw [hy] at h1 h3
        simp only at h1 h2 h3
        rw [h1, h2, h3]
      | succ k =>
        intro hor
        have ih1 : ∀ j, j ≤ k → j < n → j < m ∧ f j = g j := fun j h1 h2 => by
          obtain ⟨⟨_, h3⟩, h4⟩ := ih j (by omega) (.inl h2)
          exact ⟨h3, h4⟩
        have ih2 : ∀ j, j ≤ k → j < m → j < n ∧ g j = f j := fun j h1 h2 => by
          obtain ⟨⟨h3, _⟩, h4⟩ := ih j (by omega) (.inr h2)
          exact ⟨h3, h4.symm⟩
        by_cases hn : k + 1 < n
        · by_cases hm : k + 1 < m
          · rcases Int.le_total (f (k + 1)).f0 (g (k + 1)).f0 with hle | hle
            · exact ⟨⟨hn, hm⟩, (uniq_half hf hg h k ih1 hn (fun _ => hle)).2⟩
            · exact ⟨⟨hn, hm⟩, (uniq_half hg hf (fun s a b => (h s a b).symm) k ih2 hm (fun _ => hle)).2.symm⟩
          · obtain ⟨h1, h2⟩ := uniq_half hf hg h k ih1 hn (fun h3 => absurd h3 hm)
            exact absurd h1 hm
        · have hm : k + 1 < m := by omega
          obtain ⟨h1, h2⟩ := uniq_half hg hf (fun s a b => (h s a b).symm) k ih2 hm (fun h3 => absurd h3 hn)
          exact absurd h1 hn
  have hnm : n = m := by
    refine Nat.le_antisymm ?_ ?_
    · refine Nat.le_of_not_lt fun h1 => ?_
      have := (key m (.inl h1)).1
      omega
    · refine Nat.le_of_not_lt fun h1 => ?_
      have := (key n (.inr h1)).1
      omega
  exact ⟨hnm, fun k hk => (key k (.inl hk)).2⟩
end
/-- slices.Equal over steps. -/
theorem equal_l0 (l0 l1 : List S67) (n : Nat) (h0 : l0.length = n) (h1 : l1.length = n) (hn : n ≤ 2000) : ∀ (d i : Nat), n - i = d → i ≤ n → ∃ r, usage_Step_57.l0 (d + 1) l0 l1 n i = some r ∧ (r = true ↔ ∀ j, i ≤ j → j < n → at67 l0 j = at67 l1 j) := by
  intro d
  induction d with
  | zero =>
    intro i hd hi
    refine ⟨true, ?_, by simp; intro j h2 h3; omega⟩
    rw [usage_Step_57.l0, if_neg (by omega)]
  | succ d ih =>
    intro i hd hi
    obtain ⟨r, h2, h3⟩ := ih (i + 1) (by omega) (by omega)
    have e0 : rd_T67 l0 (i : Int) = at67 l0 i := rfl
    have e1 : rd_T67 l1 (i : Int) = at67 l1 i := rfl
    by_cases he : at67 l0 i = at67 l1 i
    · refine ⟨r, ?_, h3.trans ⟨fun h j h4 h5 => ?_, fun h j h4 h5 => h j (by omega) h5⟩⟩
      · rw [usage_Step_57.l0, if_pos (by omega), if_pos (by omega), if_pos (by omega), if_pos (by omega), e0, e1, he, if_neg (by simp), IntWalk.wrap64_in _ (by omega)]
        exact h2
      · rcases Nat.eq_or_lt_of_le h4 with e | e
        · rw [← e]; exact he
        · exact h j e h5
    · refine ⟨false, ?_, by simp; exact ⟨i, Nat.le_refl _, by omega, he⟩⟩
      rw [usage_Step_57.l0, if_pos (by omega), if_pos (by omega), if_pos (by omega), if_pos (by omega), e0, e1, if_pos]
      cases hx : at67 l0 i
      cases hy : at67 l1 i
      rw [hx, hy] at he
      simp only [Bool.or_eq_true, Bool.not_eq_true', beq_eq_false_iff_ne]
      rw [Classical.or_iff_not_imp_left]
      intro h4 h5
      exact he (by rw [Classical.not_not.1 h4, h5])
theorem equal_f (l0 l1 : List S67) (hn : l0.length ≤ 2000) : ∃ r, usage_Step_57.f (l0.length + 1) l0 l1 = some r ∧ (r = true ↔ l0.length = l1.length ∧ ∀ j, j < l0.length → at67 l0 j = at67 l1 j) := by
  by_cases h : l0.length = l1.length
  · obtain ⟨r, h1, h2⟩ := equal_l0 l0 l1 l0.length rfl h.symm hn l0.length 0 (by omega) (by omega)
    refine ⟨r, ?_, h2.trans ⟨fun h3 => ⟨h, fun j h4 => h3 j (by omega) h4⟩, fun h3 j _ h4 => h3.2 j h4⟩⟩
    unfold usage_Step_57.f
    rw [if_pos (by omega)]
    exact h1
  · refine ⟨false, ?_, by simp [h]⟩
    unfold usage_Step_57.f
    rw [if_neg (by omega)]
set_option maxHeartbeats 4000000 in
set_option maxRecDepth 100000 in
theorem same_c (p g N : Nat) (L : Int → Int) (p2 g2 N2 : Nat) (L2 : Int → Int) (w : World) (hS : St w p g N L) (hS2 : St w p2 g2 N2 L2) (hN : N ≤ 2000) (hN2 : N2 ≤ 2000) :
    Calls Try.prog 26 #[ptrV p, ptrV p2] w fun e w' => ∃ r, e = .returned (.bool r) ∧ (r = true ↔ ∀ s, 0 ≤ s → s < 1099511627776 → L s = L2 s) ∧ Below w.heap.size w w' := by
  have HS := Aside0.mk hS
  have HS2 := Aside0.mk hS2
  clear hS hS2
  go_enter Try.func26, Try.ntmps26
  go_wp2_with fail
  refine (list_c p g N L _ HS.out hN).mono ?_
  rintro e w1 ⟨g3, cap3, n3, f3, rfl, h1, h2, h3, h4, h5, h6, h7⟩
  have HB1 := Aside0.mk h7
  have HA := Aside0.mk (And.intro h1 (And.intro h4 (And.intro h5 h6)))
  have hc3 : n3 ≤ cap3 := h1.1
  clear h1 h2 h3 h4 h5 h6 h7
  go_wp2_with fail
  refine (list_c p2 g2 N2 L2 _ (HS2.out.below HB1.out) hN2).mono ?_
  rintro e w2 ⟨g4, cap4, n4, f4, rfl, h1, h2, h3, h4, h5, h6, h7⟩
  have HB2 := Aside0.mk h7
  have HB := Aside0.mk (show Below w.heap.size w w2 from below_step HB1.out h7)
  have HC := Aside0.mk (And.intro h1 (And.intro h4 (And.intro h5 h6)))
  have hc4 : n4 ≤ cap4 := h1.1
  clear h1 h2 h3 h4 h5 h6 h7
  have hl3 : n3 = (listF n3 f3).length := (listF_len _ _).symm
  have hl4 : n4 = (listF n4 f4).length := (listF_len _ _).symm
  have hb3 : n3 ≤ 2000 := by have := HA.out.2.2.1; omega
  have hb4 : n4 ≤ 2000 := by have := HC.out.2.2.1; omega
  obtain ⟨r, hr1, hr2⟩ := equal_f (listF n3 f3) (listF n4 f4) (by rw [← hl3]; exact hb3)
  have HR1 := Aside0.mk hr1
  have HR2 := Aside0.mk hr2
  have HK3 := Aside0.mk ((HA.out.1.below HB2.out).kd (by omega))
  have HK4 := Aside0.mk (HC.out.1.kd (by omega))
  have HL3 := Aside0.mk hl3
  have HL4 := Aside0.mk hl4
  clear hr1 hr2 hl3 hl4
  go_wp2_with fail
  have hcall := usage_Step_57.calls ((listF n3 f3).length + 1) (some ⟨g3, 0, none⟩) cap3 (listF n3 f3) (some ⟨g4, 0, none⟩) cap4 (listF n4 f4) r w2 (by rw [← HL3.out]; exact HK3.out) (by rw [← HL3.out]; exact hc3) (by rw [← HL4.out]; exact HK4.out) (by rw [← HL4.out]; exact hc4) HR1.out
  rw [← HL3.out, ← HL4.out] at hcall
  refine hcall.mono ?_
  rintro e w3 ⟨rfl, hd⟩
  have HD := Aside0.mk (below_step HB.out hd.below)
  clear hd hcall
  go_wp2_with fail
  go_ret
  refine ⟨r, rfl, HR2.out.trans ?_, HD.out⟩
  rw [← HL3.out, ← HL4.out]
  obtain ⟨_, hW3, _, hL3⟩ := HA.out
  obtain ⟨_, hW4, _, hL4⟩ := HC.out
  constructor
  · rintro ⟨e1, e2⟩ s hs hst
    subst e1
    rw [← hL3 s hs hst, ← hL4 s hs hst]
    exact lev_congr s (fun k hk => by
      have := e2 k hk
      rwa [listF_at _ _ _ hk, listF_at _ _ _ hk] at this)
  · intro h
    obtain ⟨e1, e2⟩ := uniq hW3 hW4 (fun s hs hst => by rw [hL3 s hs hst, hL4 s hs hst]; exact h s hs hst)
    subst e1
    exact ⟨rfl, fun k hk => by rw [listF_at _ _ _ hk, listF_at _ _ _ hk]; exact e2 k hk⟩
end Go.Proofs.Ytaeifdmabkjoiaa.PPU

/- The contract of one: levels that are known. -/
namespace Go.Proofs.Ytaeifdmabkjoiaa.PPU
open Go.RowKit Go.Proofs.YtaeifdmabkjoiaaW.PrintWords Go.Proofs.YtaeifdmabkjoiaaW.PrintLast Go.Proofs.YtaeifdmabkjoiaaW.PrintMore
set_option linter.unusedVariables false
set_option linter.unusedSimpArgs false

def oneL : Int → Int := addL (fun _ => wth 0) 3 7 2
theorem oneL_eq (s : Int) : oneL s = if 3 ≤ s ∧ s < 7 then 2 else 0 := by
  have e1 : clp 3 = 3 := by decide
  have e2 : clp 7 = 7 := by decide
  have e3 : wth 0 = 0 := by decide
  have e4 : wth (0 + cl2 2) = 2 := by decide
  unfold oneL addL
  simp only [e1, e2, e3, e4]
theorem one_at3 (p g N : Nat) (w : World) (hS : St w p g N oneL) (hN : N ≤ 2000) : Calls Try.prog 12 #[ptrV p, .int .i64 3] w fun e w' => e = .returned (.int .i64 2) ∧ Below w.heap.size w w' := by
  have h := at_c p g N oneL 3 w hS hN
  rwa [show oneL (mn (clp 3) 1099511627775) = 2 by rw [show mn (clp 3) 1099511627775 = 3 by decide, oneL_eq]; decide] at h
theorem one_at7 (p g N : Nat) (w : World) (hS : St w p g N oneL) (hN : N ≤ 2000) : Calls Try.prog 12 #[ptrV p, .int .i64 7] w fun e w' => e = .returned (.int .i64 0) ∧ Below w.heap.size w w' := by
  have h := at_c p g N oneL 7 w hS hN
  rwa [show oneL (mn (clp 7) 1099511627775) = 0 by rw [show mn (clp 7) 1099511627775 = 7 by decide, oneL_eq]; decide] at h
theorem one_most (p g N : Nat) (w : World) (hS : St w p g N oneL) (hN : N ≤ 2000) : Calls Try.prog 15 #[ptrV p, .agg #[.int .i64 0, .int .i64 9]] w fun e w' => e = .returned (.int .i64 2) ∧ Below w.heap.size w w' := by
  refine (most_c p g N oneL 0 9 w hS hN).mono ?_
  rintro e w' ⟨m, rfl, hm, hb⟩
  refine ⟨ret_i ?_, hb⟩
  have e1 : clp 0 = 0 := by decide
  have e2 : clp 9 = 9 := by decide
  obtain ⟨⟨s, h1, h2, h3⟩, h4⟩ := hm.some (by rw [e1, e2]; omega)
  have h5 := h4 3 (by rw [e1]; omega) (by rw [e2]; omega)
  rw [oneL_eq] at h3 h5
  rw [if_pos (by omega)] at h5
  split at h3 <;> omega
theorem one_area (p g N : Nat) (w : World) (hS : St w p g N oneL) (hN : N ≤ 2000) : Calls Try.prog 16 #[ptrV p, .agg #[.int .i64 0, .int .i64 9]] w fun e w' => e = .returned (.int .i64 8) ∧ Below w.heap.size w w' := by
  have h := area_c p g N oneL 0 9 w hS hN
  have e1 : clp 0 = 0 := by decide
  have e2 : clp 9 = 9 := by decide
  have e3 : sumL oneL 0 9 = 8 := by
    rw [sumL_split oneL 0 3 9 (by omega) (by omega), sumL_split oneL 3 7 9 (by omega) (by omega), sumL_const oneL 0 3 0 (by omega) (fun s h1 h2 => by rw [oneL_eq, if_neg (by omega)]), sumL_const oneL 3 7 2 (by omega) (fun s h1 h2 => by rw [oneL_eq, if_pos (by omega)]), sumL_const oneL 7 9 0 (by omega) (fun s h1 h2 => by rw [oneL_eq, if_neg (by omega)])]
    decide
  rw [e1, e2, e3] at h
  exact h
set_option maxHeartbeats 4000000 in
set_option maxRecDepth 100000 in
theorem one_c (w : World) : Calls Try.prog 17 #[] w fun e w' => e = .returned (.bool true) ∧ Below w.heap.size w w' := by
  have hu25 := Try.underlying25
  go_enter Try.func17, Try.ntmps17
  go_wp2_with fail
  refine (flat_c 0 _).mono ?_
  rintro e w1 ⟨p, g, rfl, hS, hp, hg, hb⟩
  have HS := Aside0.mk hS
  have HB := Aside0.mk hb
  clear hS hb
  go_wp2_with fail
  refine (add_c p g 1 _ 3 7 2 _ HS.out (by omega)).mono ?_
  rintro e w2 ⟨rfl, g2, hS2, hg2, hk⟩
  have HS2 := Aside0.mk (show St w2 p g2 3 oneL from hS2)
  have HB2 := Aside0.mk (HB.out.trans (hk.toBelow w.heap.size HB.out.size hp hg))
  clear hS2 hg2 hk
  go_wp2_with fail
  refine (one_at3 p g2 3 _ HS2.out (by omega)).mono ?_
  rintro e w3 ⟨rfl, hb⟩
  have HS3 := Aside0.mk (HS2.out.below hb)
  have HB3 := Aside0.mk (below_step HB2.out hb)
  clear hb
  go_wp2_with fail
  refine (one_at7 p g2 3 _ HS3.out (by omega)).mono ?_
  rintro e w4 ⟨rfl, hb⟩
  have HS4 := Aside0.mk (HS3.out.below hb)
  have HB4 := Aside0.mk (below_step HB3.out hb)
  clear hb
  go_wp2_with fail
  refine (one_most p g2 3 _ HS4.out (by omega)).mono ?_
  rintro e w5 ⟨rfl, hb⟩
  have HS5 := Aside0.mk (HS4.out.below hb)
  have HB5 := Aside0.mk (below_step HB4.out hb)
  clear hb
  go_wp2_with fail
  refine (one_area p g2 3 _ HS5.out (by omega)).mono ?_
  rintro e w6 ⟨rfl, hb⟩
  have HB6 := Aside0.mk (below_step HB5.out hb)
  clear hb
  go_wp2_with fail
  go_ret
  exact ⟨rfl, HB6.out⟩
end Go.Proofs.Ytaeifdmabkjoiaa.PPU

/- One that nobody made: what each function answers. -/
namespace Go.Proofs.Ytaeifdmabkjoiaa.PPU
open Go.RowKit Go.Proofs.YtaeifdmabkjoiaaW.PrintWords Go.Proofs.YtaeifdmabkjoiaaW.PrintLast Go.Proofs.YtaeifdmabkjoiaaW.PrintMore
set_option linter.unusedVariables false
set_option linter.unusedSimpArgs false

/-- v is one that nobody made. -/
def Nob (w : World) (v : Value) : Prop := v = .pointer none ∨ ∃ p, v = ptrV p ∧ w.heap[p]? = some (.cells #[.slice none 0 0] 58 (0, 0))
theorem Nob.below {w w' : World} {v : Value} (h : Nob w v) (hb : Below w.heap.size w w') : Nob w' v := by
  rcases h with h | ⟨p, h1, h2⟩
  · exact .inl h
  · exact .inr ⟨p, h1, blk_below h2 hb⟩
set_option maxHeartbeats 4000000 in
set_option maxRecDepth 100000 in
theorem none_nob (v : Value) (w : World) (h : Nob w v) : Calls Try.prog 38 #[v] w fun e w' => e = .returned (.bool true) ∧ Below w.heap.size w w' := by
  rcases h with rfl | ⟨p, rfl, h2⟩
  · go_enter Try.func38, Try.ntmps38
    go_wp2_with fail
    go_ret
    exact ⟨by first | rfl | simp, .refl _ _⟩
  · have c0 : w.cell? ⟨p, 0, none⟩ = some (.slice none 0 0) := (blk_cell h2 0).trans rfl
    clear h2
    go_enter Try.func38, Try.ntmps38
    go_wp2_with fail
    go_ret
    exact ⟨by first | rfl | simp, .refl _ _⟩
set_option maxHeartbeats 4000000 in
set_option maxRecDepth 100000 in
theorem at_nob (v : Value) (t : Int) (w : World) (h : Nob w v) : Calls Try.prog 12 #[v, .int .i64 t] w fun e w' => e = .returned (.int .i64 0) ∧ Below w.heap.size w w' := by
  have H := Aside0.mk h
  have hu25 := Try.underlying25
  clear h
  go_enter Try.func12, Try.ntmps12
  go_wp2_with fail
  refine (none_nob v _ H.out).mono ?_
  rintro e w1 ⟨rfl, hb⟩
  have HB1 := Aside0.mk (show Below w.heap.size w w1 from hb)
  clear hb
  go_wp2_with fail
  go_ret
  exact ⟨rfl, HB1.out⟩
set_option maxHeartbeats 4000000 in
set_option maxRecDepth 100000 in
theorem turn_nob (v : Value) (a b : Int) (F : Nat) (c : Value) (w : World) (h : Nob w v) : Calls Try.prog 52 #[v, .agg #[.int .i64 a, .int .i64 b], .func (.func F) #[] #[c]] w fun e w' => e = .returned (.int .i64 1) ∧ Below w.heap.size w w' := by
  have H := Aside0.mk h
  have hu25 := Try.underlying25
  clear h
  go_enter Try.func52, Try.ntmps52
  go_wp2_with fail
  refine (none_nob v _ (H.out.below ((Below.refl _ w).alloc (Nat.le_refl _) _))).mono ?_
  rintro e w1 ⟨rfl, hb⟩
  have HB1 := Aside0.mk (show Below w.heap.size w w1 from below_step ((Below.refl _ w).alloc (Nat.le_refl _) _) hb)
  clear hb
  go_wp2_with fail
  go_ret
  exact ⟨rfl, HB1.out⟩
set_option maxHeartbeats 4000000 in
set_option maxRecDepth 100000 in
theorem add_nob (v : Value) (a b y : Int) (w : World) (h : Nob w v) : Calls Try.prog 19 #[v, .agg #[.int .i64 a, .int .i64 b], .int .i64 y] w fun e w' => e = .returned (.int .i64 1) ∧ Below w.heap.size w w' := by
  have H := Aside0.mk h
  have hu25 := Try.underlying25
  clear h
  go_enter Try.func19, Try.ntmps19
  go_wp2_with fail
  refine (turn_nob v a b _ _ _ (H.out.below (((Below.refl _ w).alloc (Nat.le_refl _) _).alloc (by simp) _))).mono ?_
  rintro e w1 ⟨rfl, hb⟩
  have HB1 := Aside0.mk (show Below w.heap.size w w1 from below_step (((Below.refl _ w).alloc (Nat.le_refl _) _).alloc (by simp) _) hb)
  clear hb
  go_wp2_with fail
  go_ret
  exact ⟨rfl, HB1.out⟩
set_option maxHeartbeats 4000000 in
set_option maxRecDepth 100000 in
theorem set_nob (v : Value) (a b y : Int) (w : World) (h : Nob w v) : Calls Try.prog 24 #[v, .agg #[.int .i64 a, .int .i64 b], .int .i64 y] w fun e w' => e = .returned (.int .i64 1) ∧ Below w.heap.size w w' := by
  have H := Aside0.mk h
  have hu25 := Try.underlying25
  clear h
  go_enter Try.func24, Try.ntmps24
  go_wp2_with fail
  refine (turn_nob v a b _ _ _ (H.out.below (((Below.refl _ w).alloc (Nat.le_refl _) _).alloc (by simp) _))).mono ?_
  rintro e w1 ⟨rfl, hb⟩
  have HB1 := Aside0.mk (show Below w.heap.size w w1 from below_step (((Below.refl _ w).alloc (Nat.le_refl _) _).alloc (by simp) _) hb)
  clear hb
  go_wp2_with fail
  go_ret
  exact ⟨rfl, HB1.out⟩
set_option maxHeartbeats 4000000 in
set_option maxRecDepth 100000 in
theorem forget_nob (v : Value) (t : Int) (w : World) (h : Nob w v) : Calls Try.prog 23 #[v, .int .i64 t] w fun e w' => e = .returned (.int .i64 1) ∧ Below w.heap.size w w' := by
  have H := Aside0.mk h
  have hu25 := Try.underlying25
  clear h
  by_cases ht : 1099511627776 ≤ t
  · go_enter Try.func23, Try.ntmps23
    go_wp2_with fail
    refine (at_nob v _ _ H.out).mono ?_
    rintro e w1 ⟨rfl, hb⟩
    have HB1 := Aside0.mk (show Below w.heap.size w w1 from hb)
    clear hb
    go_wp2_with fail
    refine (set_nob v _ _ _ _ (H.out.below HB1.out)).mono ?_
    rintro e w2 ⟨rfl, hb⟩
    have HB2 := Aside0.mk (show Below w.heap.size w w2 from below_step HB1.out hb)
    clear hb
    go_wp2_with fail
    go_ret
    exact ⟨rfl, HB2.out⟩
  · go_enter Try.func23, Try.ntmps23
    go_wp2_with fail
    refine (at_nob v _ _ H.out).mono ?_
    rintro e w1 ⟨rfl, hb⟩
    have HB1 := Aside0.mk (show Below w.heap.size w w1 from hb)
    clear hb
    go_wp2_with fail
    refine (set_nob v _ _ _ _ (H.out.below HB1.out)).mono ?_
    rintro e w2 ⟨rfl, hb⟩
    have HB2 := Aside0.mk (show Below w.heap.size w w2 from below_step HB1.out hb)
    clear hb
    go_wp2_with fail
    go_ret
    exact ⟨rfl, HB2.out⟩
set_option maxHeartbeats 4000000 in
set_option maxRecDepth 100000 in
theorem each_nob (v : Value) (a b : Int) (F : Nat) (C : Array Value) (w : World) (h : Nob w v) : Calls Try.prog 47 #[v, .agg #[.int .i64 a, .int .i64 b], .func (.func F) #[] C] w fun e w' => e = .returned (.tuple #[]) ∧ Below w.heap.size w w' := by
  have H := Aside0.mk h
  have hu25 := Try.underlying25
  clear h
  go_enter Try.func47, Try.ntmps47
  go_wp2_with fail
  refine (none_nob v _ (H.out.below ((Below.refl _ w).alloc (Nat.le_refl _) _))).mono ?_
  rintro e w1 ⟨rfl, hb⟩
  have HB1 := Aside0.mk (show Below w.heap.size w w1 from below_step ((Below.refl _ w).alloc (Nat.le_refl _) _) hb)
  clear hb
  go_wp2_with fail
  first | (go_end0; exact ⟨rfl, HB1.out⟩) | exact bodyPost_ret (v := .tuple #[]) (by simp [results, Try.results47, go_sem]) rfl ⟨rfl, HB1.out⟩
set_option maxHeartbeats 4000000 in
set_option maxRecDepth 100000 in
theorem pick_nob (v : Value) (a b : Int) (F : Nat) (w : World) (h : Nob w v) : Calls Try.prog 44 #[v, .agg #[.int .i64 a, .int .i64 b], .func (.func F) #[] #[]] w fun e w' => e = .returned (.int .i64 0) ∧ Below w.heap.size w w' := by
  have H := Aside0.mk h
  have hu25 := Try.underlying25
  clear h
  go_enter Try.func44, Try.ntmps44
  go_wp2_with fail
  have hb4 := below4 w (.cells #[.int .i64 a, .int .i64 b] 25 (0, 0)) (.cells #[.func (.func F) #[] #[]] 85 (0, 0)) (.cells #[.int .i64 0] 3 (0, 0)) (.cells #[.bool false] 4 (0, 0))
  obtain ⟨h2, h3, h4⟩ := new4 w (.cells #[.int .i64 a, .int .i64 b] 25 (0, 0)) (.cells #[.func (.func F) #[] #[]] 85 (0, 0)) (.cells #[.int .i64 0] 3 (0, 0)) (.cells #[.bool false] 4 (0, 0))
  refine (each_nob v a b _ _ _ (H.out.below hb4)).mono ?_
  rintro e w2 ⟨rfl, hb⟩
  have c3 : w2.cell? ⟨w.heap.size + 2, 0, none⟩ = some (.int .i64 0) := (blk_cell (blk_below h3 hb) 0).trans rfl
  have HB2 := Aside0.mk (below_step hb4 hb)
  clear hb4 h2 h3 h4 hb
  go_wp2_with fail
  go_ret
  exact ⟨rfl, HB2.out⟩
set_option maxHeartbeats 4000000 in
set_option maxRecDepth 100000 in
theorem least_nob (v : Value) (a b : Int) (w : World) (h : Nob w v) : Calls Try.prog 14 #[v, .agg #[.int .i64 a, .int .i64 b]] w fun e w' => e = .returned (.int .i64 0) ∧ Below w.heap.size w w' := by
  have H := Aside0.mk h
  have hu25 := Try.underlying25
  clear h
  go_enter Try.func14, Try.ntmps14
  go_wp2_with fail
  refine (pick_nob v a b _ _ (H.out.below ((Below.refl _ w).alloc (Nat.le_refl _) _))).mono ?_
  rintro e w1 ⟨rfl, hb⟩
  have HB1 := Aside0.mk (show Below w.heap.size w w1 from below_step ((Below.refl _ w).alloc (Nat.le_refl _) _) hb)
  clear hb
  go_wp2_with fail
  go_ret
  exact ⟨rfl, HB1.out⟩
set_option maxHeartbeats 4000000 in
set_option maxRecDepth 100000 in
theorem most_nob (v : Value) (a b : Int) (w : World) (h : Nob w v) : Calls Try.prog 15 #[v, .agg #[.int .i64 a, .int .i64 b]] w fun e w' => e = .returned (.int .i64 0) ∧ Below w.heap.size w w' := by
  have H := Aside0.mk h
  have hu25 := Try.underlying25
  clear h
  go_enter Try.func15, Try.ntmps15
  go_wp2_with fail
  refine (pick_nob v a b _ _ (H.out.below ((Below.refl _ w).alloc (Nat.le_refl _) _))).mono ?_
  rintro e w1 ⟨rfl, hb⟩
  have HB1 := Aside0.mk (show Below w.heap.size w w1 from below_step ((Below.refl _ w).alloc (Nat.le_refl _) _) hb)
  clear hb
  go_wp2_with fail
  go_ret
  exact ⟨rfl, HB1.out⟩
set_option maxHeartbeats 4000000 in
set_option maxRecDepth 100000 in
theorem area_nob (v : Value) (a b : Int) (w : World) (h : Nob w v) : Calls Try.prog 16 #[v, .agg #[.int .i64 a, .int .i64 b]] w fun e w' => e = .returned (.int .i64 0) ∧ Below w.heap.size w w' := by
  have H := Aside0.mk h
  have hu25 := Try.underlying25
  clear h
  go_enter Try.func16, Try.ntmps16
  go_wp2_with fail
  have hb4 : Below w.heap.size w ((w.alloc (.cells #[.int .i64 a, .int .i64 b] 25 (0, 0))).alloc (.cells #[.int .i64 0] 23 (0, 0))) := ((Below.refl _ w).alloc (Nat.le_refl _) _).alloc (by simp) _
  have h3 := new2 w (.cells #[.int .i64 a, .int .i64 b] 25 (0, 0)) (.cells #[.int .i64 0] 23 (0, 0))
  refine (each_nob v a b _ _ _ (H.out.below hb4)).mono ?_
  rintro e w2 ⟨rfl, hb⟩
  have c3 : w2.cell? ⟨w.heap.size + 1, 0, none⟩ = some (.int .i64 0) := (blk_cell (blk_below h3 hb) 0).trans rfl
  have HB2 := Aside0.mk (below_step hb4 hb)
  clear hb4 h3 hb
  go_wp2_with fail
  go_ret
  exact ⟨rfl, HB2.out⟩
set_option maxHeartbeats 4000000 in
set_option maxRecDepth 100000 in
theorem list_nob (v : Value)  (w : World) (h : Nob w v) : Calls Try.prog 25 #[v] w fun e w' => e = .returned (.slice none 0 0) ∧ Below w.heap.size w w' := by
  have H := Aside0.mk h
  have hu25 := Try.underlying25
  clear h
  go_enter Try.func25, Try.ntmps25
  go_wp2_with fail
  refine (none_nob v _ H.out).mono ?_
  rintro e w1 ⟨rfl, hb⟩
  have HB1 := Aside0.mk (show Below w.heap.size w w1 from hb)
  clear hb
  go_wp2_with fail
  go_ret
  exact ⟨rfl, HB1.out⟩
set_option maxHeartbeats 4000000 in
set_option maxRecDepth 100000 in
theorem clone_nob (v : Value)  (w : World) (h : Nob w v) : Calls Try.prog 21 #[v] w fun e w' => e = .returned (.pointer none) ∧ Below w.heap.size w w' := by
  have H := Aside0.mk h
  have hu25 := Try.underlying25
  clear h
  go_enter Try.func21, Try.ntmps21
  go_wp2_with fail
  refine (none_nob v _ H.out).mono ?_
  rintro e w1 ⟨rfl, hb⟩
  have HB1 := Aside0.mk (show Below w.heap.size w w1 from hb)
  clear hb
  go_wp2_with fail
  go_ret
  exact ⟨rfl, HB1.out⟩
set_option maxHeartbeats 4000000 in
set_option maxRecDepth 100000 in
theorem same_nob (v : Value)  (w : World) (h : Nob w v) : Calls Try.prog 26 #[v, .pointer none] w fun e w' => e = .returned (.bool true) ∧ Below w.heap.size w w' := by
  have H := Aside0.mk h
  have hu25 := Try.underlying25
  clear h
  go_enter Try.func26, Try.ntmps26
  go_wp2_with fail
  refine (list_nob v _ H.out).mono ?_
  rintro e w1 ⟨rfl, hb⟩
  have HB1 := Aside0.mk (show Below w.heap.size w w1 from hb)
  clear hb
  go_wp2_with fail
  refine (list_nob (.pointer none) _ (.inl rfl)).mono ?_
  rintro e w2 ⟨rfl, hb⟩
  have HB2 := Aside0.mk (show Below w.heap.size w w2 from below_step HB1.out hb)
  clear hb
  go_wp2_with fail
  refine (usage_Step_57.calls 1 none 0 [] none 0 [] true _ (Kd.C_nil _ _) (Nat.le_refl _) (Kd.C_nil _ _) (Nat.le_refl _) rfl).mono ?_
  rintro e w3 ⟨rfl, hd⟩
  have HB3 := Aside0.mk (show Below w.heap.size w w3 from below_step HB2.out hd.below)
  clear hd
  go_wp2_with fail
  go_ret
  exact ⟨rfl, HB3.out⟩
end Go.Proofs.Ytaeifdmabkjoiaa.PPU
