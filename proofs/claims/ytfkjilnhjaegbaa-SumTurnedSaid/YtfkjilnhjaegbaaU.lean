/- The walk of SumTurned. -/
import Derived.Test.YtfkjilnhjaegbaaT2
import Derived.Test.YtfkjilnhjaegbaaM2
namespace Go.Proofs.Ytfkjilnhjaegbaa.PSum
open Go.RowKit Go.Proofs.YtfkjilnhjaegbaaW.PrintWords Go.Proofs.YtfkjilnhjaegbaaW.PrintLast Go.Proofs.YtfkjilnhjaegbaaW.PrintMore
set_option linter.unusedVariables false
set_option linter.unusedSimpArgs false

theorem C_set {k : IntKind} {w : World} {A : Option Addr} {m : Nat} {l : List Int} (hr : (Kd.int k).C w A m l) (p : Addr) (v : Value) (hn : 0 < m → ∀ ad, A = some ad → ad.block ≠ p.block) : (Kd.int k).C (w.setCell p v) A m l := by
  refine ⟨hr.1, hr.2.1, fun h0 => ?_⟩
  obtain ⟨ad, e, hc⟩ := hr.2.2 h0
  refine ⟨ad, e, fun j x hj => ?_⟩
  obtain ⟨cs, h1, h2, h3⟩ := hc j x hj
  refine ⟨cs, h1, h2, fun i u hu => ?_⟩
  rw [World.cell?_of_block (w := w) (Below.heap_setCell w p v _ (by rw [add_blk]; exact hn h0 ad e))]
  exact h3 i u hu

structure StU (w w' : World) (A : Option Addr) (m c : Nat) (l : List Int) (g cap : Nat) (l8 : List Int) : Prop where
  bl : Below w.heap.size w w'
  r : (Kd.int .u8).C w' A m l
  o : w'.ownsRow w.heap.size 5 1 (.slice (some ⟨g, 0, none⟩) m cap) m (nums .u8 l8)
section
variable {w w' w3 : World} {A : Option Addr} {m c : Nat} {l l8 : List Int} {g cap : Nat}
theorem StU.step (H : StU w w' A m c l g cap l8) (hb : Below w'.heap.size w' w3) : StU w w3 A m c l g cap l8 := ⟨below_step H.bl hb, Kd.C_below H.r hb, pw_own_below H.o hb⟩
theorem StU.at_ {ad : Addr} (H : StU w w' (some ad) m c l g cap l8) (k : Nat) (hk : k < m) : w'.cell? (ad.add k) = some (.int .u8 (rd l k)) := by
  obtain ⟨ad', e, h⟩ := Kd.at_int H.r (k : Int) (by omega) (by omega)
  cases e; simpa using h
theorem StU.cap_le (H : StU w w' A m c l g cap l8) : m ≤ cap := by
  rcases H.o.2 with ⟨h, _⟩ | ⟨g', cap', cur, h, _, _, h1, _⟩
  · cases h
  · injection h with h2 h3 h4; omega
theorem StU.r8 (H : StU w w' A m c l g cap l8) : (Kd.int .u8).C w' (some ⟨g, 0, none⟩) m l8 := by
  obtain ⟨A', c', e, h⟩ := own_reads H.o
  cases e
  exact Kd.C_of_reads (d := (0 : Int)) (h1 := fun _ => rfl) h
theorem StU.cell8 (H : StU w w' A m c l g cap l8) (k : Nat) (hk : k < m) : w'.cell? ⟨g, k, none⟩ = some (.int .u8 (rd l8 k)) := by simpa using (own_at H.o (k : Int) (by omega) (by omega)).1
theorem StU.fz8 (H : StU w w' A m c l g cap l8) (k : Nat) (hk : k < m) : w'.frozen? ⟨g, k, none⟩ = false := by simpa using (own_at H.o (k : Int) (by omega) (by omega)).2
theorem StU.ge (H : StU w w' A m c l g cap l8) : w.heap.size ≤ g := own_base H.o g rfl
/-- A store into the row. -/
theorem StU.put (H : StU w w' A m c l g cap l8) (hlt : 0 < m → ∀ ad, A = some ad → ad.block < w.heap.size) (k : Nat) (x : Int) : StU w (w'.setCell ⟨g, k, none⟩ (.int .u8 x)) A m c l g cap (l8.set k x) :=
  ⟨below_set H.bl H.ge, C_set H.r _ _ (fun h0 ad e => by have := hlt h0 ad e; have := H.ge; show ad.block ≠ g; omega), by simpa using (own_store H.o (k : Int) x).1⟩
end
theorem C_lt {k : IntKind} {w : World} {A : Option Addr} {m : Nat} {l : List Int} (hr : (Kd.int k).C w A m l) : 0 < m → ∀ ad, A = some ad → ad.block < w.heap.size := by
  intro h0 ad e
  obtain ⟨ad', e', hx⟩ := Kd.at_int hr 0 (by omega) (by omega)
  rw [e] at e'; cases e'
  have := World.block_lt_of_cell? w _ hx
  rwa [add_blk] at this

theorem Bytes.set {l : List Int} (h : Bytes l) (k : Nat) (v : Int) (hv : 0 ≤ v ∧ v < 256) : Bytes (l.set k v) := fun x hx => by
  rcases List.mem_or_eq_of_mem_set hx with h1 | h1
  · exact h x h1
  · subst h1; exact hv
theorem sum1_ok (l : List Int) (hl : Bytes l) (hn : l.length ≤ 3000) : sum_Sum.f 3100 [l] = some (cs l) := by
  have := sum_ok 3100 3001 [l] (by intro x hx; simp only [List.mem_singleton] at hx; subst hx; exact ⟨hl, by omega⟩) (by omega) (by simp) (by simp)
  simpa using this
theorem turned_pure (l : List Int) (hl : Bytes l) (hn : l.length ≤ 3000) (k n : Nat) (hk : k < l.length) (hn' : n < l.length) (v : Int) (hv : 0 ≤ v ∧ v < 256) :
    ∃ K1, sum_Sum.f K1 [l.set k v] = some (cs (l.set k v)) ∧ sum_Sum.f K1 [l] = some (cs l) ∧ sum_Sum.f K1 [(l.set k (rd l n)).set n (rd l k)] = some (cs ((l.set k (rd l n)).set n (rd l k))) :=
  ⟨3100, sum1_ok _ (hl.set k v hv) (by simpa using hn), sum1_ok _ hl hn, sum1_ok _ ((hl.set k _ (hl _ (rd_mem l n hn'))).set n _ (hl _ (rd_mem l k hk))) (by simpa using hn)⟩
theorem at_pure (t : Int) (m : Nat) (hm0 : 0 < m) (hm : m ≤ 3000) : ∃ k : Nat, (wrap64 (t.tmod (m : Int) + (m : Int))).tmod (m : Int) = (k : Int) ∧ k < m := by
  have h1 : -(m : Int) < t.tmod m := by have := Int.lt_tmod_of_pos t (b := (m : Int)) (by omega); omega
  have h2 : t.tmod m < m := Int.tmod_lt_of_pos t (by omega)
  have hw : wrap64 (t.tmod (m : Int) + (m : Int)) = t.tmod m + m := by unfold wrap64; omega
  rw [hw, Int.tmod_eq_emod_of_nonneg (by omega)]
  have h3 := Int.emod_nonneg (t.tmod m + m) (b := (m : Int)) (by omega)
  have h4 := Int.emod_lt_of_pos (t.tmod m + m) (b := (m : Int)) (by omega)
  exact ⟨((t.tmod m + m) % m).toNat, by omega, by omega⟩
set_option maxHeartbeats 1000000 in
set_option maxRecDepth 100000 in
theorem turned_one (A : Option Addr) (c m : Nat) (t v : Int) (w : World) (hm : m = 0 ∨ 3000 < m) :
    Calls Try.prog 4 #[.slice A m c, .int .i64 t, .int .u8 v] w fun e w' => e = .returned (.bool true) ∧ Below w.heap.size w w' := by
  rcases hm with rfl | hm
  · go_enter Try.func4, Try.ntmps4
    go_wp2_with fail
    refine (one_calls _).mono ?_
    rintro e w' ⟨rfl, hb⟩
    go_wp2_with fail
    go_ret
    exact ⟨rfl, hb⟩
  · have h0 : ((m : Int) == 0) = false := beq_eq_false_iff_ne.2 (by omega)
    have h1 : decide (3000 < (m : Int)) = true := decide_eq_true (by omega)
    go_enter Try.func4, Try.ntmps4
    go_wp2_with fail
    refine (one_calls _).mono ?_
    rintro e w' ⟨rfl, hb⟩
    go_wp2_with fail
    go_ret
    exact ⟨rfl, hb⟩

set_option maxHeartbeats 1000000 in
set_option maxRecDepth 100000 in
theorem turned_main (A : Option Addr) (c m : Nat) (l : List Int) (t v : Int) (w : World) (hm0 : 0 < m) (hm : m ≤ 3000) (hbs : Bytes l) (hv : 0 ≤ v ∧ v < 256) (ht : -9223372036854775808 ≤ t ∧ t ≤ 9223372036854775807) (hr : (Kd.int .u8).C w A m l) (hc : m ≤ c) :
    Calls Try.prog 4 #[.slice A m c, .int .i64 t, .int .u8 v] w fun e w' => e = .returned (.bool true) ∧ Below w.heap.size w w' := by
  obtain ⟨k, hk, hkm⟩ : ∃ k : Nat, (wrap64 (t.tmod (m : Int) + (m : Int))).tmod (m : Int) = (k : Int) ∧ k < m := at_pure t m hm0 hm
  obtain ⟨n, hn, hnm⟩ : ∃ n : Nat, ((k : Int) + 1).tmod (m : Int) = (n : Int) ∧ n < m := ⟨(k + 1) % m, by rw [Int.tmod_eq_emod_of_nonneg (by omega)]; rfl, Nat.mod_lt _ hm0⟩
  obtain ⟨ad, rfl⟩ : ∃ ad, A = some ad := by obtain ⟨ad, e, _⟩ := Kd.at_int hr 0 (by omega) (by omega); exact ⟨ad, e⟩
  have HR := Aside0.mk hr
  have HC := Aside0.mk hc
  have HLT := Aside0.mk (C_lt hr)
  have HL := Aside0.mk hr.1
  clear hr hc
  have h0 : ((m : Int) == 0) = false := beq_eq_false_iff_ne.2 (by omega)
  have h1 : decide (3000 < (m : Int)) = false := decide_eq_false (by omega)
  have HK := Aside0.mk hk
  have HN := Aside0.mk hn
  clear hn
  go_enter Try.func4, Try.ntmps4
  go_wp2_with (at_builtin; refine print_append_row (w0 := w) w.heap.size rfl (.tmp 30) (.tmp 31) 22 5 .u8 1 rfl Try.underlying22 (by kernel_rfl) (by decide) (.slice (some ⟨w.heap.size, 0, none⟩) 0 0) [] l (some ad) m c rfl rfl (own_lit w w.heap.size 5 .u8 [] (Nat.le_refl _) (by simp)) (Kd.reads_of_C (d := (0 : Int)) (Kd.C_alloc HR.out _)) (below_alloc (Below.refl _ _) _) (by simp) (by simp; omega) ?_; intro v1 w1 HO HB HG hat; clear HG hat; simp only [List.nil_append, HL.out] at HO; obtain ⟨g, cap, rfl, _, _⟩ := HO.form hm0; have HS : Aside0 (StU w w1 (some ad) m c l g cap l) := ⟨⟨HB, Kd.C_below HR.out HB, HO⟩⟩; clear HO HB; have hc8 := HS.out.cell8 k hkm; have hf8 := HS.out.fz8 k hkm)
  obtain ⟨K1, hc1, hc2, hc3⟩ := turned_pure l hbs (by rw [HL.out]; exact hm) k n (by rw [HL.out]; exact hkm) (by rw [HL.out]; exact hnm) v hv
  have HC8 := Aside0.mk hc1
  have HCL := Aside0.mk hc2
  have HCD := Aside0.mk hc3
  clear hc1 hc2 hc3 hc8 hf8 hk
  have HS := Aside0.mk (HS.out.put HLT.out k v)
  generalize w1.setCell ⟨g, k, none⟩ (.int .u8 v) = W at HS ⊢
  have hcs := cs_set l hbs k (by rw [HL.out]; exact hkm) v hv
  refine start_ (n := 14) (S := fun w' => w'.cell? (ad.add k) = some (.int .u8 (rd l k)) ∧ Aside0 (StU w w' (some ad) m c l g cap (l.set k v))) (ds := []) #[false, false, false, false, false, false, false, false, false, false, false, false, false, false] (by kernel_rfl) rfl rfl ⟨(HS.out.step (below_drew (Below.refl _ _))).at_ k hkm, ⟨(HS.out.step (below_drew (Below.refl _ _)))⟩⟩ (fun hHeld => ?_)
  generalize World.drew W = W1 at hHeld ⊢
  refine pure_ (i := 0) (N := some 37) (v := ?_) (a' := ?_) #[true, false, false, false, false, false, false, false, false, false, false, false, false, false] rfl rfl (by kernel_rfl) (fun _ _ _ h => h) (Or.inl ⟨by rfl, ?_⟩) ?_ ?_
  rotate_left
  · intro w'
    go_simp
    with_reducible rfl
  rotate_left
  · simp only [Act.put, List.setIfInBounds_toArray, List.set_cons_zero, List.set_cons_succ, i64_w, i32_w]
    rfl
  refine pure_ (i := 3) (N := some 40) (v := ?_) (a' := ?_) #[true, false, false, true, false, false, false, false, false, false, false, false, false, false] rfl rfl (by kernel_rfl) (fun _ _ _ h => h) (Or.inl ⟨by rfl, ?_⟩) ?_ ?_
  rotate_left
  · intro w'
    go_simp
    with_reducible rfl
  rotate_left
  · simp only [Act.put, List.setIfInBounds_toArray, List.set_cons_zero, List.set_cons_succ, i64_w, i32_w]
    rfl
  refine pure_ (i := 7) (N := some 44) (v := ?_) (a' := ?_) #[true, false, false, true, false, false, false, true, false, false, false, false, false, false] rfl rfl (by kernel_rfl) (fun _ _ _ h => h) (Or.inl ⟨by rfl, ?_⟩) ?_ ?_
  rotate_left
  · intro w'
    go_simp
    with_reducible rfl
  rotate_left
  · simp only [Act.put, List.setIfInBounds_toArray, List.set_cons_zero, List.set_cons_succ, i64_w, i32_w]
    rfl
  refine pure_ (i := 8) (N := some 45) (v := ?_) (a' := ?_) #[true, false, false, true, false, false, false, true, true, false, false, false, false, false] rfl rfl (by kernel_rfl) (fun _ _ _ h => h) (Or.inl ⟨by rfl, ?_⟩) ?_ ?_
  rotate_left
  · intro w'
    go_simp
    with_reducible rfl
  rotate_left
  · simp only [Act.put, List.setIfInBounds_toArray, List.set_cons_zero, List.set_cons_succ, i64_w, i32_w]
    rfl
  refine pure_ (i := 9) (N := some 46) (v := ?_) (a' := ?_) #[true, false, false, true, false, false, false, true, true, true, false, false, false, false] rfl rfl (by kernel_rfl) (fun _ _ _ h => h) (Or.inl ⟨by rfl, ?_⟩) ?_ ?_
  rotate_left
  · intro w'
    go_simp
    with_reducible rfl
  rotate_left
  · simp only [Act.put, List.setIfInBounds_toArray, List.set_cons_zero, List.set_cons_succ, i64_w, i32_w]
    rfl
  refine pure_ (i := 11) (N := some 48) (v := ?_) (a' := ?_) #[true, false, false, true, false, false, false, true, true, true, false, true, false, false] rfl rfl (by kernel_rfl) (fun _ _ _ h => h) (Or.inl ⟨by rfl, ?_⟩) ?_ ?_
  rotate_left
  · intro w'
    go_simp
    with_reducible rfl
  rotate_left
  · simp only [Act.put, List.setIfInBounds_toArray, List.set_cons_zero, List.set_cons_succ, i64_w, i32_w]
    rfl
  refine take_ (i := 10) (N := some 47) (v := ?_) (a' := ?_) #[true, false, false, true, false, false, false, true, true, true, true, true, false, false] rfl rfl (by kernel_rfl) (fun _ _ _ h => h) (Or.inl ⟨by rfl, ?_⟩) hHeld ?_ ?_
  rotate_left
  · rintro w' ⟨s0, s1⟩
    go_simp
    with_reducible rfl
  rotate_left
  · simp only [Act.put, List.setIfInBounds_toArray, List.set_cons_zero, List.set_cons_succ, i64_w, i32_w]
    rfl
  refine pure_ (i := 12) (N := some 49) (v := ?_) (a' := ?_) #[true, false, false, true, false, false, false, true, true, true, true, true, true, false] rfl rfl (by kernel_rfl) (fun _ _ _ h => h) (Or.inl ⟨by rfl, ?_⟩) ?_ ?_
  rotate_left
  · intro w'
    go_simp
    with_reducible rfl
  rotate_left
  · simp only [Act.put, List.setIfInBounds_toArray, List.set_cons_zero, List.set_cons_succ, i64_w, i32_w]
    rfl
  refine join_ (σ := Nat × Nat) 3 #[true, true, true, true, true, false, false, true, true, true, true, true, true, false] (fun s => [(38, .slice (some ⟨s.1, 0, none⟩) 1 1), (39, .int .u32 (cs (l.set k v))), (41, .slice (some ⟨s.2, 0, none⟩) 1 1)]) (fun s w' => Aside0 (StU w w' (some ad) m c l g cap (l.set k v)) ∧ w'.cell? ⟨s.1, 0, none⟩ = some (.slice (some ⟨g, 0, none⟩) m cap) ∧ w'.cell? ⟨s.2, 0, none⟩ = some (.slice (some ad) m c)) ?_ ?_
  rotate_left
  · intro hCont
    refine two_ (i := 1) (j := 4) (Ni := some 38) (Nj := some 41) #[true, true, false, true, false, false, false, true, true, true, true, true, true, false] #[true, false, false, true, true, false, false, true, true, true, true, true, true, false] rfl rfl rfl rfl (by kernel_rfl) (by decide) (by decide) (fun K hK => ?_) (fun K hK => ?_)
    · skip
      refine value_ (w1 := ?_) (v := ?_) (by rfl) rfl ?_ ?_
      rotate_left 2
      · go_simp
        constructor
        · rfl
        · rfl
      have hX := hHeld.2.out.step (below_alloc (Below.refl _ _) (Obj.cells #[.slice (some ⟨g, 0, none⟩) m cap] 22))
      have hQ1_0 : (World.alloc W1 (Obj.cells #[.slice (some ⟨g, 0, none⟩) m cap] 22)).cell? ⟨W1.heap.size, 0, none⟩ = some (.slice (some ⟨g, 0, none⟩) m cap) := (blk_cell (blk_new _ _) 0).trans rfl
      generalize World.alloc W1 (Obj.cells #[.slice (some ⟨g, 0, none⟩) m cap] 22) = wo1 at hX hQ1_0 ⊢
      refine hK.out _ _ ⟨hX.at_ k hkm, ⟨hX⟩⟩ (fun hHeld => ?_)
      clear hK K
      refine norm_ (a' := ?_) ?_ ?_
      rotate_left
      · show Act.put _ (some 38) _ = _
        simp only [Act.put, List.setIfInBounds_toArray, List.set_cons_zero, List.set_cons_succ, i64_w, i32_w]
        rfl
      refine two_ (i := 2) (j := 4) (Ni := some 39) (Nj := some 41) #[true, true, true, true, false, false, false, true, true, true, true, true, true, false] #[true, true, false, true, true, false, false, true, true, true, true, true, true, false] rfl rfl rfl rfl (by kernel_rfl) (by decide) (by decide) (fun K hK => ?_) (fun K hK => ?_)
      · skip
        refine goes_ Try.func9 (by kernel_rfl) rfl #[.slice (some ⟨W1.heap.size, 0, none⟩) 1 1] (by rfl) rfl rfl (by simp only [List.map_toArray, List.map_cons, List.map_nil]; rfl) ?_
        with_reducible refine (sum1_calls K1 ⟨W1.heap.size, 0, none⟩ (some ⟨g, 0, none⟩) m cap (l.set k v) (cs (l.set k v)) 1 _ hQ1_0 hHeld.2.out.cap_le hHeld.2.out.r8 HC8.out (Nat.le_refl _)).mono ?_
        rintro e wo2 ⟨rfl, hb⟩
        refine ⟨_, rfl, ?_⟩
        have hX := hHeld.2.out.step hb
        replace hQ1_0 := pw_cell_below hb hQ1_0
        refine hK.out _ _ ⟨hX.at_ k hkm, ⟨hX⟩⟩ (fun hHeld => ?_)
        clear hK K
        refine norm_ (a' := ?_) ?_ ?_
        rotate_left
        · show Act.put _ (some 39) _ = _
          simp only [Act.put, List.setIfInBounds_toArray, List.set_cons_zero, List.set_cons_succ, i64_w, i32_w]
          rfl
        refine one_ (i := 4) (N := some 41) #[true, true, true, true, true, false, false, true, true, true, true, true, true, false] rfl rfl (by kernel_rfl) (by decide) (fun K hK => ?_)
        refine value_ (w1 := ?_) (v := ?_) (by rfl) rfl ?_ ?_
        rotate_left 2
        · go_simp
          constructor
          · rfl
          · rfl
        have hX := hHeld.2.out.step (below_alloc (Below.refl _ _) (Obj.cells #[.slice (some ad) m c] 22))
        have hQ4_0 : (World.alloc wo2 (Obj.cells #[.slice (some ad) m c] 22)).cell? ⟨wo2.heap.size, 0, none⟩ = some (.slice (some ad) m c) := (blk_cell (blk_new _ _) 0).trans rfl
        replace hQ1_0 := pw_cell_below (below_alloc (Below.refl _ _) (Obj.cells #[.slice (some ad) m c] 22)) hQ1_0
        generalize World.alloc wo2 (Obj.cells #[.slice (some ad) m c] 22) = wo4 at hX hQ1_0 hQ4_0 ⊢
        refine hK.out _ _ ⟨hX.at_ k hkm, ⟨hX⟩⟩ (fun hHeld => ?_)
        clear hK K
        refine norm_ (a' := ?_) ?_ ?_
        rotate_left
        · show Act.put _ (some 41) _ = _
          simp only [Act.put, List.setIfInBounds_toArray, List.set_cons_zero, List.set_cons_succ, i64_w, i32_w]
          rfl
        exact norm_ (by simp only [putAll, Act.put, List.setIfInBounds_toArray, List.set_cons_zero, List.set_cons_succ]) (hCont (W1.heap.size, wo2.heap.size) _ ⟨⟨hX⟩, hQ1_0, hQ4_0⟩)
      · skip
        refine value_ (w1 := ?_) (v := ?_) (by rfl) rfl ?_ ?_
        rotate_left 2
        · go_simp
          constructor
          · rfl
          · rfl
        have hX := hHeld.2.out.step (below_alloc (Below.refl _ _) (Obj.cells #[.slice (some ad) m c] 22))
        have hQ4_0 : (World.alloc wo1 (Obj.cells #[.slice (some ad) m c] 22)).cell? ⟨wo1.heap.size, 0, none⟩ = some (.slice (some ad) m c) := (blk_cell (blk_new _ _) 0).trans rfl
        replace hQ1_0 := pw_cell_below (below_alloc (Below.refl _ _) (Obj.cells #[.slice (some ad) m c] 22)) hQ1_0
        generalize World.alloc wo1 (Obj.cells #[.slice (some ad) m c] 22) = wo4 at hX hQ1_0 hQ4_0 ⊢
        refine hK.out _ _ ⟨hX.at_ k hkm, ⟨hX⟩⟩ (fun hHeld => ?_)
        clear hK K
        refine norm_ (a' := ?_) ?_ ?_
        rotate_left
        · show Act.put _ (some 41) _ = _
          simp only [Act.put, List.setIfInBounds_toArray, List.set_cons_zero, List.set_cons_succ, i64_w, i32_w]
          rfl
        refine one_ (i := 2) (N := some 39) #[true, true, true, true, true, false, false, true, true, true, true, true, true, false] rfl rfl (by kernel_rfl) (by decide) (fun K hK => ?_)
        refine goes_ Try.func9 (by kernel_rfl) rfl #[.slice (some ⟨W1.heap.size, 0, none⟩) 1 1] (by rfl) rfl rfl (by simp only [List.map_toArray, List.map_cons, List.map_nil]; rfl) ?_
        with_reducible refine (sum1_calls K1 ⟨W1.heap.size, 0, none⟩ (some ⟨g, 0, none⟩) m cap (l.set k v) (cs (l.set k v)) 1 _ hQ1_0 hHeld.2.out.cap_le hHeld.2.out.r8 HC8.out (Nat.le_refl _)).mono ?_
        rintro e wo2 ⟨rfl, hb⟩
        refine ⟨_, rfl, ?_⟩
        have hX := hHeld.2.out.step hb
        replace hQ1_0 := pw_cell_below hb hQ1_0
        replace hQ4_0 := pw_cell_below hb hQ4_0
        refine hK.out _ _ ⟨hX.at_ k hkm, ⟨hX⟩⟩ (fun hHeld => ?_)
        clear hK K
        refine norm_ (a' := ?_) ?_ ?_
        rotate_left
        · show Act.put _ (some 39) _ = _
          simp only [Act.put, List.setIfInBounds_toArray, List.set_cons_zero, List.set_cons_succ, i64_w, i32_w]
          rfl
        exact norm_ (by simp only [putAll, Act.put, List.setIfInBounds_toArray, List.set_cons_zero, List.set_cons_succ]) (hCont (W1.heap.size, wo1.heap.size) _ ⟨⟨hX⟩, hQ1_0, hQ4_0⟩)
    · skip
      refine value_ (w1 := ?_) (v := ?_) (by rfl) rfl ?_ ?_
      rotate_left 2
      · go_simp
        constructor
        · rfl
        · rfl
      have hX := hHeld.2.out.step (below_alloc (Below.refl _ _) (Obj.cells #[.slice (some ad) m c] 22))
      have hQ4_0 : (World.alloc W1 (Obj.cells #[.slice (some ad) m c] 22)).cell? ⟨W1.heap.size, 0, none⟩ = some (.slice (some ad) m c) := (blk_cell (blk_new _ _) 0).trans rfl
      generalize World.alloc W1 (Obj.cells #[.slice (some ad) m c] 22) = wo4 at hX hQ4_0 ⊢
      refine hK.out _ _ ⟨hX.at_ k hkm, ⟨hX⟩⟩ (fun hHeld => ?_)
      clear hK K
      refine norm_ (a' := ?_) ?_ ?_
      rotate_left
      · show Act.put _ (some 41) _ = _
        simp only [Act.put, List.setIfInBounds_toArray, List.set_cons_zero, List.set_cons_succ, i64_w, i32_w]
        rfl
      refine one_ (i := 1) (N := some 38) #[true, true, false, true, true, false, false, true, true, true, true, true, true, false] rfl rfl (by kernel_rfl) (by decide) (fun K hK => ?_)
      refine value_ (w1 := ?_) (v := ?_) (by rfl) rfl ?_ ?_
      rotate_left 2
      · go_simp
        constructor
        · rfl
        · rfl
      have hX := hHeld.2.out.step (below_alloc (Below.refl _ _) (Obj.cells #[.slice (some ⟨g, 0, none⟩) m cap] 22))
      have hQ1_0 : (World.alloc wo4 (Obj.cells #[.slice (some ⟨g, 0, none⟩) m cap] 22)).cell? ⟨wo4.heap.size, 0, none⟩ = some (.slice (some ⟨g, 0, none⟩) m cap) := (blk_cell (blk_new _ _) 0).trans rfl
      replace hQ4_0 := pw_cell_below (below_alloc (Below.refl _ _) (Obj.cells #[.slice (some ⟨g, 0, none⟩) m cap] 22)) hQ4_0
      generalize World.alloc wo4 (Obj.cells #[.slice (some ⟨g, 0, none⟩) m cap] 22) = wo1 at hX hQ4_0 hQ1_0 ⊢
      refine hK.out _ _ ⟨hX.at_ k hkm, ⟨hX⟩⟩ (fun hHeld => ?_)
      clear hK K
      refine norm_ (a' := ?_) ?_ ?_
      rotate_left
      · show Act.put _ (some 38) _ = _
        simp only [Act.put, List.setIfInBounds_toArray, List.set_cons_zero, List.set_cons_succ, i64_w, i32_w]
        rfl
      refine one_ (i := 2) (N := some 39) #[true, true, true, true, true, false, false, true, true, true, true, true, true, false] rfl rfl (by kernel_rfl) (by decide) (fun K hK => ?_)
      refine goes_ Try.func9 (by kernel_rfl) rfl #[.slice (some ⟨wo4.heap.size, 0, none⟩) 1 1] (by rfl) rfl rfl (by simp only [List.map_toArray, List.map_cons, List.map_nil]; rfl) ?_
      with_reducible refine (sum1_calls K1 ⟨wo4.heap.size, 0, none⟩ (some ⟨g, 0, none⟩) m cap (l.set k v) (cs (l.set k v)) 1 _ hQ1_0 hHeld.2.out.cap_le hHeld.2.out.r8 HC8.out (Nat.le_refl _)).mono ?_
      rintro e wo2 ⟨rfl, hb⟩
      refine ⟨_, rfl, ?_⟩
      have hX := hHeld.2.out.step hb
      replace hQ4_0 := pw_cell_below hb hQ4_0
      replace hQ1_0 := pw_cell_below hb hQ1_0
      refine hK.out _ _ ⟨hX.at_ k hkm, ⟨hX⟩⟩ (fun hHeld => ?_)
      clear hK K
      refine norm_ (a' := ?_) ?_ ?_
      rotate_left
      · show Act.put _ (some 39) _ = _
        simp only [Act.put, List.setIfInBounds_toArray, List.set_cons_zero, List.set_cons_succ, i64_w, i32_w]
        rfl
      exact norm_ (by simp only [putAll, Act.put, List.setIfInBounds_toArray, List.set_cons_zero, List.set_cons_succ]) (hCont (wo4.heap.size, W1.heap.size) _ ⟨⟨hX⟩, hQ1_0, hQ4_0⟩)
  rintro s_f1 w_f1 ⟨hXX, hQ1_0, hQ4_0⟩
  have hX := hXX.out
  have hHeld : (w_f1.cell? (ad.add k) = some (.int .u8 (rd l k))) ∧ (Aside0 (StU w w_f1 (some ad) m c l g cap (l.set k v))) := ⟨hX.at_ k hkm, ⟨hX⟩⟩
  clear hX hXX
  refine norm_ (a' := ?_) ?_ ?_
  rotate_left
  · simp only [putAll, Act.put, List.setIfInBounds_toArray, List.set_cons_zero, List.set_cons_succ]
    rfl
  refine one_ (i := 5) (N := some 42) #[true, true, true, true, true, true, false, true, true, true, true, true, true, false] rfl rfl (by kernel_rfl) (by decide) (fun K hK => ?_)
  refine goes_ Try.func9 (by kernel_rfl) rfl #[.slice (some ⟨s_f1.2, 0, none⟩) 1 1] (by rfl) rfl rfl (by simp only [List.map_toArray, List.map_cons, List.map_nil]; rfl) ?_
  with_reducible refine (sum1_calls K1 ⟨s_f1.2, 0, none⟩ (some ad) m c l (cs l) 1 _ hQ4_0 HC.out hHeld.2.out.r HCL.out (Nat.le_refl _)).mono ?_
  rintro e wo5 ⟨rfl, hb⟩
  refine ⟨_, rfl, ?_⟩
  have hX := hHeld.2.out.step hb
  replace hQ1_0 := pw_cell_below hb hQ1_0
  replace hQ4_0 := pw_cell_below hb hQ4_0
  refine hK.out _ _ ⟨hX.at_ k hkm, ⟨hX⟩⟩ (fun hHeld => ?_)
  clear hK K
  refine norm_ (a' := ?_) ?_ ?_
  rotate_left
  · show Act.put _ (some 42) _ = _
    simp only [Act.put, List.setIfInBounds_toArray, List.set_cons_zero, List.set_cons_succ, i64_w, i32_w]
    rfl
  refine pure_ (i := 6) (N := some 43) (v := ?_) (a' := ?_) #[true, true, true, true, true, true, true, true, true, true, true, true, true, false] rfl rfl (by kernel_rfl) (fun _ _ _ h => h) (Or.inl ⟨by rfl, ?_⟩) ?_ ?_
  rotate_left
  · intro w'
    go_simp
    with_reducible rfl
  rotate_left
  · simp only [Act.put, List.setIfInBounds_toArray, List.set_cons_zero, List.set_cons_succ, i64_w, i32_w]
    rfl
  refine pure_ (i := 13) (N := some 50) (v := ?_) (a' := ?_) #[true, true, true, true, true, true, true, true, true, true, true, true, true, true] rfl rfl (by kernel_rfl) (fun _ _ _ h => h) (Or.inl ⟨by rfl, ?_⟩) ?_ ?_
  rotate_left
  · intro w'
    go_simp
    with_reducible rfl
  rotate_left
  · simp only [Act.put, List.setIfInBounds_toArray, List.set_cons_zero, List.set_cons_succ, i64_w, i32_w]
    rfl
  refine done_ (by kernel_rfl) ?_

  have HB5 := Aside0.mk hHeld.2.out.bl
  have HR5 := Aside0.mk hHeld.2.out.r
  have hn : ((k : Int) + 1) % (m : Int) = (n : Int) := by have := HN.out; rwa [Int.tmod_eq_emod_of_nonneg (by omega)] at this
  clear hHeld hX hQ1_0 hQ4_0 hb HS hcs
  go_wp2_with (at_builtin; refine print_append_row (w0 := w) w.heap.size rfl (.tmp 56) (.tmp 57) 22 5 .u8 1 rfl Try.underlying22 (by kernel_rfl) (by decide) (.slice (some ⟨wo5.heap.size, 0, none⟩) 0 0) [] l (some ad) m c rfl rfl (own_lit wo5 w.heap.size 5 .u8 [] HB5.out.size (by simp)) (Kd.reads_of_C (d := (0 : Int)) (Kd.C_alloc HR5.out _)) (below_alloc HB5.out _) (by simp; exact Nat.le_succ_of_le HB5.out.size) (by simp; omega) ?_; intro v2 w2 HO HB HG hat; clear HG hat; simp only [List.nil_append, HL.out] at HO; obtain ⟨g2, cap2, rfl, _, _⟩ := HO.form hm0; have HS : Aside0 (StU w w2 (some ad) m c l g2 cap2 l) := ⟨⟨HB, Kd.C_below HR.out HB, HO⟩⟩; clear HO HB)
  clear HB5 HR5 hn
  generalize w2 = WD at HS ⊢
  refine start_ (n := 16) (S := fun w' => w'.cell? (ad.add k) = some (.int .u8 (rd l k)) ∧ w'.cell? (ad.add n) = some (.int .u8 (rd l n)) ∧ w'.cell? ⟨g2, k, none⟩ = some (.int .u8 (rd l k)) ∧ w'.frozen? ⟨g2, k, none⟩ = false ∧ Aside0 (StU w w' (some ad) m c l g2 cap2 l)) (ds := [13, 15]) #[false, false, false, false, false, false, false, false, false, false, false, false, false, false, false, false] (by kernel_rfl) rfl rfl ⟨(HS.out.step (below_drew (Below.refl _ _))).at_ k hkm, (HS.out.step (below_drew (Below.refl _ _))).at_ n hnm, (HS.out.step (below_drew (Below.refl _ _))).cell8 k hkm, (HS.out.step (below_drew (Below.refl _ _))).fz8 k hkm, ⟨(HS.out.step (below_drew (Below.refl _ _)))⟩⟩ (fun hHeld => ?_)
  generalize World.drew WD = W2 at hHeld ⊢
  refine pure_ (i := 0) (N := some 59) (v := ?_) (a' := ?_) #[true, false, false, false, false, false, false, false, false, false, false, false, false, false, false, false] rfl rfl (by kernel_rfl) (fun _ _ _ h => h) (Or.inl ⟨by rfl, ?_⟩) ?_ ?_
  rotate_left
  · intro w'
    go_simp
    with_reducible rfl
  rotate_left
  · simp only [Act.put, List.setIfInBounds_toArray, List.set_cons_zero, List.set_cons_succ, i64_w, i32_w]
    rfl
  refine pure_ (i := 1) (N := some 60) (v := ?_) (a' := ?_) #[true, true, false, false, false, false, false, false, false, false, false, false, false, false, false, false] rfl rfl (by kernel_rfl) (fun _ _ _ h => h) (Or.inl ⟨by rfl, ?_⟩) ?_ ?_
  rotate_left
  · intro w'
    go_simp
    with_reducible rfl
  rotate_left
  · simp only [Act.put, List.setIfInBounds_toArray, List.set_cons_zero, List.set_cons_succ, i64_w, i32_w]
    rfl
  refine pure_ (i := 2) (N := some 61) (v := ?_) (a' := ?_) #[true, true, true, false, false, false, false, false, false, false, false, false, false, false, false, false] rfl rfl (by kernel_rfl) (fun _ _ _ h => h) (Or.inl ⟨by rfl, ?_⟩) ?_ ?_
  rotate_left
  · intro w'
    go_simp
    with_reducible rfl
  rotate_left
  · simp only [Act.put, List.setIfInBounds_toArray, List.set_cons_zero, List.set_cons_succ, i64_w, i32_w]
    rfl
  refine pure_ (i := 3) (N := some 62) (v := ?_) (a' := ?_) #[true, true, true, true, false, false, false, false, false, false, false, false, false, false, false, false] rfl rfl (by kernel_rfl) (fun _ _ _ h => h) (Or.inl ⟨by rfl, ?_⟩) ?_ ?_
  rotate_left
  · intro w'
    go_simp
    with_reducible rfl
  rotate_left
  · simp only [Act.put, List.setIfInBounds_toArray, List.set_cons_zero, List.set_cons_succ, i64_w, i32_w]
    rfl
  refine pure_ (i := 4) (N := some 63) (v := ?_) (a' := ?_) #[true, true, true, true, true, false, false, false, false, false, false, false, false, false, false, false] rfl rfl (by kernel_rfl) (fun _ _ _ h => h) (Or.inl ⟨by rfl, ?_⟩) ?_ ?_
  rotate_left
  · intro w'
    go_simp
    with_reducible rfl
  rotate_left
  · simp only [Act.put, List.setIfInBounds_toArray, List.set_cons_zero, List.set_cons_succ, i64_w, i32_w]
    rfl
  refine pure_ (i := 5) (N := some 64) (v := ?_) (a' := ?_) #[true, true, true, true, true, true, false, false, false, false, false, false, false, false, false, false] rfl rfl (by kernel_rfl) (fun _ _ _ h => h) (Or.inl ⟨by rfl, ?_⟩) ?_ ?_
  rotate_left
  · intro w'
    go_simp
    with_reducible rfl
  rotate_left
  · simp only [Act.put, List.setIfInBounds_toArray, List.set_cons_zero, List.set_cons_succ, i64_w, i32_w]
    rfl
  refine pure_ (i := 6) (N := some 65) (v := ?_) (a' := ?_) #[true, true, true, true, true, true, true, false, false, false, false, false, false, false, false, false] rfl rfl (by kernel_rfl) (fun _ _ _ h => h) (Or.inl ⟨by rfl, ?_⟩) ?_ ?_
  rotate_left
  · intro w'
    go_simp
    with_reducible rfl
  rotate_left
  · simp only [Act.put, List.setIfInBounds_toArray, List.set_cons_zero, List.set_cons_succ, i64_w, i32_w]
    rfl
  refine pure_ (i := 8) (N := some 67) (v := ?_) (a' := ?_) #[true, true, true, true, true, true, true, false, true, false, false, false, false, false, false, false] rfl rfl (by kernel_rfl) (fun _ _ _ h => h) (Or.inl ⟨by rfl, ?_⟩) ?_ ?_
  rotate_left
  · intro w'
    go_simp
    with_reducible rfl
  rotate_left
  · simp only [Act.put, List.setIfInBounds_toArray, List.set_cons_zero, List.set_cons_succ, i64_w, i32_w]
    rfl
  refine pure_ (i := 9) (N := some 68) (v := ?_) (a' := ?_) #[true, true, true, true, true, true, true, false, true, true, false, false, false, false, false, false] rfl rfl (by kernel_rfl) (fun _ _ _ h => h) (Or.inl ⟨by rfl, ?_⟩) ?_ ?_
  rotate_left
  · intro w'
    go_simp
    with_reducible rfl
  rotate_left
  · simp only [Act.put, List.setIfInBounds_toArray, List.set_cons_zero, List.set_cons_succ, i64_w, i32_w]
    rfl
  refine pure_ (i := 10) (N := some 69) (v := ?_) (a' := ?_) #[true, true, true, true, true, true, true, false, true, true, true, false, false, false, false, false] rfl rfl (by kernel_rfl) (fun _ _ _ h => h) (Or.inl ⟨by rfl, ?_⟩) ?_ ?_
  rotate_left
  · intro w'
    go_simp
    with_reducible rfl
  rotate_left
  · simp only [Act.put, List.setIfInBounds_toArray, List.set_cons_zero, List.set_cons_succ, i64_w, i32_w]
    rfl
  refine take_ (i := 7) (N := some 66) (v := ?_) (a' := ?_) #[true, true, true, true, true, true, true, true, true, true, true, false, false, false, false, false] rfl rfl (by kernel_rfl) (fun _ _ _ h => h) (Or.inl ⟨by rfl, ?_⟩) hHeld ?_ ?_
  rotate_left
  · rintro w' ⟨s0, s1, s2, s3, s4⟩
    go_simp
    with_reducible rfl
  rotate_left
  · simp only [Act.put, List.setIfInBounds_toArray, List.set_cons_zero, List.set_cons_succ, i64_w, i32_w]
    rfl
  refine take_ (i := 11) (N := some 70) (v := ?_) (a' := ?_) #[true, true, true, true, true, true, true, true, true, true, true, true, false, false, false, false] rfl rfl (by kernel_rfl) (fun _ _ _ h => h) (Or.inl ⟨by rfl, ?_⟩) hHeld ?_ ?_
  rotate_left
  · rintro w' ⟨s0, s1, s2, s3, s4⟩
    go_simp
    with_reducible rfl
  rotate_left
  · simp only [Act.put, List.setIfInBounds_toArray, List.set_cons_zero, List.set_cons_succ, i64_w, i32_w]
    rfl
  refine pure_ (i := 12) (N := some 71) (v := ?_) (a' := ?_) #[true, true, true, true, true, true, true, true, true, true, true, true, true, false, false, false] rfl rfl (by kernel_rfl) (fun _ _ _ h => h) (Or.inl ⟨by rfl, ?_⟩) ?_ ?_
  rotate_left
  · intro w'
    go_simp
    with_reducible rfl
  rotate_left
  · simp only [Act.put, List.setIfInBounds_toArray, List.set_cons_zero, List.set_cons_succ, i64_w, i32_w]
    rfl
  refine last_ (i := 13) (N := none) #[true, true, true, true, true, true, true, true, true, true, true, true, true, true, false, false] rfl rfl (by kernel_rfl) (by decide) (fun K hK => ?_)
  refine skip_ (w1 := ?_) (by rfl) rfl ?_ ?_
  rotate_left
  · go_simp
    rfl
  have hX := hHeld.2.2.2.2.out.put HLT.out k (rd l n)
  generalize W2.setCell ⟨g2, k, none⟩ (.int .u8 (rd l n)) = W3 at hX ⊢
  have hc3 := hX.cell8 n hnm
  have hf3 := hX.fz8 n hnm
  refine hK.out _ _ ?_
  clear hK K
  refine pure_ (i := 14) (N := some 72) (v := ?_) (a' := ?_) #[true, true, true, true, true, true, true, true, true, true, true, true, true, true, true, false] rfl rfl (by kernel_rfl) (fun _ _ _ h => h) (Or.inl ⟨by rfl, ?_⟩) ?_ ?_
  rotate_left
  · intro w'
    go_simp
    with_reducible rfl
  rotate_left
  · simp only [Act.put, List.setIfInBounds_toArray, List.set_cons_zero, List.set_cons_succ, i64_w, i32_w]
    rfl
  refine last_ (i := 15) (N := none) #[true, true, true, true, true, true, true, true, true, true, true, true, true, true, true, true] rfl rfl (by kernel_rfl) (by decide) (fun K hK => ?_)
  refine skip_ (w1 := ?_) (by rfl) rfl ?_ ?_
  rotate_left
  · go_simp
    rfl
  have hX := hX.put HLT.out n (rd l k)
  generalize W3.setCell ⟨g2, n, none⟩ (.int .u8 (rd l k)) = W4 at hX ⊢
  refine hK.out _ _ ?_
  clear hK K
  refine done_ (by kernel_rfl) ?_

  clear hc3 hf3 hHeld HS
  have HS := Aside0.mk hX
  clear hX
  go_wp2_with fail
  generalize W4 = WE at HS ⊢
  have hcw := cs_swap l hbs (by rw [HL.out]; omega) k n (by rw [HL.out]; exact hkm) (by rw [HL.out]; exact hnm)
  refine start_ (n := 21) (S := fun w' => w'.cell? (ad.add k) = some (.int .u8 (rd l k)) ∧ w'.cell? (ad.add n) = some (.int .u8 (rd l n)) ∧ Aside0 (StU w w' (some ad) m c l g2 cap2 ((l.set k (rd l n)).set n (rd l k)))) (ds := []) #[false, false, false, false, false, false, false, false, false, false, false, false, false, false, false, false, false, false, false, false, false] (by kernel_rfl) rfl rfl ⟨(HS.out.step (below_drew (Below.refl _ _))).at_ k hkm, (HS.out.step (below_drew (Below.refl _ _))).at_ n hnm, ⟨(HS.out.step (below_drew (Below.refl _ _)))⟩⟩ (fun hHeld => ?_)
  generalize World.drew WE = W5 at hHeld ⊢
  refine pure_ (i := 0) (N := some 73) (v := ?_) (a' := ?_) #[true, false, false, false, false, false, false, false, false, false, false, false, false, false, false, false, false, false, false, false, false] rfl rfl (by kernel_rfl) (fun _ _ _ h => h) (Or.inl ⟨by rfl, ?_⟩) ?_ ?_
  rotate_left
  · intro w'
    go_simp
    with_reducible rfl
  rotate_left
  · simp only [Act.put, List.setIfInBounds_toArray, List.set_cons_zero, List.set_cons_succ, i64_w, i32_w]
    rfl
  refine pure_ (i := 3) (N := some 76) (v := ?_) (a' := ?_) #[true, false, false, true, false, false, false, false, false, false, false, false, false, false, false, false, false, false, false, false, false] rfl rfl (by kernel_rfl) (fun _ _ _ h => h) (Or.inl ⟨by rfl, ?_⟩) ?_ ?_
  rotate_left
  · intro w'
    go_simp
    with_reducible rfl
  rotate_left
  · simp only [Act.put, List.setIfInBounds_toArray, List.set_cons_zero, List.set_cons_succ, i64_w, i32_w]
    rfl
  refine pure_ (i := 7) (N := some 80) (v := ?_) (a' := ?_) #[true, false, false, true, false, false, false, true, false, false, false, false, false, false, false, false, false, false, false, false, false] rfl rfl (by kernel_rfl) (fun _ _ _ h => h) (Or.inl ⟨by rfl, ?_⟩) ?_ ?_
  rotate_left
  · intro w'
    go_simp
    with_reducible rfl
  rotate_left
  · simp only [Act.put, List.setIfInBounds_toArray, List.set_cons_zero, List.set_cons_succ, i64_w, i32_w]
    rfl
  refine pure_ (i := 8) (N := some 81) (v := ?_) (a' := ?_) #[true, false, false, true, false, false, false, true, true, false, false, false, false, false, false, false, false, false, false, false, false] rfl rfl (by kernel_rfl) (fun _ _ _ h => h) (Or.inl ⟨by rfl, ?_⟩) ?_ ?_
  rotate_left
  · intro w'
    go_simp
    with_reducible rfl
  rotate_left
  · simp only [Act.put, List.setIfInBounds_toArray, List.set_cons_zero, List.set_cons_succ, i64_w, i32_w]
    rfl
  refine pure_ (i := 9) (N := some 82) (v := ?_) (a' := ?_) #[true, false, false, true, false, false, false, true, true, true, false, false, false, false, false, false, false, false, false, false, false] rfl rfl (by kernel_rfl) (fun _ _ _ h => h) (Or.inl ⟨by rfl, ?_⟩) ?_ ?_
  rotate_left
  · intro w'
    go_simp
    with_reducible rfl
  rotate_left
  · simp only [Act.put, List.setIfInBounds_toArray, List.set_cons_zero, List.set_cons_succ, i64_w, i32_w]
    rfl
  refine pure_ (i := 11) (N := some 84) (v := ?_) (a' := ?_) #[true, false, false, true, false, false, false, true, true, true, false, true, false, false, false, false, false, false, false, false, false] rfl rfl (by kernel_rfl) (fun _ _ _ h => h) (Or.inl ⟨by rfl, ?_⟩) ?_ ?_
  rotate_left
  · intro w'
    go_simp
    with_reducible rfl
  rotate_left
  · simp only [Act.put, List.setIfInBounds_toArray, List.set_cons_zero, List.set_cons_succ, i64_w, i32_w]
    rfl
  refine pure_ (i := 12) (N := some 85) (v := ?_) (a' := ?_) #[true, false, false, true, false, false, false, true, true, true, false, true, true, false, false, false, false, false, false, false, false] rfl rfl (by kernel_rfl) (fun _ _ _ h => h) (Or.inl ⟨by rfl, ?_⟩) ?_ ?_
  rotate_left
  · intro w'
    go_simp
    with_reducible rfl
  rotate_left
  · simp only [Act.put, List.setIfInBounds_toArray, List.set_cons_zero, List.set_cons_succ, i64_w, i32_w]
    rfl
  refine pure_ (i := 13) (N := some 86) (v := ?_) (a' := ?_) #[true, false, false, true, false, false, false, true, true, true, false, true, true, true, false, false, false, false, false, false, false] rfl rfl (by kernel_rfl) (fun _ _ _ h => h) (Or.inl ⟨by rfl, ?_⟩) ?_ ?_
  rotate_left
  · intro w'
    go_simp
    with_reducible rfl
  rotate_left
  · simp only [Act.put, List.setIfInBounds_toArray, List.set_cons_zero, List.set_cons_succ, i64_w, i32_w]
    rfl
  refine take_ (i := 10) (N := some 83) (v := ?_) (a' := ?_) #[true, false, false, true, false, false, false, true, true, true, true, true, true, true, false, false, false, false, false, false, false] rfl rfl (by kernel_rfl) (fun _ _ _ h => h) (Or.inl ⟨by rfl, ?_⟩) hHeld ?_ ?_
  rotate_left
  · rintro w' ⟨s0, s1, s2⟩
    go_simp
    with_reducible rfl
  rotate_left
  · simp only [Act.put, List.setIfInBounds_toArray, List.set_cons_zero, List.set_cons_succ, i64_w, i32_w]
    rfl
  refine take_ (i := 14) (N := some 87) (v := ?_) (a' := ?_) #[true, false, false, true, false, false, false, true, true, true, true, true, true, true, true, false, false, false, false, false, false] rfl rfl (by kernel_rfl) (fun _ _ _ h => h) (Or.inl ⟨by rfl, ?_⟩) hHeld ?_ ?_
  rotate_left
  · rintro w' ⟨s0, s1, s2⟩
    go_simp
    with_reducible rfl
  rotate_left
  · simp only [Act.put, List.setIfInBounds_toArray, List.set_cons_zero, List.set_cons_succ, i64_w, i32_w]
    rfl
  refine pure_ (i := 15) (N := some 88) (v := ?_) (a' := ?_) #[true, false, false, true, false, false, false, true, true, true, true, true, true, true, true, true, false, false, false, false, false] rfl rfl (by kernel_rfl) (fun _ _ _ h => h) (Or.inl ⟨by rfl, ?_⟩) ?_ ?_
  rotate_left
  · intro w'
    go_simp
    with_reducible rfl
  rotate_left
  · simp only [Act.put, List.setIfInBounds_toArray, List.set_cons_zero, List.set_cons_succ, i64_w, i32_w]
    rfl
  refine join_ (σ := Nat × Nat) 7 #[true, true, true, true, true, false, false, true, true, true, true, true, true, true, true, true, false, false, false, false, false] (fun s => [(74, .slice (some ⟨s.1, 0, none⟩) 1 1), (75, .int .u32 (cs ((l.set k (rd l n)).set n (rd l k)))), (77, .slice (some ⟨s.2, 0, none⟩) 1 1)]) (fun s w' => Aside0 (StU w w' (some ad) m c l g2 cap2 ((l.set k (rd l n)).set n (rd l k))) ∧ w'.cell? ⟨s.1, 0, none⟩ = some (.slice (some ⟨g2, 0, none⟩) m cap2) ∧ w'.cell? ⟨s.2, 0, none⟩ = some (.slice (some ad) m c)) ?_ ?_
  rotate_left
  · intro hCont
    refine two_ (i := 1) (j := 4) (Ni := some 74) (Nj := some 77) #[true, true, false, true, false, false, false, true, true, true, true, true, true, true, true, true, false, false, false, false, false] #[true, false, false, true, true, false, false, true, true, true, true, true, true, true, true, true, false, false, false, false, false] rfl rfl rfl rfl (by kernel_rfl) (by decide) (by decide) (fun K hK => ?_) (fun K hK => ?_)
    · skip
      refine value_ (w1 := ?_) (v := ?_) (by rfl) rfl ?_ ?_
      rotate_left 2
      · go_simp
        constructor
        · rfl
        · rfl
      have hX := hHeld.2.2.out.step (below_alloc (Below.refl _ _) (Obj.cells #[.slice (some ⟨g2, 0, none⟩) m cap2] 22))
      have hQ1_0 : (World.alloc W5 (Obj.cells #[.slice (some ⟨g2, 0, none⟩) m cap2] 22)).cell? ⟨W5.heap.size, 0, none⟩ = some (.slice (some ⟨g2, 0, none⟩) m cap2) := (blk_cell (blk_new _ _) 0).trans rfl
      generalize World.alloc W5 (Obj.cells #[.slice (some ⟨g2, 0, none⟩) m cap2] 22) = wo1 at hX hQ1_0 ⊢
      refine hK.out _ _ ⟨hX.at_ k hkm, hX.at_ n hnm, ⟨hX⟩⟩ (fun hHeld => ?_)
      clear hK K
      refine norm_ (a' := ?_) ?_ ?_
      rotate_left
      · show Act.put _ (some 74) _ = _
        simp only [Act.put, List.setIfInBounds_toArray, List.set_cons_zero, List.set_cons_succ, i64_w, i32_w]
        rfl
      refine two_ (i := 2) (j := 4) (Ni := some 75) (Nj := some 77) #[true, true, true, true, false, false, false, true, true, true, true, true, true, true, true, true, false, false, false, false, false] #[true, true, false, true, true, false, false, true, true, true, true, true, true, true, true, true, false, false, false, false, false] rfl rfl rfl rfl (by kernel_rfl) (by decide) (by decide) (fun K hK => ?_) (fun K hK => ?_)
      · skip
        refine goes_ Try.func9 (by kernel_rfl) rfl #[.slice (some ⟨W5.heap.size, 0, none⟩) 1 1] (by rfl) rfl rfl (by simp only [List.map_toArray, List.map_cons, List.map_nil]; rfl) ?_
        with_reducible refine (sum1_calls K1 ⟨W5.heap.size, 0, none⟩ (some ⟨g2, 0, none⟩) m cap2 ((l.set k (rd l n)).set n (rd l k)) (cs ((l.set k (rd l n)).set n (rd l k))) 1 _ hQ1_0 hHeld.2.2.out.cap_le hHeld.2.2.out.r8 HCD.out (Nat.le_refl _)).mono ?_
        rintro e wo2 ⟨rfl, hb⟩
        refine ⟨_, rfl, ?_⟩
        have hX := hHeld.2.2.out.step hb
        replace hQ1_0 := pw_cell_below hb hQ1_0
        refine hK.out _ _ ⟨hX.at_ k hkm, hX.at_ n hnm, ⟨hX⟩⟩ (fun hHeld => ?_)
        clear hK K
        refine norm_ (a' := ?_) ?_ ?_
        rotate_left
        · show Act.put _ (some 75) _ = _
          simp only [Act.put, List.setIfInBounds_toArray, List.set_cons_zero, List.set_cons_succ, i64_w, i32_w]
          rfl
        refine one_ (i := 4) (N := some 77) #[true, true, true, true, true, false, false, true, true, true, true, true, true, true, true, true, false, false, false, false, false] rfl rfl (by kernel_rfl) (by decide) (fun K hK => ?_)
        refine value_ (w1 := ?_) (v := ?_) (by rfl) rfl ?_ ?_
        rotate_left 2
        · go_simp
          constructor
          · rfl
          · rfl
        have hX := hHeld.2.2.out.step (below_alloc (Below.refl _ _) (Obj.cells #[.slice (some ad) m c] 22))
        have hQ4_0 : (World.alloc wo2 (Obj.cells #[.slice (some ad) m c] 22)).cell? ⟨wo2.heap.size, 0, none⟩ = some (.slice (some ad) m c) := (blk_cell (blk_new _ _) 0).trans rfl
        replace hQ1_0 := pw_cell_below (below_alloc (Below.refl _ _) (Obj.cells #[.slice (some ad) m c] 22)) hQ1_0
        generalize World.alloc wo2 (Obj.cells #[.slice (some ad) m c] 22) = wo4 at hX hQ1_0 hQ4_0 ⊢
        refine hK.out _ _ ⟨hX.at_ k hkm, hX.at_ n hnm, ⟨hX⟩⟩ (fun hHeld => ?_)
        clear hK K
        refine norm_ (a' := ?_) ?_ ?_
        rotate_left
        · show Act.put _ (some 77) _ = _
          simp only [Act.put, List.setIfInBounds_toArray, List.set_cons_zero, List.set_cons_succ, i64_w, i32_w]
          rfl
        exact norm_ (by simp only [putAll, Act.put, List.setIfInBounds_toArray, List.set_cons_zero, List.set_cons_succ]) (hCont (W5.heap.size, wo2.heap.size) _ ⟨⟨hX⟩, hQ1_0, hQ4_0⟩)
      · skip
        refine value_ (w1 := ?_) (v := ?_) (by rfl) rfl ?_ ?_
        rotate_left 2
        · go_simp
          constructor
          · rfl
          · rfl
        have hX := hHeld.2.2.out.step (below_alloc (Below.refl _ _) (Obj.cells #[.slice (some ad) m c] 22))
        have hQ4_0 : (World.alloc wo1 (Obj.cells #[.slice (some ad) m c] 22)).cell? ⟨wo1.heap.size, 0, none⟩ = some (.slice (some ad) m c) := (blk_cell (blk_new _ _) 0).trans rfl
        replace hQ1_0 := pw_cell_below (below_alloc (Below.refl _ _) (Obj.cells #[.slice (some ad) m c] 22)) hQ1_0
        generalize World.alloc wo1 (Obj.cells #[.slice (some ad) m c] 22) = wo4 at hX hQ1_0 hQ4_0 ⊢
        refine hK.out _ _ ⟨hX.at_ k hkm, hX.at_ n hnm, ⟨hX⟩⟩ (fun hHeld => ?_)
        clear hK K
        refine norm_ (a' := ?_) ?_ ?_
        rotate_left
        · show Act.put _ (some 77) _ = _
          simp only [Act.put, List.setIfInBounds_toArray, List.set_cons_zero, List.set_cons_succ, i64_w, i32_w]
          rfl
        refine one_ (i := 2) (N := some 75) #[true, true, true, true, true, false, false, true, true, true, true, true, true, true, true, true, false, false, false, false, false] rfl rfl (by kernel_rfl) (by decide) (fun K hK => ?_)
        refine goes_ Try.func9 (by kernel_rfl) rfl #[.slice (some ⟨W5.heap.size, 0, none⟩) 1 1] (by rfl) rfl rfl (by simp only [List.map_toArray, List.map_cons, List.map_nil]; rfl) ?_
        with_reducible refine (sum1_calls K1 ⟨W5.heap.size, 0, none⟩ (some ⟨g2, 0, none⟩) m cap2 ((l.set k (rd l n)).set n (rd l k)) (cs ((l.set k (rd l n)).set n (rd l k))) 1 _ hQ1_0 hHeld.2.2.out.cap_le hHeld.2.2.out.r8 HCD.out (Nat.le_refl _)).mono ?_
        rintro e wo2 ⟨rfl, hb⟩
        refine ⟨_, rfl, ?_⟩
        have hX := hHeld.2.2.out.step hb
        replace hQ1_0 := pw_cell_below hb hQ1_0
        replace hQ4_0 := pw_cell_below hb hQ4_0
        refine hK.out _ _ ⟨hX.at_ k hkm, hX.at_ n hnm, ⟨hX⟩⟩ (fun hHeld => ?_)
        clear hK K
        refine norm_ (a' := ?_) ?_ ?_
        rotate_left
        · show Act.put _ (some 75) _ = _
          simp only [Act.put, List.setIfInBounds_toArray, List.set_cons_zero, List.set_cons_succ, i64_w, i32_w]
          rfl
        exact norm_ (by simp only [putAll, Act.put, List.setIfInBounds_toArray, List.set_cons_zero, List.set_cons_succ]) (hCont (W5.heap.size, wo1.heap.size) _ ⟨⟨hX⟩, hQ1_0, hQ4_0⟩)
    · skip
      refine value_ (w1 := ?_) (v := ?_) (by rfl) rfl ?_ ?_
      rotate_left 2
      · go_simp
        constructor
        · rfl
        · rfl
      have hX := hHeld.2.2.out.step (below_alloc (Below.refl _ _) (Obj.cells #[.slice (some ad) m c] 22))
      have hQ4_0 : (World.alloc W5 (Obj.cells #[.slice (some ad) m c] 22)).cell? ⟨W5.heap.size, 0, none⟩ = some (.slice (some ad) m c) := (blk_cell (blk_new _ _) 0).trans rfl
      generalize World.alloc W5 (Obj.cells #[.slice (some ad) m c] 22) = wo4 at hX hQ4_0 ⊢
      refine hK.out _ _ ⟨hX.at_ k hkm, hX.at_ n hnm, ⟨hX⟩⟩ (fun hHeld => ?_)
      clear hK K
      refine norm_ (a' := ?_) ?_ ?_
      rotate_left
      · show Act.put _ (some 77) _ = _
        simp only [Act.put, List.setIfInBounds_toArray, List.set_cons_zero, List.set_cons_succ, i64_w, i32_w]
        rfl
      refine one_ (i := 1) (N := some 74) #[true, true, false, true, true, false, false, true, true, true, true, true, true, true, true, true, false, false, false, false, false] rfl rfl (by kernel_rfl) (by decide) (fun K hK => ?_)
      refine value_ (w1 := ?_) (v := ?_) (by rfl) rfl ?_ ?_
      rotate_left 2
      · go_simp
        constructor
        · rfl
        · rfl
      have hX := hHeld.2.2.out.step (below_alloc (Below.refl _ _) (Obj.cells #[.slice (some ⟨g2, 0, none⟩) m cap2] 22))
      have hQ1_0 : (World.alloc wo4 (Obj.cells #[.slice (some ⟨g2, 0, none⟩) m cap2] 22)).cell? ⟨wo4.heap.size, 0, none⟩ = some (.slice (some ⟨g2, 0, none⟩) m cap2) := (blk_cell (blk_new _ _) 0).trans rfl
      replace hQ4_0 := pw_cell_below (below_alloc (Below.refl _ _) (Obj.cells #[.slice (some ⟨g2, 0, none⟩) m cap2] 22)) hQ4_0
      generalize World.alloc wo4 (Obj.cells #[.slice (some ⟨g2, 0, none⟩) m cap2] 22) = wo1 at hX hQ4_0 hQ1_0 ⊢
      refine hK.out _ _ ⟨hX.at_ k hkm, hX.at_ n hnm, ⟨hX⟩⟩ (fun hHeld => ?_)
      clear hK K
      refine norm_ (a' := ?_) ?_ ?_
      rotate_left
      · show Act.put _ (some 74) _ = _
        simp only [Act.put, List.setIfInBounds_toArray, List.set_cons_zero, List.set_cons_succ, i64_w, i32_w]
        rfl
      refine one_ (i := 2) (N := some 75) #[true, true, true, true, true, false, false, true, true, true, true, true, true, true, true, true, false, false, false, false, false] rfl rfl (by kernel_rfl) (by decide) (fun K hK => ?_)
      refine goes_ Try.func9 (by kernel_rfl) rfl #[.slice (some ⟨wo4.heap.size, 0, none⟩) 1 1] (by rfl) rfl rfl (by simp only [List.map_toArray, List.map_cons, List.map_nil]; rfl) ?_
      with_reducible refine (sum1_calls K1 ⟨wo4.heap.size, 0, none⟩ (some ⟨g2, 0, none⟩) m cap2 ((l.set k (rd l n)).set n (rd l k)) (cs ((l.set k (rd l n)).set n (rd l k))) 1 _ hQ1_0 hHeld.2.2.out.cap_le hHeld.2.2.out.r8 HCD.out (Nat.le_refl _)).mono ?_
      rintro e wo2 ⟨rfl, hb⟩
      refine ⟨_, rfl, ?_⟩
      have hX := hHeld.2.2.out.step hb
      replace hQ4_0 := pw_cell_below hb hQ4_0
      replace hQ1_0 := pw_cell_below hb hQ1_0
      refine hK.out _ _ ⟨hX.at_ k hkm, hX.at_ n hnm, ⟨hX⟩⟩ (fun hHeld => ?_)
      clear hK K
      refine norm_ (a' := ?_) ?_ ?_
      rotate_left
      · show Act.put _ (some 75) _ = _
        simp only [Act.put, List.setIfInBounds_toArray, List.set_cons_zero, List.set_cons_succ, i64_w, i32_w]
        rfl
      exact norm_ (by simp only [putAll, Act.put, List.setIfInBounds_toArray, List.set_cons_zero, List.set_cons_succ]) (hCont (wo4.heap.size, W5.heap.size) _ ⟨⟨hX⟩, hQ1_0, hQ4_0⟩)
  rintro s_f1 w_f1 ⟨hXX, hQ1_0, hQ4_0⟩
  have hX := hXX.out
  have hHeld : (w_f1.cell? (ad.add k) = some (.int .u8 (rd l k))) ∧ (w_f1.cell? (ad.add n) = some (.int .u8 (rd l n))) ∧ (Aside0 (StU w w_f1 (some ad) m c l g2 cap2 ((l.set k (rd l n)).set n (rd l k)))) := ⟨hX.at_ k hkm, hX.at_ n hnm, ⟨hX⟩⟩
  clear hX hXX
  refine norm_ (a' := ?_) ?_ ?_
  rotate_left
  · simp only [putAll, Act.put, List.setIfInBounds_toArray, List.set_cons_zero, List.set_cons_succ]
    rfl
  refine one_ (i := 5) (N := some 78) #[true, true, true, true, true, true, false, true, true, true, true, true, true, true, true, true, false, false, false, false, false] rfl rfl (by kernel_rfl) (by decide) (fun K hK => ?_)
  refine goes_ Try.func9 (by kernel_rfl) rfl #[.slice (some ⟨s_f1.2, 0, none⟩) 1 1] (by rfl) rfl rfl (by simp only [List.map_toArray, List.map_cons, List.map_nil]; rfl) ?_
  with_reducible refine (sum1_calls K1 ⟨s_f1.2, 0, none⟩ (some ad) m c l (cs l) 1 _ hQ4_0 HC.out hHeld.2.2.out.r HCL.out (Nat.le_refl _)).mono ?_
  rintro e wo5 ⟨rfl, hb⟩
  refine ⟨_, rfl, ?_⟩
  have hX := hHeld.2.2.out.step hb
  replace hQ1_0 := pw_cell_below hb hQ1_0
  replace hQ4_0 := pw_cell_below hb hQ4_0
  refine hK.out _ _ ⟨hX.at_ k hkm, hX.at_ n hnm, ⟨hX⟩⟩ (fun hHeld => ?_)
  clear hK K
  refine norm_ (a' := ?_) ?_ ?_
  rotate_left
  · show Act.put _ (some 78) _ = _
    simp only [Act.put, List.setIfInBounds_toArray, List.set_cons_zero, List.set_cons_succ, i64_w, i32_w]
    rfl
  refine pure_ (i := 6) (N := some 79) (v := ?_) (a' := ?_) #[true, true, true, true, true, true, true, true, true, true, true, true, true, true, true, true, false, false, false, false, false] rfl rfl (by kernel_rfl) (fun _ _ _ h => h) (Or.inl ⟨by rfl, ?_⟩) ?_ ?_
  rotate_left
  · intro w'
    go_simp
    with_reducible rfl
  rotate_left
  · simp only [Act.put, List.setIfInBounds_toArray, List.set_cons_zero, List.set_cons_succ, i64_w, i32_w]
    rfl
  refine pure_ (i := 16) (N := some 89) (v := ?_) (a' := ?_) #[true, true, true, true, true, true, true, true, true, true, true, true, true, true, true, true, true, false, false, false, false] rfl rfl (by kernel_rfl) (fun _ _ _ h => h) (Or.inl ⟨by rfl, ?_⟩) ?_ ?_
  rotate_left
  · intro w'
    go_simp
    with_reducible rfl
  rotate_left
  · simp only [Act.put, List.setIfInBounds_toArray, List.set_cons_zero, List.set_cons_succ, i64_w, i32_w]
    rfl
  refine pure_ (i := 17) (N := some 90) (v := ?_) (a' := ?_) #[true, true, true, true, true, true, true, true, true, true, true, true, true, true, true, true, true, true, false, false, false] rfl rfl (by kernel_rfl) (fun _ _ _ h => h) (Or.inl ⟨by rfl, ?_⟩) ?_ ?_
  rotate_left
  · intro w'
    go_simp
    with_reducible rfl
  rotate_left
  · simp only [Act.put, List.setIfInBounds_toArray, List.set_cons_zero, List.set_cons_succ, i64_w, i32_w]
    rfl
  refine one_ (i := 18) (N := some 91) #[true, true, true, true, true, true, true, true, true, true, true, true, true, true, true, true, true, true, true, false, false] rfl rfl (by kernel_rfl) (by decide) (fun K hK => ?_)
  refine goes_ Try.func12 (by kernel_rfl) rfl #[] (by rfl) rfl rfl (by simp only [List.map_toArray, List.map_nil]) ?_
  with_reducible refine (one_calls _).mono ?_
  rintro e wo18 ⟨rfl, hb⟩
  refine ⟨_, rfl, ?_⟩
  have hX := hHeld.2.2.out.step hb
  replace hQ1_0 := pw_cell_below hb hQ1_0
  replace hQ4_0 := pw_cell_below hb hQ4_0
  refine hK.out _ _ ⟨hX.at_ k hkm, hX.at_ n hnm, ⟨hX⟩⟩ (fun hHeld => ?_)
  clear hK K
  refine norm_ (a' := ?_) ?_ ?_
  rotate_left
  · show Act.put _ (some 91) _ = _
    simp only [Act.put, List.setIfInBounds_toArray, List.set_cons_zero, List.set_cons_succ, i64_w, i32_w]
    rfl
  refine pure_ (i := 19) (N := some 92) (v := ?_) (a' := ?_) #[true, true, true, true, true, true, true, true, true, true, true, true, true, true, true, true, true, true, true, true, false] rfl rfl (by kernel_rfl) (fun _ _ _ h => h) (Or.inl ⟨by rfl, ?_⟩) ?_ ?_
  rotate_left
  · intro w'
    go_simp
    with_reducible rfl
  rotate_left
  · simp only [Act.put, List.setIfInBounds_toArray, List.set_cons_zero, List.set_cons_succ, i64_w, i32_w]
    rfl
  refine pure_ (i := 20) (N := some 6) (v := ?_) (a' := ?_) #[true, true, true, true, true, true, true, true, true, true, true, true, true, true, true, true, true, true, true, true, true] rfl rfl (by kernel_rfl) (fun _ _ _ h => h) (Or.inl ⟨by rfl, ?_⟩) ?_ ?_
  rotate_left
  · intro w'
    go_simp
    with_reducible rfl
  rotate_left
  · simp only [Act.put, List.setIfInBounds_toArray, List.set_cons_zero, List.set_cons_succ, i64_w, i32_w]
    rfl
  refine done_ (by kernel_rfl) ?_

  go_wp2
  go_ret
  exact ⟨rfl, hHeld.2.2.out.bl⟩
theorem turned_walk (a0 : Option Addr) (len0 cap0 : Nat) (z0 : List Int) {w : World} (w0 : Came w a0 len0 cap0 z0) (y0 : len0 * 1 ≤ 140737488351232) (t v : Int) (wt : (Lit.int .i64 t).wf = true) (wv : (Lit.int .u8 v).wf = true) (w1 : World) (hw : w1 = w := by rfl) :
    Calls Try.prog 4 #[.slice a0 len0 cap0, .int .i64 t, .int .u8 v] w1 fun e w' => e = .returned (.bool true) ∧ Below w1.heap.size w1 w' := by
  subst hw
  obtain ⟨l, hr, hc, hb⟩ := came w0
  have hv := bounds_u8 wv
  have ht := bounds_i64 wt
  by_cases h : len0 = 0 ∨ 3000 < len0
  · exact turned_one a0 cap0 len0 t v _ h
  · exact turned_main a0 cap0 len0 l t v _ (by omega) (by omega) hb (by omega) (by omega) hr hc
end Go.Proofs.Ytfkjilnhjaegbaa.PSum
