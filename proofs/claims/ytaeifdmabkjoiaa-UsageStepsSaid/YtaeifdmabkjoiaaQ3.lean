/- right and Of: steps that are right, and those that are not. -/
import Derived.Test.YtaeifdmabkjoiaaA7
import Derived.Test.YtaeifdmabkjoiaaP7
namespace Go.Proofs.Ytaeifdmabkjoiaa.PPU
open Go.RowKit Go.Proofs.YtaeifdmabkjoiaaW.PrintWords Go.Proofs.YtaeifdmabkjoiaaW.PrintLast Go.Proofs.YtaeifdmabkjoiaaW.PrintMore
set_option linter.unusedVariables false
set_option linter.unusedSimpArgs false

/-- Step j may be where it is. -/
def okAt (f : Nat → S67) (j : Nat) : Prop := (-1000000 ≤ (f j).f1 ∧ (f j).f1 ≤ 1000000) ∧ (0 < j → (f (j - 1)).f0 < (f j).f0 ∧ (f j).f1 ≠ (f (j - 1)).f1)
theorem wf_iff (n : Nat) (f : Nat → S67) : Wf n f ↔ (0 < n ∧ (f 0).f0 = 0 ∧ (f (n - 1)).f0 < 1099511627776 ∧ ∀ j, j < n → okAt f j) := by
  constructor
  · intro h
    refine ⟨h.pos, h.zero, h.top _ (by have := h.pos; omega), fun j hj => ⟨h.lv j hj, fun h0 => ⟨h.lt (j - 1) j (by omega) hj, ?_⟩⟩⟩
    have := h.ne (j - 1) (by omega)
    rw [show j - 1 + 1 = j by omega] at this
    exact fun e => this e.symm
  · rintro ⟨h0, h1, h2, h3⟩
    have hlt : ∀ d i, i + d + 1 < n → (f i).f0 < (f (i + d + 1)).f0 := by
      intro d
      induction d with
      | zero => intro i hi; exact ((h3 (i + 1) hi).2 (by omega)).1
      | succ d ih =>
        intro i hi
        have a := ih i (by omega)
        have b := ((h3 (i + (d + 1) + 1) hi).2 (by omega)).1
        rw [show i + (d + 1) + 1 - 1 = i + d + 1 by omega] at b
        omega
    have lt : ∀ i j, i < j → j < n → (f i).f0 < (f j).f0 := fun i j hij hj => by
      have := hlt (j - i - 1) i (by omega)
      rwa [show i + (j - i - 1) + 1 = j by omega] at this
    refine ⟨⟨h0, h1, lt, fun i hi => ?_, fun i hi => (h3 i hi).1⟩, fun i hi => ?_⟩
    · by_cases e : i = n - 1
      · rw [e]; exact h2
      · have := lt i (n - 1) (by omega) (by omega)
        omega
    · have := ((h3 (i + 1) hi).2 (by omega)).2
      exact fun e => this e.symm
theorem wth_iff (x : Int) : x = wth x ↔ -1000000 ≤ x ∧ x ≤ 1000000 := by unfold wth mx mn; (repeat' split) <;> omega
theorem right_l0 (l : List S67) (n : Nat) (hl : l.length = n) (hn : n ≤ 2000) : ∀ (d i : Nat), n - i = d → i ≤ n → ∃ r, usage_right.l0 (d + 1) l l n i = some r ∧ (r = true ↔ ∀ j, i ≤ j → j < n → okAt (at67 l) j) := by
  intro d
  induction d with
  | zero =>
    intro i hd hi
    refine ⟨true, ?_, by simp; intro j h2 h3; omega⟩
    rw [usage_right.l0, if_neg (by omega)]
  | succ d ih =>
    intro i hd hi
    obtain ⟨r, h2, h3⟩ := ih (i + 1) (by omega) (by omega)
    have e0 : rd_T67 l (i : Int) = at67 l i := rfl
    have e1 : usage_within.f (at67 l i).f1 = some (wth (at67 l i).f1) := rfl
    have hstep : ∀ b : Prop, (okAt (at67 l) i ↔ b) → ((∀ j, i ≤ j → j < n → okAt (at67 l) j) ↔ b ∧ ∀ j, i + 1 ≤ j → j < n → okAt (at67 l) j) := fun b hb => by
      constructor
      · intro h
        exact ⟨hb.1 (h i (Nat.le_refl _) (by omega)), fun j h4 h5 => h j (by omega) h5⟩
      · rintro ⟨h4, h5⟩ j h6 h7
        rcases Nat.eq_or_lt_of_le h6 with e | e
        · rw [← e]; exact hb.2 h4
        · exact h5 j e h7
    rw [usage_right.l0, if_pos (by omega), if_pos (by omega), if_pos (by omega), e0, e1]
    simp only [Option.bind_some]
    by_cases hw : (at67 l i).f1 = wth (at67 l i).f1
    · have hw2 := (wth_iff _).1 hw
      rw [if_pos hw]
      by_cases hi0 : (i : Int) > 0
      · have e2 : wrap64 ((i : Int) - 1) = ((i - 1 : Nat) : Int) := by rw [IntWalk.wrap64_in _ (by omega)]; omega
        have e3 : rd_T67 l ((i - 1 : Nat) : Int) = at67 l (i - 1) := rfl
        have e4 : wrap64 ((i : Int) + 1) = ((i + 1 : Nat) : Int) := by rw [IntWalk.wrap64_in _ (by omega)]; omega
        rw [if_pos hi0, e2, if_pos (by omega), if_pos (by omega), e3, e4]
        by_cases h4 : (at67 l i).f0 ≤ (at67 l (i - 1)).f0
        · rw [if_pos h4]
          refine ⟨false, rfl, ?_⟩
          rw [hstep False ⟨fun h => by have := (h.2 (by omega)).1; omega, False.elim⟩]
          simp
        · rw [if_neg h4]
          by_cases h5 : (at67 l i).f1 = (at67 l (i - 1)).f1
          · rw [if_pos h5]
            refine ⟨false, rfl, ?_⟩
            rw [hstep False ⟨fun h => (h.2 (by omega)).2 h5, False.elim⟩]
            simp
          · rw [if_neg h5]
            refine ⟨r, h2, ?_⟩
            rw [hstep True ⟨fun _ => trivial, fun _ => ⟨hw2, fun _ => ⟨by omega, h5⟩⟩⟩, h3]
            simp
      · have e4 : wrap64 ((i : Int) + 1) = ((i + 1 : Nat) : Int) := by rw [IntWalk.wrap64_in _ (by omega)]; omega
        rw [if_neg hi0, e4]
        refine ⟨r, h2, ?_⟩
        rw [hstep True ⟨fun _ => trivial, fun _ => ⟨hw2, fun h => by omega⟩⟩, h3]
        simp
    · rw [if_neg hw]
      refine ⟨false, rfl, ?_⟩
      rw [hstep False ⟨fun h => hw ((wth_iff _).2 h.1), False.elim⟩]
      simp
theorem right_f (l : List S67) (hn : l.length ≤ 2000) : ∃ r, usage_right.f (l.length + 2) l = some r ∧ (r = true ↔ Wf l.length (at67 l)) := by
  have e0 : rd_T67 l 0 = at67 l 0 := rfl
  have hT : ∀ k, usage_right.j0 (k + 1) l true = some false := fun k => by rw [usage_right.j0, if_pos rfl]
  unfold usage_right.f
  by_cases h0 : (l.length : Int) = 0
  · rw [if_pos h0, hT]
    exact ⟨false, rfl, by rw [wf_iff]; simp; intro h; omega⟩
  · rw [if_neg h0, if_pos (by omega), e0]
    by_cases h1 : (at67 l 0).f0 = 0
    · have e2 : wrap64 ((l.length : Int) - 1) = ((l.length - 1 : Nat) : Int) := by rw [IntWalk.wrap64_in _ (by omega)]; omega
      have e3 : rd_T67 l ((l.length - 1 : Nat) : Int) = at67 l (l.length - 1) := rfl
      rw [if_pos h1, e2, if_pos (by omega), if_pos (by omega), e3]
      by_cases h2 : (at67 l (l.length - 1)).f0 ≥ 1099511627776
      · rw [decide_eq_true h2, hT]
        exact ⟨false, rfl, by rw [wf_iff]; simp; intro _ _ h; omega⟩
      · rw [decide_eq_false h2, usage_right.j0, if_neg (by simp)]
        obtain ⟨r, h3, h4⟩ := right_l0 l l.length rfl hn l.length 0 (by omega) (by omega)
        refine ⟨r, h3, h4.trans ?_⟩
        rw [wf_iff]
        exact ⟨fun h => ⟨by omega, h1, by omega, fun j hj => h j (by omega) hj⟩, fun h j _ hj => h.2.2.2 j hj⟩
    · rw [if_neg h1, hT]
      exact ⟨false, rfl, by rw [wf_iff]; simp; intro _ h; exact absurd h h1⟩
theorem right_v (A : Option Addr) (c : Nat) (l : List S67) (v : Bool) (w : World) (h : Kd.C k67 w A l.length l) (hc : l.length ≤ c) (hn : l.length ≤ 2000) (hv : Wf l.length (at67 l) ↔ v = true) :
    Calls Try.prog 58 #[.slice A l.length c] w fun e w' => e = .returned (.bool v) ∧ Below w.heap.size w w' := by
  obtain ⟨r, h1, h2⟩ := right_f l hn
  have e : r = v := by
    have h3 := h2.trans hv
    cases r <;> cases v <;> simp_all
  rw [e] at h1
  exact usage_right.calls _ A c l v w h hc h1
set_option maxHeartbeats 4000000 in
set_option maxRecDepth 100000 in
theorem of_yes (A : Option Addr) (c n : Nat) (l : List S67) (w : World) (h : Kd.C k67 w A n l) (hl : l.length = n) (hc : n ≤ c) (hn : n ≤ 2000) (hW : Wf n (at67 l)) :
    Calls Try.prog 29 #[.slice A n c] w fun e w' => ∃ p g, e = .returned (.tuple #[ptrV p, .int .i64 0]) ∧ St w' p g n (lev n (at67 l)) ∧ w.heap.size ≤ p ∧ w.heap.size ≤ g ∧ Below w.heap.size w w' := by
  subst hl
  obtain ⟨ad, rfl⟩ : ∃ ad, A = some ad := by
    obtain ⟨_, _, h3⟩ := h
    obtain ⟨ad, e, _⟩ := h3 hW.pos
    exact ⟨ad, e⟩
  have HH := Aside0.mk h
  have HW := Aside0.mk hW
  clear h hW
  go_enter Try.func29, Try.ntmps29
  go_wp2_with fail
  refine (right_v (some ad) c l true _ HH.out hc hn ⟨fun _ => rfl, fun _ => HW.out⟩).mono ?_
  rintro e w1 ⟨rfl, hb⟩
  have HB1 := Aside0.mk hb
  have HH1 := Aside0.mk (Kd.C_below HH.out hb)
  clear hb
  go_wp2_with fail
  refine (sclone_c ad c l.length l _ HH1.out HW.out.pos hn).mono ?_
  rintro e w2 ⟨g2, cap2, rfl, h1, h2, h3, h4⟩
  have HD := Aside0.mk (And.intro h1 (And.intro h2 (And.intro h3 h4)))
  clear h1 h2 h3 h4
  go_wp2_with fail
  go_ret2
  obtain ⟨h1, h2, h3, h4⟩ := HD.out
  have hb : Below w.heap.size w w2 := below_step HB1.out h4
  have hb3 : Below w2.heap.size w2 (w2.alloc (.cells #[.slice (some ⟨g2, 0, none⟩) l.length cap2] 58 (0, 0))) := (Below.refl _ w2).alloc (Nat.le_refl _) _
  have hg2 := h1.lt
  exact ⟨w2.heap.size, g2, rfl, ⟨cap2, l.length, at67 l, ⟨heap_alloc_new w2 _, h1.below hb3, by omega, h3⟩, HW.out, Nat.le_refl _, fun s _ _ => rfl⟩, hb.size, Nat.le_trans HB1.out.size h2, below_step hb hb3⟩
set_option maxHeartbeats 4000000 in
set_option maxRecDepth 100000 in
theorem of_no (A : Option Addr) (c n : Nat) (l : List S67) (w : World) (h : Kd.C k67 w A n l) (hl : l.length = n) (hc : n ≤ c) (hn : n ≤ 2000) (hW : ¬ Wf n (at67 l)) :
    Calls Try.prog 29 #[.slice A n c] w fun e w' => e = .returned (.tuple #[.pointer none, .int .i64 2]) ∧ Below w.heap.size w w' := by
  subst hl
  have HH := Aside0.mk h
  have HW := Aside0.mk hW
  clear h hW
  go_enter Try.func29, Try.ntmps29
  go_wp2_with fail
  refine (right_v A c l false _ HH.out hc hn ⟨fun h => absurd h HW.out, fun h => by cases h⟩).mono ?_
  rintro e w1 ⟨rfl, hb⟩
  have HB1 := Aside0.mk hb
  clear hb
  go_wp2_with fail
  go_ret2
  exact ⟨rfl, HB1.out⟩
end Go.Proofs.Ytaeifdmabkjoiaa.PPU
