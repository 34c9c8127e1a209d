/- The contracts of Clone, SortStableFunc and Sort. -/
import Derived.Test.YtcbhnjkmjiokgaaH1
import Derived.WalkSpells
namespace Go.Proofs.Ytcbhnjkmjiokgaa.PPPrio
open Go.RowKit Go.Proofs.YtcbhnjkmjiokgaaW.PrintWords Go.Proofs.YtcbhnjkmjiokgaaW.PrintLast Go.Proofs.YtcbhnjkmjiokgaaW.PrintMore
set_option linter.unusedVariables false
set_option linter.unusedSimpArgs false

def itemAt (l : List S38) (k : Nat) : S38 := l.getD k z38
theorem R_rowF {w : World} {base : Nat} {ok : Nat → Prop} {v : Value} {l : List S38} (h : Kd.R k38 38 w base ok v l) (hl : 0 < l.length) : ∃ g cap, v = .slice (some ⟨g, 0, none⟩) l.length cap ∧ base ≤ g ∧ RowF w g l.length cap (itemAt l) := by
  obtain ⟨_, inner, ho, hr⟩ := h
  rcases ho.2 with ⟨_, h0⟩ | ⟨g, cap, cur, rfl, hb, hh, hn, hm, hs, ht⟩
  · omega
  · refine ⟨g, cap, rfl, hb, hn, cur, hh, hs, fun k hk => ?_⟩
    have hx := hr.2 k (itemAt l k) (by unfold itemAt; rw [List.getD_eq_getElem?_getD, List.getElem?_eq_getElem hk]; rfl)
    have hx2 := k38_openM hx
    have hlen : inner.length = l.length * 2 := hr.1
    have e : ∀ j, j < 2 → cur[k * 2 + j]? = ((inner.drop (k * 2)).take 2)[j]? := fun j hj => by
      have hsz : (k38.sz : Nat) = 2 := rfl
      rw [List.getElem?_take_of_lt hj, List.getElem?_drop, ← ht, List.getElem?_take_of_lt (by rw [hsz]; omega), Array.getElem?_toList]
    have e0 := e 0 (by omega)
    have e1 := e 1 (by omega)
    have hx3 : (inner.drop (k * 2)).take 2 = [.int .i64 (itemAt l k).f0, .int .i64 (itemAt l k).f1] := hx2
    rw [hx3] at e0 e1
    exact ⟨e0, e1⟩
theorem rowF_R {w : World} {base g n cap : Nat} {f : Nat → S38} (h : RowF w g n cap f) (hb : base ≤ g) (hc : cap ≤ 9223372036854775807) : Kd.R k38 38 w base (fun _ => True) (.slice (some ⟨g, 0, none⟩) n cap) ((List.range n).map f) := by
  obtain ⟨h1, cur, h2, h3, h4⟩ := h
  refine ⟨fun _ _ => trivial, cur.toList.take (n * 2), ⟨?_, .inr ⟨g, cap, cur, by simp, hb, h2, by simpa using h1, hc, h3, by simp; rfl⟩⟩, ?_, fun j p hj => ?_⟩
  · have hsz : (k38.sz : Nat) = 2 := rfl
    rw [hsz]; simp; omega
  · have hsz : (k38.sz : Nat) = 2 := rfl
    rw [hsz]; simp; omega
  · have hjn : j < n := by have := (List.getElem?_eq_some_iff.1 hj).1; simpa using this
    have hp : p = f j := by simp [hjn] at hj; exact hj.symm
    subst hp
    obtain ⟨e0, e1⟩ := h4 j hjn
    have e : ((cur.toList.take (n * 2)).drop (j * 2)).take 2 = [.int .i64 (f j).f0, .int .i64 (f j).f1] := by
      apply List.ext_getElem?
      intro i
      match i with
      | 0 => rw [List.getElem?_take_of_lt (by omega), List.getElem?_drop, List.getElem?_take_of_lt (by omega), Array.getElem?_toList]; exact e0
      | 1 => rw [List.getElem?_take_of_lt (by omega), List.getElem?_drop, List.getElem?_take_of_lt (by omega), Array.getElem?_toList]; exact e1
      | i + 2 => simp; omega
    show k38.M _ _ _ _ (((cur.toList.take (n * 2)).drop (j * 2)).take 2)
    rw [e]
    exact k38_mkM _ _ _ _

set_option maxHeartbeats 2000000 in
set_option maxRecDepth 100000 in
theorem clone_calls (A : Option Addr) (c : Nat) (l : List S38) (w : World) (hr : Kd.C k38 w A l.length l) (hn : l.length < 1099511627776) :
    Calls Try.prog 22 #[.slice A l.length c] w fun e w' => ∃ v, e = .returned v ∧ Kd.R k38 38 w' w.heap.size (fun _ => True) v l ∧ Below w.heap.size w w' := by
  have HR := Aside0.mk hr
  clear hr
  have hq : ∀ W : World, (binOp .eql 35 (.slice A l.length c) (.slice none 0 0)).run Try.prog W = .ok (.bool A.isNone) W := fun W => Lib.run_eql_slice_nil W 35 38 A l.length c 0 0 Try.underlying35
  cases A with
  | none =>
    have hl : l = [] := by
      rcases Nat.eq_zero_or_pos l.length with h0 | h0
      · exact List.eq_nil_of_length_eq_zero h0
      · obtain ⟨ad, e, _⟩ := HR.out.2.2 h0
        cases e
    subst hl
    have hq0 : ∀ W : World, (binOp .eql 35 (.slice none 0 c) (.slice none 0 0)).run Try.prog W = .ok (.bool true) W := fun W => Lib.run_eql_slice_nil W 35 38 none 0 c 0 0 Try.underlying35
    clear hq
    go_enter Try.func22, Try.ntmps22
    go_wp2_with fail
    go_ret
    exact ⟨_, rfl, Kd.R_nil _ _ _ _ _, Below.refl _ _⟩
  | some ad =>
    go_enter Try.func22, Try.ntmps22
    go_wp2_with (at_builtin; refine Kd.R_append_rows k38 (w0 := w) w.heap.size rfl (.tmp 5) (.tmp 6) 35 38 (.agg #[(.int .i64 0), (.int .i64 0)]) 16 rfl Try.underlying35 info38 rfl (by decide) (by omega) (.slice (some ⟨w.heap.size, 0, none⟩) 0 0) [] l (some ad) l.length c (fun _ => True) (fun _ => False) rfl rfl ?aO ?aR (fun _ _ h => h) (fun _ h => h.elim) ?aF ?aB ?aS ?aL ?_; (case aR => exact Kd.C_alloc HR.out _); (case aB => exact below_alloc (Below.refl _ _) _); (case aF => exact fun _ _ => trivial); (case aO => exact ⟨fun _ _ => trivial, [], ⟨rfl, .inr ⟨w.heap.size, 0, #[], rfl, Nat.le_refl _, blk_new _ _, Nat.le_refl _, by simp, rfl, rfl⟩⟩, Reps.none _ _⟩); (case aS => simp); (case aL => simp; omega); intro v1 w1 ho hb hg hat; clear hg hat; simp only [List.nil_append] at ho; have HO := Aside0.mk ho; have HB := Aside0.mk hb; clear ho hb)
    go_ret
    exact ⟨_, rfl, HO.out, HB.out⟩

set_option maxHeartbeats 1000000 in
set_option maxRecDepth 100000 in
theorem insertion_none (v : Value) (w : World) :
    Calls Try.prog 29 #[v, .int .i64 0, .int .i64 0, cmpV] w fun e w' => e = .returned (.tuple #[]) ∧ Below w.heap.size w w' := by
  go_enter Try.func29, Try.ntmps29
  go_wp2_with fail
  refine wp_loop_rounds 1 ?_
  rw [rounds_succ]
  go_wp2_with fail
  go_end0
  exact ⟨rfl, Below.refl _ _⟩

set_option maxHeartbeats 1000000 in
set_option maxRecDepth 100000 in
theorem stable_none (A : Option Addr) (c : Nat) (w : World) :
    Calls Try.prog 26 #[.slice A 0 c, .int .i64 0, cmpV] w fun e w' => e = .returned (.tuple #[]) ∧ Below w.heap.size w w' := by
  go_enter Try.func26, Try.ntmps26
  go_wp2_with fail
  refine wp_loop_rounds 1 ?_
  rw [rounds_succ]
  go_wp2_with fail
  refine (insertion_none _ _).mono ?_
  rintro e w1 ⟨rfl, hb⟩
  go_wp2_with fail
  refine wp_loop_rounds 1 ?_
  rw [rounds_succ]
  go_wp2_with fail
  go_end0
  exact ⟨rfl, hb⟩

/-- Insertion of an item into items in order. -/
def insI (x : S38) : List S38 → List S38
  | [] => [x]
  | y :: l => if ltI x y = true then x :: y :: l else y :: insI x l
/-- The items in order. -/
def sortI : List S38 → List S38
  | [] => []
  | x :: l => insI x (sortI l)
def Asc (l : List S38) : Prop := l.Pairwise (fun a b => ltI b a = false)
theorem insI_perm (x : S38) (l : List S38) : (insI x l).Perm (x :: l) := by
  induction l with
  | nil => exact List.Perm.refl _
  | cons y l ih =>
    unfold insI
    split
    · exact List.Perm.refl _
    · exact (List.Perm.cons y ih).trans (List.Perm.swap x y l)
theorem sortI_perm (l : List S38) : (sortI l).Perm l := by
  induction l with
  | nil => exact List.Perm.refl _
  | cons x l ih => exact (insI_perm x _).trans (List.Perm.cons x ih)
theorem insI_asc (x : S38) (l : List S38) (h : Asc l) : Asc (insI x l) := by
  induction l with
  | nil => exact List.pairwise_singleton _ _
  | cons y l ih =>
    have hy := List.pairwise_cons.1 h
    unfold insI
    split
    · rename_i hlt
      refine List.pairwise_cons.2 ⟨fun z hz => ?_, h⟩
      rcases List.mem_cons.1 hz with rfl | hz
      · exact ltI_asymm hlt
      · exact le_trans' (ltI_asymm hlt) (hy.1 z hz)
    · rename_i hlt
      refine List.pairwise_cons.2 ⟨fun z hz => ?_, ih hy.2⟩
      rcases List.mem_cons.1 ((insI_perm x l).mem_iff.1 hz) with rfl | hz
      · simpa using hlt
      · exact hy.1 z hz
theorem sortI_asc (l : List S38) : Asc (sortI l) := by
  induction l with
  | nil => exact List.Pairwise.nil
  | cons x l ih => exact insI_asc x _ ih
/-- Items in order are told by the items alone. -/
theorem asc_unique : ∀ {l m : List S38}, l.Perm m → Asc l → Asc m → l = m
  | [], m, h, _, _ => (List.nil_perm.1 h).symm
  | x :: l, [], h, _, _ => (List.perm_nil.1 h)
  | x :: l, y :: m, h, hl, hm => by
    have h1 := List.pairwise_cons.1 hl
    have h2 := List.pairwise_cons.1 hm
    have exy : x = y := by
      have a1 : y ∈ x :: l := h.mem_iff.2 List.mem_cons_self
      have a2 : x ∈ y :: m := h.mem_iff.1 List.mem_cons_self
      rcases List.mem_cons.1 a1 with e | a1
      · exact e.symm
      · rcases List.mem_cons.1 a2 with e | a2
        · exact e
        · exact ltI_antisymm (h2.1 x a2) (h1.1 y a1)
    subst exy
    rw [asc_unique (List.Perm.cons_inv h) h1.2 h2.2]
theorem map_itemAt (l : List S38) : (List.range l.length).map (itemAt l) = l := by
  apply List.ext_getElem
  · simp
  · intro i h1 h2
    simp [itemAt, List.getD_eq_getElem?_getD, List.getElem?_eq_getElem h2]
theorem srt_asc {n : Nat} {f : Nat → S38} (h : Srt f 0 n) : Asc ((List.range n).map f) := by
  unfold Asc
  rw [List.pairwise_map]
  refine List.Pairwise.imp_of_mem ?_ (List.pairwise_lt_range (n := n))
  intro a b ha hb hab
  exact h a b (Nat.zero_le _) hab (List.mem_range.1 hb)
theorem sorted_is {l : List S38} {f : Nat → S38} (hp : Pm l.length (itemAt l) f) (hs : Srt f 0 l.length) : (List.range l.length).map f = sortI l := by
  refine asc_unique ?_ (srt_asc hs) (sortI_asc l)
  refine List.Perm.trans hp ?_
  rw [map_itemAt]
  exact (sortI_perm l).symm

def prio_Sort.f (l0 : List (S38)) : Option ((List (S38))) := if l0.length < 1099511627776 then some (sortI l0) else none
set_option maxHeartbeats 1000000 in
set_option maxRecDepth 100000 in
theorem prio_Sort.calls (A0 : Option Addr) (c0 : Nat) (l0 : List (S38)) (r : List (S38)) (w : World) (hr0 : Kd.C k38 w A0 l0.length l0) (hc0 : l0.length ≤ c0) (h : prio_Sort.f l0 = some r) :
    Calls Try.prog 13 #[.slice A0 l0.length c0] w fun e w' => ∃ v0_ : Value, e = .returned (v0_) ∧ Kd.R k38 38 w' w.heap.size (fun _ => True) v0_ r ∧ Below w.heap.size w w' := by
  have hn : l0.length < 1099511627776 := by
    unfold prio_Sort.f at h
    by_cases e : l0.length < 1099511627776
    · exact e
    · rw [if_neg e] at h; cases h
  have hr : sortI l0 = r := by unfold prio_Sort.f at h; rw [if_pos hn] at h; exact Option.some.inj h
  have HR := Aside0.mk hr0
  have HS := Aside0.mk hr
  clear hr0 h hr
  by_cases h0 : 0 < l0.length
  · go_enter Try.func13, Try.ntmps13
    go_wp2_with fail
    refine (clone_calls A0 c0 l0 _ HR.out hn).mono ?_
    rintro e w1 ⟨v, rfl, hR, hb⟩
    obtain ⟨g, cap, rfl, hg, hF⟩ := R_rowF hR h0
    obtain ⟨_, _, hcap⟩ : ∃ c1 : Nat, c1 = cap ∧ cap ≤ 9223372036854775807 := by
      obtain ⟨_, inner, ho, _⟩ := hR
      rcases ho.2 with ⟨h1, _⟩ | ⟨g', cap', cur, h1, _, _, _, h2, _⟩
      · cases h1
      · injection h1 with _ _ h3; exact ⟨cap, rfl, by rw [h3]; exact h2⟩
    have HF := Aside0.mk hF
    have HB := Aside0.mk hb
    have HG := Aside0.mk hg
    have HCAP := Aside0.mk hcap
    clear hR hF hb hg hcap
    go_wp2_with fail
    have hq : Calls Try.prog 23 #[.slice (some ⟨g, 0, none⟩) l0.length cap, cmpV] w1 (Merged l0.length 0 l0.length g cap (itemAt l0) w1) := by
      have HF2 := HF
      go_enter Try.func23, Try.ntmps23
      go_wp2_with fail
      refine (stable_calls g l0.length cap (itemAt l0) w1 hn HF.out).mono ?_
      rintro e w2 ⟨rfl, hm⟩
      go_wp2_with fail
      go_end0
      exact ⟨rfl, hm⟩
    refine hq.mono ?_
    rintro e w2 ⟨rfl, f', hs, hm, ho⟩
    have hRR := rowF_R (base := w.heap.size) hs.row HG.out HCAP.out
    rw [sorted_is hm.pm ho, HS.out] at hRR
    have HRR := Aside0.mk hRR
    have HBB := Aside0.mk (HB.out.grown hs.gr HB.out.size (fun k e => by cases e; exact HG.out))
    clear hRR hq hs hm ho
    go_wp2_with fail
    go_ret
    exact ⟨_, rfl, HRR.out, HBB.out⟩
  · obtain rfl : l0 = [] := List.eq_nil_of_length_eq_zero (by omega)
    go_enter Try.func13, Try.ntmps13
    go_wp2_with fail
    refine (clone_calls A0 c0 [] _ HR.out hn).mono ?_
    rintro e w1 ⟨v, rfl, hR, hb⟩
    obtain ⟨A, c, rfl⟩ := Kd.R_slice hR
    have HB := Aside0.mk hb
    have HRR := Aside0.mk hR
    clear hb hR
    go_wp2_with fail
    have hq : Calls Try.prog 23 #[.slice A 0 c, cmpV] w1 fun e w' => e = .returned (.tuple #[]) ∧ Below w1.heap.size w1 w' := by
      go_enter Try.func23, Try.ntmps23
      go_wp2_with fail
      refine (stable_none A c w1).mono ?_
      rintro e w2 ⟨rfl, hm⟩
      go_wp2_with fail
      go_end0
      exact ⟨rfl, hm⟩
    refine hq.mono ?_
    rintro e w2 ⟨rfl, hb2⟩
    have HB2 := Aside0.mk hb2
    clear hq hb2
    go_wp2_with fail
    go_ret
    refine ⟨_, rfl, ?_, below_step HB.out HB2.out⟩
    rw [← HS.out]
    exact Kd.R_below HRR.out HB2.out
end Go.Proofs.Ytcbhnjkmjiokgaa.PPPrio
