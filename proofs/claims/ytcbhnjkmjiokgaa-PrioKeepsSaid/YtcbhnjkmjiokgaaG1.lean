/- Rows of items as functions; the contract of swapRange. -/
import Derived.Test.YtcbhnjkmjiokgaaE4
import Derived.IntWalk
namespace Go.Proofs.Ytcbhnjkmjiokgaa.PPPrio
open Go.RowKit Go.Proofs.YtcbhnjkmjiokgaaW.PrintWords Go.Proofs.YtcbhnjkmjiokgaaW.PrintLast Go.Proofs.YtcbhnjkmjiokgaaW.PrintMore
set_option linter.unusedVariables false
set_option linter.unusedSimpArgs false

theorem gb_drew (w : World) (row : Option Nat) : w.grownBy w.drew row := ⟨rfl, rfl, rfl, Nat.le_refl _, fun _ _ _ => rfl⟩
theorem gb_set (w : World) (g i : Nat) (v : Value) : w.grownBy (w.setCell ⟨g, i, none⟩ v) (some g) :=
  ⟨rfl, rfl, rfl, by simp [World.setCell], fun j hj hne => Below.heap_setCell w _ v j (fun e => hne (by rw [e]))⟩

/-- Block g holds the items f 0, f 1, .. in its first n places. -/
def RowF (w : World) (g n cap : Nat) (f : Nat → S38) : Prop :=
  n ≤ cap ∧ ∃ cur : Array Value, w.heap[g]? = some (.cells cur 38 (0, 0)) ∧ cur.size = cap * 2 ∧ ∀ k, k < n → cur[k * 2]? = some (.int .i64 (f k).f0) ∧ cur[k * 2 + 1]? = some (.int .i64 (f k).f1)
section
variable {w w' : World} {g n cap : Nat} {f f' : Nat → S38}
theorem RowF.congr (h : RowF w g n cap f) (e : ∀ k, k < n → f k = f' k) : RowF w g n cap f' := by
  obtain ⟨h1, cur, h2, h3, h4⟩ := h
  exact ⟨h1, cur, h2, h3, fun k hk => by rw [← e k hk]; exact h4 k hk⟩
theorem RowF.at0 (h : RowF w g n cap f) (k : Nat) (hk : k < n) : w.cell? ⟨g, k * 2, none⟩ = some (.int .i64 (f k).f0) := by
  obtain ⟨h1, cur, h2, h3, h4⟩ := h
  exact (blk_cell h2 _).trans (h4 k hk).1
theorem RowF.at1 (h : RowF w g n cap f) (k : Nat) (hk : k < n) : w.cell? ⟨g, k * 2 + 1, none⟩ = some (.int .i64 (f k).f1) := by
  obtain ⟨h1, cur, h2, h3, h4⟩ := h
  exact (blk_cell h2 _).trans (h4 k hk).2
theorem RowF.fz (h : RowF w g n cap f) (k : Nat) : w.frozen? ⟨g, k, none⟩ = false := by
  obtain ⟨h1, cur, h2, h3, h4⟩ := h
  exact blk_frozen h2 k
theorem RowF.lt (h : RowF w g n cap f) : g < w.heap.size := by
  obtain ⟨h1, cur, h2, h3, h4⟩ := h
  exact blk_lt h2
theorem RowF.below (h : RowF w g n cap f) (hb : Below w.heap.size w w') : RowF w' g n cap f := by
  obtain ⟨h1, cur, h2, h3, h4⟩ := h
  exact ⟨h1, cur, blk_below h2 hb, h3, h4⟩
theorem RowF.put (h : RowF w g n cap f) (k : Nat) (hk : k < n) (x : S38) : RowF ((w.setCell ⟨g, k * 2, none⟩ (.int .i64 x.f0)).setCell ⟨g, k * 2 + 1, none⟩ (.int .i64 x.f1)) g n cap (fun j => if j = k then x else f j) := by
  obtain ⟨h1, cur, h2, h3, h4⟩ := h
  refine ⟨h1, _, blk_set (blk_set h2 _ _) _ _, by simpa using h3, fun j hj => ?_⟩
  have hs : k * 2 + 1 < cur.size := by omega
  obtain ⟨e0, e1⟩ := h4 j hj
  by_cases hjk : j = k
  · subst hjk
    simp only [if_true]
    constructor
    · rw [Array.getElem?_setIfInBounds_ne (by omega), Array.getElem?_setIfInBounds_self_of_lt (by omega)]
    · rw [Array.getElem?_setIfInBounds_self_of_lt (by simpa using hs)]
  · simp only [if_neg hjk]
    constructor
    · rw [Array.getElem?_setIfInBounds_ne (by omega), Array.getElem?_setIfInBounds_ne (by omega)]; exact e0
    · rw [Array.getElem?_setIfInBounds_ne (by omega), Array.getElem?_setIfInBounds_ne (by omega)]; exact e1
end
/-- Two items change places. -/
def swp (f : Nat → S38) (p q : Nat) : Nat → S38 := fun k => if k = p then f q else if k = q then f p else f k
def swapAt (f : Nat → S38) (a b c : Nat) : Nat → S38 := fun k => if a ≤ k ∧ k < a + c then f (k - a + b) else if b ≤ k ∧ k < b + c then f (k - b + a) else f k
theorem swapAt_zero (f : Nat → S38) (a b : Nat) : swapAt f a b 0 = f := by
  funext k
  unfold swapAt
  rw [if_neg (by omega), if_neg (by omega)]
theorem swapAt_succ (f : Nat → S38) (a b c : Nat) (h : a + c < b) : swp (swapAt f a b c) (a + c) (b + c) = swapAt f a b (c + 1) := by
  funext k
  unfold swp swapAt
  repeat' split
  all_goals (first | omega | rfl | (congr 1; omega))

theorem put2 (f : Nat → S38) (p q k : Nat) : (if k = q then f p else if k = p then f q else f k) = swp f p q k := by
  unfold swp
  by_cases h1 : k = q
  · by_cases h2 : k = p
    · rw [if_pos h1, if_pos h2]; rw [← h1, ← h2]
    · rw [if_pos h1, if_neg h2, if_pos h1]
  · rw [if_neg h1]
    by_cases h2 : k = p
    · rw [if_pos h2, if_pos h2]
    · rw [if_neg h2, if_neg h2, if_neg h1]
set_option maxHeartbeats 1000000 in
set_option maxRecDepth 100000 in
theorem swapRange_calls (g n cap a b c : Nat) (f : Nat → S38) (v : Value) (w : World) (hn : n < 1099511627776) (hR : RowF w g n cap f) (hab : a + c ≤ b) (hbn : b + c ≤ n) :
    Calls Try.prog 33 #[.slice (some ⟨g, 0, none⟩) n cap, .int .i64 a, .int .i64 b, .int .i64 c, v] w fun e w' => e = .returned (.tuple #[]) ∧ RowF w' g n cap (swapAt f a b c) ∧ w.grownBy w' (some g) := by
  have HR := Aside0.mk hR
  clear hR
  have hu38 := Try.underlying38
  go_enter Try.func33, Try.ntmps33
  go_wp2_with fail
  go_loopg [10] c (fun kq v10 w' => ∃ i : Nat, i + kq = c ∧ v10 = .int .i64 i ∧ Aside0 (RowF w' g n cap (swapAt f a b i)) ∧ Aside0 (w.grownBy w' (some g)))
  case atStart => exact ⟨0, by omega, rfl, ⟨by rw [swapAt_zero]; exact HR.out⟩, ⟨.refl _ _⟩⟩
  case round =>
    clear HR
    obtain ⟨i, hi, rfl, HR, HG⟩ := hrel
    cases gk with
    | zero =>
      obtain rfl : i = c := by omega
      have h0 : decide (i < i) = false := decide_eq_false (by omega)
      go_wp2_with fail
      go_end0
      exact ⟨rfl, HR.out, HG.out⟩
    | succ k1 =>
      have h0 : decide (i < c) = true := decide_eq_true (by omega)
      obtain ⟨p, hp⟩ : ∃ p, p = a + i := ⟨_, rfl⟩
      obtain ⟨q, hq⟩ : ∃ q, q = b + i := ⟨_, rfl⟩
      have hwp : wrap64 ((a : Int) + (i : Int)) = (p : Int) := by unfold wrap64; omega
      have hwq : wrap64 ((b : Int) + (i : Int)) = (q : Int) := by unfold wrap64; omega
      have hpn : p < n := by omega
      have hqn : q < n := by omega
      have HP := Aside0.mk hp
      have HQ := Aside0.mk hq
      clear hp hq
      go_wp2_with fail
      refine start_ (n := 24) (S := fun w' => w'.cell? ⟨g, p * 2, none⟩ = some (.int .i64 ((swapAt f a b i) p).f0) ∧ w'.cell? ⟨g, p * 2 + 1, none⟩ = some (.int .i64 ((swapAt f a b i) p).f1) ∧ w'.frozen? ⟨g, p * 2, none⟩ = false ∧ w'.frozen? ⟨g, p * 2 + 1, none⟩ = false ∧ w'.cell? ⟨g, q * 2, none⟩ = some (.int .i64 ((swapAt f a b i) q).f0) ∧ w'.cell? ⟨g, q * 2 + 1, none⟩ = some (.int .i64 ((swapAt f a b i) q).f1) ∧ w'.frozen? ⟨g, q * 2, none⟩ = false ∧ w'.frozen? ⟨g, q * 2 + 1, none⟩ = false ∧ Aside0 (RowF w' g n cap ((swapAt f a b i))) ∧ Aside0 (w.grownBy w' (some g))) (ds := [21, 23]) #[false, false, false, false, false, false, false, false, false, false, false, false, false, false, false, false, false, false, false, false, false, false, false, false] (by kernel_rfl) rfl rfl ⟨(HR.out.below (below_drew (Below.refl _ _))).at0 p hpn, (HR.out.below (below_drew (Below.refl _ _))).at1 p hpn, (HR.out.below (below_drew (Below.refl _ _))).fz (p * 2), (HR.out.below (below_drew (Below.refl _ _))).fz (p * 2 + 1), (HR.out.below (below_drew (Below.refl _ _))).at0 q hqn, (HR.out.below (below_drew (Below.refl _ _))).at1 q hqn, (HR.out.below (below_drew (Below.refl _ _))).fz (q * 2), (HR.out.below (below_drew (Below.refl _ _))).fz (q * 2 + 1), ⟨(HR.out.below (below_drew (Below.refl _ _)))⟩, ⟨(HG.out.trans (gb_drew _ _))⟩⟩ (fun hHeld => ?_)
      generalize World.drew wr = W1 at hHeld ⊢
      refine pure_ (i := 0) (N := some 16) (v := ?_) (a' := ?_) #[true, false, false, false, false, false, false, false, false, false, false, false, false, false, false, false, false, false, false, false, false, false, false, false] rfl rfl (by kernel_rfl) (fun _ _ _ h => h) (Or.inl ⟨by rfl, ?_⟩) ?_ ?_
      rotate_left
      · intro w'
        go_simp
        with_reducible rfl
      rotate_left
      · simp only [Act.put, List.setIfInBounds_toArray, List.set_cons_zero, List.set_cons_succ, i64_w, i32_w]
        rfl
      refine pure_ (i := 1) (N := some 17) (v := ?_) (a' := ?_) #[true, true, false, false, false, false, false, false, false, false, false, false, false, false, false, false, false, false, false, false, false, false, false, false] rfl rfl (by kernel_rfl) (fun _ _ _ h => h) (Or.inl ⟨by rfl, ?_⟩) ?_ ?_
      rotate_left
      · intro w'
        go_simp
        with_reducible rfl
      rotate_left
      · simp only [Act.put, List.setIfInBounds_toArray, List.set_cons_zero, List.set_cons_succ, i64_w, i32_w]
        rfl
      refine pure_ (i := 2) (N := some 18) (v := ?_) (a' := ?_) #[true, true, true, false, false, false, false, false, false, false, false, false, false, false, false, false, false, false, false, false, false, false, false, false] rfl rfl (by kernel_rfl) (fun _ _ _ h => h) (Or.inl ⟨by rfl, ?_⟩) ?_ ?_
      rotate_left
      · intro w'
        go_simp
        with_reducible rfl
      rotate_left
      · simp only [Act.put, List.setIfInBounds_toArray, List.set_cons_zero, List.set_cons_succ, i64_w, i32_w]
        rfl
      refine pure_ (i := 3) (N := some 19) (v := ?_) (a' := ?_) #[true, true, true, true, false, false, false, false, false, false, false, false, false, false, false, false, false, false, false, false, false, false, false, false] rfl rfl (by kernel_rfl) (fun _ _ _ h => h) (Or.inl ⟨by rfl, ?_⟩) ?_ ?_
      rotate_left
      · intro w'
        go_simp
        with_reducible rfl
      rotate_left
      · simp only [Act.put, List.setIfInBounds_toArray, List.set_cons_zero, List.set_cons_succ, i64_w, i32_w]
        rfl
      refine pure_ (i := 4) (N := some 20) (v := ?_) (a' := ?_) #[true, true, true, true, true, false, false, false, false, false, false, false, false, false, false, false, false, false, false, false, false, false, false, false] rfl rfl (by kernel_rfl) (fun _ _ _ h => h) (Or.inl ⟨by rfl, ?_⟩) ?_ ?_
      rotate_left
      · intro w'
        go_simp
        with_reducible rfl
      rotate_left
      · simp only [Act.put, List.setIfInBounds_toArray, List.set_cons_zero, List.set_cons_succ, i64_w, i32_w]
        rfl
      refine pure_ (i := 5) (N := some 21) (v := ?_) (a' := ?_) #[true, true, true, true, true, true, false, false, false, false, false, false, false, false, false, false, false, false, false, false, false, false, false, false] rfl rfl (by kernel_rfl) (fun _ _ _ h => h) (Or.inl ⟨by rfl, ?_⟩) ?_ ?_
      rotate_left
      · intro w'
        go_simp
        with_reducible rfl
      rotate_left
      · simp only [Act.put, List.setIfInBounds_toArray, List.set_cons_zero, List.set_cons_succ, i64_w, i32_w]
        rfl
      refine pure_ (i := 6) (N := some 22) (v := ?_) (a' := ?_) #[true, true, true, true, true, true, true, false, false, false, false, false, false, false, false, false, false, false, false, false, false, false, false, false] rfl rfl (by kernel_rfl) (fun _ _ _ h => h) (Or.inl ⟨by rfl, ?_⟩) ?_ ?_
      rotate_left
      · intro w'
        go_simp
        with_reducible rfl
      rotate_left
      · simp only [Act.put, List.setIfInBounds_toArray, List.set_cons_zero, List.set_cons_succ, i64_w, i32_w]
        rfl
      refine pure_ (i := 7) (N := some 23) (v := ?_) (a' := ?_) #[true, true, true, true, true, true, true, true, false, false, false, false, false, false, false, false, false, false, false, false, false, false, false, false] rfl rfl (by kernel_rfl) (fun _ _ _ h => h) (Or.inl ⟨by rfl, ?_⟩) ?_ ?_
      rotate_left
      · intro w'
        go_simp
        with_reducible rfl
      rotate_left
      · simp only [Act.put, List.setIfInBounds_toArray, List.set_cons_zero, List.set_cons_succ, i64_w, i32_w]
        rfl
      refine pure_ (i := 8) (N := some 24) (v := ?_) (a' := ?_) #[true, true, true, true, true, true, true, true, true, false, false, false, false, false, false, false, false, false, false, false, false, false, false, false] rfl rfl (by kernel_rfl) (fun _ _ _ h => h) (Or.inl ⟨by rfl, ?_⟩) ?_ ?_
      rotate_left
      · intro w'
        go_simp
        with_reducible rfl
      rotate_left
      · simp only [Act.put, List.setIfInBounds_toArray, List.set_cons_zero, List.set_cons_succ, i64_w, i32_w]
        rfl
      refine pure_ (i := 9) (N := some 25) (v := ?_) (a' := ?_) #[true, true, true, true, true, true, true, true, true, true, false, false, false, false, false, false, false, false, false, false, false, false, false, false] rfl rfl (by kernel_rfl) (fun _ _ _ h => h) (Or.inl ⟨by rfl, ?_⟩) ?_ ?_
      rotate_left
      · intro w'
        go_simp
        with_reducible rfl
      rotate_left
      · simp only [Act.put, List.setIfInBounds_toArray, List.set_cons_zero, List.set_cons_succ, i64_w, i32_w]
        rfl
      refine pure_ (i := 10) (N := some 26) (v := ?_) (a' := ?_) #[true, true, true, true, true, true, true, true, true, true, true, false, false, false, false, false, false, false, false, false, false, false, false, false] rfl rfl (by kernel_rfl) (fun _ _ _ h => h) (Or.inl ⟨by rfl, ?_⟩) ?_ ?_
      rotate_left
      · intro w'
        go_simp
        with_reducible rfl
      rotate_left
      · simp only [Act.put, List.setIfInBounds_toArray, List.set_cons_zero, List.set_cons_succ, i64_w, i32_w]
        rfl
      refine pure_ (i := 11) (N := some 27) (v := ?_) (a' := ?_) #[true, true, true, true, true, true, true, true, true, true, true, true, false, false, false, false, false, false, false, false, false, false, false, false] rfl rfl (by kernel_rfl) (fun _ _ _ h => h) (Or.inl ⟨by rfl, ?_⟩) ?_ ?_
      rotate_left
      · intro w'
        go_simp
        with_reducible rfl
      rotate_left
      · simp only [Act.put, List.setIfInBounds_toArray, List.set_cons_zero, List.set_cons_succ, i64_w, i32_w]
        rfl
      refine pure_ (i := 12) (N := some 28) (v := ?_) (a' := ?_) #[true, true, true, true, true, true, true, true, true, true, true, true, true, false, false, false, false, false, false, false, false, false, false, false] rfl rfl (by kernel_rfl) (fun _ _ _ h => h) (Or.inl ⟨by rfl, ?_⟩) ?_ ?_
      rotate_left
      · intro w'
        go_simp
        with_reducible rfl
      rotate_left
      · simp only [Act.put, List.setIfInBounds_toArray, List.set_cons_zero, List.set_cons_succ, i64_w, i32_w]
        rfl
      refine pure_ (i := 14) (N := some 30) (v := ?_) (a' := ?_) #[true, true, true, true, true, true, true, true, true, true, true, true, true, false, true, false, false, false, false, false, false, false, false, false] rfl rfl (by kernel_rfl) (fun _ _ _ h => h) (Or.inl ⟨by rfl, ?_⟩) ?_ ?_
      rotate_left
      · intro w'
        go_simp
        with_reducible rfl
      rotate_left
      · simp only [Act.put, List.setIfInBounds_toArray, List.set_cons_zero, List.set_cons_succ, i64_w, i32_w]
        rfl
      refine pure_ (i := 15) (N := some 31) (v := ?_) (a' := ?_) #[true, true, true, true, true, true, true, true, true, true, true, true, true, false, true, true, false, false, false, false, false, false, false, false] rfl rfl (by kernel_rfl) (fun _ _ _ h => h) (Or.inl ⟨by rfl, ?_⟩) ?_ ?_
      rotate_left
      · intro w'
        go_simp
        with_reducible rfl
      rotate_left
      · simp only [Act.put, List.setIfInBounds_toArray, List.set_cons_zero, List.set_cons_succ, i64_w, i32_w]
        rfl
      refine pure_ (i := 16) (N := some 32) (v := ?_) (a' := ?_) #[true, true, true, true, true, true, true, true, true, true, true, true, true, false, true, true, true, false, false, false, false, false, false, false] rfl rfl (by kernel_rfl) (fun _ _ _ h => h) (Or.inl ⟨by rfl, ?_⟩) ?_ ?_
      rotate_left
      · intro w'
        go_simp
        with_reducible rfl
      rotate_left
      · simp only [Act.put, List.setIfInBounds_toArray, List.set_cons_zero, List.set_cons_succ, i64_w, i32_w]
        rfl
      refine pure_ (i := 17) (N := some 33) (v := ?_) (a' := ?_) #[true, true, true, true, true, true, true, true, true, true, true, true, true, false, true, true, true, true, false, false, false, false, false, false] rfl rfl (by kernel_rfl) (fun _ _ _ h => h) (Or.inl ⟨by rfl, ?_⟩) ?_ ?_
      rotate_left
      · intro w'
        go_simp
        with_reducible rfl
      rotate_left
      · simp only [Act.put, List.setIfInBounds_toArray, List.set_cons_zero, List.set_cons_succ, i64_w, i32_w]
        rfl
      refine pure_ (i := 18) (N := some 34) (v := ?_) (a' := ?_) #[true, true, true, true, true, true, true, true, true, true, true, true, true, false, true, true, true, true, true, false, false, false, false, false] rfl rfl (by kernel_rfl) (fun _ _ _ h => h) (Or.inl ⟨by rfl, ?_⟩) ?_ ?_
      rotate_left
      · intro w'
        go_simp
        with_reducible rfl
      rotate_left
      · simp only [Act.put, List.setIfInBounds_toArray, List.set_cons_zero, List.set_cons_succ, i64_w, i32_w]
        rfl
      refine take_ (i := 13) (N := some 29) (v := ?_) (a' := ?_) #[true, true, true, true, true, true, true, true, true, true, true, true, true, true, true, true, true, true, true, false, false, false, false, false] rfl rfl (by kernel_rfl) (fun _ _ _ h => h) (Or.inl ⟨by rfl, ?_⟩) hHeld ?_ ?_
      rotate_left
      · rintro w' ⟨s0, s1, s2, s3, s4, s5, s6, s7, s8, s9⟩
        go_simp
        with_reducible rfl
      rotate_left
      · simp only [Act.put, List.setIfInBounds_toArray, List.set_cons_zero, List.set_cons_succ, i64_w, i32_w]
        rfl
      refine take_ (i := 19) (N := some 35) (v := ?_) (a' := ?_) #[true, true, true, true, true, true, true, true, true, true, true, true, true, true, true, true, true, true, true, true, false, false, false, false] rfl rfl (by kernel_rfl) (fun _ _ _ h => h) (Or.inl ⟨by rfl, ?_⟩) hHeld ?_ ?_
      rotate_left
      · rintro w' ⟨s0, s1, s2, s3, s4, s5, s6, s7, s8, s9⟩
        go_simp
        with_reducible rfl
      rotate_left
      · simp only [Act.put, List.setIfInBounds_toArray, List.set_cons_zero, List.set_cons_succ, i64_w, i32_w]
        rfl
      refine pure_ (i := 20) (N := some 36) (v := ?_) (a' := ?_) #[true, true, true, true, true, true, true, true, true, true, true, true, true, true, true, true, true, true, true, true, true, false, false, false] rfl rfl (by kernel_rfl) (fun _ _ _ h => h) (Or.inl ⟨by rfl, ?_⟩) ?_ ?_
      rotate_left
      · intro w'
        go_simp
        with_reducible rfl
      rotate_left
      · simp only [Act.put, List.setIfInBounds_toArray, List.set_cons_zero, List.set_cons_succ, i64_w, i32_w]
        rfl
      refine last_ (i := 21) (N := none) #[true, true, true, true, true, true, true, true, true, true, true, true, true, true, true, true, true, true, true, true, true, true, false, false] rfl rfl (by kernel_rfl) (by decide) (fun K hK => ?_)
      refine skip_ (w1 := ?_) (by rfl) rfl ?_ ?_
      rotate_left
      · go_simp
        rfl
      have hRp := hHeld.2.2.2.2.2.2.2.2.1.out.put p hpn ((swapAt f a b i) q)
      have hG1 := (hHeld.2.2.2.2.2.2.2.2.2.out.trans (gb_set _ g (p * 2) (.int .i64 ((swapAt f a b i) q).f0))).trans (gb_set _ g (p * 2 + 1) (.int .i64 ((swapAt f a b i) q).f1))
      generalize (W1.setCell ⟨g, p * 2, none⟩ (.int .i64 ((swapAt f a b i) q).f0)).setCell ⟨g, p * 2 + 1, none⟩ (.int .i64 ((swapAt f a b i) q).f1) = W2 at hRp hG1 ⊢
      have hz0 := hRp.at0 q hqn
      have hz1 := hRp.at1 q hqn
      have hy0 := hRp.fz (q * 2)
      have hy1 := hRp.fz (q * 2 + 1)
      have hRp := Aside0.mk hRp
      refine hK.out _ _ ?_
      clear hK K
      refine pure_ (i := 22) (N := some 37) (v := ?_) (a' := ?_) #[true, true, true, true, true, true, true, true, true, true, true, true, true, true, true, true, true, true, true, true, true, true, true, false] rfl rfl (by kernel_rfl) (fun _ _ _ h => h) (Or.inl ⟨by rfl, ?_⟩) ?_ ?_
      rotate_left
      · intro w'
        go_simp
        with_reducible rfl
      rotate_left
      · simp only [Act.put, List.setIfInBounds_toArray, List.set_cons_zero, List.set_cons_succ, i64_w, i32_w]
        rfl
      refine last_ (i := 23) (N := none) #[true, true, true, true, true, true, true, true, true, true, true, true, true, true, true, true, true, true, true, true, true, true, true, true] rfl rfl (by kernel_rfl) (by decide) (fun K hK => ?_)
      refine skip_ (w1 := ?_) (by rfl) rfl ?_ ?_
      rotate_left
      · go_simp
        rfl
      have hRp := hRp.out.put q hqn ((swapAt f a b i) p)
      have hG1 := (hG1.trans (gb_set _ g (q * 2) (.int .i64 ((swapAt f a b i) p).f0))).trans (gb_set _ g (q * 2 + 1) (.int .i64 ((swapAt f a b i) p).f1))
      generalize (W2.setCell ⟨g, q * 2, none⟩ (.int .i64 ((swapAt f a b i) p).f0)).setCell ⟨g, q * 2 + 1, none⟩ (.int .i64 ((swapAt f a b i) p).f1) = W3 at hRp hG1 ⊢
      refine hK.out _ _ ?_
      clear hK K
      refine done_ (by kernel_rfl) ?_
      have HR' := Aside0.mk (hRp.congr (f' := swapAt f a b (i + 1)) (fun k hk => by rw [← swapAt_succ f a b i (by omega), ← HP.out, ← HQ.out]; exact put2 _ p q k))
      have HG' := Aside0.mk hG1
      clear hRp hG1 hz0 hz1 hy0 hy1 hHeld HR HG hwp hwq
      go_wp2_with fail
      go_roundg k1
      case measure => omega
      case rel => exact ⟨i + 1, by omega, by go_num, HR', HG'⟩
end Go.Proofs.Ytcbhnjkmjiokgaa.PPPrio
