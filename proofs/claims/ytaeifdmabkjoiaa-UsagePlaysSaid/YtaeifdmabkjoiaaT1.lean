/- The reference's put and Times, as lists; between two of the times the level stays. -/
import Derived.Test.YtaeifdmabkjoiaaQ1
import Derived.Test.YtaeifdmabkjoiaaP11
namespace Go.Proofs.Ytaeifdmabkjoiaa.PPU
open Go.RowKit Go.Proofs.YtaeifdmabkjoiaaW.PrintWords Go.Proofs.YtaeifdmabkjoiaaW.PrintLast Go.Proofs.YtaeifdmabkjoiaaW.PrintMore
set_option linter.unusedVariables false
set_option linter.unusedSimpArgs false

/-- t into a rising row. -/
def putL : List Int → Int → List Int
 | [], t => [t]
 | a :: r, t => if a < t then a :: putL r t else if a = t then a :: r else t :: a :: r
def putN (l : List Int) (t : Int) : List Int := if t ≥ 1099511627776 then l else putL l t
theorem rd_get (l : List Int) (i : Nat) (h : i < l.length) : rd l (i : Int) = l[i] := by
 unfold rd
 rw [Int.toNat_natCast, List.getD_eq_getElem?_getD, List.getElem?_eq_getElem h]
 rfl
theorem put_l0 (l : List Int) (t : Int) (hl : l.length ≤ 100000) : ∀ (d i k : Nat), l.length - i = d → i ≤ l.length → d < k → berthingref10_put.l0 k l t i = some (l.take i ++ putL (l.drop i) t) := by
 intro d
 induction d with
 | zero =>
  intro i k hd hi hk
  obtain ⟨k, rfl⟩ : ∃ m, k = m + 1 := ⟨k - 1, by omega⟩
  have e : i = l.length := by omega
  subst e
  rw [berthingref10_put.l0, if_neg (by omega)]
  simp only [Option.bind_some]
  rw [if_pos (by omega), if_pos (by omega), if_pos (by simp; omega), if_pos (by simp; omega), if_pos (by simp; omega)]
  rw [List.drop_length]
  simp [putL]
 | succ d ih =>
  intro i k hd hi hk
  obtain ⟨k, rfl⟩ : ∃ m, k = m + 1 := ⟨k - 1, by omega⟩
  have hil : i < l.length := by omega
  rw [berthingref10_put.l0, if_pos (by omega), if_pos (by omega), rd_get l i hil]
  have hdr : l.drop i = l[i] :: l.drop (i + 1) := List.drop_eq_getElem_cons hil
  have htk : l.take (i + 1) = l.take i ++ [l[i]] := (List.take_append_getElem hil).symm
  by_cases h1 : l[i] < t
  ·rw [if_pos h1, IntWalk.wrap64_in _ (by omega)]
   have := ih (i + 1) k (by omega) (by omega) (by omega)
   rw [show ((i + 1 : Nat) : Int) = (i : Int) + 1 by omega] at this
   rw [this, hdr, htk]
   simp only [putL]
   rw [if_pos h1, List.append_assoc]
   rfl
  ·rw [if_neg h1]
   by_cases h2 : l[i] = t
   ·rw [if_pos h2, hdr]
    simp only [putL]
    rw [if_neg h1, if_pos h2, ← hdr, List.take_append_drop]
   ·rw [if_neg h2]
    simp only [Option.bind_some]
    rw [if_pos (by omega), if_pos (by simp; omega), if_pos (by simp; omega), if_pos (by simp; omega)]
    rw [Int.toNat_natCast, hdr]
    simp only [putL]
    rw [if_neg h1, if_neg h2]
    simp
theorem put_f (k : Nat) (l : List Int) (t : Int) (hl : l.length ≤ 100000) (hk : l.length < k) : berthingref10_put.f k l t = some (putN l t) := by
 unfold berthingref10_put.f putN
 split
 ·rfl
 ·have := put_l0 l t hl l.length 0 k (by omega) (by omega) hk
  rw [List.take_zero, List.nil_append, List.drop_zero] at this
  exact this
theorem putL_mem (x t : Int) : ∀ l, x ∈ putL l t ↔ x ∈ l ∨ x = t
 | [] => by simp [putL]
 | a :: r => by
  unfold putL
  have ih := putL_mem x t r
  split
  ·rw [List.mem_cons, ih, List.mem_cons]; constructor
   ·rintro (h | h | h)
    ·exact .inl (.inl h)
    ·exact .inl (.inr h)
    ·exact .inr h
   ·rintro ((h | h) | h)
    ·exact .inl h
    ·exact .inr (.inl h)
    ·exact .inr (.inr h)
  ·split
   ·rename_i h1 h2
    subst h2
    rw [List.mem_cons]
    constructor
    ·exact fun h => .inl h
    ·rintro (h | h)
     ·exact h
     ·exact .inl h
   ·rw [List.mem_cons]
    constructor
    ·rintro (h | h)
     ·exact .inr h
     ·exact .inl h
    ·rintro (h | h)
     ·exact .inr h
     ·exact .inl h
theorem putL_len (t : Int) : ∀ l, (putL l t).length ≤ l.length + 1
 | [] => by simp [putL]
 | a :: r => by
  unfold putL
  have ih := putL_len t r
  split
  ·simp only [List.length_cons]; omega
  ·split
   ·simp only [List.length_cons]; omega
   ·simp only [List.length_cons]; omega
theorem putL_rise (t : Int) : ∀ l, l.Pairwise (· < ·) → (putL l t).Pairwise (· < ·)
 | [], _ => by simp [putL]
 | a :: r, h => by
  unfold putL
  have ih := putL_rise t r (List.Pairwise.of_cons h)
  have ha : ∀ x, x ∈ r → a < x := fun x hx => List.rel_of_pairwise_cons h hx
  split
  ·rename_i h1
   refine List.Pairwise.cons (fun x hx => ?_) ih
   rcases (putL_mem x t r).1 hx with h2 | h2
   ·exact ha x h2
   ·rw [h2]; exact h1
  ·split
   ·exact h
   ·rename_i h1 h2
    refine List.Pairwise.cons (fun x hx => ?_) h
    rcases List.mem_cons.1 hx with h3 | h3
    ·omega
    ·have := ha x h3; omega
/-- A rising row of times from 0 on. -/
structure Tms (l : List Int) : Prop where
 rise : l.Pairwise (· < ·)
 zero : (0 : Int) ∈ l
 bd : ∀ x, x ∈ l → 0 ≤ x ∧ x < 1099511627776
theorem Tms.start : Tms [0] := ⟨by simp, by simp, by simp⟩
theorem putN_mem (x t : Int) (l : List Int) : x ∈ putN l t ↔ x ∈ l ∨ (x = t ∧ t < 1099511627776) := by
 unfold putN
 split
 ·rename_i h
  constructor
  ·exact fun h => .inl h
  ·rintro (h1 | h1)
   ·exact h1
   ·omega
 ·rename_i h
  rw [putL_mem]
  constructor
  ·rintro (h1 | h1)
   ·exact .inl h1
   ·exact .inr ⟨h1, by omega⟩
  ·rintro (h1 | h1)
   ·exact .inl h1
   ·exact .inr h1.1
theorem putN_len (l : List Int) (t : Int) : (putN l t).length ≤ l.length + 1 := by
 unfold putN
 split
 ·omega
 ·exact putL_len t l
theorem Tms.put {l : List Int} (h : Tms l) (t : Int) (ht : 0 ≤ t) : Tms (putN l t) := by
 refine ⟨?_, (putN_mem _ _ _).2 (.inl h.zero), fun x hx => ?_⟩
 ·unfold putN
  split
  ·exact h.rise
  ·exact putL_rise t l h.rise
 ·rcases (putN_mem _ _ _).1 hx with h1 | h1
  ·exact h.bd x h1
  ·omega
/-- A span, clean. -/
def cln (a b : Int) : Int × Int := if clp a ≥ clp b then (0, 0) else (clp a, clp b)
theorem cln_bd (a b : Int) : 0 ≤ (cln a b).1 ∧ (cln a b).1 ≤ (cln a b).2 ∧ (cln a b).2 ≤ 1099511627776 := by
 have h1 := clp_bd a
 have h2 := clp_bd b
 unfold cln
 split
 ·exact ⟨Int.le_refl _, Int.le_refl _, by omega⟩
 ·rename_i h
  exact ⟨h1.1, by show clp a ≤ clp b; omega, h2.2⟩
def tmStep (l : List Int) (c : S82) : List Int := putN (putN l (cln c.f0.f0 c.f0.f1).1) (cln c.f0.f0 c.f0.f1).2
def tmL (L : List S82) : List Int := L.foldl tmStep [0]
theorem tmStep_len (l : List Int) (c : S82) : (tmStep l c).length ≤ l.length + 2 := by
 unfold tmStep
 have h1 := putN_len l (cln c.f0.f0 c.f0.f1).1
 have h2 := putN_len (putN l (cln c.f0.f0 c.f0.f1).1) (cln c.f0.f0 c.f0.f1).2
 omega
theorem times_l0 (first : Int) (L : List S82) (hL : L.length ≤ 4000) : ∀ (d i k : Nat) (l : List Int), L.length - i = d → i ≤ L.length → l.length + 3 * d < k → l.length + 2 * d ≤ 50000 → berthingref10_Steps_Times.l0 k l i first L = some ((L.drop i).foldl tmStep l) := by
 intro d
 induction d with
 | zero =>
  intro i k l hd hi hk hb
  obtain ⟨k, rfl⟩ : ∃ m, k = m + 1 := ⟨k - 1, by omega⟩
  rw [berthingref10_Steps_Times.l0, if_neg (by omega), List.drop_of_length_le (by omega)]
  rfl
 | succ d ih =>
  intro i k l hd hi hk hb
  obtain ⟨k, rfl⟩ : ∃ m, k = m + 1 := ⟨k - 1, by omega⟩
  have hil : i < L.length := by omega
  have e : rd_T82 L (i : Int) = L[i] := by
   unfold rd_T82
   rw [Int.toNat_natCast, List.getD_eq_getElem?_getD, List.getElem?_eq_getElem hil]
   rfl
  have h1 := putN_len l (cln L[i].f0.f0 L[i].f0.f1).1
  have h2 := tmStep_len l L[i]
  rw [berthingref10_Steps_Times.l0, if_pos (by omega), if_pos (by omega), e, rclean_f]
  simp only [Option.bind_some]
  show (berthingref10_put.f k l (cln L[i].f0.f0 L[i].f0.f1).1).bind (fun t205 => (berthingref10_put.f k t205 (cln L[i].f0.f0 L[i].f0.f1).2).bind fun t208 => berthingref10_Steps_Times.l0 k t208 (wrap64 ((i : Int) + 1)) first L) = _
  rw [put_f k l _ (by omega) (by omega)]
  simp only [Option.bind_some]
  rw [put_f k _ _ (by omega) (by omega)]
  simp only [Option.bind_some]
  rw [IntWalk.wrap64_in _ (by omega), List.drop_eq_getElem_cons hil, List.foldl_cons]
  exact ih (i + 1) k (tmStep l L[i]) (by omega) (by omega) (by omega) (by omega)
theorem times_f (k : Nat) (first : Int) (L : List S82) (hL : L.length ≤ 4000) (hk : 3 * L.length + 1 < k) : berthingref10_Steps_Times.f k first L = some (tmL L) := by
 have := times_l0 first L hL L.length 0 k [0] (by omega) (by omega) (by simp; omega) (by simp; omega)
 rw [List.drop_zero] at this
 exact this
theorem tm_all : ∀ (L : List S82) (l : List Int), Tms l → Tms (L.foldl tmStep l) ∧ (∀ x, x ∈ l → x ∈ L.foldl tmStep l) ∧ (L.foldl tmStep l).length ≤ l.length + 2 * L.length ∧ ∀ c, c ∈ L → ((cln c.f0.f0 c.f0.f1).1 < 1099511627776 → (cln c.f0.f0 c.f0.f1).1 ∈ L.foldl tmStep l) ∧ ((cln c.f0.f0 c.f0.f1).2 < 1099511627776 → (cln c.f0.f0 c.f0.f1).2 ∈ L.foldl tmStep l)
 | [], l, h => ⟨h, fun _ hx => hx, by simp, fun c hc => absurd hc (by simp)⟩
 | c :: r, l, h => by
  have hb := cln_bd c.f0.f0 c.f0.f1
  have h1 : Tms (tmStep l c) := (h.put _ (by omega)).put _ (by omega)
  obtain ⟨i1, i2, i3, i4⟩ := tm_all r (tmStep l c) h1
  have hl := tmStep_len l c
  have hm : ∀ x, x ∈ l → x ∈ tmStep l c := fun x hx => (putN_mem _ _ _).2 (.inl ((putN_mem _ _ _).2 (.inl hx)))
  rw [List.foldl_cons]
  refine ⟨i1, fun x hx => i2 x (hm x hx), by simp only [List.length_cons]; omega, fun d hd => ?_⟩
  rcases List.mem_cons.1 hd with e | e
  ·subst e
   exact ⟨fun h5 => i2 _ ((putN_mem _ _ _).2 (.inl ((putN_mem _ _ _).2 (.inr ⟨rfl, h5⟩)))), fun h5 => i2 _ ((putN_mem _ _ _).2 (.inr ⟨rfl, h5⟩))⟩
  ·exact i4 d e
theorem tm_tms (L : List S82) : Tms (tmL L) := (tm_all L [0] Tms.start).1
theorem tm_len (L : List S82) : (tmL L).length ≤ 1 + 2 * L.length := (tm_all L [0] Tms.start).2.2.1
/-- Where no time of the row lies behind s up to t, the level is the same. -/
theorem refL_stay (first : Int) (L : List S82) (s t : Int) (h0 : 0 ≤ s) (h1 : s ≤ t) (h2 : t < 1099511627776) (h : ∀ x, x ∈ tmL L → ¬ (s < x ∧ x ≤ t)) : refL first L t = refL first L s := by
 have key : ∀ (M : List S82) (v : Int), (∀ c, c ∈ M → c ∈ L) → M.foldl (stepV t) v = M.foldl (stepV s) v := by
  intro M
  induction M with
  | nil => intro v _; rfl
  | cons c r ih =>
   intro v hM
   have hc := (tm_all L [0] Tms.start).2.2.2 c (hM c (by simp))
   have ha := clp_bd c.f0.f0
   have hb := clp_bd c.f0.f1
   have e : stepV t v c = stepV s v c := by
    unfold stepV
    have hiff : (clp c.f0.f0 ≤ t ∧ t < clp c.f0.f1) ↔ (clp c.f0.f0 ≤ s ∧ s < clp c.f0.f1) := by
     unfold cln at hc
     split at hc
     ·omega
     ·have h3 := fun hx => h _ (hc.1 hx)
      have h4 := fun hx => h _ (hc.2 hx)
      simp only at h3 h4
      omega
    by_cases hq : clp c.f0.f0 ≤ s ∧ s < clp c.f0.f1
    ·rw [if_pos (hiff.2 hq), if_pos hq]
    ·rw [if_neg (fun hx => hq (hiff.1 hx)), if_neg hq]
   rw [List.foldl_cons, List.foldl_cons, e]
   exact ih _ (fun d hd => hM d (by simp [hd]))
 exact key L _ (fun c hc => hc)
end Go.Proofs.Ytaeifdmabkjoiaa.PPU
