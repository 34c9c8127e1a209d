/- The contract of one, and of Sum and Take at a slice of which the length is told. -/
import Derived.Test.YtfkjilnhjaegbaaS3
import Derived.Lib.SlBytesConst
namespace Go.Proofs.Ytfkjilnhjaegbaa.PSum
open Go.RowKit Go.Proofs.YtfkjilnhjaegbaaW.PrintWords Go.Proofs.YtfkjilnhjaegbaaW.PrintLast Go.Proofs.YtfkjilnhjaegbaaW.PrintMore
attribute [local go_sem] max2_int min2_int max_two min_two max_three min_three max_four min_four   -- for this text's walks alone
set_option linter.unusedVariables false
set_option linter.unusedSimpArgs false

/-! ### berthinglaw03_one: function 12 -/
def berthinglaw03_one.f (k : Nat)  : Option (Bool) := (sum_Sum.f k (([(([97] : List Int))] : List (List Int)))).bind fun t121 => (if t121 = 6422626 then ((sum_Sum.f k ([] : List (List Int))).bind fun t122 => (some (t122 == 1))) else (some false))
theorem berthinglaw03_one.mono : ∀ k, LeO (berthinglaw03_one.f k ) (berthinglaw03_one.f (k + 1) ) := by
  intro  k
  unfold berthinglaw03_one.f
  repeat' first
      | (with_reducible exact sum_Sum.mono _ _)
      | (with_reducible exact LeO.refl _)
      | (with_reducible exact LeO.none _)
      | (with_reducible refine LeO.ite ?_ ?_)
      | (with_reducible refine LeO.bind ?_ (fun _ => ?_))
      | exact sum_Sum.mono _ _
      | exact LeO.none _
      | refine LeO.ite ?_ ?_
      | refine LeO.bind ?_ (fun _ => ?_)


theorem C_slices {w : World} {ad : Addr} {xss : List (List Int)} (hm : xss.length ≤ 9223372036854775807)
    (h : ∀ (j : Nat) xs, xss[j]? = some xs → ∃ A c, w.cell? (ad.add j) = some (.slice A xs.length c) ∧ xs.length ≤ c ∧ (Kd.int .u8).C w A xs.length xs) :
    Kd.C (Kd.slice 5 (Kd.int .u8)) w (some ad) xss.length xss := by
  refine ⟨rfl, hm, fun _ => ⟨ad, rfl, fun j xs hj => ?_⟩⟩
  obtain ⟨A, c, h1, h2, h3⟩ := h j xs hj
  refine ⟨[.slice A xs.length c], rfl, ⟨A, c, rfl, h2, h3⟩, fun i u hu => ?_⟩
  match i, hu with
  | 0, hu => simp only [List.getElem?_cons_zero, Option.some.injEq] at hu; subst hu; show w.cell? (ad.add (j * 1 + 0)) = _; rw [Nat.mul_one, Nat.add_zero]; exact h1
  | i + 1, hu => simp at hu

theorem addr_add_zero (a : Addr) : a.add 0 = a := by unfold Addr.add; split <;> simp_all
theorem C_one {w : World} {ad : Addr} {xs : List Int} {A : Option Addr} {c : Nat} (h1 : w.cell? ad = some (.slice A xs.length c)) (h2 : xs.length ≤ c) (h3 : (Kd.int .u8).C w A xs.length xs) :
    Kd.C (Kd.slice 5 (Kd.int .u8)) w (some ad) 1 [xs] := by
  refine C_slices (xss := [xs]) (by simp) fun j ys hj => ?_
  match j, hj with
  | 0, hj => simp only [List.getElem?_cons_zero, Option.some.injEq] at hj; subst hj; exact ⟨A, c, by rw [addr_add_zero]; exact h1, h2, h3⟩
  | j + 1, hj => simp at hj

theorem C_97 {w : World} {g : Nat} {fr : Nat × Nat} (h : w.heap[g]? = some (.cells #[.int .u8 97] 5 fr)) : (Kd.int .u8).C w (some ⟨g, 0, none⟩) 1 [97] := by
  refine ⟨rfl, by simp, fun _ => ⟨_, rfl, fun j x hj => ?_⟩⟩
  match j, hj with
  | 0, hj =>
    simp only [List.getElem?_cons_zero, Option.some.injEq] at hj; subst hj
    refine ⟨[.int .u8 97], rfl, rfl, fun i u hu => ?_⟩
    match i, hu with
    | 0, hu => simp only [List.getElem?_cons_zero, Option.some.injEq] at hu; subst hu; rw [add_plain]; exact cell_of_row w g 0 _ _ _ h
    | i + 1, hu => simp at hu
  | j + 1, hj => simp at hj


theorem one_pure : ∃ k, sum_Sum.f k [[97]] = some 6422626 ∧ sum_Sum.f k [] = some 1 := ⟨3, by decide +kernel, by decide +kernel⟩
set_option maxHeartbeats 400000 in
theorem one_calls (w : World) :
    Calls Try.prog 12 #[] w fun e w' => e = .returned (.bool true) ∧ Below w.heap.size w w' := by
  obtain ⟨k, h1, h2⟩ := one_pure
  have H1 := Aside0.mk h1
  have H2 := Aside0.mk h2
  clear h1 h2
  have kc := fun (w : World) (C : Array Value) (n c : Nat) => Lib.run_convert_bytes_const (P := Try.prog) w 22 5 C n c Try.underlying22 Try.underlying5
  go_enter Try.func12, Try.ntmps12
  go_wp2_with fail
  refine (sum_Sum.calls k _ _ [[97]] _ _ (C_one (xs := [97]) (A := some ⟨w.heap.size, 0, none⟩) (c := 1) (by go_simp) (by simp) (C_97 (fr := (1, 2)) (blk_alloc (blk_new _ _) _))) (by simp) H1.out).mono ?_
  rintro e w1 ⟨rfl, hb⟩
  have HB := Aside0.mk (below_step (below_alloc (below_alloc (Below.refl w.heap.size w) _) _) hb)
  clear hb
  go_wp2_with fail
  refine (sum_Sum.calls k _ _ [] _ _ (Kd.C_nil _ _) (by simp) H2.out).mono ?_
  rintro e w2 ⟨rfl, hb⟩
  have HB2 := Aside0.mk (below_step HB.out hb)
  clear hb HB
  go_wp2_with fail
  go_ret
  exact ⟨rfl, HB2.out⟩
theorem sum1_calls (k : Nat) (ad : Addr) (A : Option Addr) (m c : Nat) (l : List Int) (v : Int) (cp : Nat) (W : World) (h1 : W.cell? ad = some (.slice A m c)) (h2 : m ≤ c) (h3 : (Kd.int .u8).C W A m l) (h : sum_Sum.f k [l] = some v) (h4 : 1 ≤ cp) :
    Calls Try.prog 9 #[.slice (some ad) 1 cp] W fun e w' => e = .returned (.int .u32 v) ∧ Below W.heap.size W w' := by
  obtain rfl : l.length = m := h3.1
  exact sum_Sum.calls k (some ad) cp [l] v W (C_one h1 h2 h3) h4 h
theorem take_calls (k : Nat) (a b : Int) (A : Option Addr) (m c : Nat) (l : List Int) (x y : Int) (w : World) (hr : (Kd.int .u8).C w A m l) (hc : m ≤ c) (h : sum_Running_Take.f k a b l = some (x, y)) :
    Calls Try.prog 8 #[.agg #[.int .u32 a, .int .u32 b], .slice A m c] w fun e w' => e = .returned (.agg #[.int .u32 x, .int .u32 y]) ∧ Below w.heap.size w w' := by
  obtain rfl : l.length = m := hr.1
  exact sum_Running_Take.calls k a b A c l x y w hr hc h
end Go.Proofs.Ytfkjilnhjaegbaa.PSum
