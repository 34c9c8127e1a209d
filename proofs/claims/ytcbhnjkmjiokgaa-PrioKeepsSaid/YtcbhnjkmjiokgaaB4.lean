/- A slice of items that was handed in is a row of items that is read. -/
import Derived.Test.YtcbhnjkmjiokgaaE8
import Derived.Deep.SlicePairs
import Derived.OpenShut
namespace Go.Proofs.Ytcbhnjkmjiokgaa.PPPrio
open Go.RowKit Go.Proofs.YtcbhnjkmjiokgaaW.PrintWords Go.Proofs.YtcbhnjkmjiokgaaW.PrintMore
set_option linter.unusedVariables false
set_option linter.unusedSimpArgs false
theorem cells38p : Try.prog.cellsOf 38 = 2 := by kernel_rfl
theorem open_items {H : Type} {enc : TypeId × Value → H} {W : World} {base : Nat} {spare : Nat → Bool} {held : Bool} {fuel : Nat} {x : DataW H × List MemPlace} {a : Option Addr} {len cap : Nat}
    (h : DataW.trod enc Try.prog W base spare held fuel 35 [.slice a len cap] = some x) : ∃ l : List S38, Kd.C k38 W a l.length l ∧ l.length = len ∧ l.length ≤ cap := by
  rcases Deep.open_slice_pairs Try.underlying35 Try.underlying38 cells38p rfl rfl (by kernel_rfl) (by kernel_rfl) h with ⟨hcs, _⟩ | ⟨ad, l, c, m, n, V0, V1, D0, D1, P0, P1, hcs, _, hl, hm, hmm, _, hall⟩
  · simp at hcs
    obtain ⟨rfl, rfl, rfl⟩ := hcs
    exact ⟨[], Kd.C_nil _ _, rfl, Nat.le_refl _⟩
  · simp at hcs
    obtain ⟨rfl, rfl, rfl⟩ := hcs
    have each : ∀ i, i < len → ∃ p : Int × Int, W.cell? (ad.add (i * 2)) = some (.int .i64 p.1) ∧ W.cell? (ad.add (i * 2 + 1)) = some (.int .i64 p.2) := by
      intro i hi
      obtain ⟨e0, e1, t0, t1⟩ := hall i (by rw [hmm]; split <;> omega)
      obtain ⟨n0, q0, _, _⟩ := DataW.trod_int Try.underlying3 t0
      obtain ⟨n1, q1, _, _⟩ := DataW.trod_int Try.underlying3 t1
      simp at q0 q1
      exact ⟨(n0, n1), by rw [e0, q0], by rw [e1, q1]⟩
    obtain ⟨F, hF⟩ := Deep.choose_lt each
    refine ⟨(List.range len).map (fun i => ⟨(F i).1, (F i).2⟩), ⟨rfl, ?_, fun _ => ⟨ad, rfl, fun j p hj => ⟨[.int .i64 p.f0, .int .i64 p.f1], rfl, k38_mk _ _, fun i u hu => ?_⟩⟩⟩, by simp, by simpa using hl⟩
    · have : maxLen = 9223372036854775807 := rfl
      simp
      omega
    · have hj2 : j < len := by have := (List.getElem?_eq_some_iff.1 hj).1; simpa using this
      simp [hj2] at hj
      subst hj
      show W.cell? (ad.add (j * 2 + i)) = some u
      match i, hu with
      | 0, hu =>
        simp at hu
        rw [← hu]
        exact (hF j hj2).1
      | 1, hu =>
        simp at hu
        rw [← hu]
        exact (hF j hj2).2
      | i + 2, hu => simp at hu
end Go.Proofs.Ytcbhnjkmjiokgaa.PPPrio
