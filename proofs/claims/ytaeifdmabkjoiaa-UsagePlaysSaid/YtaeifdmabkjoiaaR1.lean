/- An act, and rows of acts and of steps, that were handed in. -/
import Derived.Test.YtaeifdmabkjoiaaP1
import Derived.Deep.SlicePairs
import Derived.Deep.Slices
import Derived.Deep.Strs
import Derived.OpenShut
namespace Go.Proofs.Ytaeifdmabkjoiaa.PPU
open Go.RowKit Go.Proofs.YtaeifdmabkjoiaaW.PrintWords Go.Proofs.YtaeifdmabkjoiaaW.PrintLast Go.Proofs.YtaeifdmabkjoiaaW.PrintMore
set_option linter.unusedVariables false
set_option linter.unusedSimpArgs false

theorem cells50 : Try.prog.cellsOf 50 = 4 := by kernel_rfl
theorem cells25 : Try.prog.cellsOf 25 = 2 := by kernel_rfl
theorem cells3 : Try.prog.cellsOf 3 = 1 := by kernel_rfl
theorem cells23 : Try.prog.cellsOf 23 = 1 := by kernel_rfl
theorem cells67p : Try.prog.cellsOf 67 = 2 := by kernel_rfl
section
variable {H : Type} {enc : TypeId × Value → H} {W : World} {base : Nat} {spare : Nat → Bool} {held : Bool} {fuel : Nat} {x : DataW H × List MemPlace}
theorem four_of {cs : List Value} (h : cs.length = 4) : ∃ a b c d, cs = [a, b, c, d] := by
  match cs, h with
  | [a, b, c, d], _ => exact ⟨a, b, c, d, rfl⟩
theorem act_cells {cs : List Value} (h : DataW.trod enc Try.prog W base spare held fuel 50 cs = some x) : ∃ k a b y : Int, cs = [.int .i64 k, .int .i64 a, .int .i64 b, .int .i64 y] := by
  obtain ⟨y0, y1, y2, n, _, hl, h0, h1, h2⟩ := Deep.trod_struct3 Try.underlying50 h
  rw [cells50] at hl
  obtain ⟨c0, c1, c2, c3, rfl⟩ := four_of hl
  simp only [cells3, cells25] at h0 h1 h2
  obtain ⟨n0, q0, _, _⟩ := DataW.trod_int Try.underlying3 h0
  obtain ⟨n2, q2, _, _⟩ := DataW.trod_int Try.underlying3 h2
  obtain ⟨z0, z1, m, _, _, g0, g1⟩ := ChangeShapes.trod_struct2 Try.underlying25 h1
  simp only [cells23] at g0 g1
  obtain ⟨n3, q3, _, _⟩ := DataW.trod_int Try.underlying23 g0
  obtain ⟨n4, q4, _, _⟩ := DataW.trod_int Try.underlying23 g1
  simp at q0 q2 q3 q4
  exact ⟨n0, n3, n4, n2, by rw [q0, q2, q3, q4]⟩
end
structure ActV where
  k : Int
  a : Int
  b : Int
  y : Int
instance : Inhabited ActV := ⟨⟨0, 0, 0, 0⟩⟩
/-- A row of acts, read. -/
def Acts (w : World) (A : Option Addr) (n : Nat) (F : Nat → ActV) : Prop := ∀ i, i < n → ∃ ad, A = some ad ∧ w.cell? (ad.add (i * 4)) = some (.int .i64 (F i).k) ∧ w.cell? ⟨(ad.add (i * 4)).block, (ad.add (i * 4)).off + 1, none⟩ = some (.int .i64 (F i).a) ∧
  w.cell? ⟨(ad.add (i * 4)).block, (ad.add (i * 4)).off + 2, none⟩ = some (.int .i64 (F i).b) ∧ w.cell? ⟨(ad.add (i * 4)).block, (ad.add (i * 4)).off + 3, none⟩ = some (.int .i64 (F i).y)
theorem Acts.below {w w' : World} {A : Option Addr} {n : Nat} {F : Nat → ActV} (h : Acts w A n F) (hb : Below w.heap.size w w') : Acts w' A n F := by
  intro i hi
  obtain ⟨ad, h1, h2, h3, h4, h5⟩ := h i hi
  exact ⟨ad, h1, pw_cell_below hb h2, pw_cell_below hb h3, pw_cell_below hb h4, pw_cell_below hb h5⟩
section
variable {H : Type} {enc : TypeId × Value → H} {W : World} {base : Nat} {spare : Nat → Bool} {held : Bool} {fuel : Nat} {x : DataW H × List MemPlace}
theorem open_acts {a : Option Addr} {len cap : Nat} (h : DataW.trod enc Try.prog W base spare held fuel 22 [.slice a len cap] = some x) : ∃ F, Acts W a len F ∧ len ≤ cap ∧ len ≤ 9223372036854775807 := by
  rcases Deep.open_slice Try.underlying22 h with ⟨hcs, _⟩ | ⟨ad, l, c, m, n, D, Pl, hcs, _, hl, hm, hmm, _, hall⟩
  · simp at hcs
    obtain ⟨rfl, rfl, rfl⟩ := hcs
    exact ⟨fun _ => ⟨0, 0, 0, 0⟩, fun i hi => by omega, Nat.le_refl _, by omega⟩
  · simp at hcs
    obtain ⟨rfl, rfl, rfl⟩ := hcs
    have hm' : cap ≤ 9223372036854775807 := hm
    have each : ∀ i, i < len → ∃ p : ActV, W.cell? (ad.add (i * 4)) = some (.int .i64 p.k) ∧ W.cell? ⟨(ad.add (i * 4)).block, (ad.add (i * 4)).off + 1, none⟩ = some (.int .i64 p.a) ∧ W.cell? ⟨(ad.add (i * 4)).block, (ad.add (i * 4)).off + 2, none⟩ = some (.int .i64 p.b) ∧ W.cell? ⟨(ad.add (i * 4)).block, (ad.add (i * 4)).off + 3, none⟩ = some (.int .i64 p.y) := by
      intro i hi
      obtain ⟨cs, hc, ht⟩ := hall i (by rw [hmm]; split <;> omega)
      rw [cells50] at hc
      obtain ⟨_, hcl, hat⟩ := World.cells?_some hc
      obtain ⟨k, a, b, y, rfl⟩ := act_cells ht
      have h0 := hat 0 (by omega)
      have h1 := hat 1 (by omega)
      have h2 := hat 2 (by omega)
      have h3 := hat 3 (by omega)
      refine ⟨⟨k, a, b, y⟩, ?_, ?_, ?_, ?_⟩
      · have e : (ad.add (i * 4)).add 0 = ad.add (i * 4) := by rw [Go.Deep.add_add]; rfl
        rw [e] at h0
        exact h0
      · rw [← add_field _ _ 1 (by omega), ← Go.Deep.add_add]; exact h1
      · rw [← add_field _ _ 2 (by omega), ← Go.Deep.add_add]; exact h2
      · rw [← add_field _ _ 3 (by omega), ← Go.Deep.add_add]; exact h3
    obtain ⟨F, hF⟩ := Deep.choose_lt each
    exact ⟨F, fun i hi => ⟨ad, rfl, hF i hi⟩, hl, by omega⟩
theorem open_steps {a : Option Addr} {len cap : Nat} (h : DataW.trod enc Try.prog W base spare held fuel 56 [.slice a len cap] = some x) : ∃ l : List S67, Kd.C k67 W a l.length l ∧ l.length = len ∧ l.length ≤ cap := by
  rcases Deep.open_slice_pairs Try.underlying56 Try.underlying67 cells67p rfl rfl (by kernel_rfl) (by kernel_rfl) h with ⟨hcs, _⟩ | ⟨ad, l, c, m, n, V0, V1, D0, D1, P0, P1, hcs, _, hl, hm, hmm, _, hall⟩
  · simp at hcs
    obtain ⟨rfl, rfl, rfl⟩ := hcs
    exact ⟨[], Kd.C_nil _ _, rfl, Nat.le_refl _⟩
  · simp at hcs
    obtain ⟨rfl, rfl, rfl⟩ := hcs
    have each : ∀ i, i < len → ∃ p : Int × Int, W.cell? (ad.add (i * 2)) = some (.int .i64 p.1) ∧ W.cell? (ad.add (i * 2 + 1)) = some (.int .i64 p.2) := by
      intro i hi
      obtain ⟨e0, e1, t0, t1⟩ := hall i (by rw [hmm]; split <;> omega)
      obtain ⟨n0, q0, _, _⟩ := DataW.trod_int Try.underlying23 t0
      obtain ⟨n1, q1, _, _⟩ := DataW.trod_int Try.underlying3 t1
      simp at q0 q1
      exact ⟨(n0, n1), by rw [e0, q0], by rw [e1, q1]⟩
    obtain ⟨F, hF⟩ := Deep.choose_lt each
    refine ⟨(List.range len).map (fun i => ⟨(F i).1, (F i).2⟩), ⟨rfl, ?_, fun _ => ⟨ad, rfl, fun j p hj => ⟨[.int .i64 p.f0, .int .i64 p.f1], rfl, k67_mk _ _, fun i u hu => ?_⟩⟩⟩, by simp, by simpa using hl⟩
    · have : maxLen = 9223372036854775807 := rfl
      simp
      omega
    · have hj2 : j < len := by have := (List.getElem?_eq_some_iff.1 hj).1; simpa using this
      simp [hj2] at hj
      subst hj
      show W.cell? (ad.add (j * 2 + i)) = some u
      match i, hu with
      | 0, hu =>
        simp at hu
        rw [← hu]
        exact (hF j hj2).1
      | 1, hu =>
        simp at hu
        rw [← hu]
        exact (hF j hj2).2
      | i + 2, hu => simp at hu
end
end Go.Proofs.Ytaeifdmabkjoiaa.PPU
