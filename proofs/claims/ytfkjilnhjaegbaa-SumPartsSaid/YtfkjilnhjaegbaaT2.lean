/- How a slice of bytes comes in; the walk of SumTells from what came in. -/
import Derived.Test.YtfkjilnhjaegbaaT
import Derived.OpenShut
namespace Go.Proofs.Ytfkjilnhjaegbaa.PSum
open Go.RowKit Go.Proofs.YtfkjilnhjaegbaaW.PrintWords Go.Proofs.YtfkjilnhjaegbaaW.PrintLast Go.Proofs.YtfkjilnhjaegbaaW.PrintMore

/-- How a slice of bytes came in. -/
abbrev Came (w : World) (a : Option Addr) (len cap : Nat) (zs : List Int) : Prop :=
  (a = none ∧ len = 0 ∧ cap = 0 ∧ zs = []) ∨
  ∃ x, a = some x ∧ len ≤ cap ∧ cap ≤ maxLen ∧ zs.length = cap ∧ (∀ i, i < zs.length → w.cell? (x.add i) = some (.int .u8 (zs.getD i 0))) ∧ ∀ n ∈ zs, (Lit.int .u8 n).wf = true
theorem came {w : World} {a : Option Addr} {len cap : Nat} {zs : List Int} (h : Came w a len cap zs) : ∃ l, (Kd.int .u8).C w a len l ∧ len ≤ cap ∧ Bytes l := by
  obtain ⟨l, rfl, hr, hm, hw, hc⟩ := ReadsInt.ofRowC h
  exact ⟨l, Kd.C_of_reads (d := (0 : Int)) (h1 := fun _ => rfl) hr, hc, fun x hx => by have := bounds_u8 (hw x hx); omega⟩
theorem u32_of {n : Int} (h : (Lit.int .u32 n).wf = true) : U32 n := by have := bounds_u32 h; unfold U32; omega
theorem C_cut {α : Type} {d : Kd α} {w : World} {A : Option Addr} {n m : Nat} {l : List α} (h : d.C w A n l) (hm : m ≤ n) : d.C w A m (l.take m) := by
  obtain rfl : l.length = n := h.1
  have := Kd.C_take h hm
  rwa [List.length_take, Nat.min_eq_left hm] at this
theorem Bytes.take {l : List Int} (h : Bytes l) (m : Nat) : Bytes (l.take m) := fun x hx => h x (List.mem_of_mem_take hx)

theorem tells_walk (a0 : Option Addr) (len0 cap0 : Nat) (z0 : List Int) {w : World} (w0 : Came w a0 len0 cap0 z0) (y0 : len0 * 1 ≤ 140737488351232) (a b : Int) (wa : (Lit.int .u32 a).wf = true) (wb : (Lit.int .u32 b).wf = true) (w1 : World) (hw : w1 = w := by rfl) :
    Calls Try.prog 3 #[.slice a0 len0 cap0, .agg #[.int .u32 a, .int .u32 b]] w1 fun e w' => e = .returned (.bool true) ∧ Below w1.heap.size w1 w' := by
  subst hw
  obtain ⟨l, hr, hc, hb⟩ := came w0
  rcases Nat.lt_or_ge 3000 len0 with h | h
  · exact tells_cut a b (u32_of wa) (u32_of wb) a0 cap0 len0 (l.take 3000) h hc _ (hb.take _) (C_cut hr (by omega)) (by omega)
  · exact tells_all a b (u32_of wa) (u32_of wb) a0 cap0 len0 l h _ hb hr hc
end Go.Proofs.Ytfkjilnhjaegbaa.PSum
