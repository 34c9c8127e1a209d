/-
  No cell of these rows narrows 'for every input' (looked for: loops, veiled, ifaces, maps, wideKeys, modest, calm, conditions, laid).
  DERIVED. THE GIVEN ROWS OF THIS SEAT. 5 by the template 'for every input the law returns true; each argument reads behind the call as it read before'; 0 by the template 'total and deterministic' (their statements: YtaeifdmabkjoiaaTotals.lean).
  GIVEN WITH THE SEED: the statements are not yours to turn. If you find one false, say at which input.
  Laid BY PROGRAM, IN A SANDBOX (cutbox-rows.mjs): the forced cells as the released guide's own fill.sh prints them over the translation 5daa7039c92aa895… (all of the seat's roots in one cut). By AI agents, Wed Nov 11 2026. No macro, syntax, notation, axiom, sorry.
-/
import Derived.Test.YtaeifdmabkjoiaaChecked
import GoSem.Claim
import GoSem.ClaimJoined
import GoSem.ClaimMapViews
import Derived.JoinedTies
import Derived.KernelRfl
namespace Go.Proofs.Ytaeifdmabkjoiaa
/- THE CELL 'sum', in the pinned program and in every row, IS THE sha256 OF THE DUMP (.gsa) THAT YtaeifdmabkjoiaaProg.lean LOADS. Nothing in Lean hashes anything: it is a label: what it is worth is what the hold of that sum in a sandbox is worth. -/
noncomputable def Try.pinned : Pinned := { name := "ytaeifdmabkjoiaa", sum := "5daa7039c92aa895b247bcdee0de7db92ba827aa932d754efeaaae37c142a51b", checked := Try.checked }
namespace Rows
def none {H : Type} : Left H := { results := [], args := [] }

/-- 'berthinglaw10.UsagePlays': WHATEVER THE INPUT: true; the input reads as it did. -/
def usagePlaysSpec : ChangeSpec := { name := "usagePlays", fn := fun _ => fun
  | [d1, d2, d3] => { results := [.lit (.bool true)], args := [d1, d2, d3] }
  | _ => none }
def usagePlaysRow : OpenClaim := { program := "ytaeifdmabkjoiaa", sum := "5daa7039c92aa895b247bcdee0de7db92ba827aa932d754efeaaae37c142a51b", func := "berthing/berthinglaw10.UsagePlays", spec := "usagePlays", inPlace := ["slices.overlaps[berthing/usage.Step]"], unfollowed := true, recurses := true, apart := false }
def UsagePlaysSaid : Prop := usagePlaysRow.holds Try.pinned (OpenSpec.ofChange usagePlaysSpec)

/-- ITS FALSE NEIGHBOUR: 'it returns false'. Refute it at one input. -/
def usagePlaysWrong : ChangeSpec := { name := "usagePlays", fn := fun _ => fun
  | [d1, d2, d3] => { results := [.lit (.bool false)], args := [d1, d2, d3] }
  | _ => none }
def UsagePlaysWrongFalsely : Prop := usagePlaysRow.holds Try.pinned (OpenSpec.ofChange usagePlaysWrong)

/-- 'berthinglaw10.UsageAreas': WHATEVER THE INPUT: true; the input reads as it did. -/
def usageAreasSpec : ChangeSpec := { name := "usageAreas", fn := fun _ => fun
  | [d1, d2, d3] => { results := [.lit (.bool true)], args := [d1, d2, d3] }
  | _ => none }
def usageAreasRow : OpenClaim := { program := "ytaeifdmabkjoiaa", sum := "5daa7039c92aa895b247bcdee0de7db92ba827aa932d754efeaaae37c142a51b", func := "berthing/berthinglaw10.UsageAreas", spec := "usageAreas", inPlace := ["slices.overlaps[berthing/usage.Step]"], unfollowed := true, recurses := true, apart := false }
def UsageAreasSaid : Prop := usageAreasRow.holds Try.pinned (OpenSpec.ofChange usageAreasSpec)

/-- ITS FALSE NEIGHBOUR: 'it returns false'. Refute it at one input. -/
def usageAreasWrong : ChangeSpec := { name := "usageAreas", fn := fun _ => fun
  | [d1, d2, d3] => { results := [.lit (.bool false)], args := [d1, d2, d3] }
  | _ => none }
def UsageAreasWrongFalsely : Prop := usageAreasRow.holds Try.pinned (OpenSpec.ofChange usageAreasWrong)

/-- 'berthinglaw10.UsageNobody': WHATEVER THE INPUT: true; the input reads as it did. -/
def usageNobodySpec : ChangeSpec := { name := "usageNobody", fn := fun _ => fun
  | [d] => { results := [.lit (.bool true)], args := [d] }
  | _ => none }
def usageNobodyRow : OpenClaim := { program := "ytaeifdmabkjoiaa", sum := "5daa7039c92aa895b247bcdee0de7db92ba827aa932d754efeaaae37c142a51b", func := "berthing/berthinglaw10.UsageNobody", spec := "usageNobody", inPlace := ["slices.overlaps[berthing/usage.Step]"], unfollowed := true, recurses := true, apart := false }
def UsageNobodySaid : Prop := usageNobodyRow.holds Try.pinned (OpenSpec.ofChange usageNobodySpec)

/-- ITS FALSE NEIGHBOUR: 'it returns false'. Refute it at one input. -/
def usageNobodyWrong : ChangeSpec := { name := "usageNobody", fn := fun _ => fun
  | [d] => { results := [.lit (.bool false)], args := [d] }
  | _ => none }
def UsageNobodyWrongFalsely : Prop := usageNobodyRow.holds Try.pinned (OpenSpec.ofChange usageNobodyWrong)

/-- 'berthinglaw10.UsageBack': WHATEVER THE INPUT: true; the input reads as it did. -/
def usageBackSpec : ChangeSpec := { name := "usageBack", fn := fun _ => fun
  | [d1, d2, d3] => { results := [.lit (.bool true)], args := [d1, d2, d3] }
  | _ => none }
def usageBackRow : OpenClaim := { program := "ytaeifdmabkjoiaa", sum := "5daa7039c92aa895b247bcdee0de7db92ba827aa932d754efeaaae37c142a51b", func := "berthing/berthinglaw10.UsageBack", spec := "usageBack", inPlace := ["slices.overlaps[berthing/usage.Step]"], unfollowed := true, recurses := true, apart := false }
def UsageBackSaid : Prop := usageBackRow.holds Try.pinned (OpenSpec.ofChange usageBackSpec)

/-- ITS FALSE NEIGHBOUR: 'it returns false'. Refute it at one input. -/
def usageBackWrong : ChangeSpec := { name := "usageBack", fn := fun _ => fun
  | [d1, d2, d3] => { results := [.lit (.bool false)], args := [d1, d2, d3] }
  | _ => none }
def UsageBackWrongFalsely : Prop := usageBackRow.holds Try.pinned (OpenSpec.ofChange usageBackWrong)

/-- 'berthinglaw10.UsageSteps': WHATEVER THE INPUT: true; the input reads as it did. -/
def usageStepsSpec : ChangeSpec := { name := "usageSteps", fn := fun _ => fun
  | [d1, d2] => { results := [.lit (.bool true)], args := [d1, d2] }
  | _ => none }
def usageStepsRow : OpenClaim := { program := "ytaeifdmabkjoiaa", sum := "5daa7039c92aa895b247bcdee0de7db92ba827aa932d754efeaaae37c142a51b", func := "berthing/berthinglaw10.UsageSteps", spec := "usageSteps", inPlace := ["slices.overlaps[berthing/usage.Step]"], unfollowed := true, recurses := true, apart := false }
def UsageStepsSaid : Prop := usageStepsRow.holds Try.pinned (OpenSpec.ofChange usageStepsSpec)

/-- ITS FALSE NEIGHBOUR: 'it returns false'. Refute it at one input. -/
def usageStepsWrong : ChangeSpec := { name := "usageSteps", fn := fun _ => fun
  | [d1, d2] => { results := [.lit (.bool false)], args := [d1, d2] }
  | _ => none }
def UsageStepsWrongFalsely : Prop := usageStepsRow.holds Try.pinned (OpenSpec.ofChange usageStepsWrong)

/- THE SECOND FORM. 'bulk': how many values and letters a reading holds, each counted each time it is reached (what is shared counts as often as it is met; a slice's spare places count too). A statement '..UptoSaid' is the law's where the arguments, and the package variables that the reading takes, are together of bulk at most 1048576: NARROWER than '..Said'. Prove '..Said' where nothing that the law and all that it calls make is longer than what came in: it says more and counts as full. Else prove '..UptoSaid'. A law counts once. -/
mutual
def uptoBulk {H : Type} : DataW H → Nat
  | .lit (.string bytes) => bytes.length + 1
  | .lit _ => 1
  | .nil => 1
  | .ptr d => uptoBulk d + 1
  | .slice elems spare => uptoBulkAll elems + uptoBulkAll spare + 1
  | .agg parts => uptoBulkAll parts + 1
  | .iface _ d => uptoBulk d + 1
  | .map entries => uptoBulkEntries entries + 1
  | .held _ => 1
def uptoBulkAll {H : Type} : List (DataW H) → Nat
  | [] => 0
  | d :: r => uptoBulk d + uptoBulkAll r
def uptoBulkEntries {H : Type} : List (Lit × DataW H) → Nat
  | [] => 0
  | x :: r => uptoBulkEntry x + uptoBulkEntries r
def uptoBulkEntry {H : Type} : Lit × DataW H → Nat
  | (.string bytes, d) => bytes.length + uptoBulk d + 1
  | (_, d) => uptoBulk d + 1
 end
def uptoSmall : (H : Type) → List (DataW H) → Bool := fun _ ds => decide (uptoBulkAll ds ≤ 1048576)
def OpenSpec.upto (s : _root_.Go.ChangeSpec) : _root_.Go.OpenSpec := { _root_.Go.OpenSpec.ofChange s with cond := some uptoSmall }

/-- 'berthinglaw10.UsagePlays', WHERE WHAT IT READS IS OF BULK AT MOST 1048576: true; the input reads as it did. -/
def usagePlaysUptoRow : OpenClaim := { program := "ytaeifdmabkjoiaa", sum := "5daa7039c92aa895b247bcdee0de7db92ba827aa932d754efeaaae37c142a51b", func := "berthing/berthinglaw10.UsagePlays", spec := "usagePlays", inPlace := ["slices.overlaps[berthing/usage.Step]"], unfollowed := true, recurses := true, apart := false, narrowed := true }
def UsagePlaysUptoSaid : Prop := usagePlaysUptoRow.holds Try.pinned (OpenSpec.upto usagePlaysSpec)

/-- 'berthinglaw10.UsageAreas', WHERE WHAT IT READS IS OF BULK AT MOST 1048576: true; the input reads as it did. -/
def usageAreasUptoRow : OpenClaim := { program := "ytaeifdmabkjoiaa", sum := "5daa7039c92aa895b247bcdee0de7db92ba827aa932d754efeaaae37c142a51b", func := "berthing/berthinglaw10.UsageAreas", spec := "usageAreas", inPlace := ["slices.overlaps[berthing/usage.Step]"], unfollowed := true, recurses := true, apart := false, narrowed := true }
def UsageAreasUptoSaid : Prop := usageAreasUptoRow.holds Try.pinned (OpenSpec.upto usageAreasSpec)

/-- 'berthinglaw10.UsageNobody', WHERE WHAT IT READS IS OF BULK AT MOST 1048576: true; the input reads as it did. -/
def usageNobodyUptoRow : OpenClaim := { program := "ytaeifdmabkjoiaa", sum := "5daa7039c92aa895b247bcdee0de7db92ba827aa932d754efeaaae37c142a51b", func := "berthing/berthinglaw10.UsageNobody", spec := "usageNobody", inPlace := ["slices.overlaps[berthing/usage.Step]"], unfollowed := true, recurses := true, apart := false, narrowed := true }
def UsageNobodyUptoSaid : Prop := usageNobodyUptoRow.holds Try.pinned (OpenSpec.upto usageNobodySpec)

/-- 'berthinglaw10.UsageBack', WHERE WHAT IT READS IS OF BULK AT MOST 1048576: true; the input reads as it did. -/
def usageBackUptoRow : OpenClaim := { program := "ytaeifdmabkjoiaa", sum := "5daa7039c92aa895b247bcdee0de7db92ba827aa932d754efeaaae37c142a51b", func := "berthing/berthinglaw10.UsageBack", spec := "usageBack", inPlace := ["slices.overlaps[berthing/usage.Step]"], unfollowed := true, recurses := true, apart := false, narrowed := true }
def UsageBackUptoSaid : Prop := usageBackUptoRow.holds Try.pinned (OpenSpec.upto usageBackSpec)

/-- 'berthinglaw10.UsageSteps', WHERE WHAT IT READS IS OF BULK AT MOST 1048576: true; the input reads as it did. -/
def usageStepsUptoRow : OpenClaim := { program := "ytaeifdmabkjoiaa", sum := "5daa7039c92aa895b247bcdee0de7db92ba827aa932d754efeaaae37c142a51b", func := "berthing/berthinglaw10.UsageSteps", spec := "usageSteps", inPlace := ["slices.overlaps[berthing/usage.Step]"], unfollowed := true, recurses := true, apart := false, narrowed := true }
def UsageStepsUptoSaid : Prop := usageStepsUptoRow.holds Try.pinned (OpenSpec.upto usageStepsSpec)

end Rows
end Go.Proofs.Ytaeifdmabkjoiaa
