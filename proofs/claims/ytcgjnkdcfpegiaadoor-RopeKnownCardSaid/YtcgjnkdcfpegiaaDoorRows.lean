/-
  NARROWER THAN 'FOR EVERY INPUT', by the rows' own cells (each row's printed sentence says how): RopeTells: laid · RopeKeeps: laid · RopeMakes: laid · RopeHolds: laid · RopeCosts: laid · RopeEvened: laid · RopeKept: laid · RopeKnown: laid.
  DERIVED. THE GIVEN ROWS OF THIS SEAT. 8 by the template 'for every input the law returns true; each argument reads behind the call as it read before'; 0 by the template 'total and deterministic' (their statements: YtcgjnkdcfpegiaaDoorTotals.lean).
  GIVEN WITH THE SEED: the statements are not yours to turn. If you find one false, say at which input.
  Laid BY PROGRAM, IN A SANDBOX (cutbox-rows.mjs): the forced cells as the released guide's own fill.sh prints them over the translation fd7795af580cd8fe… (all of the seat's roots in one cut). By AI agents, Wed Nov 11 2026. No macro, syntax, notation, axiom, sorry.
-/
import Derived.Test.YtcgjnkdcfpegiaaDoorChecked
import GoSem.Claim
import GoSem.ClaimJoined
import GoSem.ClaimMapViews
import Derived.JoinedTies
import Derived.KernelRfl
namespace Go.Proofs.YtcgjnkdcfpegiaaDoor
/- THE CELL 'sum', in the pinned program and in every row, IS THE sha256 OF THE DUMP (.gsa) THAT YtcgjnkdcfpegiaaDoorProg.lean LOADS. Nothing in Lean hashes anything: it is a label: what it is worth is what the hold of that sum in a sandbox is worth. -/
noncomputable def Tryd.pinned : Pinned := { name := "ytcgjnkdcfpegiaadoor", sum := "fd7795af580cd8fef374a1e08a170d80edbac5924335f78c40aa3ce63019bf96", checked := Tryd.checked }
namespace Rows
def none {H : Type} : Left H := { results := [], args := [] }

/- WHAT THE LISTED PACKAGE-LEVEL VARIABLES READ AS WHEN THE CALL BEGINS. Each datum BY PROGRAM (the guide's laid-datum.mjs) off the statement by which the dump's own 'gosem.cut.vars' lays the variable. In a bare row this is a premise. The card (YtcgjnkdcfpegiaaDoorCards.lean) ties it to the program's text. -/
def laid_sheafworks_rope_kinds {H : Type} : DataW H := .iface "func table" (.agg [.iface "func" (.lit (.string [40, 42, 115, 104, 101, 97, 102, 119, 111, 114, 107, 115, 47, 114, 111, 112, 101, 46, 115, 116, 111, 114, 101, 41, 46, 119, 111, 114, 100, 115])), .iface "func" (.lit (.string [40, 42, 115, 104, 101, 97, 102, 119, 111, 114, 107, 115, 47, 114, 111, 112, 101, 46, 115, 116, 111, 114, 101, 41, 46, 99, 97, 116])), .iface "func" (.lit (.string [40, 42, 115, 104, 101, 97, 102, 119, 111, 114, 107, 115, 47, 114, 111, 112, 101, 46, 115, 116, 111, 114, 101, 41, 46, 112, 97, 114, 116])), .iface "func" (.lit (.string [40, 42, 115, 104, 101, 97, 102, 119, 111, 114, 107, 115, 47, 114, 111, 112, 101, 46, 115, 116, 111, 114, 101, 41, 46, 111, 102, 102]))])

/-- 'sheafworkslaw06.RopeTells': WHATEVER THE INPUT: true; the input reads as it did. -/
def ropeTellsSpec : ChangeSpec := { name := "ropeTells", fn := fun _ => fun
  | [d1, d2, d3, d4] => { results := [.lit (.bool true)], args := [d1, d2, d3, d4] }
  | _ => none }
def ropeTellsRow : OpenClaim := { program := "ytcgjnkdcfpegiaadoor", sum := "fd7795af580cd8fef374a1e08a170d80edbac5924335f78c40aa3ce63019bf96", func := "sheafworks/sheafworkslaw06.RopeTells", spec := "ropeTells", unfollowed := true, recurses := true, named := ["sheafworks/rope.kinds"], apart := false, laid := [("sheafworks/rope.kinds", laid_sheafworks_rope_kinds)] }
def RopeTellsSaid : Prop := ropeTellsRow.holds Tryd.pinned (OpenSpec.ofChange ropeTellsSpec)

/-- ITS FALSE NEIGHBOUR: 'it returns false'. Refute it at one input. -/
def ropeTellsWrong : ChangeSpec := { name := "ropeTells", fn := fun _ => fun
  | [d1, d2, d3, d4] => { results := [.lit (.bool false)], args := [d1, d2, d3, d4] }
  | _ => none }
def RopeTellsWrongFalsely : Prop := ropeTellsRow.holds Tryd.pinned (OpenSpec.ofChange ropeTellsWrong)

/-- 'sheafworkslaw06.RopeKeeps': WHATEVER THE INPUT: true; the input reads as it did. -/
def ropeKeepsSpec : ChangeSpec := { name := "ropeKeeps", fn := fun _ => fun
  | [d1, d2, d3] => { results := [.lit (.bool true)], args := [d1, d2, d3] }
  | _ => none }
def ropeKeepsRow : OpenClaim := { program := "ytcgjnkdcfpegiaadoor", sum := "fd7795af580cd8fef374a1e08a170d80edbac5924335f78c40aa3ce63019bf96", func := "sheafworks/sheafworkslaw06.RopeKeeps", spec := "ropeKeeps", unfollowed := true, recurses := true, named := ["sheafworks/rope.kinds"], apart := false, laid := [("sheafworks/rope.kinds", laid_sheafworks_rope_kinds)] }
def RopeKeepsSaid : Prop := ropeKeepsRow.holds Tryd.pinned (OpenSpec.ofChange ropeKeepsSpec)

/-- ITS FALSE NEIGHBOUR: 'it returns false'. Refute it at one input. -/
def ropeKeepsWrong : ChangeSpec := { name := "ropeKeeps", fn := fun _ => fun
  | [d1, d2, d3] => { results := [.lit (.bool false)], args := [d1, d2, d3] }
  | _ => none }
def RopeKeepsWrongFalsely : Prop := ropeKeepsRow.holds Tryd.pinned (OpenSpec.ofChange ropeKeepsWrong)

/-- 'sheafworkslaw06.RopeMakes': WHATEVER THE INPUT: true; the input reads as it did. -/
def ropeMakesSpec : ChangeSpec := { name := "ropeMakes", fn := fun _ => fun
  | [d1, d2, d3] => { results := [.lit (.bool true)], args := [d1, d2, d3] }
  | _ => none }
def ropeMakesRow : OpenClaim := { program := "ytcgjnkdcfpegiaadoor", sum := "fd7795af580cd8fef374a1e08a170d80edbac5924335f78c40aa3ce63019bf96", func := "sheafworks/sheafworkslaw06.RopeMakes", spec := "ropeMakes", unfollowed := true, recurses := true, named := ["sheafworks/rope.kinds"], apart := false, laid := [("sheafworks/rope.kinds", laid_sheafworks_rope_kinds)] }
def RopeMakesSaid : Prop := ropeMakesRow.holds Tryd.pinned (OpenSpec.ofChange ropeMakesSpec)

/-- ITS FALSE NEIGHBOUR: 'it returns false'. Refute it at one input. -/
def ropeMakesWrong : ChangeSpec := { name := "ropeMakes", fn := fun _ => fun
  | [d1, d2, d3] => { results := [.lit (.bool false)], args := [d1, d2, d3] }
  | _ => none }
def RopeMakesWrongFalsely : Prop := ropeMakesRow.holds Tryd.pinned (OpenSpec.ofChange ropeMakesWrong)

/-- 'sheafworkslaw06.RopeHolds': WHATEVER THE INPUT: true; the input reads as it did. -/
def ropeHoldsSpec : ChangeSpec := { name := "ropeHolds", fn := fun _ => fun
  | [d1, d2] => { results := [.lit (.bool true)], args := [d1, d2] }
  | _ => none }
def ropeHoldsRow : OpenClaim := { program := "ytcgjnkdcfpegiaadoor", sum := "fd7795af580cd8fef374a1e08a170d80edbac5924335f78c40aa3ce63019bf96", func := "sheafworks/sheafworkslaw06.RopeHolds", spec := "ropeHolds", unfollowed := true, recurses := true, named := ["sheafworks/rope.kinds"], apart := false, laid := [("sheafworks/rope.kinds", laid_sheafworks_rope_kinds)] }
def RopeHoldsSaid : Prop := ropeHoldsRow.holds Tryd.pinned (OpenSpec.ofChange ropeHoldsSpec)

/-- ITS FALSE NEIGHBOUR: 'it returns false'. Refute it at one input. -/
def ropeHoldsWrong : ChangeSpec := { name := "ropeHolds", fn := fun _ => fun
  | [d1, d2] => { results := [.lit (.bool false)], args := [d1, d2] }
  | _ => none }
def RopeHoldsWrongFalsely : Prop := ropeHoldsRow.holds Tryd.pinned (OpenSpec.ofChange ropeHoldsWrong)

/-- 'sheafworkslaw06.RopeCosts': WHATEVER THE INPUT: true; the input reads as it did. -/
def ropeCostsSpec : ChangeSpec := { name := "ropeCosts", fn := fun _ => fun
  | [d1, d2] => { results := [.lit (.bool true)], args := [d1, d2] }
  | _ => none }
def ropeCostsRow : OpenClaim := { program := "ytcgjnkdcfpegiaadoor", sum := "fd7795af580cd8fef374a1e08a170d80edbac5924335f78c40aa3ce63019bf96", func := "sheafworks/sheafworkslaw06.RopeCosts", spec := "ropeCosts", unfollowed := true, recurses := true, named := ["sheafworks/rope.kinds"], apart := false, laid := [("sheafworks/rope.kinds", laid_sheafworks_rope_kinds)] }
def RopeCostsSaid : Prop := ropeCostsRow.holds Tryd.pinned (OpenSpec.ofChange ropeCostsSpec)

/-- ITS FALSE NEIGHBOUR: 'it returns false'. Refute it at one input. -/
def ropeCostsWrong : ChangeSpec := { name := "ropeCosts", fn := fun _ => fun
  | [d1, d2] => { results := [.lit (.bool false)], args := [d1, d2] }
  | _ => none }
def RopeCostsWrongFalsely : Prop := ropeCostsRow.holds Tryd.pinned (OpenSpec.ofChange ropeCostsWrong)

/-- 'sheafworkslaw06.RopeEvened': WHATEVER THE INPUT: true; the input reads as it did. -/
def ropeEvenedSpec : ChangeSpec := { name := "ropeEvened", fn := fun _ => fun
  | [d1, d2] => { results := [.lit (.bool true)], args := [d1, d2] }
  | _ => none }
def ropeEvenedRow : OpenClaim := { program := "ytcgjnkdcfpegiaadoor", sum := "fd7795af580cd8fef374a1e08a170d80edbac5924335f78c40aa3ce63019bf96", func := "sheafworks/sheafworkslaw06.RopeEvened", spec := "ropeEvened", unfollowed := true, recurses := true, named := ["sheafworks/rope.kinds"], apart := false, laid := [("sheafworks/rope.kinds", laid_sheafworks_rope_kinds)] }
def RopeEvenedSaid : Prop := ropeEvenedRow.holds Tryd.pinned (OpenSpec.ofChange ropeEvenedSpec)

/-- ITS FALSE NEIGHBOUR: 'it returns false'. Refute it at one input. -/
def ropeEvenedWrong : ChangeSpec := { name := "ropeEvened", fn := fun _ => fun
  | [d1, d2] => { results := [.lit (.bool false)], args := [d1, d2] }
  | _ => none }
def RopeEvenedWrongFalsely : Prop := ropeEvenedRow.holds Tryd.pinned (OpenSpec.ofChange ropeEvenedWrong)

/-- 'sheafworkslaw06.RopeKept': WHATEVER THE INPUT: true; the input reads as it did. -/
def ropeKeptSpec : ChangeSpec := { name := "ropeKept", fn := fun _ => fun
  | [d1, d2] => { results := [.lit (.bool true)], args := [d1, d2] }
  | _ => none }
def ropeKeptRow : OpenClaim := { program := "ytcgjnkdcfpegiaadoor", sum := "fd7795af580cd8fef374a1e08a170d80edbac5924335f78c40aa3ce63019bf96", func := "sheafworks/sheafworkslaw06.RopeKept", spec := "ropeKept", unfollowed := true, recurses := true, named := ["sheafworks/rope.kinds"], apart := false, laid := [("sheafworks/rope.kinds", laid_sheafworks_rope_kinds)] }
def RopeKeptSaid : Prop := ropeKeptRow.holds Tryd.pinned (OpenSpec.ofChange ropeKeptSpec)

/-- ITS FALSE NEIGHBOUR: 'it returns false'. Refute it at one input. -/
def ropeKeptWrong : ChangeSpec := { name := "ropeKept", fn := fun _ => fun
  | [d1, d2] => { results := [.lit (.bool false)], args := [d1, d2] }
  | _ => none }
def RopeKeptWrongFalsely : Prop := ropeKeptRow.holds Tryd.pinned (OpenSpec.ofChange ropeKeptWrong)

/-- 'sheafworkslaw06.RopeKnown': WHATEVER THE INPUT: true; the input reads as it did. -/
def ropeKnownSpec : ChangeSpec := { name := "ropeKnown", fn := fun _ => fun
  | [] => { results := [.lit (.bool true)], args := [] }
  | _ => none }
def ropeKnownRow : OpenClaim := { program := "ytcgjnkdcfpegiaadoor", sum := "fd7795af580cd8fef374a1e08a170d80edbac5924335f78c40aa3ce63019bf96", func := "sheafworks/sheafworkslaw06.RopeKnown", spec := "ropeKnown", unfollowed := true, recurses := true, named := ["sheafworks/rope.kinds"], apart := false, laid := [("sheafworks/rope.kinds", laid_sheafworks_rope_kinds)] }
def RopeKnownSaid : Prop := ropeKnownRow.holds Tryd.pinned (OpenSpec.ofChange ropeKnownSpec)

/-- ITS FALSE NEIGHBOUR: 'it returns false'. Refute it at one input. -/
def ropeKnownWrong : ChangeSpec := { name := "ropeKnown", fn := fun _ => fun
  | [] => { results := [.lit (.bool false)], args := [] }
  | _ => none }
def RopeKnownWrongFalsely : Prop := ropeKnownRow.holds Tryd.pinned (OpenSpec.ofChange ropeKnownWrong)

/- THE SECOND FORM. 'bulk': how many values and letters a reading holds, each counted each time it is reached (what is shared counts as often as it is met; a slice's spare places count too). A statement '..UptoSaid' is the law's where the arguments, and the package variables that the reading takes, are together of bulk at most 1048576: NARROWER than '..Said'. Prove '..Said' where nothing that the law and all that it calls make is longer than what came in: it says more and counts as full. Else prove '..UptoSaid'. A law counts once. -/
mutual
def uptoBulk {H : Type} : DataW H → Nat
  | .lit (.string bytes) => bytes.length + 1
  | .lit _ => 1
  | .nil => 1
  | .ptr d => uptoBulk d + 1
  | .slice elems spare => uptoBulkAll elems + uptoBulkAll spare + 1
  | .agg parts => uptoBulkAll parts + 1
  | .iface _ d => uptoBulk d + 1
  | .map entries => uptoBulkEntries entries + 1
  | .held _ => 1
def uptoBulkAll {H : Type} : List (DataW H) → Nat
  | [] => 0
  | d :: r => uptoBulk d + uptoBulkAll r
def uptoBulkEntries {H : Type} : List (Lit × DataW H) → Nat
  | [] => 0
  | x :: r => uptoBulkEntry x + uptoBulkEntries r
def uptoBulkEntry {H : Type} : Lit × DataW H → Nat
  | (.string bytes, d) => bytes.length + uptoBulk d + 1
  | (_, d) => uptoBulk d + 1
 end
def uptoSmall : (H : Type) → List (DataW H) → Bool := fun _ ds => decide (uptoBulkAll ds ≤ 1048576)
def OpenSpec.upto (s : _root_.Go.ChangeSpec) : _root_.Go.OpenSpec := { _root_.Go.OpenSpec.ofChange s with cond := some uptoSmall }

/-- 'sheafworkslaw06.RopeTells', WHERE WHAT IT READS IS OF BULK AT MOST 1048576: true; the input reads as it did. -/
def ropeTellsUptoRow : OpenClaim := { program := "ytcgjnkdcfpegiaadoor", sum := "fd7795af580cd8fef374a1e08a170d80edbac5924335f78c40aa3ce63019bf96", func := "sheafworks/sheafworkslaw06.RopeTells", spec := "ropeTells", unfollowed := true, recurses := true, named := ["sheafworks/rope.kinds"], apart := false, laid := [("sheafworks/rope.kinds", laid_sheafworks_rope_kinds)], narrowed := true }
def RopeTellsUptoSaid : Prop := ropeTellsUptoRow.holds Tryd.pinned (OpenSpec.upto ropeTellsSpec)

/-- 'sheafworkslaw06.RopeKeeps', WHERE WHAT IT READS IS OF BULK AT MOST 1048576: true; the input reads as it did. -/
def ropeKeepsUptoRow : OpenClaim := { program := "ytcgjnkdcfpegiaadoor", sum := "fd7795af580cd8fef374a1e08a170d80edbac5924335f78c40aa3ce63019bf96", func := "sheafworks/sheafworkslaw06.RopeKeeps", spec := "ropeKeeps", unfollowed := true, recurses := true, named := ["sheafworks/rope.kinds"], apart := false, laid := [("sheafworks/rope.kinds", laid_sheafworks_rope_kinds)], narrowed := true }
def RopeKeepsUptoSaid : Prop := ropeKeepsUptoRow.holds Tryd.pinned (OpenSpec.upto ropeKeepsSpec)

/-- 'sheafworkslaw06.RopeMakes', WHERE WHAT IT READS IS OF BULK AT MOST 1048576: true; the input reads as it did. -/
def ropeMakesUptoRow : OpenClaim := { program := "ytcgjnkdcfpegiaadoor", sum := "fd7795af580cd8fef374a1e08a170d80edbac5924335f78c40aa3ce63019bf96", func := "sheafworks/sheafworkslaw06.RopeMakes", spec := "ropeMakes", unfollowed := true, recurses := true, named := ["sheafworks/rope.kinds"], apart := false, laid := [("sheafworks/rope.kinds", laid_sheafworks_rope_kinds)], narrowed := true }
def RopeMakesUptoSaid : Prop := ropeMakesUptoRow.holds Tryd.pinned (OpenSpec.upto ropeMakesSpec)

/-- 'sheafworkslaw06.RopeHolds', WHERE WHAT IT READS IS OF BULK AT MOST 1048576: true; the input reads as it did. -/
def ropeHoldsUptoRow : OpenClaim := { program := "ytcgjnkdcfpegiaadoor", sum := "fd7795af580cd8fef374a1e08a170d80edbac5924335f78c40aa3ce63019bf96", func := "sheafworks/sheafworkslaw06.RopeHolds", spec := "ropeHolds", unfollowed := true, recurses := true, named := ["sheafworks/rope.kinds"], apart := false, laid := [("sheafworks/rope.kinds", laid_sheafworks_rope_kinds)], narrowed := true }
def RopeHoldsUptoSaid : Prop := ropeHoldsUptoRow.holds Tryd.pinned (OpenSpec.upto ropeHoldsSpec)

/-- 'sheafworkslaw06.RopeCosts', WHERE WHAT IT READS IS OF BULK AT MOST 1048576: true; the input reads as it did. -/
def ropeCostsUptoRow : OpenClaim := { program := "ytcgjnkdcfpegiaadoor", sum := "fd7795af580cd8fef374a1e08a170d80edbac5924335f78c40aa3ce63019bf96", func := "sheafworks/sheafworkslaw06.RopeCosts", spec := "ropeCosts", unfollowed := true, recurses := true, named := ["sheafworks/rope.kinds"], apart := false, laid := [("sheafworks/rope.kinds", laid_sheafworks_rope_kinds)], narrowed := true }
def RopeCostsUptoSaid : Prop := ropeCostsUptoRow.holds Tryd.pinned (OpenSpec.upto ropeCostsSpec)

/-- 'sheafworkslaw06.RopeEvened', WHERE WHAT IT READS IS OF BULK AT MOST 1048576: true; the input reads as it did. -/
def ropeEvenedUptoRow : OpenClaim := { program := "ytcgjnkdcfpegiaadoor", sum := "fd7795af580cd8fef374a1e08a170d80edbac5924335f78c40aa3ce63019bf96", func := "sheafworks/sheafworkslaw06.RopeEvened", spec := "ropeEvened", unfollowed := true, recurses := true, named := ["sheafworks/rope.kinds"], apart := false, laid := [("sheafworks/rope.kinds", laid_sheafworks_rope_kinds)], narrowed := true }
def RopeEvenedUptoSaid : Prop := ropeEvenedUptoRow.holds Tryd.pinned (OpenSpec.upto ropeEvenedSpec)

/-- 'sheafworkslaw06.RopeKept', WHERE WHAT IT READS IS OF BULK AT MOST 1048576: true; the input reads as it did. -/
def ropeKeptUptoRow : OpenClaim := { program := "ytcgjnkdcfpegiaadoor", sum := "fd7795af580cd8fef374a1e08a170d80edbac5924335f78c40aa3ce63019bf96", func := "sheafworks/sheafworkslaw06.RopeKept", spec := "ropeKept", unfollowed := true, recurses := true, named := ["sheafworks/rope.kinds"], apart := false, laid := [("sheafworks/rope.kinds", laid_sheafworks_rope_kinds)], narrowed := true }
def RopeKeptUptoSaid : Prop := ropeKeptUptoRow.holds Tryd.pinned (OpenSpec.upto ropeKeptSpec)

/-- 'sheafworkslaw06.RopeKnown', WHERE WHAT IT READS IS OF BULK AT MOST 1048576: true; the input reads as it did. -/
def ropeKnownUptoRow : OpenClaim := { program := "ytcgjnkdcfpegiaadoor", sum := "fd7795af580cd8fef374a1e08a170d80edbac5924335f78c40aa3ce63019bf96", func := "sheafworks/sheafworkslaw06.RopeKnown", spec := "ropeKnown", unfollowed := true, recurses := true, named := ["sheafworks/rope.kinds"], apart := false, laid := [("sheafworks/rope.kinds", laid_sheafworks_rope_kinds)], narrowed := true }
def RopeKnownUptoSaid : Prop := ropeKnownUptoRow.holds Tryd.pinned (OpenSpec.upto ropeKnownSpec)

end Rows
end Go.Proofs.YtcgjnkdcfpegiaaDoor
