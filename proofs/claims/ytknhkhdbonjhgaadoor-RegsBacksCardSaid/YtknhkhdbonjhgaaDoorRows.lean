/-
  NARROWER THAN 'FOR EVERY INPUT', by the rows' own cells (each row's printed sentence says how): RegsAllocs: loops, laid · RegsBacks: loops, laid · RegsFewest: laid · RegsMore: laid · RegsStored: laid · RegsLives: laid · RegsChecks: loops, laid · RegsSame: laid · RegsNames: laid · RegsKnown: laid.
  DERIVED. THE GIVEN ROWS OF THIS SEAT. 10 by the template 'for every input the law returns true; each argument reads behind the call as it read before'; 0 by the template 'total and deterministic' (their statements: YtknhkhdbonjhgaaDoorTotals.lean).
  GIVEN WITH THE SEED: the statements are not yours to turn. If you find one false, say at which input.
  Laid BY PROGRAM, IN A SANDBOX (cutbox-rows.mjs): the forced cells as the released guide's own fill.sh prints them over the translation 1bae5ec03749842a… (all of the seat's roots in one cut). By AI agents, Wed Nov 11 2026. No macro, syntax, notation, axiom, sorry.
-/
import Derived.Test.YtknhkhdbonjhgaaDoorChecked
import GoSem.Claim
import GoSem.ClaimJoined
import GoSem.ClaimMapViews
import Derived.JoinedTies
import Derived.KernelRfl
namespace Go.Proofs.YtknhkhdbonjhgaaDoor
/- THE CELL 'sum', in the pinned program and in every row, IS THE sha256 OF THE DUMP (.gsa) THAT YtknhkhdbonjhgaaDoorProg.lean LOADS. Nothing in Lean hashes anything: it is a label: what it is worth is what the hold of that sum in a sandbox is worth. -/
noncomputable def Tryd.pinned : Pinned := { name := "ytknhkhdbonjhgaadoor", sum := "1bae5ec03749842a6f674d50e9ac7e8bdb8353ae1e8dcac1bffaf785b1d4c815", checked := Tryd.checked }
namespace Rows
def none {H : Type} : Left H := { results := [], args := [] }

/- WHAT THE LISTED PACKAGE-LEVEL VARIABLES READ AS WHEN THE CALL BEGINS. Each datum BY PROGRAM (the guide's laid-datum.mjs) off the statement by which the dump's own 'gosem.cut.vars' lays the variable. In a bare row this is a premise. The card (YtknhkhdbonjhgaaDoorCards.lean) ties it to the program's text. -/
def laid_sheafworks_regs_never {H : Type} : DataW H := .agg [.lit (.int .i64 0), .lit (.int .i64 (-1))]
def laid_sheafworks_regs_nowhere {H : Type} : DataW H := .agg [.lit (.bool true), .lit (.int .i64 (-1))]

/-- 'sheafworkslaw23.RegsAllocs': WHATEVER THE INPUT: true; the input reads as it did. -/
def regsAllocsSpec : ChangeSpec := { name := "regsAllocs", fn := fun _ => fun
  | [d1, d2] => { results := [.lit (.bool true)], args := [d1, d2] }
  | _ => none }
def regsAllocsRow : OpenClaim := { program := "ytknhkhdbonjhgaadoor", sum := "1bae5ec03749842a6f674d50e9ac7e8bdb8353ae1e8dcac1bffaf785b1d4c815", func := "sheafworks/sheafworkslaw23.RegsAllocs", spec := "regsAllocs", unfollowed := true, recurses := true, named := ["sheafworks/regs.never", "sheafworks/regs.nowhere"], loops := true, plainKeys := false, apart := false, laid := [("sheafworks/regs.never", laid_sheafworks_regs_never), ("sheafworks/regs.nowhere", laid_sheafworks_regs_nowhere)] }
def RegsAllocsSaid : Prop := regsAllocsRow.holds Tryd.pinned (OpenSpec.ofChange regsAllocsSpec)

/-- ITS FALSE NEIGHBOUR: 'it returns false'. Refute it at one input. -/
def regsAllocsWrong : ChangeSpec := { name := "regsAllocs", fn := fun _ => fun
  | [d1, d2] => { results := [.lit (.bool false)], args := [d1, d2] }
  | _ => none }
def RegsAllocsWrongFalsely : Prop := regsAllocsRow.holds Tryd.pinned (OpenSpec.ofChange regsAllocsWrong)

/-- 'sheafworkslaw23.RegsBacks': WHATEVER THE INPUT: true; the input reads as it did. -/
def regsBacksSpec : ChangeSpec := { name := "regsBacks", fn := fun _ => fun
  | [d] => { results := [.lit (.bool true)], args := [d] }
  | _ => none }
def regsBacksRow : OpenClaim := { program := "ytknhkhdbonjhgaadoor", sum := "1bae5ec03749842a6f674d50e9ac7e8bdb8353ae1e8dcac1bffaf785b1d4c815", func := "sheafworks/sheafworkslaw23.RegsBacks", spec := "regsBacks", unfollowed := true, recurses := true, named := ["sheafworks/regs.never", "sheafworks/regs.nowhere"], loops := true, plainKeys := false, apart := false, laid := [("sheafworks/regs.never", laid_sheafworks_regs_never), ("sheafworks/regs.nowhere", laid_sheafworks_regs_nowhere)] }
def RegsBacksSaid : Prop := regsBacksRow.holds Tryd.pinned (OpenSpec.ofChange regsBacksSpec)

/-- ITS FALSE NEIGHBOUR: 'it returns false'. Refute it at one input. -/
def regsBacksWrong : ChangeSpec := { name := "regsBacks", fn := fun _ => fun
  | [d] => { results := [.lit (.bool false)], args := [d] }
  | _ => none }
def RegsBacksWrongFalsely : Prop := regsBacksRow.holds Tryd.pinned (OpenSpec.ofChange regsBacksWrong)

/-- 'sheafworkslaw23.RegsFewest': WHATEVER THE INPUT: true; the input reads as it did. -/
def regsFewestSpec : ChangeSpec := { name := "regsFewest", fn := fun _ => fun
  | [d1, d2] => { results := [.lit (.bool true)], args := [d1, d2] }
  | _ => none }
def regsFewestRow : OpenClaim := { program := "ytknhkhdbonjhgaadoor", sum := "1bae5ec03749842a6f674d50e9ac7e8bdb8353ae1e8dcac1bffaf785b1d4c815", func := "sheafworks/sheafworkslaw23.RegsFewest", spec := "regsFewest", unfollowed := true, recurses := true, named := ["sheafworks/regs.nowhere", "sheafworks/regs.never"], plainKeys := false, apart := false, laid := [("sheafworks/regs.never", laid_sheafworks_regs_never), ("sheafworks/regs.nowhere", laid_sheafworks_regs_nowhere)] }
def RegsFewestSaid : Prop := regsFewestRow.holds Tryd.pinned (OpenSpec.ofChange regsFewestSpec)

/-- ITS FALSE NEIGHBOUR: 'it returns false'. Refute it at one input. -/
def regsFewestWrong : ChangeSpec := { name := "regsFewest", fn := fun _ => fun
  | [d1, d2] => { results := [.lit (.bool false)], args := [d1, d2] }
  | _ => none }
def RegsFewestWrongFalsely : Prop := regsFewestRow.holds Tryd.pinned (OpenSpec.ofChange regsFewestWrong)

/-- 'sheafworkslaw23.RegsMore': WHATEVER THE INPUT: true; the input reads as it did. -/
def regsMoreSpec : ChangeSpec := { name := "regsMore", fn := fun _ => fun
  | [d1, d2] => { results := [.lit (.bool true)], args := [d1, d2] }
  | _ => none }
def regsMoreRow : OpenClaim := { program := "ytknhkhdbonjhgaadoor", sum := "1bae5ec03749842a6f674d50e9ac7e8bdb8353ae1e8dcac1bffaf785b1d4c815", func := "sheafworks/sheafworkslaw23.RegsMore", spec := "regsMore", unfollowed := true, recurses := true, named := ["sheafworks/regs.nowhere", "sheafworks/regs.never"], plainKeys := false, apart := false, laid := [("sheafworks/regs.never", laid_sheafworks_regs_never), ("sheafworks/regs.nowhere", laid_sheafworks_regs_nowhere)] }
def RegsMoreSaid : Prop := regsMoreRow.holds Tryd.pinned (OpenSpec.ofChange regsMoreSpec)

/-- ITS FALSE NEIGHBOUR: 'it returns false'. Refute it at one input. -/
def regsMoreWrong : ChangeSpec := { name := "regsMore", fn := fun _ => fun
  | [d1, d2] => { results := [.lit (.bool false)], args := [d1, d2] }
  | _ => none }
def RegsMoreWrongFalsely : Prop := regsMoreRow.holds Tryd.pinned (OpenSpec.ofChange regsMoreWrong)

/-- 'sheafworkslaw23.RegsStored': WHATEVER THE INPUT: true; the input reads as it did. -/
def regsStoredSpec : ChangeSpec := { name := "regsStored", fn := fun _ => fun
  | [d1, d2] => { results := [.lit (.bool true)], args := [d1, d2] }
  | _ => none }
def regsStoredRow : OpenClaim := { program := "ytknhkhdbonjhgaadoor", sum := "1bae5ec03749842a6f674d50e9ac7e8bdb8353ae1e8dcac1bffaf785b1d4c815", func := "sheafworks/sheafworkslaw23.RegsStored", spec := "regsStored", unfollowed := true, recurses := true, named := ["sheafworks/regs.nowhere", "sheafworks/regs.never"], plainKeys := false, apart := false, laid := [("sheafworks/regs.never", laid_sheafworks_regs_never), ("sheafworks/regs.nowhere", laid_sheafworks_regs_nowhere)] }
def RegsStoredSaid : Prop := regsStoredRow.holds Tryd.pinned (OpenSpec.ofChange regsStoredSpec)

/-- ITS FALSE NEIGHBOUR: 'it returns false'. Refute it at one input. -/
def regsStoredWrong : ChangeSpec := { name := "regsStored", fn := fun _ => fun
  | [d1, d2] => { results := [.lit (.bool false)], args := [d1, d2] }
  | _ => none }
def RegsStoredWrongFalsely : Prop := regsStoredRow.holds Tryd.pinned (OpenSpec.ofChange regsStoredWrong)

/-- 'sheafworkslaw23.RegsLives': WHATEVER THE INPUT: true; the input reads as it did. -/
def regsLivesSpec : ChangeSpec := { name := "regsLives", fn := fun _ => fun
  | [d] => { results := [.lit (.bool true)], args := [d] }
  | _ => none }
def regsLivesRow : OpenClaim := { program := "ytknhkhdbonjhgaadoor", sum := "1bae5ec03749842a6f674d50e9ac7e8bdb8353ae1e8dcac1bffaf785b1d4c815", func := "sheafworks/sheafworkslaw23.RegsLives", spec := "regsLives", unfollowed := true, recurses := true, named := ["sheafworks/regs.never", "sheafworks/regs.nowhere"], plainKeys := false, apart := false, laid := [("sheafworks/regs.never", laid_sheafworks_regs_never), ("sheafworks/regs.nowhere", laid_sheafworks_regs_nowhere)] }
def RegsLivesSaid : Prop := regsLivesRow.holds Tryd.pinned (OpenSpec.ofChange regsLivesSpec)

/-- ITS FALSE NEIGHBOUR: 'it returns false'. Refute it at one input. -/
def regsLivesWrong : ChangeSpec := { name := "regsLives", fn := fun _ => fun
  | [d] => { results := [.lit (.bool false)], args := [d] }
  | _ => none }
def RegsLivesWrongFalsely : Prop := regsLivesRow.holds Tryd.pinned (OpenSpec.ofChange regsLivesWrong)

/-- 'sheafworkslaw23.RegsChecks': WHATEVER THE INPUT: true; the input reads as it did. -/
def regsChecksSpec : ChangeSpec := { name := "regsChecks", fn := fun _ => fun
  | [d] => { results := [.lit (.bool true)], args := [d] }
  | _ => none }
def regsChecksRow : OpenClaim := { program := "ytknhkhdbonjhgaadoor", sum := "1bae5ec03749842a6f674d50e9ac7e8bdb8353ae1e8dcac1bffaf785b1d4c815", func := "sheafworks/sheafworkslaw23.RegsChecks", spec := "regsChecks", unfollowed := true, recurses := true, named := ["sheafworks/regs.never", "sheafworks/regs.nowhere"], loops := true, plainKeys := false, apart := false, laid := [("sheafworks/regs.never", laid_sheafworks_regs_never), ("sheafworks/regs.nowhere", laid_sheafworks_regs_nowhere)] }
def RegsChecksSaid : Prop := regsChecksRow.holds Tryd.pinned (OpenSpec.ofChange regsChecksSpec)

/-- ITS FALSE NEIGHBOUR: 'it returns false'. Refute it at one input. -/
def regsChecksWrong : ChangeSpec := { name := "regsChecks", fn := fun _ => fun
  | [d] => { results := [.lit (.bool false)], args := [d] }
  | _ => none }
def RegsChecksWrongFalsely : Prop := regsChecksRow.holds Tryd.pinned (OpenSpec.ofChange regsChecksWrong)

/-- 'sheafworkslaw23.RegsSame': WHATEVER THE INPUT: true; the input reads as it did. -/
def regsSameSpec : ChangeSpec := { name := "regsSame", fn := fun _ => fun
  | [d1, d2] => { results := [.lit (.bool true)], args := [d1, d2] }
  | _ => none }
def regsSameRow : OpenClaim := { program := "ytknhkhdbonjhgaadoor", sum := "1bae5ec03749842a6f674d50e9ac7e8bdb8353ae1e8dcac1bffaf785b1d4c815", func := "sheafworks/sheafworkslaw23.RegsSame", spec := "regsSame", unfollowed := true, recurses := true, named := ["sheafworks/regs.nowhere", "sheafworks/regs.never"], plainKeys := false, apart := false, laid := [("sheafworks/regs.never", laid_sheafworks_regs_never), ("sheafworks/regs.nowhere", laid_sheafworks_regs_nowhere)] }
def RegsSameSaid : Prop := regsSameRow.holds Tryd.pinned (OpenSpec.ofChange regsSameSpec)

/-- ITS FALSE NEIGHBOUR: 'it returns false'. Refute it at one input. -/
def regsSameWrong : ChangeSpec := { name := "regsSame", fn := fun _ => fun
  | [d1, d2] => { results := [.lit (.bool false)], args := [d1, d2] }
  | _ => none }
def RegsSameWrongFalsely : Prop := regsSameRow.holds Tryd.pinned (OpenSpec.ofChange regsSameWrong)

/-- 'sheafworkslaw23.RegsNames': WHATEVER THE INPUT: true; the input reads as it did. -/
def regsNamesSpec : ChangeSpec := { name := "regsNames", fn := fun _ => fun
  | [d1, d2] => { results := [.lit (.bool true)], args := [d1, d2] }
  | _ => none }
def regsNamesRow : OpenClaim := { program := "ytknhkhdbonjhgaadoor", sum := "1bae5ec03749842a6f674d50e9ac7e8bdb8353ae1e8dcac1bffaf785b1d4c815", func := "sheafworks/sheafworkslaw23.RegsNames", spec := "regsNames", unfollowed := true, recurses := true, named := ["sheafworks/regs.nowhere", "sheafworks/regs.never"], plainKeys := false, apart := false, laid := [("sheafworks/regs.never", laid_sheafworks_regs_never), ("sheafworks/regs.nowhere", laid_sheafworks_regs_nowhere)] }
def RegsNamesSaid : Prop := regsNamesRow.holds Tryd.pinned (OpenSpec.ofChange regsNamesSpec)

/-- ITS FALSE NEIGHBOUR: 'it returns false'. Refute it at one input. -/
def regsNamesWrong : ChangeSpec := { name := "regsNames", fn := fun _ => fun
  | [d1, d2] => { results := [.lit (.bool false)], args := [d1, d2] }
  | _ => none }
def RegsNamesWrongFalsely : Prop := regsNamesRow.holds Tryd.pinned (OpenSpec.ofChange regsNamesWrong)

/-- 'sheafworkslaw23.RegsKnown': WHATEVER THE INPUT: true; the input reads as it did. -/
def regsKnownSpec : ChangeSpec := { name := "regsKnown", fn := fun _ => fun
  | [] => { results := [.lit (.bool true)], args := [] }
  | _ => none }
def regsKnownRow : OpenClaim := { program := "ytknhkhdbonjhgaadoor", sum := "1bae5ec03749842a6f674d50e9ac7e8bdb8353ae1e8dcac1bffaf785b1d4c815", func := "sheafworks/sheafworkslaw23.RegsKnown", spec := "regsKnown", unfollowed := true, recurses := true, named := ["sheafworks/regs.never", "sheafworks/regs.nowhere"], plainKeys := false, apart := false, laid := [("sheafworks/regs.never", laid_sheafworks_regs_never), ("sheafworks/regs.nowhere", laid_sheafworks_regs_nowhere)] }
def RegsKnownSaid : Prop := regsKnownRow.holds Tryd.pinned (OpenSpec.ofChange regsKnownSpec)

/-- ITS FALSE NEIGHBOUR: 'it returns false'. Refute it at one input. -/
def regsKnownWrong : ChangeSpec := { name := "regsKnown", fn := fun _ => fun
  | [] => { results := [.lit (.bool false)], args := [] }
  | _ => none }
def RegsKnownWrongFalsely : Prop := regsKnownRow.holds Tryd.pinned (OpenSpec.ofChange regsKnownWrong)

/- THE SECOND FORM. 'bulk': how many values and letters a reading holds, each counted each time it is reached (what is shared counts as often as it is met; a slice's spare places count too). A statement '..UptoSaid' is the law's where the arguments, and the package variables that the reading takes, are together of bulk at most 1048576: NARROWER than '..Said'. Prove '..Said' where nothing that the law and all that it calls make is longer than what came in: it says more and counts as full. Else prove '..UptoSaid'. A law counts once. -/
mutual
def uptoBulk {H : Type} : DataW H → Nat
  | .lit (.string bytes) => bytes.length + 1
  | .lit _ => 1
  | .nil => 1
  | .ptr d => uptoBulk d + 1
  | .slice elems spare => uptoBulkAll elems + uptoBulkAll spare + 1
  | .agg parts => uptoBulkAll parts + 1
  | .iface _ d => uptoBulk d + 1
  | .map entries => uptoBulkEntries entries + 1
  | .held _ => 1
def uptoBulkAll {H : Type} : List (DataW H) → Nat
  | [] => 0
  | d :: r => uptoBulk d + uptoBulkAll r
def uptoBulkEntries {H : Type} : List (Lit × DataW H) → Nat
  | [] => 0
  | x :: r => uptoBulkEntry x + uptoBulkEntries r
def uptoBulkEntry {H : Type} : Lit × DataW H → Nat
  | (.string bytes, d) => bytes.length + uptoBulk d + 1
  | (_, d) => uptoBulk d + 1
 end
def uptoSmall : (H : Type) → List (DataW H) → Bool := fun _ ds => decide (uptoBulkAll ds ≤ 1048576)
def OpenSpec.upto (s : _root_.Go.ChangeSpec) : _root_.Go.OpenSpec := { _root_.Go.OpenSpec.ofChange s with cond := some uptoSmall }

/-- 'sheafworkslaw23.RegsAllocs', WHERE WHAT IT READS IS OF BULK AT MOST 1048576: true; the input reads as it did. -/
def regsAllocsUptoRow : OpenClaim := { program := "ytknhkhdbonjhgaadoor", sum := "1bae5ec03749842a6f674d50e9ac7e8bdb8353ae1e8dcac1bffaf785b1d4c815", func := "sheafworks/sheafworkslaw23.RegsAllocs", spec := "regsAllocs", unfollowed := true, recurses := true, named := ["sheafworks/regs.never", "sheafworks/regs.nowhere"], loops := true, plainKeys := false, apart := false, laid := [("sheafworks/regs.never", laid_sheafworks_regs_never), ("sheafworks/regs.nowhere", laid_sheafworks_regs_nowhere)], narrowed := true }
def RegsAllocsUptoSaid : Prop := regsAllocsUptoRow.holds Tryd.pinned (OpenSpec.upto regsAllocsSpec)

/-- 'sheafworkslaw23.RegsBacks', WHERE WHAT IT READS IS OF BULK AT MOST 1048576: true; the input reads as it did. -/
def regsBacksUptoRow : OpenClaim := { program := "ytknhkhdbonjhgaadoor", sum := "1bae5ec03749842a6f674d50e9ac7e8bdb8353ae1e8dcac1bffaf785b1d4c815", func := "sheafworks/sheafworkslaw23.RegsBacks", spec := "regsBacks", unfollowed := true, recurses := true, named := ["sheafworks/regs.never", "sheafworks/regs.nowhere"], loops := true, plainKeys := false, apart := false, laid := [("sheafworks/regs.never", laid_sheafworks_regs_never), ("sheafworks/regs.nowhere", laid_sheafworks_regs_nowhere)], narrowed := true }
def RegsBacksUptoSaid : Prop := regsBacksUptoRow.holds Tryd.pinned (OpenSpec.upto regsBacksSpec)

/-- 'sheafworkslaw23.RegsFewest', WHERE WHAT IT READS IS OF BULK AT MOST 1048576: true; the input reads as it did. -/
def regsFewestUptoRow : OpenClaim := { program := "ytknhkhdbonjhgaadoor", sum := "1bae5ec03749842a6f674d50e9ac7e8bdb8353ae1e8dcac1bffaf785b1d4c815", func := "sheafworks/sheafworkslaw23.RegsFewest", spec := "regsFewest", unfollowed := true, recurses := true, named := ["sheafworks/regs.nowhere", "sheafworks/regs.never"], plainKeys := false, apart := false, laid := [("sheafworks/regs.never", laid_sheafworks_regs_never), ("sheafworks/regs.nowhere", laid_sheafworks_regs_nowhere)], narrowed := true }
def RegsFewestUptoSaid : Prop := regsFewestUptoRow.holds Tryd.pinned (OpenSpec.upto regsFewestSpec)

/-- 'sheafworkslaw23.RegsMore', WHERE WHAT IT READS IS OF BULK AT MOST 1048576: true; the input reads as it did. -/
def regsMoreUptoRow : OpenClaim := { program := "ytknhkhdbonjhgaadoor", sum := "1bae5ec03749842a6f674d50e9ac7e8bdb8353ae1e8dcac1bffaf785b1d4c815", func := "sheafworks/sheafworkslaw23.RegsMore", spec := "regsMore", unfollowed := true, recurses := true, named := ["sheafworks/regs.nowhere", "sheafworks/regs.never"], plainKeys := false, apart := false, laid := [("sheafworks/regs.never", laid_sheafworks_regs_never), ("sheafworks/regs.nowhere", laid_sheafworks_regs_nowhere)], narrowed := true }
def RegsMoreUptoSaid : Prop := regsMoreUptoRow.holds Tryd.pinned (OpenSpec.upto regsMoreSpec)

/-- 'sheafworkslaw23.RegsStored', WHERE WHAT IT READS IS OF BULK AT MOST 1048576: true; the input reads as it did. -/
def regsStoredUptoRow : OpenClaim := { program := "ytknhkhdbonjhgaadoor", sum := "1bae5ec03749842a6f674d50e9ac7e8bdb8353ae1e8dcac1bffaf785b1d4c815", func := "sheafworks/sheafworkslaw23.RegsStored", spec := "regsStored", unfollowed := true, recurses := true, named := ["sheafworks/regs.nowhere", "sheafworks/regs.never"], plainKeys := false, apart := false, laid := [("sheafworks/regs.never", laid_sheafworks_regs_never), ("sheafworks/regs.nowhere", laid_sheafworks_regs_nowhere)], narrowed := true }
def RegsStoredUptoSaid : Prop := regsStoredUptoRow.holds Tryd.pinned (OpenSpec.upto regsStoredSpec)

/-- 'sheafworkslaw23.RegsLives', WHERE WHAT IT READS IS OF BULK AT MOST 1048576: true; the input reads as it did. -/
def regsLivesUptoRow : OpenClaim := { program := "ytknhkhdbonjhgaadoor", sum := "1bae5ec03749842a6f674d50e9ac7e8bdb8353ae1e8dcac1bffaf785b1d4c815", func := "sheafworks/sheafworkslaw23.RegsLives", spec := "regsLives", unfollowed := true, recurses := true, named := ["sheafworks/regs.never", "sheafworks/regs.nowhere"], plainKeys := false, apart := false, laid := [("sheafworks/regs.never", laid_sheafworks_regs_never), ("sheafworks/regs.nowhere", laid_sheafworks_regs_nowhere)], narrowed := true }
def RegsLivesUptoSaid : Prop := regsLivesUptoRow.holds Tryd.pinned (OpenSpec.upto regsLivesSpec)

/-- 'sheafworkslaw23.RegsChecks', WHERE WHAT IT READS IS OF BULK AT MOST 1048576: true; the input reads as it did. -/
def regsChecksUptoRow : OpenClaim := { program := "ytknhkhdbonjhgaadoor", sum := "1bae5ec03749842a6f674d50e9ac7e8bdb8353ae1e8dcac1bffaf785b1d4c815", func := "sheafworks/sheafworkslaw23.RegsChecks", spec := "regsChecks", unfollowed := true, recurses := true, named := ["sheafworks/regs.never", "sheafworks/regs.nowhere"], loops := true, plainKeys := false, apart := false, laid := [("sheafworks/regs.never", laid_sheafworks_regs_never), ("sheafworks/regs.nowhere", laid_sheafworks_regs_nowhere)], narrowed := true }
def RegsChecksUptoSaid : Prop := regsChecksUptoRow.holds Tryd.pinned (OpenSpec.upto regsChecksSpec)

/-- 'sheafworkslaw23.RegsSame', WHERE WHAT IT READS IS OF BULK AT MOST 1048576: true; the input reads as it did. -/
def regsSameUptoRow : OpenClaim := { program := "ytknhkhdbonjhgaadoor", sum := "1bae5ec03749842a6f674d50e9ac7e8bdb8353ae1e8dcac1bffaf785b1d4c815", func := "sheafworks/sheafworkslaw23.RegsSame", spec := "regsSame", unfollowed := true, recurses := true, named := ["sheafworks/regs.nowhere", "sheafworks/regs.never"], plainKeys := false, apart := false, laid := [("sheafworks/regs.never", laid_sheafworks_regs_never), ("sheafworks/regs.nowhere", laid_sheafworks_regs_nowhere)], narrowed := true }
def RegsSameUptoSaid : Prop := regsSameUptoRow.holds Tryd.pinned (OpenSpec.upto regsSameSpec)

/-- 'sheafworkslaw23.RegsNames', WHERE WHAT IT READS IS OF BULK AT MOST 1048576: true; the input reads as it did. -/
def regsNamesUptoRow : OpenClaim := { program := "ytknhkhdbonjhgaadoor", sum := "1bae5ec03749842a6f674d50e9ac7e8bdb8353ae1e8dcac1bffaf785b1d4c815", func := "sheafworks/sheafworkslaw23.RegsNames", spec := "regsNames", unfollowed := true, recurses := true, named := ["sheafworks/regs.nowhere", "sheafworks/regs.never"], plainKeys := false, apart := false, laid := [("sheafworks/regs.never", laid_sheafworks_regs_never), ("sheafworks/regs.nowhere", laid_sheafworks_regs_nowhere)], narrowed := true }
def RegsNamesUptoSaid : Prop := regsNamesUptoRow.holds Tryd.pinned (OpenSpec.upto regsNamesSpec)

/-- 'sheafworkslaw23.RegsKnown', WHERE WHAT IT READS IS OF BULK AT MOST 1048576: true; the input reads as it did. -/
def regsKnownUptoRow : OpenClaim := { program := "ytknhkhdbonjhgaadoor", sum := "1bae5ec03749842a6f674d50e9ac7e8bdb8353ae1e8dcac1bffaf785b1d4c815", func := "sheafworks/sheafworkslaw23.RegsKnown", spec := "regsKnown", unfollowed := true, recurses := true, named := ["sheafworks/regs.never", "sheafworks/regs.nowhere"], plainKeys := false, apart := false, laid := [("sheafworks/regs.never", laid_sheafworks_regs_never), ("sheafworks/regs.nowhere", laid_sheafworks_regs_nowhere)], narrowed := true }
def RegsKnownUptoSaid : Prop := regsKnownUptoRow.holds Tryd.pinned (OpenSpec.upto regsKnownSpec)

end Rows
end Go.Proofs.YtknhkhdbonjhgaaDoor
