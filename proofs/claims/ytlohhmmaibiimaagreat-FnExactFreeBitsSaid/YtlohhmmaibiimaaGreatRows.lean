/-
  No cell of these rows narrows 'for every input' (looked for: loops, veiled, ifaces, maps, wideKeys, modest, calm, conditions, laid).
  DERIVED. THE GIVEN ROWS OF THIS SEAT. 5 by the template 'for every input the law returns true; each argument reads behind the call as it read before'; 0 by the template 'total and deterministic' (their statements: YtlohhmmaibiimaaGreatTotals.lean).
  GIVEN WITH THE SEED: the statements are not yours to turn. If you find one false, say at which input.
  Laid BY PROGRAM, IN A SANDBOX (cutbox-rows.mjs): the forced cells as the released guide's own fill.sh prints them over the translation 6684eaff54359190… (all of the seat's roots in one cut). By AI agents, Wed Nov 11 2026. No macro, syntax, notation, axiom, sorry.
-/
import Derived.Test.YtlohhmmaibiimaaGreatChecked
import GoSem.Claim
import GoSem.ClaimJoined
import GoSem.ClaimMapViews
import Derived.JoinedTies
import Derived.KernelRfl
namespace Go.Proofs.YtlohhmmaibiimaaGreat
/- THE CELL 'sum', in the pinned program and in every row, IS THE sha256 OF THE DUMP (.gsa) THAT YtlohhmmaibiimaaGreatProg.lean LOADS. Nothing in Lean hashes anything: it is a label: what it is worth is what the hold of that sum in a sandbox is worth. -/
noncomputable def Tryz.pinned : Pinned := { name := "ytlohhmmaibiimaagreat", sum := "6684eaff54359190e63456e2d9be8bc0fd185adcdc8a7ba60c2d94d787e2230a", checked := Tryz.checked }
namespace Rows
def none {H : Type} : Left H := { results := [], args := [] }

/-- 'laws.FnExactBlastCheck': WHATEVER THE INPUT: true; the input reads as it did. -/
def fnExactBlastCheckSpec : ChangeSpec := { name := "fnExactBlastCheck", fn := fun _ => fun
  | [d1, d2, d3] => { results := [.lit (.bool true)], args := [d1, d2, d3] }
  | _ => none }
def fnExactBlastCheckRow : OpenClaim := { program := "ytlohhmmaibiimaagreat", sum := "6684eaff54359190e63456e2d9be8bc0fd185adcdc8a7ba60c2d94d787e2230a", func := "loop.example/g00081/laws.FnExactBlastCheck", spec := "fnExactBlastCheck", unfollowed := true, recurses := true, plainKeys := false, apart := false }
def FnExactBlastCheckSaid : Prop := fnExactBlastCheckRow.holds Tryz.pinned (OpenSpec.ofChange fnExactBlastCheckSpec)

/-- ITS FALSE NEIGHBOUR: 'it returns false'. Refute it at one input. -/
def fnExactBlastCheckWrong : ChangeSpec := { name := "fnExactBlastCheck", fn := fun _ => fun
  | [d1, d2, d3] => { results := [.lit (.bool false)], args := [d1, d2, d3] }
  | _ => none }
def FnExactBlastCheckWrongFalsely : Prop := fnExactBlastCheckRow.holds Tryz.pinned (OpenSpec.ofChange fnExactBlastCheckWrong)

/-- 'laws.FnExactPiecesOf': WHATEVER THE INPUT: true; the input reads as it did. -/
def fnExactPiecesOfSpec : ChangeSpec := { name := "fnExactPiecesOf", fn := fun _ => fun
  | [d1, d2, d3] => { results := [.lit (.bool true)], args := [d1, d2, d3] }
  | _ => none }
def fnExactPiecesOfRow : OpenClaim := { program := "ytlohhmmaibiimaagreat", sum := "6684eaff54359190e63456e2d9be8bc0fd185adcdc8a7ba60c2d94d787e2230a", func := "loop.example/g00081/laws.FnExactPiecesOf", spec := "fnExactPiecesOf", unfollowed := true, recurses := true, plainKeys := false, apart := false }
def FnExactPiecesOfSaid : Prop := fnExactPiecesOfRow.holds Tryz.pinned (OpenSpec.ofChange fnExactPiecesOfSpec)

/-- ITS FALSE NEIGHBOUR: 'it returns false'. Refute it at one input. -/
def fnExactPiecesOfWrong : ChangeSpec := { name := "fnExactPiecesOf", fn := fun _ => fun
  | [d1, d2, d3] => { results := [.lit (.bool false)], args := [d1, d2, d3] }
  | _ => none }
def FnExactPiecesOfWrongFalsely : Prop := fnExactPiecesOfRow.holds Tryz.pinned (OpenSpec.ofChange fnExactPiecesOfWrong)

/-- 'laws.FnExactFreeBits': WHATEVER THE INPUT: true; the input reads as it did. -/
def fnExactFreeBitsSpec : ChangeSpec := { name := "fnExactFreeBits", fn := fun _ => fun
  | [d1, d2] => { results := [.lit (.bool true)], args := [d1, d2] }
  | _ => none }
def fnExactFreeBitsRow : OpenClaim := { program := "ytlohhmmaibiimaagreat", sum := "6684eaff54359190e63456e2d9be8bc0fd185adcdc8a7ba60c2d94d787e2230a", func := "loop.example/g00081/laws.FnExactFreeBits", spec := "fnExactFreeBits", unfollowed := true, recurses := true, plainKeys := false, apart := false }
def FnExactFreeBitsSaid : Prop := fnExactFreeBitsRow.holds Tryz.pinned (OpenSpec.ofChange fnExactFreeBitsSpec)

/-- ITS FALSE NEIGHBOUR: 'it returns false'. Refute it at one input. -/
def fnExactFreeBitsWrong : ChangeSpec := { name := "fnExactFreeBits", fn := fun _ => fun
  | [d1, d2] => { results := [.lit (.bool false)], args := [d1, d2] }
  | _ => none }
def FnExactFreeBitsWrongFalsely : Prop := fnExactFreeBitsRow.holds Tryz.pinned (OpenSpec.ofChange fnExactFreeBitsWrong)

/-- 'laws.FnExactClassesOf': WHATEVER THE INPUT: true; the input reads as it did. -/
def fnExactClassesOfSpec : ChangeSpec := { name := "fnExactClassesOf", fn := fun _ => fun
  | [d1, d2, d3] => { results := [.lit (.bool true)], args := [d1, d2, d3] }
  | _ => none }
def fnExactClassesOfRow : OpenClaim := { program := "ytlohhmmaibiimaagreat", sum := "6684eaff54359190e63456e2d9be8bc0fd185adcdc8a7ba60c2d94d787e2230a", func := "loop.example/g00081/laws.FnExactClassesOf", spec := "fnExactClassesOf", unfollowed := true, recurses := true, plainKeys := false, apart := false }
def FnExactClassesOfSaid : Prop := fnExactClassesOfRow.holds Tryz.pinned (OpenSpec.ofChange fnExactClassesOfSpec)

/-- ITS FALSE NEIGHBOUR: 'it returns false'. Refute it at one input. -/
def fnExactClassesOfWrong : ChangeSpec := { name := "fnExactClassesOf", fn := fun _ => fun
  | [d1, d2, d3] => { results := [.lit (.bool false)], args := [d1, d2, d3] }
  | _ => none }
def FnExactClassesOfWrongFalsely : Prop := fnExactClassesOfRow.holds Tryz.pinned (OpenSpec.ofChange fnExactClassesOfWrong)

/-- 'laws.FnExactForced': WHATEVER THE INPUT: true; the input reads as it did. -/
def fnExactForcedSpec : ChangeSpec := { name := "fnExactForced", fn := fun _ => fun
  | [d1, d2, d3] => { results := [.lit (.bool true)], args := [d1, d2, d3] }
  | _ => none }
def fnExactForcedRow : OpenClaim := { program := "ytlohhmmaibiimaagreat", sum := "6684eaff54359190e63456e2d9be8bc0fd185adcdc8a7ba60c2d94d787e2230a", func := "loop.example/g00081/laws.FnExactForced", spec := "fnExactForced", unfollowed := true, recurses := true, plainKeys := false, apart := false }
def FnExactForcedSaid : Prop := fnExactForcedRow.holds Tryz.pinned (OpenSpec.ofChange fnExactForcedSpec)

/-- ITS FALSE NEIGHBOUR: 'it returns false'. Refute it at one input. -/
def fnExactForcedWrong : ChangeSpec := { name := "fnExactForced", fn := fun _ => fun
  | [d1, d2, d3] => { results := [.lit (.bool false)], args := [d1, d2, d3] }
  | _ => none }
def FnExactForcedWrongFalsely : Prop := fnExactForcedRow.holds Tryz.pinned (OpenSpec.ofChange fnExactForcedWrong)

/- THE SECOND FORM. 'bulk': how many values and letters a reading holds, each counted each time it is reached (what is shared counts as often as it is met; a slice's spare places count too). A statement '..UptoSaid' is the law's where the arguments, and the package variables that the reading takes, are together of bulk at most 1048576: NARROWER than '..Said'. Prove '..Said' where nothing that the law and all that it calls make is longer than what came in: it says more and counts as full. Else prove '..UptoSaid'. A law counts once. -/
mutual
def uptoBulk {H : Type} : DataW H → Nat
  | .lit (.string bytes) => bytes.length + 1
  | .lit _ => 1
  | .nil => 1
  | .ptr d => uptoBulk d + 1
  | .slice elems spare => uptoBulkAll elems + uptoBulkAll spare + 1
  | .agg parts => uptoBulkAll parts + 1
  | .iface _ d => uptoBulk d + 1
  | .map entries => uptoBulkEntries entries + 1
  | .held _ => 1
def uptoBulkAll {H : Type} : List (DataW H) → Nat
  | [] => 0
  | d :: r => uptoBulk d + uptoBulkAll r
def uptoBulkEntries {H : Type} : List (Lit × DataW H) → Nat
  | [] => 0
  | x :: r => uptoBulkEntry x + uptoBulkEntries r
def uptoBulkEntry {H : Type} : Lit × DataW H → Nat
  | (.string bytes, d) => bytes.length + uptoBulk d + 1
  | (_, d) => uptoBulk d + 1
 end
def uptoSmall : (H : Type) → List (DataW H) → Bool := fun _ ds => decide (uptoBulkAll ds ≤ 1048576)
def OpenSpec.upto (s : _root_.Go.ChangeSpec) : _root_.Go.OpenSpec := { _root_.Go.OpenSpec.ofChange s with cond := some uptoSmall }

/-- 'laws.FnExactBlastCheck', WHERE WHAT IT READS IS OF BULK AT MOST 1048576: true; the input reads as it did. -/
def fnExactBlastCheckUptoRow : OpenClaim := { program := "ytlohhmmaibiimaagreat", sum := "6684eaff54359190e63456e2d9be8bc0fd185adcdc8a7ba60c2d94d787e2230a", func := "loop.example/g00081/laws.FnExactBlastCheck", spec := "fnExactBlastCheck", unfollowed := true, recurses := true, plainKeys := false, apart := false, narrowed := true }
def FnExactBlastCheckUptoSaid : Prop := fnExactBlastCheckUptoRow.holds Tryz.pinned (OpenSpec.upto fnExactBlastCheckSpec)

/-- 'laws.FnExactPiecesOf', WHERE WHAT IT READS IS OF BULK AT MOST 1048576: true; the input reads as it did. -/
def fnExactPiecesOfUptoRow : OpenClaim := { program := "ytlohhmmaibiimaagreat", sum := "6684eaff54359190e63456e2d9be8bc0fd185adcdc8a7ba60c2d94d787e2230a", func := "loop.example/g00081/laws.FnExactPiecesOf", spec := "fnExactPiecesOf", unfollowed := true, recurses := true, plainKeys := false, apart := false, narrowed := true }
def FnExactPiecesOfUptoSaid : Prop := fnExactPiecesOfUptoRow.holds Tryz.pinned (OpenSpec.upto fnExactPiecesOfSpec)

/-- 'laws.FnExactFreeBits', WHERE WHAT IT READS IS OF BULK AT MOST 1048576: true; the input reads as it did. -/
def fnExactFreeBitsUptoRow : OpenClaim := { program := "ytlohhmmaibiimaagreat", sum := "6684eaff54359190e63456e2d9be8bc0fd185adcdc8a7ba60c2d94d787e2230a", func := "loop.example/g00081/laws.FnExactFreeBits", spec := "fnExactFreeBits", unfollowed := true, recurses := true, plainKeys := false, apart := false, narrowed := true }
def FnExactFreeBitsUptoSaid : Prop := fnExactFreeBitsUptoRow.holds Tryz.pinned (OpenSpec.upto fnExactFreeBitsSpec)

/-- 'laws.FnExactClassesOf', WHERE WHAT IT READS IS OF BULK AT MOST 1048576: true; the input reads as it did. -/
def fnExactClassesOfUptoRow : OpenClaim := { program := "ytlohhmmaibiimaagreat", sum := "6684eaff54359190e63456e2d9be8bc0fd185adcdc8a7ba60c2d94d787e2230a", func := "loop.example/g00081/laws.FnExactClassesOf", spec := "fnExactClassesOf", unfollowed := true, recurses := true, plainKeys := false, apart := false, narrowed := true }
def FnExactClassesOfUptoSaid : Prop := fnExactClassesOfUptoRow.holds Tryz.pinned (OpenSpec.upto fnExactClassesOfSpec)

/-- 'laws.FnExactForced', WHERE WHAT IT READS IS OF BULK AT MOST 1048576: true; the input reads as it did. -/
def fnExactForcedUptoRow : OpenClaim := { program := "ytlohhmmaibiimaagreat", sum := "6684eaff54359190e63456e2d9be8bc0fd185adcdc8a7ba60c2d94d787e2230a", func := "loop.example/g00081/laws.FnExactForced", spec := "fnExactForced", unfollowed := true, recurses := true, plainKeys := false, apart := false, narrowed := true }
def FnExactForcedUptoSaid : Prop := fnExactForcedUptoRow.holds Tryz.pinned (OpenSpec.upto fnExactForcedSpec)

end Rows
end Go.Proofs.YtlohhmmaibiimaaGreat
