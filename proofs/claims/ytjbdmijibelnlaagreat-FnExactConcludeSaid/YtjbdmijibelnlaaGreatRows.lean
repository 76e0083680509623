/-
  No cell of these rows narrows 'for every input' (looked for: loops, veiled, ifaces, maps, wideKeys, modest, calm, conditions, laid).
  DERIVED. THE GIVEN ROWS OF THIS SEAT. 2 by the template 'for every input the law returns true; each argument reads behind the call as it read before'; 0 by the template 'total and deterministic' (their statements: YtjbdmijibelnlaaGreatTotals.lean).
  GIVEN WITH THE SEED: the statements are not yours to turn. If you find one false, say at which input.
  Laid BY PROGRAM, IN A SANDBOX (cutbox-rows.mjs): the forced cells as the released guide's own fill.sh prints them over the translation c715d77d87f4641f… (all of the seat's roots in one cut). By AI agents, Wed Nov 11 2026. No macro, syntax, notation, axiom, sorry.
-/
import Derived.Test.YtjbdmijibelnlaaGreatChecked
import GoSem.Claim
import GoSem.ClaimJoined
import GoSem.ClaimMapViews
import Derived.JoinedTies
import Derived.KernelRfl
namespace Go.Proofs.YtjbdmijibelnlaaGreat
/- THE CELL 'sum', in the pinned program and in every row, IS THE sha256 OF THE DUMP (.gsa) THAT YtjbdmijibelnlaaGreatProg.lean LOADS. Nothing in Lean hashes anything: it is a label: what it is worth is what the hold of that sum in a sandbox is worth. -/
noncomputable def Tryz.pinned : Pinned := { name := "ytjbdmijibelnlaagreat", sum := "c715d77d87f4641f9ba9886f32140d38110c6951b3a651285b832890c93717ac", checked := Tryz.checked }
namespace Rows
def none {H : Type} : Left H := { results := [], args := [] }

/-- 'laws.FnExactConclude': WHATEVER THE INPUT: true; the input reads as it did. -/
def fnExactConcludeSpec : ChangeSpec := { name := "fnExactConclude", fn := fun _ => fun
  | [d1, d2, d3] => { results := [.lit (.bool true)], args := [d1, d2, d3] }
  | _ => none }
def fnExactConcludeRow : OpenClaim := { program := "ytjbdmijibelnlaagreat", sum := "c715d77d87f4641f9ba9886f32140d38110c6951b3a651285b832890c93717ac", func := "loop.example/g00081/laws.FnExactConclude", spec := "fnExactConclude", unfollowed := true, recurses := true, apart := false }
def FnExactConcludeSaid : Prop := fnExactConcludeRow.holds Tryz.pinned (OpenSpec.ofChange fnExactConcludeSpec)

/-- ITS FALSE NEIGHBOUR: 'it returns false'. Refute it at one input. -/
def fnExactConcludeWrong : ChangeSpec := { name := "fnExactConclude", fn := fun _ => fun
  | [d1, d2, d3] => { results := [.lit (.bool false)], args := [d1, d2, d3] }
  | _ => none }
def FnExactConcludeWrongFalsely : Prop := fnExactConcludeRow.holds Tryz.pinned (OpenSpec.ofChange fnExactConcludeWrong)

/-- 'laws.FnExactBlastCheck': WHATEVER THE INPUT: true; the input reads as it did. -/
def fnExactBlastCheckSpec : ChangeSpec := { name := "fnExactBlastCheck", fn := fun _ => fun
  | [d1, d2, d3] => { results := [.lit (.bool true)], args := [d1, d2, d3] }
  | _ => none }
def fnExactBlastCheckRow : OpenClaim := { program := "ytjbdmijibelnlaagreat", sum := "c715d77d87f4641f9ba9886f32140d38110c6951b3a651285b832890c93717ac", func := "loop.example/g00081/laws.FnExactBlastCheck", spec := "fnExactBlastCheck", unfollowed := true, recurses := true, apart := false }
def FnExactBlastCheckSaid : Prop := fnExactBlastCheckRow.holds Tryz.pinned (OpenSpec.ofChange fnExactBlastCheckSpec)

/-- ITS FALSE NEIGHBOUR: 'it returns false'. Refute it at one input. -/
def fnExactBlastCheckWrong : ChangeSpec := { name := "fnExactBlastCheck", fn := fun _ => fun
  | [d1, d2, d3] => { results := [.lit (.bool false)], args := [d1, d2, d3] }
  | _ => none }
def FnExactBlastCheckWrongFalsely : Prop := fnExactBlastCheckRow.holds Tryz.pinned (OpenSpec.ofChange fnExactBlastCheckWrong)

/- THE SECOND FORM. 'bulk': how many values and letters a reading holds, each counted each time it is reached (what is shared counts as often as it is met; a slice's spare places count too). A statement '..UptoSaid' is the law's where the arguments, and the package variables that the reading takes, are together of bulk at most 1048576: NARROWER than '..Said'. Prove '..Said' where nothing that the law and all that it calls make is longer than what came in: it says more and counts as full. Else prove '..UptoSaid'. A law counts once. -/
mutual
def uptoBulk {H : Type} : DataW H → Nat
  | .lit (.string bytes) => bytes.length + 1
  | .lit _ => 1
  | .nil => 1
  | .ptr d => uptoBulk d + 1
  | .slice elems spare => uptoBulkAll elems + uptoBulkAll spare + 1
  | .agg parts => uptoBulkAll parts + 1
  | .iface _ d => uptoBulk d + 1
  | .map entries => uptoBulkEntries entries + 1
  | .held _ => 1
def uptoBulkAll {H : Type} : List (DataW H) → Nat
  | [] => 0
  | d :: r => uptoBulk d + uptoBulkAll r
def uptoBulkEntries {H : Type} : List (Lit × DataW H) → Nat
  | [] => 0
  | x :: r => uptoBulkEntry x + uptoBulkEntries r
def uptoBulkEntry {H : Type} : Lit × DataW H → Nat
  | (.string bytes, d) => bytes.length + uptoBulk d + 1
  | (_, d) => uptoBulk d + 1
 end
def uptoSmall : (H : Type) → List (DataW H) → Bool := fun _ ds => decide (uptoBulkAll ds ≤ 1048576)
def OpenSpec.upto (s : _root_.Go.ChangeSpec) : _root_.Go.OpenSpec := { _root_.Go.OpenSpec.ofChange s with cond := some uptoSmall }

/-- 'laws.FnExactConclude', WHERE WHAT IT READS IS OF BULK AT MOST 1048576: true; the input reads as it did. -/
def fnExactConcludeUptoRow : OpenClaim := { program := "ytjbdmijibelnlaagreat", sum := "c715d77d87f4641f9ba9886f32140d38110c6951b3a651285b832890c93717ac", func := "loop.example/g00081/laws.FnExactConclude", spec := "fnExactConclude", unfollowed := true, recurses := true, apart := false, narrowed := true }
def FnExactConcludeUptoSaid : Prop := fnExactConcludeUptoRow.holds Tryz.pinned (OpenSpec.upto fnExactConcludeSpec)

/-- 'laws.FnExactBlastCheck', WHERE WHAT IT READS IS OF BULK AT MOST 1048576: true; the input reads as it did. -/
def fnExactBlastCheckUptoRow : OpenClaim := { program := "ytjbdmijibelnlaagreat", sum := "c715d77d87f4641f9ba9886f32140d38110c6951b3a651285b832890c93717ac", func := "loop.example/g00081/laws.FnExactBlastCheck", spec := "fnExactBlastCheck", unfollowed := true, recurses := true, apart := false, narrowed := true }
def FnExactBlastCheckUptoSaid : Prop := fnExactBlastCheckUptoRow.holds Tryz.pinned (OpenSpec.upto fnExactBlastCheckSpec)

end Rows
end Go.Proofs.YtjbdmijibelnlaaGreat
