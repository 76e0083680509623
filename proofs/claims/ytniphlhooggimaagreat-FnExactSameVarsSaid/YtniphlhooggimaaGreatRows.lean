/-
  No cell of these rows narrows 'for every input' (looked for: loops, veiled, ifaces, maps, wideKeys, modest, calm, conditions, laid).
  DERIVED. THE GIVEN ROWS OF THIS SEAT. 2 by the template 'for every input the law returns true; each argument reads behind the call as it read before'; 0 by the template 'total and deterministic' (their statements: YtniphlhooggimaaGreatTotals.lean).
  GIVEN WITH THE SEED: the statements are not yours to turn. If you find one false, say at which input.
  Laid BY PROGRAM, IN A SANDBOX (cutbox-rows.mjs): the forced cells as the released guide's own fill.sh prints them over the translation f083a6a3ea7b9a59… (all of the seat's roots in one cut). By AI agents, Wed Nov 11 2026. No macro, syntax, notation, axiom, sorry.
-/
import Derived.Test.YtniphlhooggimaaGreatChecked
import GoSem.Claim
import GoSem.ClaimJoined
import GoSem.ClaimMapViews
import Derived.JoinedTies
import Derived.KernelRfl
namespace Go.Proofs.YtniphlhooggimaaGreat
/- THE CELL 'sum', in the pinned program and in every row, IS THE sha256 OF THE DUMP (.gsa) THAT YtniphlhooggimaaGreatProg.lean LOADS. Nothing in Lean hashes anything: it is a label: what it is worth is what the hold of that sum in a sandbox is worth. -/
noncomputable def Tryz.pinned : Pinned := { name := "ytniphlhooggimaagreat", sum := "f083a6a3ea7b9a59c13a65e3a38e0e29599970105718694807f5198db2e75227", checked := Tryz.checked }
namespace Rows
def none {H : Type} : Left H := { results := [], args := [] }

/-- 'laws.FnExactSame': WHATEVER THE INPUT: true; the input reads as it did. -/
def fnExactSameSpec : ChangeSpec := { name := "fnExactSame", fn := fun _ => fun
  | [d1, d2, d3, d4] => { results := [.lit (.bool true)], args := [d1, d2, d3, d4] }
  | _ => none }
def fnExactSameRow : OpenClaim := { program := "ytniphlhooggimaagreat", sum := "f083a6a3ea7b9a59c13a65e3a38e0e29599970105718694807f5198db2e75227", func := "loop.example/g00081/laws.FnExactSame", spec := "fnExactSame", unfollowed := true, recurses := true, plainKeys := false, apart := false }
def FnExactSameSaid : Prop := fnExactSameRow.holds Tryz.pinned (OpenSpec.ofChange fnExactSameSpec)

/-- ITS FALSE NEIGHBOUR: 'it returns false'. Refute it at one input. -/
def fnExactSameWrong : ChangeSpec := { name := "fnExactSame", fn := fun _ => fun
  | [d1, d2, d3, d4] => { results := [.lit (.bool false)], args := [d1, d2, d3, d4] }
  | _ => none }
def FnExactSameWrongFalsely : Prop := fnExactSameRow.holds Tryz.pinned (OpenSpec.ofChange fnExactSameWrong)

/-- 'laws.FnExactSameVars': WHATEVER THE INPUT: true; the input reads as it did. -/
def fnExactSameVarsSpec : ChangeSpec := { name := "fnExactSameVars", fn := fun _ => fun
  | [d1, d2] => { results := [.lit (.bool true)], args := [d1, d2] }
  | _ => none }
def fnExactSameVarsRow : OpenClaim := { program := "ytniphlhooggimaagreat", sum := "f083a6a3ea7b9a59c13a65e3a38e0e29599970105718694807f5198db2e75227", func := "loop.example/g00081/laws.FnExactSameVars", spec := "fnExactSameVars", unfollowed := true, recurses := true, plainKeys := false, apart := false }
def FnExactSameVarsSaid : Prop := fnExactSameVarsRow.holds Tryz.pinned (OpenSpec.ofChange fnExactSameVarsSpec)

/-- ITS FALSE NEIGHBOUR: 'it returns false'. Refute it at one input. -/
def fnExactSameVarsWrong : ChangeSpec := { name := "fnExactSameVars", fn := fun _ => fun
  | [d1, d2] => { results := [.lit (.bool false)], args := [d1, d2] }
  | _ => none }
def FnExactSameVarsWrongFalsely : Prop := fnExactSameVarsRow.holds Tryz.pinned (OpenSpec.ofChange fnExactSameVarsWrong)

/- THE SECOND FORM. 'bulk': how many values and letters a reading holds, each counted each time it is reached (what is shared counts as often as it is met; a slice's spare places count too). A statement '..UptoSaid' is the law's where the arguments, and the package variables that the reading takes, are together of bulk at most 1048576: NARROWER than '..Said'. Prove '..Said' where nothing that the law and all that it calls make is longer than what came in: it says more and counts as full. Else prove '..UptoSaid'. A law counts once. -/
mutual
def uptoBulk {H : Type} : DataW H → Nat
  | .lit (.string bytes) => bytes.length + 1
  | .lit _ => 1
  | .nil => 1
  | .ptr d => uptoBulk d + 1
  | .slice elems spare => uptoBulkAll elems + uptoBulkAll spare + 1
  | .agg parts => uptoBulkAll parts + 1
  | .iface _ d => uptoBulk d + 1
  | .map entries => uptoBulkEntries entries + 1
  | .held _ => 1
def uptoBulkAll {H : Type} : List (DataW H) → Nat
  | [] => 0
  | d :: r => uptoBulk d + uptoBulkAll r
def uptoBulkEntries {H : Type} : List (Lit × DataW H) → Nat
  | [] => 0
  | x :: r => uptoBulkEntry x + uptoBulkEntries r
def uptoBulkEntry {H : Type} : Lit × DataW H → Nat
  | (.string bytes, d) => bytes.length + uptoBulk d + 1
  | (_, d) => uptoBulk d + 1
 end
def uptoSmall : (H : Type) → List (DataW H) → Bool := fun _ ds => decide (uptoBulkAll ds ≤ 1048576)
def OpenSpec.upto (s : _root_.Go.ChangeSpec) : _root_.Go.OpenSpec := { _root_.Go.OpenSpec.ofChange s with cond := some uptoSmall }

/-- 'laws.FnExactSame', WHERE WHAT IT READS IS OF BULK AT MOST 1048576: true; the input reads as it did. -/
def fnExactSameUptoRow : OpenClaim := { program := "ytniphlhooggimaagreat", sum := "f083a6a3ea7b9a59c13a65e3a38e0e29599970105718694807f5198db2e75227", func := "loop.example/g00081/laws.FnExactSame", spec := "fnExactSame", unfollowed := true, recurses := true, plainKeys := false, apart := false, narrowed := true }
def FnExactSameUptoSaid : Prop := fnExactSameUptoRow.holds Tryz.pinned (OpenSpec.upto fnExactSameSpec)

/-- 'laws.FnExactSameVars', WHERE WHAT IT READS IS OF BULK AT MOST 1048576: true; the input reads as it did. -/
def fnExactSameVarsUptoRow : OpenClaim := { program := "ytniphlhooggimaagreat", sum := "f083a6a3ea7b9a59c13a65e3a38e0e29599970105718694807f5198db2e75227", func := "loop.example/g00081/laws.FnExactSameVars", spec := "fnExactSameVars", unfollowed := true, recurses := true, plainKeys := false, apart := false, narrowed := true }
def FnExactSameVarsUptoSaid : Prop := fnExactSameVarsUptoRow.holds Tryz.pinned (OpenSpec.upto fnExactSameVarsSpec)

end Rows
end Go.Proofs.YtniphlhooggimaaGreat
