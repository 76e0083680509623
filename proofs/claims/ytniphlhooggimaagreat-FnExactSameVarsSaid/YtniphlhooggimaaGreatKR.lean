/- FnExactSameVars holds: for all arguments the law's function returns true (the program's SameVars answers as the reference), and each argument reads afterwards as it read before. Conditions: none beyond the statement's own. -/
import Derived.Test.YtniphlhooggimaaGreatRows
import Derived.Test.YtniphlhooggimaaGreatChecked
import Derived.Test.YtniphlhooggimaaGreatK8
import Derived.Handed
import Derived.JoinedOf
namespace Go.Proofs.YtniphlhooggimaaGreat
open Go Go.Va Go.Proofs.X Go.ChangeShapes Go.WideShapes Go.ChangeAt Go.RowKit
set_option maxRecDepth 100000
theorem own : ownKnob Tryz.prog.godebug = none := by kernel_rfl
theorem func4 : Tryz.prog.funcs[4]? = some Tryz.f4 := by kernel_rfl
theorem kids : Go.Kids Tryz.prog (· < Tryz.prog.types.size) := kids_rows (by kernel_rfl) (by kernel_rfl)
theorem full : ∀ t e, t < Tryz.prog.types.size → Tryz.prog.underlying t = some (.slice e) → 0 < Tryz.prog.cellsOf e := slices_full_of Tryz.prog (by kernel_rfl)
theorem lifted (os : Os) (started : os.Started) (H : Type) (enc : TypeId × Value → H) :
    ReturnsInHanded {} Tryz.checked os 4 .any (Rows.fnExactSameVarsSpec.pre6 enc Tryz.prog Tryz.f4 Rows.fnExactSameVarsRow.domain false) (Rows.fnExactSameVarsSpec.post enc Tryz.prog Tryz.f4 false true false false) := by
  refine returnsInHanded_of_change (C := Tryz.checked) own started (by kernel_rfl) func4
    (ChangeSpec.witness6 (enc := enc) (C := Tryz.checked) false ⟨#[], #[.slice none 0 0, .slice none 0 0], []⟩ 8 (by kernel_rfl) (by kernel_rfl) (by kernel_rfl) (by kernel_rfl)) ?_
  intro W base args ds gs before hval hW _ _
  have hlen : ∃ d1 d2, ds = [d1, d2] := by
    obtain ⟨p, q, hA, _⟩ := id hW
    have hp : Tryz.f4.params.toList = [Tryz.f4.params[0]!, Tryz.f4.params[1]!] := by kernel_rfl
    have hA : DataW.TrodAll enc Tryz.prog W 0 (fun _ => true) true Tryz.f4.params.toList args.toList ds p := hA
    rw [hp] at hA
    obtain ⟨_, _, d1, _, _, _, _, rfl, _, _, r1⟩ := trodAll_cons hA
    obtain ⟨_, _, d2, _, _, _, _, rfl, _, _, r2⟩ := trodAll_cons r1
    obtain ⟨_, rfl, _⟩ := trodAll_nil r2
    exact ⟨d1, d2, rfl⟩
  obtain ⟨d1, d2, rfl⟩ := hlen
  exact law_contract laws_FnExactSameVars_ok func4 (tys := [.sl Tlaws_Decl, .sl Tlaws_Literal]) (by kernel_rfl) rfl (tb := 4) (by kernel_rfl) (by kernel_rfl) kids full (of_decide_eq_true (by kernel_rfl)) (fun h => by subst h; rfl) hval hW
    (fun xs h => by
      obtain ⟨x1, x2, u⟩ := xs
      have := laws_FnExactSameVars_run (AV × List Blk) x1 x2 (fun v b => some (v, b))
      rw [law_ok x1 x2 h.1 h.2.1] at this
      exact this)
theorem named : Tryz.checked.prog.funcNamed Rows.fnExactSameVarsRow.func = some 4 := by kernel_rfl
theorem facts : joinedFacts Tryz.checked.prog 4 Tryz.f4 Rows.fnExactSameVarsSpec Rows.fnExactSameVarsRow = true := by kernel_rfl
theorem inst : Tryz.f4.isInstance Tryz.checked.prog Rows.fnExactSameVarsRow.origin Rows.fnExactSameVarsRow.targs := of_decide_eq_true (by kernel_rfl)
theorem wrapper : Tryz.f4.isWrapper Tryz.checked.prog Rows.fnExactSameVarsRow.wrapper Rows.fnExactSameVarsRow.mainSum := by unfold Func.isWrapper; first | (rw [if_pos (by decide +kernel)]; kernel_rfl) | (rw [if_neg (by decide +kernel)]; exact ⟨rfl, rfl⟩)
theorem sameVars : Rows.FnExactSameVarsSaid :=
  OpenClaim.holds_of_wide 4 Tryz.f4 rfl rfl rfl rfl rfl rfl rfl ⟨rfl, rfl, rfl, rfl, rfl⟩ rfl rfl rfl rfl rfl named func4 facts
    inst wrapper (fun os started H enc _ => lifted os started H enc)
#print axioms sameVars
end Go.Proofs.YtniphlhooggimaaGreat
