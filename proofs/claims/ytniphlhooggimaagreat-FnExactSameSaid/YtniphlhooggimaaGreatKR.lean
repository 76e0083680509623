/- FnExactSame holds: for all arguments the law's function returns true (the program's Same answers as the reference), and each argument reads afterwards as it read before. Conditions: none beyond the statement's own. -/
import Derived.Test.YtniphlhooggimaaGreatRows
import Derived.Test.YtniphlhooggimaaGreatChecked
import Derived.Test.YtniphlhooggimaaGreatK8
import Derived.Handed
import Derived.JoinedOf
namespace Go.Proofs.YtniphlhooggimaaGreat
open Go Go.Va Go.Proofs.X Go.ChangeShapes Go.WideShapes Go.ChangeAt Go.RowKit
set_option maxRecDepth 100000
theorem own : ownKnob Tryz.prog.godebug = none := by kernel_rfl
theorem func3 : Tryz.prog.funcs[3]? = some Tryz.f3 := by kernel_rfl
theorem kids : Go.Kids Tryz.prog (· < Tryz.prog.types.size) := kids_rows (by kernel_rfl) (by kernel_rfl)
theorem full : ∀ t e, t < Tryz.prog.types.size → Tryz.prog.underlying t = some (.slice e) → 0 < Tryz.prog.cellsOf e := slices_full_of Tryz.prog (by kernel_rfl)
theorem lifted (os : Os) (started : os.Started) (H : Type) (enc : TypeId × Value → H) :
    ReturnsInHanded {} Tryz.checked os 3 .any (Rows.fnExactSameSpec.pre6 enc Tryz.prog Tryz.f3 Rows.fnExactSameRow.domain false) (Rows.fnExactSameSpec.post enc Tryz.prog Tryz.f3 false true false false) := by
  refine returnsInHanded_of_change (C := Tryz.checked) own started (by kernel_rfl) func3
    (ChangeSpec.witness6 (enc := enc) (C := Tryz.checked) false ⟨#[], #[.slice none 0 0, .slice none 0 0, .agg #[.slice none 0 0], .agg #[.slice none 0 0]], []⟩ 8 (by kernel_rfl) (by kernel_rfl) (by kernel_rfl) (by kernel_rfl)) ?_
  intro W base args ds gs before hval hW _ _
  have hlen : ∃ d1 d2 d3 d4, ds = [d1, d2, d3, d4] := by
    obtain ⟨p, q, hA, _⟩ := id hW
    have hp : Tryz.f3.params.toList = [Tryz.f3.params[0]!, Tryz.f3.params[1]!, Tryz.f3.params[2]!, Tryz.f3.params[3]!] := by kernel_rfl
    have hA : DataW.TrodAll enc Tryz.prog W 0 (fun _ => true) true Tryz.f3.params.toList args.toList ds p := hA
    rw [hp] at hA
    obtain ⟨_, _, d1, _, _, _, _, rfl, _, _, r1⟩ := trodAll_cons hA
    obtain ⟨_, _, d2, _, _, _, _, rfl, _, _, r2⟩ := trodAll_cons r1
    obtain ⟨_, _, d3, _, _, _, _, rfl, _, _, r3⟩ := trodAll_cons r2
    obtain ⟨_, _, d4, _, _, _, _, rfl, _, _, r4⟩ := trodAll_cons r3
    obtain ⟨_, rfl, _⟩ := trodAll_nil r4
    exact ⟨d1, d2, d3, d4, rfl⟩
  obtain ⟨d1, d2, d3, d4, rfl⟩ := hlen
  exact law_contract laws_FnExactSame_ok func3 (tys := [.sl Tlaws_Decl, .sl Tlaws_Literal, Tlaws_Term, Tlaws_Term]) (by kernel_rfl) rfl (tb := 4) (by kernel_rfl) (by kernel_rfl) kids full (of_decide_eq_true (by kernel_rfl)) (fun h => by subst h; rfl) hval hW
    (fun xs h => by
      obtain ⟨x1, x2, x3, x4, u⟩ := xs
      have := laws_FnExactSame_run (AV × List Blk) x1 x2 x3 x4 (fun v b => some (v, b))
      rw [law_ok x1 x2 x3 x4 h.1 h.2.1 h.2.2.1 h.2.2.2.1] at this
      exact this)
theorem named : Tryz.checked.prog.funcNamed Rows.fnExactSameRow.func = some 3 := by kernel_rfl
theorem facts : joinedFacts Tryz.checked.prog 3 Tryz.f3 Rows.fnExactSameSpec Rows.fnExactSameRow = true := by kernel_rfl
theorem inst : Tryz.f3.isInstance Tryz.checked.prog Rows.fnExactSameRow.origin Rows.fnExactSameRow.targs := of_decide_eq_true (by kernel_rfl)
theorem wrapper : Tryz.f3.isWrapper Tryz.checked.prog Rows.fnExactSameRow.wrapper Rows.fnExactSameRow.mainSum := by unfold Func.isWrapper; first | (rw [if_pos (by decide +kernel)]; kernel_rfl) | (rw [if_neg (by decide +kernel)]; exact ⟨rfl, rfl⟩)
theorem same : Rows.FnExactSameSaid :=
  OpenClaim.holds_of_wide 3 Tryz.f3 rfl rfl rfl rfl rfl rfl rfl ⟨rfl, rfl, rfl, rfl, rfl⟩ rfl rfl rfl rfl rfl named func3 facts
    inst wrapper (fun os started H enc _ => lifted os started H enc)
#print axioms same
end Go.Proofs.YtniphlhooggimaaGreat
