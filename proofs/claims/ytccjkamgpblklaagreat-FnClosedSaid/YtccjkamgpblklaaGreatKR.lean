/- FnClosed holds: for all bytes the law's function returns true (drawn cuts that are closed for drawn literals hold all that were asked for, stay as they are, and are no fewer than with a literal left out), and the argument reads afterwards as it read before. Conditions: none beyond the statement's own. -/
import Derived.Test.YtccjkamgpblklaaGreatRows
import Derived.Test.YtccjkamgpblklaaGreatChecked
import Derived.Test.YtccjkamgpblklaaGreatK6
import Derived.Handed
import Derived.JoinedOf
namespace Go.Proofs.YtccjkamgpblklaaGreat
open Go Go.Va Go.Proofs.X Go.ChangeShapes Go.WideShapes Go.ChangeAt Go.RowKit
set_option maxRecDepth 100000
theorem own : ownKnob Tryz.prog.godebug = none := by kernel_rfl
theorem func3 : Tryz.prog.funcs[3]? = some Tryz.f3 := by kernel_rfl
theorem kids : Go.Kids Tryz.prog (· < Tryz.prog.types.size) := kids_rows (by kernel_rfl) (by kernel_rfl)
theorem full : ∀ t e, t < Tryz.prog.types.size → Tryz.prog.underlying t = some (.slice e) → 0 < Tryz.prog.cellsOf e := slices_full_of Tryz.prog (by kernel_rfl)
theorem lifted (os : Os) (started : os.Started) (H : Type) (enc : TypeId × Value → H) :
    ReturnsInHanded {} Tryz.checked os 3 .any (Rows.fnClosedSpec.pre6 enc Tryz.prog Tryz.f3 Rows.fnClosedRow.domain false) (Rows.fnClosedSpec.post enc Tryz.prog Tryz.f3 false true false false) := by
  refine returnsInHanded_of_change (C := Tryz.checked) own started (by kernel_rfl) func3
    (ChangeSpec.witness6 (enc := enc) (C := Tryz.checked) false ⟨#[], #[.slice none 0 0], []⟩ 8 (by kernel_rfl) (by kernel_rfl) (by kernel_rfl) (by kernel_rfl)) ?_
  intro W base args ds gs before hval hW _ _
  have hlen : ∃ d1, ds = [d1] := by
    obtain ⟨p, q, hA, _⟩ := id hW
    have hp : Tryz.f3.params.toList = [Tryz.f3.params[0]!] := by kernel_rfl
    have hA : DataW.TrodAll enc Tryz.prog W 0 (fun _ => true) true Tryz.f3.params.toList args.toList ds p := hA
    rw [hp] at hA
    obtain ⟨_, _, d1, _, _, _, _, rfl, _, _, r1⟩ := trodAll_cons hA
    obtain ⟨_, rfl, _⟩ := trodAll_nil r1
    exact ⟨d1, rfl⟩
  obtain ⟨d1, rfl⟩ := hlen
  exact law_contract laws_FnClosed_ok func3 (tys := [.sl (.int .u8)]) (by kernel_rfl) rfl (tb := 4) (by kernel_rfl) (by kernel_rfl) kids full (of_decide_eq_true (by kernel_rfl)) (fun h => by subst h; rfl) hval hW
    (fun xs h => by
      obtain ⟨x1, u⟩ := xs
      have := laws_FnClosed_run (AV × List Blk) x1 (fun v b => some (v, b))
      rw [law_ok x1 h.1] at this
      exact this)
theorem named : Tryz.checked.prog.funcNamed Rows.fnClosedRow.func = some 3 := by kernel_rfl
theorem facts : joinedFacts Tryz.checked.prog 3 Tryz.f3 Rows.fnClosedSpec Rows.fnClosedRow = true := by kernel_rfl
theorem inst : Tryz.f3.isInstance Tryz.checked.prog Rows.fnClosedRow.origin Rows.fnClosedRow.targs := of_decide_eq_true (by kernel_rfl)
theorem wrapper : Tryz.f3.isWrapper Tryz.checked.prog Rows.fnClosedRow.wrapper Rows.fnClosedRow.mainSum := by unfold Func.isWrapper; first | (rw [if_pos (by decide +kernel)]; kernel_rfl) | (rw [if_neg (by decide +kernel)]; exact ⟨rfl, rfl⟩)
theorem closed : Rows.FnClosedSaid :=
  OpenClaim.holds_of_wide 3 Tryz.f3 rfl rfl rfl rfl rfl rfl rfl ⟨rfl, rfl, rfl, rfl, rfl⟩ rfl rfl rfl rfl rfl named func3 facts
    inst wrapper (fun os started H enc _ => lifted os started H enc)
#print axioms closed
end Go.Proofs.YtccjkamgpblklaaGreat
