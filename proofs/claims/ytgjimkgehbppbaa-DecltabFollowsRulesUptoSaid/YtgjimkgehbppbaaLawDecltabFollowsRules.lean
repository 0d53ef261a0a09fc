/-
The law DecltabFollowsRules: a compiled table leads where the rules lead, and the call returns true. The conditions: those of the row: what is read is of bulk at most 1048576.
-/
import Derived.Test.YtgjimkgehbppbaaAm1
import Derived.Test.YtgjimkgehbppbaaAm2
import Derived.Test.YtgjimkgehbppbaaDecltabFollowsRulesC1
import Derived.Test.YtgjimkgehbppbaaDecltabFollowsRulesC2
namespace Go.Proofs.Ytgjimkgehbppbaa.decltabFollowsRules
open Go Go.AM Go.Proofs.Ytgjimkgehbppbaa
set_option linter.unusedVariables false

theorem spec_fn (H : Type) (ds : List (DataW H)) (h : ds.length = Try.f11.params.toList.length) : Rows.decltabFollowsRulesSpec.fn H ds = { results := [.lit (.bool true)], args := ds } := by
  have h' : ds.length = 3 := h
  match ds, h' with
  | [d0, d1, d2], _ => rfl

set_option maxRecDepth 100000 in
theorem lifted (os : Os) (started : os.Started) (H : Type) (enc : TypeId × Value → H) (F : Stop.Interp) :
    ReturnsInHanded {} Try.checked os 11 .any ((Rows.OpenSpec.upto Rows.decltabFollowsRulesSpec).pre6 enc Try.prog Try.f11 Rows.decltabFollowsRulesUptoRow.domain false) (((Rows.OpenSpec.upto Rows.decltabFollowsRulesSpec).at F).post enc Try.prog Try.f11 false true false false) := by
  refine returnsInHanded_of_cond (C := Try.checked) (s := Rows.OpenSpec.upto Rows.decltabFollowsRulesSpec) (k := Rows.uptoSmall) rfl own started (by kernel_rfl) Try.func11
    (OpenSpec.witness (enc := enc) (C := Try.checked) (s := Rows.OpenSpec.upto Rows.decltabFollowsRulesSpec) (k := Rows.uptoSmall) rfl false ⟨#[], #[.agg #[.string ByteArray.empty,.int .i64 0,.int .i64 0,.slice none 0 0], .int .i64 0, .int .i64 0], []⟩ 20 (by kernel_rfl) (by kernel_rfl) (by kernel_rfl)
      (x := ([.agg [.lit (.string []), .lit (.int .i64 0), .lit (.int .i64 0), .nil], .lit (.int .i64 0), .lit (.int .i64 0)], [], [])) (by kernel_rfl) rfl (by kernel_rfl)) ?_
  intro W base args ds gs before hval hW _ hk _
  exact row_calls (P := Try.prog) (f := 11) (fn := Try.f11) (c := Try.f11.body.getD .skip) (ss := [.row (.cons .str (.cons (.int .i64) (.cons (.int .i64) (.sl (.cons .str (.cons (.sl (.cons (.int .i64) (.cons (.int .i64) (.cons .str (.cons .bool (.sl (.cons (.int .i64) (.int .i64)))))))) (.cons .bool (.cons (.int .i64) (.cons (.int .i64) (.cons .str (.cons .bool (.sl (.cons (.int .i64) (.int .i64)))))))))))))), .one (.int .i64), .one (.int .i64)]) (g := fun x => law36_DecltabFollowsRules x.1.1 x.1.2.1 x.1.2.2.1) con11 Try.func11 (by kernel_rfl) (by kernel_rfl) laidOut (by kernel_rfl) (by kernel_rfl) rfl Try.underlying4 (s := Rows.decltabFollowsRulesSpec) rfl spec_fn
    (fun x _ hb => DecltabFollowsRules_true x.1 x.2.1 x.2.2.1 (okDecl_bk x.1 (by have h : bk kDecl x.1 + (1 + (1 + 0)) ≤ 1048576 := hb; omega))) W base args ds gs before hval hW (bulk_bound hk)

theorem over : Rows.decltabFollowsRulesUptoRow.holds Try.pinned (Rows.OpenSpec.upto Rows.decltabFollowsRulesSpec) :=
  OpenClaim.holds_of_cond 11 Try.f11 rfl rfl rfl rfl rfl rfl rfl ⟨rfl, rfl, rfl, rfl, rfl⟩ rfl rfl rfl rfl rfl (by kernel_rfl) Try.func11 (by kernel_rfl)
    (of_decide_eq_true (by kernel_rfl)) (by unfold Func.isWrapper; first | (rw [if_pos (by decide +kernel)]; kernel_rfl) | (rw [if_neg (by decide +kernel)]; exact ⟨rfl, rfl⟩))
    (fun os started H enc _ F => lifted os started H enc F)

theorem proved : Rows.DecltabFollowsRulesUptoSaid := over
#print axioms proved
end Go.Proofs.Ytgjimkgehbppbaa.decltabFollowsRules
namespace Go.Proofs.Ytgjimkgehbppbaa
theorem decltabFollowsRules_upto_holds : Rows.DecltabFollowsRulesUptoSaid := decltabFollowsRules.proved
end Go.Proofs.Ytgjimkgehbppbaa
