/-
The law DeclcheckOrder: the rules of a state may be in any order, and the call returns true. The conditions: those of the row: what is read is of bulk at most 1048576.
-/
import Derived.Test.YtgjimkgehbppbaaAm1
import Derived.Test.YtgjimkgehbppbaaAm2
import Derived.Test.YtgjimkgehbppbaaDeclcheckOrderC1
import Derived.Test.YtgjimkgehbppbaaDeclcheckOrderC2
namespace Go.Proofs.Ytgjimkgehbppbaa.declcheckOrder
open Go Go.AM Go.Proofs.Ytgjimkgehbppbaa
set_option linter.unusedVariables false

theorem spec_fn (H : Type) (ds : List (DataW H)) (h : ds.length = Try.f7.params.toList.length) : Rows.declcheckOrderSpec.fn H ds = { results := [.lit (.bool true)], args := ds } := by
  have h' : ds.length = 2 := h
  match ds, h' with
  | [d0, d1], _ => rfl

set_option maxRecDepth 100000 in
theorem lifted (os : Os) (started : os.Started) (H : Type) (enc : TypeId × Value → H) (F : Stop.Interp) :
    ReturnsInHanded {} Try.checked os 7 .any ((Rows.OpenSpec.upto Rows.declcheckOrderSpec).pre6 enc Try.prog Try.f7 Rows.declcheckOrderUptoRow.domain false) (((Rows.OpenSpec.upto Rows.declcheckOrderSpec).at F).post enc Try.prog Try.f7 false true false false) := by
  refine returnsInHanded_of_cond (C := Try.checked) (s := Rows.OpenSpec.upto Rows.declcheckOrderSpec) (k := Rows.uptoSmall) rfl own started (by kernel_rfl) Try.func7
    (OpenSpec.witness (enc := enc) (C := Try.checked) (s := Rows.OpenSpec.upto Rows.declcheckOrderSpec) (k := Rows.uptoSmall) rfl false ⟨#[], #[.agg #[.string ByteArray.empty,.int .i64 0,.int .i64 0,.slice none 0 0], .int .i64 0], []⟩ 20 (by kernel_rfl) (by kernel_rfl) (by kernel_rfl)
      (x := ([.agg [.lit (.string []), .lit (.int .i64 0), .lit (.int .i64 0), .nil], .lit (.int .i64 0)], [], [])) (by kernel_rfl) rfl (by kernel_rfl)) ?_
  intro W base args ds gs before hval hW _ hk _
  exact row_calls (P := Try.prog) (f := 7) (fn := Try.f7) (c := Try.f7.body.getD .skip) (ss := [.row (.cons .str (.cons (.int .i64) (.cons (.int .i64) (.sl (.cons .str (.cons (.sl (.cons (.int .i64) (.cons (.int .i64) (.cons .str (.cons .bool (.sl (.cons (.int .i64) (.int .i64)))))))) (.cons .bool (.cons (.int .i64) (.cons (.int .i64) (.cons .str (.cons .bool (.sl (.cons (.int .i64) (.int .i64)))))))))))))), .one (.int .i64)]) (g := fun x => law35_DeclcheckOrder x.1.1 x.1.2.1) con7 Try.func7 (by kernel_rfl) (by kernel_rfl) laidOut (by kernel_rfl) (by kernel_rfl) rfl Try.underlying4 (s := Rows.declcheckOrderSpec) rfl spec_fn
    (fun x _ hb => DeclcheckOrder_true x.1 x.2.1 (okDecl_bk x.1 (by have h : bk kDecl x.1 + (1 + 0) ≤ 1048576 := hb; omega))) W base args ds gs before hval hW (bulk_bound hk)

theorem over : Rows.declcheckOrderUptoRow.holds Try.pinned (Rows.OpenSpec.upto Rows.declcheckOrderSpec) :=
  OpenClaim.holds_of_cond 7 Try.f7 rfl rfl rfl rfl rfl rfl rfl ⟨rfl, rfl, rfl, rfl, rfl⟩ rfl rfl rfl rfl rfl (by kernel_rfl) Try.func7 (by kernel_rfl)
    (of_decide_eq_true (by kernel_rfl)) (by unfold Func.isWrapper; first | (rw [if_pos (by decide +kernel)]; kernel_rfl) | (rw [if_neg (by decide +kernel)]; exact ⟨rfl, rfl⟩))
    (fun os started H enc _ F => lifted os started H enc F)

theorem proved : Rows.DeclcheckOrderUptoSaid := over
#print axioms proved
end Go.Proofs.Ytgjimkgehbppbaa.declcheckOrder
namespace Go.Proofs.Ytgjimkgehbppbaa
theorem declcheckOrder_upto_holds : Rows.DeclcheckOrderUptoSaid := declcheckOrder.proved
end Go.Proofs.Ytgjimkgehbppbaa
