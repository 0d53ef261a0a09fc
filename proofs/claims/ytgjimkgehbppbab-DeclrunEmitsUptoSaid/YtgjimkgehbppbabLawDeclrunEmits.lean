/-
For every declaration and every list of events the statement about what is emitted answers true. The conditions: those of the row: what is read is of bulk at most 1048576.
-/
import Derived.Test.YtgjimkgehbppbabAm1
import Derived.Test.YtgjimkgehbppbabAm2
import Derived.Test.YtgjimkgehbppbabAm3
import Derived.Test.YtgjimkgehbppbabDeclrunEmitsC1
import Derived.Test.YtgjimkgehbppbabDeclrunEmitsC2
namespace Go.Proofs.Ytgjimkgehbppbab.declrunEmits
open Go Go.AM Go.Proofs.Ytgjimkgehbppbab
set_option linter.unusedVariables false

theorem spec_fn (H : Type) (ds : List (DataW H)) (h : ds.length = Try.f4.params.toList.length) : Rows.declrunEmitsSpec.fn H ds = { results := [.lit (.bool true)], args := ds } := by
  have h' : ds.length = 2 := h
  match ds, h' with
  | [d0, d1], _ => rfl

set_option maxRecDepth 100000 in
theorem lifted (os : Os) (started : os.Started) (H : Type) (enc : TypeId × Value → H) (F : Stop.Interp) :
    ReturnsInHanded {} Try.checked os 4 .any ((Rows.OpenSpec.upto Rows.declrunEmitsSpec).pre6 enc Try.prog Try.f4 Rows.declrunEmitsUptoRow.domain false) (((Rows.OpenSpec.upto Rows.declrunEmitsSpec).at F).post enc Try.prog Try.f4 false true false false) := by
  refine returnsInHanded_of_cond (C := Try.checked) (s := Rows.OpenSpec.upto Rows.declrunEmitsSpec) (k := Rows.uptoSmall) rfl own started (by kernel_rfl) Try.func4
    (OpenSpec.witness (enc := enc) (C := Try.checked) (s := Rows.OpenSpec.upto Rows.declrunEmitsSpec) (k := Rows.uptoSmall) rfl false ⟨#[], #[.agg #[.string ByteArray.empty,.int .i64 0,.int .i64 0,.slice none 0 0], .slice none 0 0], []⟩ 20 (by kernel_rfl) (by kernel_rfl) (by kernel_rfl)
      (x := ([.agg [.lit (.string []), .lit (.int .i64 0), .lit (.int .i64 0), .nil], .nil], [], [])) (by kernel_rfl) rfl (by kernel_rfl)) ?_
  intro W base args ds gs before hval hW _ hk _
  exact row_calls (P := Try.prog) (f := 4) (fn := Try.f4) (c := Try.f4.body.getD .skip) (ss := [.row (.cons .str (.cons (.int .i64) (.cons (.int .i64) (.sl (.cons .str (.cons (.sl (.cons (.int .i64) (.cons (.int .i64) (.cons .str (.cons .bool (.sl (.cons (.int .i64) (.int .i64)))))))) (.cons .bool (.cons (.int .i64) (.cons (.int .i64) (.cons .str (.cons .bool (.sl (.cons (.int .i64) (.int .i64)))))))))))))), .one (.sl (.cons (.int .i64) (.cons (.int .i64) (.cons (.int .i64) (.cons (.int .i64) (.cons (.int .i64) (.cons .str (.int .i64))))))))]) (g := fun x => law37_DeclrunEmits x.1.1 x.1.2.1) con4 Try.func4 (by kernel_rfl) (by kernel_rfl) laidOut (by kernel_rfl) (by kernel_rfl) rfl Try.underlying4 (s := Rows.declrunEmitsSpec) rfl spec_fn
    (fun x _ hb => DeclrunEmits_true x.1 x.2.1 (okDecl_bk x.1 (by have h : bk kDecl x.1 + _ ≤ 1048576 := hb; omega))) W noZone_met base args ds gs before hval hW (bulk_bound hk)

theorem over : Rows.declrunEmitsUptoRow.holds Try.pinned (Rows.OpenSpec.upto Rows.declrunEmitsSpec) :=
  OpenClaim.holds_of_cond 4 Try.f4 rfl rfl rfl rfl rfl rfl rfl ⟨rfl, rfl, rfl, rfl, rfl⟩ rfl rfl rfl rfl rfl (by kernel_rfl) Try.func4 (by kernel_rfl)
    (of_decide_eq_true (by kernel_rfl)) (by unfold Func.isWrapper; first | (rw [if_pos (by decide +kernel)]; kernel_rfl) | (rw [if_neg (by decide +kernel)]; exact ⟨rfl, rfl⟩))
    (fun os started H enc _ F => lifted os started H enc F)

theorem proved : Rows.DeclrunEmitsUptoSaid := over
#print axioms proved
end Go.Proofs.Ytgjimkgehbppbab.declrunEmits
namespace Go.Proofs.Ytgjimkgehbppbab
theorem declrunEmits_upto_holds : Rows.DeclrunEmitsUptoSaid := declrunEmits.proved
end Go.Proofs.Ytgjimkgehbppbab
