/-
For every table and every list of events the statement of decoding by a table answers true. The conditions: those of the row: what is read is of bulk at most 1048576.
-/
import Derived.Test.YtgjimkgehbppbabAm1
import Derived.Test.YtgjimkgehbppbabAm2
import Derived.Test.YtgjimkgehbppbabAm3
import Derived.Test.YtgjimkgehbppbabDeclrunDecodesC1
import Derived.Test.YtgjimkgehbppbabDeclrunDecodesC2
namespace Go.Proofs.Ytgjimkgehbppbab.declrunDecodes
open Go Go.AM Go.Proofs.Ytgjimkgehbppbab
set_option linter.unusedVariables false

theorem spec_fn (H : Type) (ds : List (DataW H)) (h : ds.length = Try.f6.params.toList.length) : Rows.declrunDecodesSpec.fn H ds = { results := [.lit (.bool true)], args := ds } := by
  have h' : ds.length = 2 := h
  match ds, h' with
  | [d0, d1], _ => rfl

set_option maxRecDepth 100000 in
theorem lifted (os : Os) (started : os.Started) (H : Type) (enc : TypeId × Value → H) (F : Stop.Interp) :
    ReturnsInHanded {} Try.checked os 6 .any ((Rows.OpenSpec.upto Rows.declrunDecodesSpec).pre6 enc Try.prog Try.f6 Rows.declrunDecodesUptoRow.domain false) (((Rows.OpenSpec.upto Rows.declrunDecodesSpec).at F).post enc Try.prog Try.f6 false true false false) := by
  refine returnsInHanded_of_cond (C := Try.checked) (s := Rows.OpenSpec.upto Rows.declrunDecodesSpec) (k := Rows.uptoSmall) rfl own started (by kernel_rfl) Try.func6
    (OpenSpec.witness (enc := enc) (C := Try.checked) (s := Rows.OpenSpec.upto Rows.declrunDecodesSpec) (k := Rows.uptoSmall) rfl false ⟨#[], #[.agg #[.string ByteArray.empty,.int .i64 0,.int .i64 0,.slice none 0 0], .slice none 0 0], []⟩ 20 (by kernel_rfl) (by kernel_rfl) (by kernel_rfl)
      (x := ([.agg [.lit (.string []), .lit (.int .i64 0), .lit (.int .i64 0), .nil], .nil], [], [])) (by kernel_rfl) rfl (by kernel_rfl)) ?_
  intro W base args ds gs before hval hW _ hk _
  exact row_calls (P := Try.prog) (f := 6) (fn := Try.f6) (c := Try.f6.body.getD .skip) (ss := [.row (.cons .str (.cons (.int .i64) (.cons (.int .i64) (.sl (.sl (.cons (.int .i64) (.cons (.int .i64) (.cons (.int .i64) (.sl (.cons (.int .i64) (.int .i64))))))))))), .one (.sl (.cons (.int .i64) (.cons (.int .i64) (.cons (.int .i64) (.cons (.int .i64) (.cons (.int .i64) (.cons .str (.int .i64))))))))]) (g := fun x => law37_DeclrunDecodes x.1.1 x.1.2.1) con6 Try.func6 (by kernel_rfl) (by kernel_rfl) laidOut (by kernel_rfl) (by kernel_rfl) rfl Try.underlying4 (s := Rows.declrunDecodesSpec) rfl spec_fn
    (fun x _ hb => DeclrunDecodes_true x.1 x.2.1 (okTable_bk x.1 (by have h : bk kTable x.1 + _ ≤ 1048576 := hb; omega))) W noZone_met base args ds gs before hval hW (bulk_bound hk)

theorem over : Rows.declrunDecodesUptoRow.holds Try.pinned (Rows.OpenSpec.upto Rows.declrunDecodesSpec) :=
  OpenClaim.holds_of_cond 6 Try.f6 rfl rfl rfl rfl rfl rfl rfl ⟨rfl, rfl, rfl, rfl, rfl⟩ rfl rfl rfl rfl rfl (by kernel_rfl) Try.func6 (by kernel_rfl)
    (of_decide_eq_true (by kernel_rfl)) (by unfold Func.isWrapper; first | (rw [if_pos (by decide +kernel)]; kernel_rfl) | (rw [if_neg (by decide +kernel)]; exact ⟨rfl, rfl⟩))
    (fun os started H enc _ F => lifted os started H enc F)

theorem proved : Rows.DeclrunDecodesUptoSaid := over
#print axioms proved
end Go.Proofs.Ytgjimkgehbppbab.declrunDecodes
namespace Go.Proofs.Ytgjimkgehbppbab
theorem declrunDecodes_upto_holds : Rows.DeclrunDecodesUptoSaid := declrunDecodes.proved
end Go.Proofs.Ytgjimkgehbppbab
