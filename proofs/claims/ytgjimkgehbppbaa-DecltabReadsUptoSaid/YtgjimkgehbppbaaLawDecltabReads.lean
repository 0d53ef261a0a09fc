/-
The law DecltabReads: any table has the error, the size and the cells of the reference, and the call returns true. The conditions: those of the row: what is read is of bulk at most 1048576.
-/
import Derived.Test.YtgjimkgehbppbaaAm1
import Derived.Test.YtgjimkgehbppbaaAm2
import Derived.Test.YtgjimkgehbppbaaDecltabReadsC1
import Derived.Test.YtgjimkgehbppbaaDecltabReadsC2
namespace Go.Proofs.Ytgjimkgehbppbaa.decltabReads
open Go Go.AM Go.Proofs.Ytgjimkgehbppbaa
set_option linter.unusedVariables false

theorem spec_fn (H : Type) (ds : List (DataW H)) (h : ds.length = Try.f10.params.toList.length) : Rows.decltabReadsSpec.fn H ds = { results := [.lit (.bool true)], args := ds } := by
  have h' : ds.length = 3 := h
  match ds, h' with
  | [d0, d1, d2], _ => rfl

set_option maxRecDepth 100000 in
theorem lifted (os : Os) (started : os.Started) (H : Type) (enc : TypeId × Value → H) (F : Stop.Interp) :
    ReturnsInHanded {} Try.checked os 10 .any ((Rows.OpenSpec.upto Rows.decltabReadsSpec).pre6 enc Try.prog Try.f10 Rows.decltabReadsUptoRow.domain false) (((Rows.OpenSpec.upto Rows.decltabReadsSpec).at F).post enc Try.prog Try.f10 false true false false) := by
  refine returnsInHanded_of_cond (C := Try.checked) (s := Rows.OpenSpec.upto Rows.decltabReadsSpec) (k := Rows.uptoSmall) rfl own started (by kernel_rfl) Try.func10
    (OpenSpec.witness (enc := enc) (C := Try.checked) (s := Rows.OpenSpec.upto Rows.decltabReadsSpec) (k := Rows.uptoSmall) rfl false ⟨#[], #[.agg #[.string ByteArray.empty,.int .i64 0,.int .i64 0,.slice none 0 0], .int .i64 0, .int .i64 0], []⟩ 20 (by kernel_rfl) (by kernel_rfl) (by kernel_rfl)
      (x := ([.agg [.lit (.string []), .lit (.int .i64 0), .lit (.int .i64 0), .nil], .lit (.int .i64 0), .lit (.int .i64 0)], [], [])) (by kernel_rfl) rfl (by kernel_rfl)) ?_
  intro W base args ds gs before hval hW _ hk _
  exact row_calls (P := Try.prog) (f := 10) (fn := Try.f10) (c := Try.f10.body.getD .skip) (ss := [.row (.cons .str (.cons (.int .i64) (.cons (.int .i64) (.sl (.sl (.cons (.int .i64) (.cons (.int .i64) (.cons (.int .i64) (.sl (.cons (.int .i64) (.int .i64))))))))))), .one (.int .i64), .one (.int .i64)]) (g := fun x => law36_DecltabReads x.1.1 x.1.2.1 x.1.2.2.1) con10 Try.func10 (by kernel_rfl) (by kernel_rfl) laidOut (by kernel_rfl) (by kernel_rfl) rfl Try.underlying4 (s := Rows.decltabReadsSpec) rfl spec_fn
    (fun x _ hb => DecltabReads_true x.1 x.2.1 x.2.2.1 (okTable_bk x.1 (by have h : bk kTable x.1 + (1 + (1 + 0)) ≤ 1048576 := hb; omega))) W base args ds gs before hval hW (bulk_bound hk)

theorem over : Rows.decltabReadsUptoRow.holds Try.pinned (Rows.OpenSpec.upto Rows.decltabReadsSpec) :=
  OpenClaim.holds_of_cond 10 Try.f10 rfl rfl rfl rfl rfl rfl rfl ⟨rfl, rfl, rfl, rfl, rfl⟩ rfl rfl rfl rfl rfl (by kernel_rfl) Try.func10 (by kernel_rfl)
    (of_decide_eq_true (by kernel_rfl)) (by unfold Func.isWrapper; first | (rw [if_pos (by decide +kernel)]; kernel_rfl) | (rw [if_neg (by decide +kernel)]; exact ⟨rfl, rfl⟩))
    (fun os started H enc _ F => lifted os started H enc F)

theorem proved : Rows.DecltabReadsUptoSaid := over
#print axioms proved
end Go.Proofs.Ytgjimkgehbppbaa.decltabReads
namespace Go.Proofs.Ytgjimkgehbppbaa
theorem decltabReads_upto_holds : Rows.DecltabReadsUptoSaid := decltabReads.proved
end Go.Proofs.Ytgjimkgehbppbaa
