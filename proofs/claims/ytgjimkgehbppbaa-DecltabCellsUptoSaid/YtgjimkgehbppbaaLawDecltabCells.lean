/-
The law DecltabCells: a compiled table is valid and its adjacent cells differ, and the call returns true. The conditions: those of the row: what is read is of bulk at most 1048576.
-/
import Derived.Test.YtgjimkgehbppbaaAm1
import Derived.Test.YtgjimkgehbppbaaAm2
import Derived.Test.YtgjimkgehbppbaaDecltabCellsC1
import Derived.Test.YtgjimkgehbppbaaDecltabCellsC2
namespace Go.Proofs.Ytgjimkgehbppbaa.decltabCells
open Go Go.AM Go.Proofs.Ytgjimkgehbppbaa
set_option linter.unusedVariables false

theorem spec_fn (H : Type) (ds : List (DataW H)) (h : ds.length = Try.f12.params.toList.length) : Rows.decltabCellsSpec.fn H ds = { results := [.lit (.bool true)], args := ds } := by
  have h' : ds.length = 1 := h
  match ds, h' with
  | [d0], _ => rfl

set_option maxRecDepth 100000 in
theorem lifted (os : Os) (started : os.Started) (H : Type) (enc : TypeId × Value → H) (F : Stop.Interp) :
    ReturnsInHanded {} Try.checked os 12 .any ((Rows.OpenSpec.upto Rows.decltabCellsSpec).pre6 enc Try.prog Try.f12 Rows.decltabCellsUptoRow.domain false) (((Rows.OpenSpec.upto Rows.decltabCellsSpec).at F).post enc Try.prog Try.f12 false true false false) := by
  refine returnsInHanded_of_cond (C := Try.checked) (s := Rows.OpenSpec.upto Rows.decltabCellsSpec) (k := Rows.uptoSmall) rfl own started (by kernel_rfl) Try.func12
    (OpenSpec.witness (enc := enc) (C := Try.checked) (s := Rows.OpenSpec.upto Rows.decltabCellsSpec) (k := Rows.uptoSmall) rfl false ⟨#[], #[.agg #[.string ByteArray.empty,.int .i64 0,.int .i64 0,.slice none 0 0]], []⟩ 20 (by kernel_rfl) (by kernel_rfl) (by kernel_rfl)
      (x := ([.agg [.lit (.string []), .lit (.int .i64 0), .lit (.int .i64 0), .nil]], [], [])) (by kernel_rfl) rfl (by kernel_rfl)) ?_
  intro W base args ds gs before hval hW _ hk _
  exact row_calls (P := Try.prog) (f := 12) (fn := Try.f12) (c := Try.f12.body.getD .skip) (ss := [.row (.cons .str (.cons (.int .i64) (.cons (.int .i64) (.sl (.cons .str (.cons (.sl (.cons (.int .i64) (.cons (.int .i64) (.cons .str (.cons .bool (.sl (.cons (.int .i64) (.int .i64)))))))) (.cons .bool (.cons (.int .i64) (.cons (.int .i64) (.cons .str (.cons .bool (.sl (.cons (.int .i64) (.int .i64))))))))))))))]) (g := fun x => law36_DecltabCells x.1.1) con12 Try.func12 (by kernel_rfl) (by kernel_rfl) laidOut (by kernel_rfl) (by kernel_rfl) rfl Try.underlying4 (s := Rows.decltabCellsSpec) rfl spec_fn
    (fun x _ hb => DecltabCells_true x.1 (okDecl_bk x.1 (by simpa only [bkSs, bkS, Nat.add_zero] using hb))) W base args ds gs before hval hW (bulk_bound hk)

theorem over : Rows.decltabCellsUptoRow.holds Try.pinned (Rows.OpenSpec.upto Rows.decltabCellsSpec) :=
  OpenClaim.holds_of_cond 12 Try.f12 rfl rfl rfl rfl rfl rfl rfl ⟨rfl, rfl, rfl, rfl, rfl⟩ rfl rfl rfl rfl rfl (by kernel_rfl) Try.func12 (by kernel_rfl)
    (of_decide_eq_true (by kernel_rfl)) (by unfold Func.isWrapper; first | (rw [if_pos (by decide +kernel)]; kernel_rfl) | (rw [if_neg (by decide +kernel)]; exact ⟨rfl, rfl⟩))
    (fun os started H enc _ F => lifted os started H enc F)

theorem proved : Rows.DecltabCellsUptoSaid := over
#print axioms proved
end Go.Proofs.Ytgjimkgehbppbaa.decltabCells
namespace Go.Proofs.Ytgjimkgehbppbaa
theorem decltabCells_upto_holds : Rows.DecltabCellsUptoSaid := decltabCells.proved
end Go.Proofs.Ytgjimkgehbppbaa
