/-
The law LexUnquotes: for every string the contents that the program finds in it as a quoted string, or its error, are those of the reference, and the call returns true. The conditions: those of the row: what is read is of bulk at most 1048576.
-/
import Derived.Test.YtcflnhimlidbcaaAm1
import Derived.Test.YtcflnhimlidbcaaAm2
import Derived.Test.YtcflnhimlidbcaaLexUnquotesC1
namespace Go.Proofs.Ytcflnhimlidbcaa.lexUnquotes
open Go Go.AM Go.Proofs.Ytcflnhimlidbcaa
set_option linter.unusedVariables false

theorem spec_fn (H : Type) (ds : List (DataW H)) (h : ds.length = Try.f5.params.toList.length) : Rows.lexUnquotesSpec.fn H ds = { results := [.lit (.bool true)], args := ds } := by
  have h' : ds.length = 1 := h
  match ds, h' with
  | [d0], _ => rfl

set_option maxRecDepth 100000 in
theorem lifted (os : Os) (started : os.Started) (H : Type) (enc : TypeId × Value → H) (F : Stop.Interp) :
    ReturnsInHanded {} Try.checked os 5 .any ((Rows.OpenSpec.upto Rows.lexUnquotesSpec).pre6 enc Try.prog Try.f5 Rows.lexUnquotesUptoRow.domain false) (((Rows.OpenSpec.upto Rows.lexUnquotesSpec).at F).post enc Try.prog Try.f5 false true false false) := by
  refine returnsInHanded_of_cond (C := Try.checked) (s := Rows.OpenSpec.upto Rows.lexUnquotesSpec) (k := Rows.uptoSmall) rfl own started (by kernel_rfl) Try.func5
    (OpenSpec.witness (enc := enc) (C := Try.checked) (s := Rows.OpenSpec.upto Rows.lexUnquotesSpec) (k := Rows.uptoSmall) rfl false ⟨#[], #[.string ByteArray.empty], []⟩ 20 (by kernel_rfl) (by kernel_rfl) (by kernel_rfl)
      (x := ([.lit (.string [])], [], [])) (by kernel_rfl) rfl (by kernel_rfl)) ?_
  intro W base args ds gs before hval hW _ hk _
  exact row_calls (P := Try.prog) (f := 5) (fn := Try.f5) (c := Try.f5.body.getD .skip) (ss := [.one .str]) (g := fun x => law05_LexUnquotes x.1.1) con5 Try.func5 (by kernel_rfl) (by kernel_rfl) laidOut (by kernel_rfl) (by kernel_rfl) rfl Try.underlying4 (s := Rows.lexUnquotesSpec) rfl spec_fn
    (fun x _ hb => LexUnquotes_true x.1 (by have h : (x.1.size + 1) + 0 ≤ 1048576 := hb; omega)) W base args ds gs before hval hW (bulk_bound hk)

theorem over : Rows.lexUnquotesUptoRow.holds Try.pinned (Rows.OpenSpec.upto Rows.lexUnquotesSpec) :=
  OpenClaim.holds_of_cond 5 Try.f5 rfl rfl rfl rfl rfl rfl rfl ⟨rfl, rfl, rfl, rfl, rfl⟩ rfl rfl rfl rfl rfl (by kernel_rfl) Try.func5 (by kernel_rfl)
    (of_decide_eq_true (by kernel_rfl)) (by unfold Func.isWrapper; first | (rw [if_pos (by decide +kernel)]; kernel_rfl) | (rw [if_neg (by decide +kernel)]; exact ⟨rfl, rfl⟩))
    (fun os started H enc _ F => lifted os started H enc F)

theorem proved : Rows.LexUnquotesUptoSaid := over
#print axioms proved
end Go.Proofs.Ytcflnhimlidbcaa.lexUnquotes
namespace Go.Proofs.Ytcflnhimlidbcaa
theorem lexUnquotes_upto_holds : Rows.LexUnquotesUptoSaid := lexUnquotes.proved
end Go.Proofs.Ytcflnhimlidbcaa
