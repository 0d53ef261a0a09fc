/-
For every string the statement of quoting answers true. The conditions: those of the row: what is read is of bulk at most 1048576.
-/
import Derived.Test.YtcflnhimlidbcaaAm1
import Derived.Test.YtcflnhimlidbcaaAm2
import Derived.Test.YtcflnhimlidbcaaAm3
import Derived.Test.YtcflnhimlidbcaaLexQuotesC1
namespace Go.Proofs.Ytcflnhimlidbcaa.lexQuotes
open Go Go.AM Go.Proofs.Ytcflnhimlidbcaa
set_option linter.unusedVariables false

theorem spec_fn (H : Type) (ds : List (DataW H)) (h : ds.length = Try.f7.params.toList.length) : Rows.lexQuotesSpec.fn H ds = { results := [.lit (.bool true)], args := ds } := by
  have h' : ds.length = 1 := h
  match ds, h' with
  | [d0], _ => rfl

set_option maxRecDepth 100000 in
theorem lifted (os : Os) (started : os.Started) (H : Type) (enc : TypeId × Value → H) (F : Stop.Interp) :
    ReturnsInHanded {} Try.checked os 7 .any ((Rows.OpenSpec.upto Rows.lexQuotesSpec).pre6 enc Try.prog Try.f7 Rows.lexQuotesUptoRow.domain false) (((Rows.OpenSpec.upto Rows.lexQuotesSpec).at F).post enc Try.prog Try.f7 false true false false) := by
  refine returnsInHanded_of_cond (C := Try.checked) (s := Rows.OpenSpec.upto Rows.lexQuotesSpec) (k := Rows.uptoSmall) rfl own started (by kernel_rfl) Try.func7
    (OpenSpec.witness (enc := enc) (C := Try.checked) (s := Rows.OpenSpec.upto Rows.lexQuotesSpec) (k := Rows.uptoSmall) rfl false ⟨#[], #[.string ByteArray.empty], []⟩ 20 (by kernel_rfl) (by kernel_rfl) (by kernel_rfl)
      (x := ([.lit (.string [])], [], [])) (by kernel_rfl) rfl (by kernel_rfl)) ?_
  intro W base args ds gs before hval hW _ hk _
  exact row_calls (P := Try.prog) (f := 7) (fn := Try.f7) (c := Try.f7.body.getD .skip) (ss := [.one .str]) (g := fun x => law05_LexQuotes x.1.1) con7 Try.func7 (by kernel_rfl) (by kernel_rfl) laidOut (by kernel_rfl) (by kernel_rfl) rfl Try.underlying4 (s := Rows.lexQuotesSpec) rfl spec_fn
    (fun x _ hb => LexQuotes_true x.1 (by have h : (x.1.size + 1) + 0 ≤ 1048576 := hb; omega)) W noZone_met base args ds gs before hval hW (bulk_bound hk)

theorem over : Rows.lexQuotesUptoRow.holds Try.pinned (Rows.OpenSpec.upto Rows.lexQuotesSpec) :=
  OpenClaim.holds_of_cond 7 Try.f7 rfl rfl rfl rfl rfl rfl rfl ⟨rfl, rfl, rfl, rfl, rfl⟩ rfl rfl rfl rfl rfl (by kernel_rfl) Try.func7 (by kernel_rfl)
    (of_decide_eq_true (by kernel_rfl)) (by unfold Func.isWrapper; first | (rw [if_pos (by decide +kernel)]; kernel_rfl) | (rw [if_neg (by decide +kernel)]; exact ⟨rfl, rfl⟩))
    (fun os started H enc _ F => lifted os started H enc F)

theorem proved : Rows.LexQuotesUptoSaid := over
#print axioms proved
end Go.Proofs.Ytcflnhimlidbcaa.lexQuotes
namespace Go.Proofs.Ytcflnhimlidbcaa
theorem lexQuotes_upto_holds : Rows.LexQuotesUptoSaid := lexQuotes.proved
end Go.Proofs.Ytcflnhimlidbcaa
