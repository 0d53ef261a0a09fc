/-
The law LexTokens: for every string the program's tokens, or its error and line, are those of the reference, and the call returns true. The conditions: those of the row: what is read is of bulk at most 1048576.
-/
import Derived.Test.YtcflnhimlidbcaaAm1
import Derived.Test.YtcflnhimlidbcaaAm2
import Derived.Test.YtcflnhimlidbcaaLexTokensC1
namespace Go.Proofs.Ytcflnhimlidbcaa.lexTokens
open Go Go.AM Go.Proofs.Ytcflnhimlidbcaa
set_option linter.unusedVariables false

theorem spec_fn (H : Type) (ds : List (DataW H)) (h : ds.length = Try.f3.params.toList.length) : Rows.lexTokensSpec.fn H ds = { results := [.lit (.bool true)], args := ds } := by
  have h' : ds.length = 1 := h
  match ds, h' with
  | [d0], _ => rfl

set_option maxRecDepth 100000 in
theorem lifted (os : Os) (started : os.Started) (H : Type) (enc : TypeId × Value → H) (F : Stop.Interp) :
    ReturnsInHanded {} Try.checked os 3 .any ((Rows.OpenSpec.upto Rows.lexTokensSpec).pre6 enc Try.prog Try.f3 Rows.lexTokensUptoRow.domain false) (((Rows.OpenSpec.upto Rows.lexTokensSpec).at F).post enc Try.prog Try.f3 false true false false) := by
  refine returnsInHanded_of_cond (C := Try.checked) (s := Rows.OpenSpec.upto Rows.lexTokensSpec) (k := Rows.uptoSmall) rfl own started (by kernel_rfl) Try.func3
    (OpenSpec.witness (enc := enc) (C := Try.checked) (s := Rows.OpenSpec.upto Rows.lexTokensSpec) (k := Rows.uptoSmall) rfl false ⟨#[], #[.string ByteArray.empty], []⟩ 20 (by kernel_rfl) (by kernel_rfl) (by kernel_rfl)
      (x := ([.lit (.string [])], [], [])) (by kernel_rfl) rfl (by kernel_rfl)) ?_
  intro W base args ds gs before hval hW _ hk _
  exact row_calls (P := Try.prog) (f := 3) (fn := Try.f3) (c := Try.f3.body.getD .skip) (ss := [.one .str]) (g := fun x => law05_LexTokens x.1.1) con3 Try.func3 (by kernel_rfl) (by kernel_rfl) laidOut (by kernel_rfl) (by kernel_rfl) rfl Try.underlying4 (s := Rows.lexTokensSpec) rfl spec_fn
    (fun x _ _ => LexTokens_true x.1) W base args ds gs before hval hW (bulk_bound hk)

theorem over : Rows.lexTokensUptoRow.holds Try.pinned (Rows.OpenSpec.upto Rows.lexTokensSpec) :=
  OpenClaim.holds_of_cond 3 Try.f3 rfl rfl rfl rfl rfl rfl rfl ⟨rfl, rfl, rfl, rfl, rfl⟩ rfl rfl rfl rfl rfl (by kernel_rfl) Try.func3 (by kernel_rfl)
    (of_decide_eq_true (by kernel_rfl)) (by unfold Func.isWrapper; first | (rw [if_pos (by decide +kernel)]; kernel_rfl) | (rw [if_neg (by decide +kernel)]; exact ⟨rfl, rfl⟩))
    (fun os started H enc _ F => lifted os started H enc F)

theorem proved : Rows.LexTokensUptoSaid := over
#print axioms proved
end Go.Proofs.Ytcflnhimlidbcaa.lexTokens
namespace Go.Proofs.Ytcflnhimlidbcaa
theorem lexTokens_upto_holds : Rows.LexTokensUptoSaid := lexTokens.proved
end Go.Proofs.Ytcflnhimlidbcaa
