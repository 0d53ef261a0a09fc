/-
The law LexSkips: a comment and blanks ahead of a text and behind it change the line numbers of its tokens only (strings of at most 2^19 bytes, comments of at most 2^10), and the call returns true. The conditions: those of the row: what is read is of bulk at most 1048576.
-/
import Derived.Test.YtcflnhimlidbcaaAm1
import Derived.Test.YtcflnhimlidbcaaAm2
import Derived.Test.YtcflnhimlidbcaaLexSkipsC1
namespace Go.Proofs.Ytcflnhimlidbcaa.lexSkips
open Go Go.AM Go.Proofs.Ytcflnhimlidbcaa
set_option linter.unusedVariables false

theorem spec_fn (H : Type) (ds : List (DataW H)) (h : ds.length = Try.f6.params.toList.length) : Rows.lexSkipsSpec.fn H ds = { results := [.lit (.bool true)], args := ds } := by
  have h' : ds.length = 2 := h
  match ds, h' with
  | [d0, d1], _ => rfl

set_option maxRecDepth 100000 in
theorem lifted (os : Os) (started : os.Started) (H : Type) (enc : TypeId × Value → H) (F : Stop.Interp) :
    ReturnsInHanded {} Try.checked os 6 .any ((Rows.OpenSpec.upto Rows.lexSkipsSpec).pre6 enc Try.prog Try.f6 Rows.lexSkipsUptoRow.domain false) (((Rows.OpenSpec.upto Rows.lexSkipsSpec).at F).post enc Try.prog Try.f6 false true false false) := by
  refine returnsInHanded_of_cond (C := Try.checked) (s := Rows.OpenSpec.upto Rows.lexSkipsSpec) (k := Rows.uptoSmall) rfl own started (by kernel_rfl) Try.func6
    (OpenSpec.witness (enc := enc) (C := Try.checked) (s := Rows.OpenSpec.upto Rows.lexSkipsSpec) (k := Rows.uptoSmall) rfl false ⟨#[], #[.string ByteArray.empty, .string ByteArray.empty], []⟩ 20 (by kernel_rfl) (by kernel_rfl) (by kernel_rfl)
      (x := ([.lit (.string []), .lit (.string [])], [], [])) (by kernel_rfl) rfl (by kernel_rfl)) ?_
  intro W base args ds gs before hval hW _ hk _
  exact row_calls (P := Try.prog) (f := 6) (fn := Try.f6) (c := Try.f6.body.getD .skip) (ss := [.one .str, .one .str]) (g := fun x => law05_LexSkips x.1.1 x.1.2.1) con6 Try.func6 (by kernel_rfl) (by kernel_rfl) laidOut (by kernel_rfl) (by kernel_rfl) rfl Try.underlying4 (s := Rows.lexSkipsSpec) rfl spec_fn
    (fun x _ _ => LexSkips_true x.1 x.2.1) W base args ds gs before hval hW (bulk_bound hk)

theorem over : Rows.lexSkipsUptoRow.holds Try.pinned (Rows.OpenSpec.upto Rows.lexSkipsSpec) :=
  OpenClaim.holds_of_cond 6 Try.f6 rfl rfl rfl rfl rfl rfl rfl ⟨rfl, rfl, rfl, rfl, rfl⟩ rfl rfl rfl rfl rfl (by kernel_rfl) Try.func6 (by kernel_rfl)
    (of_decide_eq_true (by kernel_rfl)) (by unfold Func.isWrapper; first | (rw [if_pos (by decide +kernel)]; kernel_rfl) | (rw [if_neg (by decide +kernel)]; exact ⟨rfl, rfl⟩))
    (fun os started H enc _ F => lifted os started H enc F)

theorem proved : Rows.LexSkipsUptoSaid := over
#print axioms proved
end Go.Proofs.Ytcflnhimlidbcaa.lexSkips
namespace Go.Proofs.Ytcflnhimlidbcaa
theorem lexSkips_upto_holds : Rows.LexSkipsUptoSaid := lexSkips.proved
end Go.Proofs.Ytcflnhimlidbcaa
