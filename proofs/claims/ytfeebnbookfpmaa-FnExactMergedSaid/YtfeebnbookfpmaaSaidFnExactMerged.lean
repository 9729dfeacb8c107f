/- What is left to prove of the statement FnExactMerged: numbers and lists alone; and that what came in is so made. -/
import Derived.Test.YtfeebnbookfpmaaZgFnExactMergedc
import Derived.Test.YtfeebnbookfpmaaZOpen
namespace Go.Proofs.Ytfeebnbookfpmaa.SaidFnExactMerged
open Go.RowKit Go.Proofs.YtfeebnbookfpmaaW.PrintWords Go.Proofs.YtfeebnbookfpmaaW.PrintLast Go.Proofs.Ytfeebnbookfpmaa.ZOpen Go.Proofs.Ytfeebnbookfpmaa.Z Go.Proofs.Ytfeebnbookfpmaa.F
set_option linter.unusedVariables false
set_option maxRecDepth 100000
def ok31 (x : S31) : Prop := (okInt .i64) x.f0 ∧ (okList (okInt .i64)) x.f1 ∧ okAny x.f2 ∧ okAny x.f3 ∧ (okInt .i64) x.f4
theorem opens31 : Opens Try.prog 31 k31 ok31 :=
  opens_struct (d := (Kd.pair (Kd.int .i64) (Kd.pair (Kd.slice 3 (Kd.int .i64)) (Kd.pair Kd.bool (Kd.pair Kd.bool (Kd.int .i64)))))) (ok := (okPair (okInt .i64) (okPair (okList (okInt .i64)) (okPair okAny (okPair okAny (okInt .i64)))))) Try.underlying31 (by kernel_rfl) (List.toList_toArray) (fields_cons rfl (opens_int Try.underlying3 (by kernel_rfl)) rfl (fields_cons rfl (opens_slice Try.underlying29 (by kernel_rfl) (opens_int Try.underlying3 (by kernel_rfl))) rfl (fields_cons rfl (opens_bool Try.underlying4 (by kernel_rfl)) rfl (fields_cons rfl (opens_bool Try.underlying4 (by kernel_rfl)) rfl (fields_one rfl (opens_int Try.underlying3 (by kernel_rfl))))))) (fun x : S31 => (x.f0, x.f1, x.f2, x.f3, x.f4)) (fun p => (⟨p.1, p.2.1, p.2.2.1, p.2.2.2.1, p.2.2.2.2⟩ : S31)) (fun _ => rfl)
def ok92 (x : S92) : Prop := (okInt .i64) x.f0 ∧ (okList (okInt .i64)) x.f1 ∧ ok31 x.f2
theorem opens92 : Opens Try.prog 92 k92 ok92 :=
  opens_struct (d := (Kd.pair (Kd.int .i64) (Kd.pair (Kd.slice 3 (Kd.int .i64)) k31))) (ok := (okPair (okInt .i64) (okPair (okList (okInt .i64)) ok31))) Try.underlying92 (by kernel_rfl) (List.toList_toArray) (fields_cons rfl (opens_int Try.underlying3 (by kernel_rfl)) rfl (fields_cons rfl (opens_slice Try.underlying29 (by kernel_rfl) (opens_int Try.underlying3 (by kernel_rfl))) rfl (fields_one rfl opens31))) (fun x : S92 => (x.f0, x.f1, x.f2)) (fun p => (⟨p.1, p.2.1, p.2.2⟩ : S92)) (fun _ => rfl)
def ok40 (x : S40) : Prop := (okList okStr) x.f0 ∧ (okInt .i64) x.f1 ∧ (okInt .i64) x.f2 ∧ (okInt .i64) x.f3 ∧ (okInt .i64) x.f4 ∧ okAny x.f5
theorem opens40 : Opens Try.prog 40 k40 ok40 :=
  opens_struct (d := (Kd.pair (Kd.slice 9 Kd.string) (Kd.pair (Kd.int .i64) (Kd.pair (Kd.int .i64) (Kd.pair (Kd.int .i64) (Kd.pair (Kd.int .i64) Kd.bool)))))) (ok := (okPair (okList okStr) (okPair (okInt .i64) (okPair (okInt .i64) (okPair (okInt .i64) (okPair (okInt .i64) okAny)))))) Try.underlying40 (by kernel_rfl) (List.toList_toArray) (fields_cons rfl (opens_slice Try.underlying38 (by kernel_rfl) (opens_string Try.underlying9 (by kernel_rfl))) rfl (fields_cons rfl (opens_int Try.underlying3 (by kernel_rfl)) rfl (fields_cons rfl (opens_int Try.underlying3 (by kernel_rfl)) rfl (fields_cons rfl (opens_int Try.underlying3 (by kernel_rfl)) rfl (fields_cons rfl (opens_int Try.underlying3 (by kernel_rfl)) rfl (fields_one rfl (opens_bool Try.underlying4 (by kernel_rfl)))))))) (fun x : S40 => (x.f0, x.f1, x.f2, x.f3, x.f4, x.f5)) (fun p => (⟨p.1, p.2.1, p.2.2.1, p.2.2.2.1, p.2.2.2.2.1, p.2.2.2.2.2⟩ : S40)) (fun _ => rfl)
/-- The one pure statement. -/
def Pure : Prop := ∀ (a0 : S92) (a1 : S40) (a2 : Int), ok92 a0 → ok40 a1 → (okInt .i64) a2 → ∃ k, laws_FnExactMerged.f k a0 a1 a2 = some true
end Go.Proofs.Ytfeebnbookfpmaa.SaidFnExactMerged
