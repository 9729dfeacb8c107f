/- What is left to prove of the statement FnExactShowReply: numbers and lists alone; and that what came in is so made. -/
import Derived.Test.YtnpokacipeobdaaDoorZgFnExactShowReplyb
import Derived.Test.YtnpokacipeobdaaDoorZOpen
namespace Go.Proofs.YtnpokacipeobdaaDoor.SaidFnExactShowReply
open Go.RowKit Go.Proofs.YtnpokacipeobdaaDoorW.PrintWords Go.Proofs.YtnpokacipeobdaaDoorW.PrintLast Go.Proofs.YtnpokacipeobdaaDoor.ZOpen Go.Proofs.YtnpokacipeobdaaDoor.Z Go.Proofs.YtnpokacipeobdaaDoor.F
set_option linter.unusedVariables false
set_option maxRecDepth 100000
def ok112 (x : S112) : Prop := (okInt .i64) x.f0 ∧ (okInt .i64) x.f1 ∧ (okList okStr) x.f2 ∧ (okList okStr) x.f3
theorem opens112 : Opens Tryd.prog 112 k112 ok112 :=
  opens_struct (d := (Kd.pair (Kd.int .i64) (Kd.pair (Kd.int .i64) (Kd.pair (Kd.slice 9 Kd.string) (Kd.slice 9 Kd.string))))) (ok := (okPair (okInt .i64) (okPair (okInt .i64) (okPair (okList okStr) (okList okStr))))) Tryd.underlying112 (by kernel_rfl) (List.toList_toArray) (fields_cons rfl (opens_int Tryd.underlying3 (by kernel_rfl)) rfl (fields_cons rfl (opens_int Tryd.underlying3 (by kernel_rfl)) rfl (fields_cons rfl (opens_slice Tryd.underlying45 (by kernel_rfl) (opens_string Tryd.underlying9 (by kernel_rfl))) rfl (fields_one rfl (opens_slice Tryd.underlying45 (by kernel_rfl) (opens_string Tryd.underlying9 (by kernel_rfl))))))) (fun x : S112 => (x.f0, x.f1, x.f2, x.f3)) (fun p => (⟨p.1, p.2.1, p.2.2.1, p.2.2.2⟩ : S112)) (fun _ => rfl)
def ok35 (x : S35) : Prop := okStr x.f0 ∧ (okInt .i64) x.f1 ∧ (okInt .i64) x.f2 ∧ (okInt .i64) x.f3 ∧ (okInt .i64) x.f4 ∧ (okInt .i64) x.f5 ∧ (okList ok112) x.f6 ∧ okStr x.f7
theorem opens35 : Opens Tryd.prog 35 k35 ok35 :=
  opens_struct (d := (Kd.pair Kd.string (Kd.pair (Kd.int .i64) (Kd.pair (Kd.int .i64) (Kd.pair (Kd.int .i64) (Kd.pair (Kd.int .i64) (Kd.pair (Kd.int .i64) (Kd.pair (Kd.slice 112 k112) Kd.string)))))))) (ok := (okPair okStr (okPair (okInt .i64) (okPair (okInt .i64) (okPair (okInt .i64) (okPair (okInt .i64) (okPair (okInt .i64) (okPair (okList ok112) okStr)))))))) Tryd.underlying35 (by kernel_rfl) (List.toList_toArray) (fields_cons rfl (opens_string Tryd.underlying9 (by kernel_rfl)) rfl (fields_cons rfl (opens_int Tryd.underlying3 (by kernel_rfl)) rfl (fields_cons rfl (opens_int Tryd.underlying3 (by kernel_rfl)) rfl (fields_cons rfl (opens_int Tryd.underlying3 (by kernel_rfl)) rfl (fields_cons rfl (opens_int Tryd.underlying3 (by kernel_rfl)) rfl (fields_cons rfl (opens_int Tryd.underlying3 (by kernel_rfl)) rfl (fields_cons rfl (opens_slice Tryd.underlying33 (by kernel_rfl) opens112) rfl (fields_one rfl (opens_string Tryd.underlying9 (by kernel_rfl)))))))))) (fun x : S35 => (x.f0, x.f1, x.f2, x.f3, x.f4, x.f5, x.f6, x.f7)) (fun p => (⟨p.1, p.2.1, p.2.2.1, p.2.2.2.1, p.2.2.2.2.1, p.2.2.2.2.2.1, p.2.2.2.2.2.2.1, p.2.2.2.2.2.2.2⟩ : S35)) (fun _ => rfl)
/-- The one pure statement. -/
def Pure : Prop := ∀ (a0 : S35), ok35 a0 → ∃ k, laws_FnExactShowReply.f k a0 = some true
end Go.Proofs.YtnpokacipeobdaaDoor.SaidFnExactShowReply
