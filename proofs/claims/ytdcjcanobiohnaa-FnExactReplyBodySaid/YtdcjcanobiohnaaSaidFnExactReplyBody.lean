/- What is left to prove of the statement FnExactReplyBody: numbers and lists alone; and that what came in is so made. -/
import Derived.Test.YtdcjcanobiohnaaZgFnExactReplyBodye
import Derived.Test.YtdcjcanobiohnaaZOpen
namespace Go.Proofs.Ytdcjcanobiohnaa.SaidFnExactReplyBody
open Go.RowKit Go.Proofs.YtdcjcanobiohnaaW.PrintWords Go.Proofs.YtdcjcanobiohnaaW.PrintLast Go.Proofs.Ytdcjcanobiohnaa.ZOpen Go.Proofs.Ytdcjcanobiohnaa.Z Go.Proofs.Ytdcjcanobiohnaa.F
set_option linter.unusedVariables false
set_option maxRecDepth 100000
def ok169 (x : S169) : Prop := (okInt .i64) x.f0 ∧ (okInt .i64) x.f1 ∧ (okList okStr) x.f2 ∧ (okList okStr) x.f3
theorem opens169 : Opens Try.prog 169 k169 ok169 :=
  opens_struct (d := (Kd.pair (Kd.int .i64) (Kd.pair (Kd.int .i64) (Kd.pair (Kd.slice 9 Kd.string) (Kd.slice 9 Kd.string))))) (ok := (okPair (okInt .i64) (okPair (okInt .i64) (okPair (okList okStr) (okList okStr))))) Try.underlying169 (by kernel_rfl) (List.toList_toArray) (fields_cons rfl (opens_int Try.underlying3 (by kernel_rfl)) rfl (fields_cons rfl (opens_int Try.underlying3 (by kernel_rfl)) rfl (fields_cons rfl (opens_slice Try.underlying65 (by kernel_rfl) (opens_string Try.underlying9 (by kernel_rfl))) rfl (fields_one rfl (opens_slice Try.underlying65 (by kernel_rfl) (opens_string Try.underlying9 (by kernel_rfl))))))) (fun x : S169 => (x.f0, x.f1, x.f2, x.f3)) (fun p => (⟨p.1, p.2.1, p.2.2.1, p.2.2.2⟩ : S169)) (fun _ => rfl)
def ok44 (x : S44) : Prop := okStr x.f0 ∧ (okInt .i64) x.f1 ∧ (okInt .i64) x.f2 ∧ (okInt .i64) x.f3 ∧ (okInt .i64) x.f4 ∧ (okInt .i64) x.f5 ∧ (okList ok169) x.f6 ∧ okStr x.f7
theorem opens44 : Opens Try.prog 44 k44 ok44 :=
  opens_struct (d := (Kd.pair Kd.string (Kd.pair (Kd.int .i64) (Kd.pair (Kd.int .i64) (Kd.pair (Kd.int .i64) (Kd.pair (Kd.int .i64) (Kd.pair (Kd.int .i64) (Kd.pair (Kd.slice 169 k169) Kd.string)))))))) (ok := (okPair okStr (okPair (okInt .i64) (okPair (okInt .i64) (okPair (okInt .i64) (okPair (okInt .i64) (okPair (okInt .i64) (okPair (okList ok169) okStr)))))))) Try.underlying44 (by kernel_rfl) (List.toList_toArray) (fields_cons rfl (opens_string Try.underlying9 (by kernel_rfl)) rfl (fields_cons rfl (opens_int Try.underlying3 (by kernel_rfl)) rfl (fields_cons rfl (opens_int Try.underlying3 (by kernel_rfl)) rfl (fields_cons rfl (opens_int Try.underlying3 (by kernel_rfl)) rfl (fields_cons rfl (opens_int Try.underlying3 (by kernel_rfl)) rfl (fields_cons rfl (opens_int Try.underlying3 (by kernel_rfl)) rfl (fields_cons rfl (opens_slice Try.underlying42 (by kernel_rfl) opens169) rfl (fields_one rfl (opens_string Try.underlying9 (by kernel_rfl)))))))))) (fun x : S44 => (x.f0, x.f1, x.f2, x.f3, x.f4, x.f5, x.f6, x.f7)) (fun p => (⟨p.1, p.2.1, p.2.2.1, p.2.2.2.1, p.2.2.2.2.1, p.2.2.2.2.2.1, p.2.2.2.2.2.2.1, p.2.2.2.2.2.2.2⟩ : S44)) (fun _ => rfl)
/-- The one pure statement. -/
def Pure : Prop := ∀ (a0 : S44), ok44 a0 → ∃ k, laws_FnExactReplyBody.f k a0 = some true
end Go.Proofs.Ytdcjcanobiohnaa.SaidFnExactReplyBody
