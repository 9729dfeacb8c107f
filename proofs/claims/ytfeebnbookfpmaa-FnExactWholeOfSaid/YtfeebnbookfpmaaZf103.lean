import Derived.Test.YtfeebnbookfpmaaZT
namespace Go.Proofs.Ytfeebnbookfpmaa.F
open Go.RowKit Go.Proofs.YtfeebnbookfpmaaW.PrintWords Go.Proofs.YtfeebnbookfpmaaW.PrintLast Go.Proofs.YtfeebnbookfpmaaW.PrintMore Go.Proofs.Ytfeebnbookfpmaa.Z
attribute [local go_sem] max2_int min2_int max_two min_two max_three min_three max_four min_four
set_option linter.unusedVariables false
set_option linter.unusedSimpArgs false
set_option maxRecDepth 100000
/-! ### laws_markText: function 103 -/
def laws_markText.l0 : Nat → Int → ByteArray → Option (ByteArray)
  | 0, _, _ => none
  | k + 1, x11, x12 => (if 0 < x11 then (if (strOfNums ([((wrap64 (48 + (Int.tmod x11 10))) % 256)] : List Int)).size + x12.size ≤ 9223372036854775807 then (laws_markText.l0 k (wrap64 (Int.tdiv x11 10)) ((strOfNums ([((wrap64 (48 + (Int.tmod x11 10))) % 256)] : List Int)) ++ x12)) else none) else (if (⟨#[109]⟩ : ByteArray).size + x12.size ≤ 9223372036854775807 then (some ((⟨#[109]⟩ : ByteArray) ++ x12)) else none))
def laws_markText.f (k : Nat) (a0 : Int) : Option (ByteArray) := (if a0 ≤ 0 then (some (⟨#[109, 48]⟩ : ByteArray)) else (laws_markText.l0 k a0 (⟨#[]⟩ : ByteArray)))
set_option maxHeartbeats 16000000 in
theorem laws_markText.calls {k : Nat} {a0 : Int} {r : ByteArray} {w : World} (h : laws_markText.f k a0 = some r) :
    Calls Try.prog 103 #[.int .i64 a0] w (fun e w' => e = .returned (.string r) ∧ Hp noFP w w' []) := by
 have HS := Hp.start w
 have H := Aside0.mk h
 clear h
 unfold laws_markText.f at H
 go_enter Try.func103, Try.ntmps103
 by_cases c1 : a0 ≤ 0
 · replace H := zpos c1 H
   replace c1 := eq_true c1
   obtain rfl := zsome H
   go_wp2
   go_ret
   exact ⟨rfl, HS.pick [] (by decide) (by rfl)⟩
 · replace H := zneg c1 H
   replace c1 := eq_false c1
   go_wp2
   go_loopg [0, 3] k (fun kq v_0 v_3 w' => ∃ (x11 : Int) (x12 : ByteArray), v_0 = .int .i64 x11 ∧ v_3 = .string x12 ∧ Aside0 (laws_markText.l0 kq x11 x12 = some r) ∧ Aside0 (kq ≤ k) ∧ Hp noFP w w' [])
   case atStart => exact ⟨_, _, rfl, rfl, H, ⟨Nat.le_refl _⟩, HS⟩
   case round =>
    clear HS H; (try clear F)
    obtain ⟨x11, x12, rfl, rfl, H, HKk10, HS⟩ := hrel
    cases gk with
    | zero => exact absurd H.out (by simp [laws_markText.l0])
    | succ k10 =>
     simp only [laws_markText.l0] at H
     by_cases c14 : 0 < x11
     · replace H := zpos c14 H
       replace c14 := eq_true c14
       by_cases c17 : (strOfNums ([((wrap64 (48 + (Int.tmod x11 10))) % 256)] : List Int)).size + x12.size ≤ 9223372036854775807
       case neg => exact zno c17 H
       replace H := zpos c17 H
       replace c17 := eq_true c17
       go_wp2_with (first | ((with_reducible refine gate_dst (N := 12) rfl ?_); refine ev_lit rfl (Zd.int .u8) [] ([((wrap64 (48 + (Int.tmod x11 10))) % 256)] : List Int) ([.int .u8 ((wrap64 (48 + (Int.tmod x11 10))) % 256)] ++ []) HS (by first | (go_simp; done) | (go_simp; rfl)) rfl rfl (Nat.le_of_ble_eq_true rfl) (MadeL.cons (js1 := []) (c := [.int .u8 ((wrap64 (48 + (Int.tmod x11 10))) % 256)]) rfl (made_flat (fun _ => rfl)) MadeL.nil (by decide)) ?_; clear HS; (try clear F); intro v15 w15 HS; obtain ⟨B15, d15, rfl, m15⟩ := HS.formn 1 0 rfl rfl) | ((with_reducible refine gate_dst (N := 13) rfl ?_); refine ev_val rfl (run_str rfl rfl Try.underlying155 Try.underlying5 Try.underlying9 (HS.rd 0 rfl)) ?_) | ((with_reducible refine gate_dst (N := 15) rfl ?_); refine ev_val rfl (run_cat rfl rfl rfl (of_eq_true c17)) ?_))
       go_roundg k10
       case measure => have := HKk10.out; omega
       case rel => exact ⟨_, _, rfl, rfl, H, ⟨by have := HKk10.out; omega⟩, HS.pick [] (by decide) (by rfl)⟩
     · replace H := zneg c14 H
       replace c14 := eq_false c14
       by_cases c18 : (⟨#[109]⟩ : ByteArray).size + x12.size ≤ 9223372036854775807
       case neg => exact zno c18 H
       replace H := zpos c18 H
       replace c18 := eq_true c18
       obtain rfl := zsome H
       go_wp2_with (first | ((with_reducible refine gate_dst (N := 19) rfl ?_); refine ev_val rfl (run_cat rfl rfl rfl (of_eq_true c18)) ?_))
       go_ret
       exact ⟨rfl, HS.pick [] (by decide) (by rfl)⟩
end Go.Proofs.Ytfeebnbookfpmaa.F
