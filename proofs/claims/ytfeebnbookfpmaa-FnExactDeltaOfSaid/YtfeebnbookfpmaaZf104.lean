import Derived.Test.YtfeebnbookfpmaaZT
namespace Go.Proofs.Ytfeebnbookfpmaa.F
open Go.RowKit Go.Proofs.YtfeebnbookfpmaaW.PrintWords Go.Proofs.YtfeebnbookfpmaaW.PrintLast Go.Proofs.YtfeebnbookfpmaaW.PrintMore Go.Proofs.Ytfeebnbookfpmaa.Z
attribute [local go_sem] max2_int min2_int max_two min_two max_three min_three max_four min_four
set_option linter.unusedVariables false
set_option linter.unusedSimpArgs false
set_option maxRecDepth 100000
/-! ### laws_markRevS: function 104 -/
def laws_markRevS.l0 : Nat → (List S119) → Int → Int → (List S119) → Option (Int × (List S119))
  | 0, _, _, _, _ => none
  | k + 1, l24, x26, x27, a0 => (if x27 < (a0.length : Int) then (if 0 ≤ x27 then (if x27 < (a0.length : Int) then (lets (l24.set (x27).toNat (u119_0_3 (rd_T119 l24 x27) x26)) fun y34 => (lets (y34.set (x27).toNat (u119_1_3 (rd_T119 y34 x27) (wrap64 (x26 + 1)))) fun y38 => (laws_markRevS.l0 k y38 (wrap64 ((wrap64 (x26 + 1)) + 1)) (wrap64 (x27 + 1)) a0))) else none) else none) else (some (x26, l24)))
def laws_markRevS.f (k : Nat) (a0 : (List S119)) (a1 : Int) : Option (Int × (List S119)) := (laws_markRevS.l0 k a0 a1 0 a0)
set_option maxHeartbeats 16000000 in
theorem laws_markRevS.calls {k : Nat} {a0 : (List S119)} {a1 : Int} {A : FP} {vp0 : Value} {r1 : Int} {r2 : (List S119)} {w : World} (h : laws_markRevS.f k a0 a1 = some (r1, r2)) (HS : Hp A w w [.own (Zd.slice 119 q119) a0 [vp0]]) :
    Calls Try.prog 104 #[vp0, .int .i64 a1] w (fun e w' => e = .returned (.int .i64 r1) ∧ Hp A w w' [.own (Zd.slice 119 q119) r2 [vp0]]) := by
 obtain ⟨B1, d1, rfl, m1⟩ := HS.form 0 rfl
 have H := Aside0.mk h
 clear h
 unfold laws_markRevS.f at H
 go_enter Try.func104, Try.ntmps104
 go_wp2
 go_loopg [1, 5] k (fun kq v_1 v_5 w' => ∃ (l24 : List S119) (x26 : Int) (x27 : Int), v_1 = .int .i64 x26 ∧ v_5 = .int .i64 x27 ∧ Aside0 (laws_markRevS.l0 kq l24 x26 x27 a0 = some (r1, r2)) ∧ Aside0 (kq ≤ k) ∧ Hp A w w' [.own (Zd.slice 119 q119) l24 [.slice B1 a0.length d1]])
 case atStart => exact ⟨_, _, _, rfl, rfl, H, ⟨Nat.le_refl _⟩, HS⟩
 case round =>
  clear HS H; (try clear F)
  obtain ⟨l24, x26, x27, rfl, rfl, H, HKk23, HS⟩ := hrel
  cases gk with
  | zero => exact absurd H.out (by simp [laws_markRevS.l0])
  | succ k23 =>
   simp only [laws_markRevS.l0] at H
   by_cases c29 : x27 < (a0.length : Int)
   · replace H := zpos c29 H
     replace c29 := eq_true c29
     by_cases c30 : 0 ≤ x27
     case neg => exact zno c30 H
     replace H := zpos c30 H
     replace c30 := eq_true c30
     by_cases c31 : x27 < (a0.length : Int)
     case neg => exact zno c31 H
     replace H := zpos c31 H
     replace c31 := eq_true c31
     obtain ⟨ad32, rfl, e32_0, e32_1⟩ := at_T119 (HS.rd 0 rfl) x27 (of_eq_true c30) (of_eq_true c31)
     obtain ⟨y34, e_y34, H⟩ := zlets H
     obtain ⟨y38, e_y38, H⟩ := zlets H
     go_wp2_with (first | ((with_reducible refine gate_store (p := 16) rfl ?_); refine ev_setp (ad := ad32) rfl q119 (Zd.int .i64) lens119_0_3 0 [] x27 (rd_T119 l24 x27) x26 HS (seg := [.int .i64 x26]) rfl (by decide) rfl rfl rfl (by rintro g rfl; simp only [add_plain]; refine congrArg (fun n => (⟨g, n, none⟩ : Addr)) ?_; first | rfl | (show 0 + (x27).toNat * 2 + 0 = (x27).toNat * 2 + 0; omega) | (show 0 + (x27).toNat * 2 = (x27).toNat * 2 + 0; omega)) rfl rfl (by kernel_rfl) (by simp [Value.oneCell']) ⟨of_eq_true c30, of_eq_true c31⟩ rfl (fun hl => rd_T119_get hl) (made_flat (fun _ => rfl)) ?_; clear HS; (try clear F); intro w33 HS; rw [← e_y34.out] at HS; obtain ⟨ad36, hq36, e36_0, e36_1⟩ := at_T119 (HS.rd 0 rfl) x27 (of_eq_true c30) (of_eq_true c31); obtain rfl := Option.some.inj hq36) | ((with_reducible refine gate_store (p := 23) rfl ?_); refine ev_setp (ad := ad32) rfl q119 (Zd.int .i64) lens119_1_3 0 [] x27 (rd_T119 y34 x27) (wrap64 (x26 + 1)) HS (seg := [.int .i64 (wrap64 (x26 + 1))]) rfl (by decide) rfl rfl rfl (by rintro g rfl; simp only [add_plain]; refine congrArg (fun n => (⟨g, n, none⟩ : Addr)) ?_; first | rfl | (show 0 + (x27).toNat * 2 + 1 = (x27).toNat * 2 + 1; omega) | (show 0 + (x27).toNat * 2 = (x27).toNat * 2 + 0; omega)) rfl rfl (by kernel_rfl) (by simp [Value.oneCell']) ⟨of_eq_true c30, of_eq_true c31⟩ rfl (fun hl => rd_T119_get hl) (made_flat (fun _ => rfl)) ?_; clear HS; (try clear F); intro w37 HS; rw [← e_y38.out] at HS))
     go_roundg k23
     case measure => have := HKk23.out; omega
     case rel => exact ⟨_, _, _, rfl, rfl, H, ⟨by have := HKk23.out; omega⟩, HS.pick [0] (by decide) (by rfl)⟩
   · replace H := zneg c29 H
     replace c29 := eq_false c29
     obtain ⟨rfl, rfl⟩ := zsome2 H
     go_wp2
     go_ret
     exact ⟨rfl, HS.pick [0] (by decide) (by rfl)⟩
end Go.Proofs.Ytfeebnbookfpmaa.F
