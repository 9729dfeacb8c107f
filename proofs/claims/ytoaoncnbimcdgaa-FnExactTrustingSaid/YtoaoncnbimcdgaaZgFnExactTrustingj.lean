/- Functions of the program and of the law, and that their calls do what is written here. -/
import Derived.Test.YtoaoncnbimcdgaaZgFnExactTrustingi
namespace Go.Proofs.Ytoaoncnbimcdgaa.F
open Go.RowKit Go.Proofs.YtoaoncnbimcdgaaW.PrintWords Go.Proofs.YtoaoncnbimcdgaaW.PrintLast Go.Proofs.YtoaoncnbimcdgaaW.PrintMore Go.Proofs.Ytoaoncnbimcdgaa.Z
attribute [local go_sem] max2_int min2_int max_two min_two max_three min_three max_four min_four
set_option linter.unusedVariables false
set_option linter.unusedSimpArgs false
set_option maxRecDepth 100000
/-! ### laws_markCrlS: function 84 -/
def laws_markCrlS.l0 : Nat → (List S190) → Int → Int → (List S190) → Option (Int × (List S190))
  | 0, _, _, _, _ => none
  | k + 1, l48, x50, x51, a0 => (if x51 < (a0.length : Int) then ((laws_markText.f k x50).bind fun t54 => (if 0 ≤ x51 then (if x51 < (a0.length : Int) then (lets (l48.set (x51).toNat (u190_0_9 (rd_T190 l48 x51) t54)) fun y60 => (lets (y60.set (x51).toNat (u190_1_3 (rd_T190 y60 x51) (wrap64 (x50 + 1)))) fun y64 => (lets (y64.set (x51).toNat (u190_2_3 (rd_T190 y64 x51) (wrap64 ((wrap64 (x50 + 1)) + 1)))) fun y68 => (lets (y68.set (x51).toNat (u190_3_3 (rd_T190 y68 x51) (wrap64 ((wrap64 ((wrap64 (x50 + 1)) + 1)) + 1)))) fun y72 => (lets (y72.set (x51).toNat (u190_4_3 (rd_T190 y72 x51) (wrap64 ((wrap64 ((wrap64 ((wrap64 (x50 + 1)) + 1)) + 1)) + 1)))) fun y76 => ((laws_markRevS.f k ((rd_T190 y76 x51).f5) (wrap64 ((wrap64 ((wrap64 ((wrap64 ((wrap64 (x50 + 1)) + 1)) + 1)) + 1)) + 1))).bind fun t79 => (lets (y76.set (x51).toNat (u190_5_188 (rd_T190 y76 x51) t79.2)) fun y80 => ((laws_markText.f k t79.1).bind fun t82 => (lets (y80.set (x51).toNat (u190_6_9 (rd_T190 y80 x51) t82)) fun y86 => (laws_markCrlS.l0 k y86 (wrap64 (t79.1 + 1)) (wrap64 (x51 + 1)) a0)))))))))) else none) else none)) else (some (x50, l48)))
def laws_markCrlS.f (k : Nat) (a0 : (List S190)) (a1 : Int) : Option (Int × (List S190)) := (laws_markCrlS.l0 k a0 a1 0 a0)
set_option maxHeartbeats 16000000 in
theorem laws_markCrlS.calls {k : Nat} {a0 : (List S190)} {a1 : Int} {A : FP} {vp0 : Value} {r1 : Int} {r2 : (List S190)} {w : World} (h : laws_markCrlS.f k a0 a1 = some (r1, r2)) (HS : Hp A w w [.own (Zd.slice 190 q190) a0 [vp0]]) :
    Calls Try.prog 84 #[vp0, .int .i64 a1] w (fun e w' => e = .returned (.int .i64 r1) ∧ Hp A w w' [.own (Zd.slice 190 q190) r2 [vp0]]) := by
 obtain ⟨B1, d1, rfl, m1⟩ := HS.form 0 rfl
 have H := Aside0.mk h
 clear h
 unfold laws_markCrlS.f at H
 go_enter Try.func84, Try.ntmps84
 go_wp2
 go_loopg [1, 5] k (fun kq v_1 v_5 w' => ∃ (l48 : List S190) (x50 : Int) (x51 : Int), v_1 = .int .i64 x50 ∧ v_5 = .int .i64 x51 ∧ Aside0 (laws_markCrlS.l0 kq l48 x50 x51 a0 = some (r1, r2)) ∧ Aside0 (kq ≤ k) ∧ Hp A w w' [.own (Zd.slice 190 q190) l48 [.slice B1 a0.length d1]])
 case atStart => exact ⟨_, _, _, rfl, rfl, H, ⟨Nat.le_refl _⟩, HS⟩
 case round =>
  clear HS H; (try clear F)
  obtain ⟨l48, x50, x51, rfl, rfl, H, HKk47, HS⟩ := hrel
  cases gk with
  | zero => exact absurd H.out (by simp [laws_markCrlS.l0])
  | succ k47 =>
   simp only [laws_markCrlS.l0] at H
   by_cases c53 : x51 < (a0.length : Int)
   · replace H := zpos c53 H
     replace c53 := eq_true c53
     replace H := zbind H; obtain ⟨t54, ht54, H⟩ := H
     by_cases c56 : 0 ≤ x51
     case neg => exact zno c56 H
     replace H := zpos c56 H
     replace c56 := eq_true c56
     by_cases c57 : x51 < (a0.length : Int)
     case neg => exact zno c57 H
     replace H := zpos c57 H
     replace c57 := eq_true c57
     replace H := zlets H; obtain ⟨y60, e_y60, H⟩ := H
     replace H := zlets H; obtain ⟨y64, e_y64, H⟩ := H
     replace H := zlets H; obtain ⟨y68, e_y68, H⟩ := H
     replace H := zlets H; obtain ⟨y72, e_y72, H⟩ := H
     replace H := zlets H; obtain ⟨y76, e_y76, H⟩ := H
     replace H := zbind H; obtain ⟨t79, ht79, H⟩ := H
     replace H := zlets H; obtain ⟨y80, e_y80, H⟩ := H
     replace H := zbind H; obtain ⟨t82, ht82, H⟩ := H
     replace H := zlets H; obtain ⟨y86, e_y86, H⟩ := H
     go_wp2_with (first | ((with_reducible refine gate_dst (N := 15) rfl ?_); refine ev_call rfl Try.func110 (by kernel_rfl) rfl #[.int .i64 x50] rfl (by simp only [List.map_toArray, List.map_cons, List.map_nil]; rfl) ?_; refine (laws_markText.calls ht54.out).mono ?_; rintro _ wt54 ⟨rfl, HQ⟩; refine ⟨_, rfl, ?_⟩; replace HS := HS.call HQ; clear HQ; (try clear F); replace HS : Hp A w _ [.own (Zd.slice 190 q190) l48 [.slice B1 a0.length d1]] := HS; obtain ⟨ad58, B58_5, d58_5, rfl, e58_0, e58_1, e58_2, e58_3, e58_4, e58_5, e58_6, m58_5, y58_5⟩ := at_T190 (HS.rd 0 rfl) x51 (of_eq_true c56) (of_eq_true c57)) | ((with_reducible refine gate_store (p := 17) rfl ?_); refine ev_setp (ad := ad58) rfl q190 Zd.string lens190_0_9 0 [] x51 (rd_T190 l48 x51) t54 HS (seg := [.string t54]) rfl (by decide) rfl rfl rfl (by rintro g rfl; simp only [add_plain]; refine congrArg (fun n => (⟨g, n, none⟩ : Addr)) ?_; first | rfl | (show 0 + (x51).toNat * 7 + 0 = (x51).toNat * 7 + 0; omega) | (show 0 + (x51).toNat * 7 = (x51).toNat * 7 + 0; omega)) rfl rfl (by kernel_rfl) (by simp [Value.oneCell']) ⟨of_eq_true c56, of_eq_true c57⟩ rfl (fun hl => rd_T190_get hl) (made_flat (fun _ => rfl)) ?_; clear HS; (try clear F); intro w59 HS; rw [← e_y60.out] at HS; replace HS : Hp A w _ [.own (Zd.slice 190 q190) y60 [.slice (some ad58) a0.length d1]] := HS; obtain ⟨ad62, B62_5, d62_5, hq62, e62_0, e62_1, e62_2, e62_3, e62_4, e62_5, e62_6, m62_5, y62_5⟩ := at_T190 (HS.rd 0 rfl) x51 (of_eq_true c56) (of_eq_true c57); obtain rfl := Option.some.inj hq62) | ((with_reducible refine gate_store (p := 24) rfl ?_); refine ev_setp (ad := ad58) rfl q190 (Zd.int .i64) lens190_1_3 0 [] x51 (rd_T190 y60 x51) (wrap64 (x50 + 1)) HS (seg := [.int .i64 (wrap64 (x50 + 1))]) rfl (by decide) rfl rfl rfl (by rintro g rfl; simp only [add_plain]; refine congrArg (fun n => (⟨g, n, none⟩ : Addr)) ?_; first | rfl | (show 0 + (x51).toNat * 7 + 1 = (x51).toNat * 7 + 1; omega) | (show 0 + (x51).toNat * 7 = (x51).toNat * 7 + 0; omega)) rfl rfl (by kernel_rfl) (by simp [Value.oneCell']) ⟨of_eq_true c56, of_eq_true c57⟩ rfl (fun hl => rd_T190_get hl) (made_flat (fun _ => rfl)) ?_; clear HS; (try clear F); intro w63 HS; rw [← e_y64.out] at HS; replace HS : Hp A w _ [.own (Zd.slice 190 q190) y64 [.slice (some ad58) a0.length d1]] := HS; obtain ⟨ad66, B66_5, d66_5, hq66, e66_0, e66_1, e66_2, e66_3, e66_4, e66_5, e66_6, m66_5, y66_5⟩ := at_T190 (HS.rd 0 rfl) x51 (of_eq_true c56) (of_eq_true c57); obtain rfl := Option.some.inj hq66) | ((with_reducible refine gate_store (p := 31) rfl ?_); refine ev_setp (ad := ad58) rfl q190 (Zd.int .i64) lens190_2_3 0 [] x51 (rd_T190 y64 x51) (wrap64 ((wrap64 (x50 + 1)) + 1)) HS (seg := [.int .i64 (wrap64 ((wrap64 (x50 + 1)) + 1))]) rfl (by decide) rfl rfl rfl (by rintro g rfl; simp only [add_plain]; refine congrArg (fun n => (⟨g, n, none⟩ : Addr)) ?_; first | rfl | (show 0 + (x51).toNat * 7 + 2 = (x51).toNat * 7 + 2; omega) | (show 0 + (x51).toNat * 7 = (x51).toNat * 7 + 0; omega)) rfl rfl (by kernel_rfl) (by simp [Value.oneCell']) ⟨of_eq_true c56, of_eq_true c57⟩ rfl (fun hl => rd_T190_get hl) (made_flat (fun _ => rfl)) ?_; clear HS; (try clear F); intro w67 HS; rw [← e_y68.out] at HS; replace HS : Hp A w _ [.own (Zd.slice 190 q190) y68 [.slice (some ad58) a0.length d1]] := HS; obtain ⟨ad70, B70_5, d70_5, hq70, e70_0, e70_1, e70_2, e70_3, e70_4, e70_5, e70_6, m70_5, y70_5⟩ := at_T190 (HS.rd 0 rfl) x51 (of_eq_true c56) (of_eq_true c57); obtain rfl := Option.some.inj hq70) | ((with_reducible refine gate_store (p := 38) rfl ?_); refine ev_setp (ad := ad58) rfl q190 (Zd.int .i64) lens190_3_3 0 [] x51 (rd_T190 y68 x51) (wrap64 ((wrap64 ((wrap64 (x50 + 1)) + 1)) + 1)) HS (seg := [.int .i64 (wrap64 ((wrap64 ((wrap64 (x50 + 1)) + 1)) + 1))]) rfl (by decide) rfl rfl rfl (by rintro g rfl; simp only [add_plain]; refine congrArg (fun n => (⟨g, n, none⟩ : Addr)) ?_; first | rfl | (show 0 + (x51).toNat * 7 + 3 = (x51).toNat * 7 + 3; omega) | (show 0 + (x51).toNat * 7 = (x51).toNat * 7 + 0; omega)) rfl rfl (by kernel_rfl) (by simp [Value.oneCell']) ⟨of_eq_true c56, of_eq_true c57⟩ rfl (fun hl => rd_T190_get hl) (made_flat (fun _ => rfl)) ?_; clear HS; (try clear F); intro w71 HS; rw [← e_y72.out] at HS; replace HS : Hp A w _ [.own (Zd.slice 190 q190) y72 [.slice (some ad58) a0.length d1]] := HS; obtain ⟨ad74, B74_5, d74_5, hq74, e74_0, e74_1, e74_2, e74_3, e74_4, e74_5, e74_6, m74_5, y74_5⟩ := at_T190 (HS.rd 0 rfl) x51 (of_eq_true c56) (of_eq_true c57); obtain rfl := Option.some.inj hq74) | ((with_reducible refine gate_store (p := 45) rfl ?_); refine ev_setp (ad := ad58) rfl q190 (Zd.int .i64) lens190_4_3 0 [] x51 (rd_T190 y72 x51) (wrap64 ((wrap64 ((wrap64 ((wrap64 (x50 + 1)) + 1)) + 1)) + 1)) HS (seg := [.int .i64 (wrap64 ((wrap64 ((wrap64 ((wrap64 (x50 + 1)) + 1)) + 1)) + 1))]) rfl (by decide) rfl rfl rfl (by rintro g rfl; simp only [add_plain]; refine congrArg (fun n => (⟨g, n, none⟩ : Addr)) ?_; first | rfl | (show 0 + (x51).toNat * 7 + 4 = (x51).toNat * 7 + 4; omega) | (show 0 + (x51).toNat * 7 = (x51).toNat * 7 + 0; omega)) rfl rfl (by kernel_rfl) (by simp [Value.oneCell']) ⟨of_eq_true c56, of_eq_true c57⟩ rfl (fun hl => rd_T190_get hl) (made_flat (fun _ => rfl)) ?_; clear HS; (try clear F); intro w75 HS; rw [← e_y76.out] at HS; replace HS : Hp A w _ [.own (Zd.slice 190 q190) y76 [.slice (some ad58) a0.length d1]] := HS; obtain ⟨ad78, B78_5, d78_5, hq78, e78_0, e78_1, e78_2, e78_3, e78_4, e78_5, e78_6, m78_5, y78_5⟩ := at_T190 (HS.rd 0 rfl) x51 (of_eq_true c56) (of_eq_true c57); obtain rfl := Option.some.inj hq78) | ((with_reducible refine gate_dst (N := 54) rfl ?_); refine HS.lend_el 0 x51 rfl lens190_5_188 (of_eq_true c56) (of_eq_true c57) e78_5 (by rintro g rfl; simp only [add_plain]; refine congrArg (fun n => (⟨g, n, none⟩ : Addr)) ?_; first | rfl | omega) (fun hl => rd_T190_get hl) (fun A' HL HA HB => ?_); refine ev_call rfl Try.func139 (by kernel_rfl) rfl #[.slice B78_5 (rd_T190 y76 x51).f5.length d78_5, .int .i64 (wrap64 ((wrap64 ((wrap64 ((wrap64 ((wrap64 (x50 + 1)) + 1)) + 1)) + 1)) + 1))] rfl (by simp only [List.map_toArray, List.map_cons, List.map_nil]; rfl) ?_; refine (laws_markRevS.calls ht79.out HA).mono ?_; rintro _ wt79 ⟨rfl, HQ⟩; refine ⟨_, rfl, ?_⟩; replace HS := HB _ _ _ HQ; clear HQ HA HB HL; rw [← e_y80.out] at HS; replace HS : Hp A w _ [.own (Zd.slice 190 q190) y80 [.slice (some ad58) a0.length d1]] := HS; (try clear F); replace HS : Hp A w _ [.own (Zd.slice 190 q190) y80 [.slice (some ad58) a0.length d1]] := HS) | ((with_reducible refine gate_dst (N := 58) rfl ?_); refine ev_call rfl Try.func110 (by kernel_rfl) rfl #[.int .i64 t79.1] rfl (by simp only [List.map_toArray, List.map_cons, List.map_nil]; rfl) ?_; refine (laws_markText.calls ht82.out).mono ?_; rintro _ wt82 ⟨rfl, HQ⟩; refine ⟨_, rfl, ?_⟩; replace HS := HS.call HQ; clear HQ; (try clear F); replace HS : Hp A w _ [.own (Zd.slice 190 q190) y80 [.slice (some ad58) a0.length d1]] := HS; obtain ⟨ad84, B84_5, d84_5, hq84, e84_0, e84_1, e84_2, e84_3, e84_4, e84_5, e84_6, m84_5, y84_5⟩ := at_T190 (HS.rd 0 rfl) x51 (of_eq_true c56) (of_eq_true c57); obtain rfl := Option.some.inj hq84) | ((with_reducible refine gate_store (p := 60) rfl ?_); refine ev_setp (ad := ad58) rfl q190 Zd.string lens190_6_9 0 [] x51 (rd_T190 y80 x51) t82 HS (seg := [.string t82]) rfl (by decide) rfl rfl rfl (by rintro g rfl; simp only [add_plain]; refine congrArg (fun n => (⟨g, n, none⟩ : Addr)) ?_; first | rfl | (show 0 + (x51).toNat * 7 + 6 = (x51).toNat * 7 + 6; omega) | (show 0 + (x51).toNat * 7 = (x51).toNat * 7 + 0; omega)) rfl rfl (by kernel_rfl) (by simp [Value.oneCell']) ⟨of_eq_true c56, of_eq_true c57⟩ rfl (fun hl => rd_T190_get hl) (made_flat (fun _ => rfl)) ?_; clear HS; (try clear F); intro w85 HS; rw [← e_y86.out] at HS; replace HS : Hp A w _ [.own (Zd.slice 190 q190) y86 [.slice (some ad58) a0.length d1]] := HS))
     go_roundg k47
     case measure => have := HKk47.out; omega
     case rel => exact ⟨_, _, _, rfl, rfl, H, ⟨by have := HKk47.out; omega⟩, HS.pick [0] (by decide) (by rfl)⟩
   · replace H := zneg c53 H
     replace c53 := eq_false c53
     obtain ⟨rfl, rfl⟩ := zsome2 H
     go_wp2
     go_ret
     exact ⟨rfl, HS.pick [0] (by decide) (by rfl)⟩
/-! ### laws_markAnchorS: function 85 -/
def laws_markAnchorS.l0 : Nat → (List S128) → Int → Int → (List S128) → Option (Int × (List S128))
  | 0, _, _, _, _ => none
  | k + 1, l28, x30, x31, a0 => (if x31 < (a0.length : Int) then ((laws_markText.f k x30).bind fun t34 => (if 0 ≤ x31 then (if x31 < (a0.length : Int) then (lets (l28.set (x31).toNat (u128_0_9 (rd_T128 l28 x31) t34)) fun y40 => ((laws_markText.f k (wrap64 (x30 + 1))).bind fun t42 => (lets (y40.set (x31).toNat (u128_1_9 (rd_T128 y40 x31) t42)) fun y46 => (laws_markAnchorS.l0 k y46 (wrap64 ((wrap64 (x30 + 1)) + 1)) (wrap64 (x31 + 1)) a0)))) else none) else none)) else (some (x30, l28)))
def laws_markAnchorS.f (k : Nat) (a0 : (List S128)) (a1 : Int) : Option (Int × (List S128)) := (laws_markAnchorS.l0 k a0 a1 0 a0)
set_option maxHeartbeats 16000000 in
theorem laws_markAnchorS.calls {k : Nat} {a0 : (List S128)} {a1 : Int} {A : FP} {vp0 : Value} {r1 : Int} {r2 : (List S128)} {w : World} (h : laws_markAnchorS.f k a0 a1 = some (r1, r2)) (HS : Hp A w w [.own (Zd.slice 128 q128) a0 [vp0]]) :
    Calls Try.prog 85 #[vp0, .int .i64 a1] w (fun e w' => e = .returned (.int .i64 r1) ∧ Hp A w w' [.own (Zd.slice 128 q128) r2 [vp0]]) := by
 obtain ⟨B1, d1, rfl, m1⟩ := HS.form 0 rfl
 have H := Aside0.mk h
 clear h
 unfold laws_markAnchorS.f at H
 go_enter Try.func85, Try.ntmps85
 go_wp2
 go_loopg [1, 5] k (fun kq v_1 v_5 w' => ∃ (l28 : List S128) (x30 : Int) (x31 : Int), v_1 = .int .i64 x30 ∧ v_5 = .int .i64 x31 ∧ Aside0 (laws_markAnchorS.l0 kq l28 x30 x31 a0 = some (r1, r2)) ∧ Aside0 (kq ≤ k) ∧ Hp A w w' [.own (Zd.slice 128 q128) l28 [.slice B1 a0.length d1]])
 case atStart => exact ⟨_, _, _, rfl, rfl, H, ⟨Nat.le_refl _⟩, HS⟩
 case round =>
  clear HS H; (try clear F)
  obtain ⟨l28, x30, x31, rfl, rfl, H, HKk27, HS⟩ := hrel
  cases gk with
  | zero => exact absurd H.out (by simp [laws_markAnchorS.l0])
  | succ k27 =>
   simp only [laws_markAnchorS.l0] at H
   by_cases c33 : x31 < (a0.length : Int)
   · replace H := zpos c33 H
     replace c33 := eq_true c33
     replace H := zbind H; obtain ⟨t34, ht34, H⟩ := H
     by_cases c36 : 0 ≤ x31
     case neg => exact zno c36 H
     replace H := zpos c36 H
     replace c36 := eq_true c36
     by_cases c37 : x31 < (a0.length : Int)
     case neg => exact zno c37 H
     replace H := zpos c37 H
     replace c37 := eq_true c37
     replace H := zlets H; obtain ⟨y40, e_y40, H⟩ := H
     replace H := zbind H; obtain ⟨t42, ht42, H⟩ := H
     replace H := zlets H; obtain ⟨y46, e_y46, H⟩ := H
     go_wp2_with (first | ((with_reducible refine gate_dst (N := 15) rfl ?_); refine ev_call rfl Try.func110 (by kernel_rfl) rfl #[.int .i64 x30] rfl (by simp only [List.map_toArray, List.map_cons, List.map_nil]; rfl) ?_; refine (laws_markText.calls ht34.out).mono ?_; rintro _ wt34 ⟨rfl, HQ⟩; refine ⟨_, rfl, ?_⟩; replace HS := HS.call HQ; clear HQ; (try clear F); replace HS : Hp A w _ [.own (Zd.slice 128 q128) l28 [.slice B1 a0.length d1]] := HS; obtain ⟨ad38, rfl, e38_0, e38_1⟩ := at_T128 (HS.rd 0 rfl) x31 (of_eq_true c36) (of_eq_true c37)) | ((with_reducible refine gate_store (p := 17) rfl ?_); refine ev_setp (ad := ad38) rfl q128 Zd.string lens128_0_9 0 [] x31 (rd_T128 l28 x31) t34 HS (seg := [.string t34]) rfl (by decide) rfl rfl rfl (by rintro g rfl; simp only [add_plain]; refine congrArg (fun n => (⟨g, n, none⟩ : Addr)) ?_; first | rfl | (show 0 + (x31).toNat * 2 + 0 = (x31).toNat * 2 + 0; omega) | (show 0 + (x31).toNat * 2 = (x31).toNat * 2 + 0; omega)) rfl rfl (by kernel_rfl) (by simp [Value.oneCell']) ⟨of_eq_true c36, of_eq_true c37⟩ rfl (fun hl => rd_T128_get hl) (made_flat (fun _ => rfl)) ?_; clear HS; (try clear F); intro w39 HS; rw [← e_y40.out] at HS; replace HS : Hp A w _ [.own (Zd.slice 128 q128) y40 [.slice (some ad38) a0.length d1]] := HS) | ((with_reducible refine gate_dst (N := 23) rfl ?_); refine ev_call rfl Try.func110 (by kernel_rfl) rfl #[.int .i64 (wrap64 (x30 + 1))] rfl (by simp only [List.map_toArray, List.map_cons, List.map_nil]; rfl) ?_; refine (laws_markText.calls ht42.out).mono ?_; rintro _ wt42 ⟨rfl, HQ⟩; refine ⟨_, rfl, ?_⟩; replace HS := HS.call HQ; clear HQ; (try clear F); replace HS : Hp A w _ [.own (Zd.slice 128 q128) y40 [.slice (some ad38) a0.length d1]] := HS; obtain ⟨ad44, hq44, e44_0, e44_1⟩ := at_T128 (HS.rd 0 rfl) x31 (of_eq_true c36) (of_eq_true c37); obtain rfl := Option.some.inj hq44) | ((with_reducible refine gate_store (p := 25) rfl ?_); refine ev_setp (ad := ad38) rfl q128 Zd.string lens128_1_9 0 [] x31 (rd_T128 y40 x31) t42 HS (seg := [.string t42]) rfl (by decide) rfl rfl rfl (by rintro g rfl; simp only [add_plain]; refine congrArg (fun n => (⟨g, n, none⟩ : Addr)) ?_; first | rfl | (show 0 + (x31).toNat * 2 + 1 = (x31).toNat * 2 + 1; omega) | (show 0 + (x31).toNat * 2 = (x31).toNat * 2 + 0; omega)) rfl rfl (by kernel_rfl) (by simp [Value.oneCell']) ⟨of_eq_true c36, of_eq_true c37⟩ rfl (fun hl => rd_T128_get hl) (made_flat (fun _ => rfl)) ?_; clear HS; (try clear F); intro w45 HS; rw [← e_y46.out] at HS; replace HS : Hp A w _ [.own (Zd.slice 128 q128) y46 [.slice (some ad38) a0.length d1]] := HS))
     go_roundg k27
     case measure => have := HKk27.out; omega
     case rel => exact ⟨_, _, _, rfl, rfl, H, ⟨by have := HKk27.out; omega⟩, HS.pick [0] (by decide) (by rfl)⟩
   · replace H := zneg c33 H
     replace c33 := eq_false c33
     obtain ⟨rfl, rfl⟩ := zsome2 H
     go_wp2
     go_ret
     exact ⟨rfl, HS.pick [0] (by decide) (by rfl)⟩
/-! ### laws_markStore: function 27 -/
def laws_markStore.f (k : Nat) (a0 : S61) (a1 : Int) : Option (Int × (List S192) × (List S190) × (List S128)) := ((laws_markCertS.f k a0.f0 a1).bind fun t6 => ((laws_markCrlS.f k a0.f1 t6.1).bind fun t8 => ((laws_markAnchorS.f k a0.f2 t8.1).bind fun t10 => (some (t10.1, t6.2, t8.2, t10.2)))))
set_option maxHeartbeats 16000000 in
theorem laws_markStore.calls {k : Nat} {a0 : S61} {a1 : Int} {A : FP} {vp0 : Value} {vp1 : Value} {vp2 : Value} {r1 : Int} {r2 : (List S192)} {r3 : (List S190)} {r4 : (List S128)} {w : World} (h : laws_markStore.f k a0 a1 = some (r1, r2, r3, r4)) (HS : Hp A w w [.own (Zd.slice 192 q192) a0.f0 [vp0], .own (Zd.slice 190 q190) a0.f1 [vp1], .own (Zd.slice 128 q128) a0.f2 [vp2]]) :
    Calls Try.prog 27 #[.agg #[vp0, vp1, vp2], .int .i64 a1] w (fun e w' => e = .returned (.int .i64 r1) ∧ Hp A w w' [.own (Zd.slice 192 q192) r2 [vp0], .own (Zd.slice 190 q190) r3 [vp1], .own (Zd.slice 128 q128) r4 [vp2]]) := by
 obtain ⟨B1, d1, rfl, m1⟩ := HS.form 0 rfl
 obtain ⟨B2, d2, rfl, m2⟩ := HS.form 1 rfl
 obtain ⟨B3, d3, rfl, m3⟩ := HS.form 2 rfl
 have H := Aside0.mk h
 clear h
 unfold laws_markStore.f at H
 go_enter Try.func27, Try.ntmps27
 replace H := zbind H; obtain ⟨t6, ht6, H⟩ := H
 replace H := zbind H; obtain ⟨t8, ht8, H⟩ := H
 replace H := zbind H; obtain ⟨t10, ht10, H⟩ := H
 have H := zsome H; simp only [Prod.mk.injEq] at H; obtain ⟨rfl, rfl, rfl, rfl⟩ := H
 go_wp2_with (first | ((with_reducible refine gate_dst (N := 2) rfl ?_); refine ev_box rfl HS (by first | (go_simp; done) | (go_simp; rfl)) rfl ?_; clear HS; (try clear F); intro g2 w2 HS; replace HS : Hp A w _ [.own (Zd.slice 192 q192) a0.f0 [.slice B1 a0.f0.length d1], .own (Zd.slice 190 q190) a0.f1 [.slice B2 a0.f1.length d2], .own (Zd.slice 128 q128) a0.f2 [.slice B3 a0.f2.length d3], .box g2 [.slice B1 a0.f0.length d1, .slice B2 a0.f1.length d2, .slice B3 a0.f2.length d3] 61] := HS; have F := HS.boxes; simp only [boxFacts, and_true] at F) | ((with_reducible refine gate_dst (N := 8) rfl ?_); refine HS.lend [0] (by decide) [.own (Zd.slice 192 q192) a0.f0 [.slice B1 a0.f0.length d1]] rfl (fun A' HL HD HA HB => ?_); refine ev_call rfl Try.func83 (by kernel_rfl) rfl #[.slice B1 a0.f0.length d1, .int .i64 a1] rfl (by simp only [List.map_toArray, List.map_cons, List.map_nil]; rfl) ?_; refine (laws_markCertS.calls ht6.out HA).mono ?_; rintro _ wt6 ⟨rfl, HQ⟩; refine ⟨_, rfl, ?_⟩; replace HS : Hp A w _ [.own (Zd.slice 192 q192) t6.2 [.slice B1 a0.f0.length d1], .own (Zd.slice 190 q190) a0.f1 [.slice B2 a0.f1.length d2], .own (Zd.slice 128 q128) a0.f2 [.slice B3 a0.f2.length d3], .box g2 [.slice B1 a0.f0.length d1, .slice B2 a0.f1.length d2, .slice B3 a0.f2.length d3] 61] := HB _ _ HQ (Nat.le_of_ble_eq_true rfl); clear HQ HA HB HL HD; (try clear F); replace HS : Hp A w _ [.own (Zd.slice 192 q192) t6.2 [.slice B1 a0.f0.length d1], .own (Zd.slice 190 q190) a0.f1 [.slice B2 a0.f1.length d2], .own (Zd.slice 128 q128) a0.f2 [.slice B3 a0.f2.length d3], .box g2 [.slice B1 a0.f0.length d1, .slice B2 a0.f1.length d2, .slice B3 a0.f2.length d3] 61] := HS; have F := HS.boxes; simp only [boxFacts, and_true] at F) | ((with_reducible refine gate_dst (N := 12) rfl ?_); refine HS.lend [1] (by decide) [.own (Zd.slice 190 q190) a0.f1 [.slice B2 a0.f1.length d2]] rfl (fun A' HL HD HA HB => ?_); refine ev_call rfl Try.func84 (by kernel_rfl) rfl #[.slice B2 a0.f1.length d2, .int .i64 t6.1] rfl (by simp only [List.map_toArray, List.map_cons, List.map_nil]; rfl) ?_; refine (laws_markCrlS.calls ht8.out HA).mono ?_; rintro _ wt8 ⟨rfl, HQ⟩; refine ⟨_, rfl, ?_⟩; replace HS : Hp A w _ [.own (Zd.slice 192 q192) t6.2 [.slice B1 a0.f0.length d1], .own (Zd.slice 190 q190) t8.2 [.slice B2 a0.f1.length d2], .own (Zd.slice 128 q128) a0.f2 [.slice B3 a0.f2.length d3], .box g2 [.slice B1 a0.f0.length d1, .slice B2 a0.f1.length d2, .slice B3 a0.f2.length d3] 61] := HB _ _ HQ (Nat.le_of_ble_eq_true rfl); clear HQ HA HB HL HD; (try clear F); replace HS : Hp A w _ [.own (Zd.slice 192 q192) t6.2 [.slice B1 a0.f0.length d1], .own (Zd.slice 190 q190) t8.2 [.slice B2 a0.f1.length d2], .own (Zd.slice 128 q128) a0.f2 [.slice B3 a0.f2.length d3], .box g2 [.slice B1 a0.f0.length d1, .slice B2 a0.f1.length d2, .slice B3 a0.f2.length d3] 61] := HS; have F := HS.boxes; simp only [boxFacts, and_true] at F) | ((with_reducible refine gate_dst (N := 16) rfl ?_); refine HS.lend [2] (by decide) [.own (Zd.slice 128 q128) a0.f2 [.slice B3 a0.f2.length d3]] rfl (fun A' HL HD HA HB => ?_); refine ev_call rfl Try.func85 (by kernel_rfl) rfl #[.slice B3 a0.f2.length d3, .int .i64 t8.1] rfl (by simp only [List.map_toArray, List.map_cons, List.map_nil]; rfl) ?_; refine (laws_markAnchorS.calls ht10.out HA).mono ?_; rintro _ wt10 ⟨rfl, HQ⟩; refine ⟨_, rfl, ?_⟩; replace HS : Hp A w _ [.own (Zd.slice 192 q192) t6.2 [.slice B1 a0.f0.length d1], .own (Zd.slice 190 q190) t8.2 [.slice B2 a0.f1.length d2], .own (Zd.slice 128 q128) t10.2 [.slice B3 a0.f2.length d3], .box g2 [.slice B1 a0.f0.length d1, .slice B2 a0.f1.length d2, .slice B3 a0.f2.length d3] 61] := HB _ _ HQ (Nat.le_of_ble_eq_true rfl); clear HQ HA HB HL HD; (try clear F); replace HS : Hp A w _ [.own (Zd.slice 192 q192) t6.2 [.slice B1 a0.f0.length d1], .own (Zd.slice 190 q190) t8.2 [.slice B2 a0.f1.length d2], .own (Zd.slice 128 q128) t10.2 [.slice B3 a0.f2.length d3], .box g2 [.slice B1 a0.f0.length d1, .slice B2 a0.f1.length d2, .slice B3 a0.f2.length d3] 61] := HS; have F := HS.boxes; simp only [boxFacts, and_true] at F))
 go_ret
 exact ⟨rfl, HS.pick [0, 1, 2] (by decide) (by rfl)⟩
/-! ### laws_markRules: function 86 -/
def laws_markRules.f (k : Nat) (a0 : S64) (a1 : Int) : Option (Int × (List Int)) := ((laws_markIntS.f k a0.f1 a1).bind fun t4 => (some (t4.1, t4.2)))
set_option maxHeartbeats 16000000 in
theorem laws_markRules.calls {k : Nat} {a0 : S64} {a1 : Int} {A : FP} {vp0 : Value} {r1 : Int} {r2 : (List Int)} {w : World} (h : laws_markRules.f k a0 a1 = some (r1, r2)) (HS : Hp A w w [.own (Zd.slice 3 (Zd.int .i64)) a0.f1 [vp0]]) :
    Calls Try.prog 86 #[.agg #[.int .i64 a0.f0, vp0, .bool a0.f2, .bool a0.f3, .int .i64 a0.f4], .int .i64 a1] w (fun e w' => e = .returned (.int .i64 r1) ∧ Hp A w w' [.own (Zd.slice 3 (Zd.int .i64)) r2 [vp0]]) := by
 obtain ⟨B1, d1, rfl, m1⟩ := HS.form 0 rfl
 have H := Aside0.mk h
 clear h
 unfold laws_markRules.f at H
 go_enter Try.func86, Try.ntmps86
 replace H := zbind H; obtain ⟨t4, ht4, H⟩ := H
 obtain ⟨rfl, rfl⟩ := zsome2 H
 go_wp2_with (first | ((with_reducible refine gate_dst (N := 2) rfl ?_); refine ev_box rfl HS (by first | (go_simp; done) | (go_simp; rfl)) rfl ?_; clear HS; (try clear F); intro g2 w2 HS; replace HS : Hp A w _ [.own (Zd.slice 3 (Zd.int .i64)) a0.f1 [.slice B1 a0.f1.length d1], .box g2 [.int .i64 a0.f0, .slice B1 a0.f1.length d1, .bool a0.f2, .bool a0.f3, .int .i64 a0.f4] 64] := HS; have F := HS.boxes; simp only [boxFacts, and_true] at F) | ((with_reducible refine gate_dst (N := 8) rfl ?_); refine HS.lend [0] (by decide) [.own (Zd.slice 3 (Zd.int .i64)) a0.f1 [.slice B1 a0.f1.length d1]] rfl (fun A' HL HD HA HB => ?_); refine ev_call rfl Try.func49 (by kernel_rfl) rfl #[.slice B1 a0.f1.length d1, .int .i64 a1] rfl (by simp only [List.map_toArray, List.map_cons, List.map_nil]; rfl) ?_; refine (laws_markIntS.calls ht4.out HA).mono ?_; rintro _ wt4 ⟨rfl, HQ⟩; refine ⟨_, rfl, ?_⟩; replace HS : Hp A w _ [.own (Zd.slice 3 (Zd.int .i64)) t4.2 [.slice B1 a0.f1.length d1], .box g2 [.int .i64 a0.f0, .slice B1 a0.f1.length d1, .bool a0.f2, .bool a0.f3, .int .i64 a0.f4] 64] := HB _ _ HQ (Nat.le_of_ble_eq_true rfl); clear HQ HA HB HL HD; (try clear F); replace HS : Hp A w _ [.own (Zd.slice 3 (Zd.int .i64)) t4.2 [.slice B1 a0.f1.length d1], .box g2 [.int .i64 a0.f0, .slice B1 a0.f1.length d1, .bool a0.f2, .bool a0.f3, .int .i64 a0.f4] 64] := HS; have F := HS.boxes; simp only [boxFacts, and_true] at F))
 go_ret
 exact ⟨rfl, HS.pick [0] (by decide) (by rfl)⟩
/-! ### laws_markPlan: function 28 -/
def laws_markPlan.f (k : Nat) (a0 : S66) (a1 : Int) : Option (Int × (List Int) × (List Int)) := ((laws_markIntS.f k a0.f1 a1).bind fun t5 => ((laws_markRules.f k a0.f2 t5.1).bind fun t7 => (some (t7.1, t5.2, t7.2))))
set_option maxHeartbeats 16000000 in
theorem laws_markPlan.calls {k : Nat} {a0 : S66} {a1 : Int} {A : FP} {vp0 : Value} {vp1 : Value} {r1 : Int} {r2 : (List Int)} {r3 : (List Int)} {w : World} (h : laws_markPlan.f k a0 a1 = some (r1, r2, r3)) (HS : Hp A w w [.own (Zd.slice 3 (Zd.int .i64)) a0.f1 [vp0], .own (Zd.slice 3 (Zd.int .i64)) a0.f2.f1 [vp1]]) :
    Calls Try.prog 28 #[.agg #[.int .i64 a0.f0, vp0, .int .i64 a0.f2.f0, vp1, .bool a0.f2.f2, .bool a0.f2.f3, .int .i64 a0.f2.f4], .int .i64 a1] w (fun e w' => e = .returned (.int .i64 r1) ∧ Hp A w w' [.own (Zd.slice 3 (Zd.int .i64)) r2 [vp0], .own (Zd.slice 3 (Zd.int .i64)) r3 [vp1]]) := by
 obtain ⟨B1, d1, rfl, m1⟩ := HS.form 0 rfl
 obtain ⟨B2, d2, rfl, m2⟩ := HS.form 1 rfl
 have H := Aside0.mk h
 clear h
 unfold laws_markPlan.f at H
 go_enter Try.func28, Try.ntmps28
 replace H := zbind H; obtain ⟨t5, ht5, H⟩ := H
 replace H := zbind H; obtain ⟨t7, ht7, H⟩ := H
 obtain ⟨rfl, rfl, rfl⟩ := zsome3 H
 go_wp2_with (first | ((with_reducible refine gate_dst (N := 2) rfl ?_); refine ev_box rfl HS (by first | (go_simp; done) | (go_simp; rfl)) rfl ?_; clear HS; (try clear F); intro g2 w2 HS; replace HS : Hp A w _ [.own (Zd.slice 3 (Zd.int .i64)) a0.f1 [.slice B1 a0.f1.length d1], .own (Zd.slice 3 (Zd.int .i64)) a0.f2.f1 [.slice B2 a0.f2.f1.length d2], .box g2 [.int .i64 a0.f0, .slice B1 a0.f1.length d1, .int .i64 a0.f2.f0, .slice B2 a0.f2.f1.length d2, .bool a0.f2.f2, .bool a0.f2.f3, .int .i64 a0.f2.f4] 66] := HS; have F := HS.boxes; simp only [boxFacts, and_true] at F) | ((with_reducible refine gate_dst (N := 8) rfl ?_); refine HS.lend [0] (by decide) [.own (Zd.slice 3 (Zd.int .i64)) a0.f1 [.slice B1 a0.f1.length d1]] rfl (fun A' HL HD HA HB => ?_); refine ev_call rfl Try.func49 (by kernel_rfl) rfl #[.slice B1 a0.f1.length d1, .int .i64 a1] rfl (by simp only [List.map_toArray, List.map_cons, List.map_nil]; rfl) ?_; refine (laws_markIntS.calls ht5.out HA).mono ?_; rintro _ wt5 ⟨rfl, HQ⟩; refine ⟨_, rfl, ?_⟩; replace HS : Hp A w _ [.own (Zd.slice 3 (Zd.int .i64)) t5.2 [.slice B1 a0.f1.length d1], .own (Zd.slice 3 (Zd.int .i64)) a0.f2.f1 [.slice B2 a0.f2.f1.length d2], .box g2 [.int .i64 a0.f0, .slice B1 a0.f1.length d1, .int .i64 a0.f2.f0, .slice B2 a0.f2.f1.length d2, .bool a0.f2.f2, .bool a0.f2.f3, .int .i64 a0.f2.f4] 66] := HB _ _ HQ (Nat.le_of_ble_eq_true rfl); clear HQ HA HB HL HD; (try clear F); replace HS : Hp A w _ [.own (Zd.slice 3 (Zd.int .i64)) t5.2 [.slice B1 a0.f1.length d1], .own (Zd.slice 3 (Zd.int .i64)) a0.f2.f1 [.slice B2 a0.f2.f1.length d2], .box g2 [.int .i64 a0.f0, .slice B1 a0.f1.length d1, .int .i64 a0.f2.f0, .slice B2 a0.f2.f1.length d2, .bool a0.f2.f2, .bool a0.f2.f3, .int .i64 a0.f2.f4] 66] := HS; have F := HS.boxes; simp only [boxFacts, and_true] at F) | ((with_reducible refine gate_dst (N := 12) rfl ?_); refine HS.lend [1] (by decide) [.own (Zd.slice 3 (Zd.int .i64)) a0.f2.f1 [.slice B2 a0.f2.f1.length d2]] rfl (fun A' HL HD HA HB => ?_); refine ev_call rfl Try.func86 (by kernel_rfl) rfl #[.agg #[.int .i64 a0.f2.f0, .slice B2 a0.f2.f1.length d2, .bool a0.f2.f2, .bool a0.f2.f3, .int .i64 a0.f2.f4], .int .i64 t5.1] rfl (by simp only [List.map_toArray, List.map_cons, List.map_nil]; rfl) ?_; refine (laws_markRules.calls ht7.out HA).mono ?_; rintro _ wt7 ⟨rfl, HQ⟩; refine ⟨_, rfl, ?_⟩; replace HS : Hp A w _ [.own (Zd.slice 3 (Zd.int .i64)) t5.2 [.slice B1 a0.f1.length d1], .own (Zd.slice 3 (Zd.int .i64)) t7.2 [.slice B2 a0.f2.f1.length d2], .box g2 [.int .i64 a0.f0, .slice B1 a0.f1.length d1, .int .i64 a0.f2.f0, .slice B2 a0.f2.f1.length d2, .bool a0.f2.f2, .bool a0.f2.f3, .int .i64 a0.f2.f4] 66] := HB _ _ HQ (Nat.le_of_ble_eq_true rfl); clear HQ HA HB HL HD; (try clear F); replace HS : Hp A w _ [.own (Zd.slice 3 (Zd.int .i64)) t5.2 [.slice B1 a0.f1.length d1], .own (Zd.slice 3 (Zd.int .i64)) t7.2 [.slice B2 a0.f2.f1.length d2], .box g2 [.int .i64 a0.f0, .slice B1 a0.f1.length d1, .int .i64 a0.f2.f0, .slice B2 a0.f2.f1.length d2, .bool a0.f2.f2, .bool a0.f2.f3, .int .i64 a0.f2.f4] 66] := HS; have F := HS.boxes; simp only [boxFacts, and_true] at F))
 go_ret
 exact ⟨rfl, HS.pick [0, 1] (by decide) (by rfl)⟩
/-! ### laws_heldStringS: function 125 -/
def laws_heldStringS.l0 : Nat → Int → Int → (List ByteArray) → Option (Int)
  | 0, _, _, _ => none
  | k + 1, x9, x10, a0 => (if x10 < (a0.length : Int) then (if 0 ≤ x10 then (if x10 < (a0.length : Int) then ((laws_markText.f k x9).bind fun t205001 => (if (rdOf ByteArray.empty a0 x10).toList = t205001.toList then (laws_heldStringS.l0 k (wrap64 (x9 + 1)) (wrap64 (x10 + 1)) a0) else (some (-1)))) else none) else none) else (some x9))
def laws_heldStringS.f (k : Nat) (a0 : (List ByteArray)) (a1 : Int) : Option (Int) := (laws_heldStringS.l0 k a1 0 a0)
def laws_heldStringS.T4 : Bool × List (List Nat × List Nat) := (true, [([], []), ([], []), ([0, 1], [0, 1]), ([2], [2]), ([], []), ([4], [4]), ([3, 5], [3, 5])])
theorem laws_heldStringS.tT4 : rtab .any (opsOf Try.f125 4) = laws_heldStringS.T4 := by kernel_rfl
set_option maxHeartbeats 16000000 in
theorem laws_heldStringS.calls {k : Nat} {a0 : (List ByteArray)} {a1 : Int} {Ap0 : Option Addr} {np0 cp0 : Nat} {r : Int} {w : World} (h : laws_heldStringS.f k a0 a1 = some r) (gp0 : Kd.string.C w Ap0 np0 a0) (lp0 : np0 ≤ cp0) :
    Calls Try.prog 125 #[.slice Ap0 np0 cp0, .int .i64 a1] w (fun e w' => e = .returned (.int .i64 r) ∧ Hp noFP w w' []) := by
 obtain rfl := C_len gp0
 have HS := Hp.start w
 have H := Aside0.mk h
 clear h
 unfold laws_heldStringS.f at H
 go_enter Try.func125, Try.ntmps125
 go_wp2
 go_loopg [1, 5] k (fun kq v_1 v_5 w' => ∃ (x9 : Int) (x10 : Int), v_1 = .int .i64 x9 ∧ v_5 = .int .i64 x10 ∧ Aside0 (laws_heldStringS.l0 kq x9 x10 a0 = some r) ∧ Aside0 (kq ≤ k) ∧ Hp noFP w w' [])
 case atStart => exact ⟨_, _, rfl, rfl, H, ⟨Nat.le_refl _⟩, HS⟩
 case round =>
  clear HS H; (try clear F)
  obtain ⟨x9, x10, rfl, rfl, H, HKk8, HS⟩ := hrel
  cases gk with
  | zero => exact absurd H.out (by simp [laws_heldStringS.l0])
  | succ k8 =>
   simp only [laws_heldStringS.l0] at H
   by_cases c12 : x10 < (a0.length : Int)
   · replace H := zpos c12 H
     replace c12 := eq_true c12
     (try go_wp2)
     by_cases c202001 : 0 ≤ x10
     case neg => exact zno c202001 H
     replace H := zpos c202001 H
     replace c202001 := eq_true c202001
     by_cases c202002 : x10 < (a0.length : Int)
     case neg => exact zno c202002 H
     replace H := zpos c202002 H
     replace c202002 := eq_true c202002
     obtain ⟨ad202999, rfl, e202999_0⟩ := Kd.at_string gp0 x10 (of_eq_true c202001) (of_eq_true c202002)
     replace H := zbind H; obtain ⟨t205001, ht205001, H⟩ := H
     refine dr_start [] HS #[false, false, false, false, false, false, false] (by kernel_rfl) rfl rfl laws_heldStringS.tT4 (fun w14 HT HS HH => ?_)
     (try clear F)
     refine drq_of [(0, some 12), (1, some 13), (2, some 14)] ?_
     repeat (first | (refine drq_pure HT (v := ?_) (a' := ?_) rfl rfl (by kernel_rfl) (fun _ _ _ h => h) (.inl ⟨by rfl, ?_⟩) ?_ ?_; rotate_left; (intro w'; go_simp; with_reducible rfl); rotate_left; (simp only [Act.put, List.setIfInBounds_toArray, List.set_cons_zero, List.set_cons_succ, i64_w, i32_w]; rfl)))
     refine drq_end ?_
     refine dr_take 3 (some 15) HT HH (v := ?_) (a' := ?_) rfl rfl (by kernel_rfl) (fun _ _ _ h => h) (.inl ⟨by rfl, ?_⟩) ?_ ?_
     rotate_left
     · rintro w' ⟨rs', HS'⟩; have e202999_0 := (HS'.keepc e202999_0); go_simp; with_reducible rfl
     rotate_left
     · simp only [Act.put, List.setIfInBounds_toArray, List.set_cons_zero, List.set_cons_succ, i64_w, i32_w]; rfl
     refine drq_of [(4, some 16)] ?_
     repeat (first | (refine drq_pure HT (v := ?_) (a' := ?_) rfl rfl (by kernel_rfl) (fun _ _ _ h => h) (.inl ⟨by rfl, ?_⟩) ?_ ?_; rotate_left; (intro w'; go_simp; with_reducible rfl); rotate_left; (simp only [Act.put, List.setIfInBounds_toArray, List.set_cons_zero, List.set_cons_succ, i64_w, i32_w]; rfl)))
     refine drq_end ?_
     refine dr_one 5 HT rfl (by kernel_rfl) (by decide) (fun K hK => ?_)
     refine goes_ Try.func110 (by kernel_rfl) rfl #[.int .i64 x9] (by rfl) rfl rfl (by simp only [List.map_toArray, List.map_cons, List.map_nil]; rfl) ?_; refine (laws_markText.calls ht205001.out).mono ?_; rintro _ wt205001 ⟨rfl, HQ⟩; refine ⟨_, rfl, ?_⟩; replace HS := HS.call HQ; clear HQ; (try clear F)
     replace HS : Hp noFP w _ [] := HS
     refine hK.out _ _ ⟨_, HS⟩ (fun HH => ?_)
     clear hK K
     refine norm_ (a' := ?_) ?_ ?_
     rotate_left
     · show Act.put _ (some 17) _ = _; simp only [Act.put, List.setIfInBounds_toArray, List.set_cons_zero, List.set_cons_succ, i64_w, i32_w]; rfl
     refine drq_of [(6, some 18)] ?_
     repeat (first | (refine drq_pure HT (v := ?_) (a' := ?_) rfl rfl (by kernel_rfl) (fun _ _ _ h => h) (.inl ⟨by rfl, ?_⟩) ?_ ?_; rotate_left; (intro w'; go_simp; with_reducible rfl); rotate_left; (simp only [Act.put, List.setIfInBounds_toArray, List.set_cons_zero, List.set_cons_succ, i64_w, i32_w]; rfl)))
     refine drq_end ?_
     refine done_ (done_of HT.out (by kernel_rfl)) ?_
     by_cases c16 : (rdOf ByteArray.empty a0 x10).toList = t205001.toList
     · replace H := zpos c16 H
       have c16a := beq_iff_eq.mpr c16
       have c16b := bne_eq_false_iff_eq.mpr c16
       clear c16
       (try simp only [c16a, c16b, decide_true, decide_false, Bool.not_true, Bool.not_false])
       go_wp2
       go_roundg k8
       case measure => have := HKk8.out; omega
       case rel => exact ⟨_, _, rfl, rfl, H, ⟨by have := HKk8.out; omega⟩, HS.pick [] (by decide) (by rfl)⟩
     · replace H := zneg c16 H
       have c16a := beq_eq_false_iff_ne.mpr c16
       have c16b := bne_iff_ne.mpr c16
       clear c16
       (try simp only [c16a, c16b, decide_true, decide_false, Bool.not_true, Bool.not_false])
       obtain rfl := zsome H
       go_wp2
       go_ret
       exact ⟨rfl, HS.pick [] (by decide) (by rfl)⟩
   · replace H := zneg c12 H
     replace c12 := eq_false c12
     obtain rfl := zsome H
     go_wp2
     go_ret
     exact ⟨rfl, HS.pick [] (by decide) (by rfl)⟩
/-! ### laws_heldIntS: function 52 -/
def laws_heldIntS.l0 : Nat → Int → Int → (List Int) → Option (Int)
  | 0, _, _, _ => none
  | k + 1, x11, x12, a0 => (if x12 < (a0.length : Int) then (if 0 ≤ x12 then (if x12 < (a0.length : Int) then (if (rd a0 x12) = x11 then (laws_heldIntS.l0 k (wrap64 (x11 + 1)) (wrap64 (x12 + 1)) a0) else (some (-1))) else none) else none) else (some x11))
def laws_heldIntS.f (k : Nat) (a0 : (List Int)) (a1 : Int) : Option (Int) := (laws_heldIntS.l0 k a1 0 a0)
set_option maxHeartbeats 16000000 in
theorem laws_heldIntS.calls {k : Nat} {a0 : (List Int)} {a1 : Int} {Ap0 : Option Addr} {np0 cp0 : Nat} {r : Int} {w : World} (h : laws_heldIntS.f k a0 a1 = some r) (gp0 : (Kd.int .i64).C w Ap0 np0 a0) (lp0 : np0 ≤ cp0) :
    Calls Try.prog 52 #[.slice Ap0 np0 cp0, .int .i64 a1] w (fun e w' => e = .returned (.int .i64 r) ∧ Hp noFP w w' []) := by
 obtain rfl := C_len gp0
 have HS := Hp.start w
 have H := Aside0.mk h
 clear h
 unfold laws_heldIntS.f at H
 go_enter Try.func52, Try.ntmps52
 go_wp2
 go_loopg [1, 5] k (fun kq v_1 v_5 w' => ∃ (x11 : Int) (x12 : Int), v_1 = .int .i64 x11 ∧ v_5 = .int .i64 x12 ∧ Aside0 (laws_heldIntS.l0 kq x11 x12 a0 = some r) ∧ Aside0 (kq ≤ k) ∧ Hp noFP w w' [])
 case atStart => exact ⟨_, _, rfl, rfl, H, ⟨Nat.le_refl _⟩, HS⟩
 case round =>
  clear HS H; (try clear F)
  obtain ⟨x11, x12, rfl, rfl, H, HKk10, HS⟩ := hrel
  cases gk with
  | zero => exact absurd H.out (by simp [laws_heldIntS.l0])
  | succ k10 =>
   simp only [laws_heldIntS.l0] at H
   by_cases c14 : x12 < (a0.length : Int)
   · replace H := zpos c14 H
     replace c14 := eq_true c14
     by_cases c15 : 0 ≤ x12
     case neg => exact zno c15 H
     replace H := zpos c15 H
     replace c15 := eq_true c15
     by_cases c16 : x12 < (a0.length : Int)
     case neg => exact zno c16 H
     replace H := zpos c16 H
     replace c16 := eq_true c16
     obtain ⟨ad17, rfl, e17_0⟩ := Kd.at_int gp0 x12 (of_eq_true c15) (of_eq_true c16)
     have e17_0_17 := (HS.keepc e17_0)
     by_cases c18 : (rd a0 x12) = x11
     · replace H := zpos c18 H
       have c18a := beq_iff_eq.mpr c18
       have c18b := bne_eq_false_iff_eq.mpr c18
       clear c18
       go_wp2
       go_roundg k10
       case measure => have := HKk10.out; omega
       case rel => exact ⟨_, _, rfl, rfl, H, ⟨by have := HKk10.out; omega⟩, HS.pick [] (by decide) (by rfl)⟩
     · replace H := zneg c18 H
       have c18a := beq_eq_false_iff_ne.mpr c18
       have c18b := bne_iff_ne.mpr c18
       clear c18
       obtain rfl := zsome H
       go_wp2
       go_ret
       exact ⟨rfl, HS.pick [] (by decide) (by rfl)⟩
   · replace H := zneg c14 H
     replace c14 := eq_false c14
     obtain rfl := zsome H
     go_wp2
     go_ret
     exact ⟨rfl, HS.pick [] (by decide) (by rfl)⟩
end Go.Proofs.Ytoaoncnbimcdgaa.F
