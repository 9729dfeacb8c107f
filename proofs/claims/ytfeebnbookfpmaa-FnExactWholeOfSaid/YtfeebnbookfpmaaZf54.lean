import Derived.Test.YtfeebnbookfpmaaZT
import Derived.Test.YtfeebnbookfpmaaZf103
import Derived.Test.YtfeebnbookfpmaaZf104
namespace Go.Proofs.Ytfeebnbookfpmaa.F
open Go.RowKit Go.Proofs.YtfeebnbookfpmaaW.PrintWords Go.Proofs.YtfeebnbookfpmaaW.PrintLast Go.Proofs.YtfeebnbookfpmaaW.PrintMore Go.Proofs.Ytfeebnbookfpmaa.Z
attribute [local go_sem] max2_int min2_int max_two min_two max_three min_three max_four min_four
set_option linter.unusedVariables false
set_option linter.unusedSimpArgs false
set_option maxRecDepth 100000
/-! ### laws_markCrlS: function 54 -/
def laws_markCrlS.l0 : Nat → (List S54) → Int → Int → (List S54) → Option (Int × (List S54))
  | 0, _, _, _, _ => none
  | k + 1, l48, x50, x51, a0 => (if x51 < (a0.length : Int) then ((laws_markText.f k x50).bind fun t54 => (if 0 ≤ x51 then (if x51 < (a0.length : Int) then (lets (l48.set (x51).toNat (u54_0_9 (rd_T54 l48 x51) t54)) fun y60 => (lets (y60.set (x51).toNat (u54_1_3 (rd_T54 y60 x51) (wrap64 (x50 + 1)))) fun y64 => (lets (y64.set (x51).toNat (u54_2_3 (rd_T54 y64 x51) (wrap64 ((wrap64 (x50 + 1)) + 1)))) fun y68 => (lets (y68.set (x51).toNat (u54_3_3 (rd_T54 y68 x51) (wrap64 ((wrap64 ((wrap64 (x50 + 1)) + 1)) + 1)))) fun y72 => (lets (y72.set (x51).toNat (u54_4_3 (rd_T54 y72 x51) (wrap64 ((wrap64 ((wrap64 ((wrap64 (x50 + 1)) + 1)) + 1)) + 1)))) fun y76 => ((laws_markRevS.f k ((rd_T54 y76 x51).f5) (wrap64 ((wrap64 ((wrap64 ((wrap64 ((wrap64 (x50 + 1)) + 1)) + 1)) + 1)) + 1))).bind fun t79 => (lets (y76.set (x51).toNat (u54_5_52 (rd_T54 y76 x51) t79.2)) fun y80 => ((laws_markText.f k t79.1).bind fun t82 => (lets (y80.set (x51).toNat (u54_6_9 (rd_T54 y80 x51) t82)) fun y86 => (laws_markCrlS.l0 k y86 (wrap64 (t79.1 + 1)) (wrap64 (x51 + 1)) a0)))))))))) else none) else none)) else (some (x50, l48)))
def laws_markCrlS.f (k : Nat) (a0 : (List S54)) (a1 : Int) : Option (Int × (List S54)) := (laws_markCrlS.l0 k a0 a1 0 a0)
set_option maxHeartbeats 16000000 in
theorem laws_markCrlS.calls {k : Nat} {a0 : (List S54)} {a1 : Int} {A : FP} {vp0 : Value} {r1 : Int} {r2 : (List S54)} {w : World} (h : laws_markCrlS.f k a0 a1 = some (r1, r2)) (HS : Hp A w w [.own (Zd.slice 54 q54) a0 [vp0]]) :
    Calls Try.prog 54 #[vp0, .int .i64 a1] w (fun e w' => e = .returned (.int .i64 r1) ∧ Hp A w w' [.own (Zd.slice 54 q54) r2 [vp0]]) := by
 obtain ⟨B1, d1, rfl, m1⟩ := HS.form 0 rfl
 have H := Aside0.mk h
 clear h
 unfold laws_markCrlS.f at H
 go_enter Try.func54, Try.ntmps54
 go_wp2
 go_loopg [1, 5] k (fun kq v_1 v_5 w' => ∃ (l48 : List S54) (x50 : Int) (x51 : Int), v_1 = .int .i64 x50 ∧ v_5 = .int .i64 x51 ∧ Aside0 (laws_markCrlS.l0 kq l48 x50 x51 a0 = some (r1, r2)) ∧ Aside0 (kq ≤ k) ∧ Hp A w w' [.own (Zd.slice 54 q54) l48 [.slice B1 a0.length d1]])
 case atStart => exact ⟨_, _, _, rfl, rfl, H, ⟨Nat.le_refl _⟩, HS⟩
 case round =>
  clear HS H; (try clear F)
  obtain ⟨l48, x50, x51, rfl, rfl, H, HKk47, HS⟩ := hrel
  cases gk with
  | zero => exact absurd H.out (by simp [laws_markCrlS.l0])
  | succ k47 =>
   simp only [laws_markCrlS.l0] at H
   by_cases c53 : x51 < (a0.length : Int)
   · replace H := zpos c53 H
     replace c53 := eq_true c53
     obtain ⟨t54, ht54, H⟩ := zbind H
     by_cases c56 : 0 ≤ x51
     case neg => exact zno c56 H
     replace H := zpos c56 H
     replace c56 := eq_true c56
     by_cases c57 : x51 < (a0.length : Int)
     case neg => exact zno c57 H
     replace H := zpos c57 H
     replace c57 := eq_true c57
     obtain ⟨y60, e_y60, H⟩ := zlets H
     obtain ⟨y64, e_y64, H⟩ := zlets H
     obtain ⟨y68, e_y68, H⟩ := zlets H
     obtain ⟨y72, e_y72, H⟩ := zlets H
     obtain ⟨y76, e_y76, H⟩ := zlets H
     obtain ⟨t79, ht79, H⟩ := zbind H
     obtain ⟨y80, e_y80, H⟩ := zlets H
     obtain ⟨t82, ht82, H⟩ := zbind H
     obtain ⟨y86, e_y86, H⟩ := zlets H
     go_wp2_with (first | ((with_reducible refine gate_dst (N := 15) rfl ?_); refine ev_call rfl Try.func103 (by kernel_rfl) rfl #[.int .i64 x50] rfl (by simp only [List.map_toArray, List.map_cons, List.map_nil]; rfl) ?_; refine (laws_markText.calls ht54.out).mono ?_; rintro _ wt54 ⟨rfl, HQ⟩; refine ⟨_, rfl, ?_⟩; replace HS := HS.call HQ; clear HQ; (try clear F); obtain ⟨ad58, B58_5, d58_5, rfl, e58_0, e58_1, e58_2, e58_3, e58_4, e58_5, e58_6, m58_5, y58_5⟩ := at_T54 (HS.rd 0 rfl) x51 (of_eq_true c56) (of_eq_true c57)) | ((with_reducible refine gate_store (p := 17) rfl ?_); refine ev_setp (ad := ad58) rfl q54 Zd.string lens54_0_9 0 [] x51 (rd_T54 l48 x51) t54 HS (seg := [.string t54]) rfl (by decide) rfl rfl rfl (by rintro g rfl; simp only [add_plain]; refine congrArg (fun n => (⟨g, n, none⟩ : Addr)) ?_; first | rfl | (show 0 + (x51).toNat * 7 + 0 = (x51).toNat * 7 + 0; omega) | (show 0 + (x51).toNat * 7 = (x51).toNat * 7 + 0; omega)) rfl rfl (by kernel_rfl) (by simp [Value.oneCell']) ⟨of_eq_true c56, of_eq_true c57⟩ rfl (fun hl => rd_T54_get hl) (made_flat (fun _ => rfl)) ?_; clear HS; (try clear F); intro w59 HS; rw [← e_y60.out] at HS; obtain ⟨ad62, B62_5, d62_5, hq62, e62_0, e62_1, e62_2, e62_3, e62_4, e62_5, e62_6, m62_5, y62_5⟩ := at_T54 (HS.rd 0 rfl) x51 (of_eq_true c56) (of_eq_true c57); obtain rfl := Option.some.inj hq62) | ((with_reducible refine gate_store (p := 24) rfl ?_); refine ev_setp (ad := ad58) rfl q54 (Zd.int .i64) lens54_1_3 0 [] x51 (rd_T54 y60 x51) (wrap64 (x50 + 1)) HS (seg := [.int .i64 (wrap64 (x50 + 1))]) rfl (by decide) rfl rfl rfl (by rintro g rfl; simp only [add_plain]; refine congrArg (fun n => (⟨g, n, none⟩ : Addr)) ?_; first | rfl | (show 0 + (x51).toNat * 7 + 1 = (x51).toNat * 7 + 1; omega) | (show 0 + (x51).toNat * 7 = (x51).toNat * 7 + 0; omega)) rfl rfl (by kernel_rfl) (by simp [Value.oneCell']) ⟨of_eq_true c56, of_eq_true c57⟩ rfl (fun hl => rd_T54_get hl) (made_flat (fun _ => rfl)) ?_; clear HS; (try clear F); intro w63 HS; rw [← e_y64.out] at HS; obtain ⟨ad66, B66_5, d66_5, hq66, e66_0, e66_1, e66_2, e66_3, e66_4, e66_5, e66_6, m66_5, y66_5⟩ := at_T54 (HS.rd 0 rfl) x51 (of_eq_true c56) (of_eq_true c57); obtain rfl := Option.some.inj hq66) | ((with_reducible refine gate_store (p := 31) rfl ?_); refine ev_setp (ad := ad58) rfl q54 (Zd.int .i64) lens54_2_3 0 [] x51 (rd_T54 y64 x51) (wrap64 ((wrap64 (x50 + 1)) + 1)) HS (seg := [.int .i64 (wrap64 ((wrap64 (x50 + 1)) + 1))]) rfl (by decide) rfl rfl rfl (by rintro g rfl; simp only [add_plain]; refine congrArg (fun n => (⟨g, n, none⟩ : Addr)) ?_; first | rfl | (show 0 + (x51).toNat * 7 + 2 = (x51).toNat * 7 + 2; omega) | (show 0 + (x51).toNat * 7 = (x51).toNat * 7 + 0; omega)) rfl rfl (by kernel_rfl) (by simp [Value.oneCell']) ⟨of_eq_true c56, of_eq_true c57⟩ rfl (fun hl => rd_T54_get hl) (made_flat (fun _ => rfl)) ?_; clear HS; (try clear F); intro w67 HS; rw [← e_y68.out] at HS; obtain ⟨ad70, B70_5, d70_5, hq70, e70_0, e70_1, e70_2, e70_3, e70_4, e70_5, e70_6, m70_5, y70_5⟩ := at_T54 (HS.rd 0 rfl) x51 (of_eq_true c56) (of_eq_true c57); obtain rfl := Option.some.inj hq70) | ((with_reducible refine gate_store (p := 38) rfl ?_); refine ev_setp (ad := ad58) rfl q54 (Zd.int .i64) lens54_3_3 0 [] x51 (rd_T54 y68 x51) (wrap64 ((wrap64 ((wrap64 (x50 + 1)) + 1)) + 1)) HS (seg := [.int .i64 (wrap64 ((wrap64 ((wrap64 (x50 + 1)) + 1)) + 1))]) rfl (by decide) rfl rfl rfl (by rintro g rfl; simp only [add_plain]; refine congrArg (fun n => (⟨g, n, none⟩ : Addr)) ?_; first | rfl | (show 0 + (x51).toNat * 7 + 3 = (x51).toNat * 7 + 3; omega) | (show 0 + (x51).toNat * 7 = (x51).toNat * 7 + 0; omega)) rfl rfl (by kernel_rfl) (by simp [Value.oneCell']) ⟨of_eq_true c56, of_eq_true c57⟩ rfl (fun hl => rd_T54_get hl) (made_flat (fun _ => rfl)) ?_; clear HS; (try clear F); intro w71 HS; rw [← e_y72.out] at HS; obtain ⟨ad74, B74_5, d74_5, hq74, e74_0, e74_1, e74_2, e74_3, e74_4, e74_5, e74_6, m74_5, y74_5⟩ := at_T54 (HS.rd 0 rfl) x51 (of_eq_true c56) (of_eq_true c57); obtain rfl := Option.some.inj hq74) | ((with_reducible refine gate_store (p := 45) rfl ?_); refine ev_setp (ad := ad58) rfl q54 (Zd.int .i64) lens54_4_3 0 [] x51 (rd_T54 y72 x51) (wrap64 ((wrap64 ((wrap64 ((wrap64 (x50 + 1)) + 1)) + 1)) + 1)) HS (seg := [.int .i64 (wrap64 ((wrap64 ((wrap64 ((wrap64 (x50 + 1)) + 1)) + 1)) + 1))]) rfl (by decide) rfl rfl rfl (by rintro g rfl; simp only [add_plain]; refine congrArg (fun n => (⟨g, n, none⟩ : Addr)) ?_; first | rfl | (show 0 + (x51).toNat * 7 + 4 = (x51).toNat * 7 + 4; omega) | (show 0 + (x51).toNat * 7 = (x51).toNat * 7 + 0; omega)) rfl rfl (by kernel_rfl) (by simp [Value.oneCell']) ⟨of_eq_true c56, of_eq_true c57⟩ rfl (fun hl => rd_T54_get hl) (made_flat (fun _ => rfl)) ?_; clear HS; (try clear F); intro w75 HS; rw [← e_y76.out] at HS; obtain ⟨ad78, B78_5, d78_5, hq78, e78_0, e78_1, e78_2, e78_3, e78_4, e78_5, e78_6, m78_5, y78_5⟩ := at_T54 (HS.rd 0 rfl) x51 (of_eq_true c56) (of_eq_true c57); obtain rfl := Option.some.inj hq78) | ((with_reducible refine gate_dst (N := 54) rfl ?_); refine HS.lend_el 0 x51 rfl lens54_5_52 (of_eq_true c56) (of_eq_true c57) e78_5 (by rintro g rfl; simp only [add_plain]; refine congrArg (fun n => (⟨g, n, none⟩ : Addr)) ?_; first | rfl | omega) (fun hl => rd_T54_get hl) (fun A' HA HB => ?_); refine ev_call rfl Try.func104 (by kernel_rfl) rfl #[.slice B78_5 (rd_T54 y76 x51).f5.length d78_5, .int .i64 (wrap64 ((wrap64 ((wrap64 ((wrap64 ((wrap64 (x50 + 1)) + 1)) + 1)) + 1)) + 1))] rfl (by simp only [List.map_toArray, List.map_cons, List.map_nil]; rfl) ?_; refine (laws_markRevS.calls ht79.out HA).mono ?_; rintro _ wt79 ⟨rfl, HQ⟩; refine ⟨_, rfl, ?_⟩; replace HS := HB _ _ _ HQ; clear HQ HA HB; rw [← e_y80.out] at HS; replace HS : Hp A w _ [.own (Zd.slice 54 q54) y80 [.slice (some ad58) a0.length d1]] := HS; (try clear F)) | ((with_reducible refine gate_dst (N := 58) rfl ?_); refine ev_call rfl Try.func103 (by kernel_rfl) rfl #[.int .i64 t79.1] rfl (by simp only [List.map_toArray, List.map_cons, List.map_nil]; rfl) ?_; refine (laws_markText.calls ht82.out).mono ?_; rintro _ wt82 ⟨rfl, HQ⟩; refine ⟨_, rfl, ?_⟩; replace HS := HS.call HQ; clear HQ; (try clear F); obtain ⟨ad84, B84_5, d84_5, hq84, e84_0, e84_1, e84_2, e84_3, e84_4, e84_5, e84_6, m84_5, y84_5⟩ := at_T54 (HS.rd 0 rfl) x51 (of_eq_true c56) (of_eq_true c57); obtain rfl := Option.some.inj hq84) | ((with_reducible refine gate_store (p := 60) rfl ?_); refine ev_setp (ad := ad58) rfl q54 Zd.string lens54_6_9 0 [] x51 (rd_T54 y80 x51) t82 HS (seg := [.string t82]) rfl (by decide) rfl rfl rfl (by rintro g rfl; simp only [add_plain]; refine congrArg (fun n => (⟨g, n, none⟩ : Addr)) ?_; first | rfl | (show 0 + (x51).toNat * 7 + 6 = (x51).toNat * 7 + 6; omega) | (show 0 + (x51).toNat * 7 = (x51).toNat * 7 + 0; omega)) rfl rfl (by kernel_rfl) (by simp [Value.oneCell']) ⟨of_eq_true c56, of_eq_true c57⟩ rfl (fun hl => rd_T54_get hl) (made_flat (fun _ => rfl)) ?_; clear HS; (try clear F); intro w85 HS; rw [← e_y86.out] at HS))
     go_roundg k47
     case measure => have := HKk47.out; omega
     case rel => exact ⟨_, _, _, rfl, rfl, H, ⟨by have := HKk47.out; omega⟩, HS.pick [0] (by decide) (by rfl)⟩
   · replace H := zneg c53 H
     replace c53 := eq_false c53
     obtain ⟨rfl, rfl⟩ := zsome2 H
     go_wp2
     go_ret
     exact ⟨rfl, HS.pick [0] (by decide) (by rfl)⟩
end Go.Proofs.Ytfeebnbookfpmaa.F
