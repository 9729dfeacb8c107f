/- Functions of the program and of the law, and that their calls do what is written here. -/
import Derived.Test.YtacocpknielofaaGreatDoorZgFnExactLearnCrla
import Derived.Test.YtacocpknielofaaGreatDoorZgFnExactLearnCrlk
namespace Go.Proofs.YtacocpknielofaaGreatDoor.F
open Go.RowKit YtacocpknielofaaGreatDoorW.PrintWords YtacocpknielofaaGreatDoorW.PrintLast YtacocpknielofaaGreatDoorW.PrintMore Z
attribute [local go_sem] max2_int min2_int max_two min_two max_three min_three max_four min_four
set_option linter.unusedVariables false
set_option linter.unusedSimpArgs false
set_option maxRecDepth 100000
set_option maxHeartbeats 16000000
def laws_markCertS.l0 : Nat → (List S91) → Int → Int → (List S91) → Option (Int × (List S91))
  | 0, _, _, _, _ => none
  | k + 1, l76, x78, x79, a0 => (if x79 < (a0.length : Int) then (if 0 ≤ x79 then (if x79 < (a0.length : Int) then (lets (l76.set (x79).toNat (u91_0_3 (rd_T91 l76 x79) x78)) fun y86 => ((laws_markText.f k (wrap64 (x78 + 1))).bind fun t88 => (lets (y86.set (x79).toNat (u91_1_9 (rd_T91 y86 x79) t88)) fun y92 => ((laws_markText.f k (wrap64 ((wrap64 (x78 + 1)) + 1))).bind fun t94 => (lets (y92.set (x79).toNat (u91_2_9 (rd_T91 y92 x79) t94)) fun y98 => (lets (y98.set (x79).toNat (u91_3_3 (rd_T91 y98 x79) (wrap64 ((wrap64 ((wrap64 (x78 + 1)) + 1)) + 1)))) fun y102 => (lets (y102.set (x79).toNat (u91_4_3 (rd_T91 y102 x79) (wrap64 ((wrap64 ((wrap64 ((wrap64 (x78 + 1)) + 1)) + 1)) + 1)))) fun y106 => ((laws_markText.f k (wrap64 ((wrap64 ((wrap64 ((wrap64 ((wrap64 (x78 + 1)) + 1)) + 1)) + 1)) + 1))).bind fun t108 => (lets (y106.set (x79).toNat (u91_5_9 (rd_T91 y106 x79) t108)) fun y112 => (lets (y112.set (x79).toNat (u91_6_4 (rd_T91 y112 x79) ((Int.tmod (wrap64 ((wrap64 ((wrap64 ((wrap64 ((wrap64 ((wrap64 (x78 + 1)) + 1)) + 1)) + 1)) + 1)) + 1)) 3) == 0))) fun y116 => (lets (y116.set (x79).toNat (u91_7_3 (rd_T91 y116 x79) (wrap64 ((wrap64 ((wrap64 ((wrap64 ((wrap64 ((wrap64 ((wrap64 (x78 + 1)) + 1)) + 1)) + 1)) + 1)) + 1)) + 1)))) fun y120 => (lets (y120.set (x79).toNat (u91_8_3 (rd_T91 y120 x79) (wrap64 ((wrap64 ((wrap64 ((wrap64 ((wrap64 ((wrap64 ((wrap64 ((wrap64 (x78 + 1)) + 1)) + 1)) + 1)) + 1)) + 1)) + 1)) + 1)))) fun y124 => ((laws_markIntS.f k ((rd_T91 y124 x79).f9) (wrap64 ((wrap64 ((wrap64 ((wrap64 ((wrap64 ((wrap64 ((wrap64 ((wrap64 ((wrap64 (x78 + 1)) + 1)) + 1)) + 1)) + 1)) + 1)) + 1)) + 1)) + 1))).bind fun t127 => (lets (y124.set (x79).toNat (u91_9_52 (rd_T91 y124 x79) t127.2)) fun y128 => ((laws_markStringS.f k ((rd_T91 y128 x79).f10) t127.1).bind fun t131 => (lets (y128.set (x79).toNat (u91_10_57 (rd_T91 y128 x79) t131.2)) fun y132 => ((laws_markStringS.f k ((rd_T91 y132 x79).f11) t131.1).bind fun t135 => (lets (y132.set (x79).toNat (u91_11_57 (rd_T91 y132 x79) t135.2)) fun y136 => ((laws_markText.f k t135.1).bind fun t138 => (lets (y136.set (x79).toNat (u91_12_9 (rd_T91 y136 x79) t138)) fun y142 => (laws_markCertS.l0 k y142 (wrap64 (t135.1 + 1)) (wrap64 (x79 + 1)) a0))))))))))))))))))))) else none) else none) else (some (x78, l76)))
def laws_markCertS.f (k : Nat) (a0 : (List S91)) (a1 : Int) : Option (Int × (List S91)) := (laws_markCertS.l0 k a0 a1 0 a0)
theorem laws_markCertS.calls {k : Nat} {a0 : (List S91)} {a1 : Int} {A : FP} {vp0 : Value} {r1 : Int} {r2 : (List S91)} {w : World} (h : laws_markCertS.f k a0 a1 = some (r1, r2)) (HS : Hp A w w [.own (Zd.slice 91 q91) a0 [vp0]]) :
    Calls Tryz.prog 111 #[vp0, .int .i64 a1] w (fun e w' => e = .returned (.int .i64 r1) ∧ Hp A w w' [.own (Zd.slice 91 q91) r2 [vp0]]) := by
 obtain ⟨B1, d1, rfl, m1⟩ := HS.form 0 rfl
 have H := Aside0.mk h
 clear h
 unfold laws_markCertS.f at H
 go_enter Tryz.func111, Tryz.ntmps111
 go_wp2
 go_loopg [1, 5] k (fun kq v_1 v_5 w' => ∃ (l76 : List S91) (x78 : Int) (x79 : Int), v_1 = .int .i64 x78 ∧ v_5 = .int .i64 x79 ∧ Aside0 (laws_markCertS.l0 kq l76 x78 x79 a0 = some (r1, r2)) ∧ Aside0 (kq ≤ k) ∧ Hp A w w' [.own (Zd.slice 91 q91) l76 [.slice B1 a0.length d1]])
 case atStart => exact ⟨_, _, _, rfl, rfl, H, ⟨Nat.le_refl _⟩, HS⟩
 case round =>
  clear HS H; (try clear F)
  obtain ⟨l76, x78, x79, rfl, rfl, H, HKk75, HS⟩ := hrel
  cases gk with
  | zero => exact absurd H.out (by simp [laws_markCertS.l0])
  | succ k75 =>
   simp only [laws_markCertS.l0] at H
   replace H := znif H; rcases H with ⟨c81, H⟩ | ⟨c81, H⟩
   case inl =>
    obtain ⟨rfl, rfl⟩ := zsome2 H
    go_wp2
    go_ret
    exact ⟨rfl, HS.pick [0] (by decide) (by rfl)⟩
   replace H := zgo H; obtain ⟨c82, H⟩ := H
   replace H := zgo H; obtain ⟨c83, H⟩ := H
   obtain ⟨ad84, B84_9, d84_9, B84_10, d84_10, B84_11, d84_11, rfl, e84_0, e84_1, e84_2, e84_3, e84_4, e84_5, e84_6, e84_7, e84_8, e84_9, e84_10, e84_11, e84_12, m84_9, y84_9, m84_10, y84_10, m84_11, y84_11⟩ := at_T91 (HS.rd 0 rfl) x79 (of_eq_true c82) (of_eq_true c83)
   replace H := zlets H; obtain ⟨y86, e_y86, H⟩ := H
   replace H := zbind H; obtain ⟨t88, ht88, H⟩ := H
   replace H := zlets H; obtain ⟨y92, e_y92, H⟩ := H
   replace H := zbind H; obtain ⟨t94, ht94, H⟩ := H
   replace H := zlets H; obtain ⟨y98, e_y98, H⟩ := H
   replace H := zlets H; obtain ⟨y102, e_y102, H⟩ := H
   replace H := zlets H; obtain ⟨y106, e_y106, H⟩ := H
   replace H := zbind H; obtain ⟨t108, ht108, H⟩ := H
   replace H := zlets H; obtain ⟨y112, e_y112, H⟩ := H
   replace H := zlets H; obtain ⟨y116, e_y116, H⟩ := H
   replace H := zlets H; obtain ⟨y120, e_y120, H⟩ := H
   replace H := zlets H; obtain ⟨y124, e_y124, H⟩ := H
   replace H := zbind H; obtain ⟨t127, ht127, H⟩ := H
   replace H := zlets H; obtain ⟨y128, e_y128, H⟩ := H
   replace H := zbind H; obtain ⟨t131, ht131, H⟩ := H
   replace H := zlets H; obtain ⟨y132, e_y132, H⟩ := H
   replace H := zbind H; obtain ⟨t135, ht135, H⟩ := H
   replace H := zlets H; obtain ⟨y136, e_y136, H⟩ := H
   replace H := zbind H; obtain ⟨t138, ht138, H⟩ := H
   replace H := zlets H; obtain ⟨y142, e_y142, H⟩ := H
   go_wp2_with (first | ((with_reducible refine gate_store (p := 16) rfl ?_); refine ev_sp lens91_0_3 0 [] x79 (rd_T91 l76 x79) x78 HS (ad := ad84) (seg := [.int .i64 x78]) (of_eq_true c82) (of_eq_true c83) (fun hl => rd_T91_get hl) (made_flat (fun _ => rfl)) ?_; clear HS; intro w85 HS; rw [← e_y86.out] at HS; (try simp only [hpn, hpm] at HS)) | ((with_reducible refine gd 22 rfl ?_); refine ev_cl HS (laws_markText.calls ht88.out) Tryz.func180 ?_; clear HS; intro wt88 HS F; obtain ⟨ad90, B90_9, d90_9, B90_10, d90_10, B90_11, d90_11, hq90, e90_0, e90_1, e90_2, e90_3, e90_4, e90_5, e90_6, e90_7, e90_8, e90_9, e90_10, e90_11, e90_12, m90_9, y90_9, m90_10, y90_10, m90_11, y90_11⟩ := at_T91 (HS.rd 0 rfl) x79 (of_eq_true c82) (of_eq_true c83); obtain rfl := Option.some.inj hq90) | ((with_reducible refine gate_store (p := 24) rfl ?_); refine ev_sp lens91_1_9 0 [] x79 (rd_T91 y86 x79) t88 HS (ad := ad84) (seg := [.string t88]) (of_eq_true c82) (of_eq_true c83) (fun hl => rd_T91_get hl) (made_flat (fun _ => rfl)) ?_; clear HS; intro w91 HS; rw [← e_y92.out] at HS; (try simp only [hpn, hpm] at HS)) | ((with_reducible refine gd 30 rfl ?_); refine ev_cl HS (laws_markText.calls ht94.out) Tryz.func180 ?_; clear HS; intro wt94 HS F; obtain ⟨ad96, B96_9, d96_9, B96_10, d96_10, B96_11, d96_11, hq96, e96_0, e96_1, e96_2, e96_3, e96_4, e96_5, e96_6, e96_7, e96_8, e96_9, e96_10, e96_11, e96_12, m96_9, y96_9, m96_10, y96_10, m96_11, y96_11⟩ := at_T91 (HS.rd 0 rfl) x79 (of_eq_true c82) (of_eq_true c83); obtain rfl := Option.some.inj hq96) | ((with_reducible refine gate_store (p := 32) rfl ?_); refine ev_sp lens91_2_9 0 [] x79 (rd_T91 y92 x79) t94 HS (ad := ad84) (seg := [.string t94]) (of_eq_true c82) (of_eq_true c83) (fun hl => rd_T91_get hl) (made_flat (fun _ => rfl)) ?_; clear HS; intro w97 HS; rw [← e_y98.out] at HS; (try simp only [hpn, hpm] at HS); obtain ⟨ad100, B100_9, d100_9, B100_10, d100_10, B100_11, d100_11, hq100, e100_0, e100_1, e100_2, e100_3, e100_4, e100_5, e100_6, e100_7, e100_8, e100_9, e100_10, e100_11, e100_12, m100_9, y100_9, m100_10, y100_10, m100_11, y100_11⟩ := at_T91 (HS.rd 0 rfl) x79 (of_eq_true c82) (of_eq_true c83); obtain rfl := Option.some.inj hq100) | ((with_reducible refine gate_store (p := 39) rfl ?_); refine ev_sp lens91_3_3 0 [] x79 (rd_T91 y98 x79) (wrap64 ((wrap64 ((wrap64 (x78 + 1)) + 1)) + 1)) HS (ad := ad84) (seg := [.int .i64 (wrap64 ((wrap64 ((wrap64 (x78 + 1)) + 1)) + 1))]) (of_eq_true c82) (of_eq_true c83) (fun hl => rd_T91_get hl) (made_flat (fun _ => rfl)) ?_; clear HS; intro w101 HS; rw [← e_y102.out] at HS; (try simp only [hpn, hpm] at HS); obtain ⟨ad104, B104_9, d104_9, B104_10, d104_10, B104_11, d104_11, hq104, e104_0, e104_1, e104_2, e104_3, e104_4, e104_5, e104_6, e104_7, e104_8, e104_9, e104_10, e104_11, e104_12, m104_9, y104_9, m104_10, y104_10, m104_11, y104_11⟩ := at_T91 (HS.rd 0 rfl) x79 (of_eq_true c82) (of_eq_true c83); obtain rfl := Option.some.inj hq104) | ((with_reducible refine gate_store (p := 46) rfl ?_); refine ev_sp lens91_4_3 0 [] x79 (rd_T91 y102 x79) (wrap64 ((wrap64 ((wrap64 ((wrap64 (x78 + 1)) + 1)) + 1)) + 1)) HS (ad := ad84) (seg := [.int .i64 (wrap64 ((wrap64 ((wrap64 ((wrap64 (x78 + 1)) + 1)) + 1)) + 1))]) (of_eq_true c82) (of_eq_true c83) (fun hl => rd_T91_get hl) (made_flat (fun _ => rfl)) ?_; clear HS; intro w105 HS; rw [← e_y106.out] at HS; (try simp only [hpn, hpm] at HS)) | ((with_reducible refine gd 52 rfl ?_); refine ev_cl HS (laws_markText.calls ht108.out) Tryz.func180 ?_; clear HS; intro wt108 HS F; obtain ⟨ad110, B110_9, d110_9, B110_10, d110_10, B110_11, d110_11, hq110, e110_0, e110_1, e110_2, e110_3, e110_4, e110_5, e110_6, e110_7, e110_8, e110_9, e110_10, e110_11, e110_12, m110_9, y110_9, m110_10, y110_10, m110_11, y110_11⟩ := at_T91 (HS.rd 0 rfl) x79 (of_eq_true c82) (of_eq_true c83); obtain rfl := Option.some.inj hq110) | ((with_reducible refine gate_store (p := 54) rfl ?_); refine ev_sp lens91_5_9 0 [] x79 (rd_T91 y106 x79) t108 HS (ad := ad84) (seg := [.string t108]) (of_eq_true c82) (of_eq_true c83) (fun hl => rd_T91_get hl) (made_flat (fun _ => rfl)) ?_; clear HS; intro w111 HS; rw [← e_y112.out] at HS; (try simp only [hpn, hpm] at HS); obtain ⟨ad114, B114_9, d114_9, B114_10, d114_10, B114_11, d114_11, hq114, e114_0, e114_1, e114_2, e114_3, e114_4, e114_5, e114_6, e114_7, e114_8, e114_9, e114_10, e114_11, e114_12, m114_9, y114_9, m114_10, y114_10, m114_11, y114_11⟩ := at_T91 (HS.rd 0 rfl) x79 (of_eq_true c82) (of_eq_true c83); obtain rfl := Option.some.inj hq114) | ((with_reducible refine gate_store (p := 63) rfl ?_); refine ev_sp lens91_6_4 0 [] x79 (rd_T91 y112 x79) ((Int.tmod (wrap64 ((wrap64 ((wrap64 ((wrap64 ((wrap64 ((wrap64 (x78 + 1)) + 1)) + 1)) + 1)) + 1)) + 1)) 3) == 0) HS (ad := ad84) (seg := [.bool ((Int.tmod (wrap64 ((wrap64 ((wrap64 ((wrap64 ((wrap64 ((wrap64 (x78 + 1)) + 1)) + 1)) + 1)) + 1)) + 1)) 3) == 0)]) (of_eq_true c82) (of_eq_true c83) (fun hl => rd_T91_get hl) (made_flat (fun _ => rfl)) ?_; clear HS; intro w115 HS; rw [← e_y116.out] at HS; (try simp only [hpn, hpm] at HS); obtain ⟨ad118, B118_9, d118_9, B118_10, d118_10, B118_11, d118_11, hq118, e118_0, e118_1, e118_2, e118_3, e118_4, e118_5, e118_6, e118_7, e118_8, e118_9, e118_10, e118_11, e118_12, m118_9, y118_9, m118_10, y118_10, m118_11, y118_11⟩ := at_T91 (HS.rd 0 rfl) x79 (of_eq_true c82) (of_eq_true c83); obtain rfl := Option.some.inj hq118) | ((with_reducible refine gate_store (p := 70) rfl ?_); refine ev_sp lens91_7_3 0 [] x79 (rd_T91 y116 x79) (wrap64 ((wrap64 ((wrap64 ((wrap64 ((wrap64 ((wrap64 ((wrap64 (x78 + 1)) + 1)) + 1)) + 1)) + 1)) + 1)) + 1)) HS (ad := ad84) (seg := [.int .i64 (wrap64 ((wrap64 ((wrap64 ((wrap64 ((wrap64 ((wrap64 ((wrap64 (x78 + 1)) + 1)) + 1)) + 1)) + 1)) + 1)) + 1))]) (of_eq_true c82) (of_eq_true c83) (fun hl => rd_T91_get hl) (made_flat (fun _ => rfl)) ?_; clear HS; intro w119 HS; rw [← e_y120.out] at HS; (try simp only [hpn, hpm] at HS); obtain ⟨ad122, B122_9, d122_9, B122_10, d122_10, B122_11, d122_11, hq122, e122_0, e122_1, e122_2, e122_3, e122_4, e122_5, e122_6, e122_7, e122_8, e122_9, e122_10, e122_11, e122_12, m122_9, y122_9, m122_10, y122_10, m122_11, y122_11⟩ := at_T91 (HS.rd 0 rfl) x79 (of_eq_true c82) (of_eq_true c83); obtain rfl := Option.some.inj hq122) | ((with_reducible refine gate_store (p := 77) rfl ?_); refine ev_sp lens91_8_3 0 [] x79 (rd_T91 y120 x79) (wrap64 ((wrap64 ((wrap64 ((wrap64 ((wrap64 ((wrap64 ((wrap64 ((wrap64 (x78 + 1)) + 1)) + 1)) + 1)) + 1)) + 1)) + 1)) + 1)) HS (ad := ad84) (seg := [.int .i64 (wrap64 ((wrap64 ((wrap64 ((wrap64 ((wrap64 ((wrap64 ((wrap64 ((wrap64 (x78 + 1)) + 1)) + 1)) + 1)) + 1)) + 1)) + 1)) + 1))]) (of_eq_true c82) (of_eq_true c83) (fun hl => rd_T91_get hl) (made_flat (fun _ => rfl)) ?_; clear HS; intro w123 HS; rw [← e_y124.out] at HS; (try simp only [hpn, hpm] at HS); obtain ⟨ad126, B126_9, d126_9, B126_10, d126_10, B126_11, d126_11, hq126, e126_0, e126_1, e126_2, e126_3, e126_4, e126_5, e126_6, e126_7, e126_8, e126_9, e126_10, e126_11, e126_12, m126_9, y126_9, m126_10, y126_10, m126_11, y126_11⟩ := at_T91 (HS.rd 0 rfl) x79 (of_eq_true c82) (of_eq_true c83); obtain rfl := Option.some.inj hq126) | ((with_reducible refine gd 86 rfl ?_); refine HS.lend_el 0 x79 rfl lens91_9_52 (of_eq_true c82) (of_eq_true c83) e126_9 (by rintro g rfl; simp only [add_plain]; refine congrArg (fun n => (⟨g, n, none⟩ : Addr)) ?_; first | rfl | omega) (fun hl => rd_T91_get hl) (fun A' HL HA HB => ?_); refine ev_lc (laws_markIntS.calls ht127.out HA) (fun _ HQ => HB _ _ _ HQ) Tryz.func120 ?_; clear HS HA HB HL; intro wt127 HS F; rw [← e_y128.out] at HS; (try simp only [hpn, hpm] at HS); obtain ⟨ad130, B130_9, d130_9, B130_10, d130_10, B130_11, d130_11, hq130, e130_0, e130_1, e130_2, e130_3, e130_4, e130_5, e130_6, e130_7, e130_8, e130_9, e130_10, e130_11, e130_12, m130_9, y130_9, m130_10, y130_10, m130_11, y130_11⟩ := at_T91 (HS.rd 0 rfl) x79 (of_eq_true c82) (of_eq_true c83); obtain rfl := Option.some.inj hq130) | ((with_reducible refine gd 93 rfl ?_); refine HS.lend_el 0 x79 rfl lens91_10_57 (of_eq_true c82) (of_eq_true c83) e130_10 (by rintro g rfl; simp only [add_plain]; refine congrArg (fun n => (⟨g, n, none⟩ : Addr)) ?_; first | rfl | omega) (fun hl => rd_T91_get hl) (fun A' HL HA HB => ?_); refine ev_lc (laws_markStringS.calls ht131.out HA) (fun _ HQ => HB _ _ _ HQ) Tryz.func121 ?_; clear HS HA HB HL; intro wt131 HS F; rw [← e_y132.out] at HS; (try simp only [hpn, hpm] at HS); obtain ⟨ad134, B134_9, d134_9, B134_10, d134_10, B134_11, d134_11, hq134, e134_0, e134_1, e134_2, e134_3, e134_4, e134_5, e134_6, e134_7, e134_8, e134_9, e134_10, e134_11, e134_12, m134_9, y134_9, m134_10, y134_10, m134_11, y134_11⟩ := at_T91 (HS.rd 0 rfl) x79 (of_eq_true c82) (of_eq_true c83); obtain rfl := Option.some.inj hq134) | ((with_reducible refine gd 100 rfl ?_); refine HS.lend_el 0 x79 rfl lens91_11_57 (of_eq_true c82) (of_eq_true c83) e134_11 (by rintro g rfl; simp only [add_plain]; refine congrArg (fun n => (⟨g, n, none⟩ : Addr)) ?_; first | rfl | omega) (fun hl => rd_T91_get hl) (fun A' HL HA HB => ?_); refine ev_lc (laws_markStringS.calls ht135.out HA) (fun _ HQ => HB _ _ _ HQ) Tryz.func121 ?_; clear HS HA HB HL; intro wt135 HS F; rw [← e_y136.out] at HS; (try simp only [hpn, hpm] at HS)) | ((with_reducible refine gd 104 rfl ?_); refine ev_cl HS (laws_markText.calls ht138.out) Tryz.func180 ?_; clear HS; intro wt138 HS F; obtain ⟨ad140, B140_9, d140_9, B140_10, d140_10, B140_11, d140_11, hq140, e140_0, e140_1, e140_2, e140_3, e140_4, e140_5, e140_6, e140_7, e140_8, e140_9, e140_10, e140_11, e140_12, m140_9, y140_9, m140_10, y140_10, m140_11, y140_11⟩ := at_T91 (HS.rd 0 rfl) x79 (of_eq_true c82) (of_eq_true c83); obtain rfl := Option.some.inj hq140) | ((with_reducible refine gate_store (p := 106) rfl ?_); refine ev_sp lens91_12_9 0 [] x79 (rd_T91 y136 x79) t138 HS (ad := ad84) (seg := [.string t138]) (of_eq_true c82) (of_eq_true c83) (fun hl => rd_T91_get hl) (made_flat (fun _ => rfl)) ?_; clear HS; intro w141 HS; rw [← e_y142.out] at HS; (try simp only [hpn, hpm] at HS)))
   go_roundg k75
   case measure => have := HKk75.out; omega
   case rel => exact ⟨_, _, _, rfl, rfl, H, ⟨by have := HKk75.out; omega⟩, HS.pick [0] (by decide) (by rfl)⟩
def laws_markCrlS.l0 : Nat → (List S81) → Int → Int → (List S81) → Option (Int × (List S81))
  | 0, _, _, _, _ => none
  | k + 1, l48, x50, x51, a0 => (if x51 < (a0.length : Int) then ((laws_markText.f k x50).bind fun t54 => (if 0 ≤ x51 then (if x51 < (a0.length : Int) then (lets (l48.set (x51).toNat (u81_0_9 (rd_T81 l48 x51) t54)) fun y60 => (lets (y60.set (x51).toNat (u81_1_3 (rd_T81 y60 x51) (wrap64 (x50 + 1)))) fun y64 => (lets (y64.set (x51).toNat (u81_2_3 (rd_T81 y64 x51) (wrap64 ((wrap64 (x50 + 1)) + 1)))) fun y68 => (lets (y68.set (x51).toNat (u81_3_3 (rd_T81 y68 x51) (wrap64 ((wrap64 ((wrap64 (x50 + 1)) + 1)) + 1)))) fun y72 => (lets (y72.set (x51).toNat (u81_4_3 (rd_T81 y72 x51) (wrap64 ((wrap64 ((wrap64 ((wrap64 (x50 + 1)) + 1)) + 1)) + 1)))) fun y76 => ((laws_markRevS.f k ((rd_T81 y76 x51).f5) (wrap64 ((wrap64 ((wrap64 ((wrap64 ((wrap64 (x50 + 1)) + 1)) + 1)) + 1)) + 1))).bind fun t79 => (lets (y76.set (x51).toNat (u81_5_79 (rd_T81 y76 x51) t79.2)) fun y80 => ((laws_markText.f k t79.1).bind fun t82 => (lets (y80.set (x51).toNat (u81_6_9 (rd_T81 y80 x51) t82)) fun y86 => (laws_markCrlS.l0 k y86 (wrap64 (t79.1 + 1)) (wrap64 (x51 + 1)) a0)))))))))) else none) else none)) else (some (x50, l48)))
def laws_markCrlS.f (k : Nat) (a0 : (List S81)) (a1 : Int) : Option (Int × (List S81)) := (laws_markCrlS.l0 k a0 a1 0 a0)
theorem laws_markCrlS.calls {k : Nat} {a0 : (List S81)} {a1 : Int} {A : FP} {vp0 : Value} {r1 : Int} {r2 : (List S81)} {w : World} (h : laws_markCrlS.f k a0 a1 = some (r1, r2)) (HS : Hp A w w [.own (Zd.slice 81 q81) a0 [vp0]]) :
    Calls Tryz.prog 112 #[vp0, .int .i64 a1] w (fun e w' => e = .returned (.int .i64 r1) ∧ Hp A w w' [.own (Zd.slice 81 q81) r2 [vp0]]) := by
 obtain ⟨B1, d1, rfl, m1⟩ := HS.form 0 rfl
 have H := Aside0.mk h
 clear h
 unfold laws_markCrlS.f at H
 go_enter Tryz.func112, Tryz.ntmps112
 go_wp2
 go_loopg [1, 5] k (fun kq v_1 v_5 w' => ∃ (l48 : List S81) (x50 : Int) (x51 : Int), v_1 = .int .i64 x50 ∧ v_5 = .int .i64 x51 ∧ Aside0 (laws_markCrlS.l0 kq l48 x50 x51 a0 = some (r1, r2)) ∧ Aside0 (kq ≤ k) ∧ Hp A w w' [.own (Zd.slice 81 q81) l48 [.slice B1 a0.length d1]])
 case atStart => exact ⟨_, _, _, rfl, rfl, H, ⟨Nat.le_refl _⟩, HS⟩
 case round =>
  clear HS H; (try clear F)
  obtain ⟨l48, x50, x51, rfl, rfl, H, HKk47, HS⟩ := hrel
  cases gk with
  | zero => exact absurd H.out (by simp [laws_markCrlS.l0])
  | succ k47 =>
   simp only [laws_markCrlS.l0] at H
   replace H := znif H; rcases H with ⟨c53, H⟩ | ⟨c53, H⟩
   case inl =>
    obtain ⟨rfl, rfl⟩ := zsome2 H
    go_wp2
    go_ret
    exact ⟨rfl, HS.pick [0] (by decide) (by rfl)⟩
   replace H := zbind H; obtain ⟨t54, ht54, H⟩ := H
   replace H := zgo H; obtain ⟨c56, H⟩ := H
   replace H := zgo H; obtain ⟨c57, H⟩ := H
   replace H := zlets H; obtain ⟨y60, e_y60, H⟩ := H
   replace H := zlets H; obtain ⟨y64, e_y64, H⟩ := H
   replace H := zlets H; obtain ⟨y68, e_y68, H⟩ := H
   replace H := zlets H; obtain ⟨y72, e_y72, H⟩ := H
   replace H := zlets H; obtain ⟨y76, e_y76, H⟩ := H
   replace H := zbind H; obtain ⟨t79, ht79, H⟩ := H
   replace H := zlets H; obtain ⟨y80, e_y80, H⟩ := H
   replace H := zbind H; obtain ⟨t82, ht82, H⟩ := H
   replace H := zlets H; obtain ⟨y86, e_y86, H⟩ := H
   go_wp2_with (first | ((with_reducible refine gd 15 rfl ?_); refine ev_cl HS (laws_markText.calls ht54.out) Tryz.func180 ?_; clear HS; intro wt54 HS F; obtain ⟨ad58, B58_5, d58_5, rfl, e58_0, e58_1, e58_2, e58_3, e58_4, e58_5, e58_6, m58_5, y58_5⟩ := at_T81 (HS.rd 0 rfl) x51 (of_eq_true c56) (of_eq_true c57)) | ((with_reducible refine gate_store (p := 17) rfl ?_); refine ev_sp lens81_0_9 0 [] x51 (rd_T81 l48 x51) t54 HS (ad := ad58) (seg := [.string t54]) (of_eq_true c56) (of_eq_true c57) (fun hl => rd_T81_get hl) (made_flat (fun _ => rfl)) ?_; clear HS; intro w59 HS; rw [← e_y60.out] at HS; (try simp only [hpn, hpm] at HS); obtain ⟨ad62, B62_5, d62_5, hq62, e62_0, e62_1, e62_2, e62_3, e62_4, e62_5, e62_6, m62_5, y62_5⟩ := at_T81 (HS.rd 0 rfl) x51 (of_eq_true c56) (of_eq_true c57); obtain rfl := Option.some.inj hq62) | ((with_reducible refine gate_store (p := 24) rfl ?_); refine ev_sp lens81_1_3 0 [] x51 (rd_T81 y60 x51) (wrap64 (x50 + 1)) HS (ad := ad58) (seg := [.int .i64 (wrap64 (x50 + 1))]) (of_eq_true c56) (of_eq_true c57) (fun hl => rd_T81_get hl) (made_flat (fun _ => rfl)) ?_; clear HS; intro w63 HS; rw [← e_y64.out] at HS; (try simp only [hpn, hpm] at HS); obtain ⟨ad66, B66_5, d66_5, hq66, e66_0, e66_1, e66_2, e66_3, e66_4, e66_5, e66_6, m66_5, y66_5⟩ := at_T81 (HS.rd 0 rfl) x51 (of_eq_true c56) (of_eq_true c57); obtain rfl := Option.some.inj hq66) | ((with_reducible refine gate_store (p := 31) rfl ?_); refine ev_sp lens81_2_3 0 [] x51 (rd_T81 y64 x51) (wrap64 ((wrap64 (x50 + 1)) + 1)) HS (ad := ad58) (seg := [.int .i64 (wrap64 ((wrap64 (x50 + 1)) + 1))]) (of_eq_true c56) (of_eq_true c57) (fun hl => rd_T81_get hl) (made_flat (fun _ => rfl)) ?_; clear HS; intro w67 HS; rw [← e_y68.out] at HS; (try simp only [hpn, hpm] at HS); obtain ⟨ad70, B70_5, d70_5, hq70, e70_0, e70_1, e70_2, e70_3, e70_4, e70_5, e70_6, m70_5, y70_5⟩ := at_T81 (HS.rd 0 rfl) x51 (of_eq_true c56) (of_eq_true c57); obtain rfl := Option.some.inj hq70) | ((with_reducible refine gate_store (p := 38) rfl ?_); refine ev_sp lens81_3_3 0 [] x51 (rd_T81 y68 x51) (wrap64 ((wrap64 ((wrap64 (x50 + 1)) + 1)) + 1)) HS (ad := ad58) (seg := [.int .i64 (wrap64 ((wrap64 ((wrap64 (x50 + 1)) + 1)) + 1))]) (of_eq_true c56) (of_eq_true c57) (fun hl => rd_T81_get hl) (made_flat (fun _ => rfl)) ?_; clear HS; intro w71 HS; rw [← e_y72.out] at HS; (try simp only [hpn, hpm] at HS); obtain ⟨ad74, B74_5, d74_5, hq74, e74_0, e74_1, e74_2, e74_3, e74_4, e74_5, e74_6, m74_5, y74_5⟩ := at_T81 (HS.rd 0 rfl) x51 (of_eq_true c56) (of_eq_true c57); obtain rfl := Option.some.inj hq74) | ((with_reducible refine gate_store (p := 45) rfl ?_); refine ev_sp lens81_4_3 0 [] x51 (rd_T81 y72 x51) (wrap64 ((wrap64 ((wrap64 ((wrap64 (x50 + 1)) + 1)) + 1)) + 1)) HS (ad := ad58) (seg := [.int .i64 (wrap64 ((wrap64 ((wrap64 ((wrap64 (x50 + 1)) + 1)) + 1)) + 1))]) (of_eq_true c56) (of_eq_true c57) (fun hl => rd_T81_get hl) (made_flat (fun _ => rfl)) ?_; clear HS; intro w75 HS; rw [← e_y76.out] at HS; (try simp only [hpn, hpm] at HS); obtain ⟨ad78, B78_5, d78_5, hq78, e78_0, e78_1, e78_2, e78_3, e78_4, e78_5, e78_6, m78_5, y78_5⟩ := at_T81 (HS.rd 0 rfl) x51 (of_eq_true c56) (of_eq_true c57); obtain rfl := Option.some.inj hq78) | ((with_reducible refine gd 54 rfl ?_); refine HS.lend_el 0 x51 rfl lens81_5_79 (of_eq_true c56) (of_eq_true c57) e78_5 (by rintro g rfl; simp only [add_plain]; refine congrArg (fun n => (⟨g, n, none⟩ : Addr)) ?_; first | rfl | omega) (fun hl => rd_T81_get hl) (fun A' HL HA HB => ?_); refine ev_lc (laws_markRevS.calls ht79.out HA) (fun _ HQ => HB _ _ _ HQ) Tryz.func114 ?_; clear HS HA HB HL; intro wt79 HS F; rw [← e_y80.out] at HS; (try simp only [hpn, hpm] at HS)) | ((with_reducible refine gd 58 rfl ?_); refine ev_cl HS (laws_markText.calls ht82.out) Tryz.func180 ?_; clear HS; intro wt82 HS F; obtain ⟨ad84, B84_5, d84_5, hq84, e84_0, e84_1, e84_2, e84_3, e84_4, e84_5, e84_6, m84_5, y84_5⟩ := at_T81 (HS.rd 0 rfl) x51 (of_eq_true c56) (of_eq_true c57); obtain rfl := Option.some.inj hq84) | ((with_reducible refine gate_store (p := 60) rfl ?_); refine ev_sp lens81_6_9 0 [] x51 (rd_T81 y80 x51) t82 HS (ad := ad58) (seg := [.string t82]) (of_eq_true c56) (of_eq_true c57) (fun hl => rd_T81_get hl) (made_flat (fun _ => rfl)) ?_; clear HS; intro w85 HS; rw [← e_y86.out] at HS; (try simp only [hpn, hpm] at HS)))
   go_roundg k47
   case measure => have := HKk47.out; omega
   case rel => exact ⟨_, _, _, rfl, rfl, H, ⟨by have := HKk47.out; omega⟩, HS.pick [0] (by decide) (by rfl)⟩
def laws_markAnchorS.l0 : Nat → (List S115) → Int → Int → (List S115) → Option (Int × (List S115))
  | 0, _, _, _, _ => none
  | k + 1, l28, x30, x31, a0 => (if x31 < (a0.length : Int) then ((laws_markText.f k x30).bind fun t34 => (if 0 ≤ x31 then (if x31 < (a0.length : Int) then (lets (l28.set (x31).toNat (u115_0_9 (rd_T115 l28 x31) t34)) fun y40 => ((laws_markText.f k (wrap64 (x30 + 1))).bind fun t42 => (lets (y40.set (x31).toNat (u115_1_9 (rd_T115 y40 x31) t42)) fun y46 => (laws_markAnchorS.l0 k y46 (wrap64 ((wrap64 (x30 + 1)) + 1)) (wrap64 (x31 + 1)) a0)))) else none) else none)) else (some (x30, l28)))
def laws_markAnchorS.f (k : Nat) (a0 : (List S115)) (a1 : Int) : Option (Int × (List S115)) := (laws_markAnchorS.l0 k a0 a1 0 a0)
theorem laws_markAnchorS.calls {k : Nat} {a0 : (List S115)} {a1 : Int} {A : FP} {vp0 : Value} {r1 : Int} {r2 : (List S115)} {w : World} (h : laws_markAnchorS.f k a0 a1 = some (r1, r2)) (HS : Hp A w w [.own (Zd.slice 115 q115) a0 [vp0]]) :
    Calls Tryz.prog 113 #[vp0, .int .i64 a1] w (fun e w' => e = .returned (.int .i64 r1) ∧ Hp A w w' [.own (Zd.slice 115 q115) r2 [vp0]]) := by
 obtain ⟨B1, d1, rfl, m1⟩ := HS.form 0 rfl
 have H := Aside0.mk h
 clear h
 unfold laws_markAnchorS.f at H
 go_enter Tryz.func113, Tryz.ntmps113
 go_wp2
 go_loopg [1, 5] k (fun kq v_1 v_5 w' => ∃ (l28 : List S115) (x30 : Int) (x31 : Int), v_1 = .int .i64 x30 ∧ v_5 = .int .i64 x31 ∧ Aside0 (laws_markAnchorS.l0 kq l28 x30 x31 a0 = some (r1, r2)) ∧ Aside0 (kq ≤ k) ∧ Hp A w w' [.own (Zd.slice 115 q115) l28 [.slice B1 a0.length d1]])
 case atStart => exact ⟨_, _, _, rfl, rfl, H, ⟨Nat.le_refl _⟩, HS⟩
 case round =>
  clear HS H; (try clear F)
  obtain ⟨l28, x30, x31, rfl, rfl, H, HKk27, HS⟩ := hrel
  cases gk with
  | zero => exact absurd H.out (by simp [laws_markAnchorS.l0])
  | succ k27 =>
   simp only [laws_markAnchorS.l0] at H
   replace H := znif H; rcases H with ⟨c33, H⟩ | ⟨c33, H⟩
   case inl =>
    obtain ⟨rfl, rfl⟩ := zsome2 H
    go_wp2
    go_ret
    exact ⟨rfl, HS.pick [0] (by decide) (by rfl)⟩
   replace H := zbind H; obtain ⟨t34, ht34, H⟩ := H
   replace H := zgo H; obtain ⟨c36, H⟩ := H
   replace H := zgo H; obtain ⟨c37, H⟩ := H
   replace H := zlets H; obtain ⟨y40, e_y40, H⟩ := H
   replace H := zbind H; obtain ⟨t42, ht42, H⟩ := H
   replace H := zlets H; obtain ⟨y46, e_y46, H⟩ := H
   go_wp2_with (first | ((with_reducible refine gd 15 rfl ?_); refine ev_cl HS (laws_markText.calls ht34.out) Tryz.func180 ?_; clear HS; intro wt34 HS F; obtain ⟨ad38, rfl, e38_0, e38_1⟩ := at_T115 (HS.rd 0 rfl) x31 (of_eq_true c36) (of_eq_true c37)) | ((with_reducible refine gate_store (p := 17) rfl ?_); refine ev_sp lens115_0_9 0 [] x31 (rd_T115 l28 x31) t34 HS (ad := ad38) (seg := [.string t34]) (of_eq_true c36) (of_eq_true c37) (fun hl => rd_T115_get hl) (made_flat (fun _ => rfl)) ?_; clear HS; intro w39 HS; rw [← e_y40.out] at HS; (try simp only [hpn, hpm] at HS)) | ((with_reducible refine gd 23 rfl ?_); refine ev_cl HS (laws_markText.calls ht42.out) Tryz.func180 ?_; clear HS; intro wt42 HS F; obtain ⟨ad44, hq44, e44_0, e44_1⟩ := at_T115 (HS.rd 0 rfl) x31 (of_eq_true c36) (of_eq_true c37); obtain rfl := Option.some.inj hq44) | ((with_reducible refine gate_store (p := 25) rfl ?_); refine ev_sp lens115_1_9 0 [] x31 (rd_T115 y40 x31) t42 HS (ad := ad38) (seg := [.string t42]) (of_eq_true c36) (of_eq_true c37) (fun hl => rd_T115_get hl) (made_flat (fun _ => rfl)) ?_; clear HS; intro w45 HS; rw [← e_y46.out] at HS; (try simp only [hpn, hpm] at HS)))
   go_roundg k27
   case measure => have := HKk27.out; omega
   case rel => exact ⟨_, _, _, rfl, rfl, H, ⟨by have := HKk27.out; omega⟩, HS.pick [0] (by decide) (by rfl)⟩
def laws_markStore.f (k : Nat) (a0 : S33) (a1 : Int) : Option (Int × (List S91) × (List S81) × (List S115)) := ((laws_markCertS.f k a0.f0 a1).bind fun t6 => ((laws_markCrlS.f k a0.f1 t6.1).bind fun t8 => ((laws_markAnchorS.f k a0.f2 t8.1).bind fun t10 => (some (t10.1, t6.2, t8.2, t10.2)))))
theorem laws_markStore.calls {k : Nat} {a0 : S33} {a1 : Int} {A : FP} {vp0 : Value} {vp1 : Value} {vp2 : Value} {r1 : Int} {r2 : (List S91)} {r3 : (List S81)} {r4 : (List S115)} {w : World} (h : laws_markStore.f k a0 a1 = some (r1, r2, r3, r4)) (HS : Hp A w w [.own (Zd.slice 91 q91) a0.f0 [vp0], .own (Zd.slice 81 q81) a0.f1 [vp1], .own (Zd.slice 115 q115) a0.f2 [vp2]]) :
    Calls Tryz.prog 31 #[.agg #[vp0, vp1, vp2], .int .i64 a1] w (fun e w' => e = .returned (.int .i64 r1) ∧ Hp A w w' [.own (Zd.slice 91 q91) r2 [vp0], .own (Zd.slice 81 q81) r3 [vp1], .own (Zd.slice 115 q115) r4 [vp2]]) := by
 obtain ⟨B1, d1, rfl, m1⟩ := HS.form 0 rfl
 obtain ⟨B2, d2, rfl, m2⟩ := HS.form 1 rfl
 obtain ⟨B3, d3, rfl, m3⟩ := HS.form 2 rfl
 have H := Aside0.mk h
 clear h
 unfold laws_markStore.f at H
 go_enter Tryz.func31, Tryz.ntmps31
 replace H := zbind H; obtain ⟨t6, ht6, H⟩ := H
 replace H := zbind H; obtain ⟨t8, ht8, H⟩ := H
 replace H := zbind H; obtain ⟨t10, ht10, H⟩ := H
 have H := zsome H; simp only [Prod.mk.injEq] at H; obtain ⟨rfl, rfl, rfl, rfl⟩ := H
 go_wp2_with (first | ((with_reducible refine gd 2 rfl ?_); refine ev_bx HS ?_; clear HS; intro g2 w2 HS F) | ((with_reducible refine gd 8 rfl ?_); refine HS.lend [0] (by decide) [.own (Zd.slice 91 q91) a0.f0 [.slice B1 a0.f0.length d1]] rfl (fun A' HL HD HA HB => ?_); refine ev_lc (laws_markCertS.calls ht6.out HA) (fun _ HQ => HB _ _ HQ (Nat.le_of_ble_eq_true rfl)) Tryz.func111 ?_; clear HS HA HB HL HD; intro wt6 HS F) | ((with_reducible refine gd 12 rfl ?_); refine HS.lend [1] (by decide) [.own (Zd.slice 81 q81) a0.f1 [.slice B2 a0.f1.length d2]] rfl (fun A' HL HD HA HB => ?_); refine ev_lc (laws_markCrlS.calls ht8.out HA) (fun _ HQ => HB _ _ HQ (Nat.le_of_ble_eq_true rfl)) Tryz.func112 ?_; clear HS HA HB HL HD; intro wt8 HS F) | ((with_reducible refine gd 16 rfl ?_); refine HS.lend [2] (by decide) [.own (Zd.slice 115 q115) a0.f2 [.slice B3 a0.f2.length d3]] rfl (fun A' HL HD HA HB => ?_); refine ev_lc (laws_markAnchorS.calls ht10.out HA) (fun _ HQ => HB _ _ HQ (Nat.le_of_ble_eq_true rfl)) Tryz.func113 ?_; clear HS HA HB HL HD; intro wt10 HS F))
 go_ret
 exact ⟨rfl, HS.pick [0, 1, 2] (by decide) (by rfl)⟩
def laws_markServer.f (k : Nat) (a0 : S46) (a1 : Int) : Option (Int × (List S91) × (List S81) × (List S115) × (List S202) × (List S205)) := ((laws_markStore.f k a0.f0 a1).bind fun t8 => ((laws_markPlanS.f k a0.f1 t8.1).bind fun t10 => ((laws_markKeptS.f k a0.f5 t10.1).bind fun t12 => (some (t12.1, t8.2.1, t8.2.2.1, t8.2.2.2, t10.2, t12.2)))))
theorem laws_markServer.calls {k : Nat} {a0 : S46} {a1 : Int} {A : FP} {vp0 : Value} {vp1 : Value} {vp2 : Value} {vp3 : Value} {vp4 : Value} {r1 : Int} {r2 : (List S91)} {r3 : (List S81)} {r4 : (List S115)} {r5 : (List S202)} {r6 : (List S205)} {w : World} (h : laws_markServer.f k a0 a1 = some (r1, r2, r3, r4, r5, r6)) (HS : Hp A w w [.own (Zd.slice 91 q91) a0.f0.f0 [vp0], .own (Zd.slice 81 q81) a0.f0.f1 [vp1], .own (Zd.slice 115 q115) a0.f0.f2 [vp2], .own (Zd.slice 202 q202) a0.f1 [vp3], .own (Zd.slice 205 q205) a0.f5 [vp4]]) :
    Calls Tryz.prog 47 #[.agg #[vp0, vp1, vp2, vp3, .int .i64 a0.f2, .int .i64 a0.f3, .int .i64 a0.f4, vp4], .int .i64 a1] w (fun e w' => e = .returned (.int .i64 r1) ∧ Hp A w w' [.own (Zd.slice 91 q91) r2 [vp0], .own (Zd.slice 81 q81) r3 [vp1], .own (Zd.slice 115 q115) r4 [vp2], .own (Zd.slice 202 q202) r5 [vp3], .own (Zd.slice 205 q205) r6 [vp4]]) := by
 obtain ⟨B1, d1, rfl, m1⟩ := HS.form 0 rfl
 obtain ⟨B2, d2, rfl, m2⟩ := HS.form 1 rfl
 obtain ⟨B3, d3, rfl, m3⟩ := HS.form 2 rfl
 obtain ⟨B4, d4, rfl, m4⟩ := HS.form 3 rfl
 obtain ⟨B5, d5, rfl, m5⟩ := HS.form 4 rfl
 have H := Aside0.mk h
 clear h
 unfold laws_markServer.f at H
 go_enter Tryz.func47, Tryz.ntmps47
 replace H := zbind H; obtain ⟨t8, ht8, H⟩ := H
 replace H := zbind H; obtain ⟨t10, ht10, H⟩ := H
 replace H := zbind H; obtain ⟨t12, ht12, H⟩ := H
 have H := zsome H; simp only [Prod.mk.injEq] at H; obtain ⟨rfl, rfl, rfl, rfl, rfl, rfl⟩ := H
 go_wp2_with (first | ((with_reducible refine gd 2 rfl ?_); refine ev_bx HS ?_; clear HS; intro g2 w2 HS F) | ((with_reducible refine gd 8 rfl ?_); refine HS.lend [0, 1, 2] (by decide) [.own (Zd.slice 91 q91) a0.f0.f0 [.slice B1 a0.f0.f0.length d1], .own (Zd.slice 81 q81) a0.f0.f1 [.slice B2 a0.f0.f1.length d2], .own (Zd.slice 115 q115) a0.f0.f2 [.slice B3 a0.f0.f2.length d3]] rfl (fun A' HL HD HA HB => ?_); refine ev_lc (laws_markStore.calls ht8.out HA) (fun _ HQ => HB _ _ HQ (Nat.le_of_ble_eq_true rfl)) Tryz.func31 ?_; clear HS HA HB HL HD; intro wt8 HS F) | ((with_reducible refine gd 12 rfl ?_); refine HS.lend [3] (by decide) [.own (Zd.slice 202 q202) a0.f1 [.slice B4 a0.f1.length d4]] rfl (fun A' HL HD HA HB => ?_); refine ev_lc (laws_markPlanS.calls ht10.out HA) (fun _ HQ => HB _ _ HQ (Nat.le_of_ble_eq_true rfl)) Tryz.func129 ?_; clear HS HA HB HL HD; intro wt10 HS F) | ((with_reducible refine gd 16 rfl ?_); refine HS.lend [4] (by decide) [.own (Zd.slice 205 q205) a0.f5 [.slice B5 a0.f5.length d5]] rfl (fun A' HL HD HA HB => ?_); refine ev_lc (laws_markKeptS.calls ht12.out HA) (fun _ HQ => HB _ _ HQ (Nat.le_of_ble_eq_true rfl)) Tryz.func130 ?_; clear HS HA HB HL HD; intro wt12 HS F))
 go_ret
 exact ⟨rfl, HS.pick [0, 1, 2, 3, 4] (by decide) (by rfl)⟩
def laws_heldIntS.l0 : Nat → Int → Int → (List Int) → Option (Int)
  | 0, _, _, _ => none
  | k + 1, x11, x12, a0 => (if x12 < (a0.length : Int) then (if 0 ≤ x12 then (if x12 < (a0.length : Int) then (if (rd a0 x12) = x11 then (laws_heldIntS.l0 k (wrap64 (x11 + 1)) (wrap64 (x12 + 1)) a0) else (some (-1))) else none) else none) else (some x11))
def laws_heldIntS.f (k : Nat) (a0 : (List Int)) (a1 : Int) : Option (Int) := (laws_heldIntS.l0 k a1 0 a0)
theorem laws_heldIntS.calls {k : Nat} {a0 : (List Int)} {a1 : Int} {Ap0 : Option Addr} {np0 cp0 : Nat} {r : Int} {w : World} (h : laws_heldIntS.f k a0 a1 = some r) (gp0 : (Kd.int .i64).C w Ap0 np0 a0) (lp0 : np0 ≤ cp0) :
    Calls Tryz.prog 181 #[.slice Ap0 np0 cp0, .int .i64 a1] w (fun e w' => e = .returned (.int .i64 r) ∧ Hp noFP w w' []) := by
 obtain rfl := C_len gp0
 have HS := Hp.start w
 have H := Aside0.mk h
 clear h
 unfold laws_heldIntS.f at H
 go_enter Tryz.func181, Tryz.ntmps181
 go_wp2
 go_loopg [1, 5] k (fun kq v_1 v_5 w' => ∃ (x11 : Int) (x12 : Int), v_1 = .int .i64 x11 ∧ v_5 = .int .i64 x12 ∧ Aside0 (laws_heldIntS.l0 kq x11 x12 a0 = some r) ∧ Aside0 (kq ≤ k) ∧ Hp noFP w w' [])
 case atStart => exact ⟨_, _, rfl, rfl, H, ⟨Nat.le_refl _⟩, HS⟩
 case round =>
  clear HS H; (try clear F)
  obtain ⟨x11, x12, rfl, rfl, H, HKk10, HS⟩ := hrel
  cases gk with
  | zero => exact absurd H.out (by simp [laws_heldIntS.l0])
  | succ k10 =>
   simp only [laws_heldIntS.l0] at H
   replace H := znif H; rcases H with ⟨c14, H⟩ | ⟨c14, H⟩
   case inl =>
    obtain rfl := zsome H
    go_wp2
    go_ret
    exact HS.pk
   replace H := zgo H; obtain ⟨c15, H⟩ := H
   replace H := zgo H; obtain ⟨c16, H⟩ := H
   obtain ⟨ad17, rfl, e17_0⟩ := Kd.at_int gp0 x12 (of_eq_true c15) (of_eq_true c16)
   have e17_0_17 := HS.keepc e17_0
   replace H := znif' H; rcases H with ⟨c18, H⟩ | ⟨c18, H⟩
   case inl =>
    have c18a := beq_eq_false_iff_ne.mpr c18
    have c18b := bne_iff_ne.mpr c18
    clear c18
    obtain rfl := zsome H
    go_wp2
    go_ret
    exact HS.pk
   have c18a := beq_iff_eq.mpr c18
   have c18b := bne_eq_false_iff_eq.mpr c18
   clear c18
   go_wp2
   go_roundg k10
   case measure => have := HKk10.out; omega
   case rel => exact ⟨_, _, rfl, rfl, H, ⟨by have := HKk10.out; omega⟩, HS.pick [] (by decide) (by rfl)⟩
def laws_heldPlanS.l0 : Nat → Int → Int → (List S202) → Option (Int)
  | 0, _, _, _ => none
  | k + 1, x11, x12, a0 => (if x12 < (a0.length : Int) then (if 0 ≤ x12 then (if x12 < (a0.length : Int) then (if (rd_T202 a0 x12).f0 = x11 then ((laws_heldIntS.f k ((rd_T202 a0 x12).f1) (wrap64 (x11 + 1))).bind fun t20 => (if t20 < 0 then (some (-1)) else (if (rd_T202 a0 x12).f2.f0 = t20 then ((laws_heldIntS.f k ((rd_T202 a0 x12).f2.f1) (wrap64 (t20 + 1))).bind fun t26 => (if t26 < 0 then (some (-1)) else (if (rd_T202 a0 x12).f2.f2 = ((Int.tmod t26 3) == 0) then (if (rd_T202 a0 x12).f2.f3 = ((Int.tmod (wrap64 (t26 + 1)) 3) == 0) then (if (rd_T202 a0 x12).f2.f4 = (wrap64 ((wrap64 (t26 + 1)) + 1)) then (laws_heldPlanS.l0 k (wrap64 ((wrap64 ((wrap64 (t26 + 1)) + 1)) + 1)) (wrap64 (x12 + 1)) a0) else (some (-1))) else (some (-1))) else (some (-1))))) else (some (-1))))) else (some (-1))) else none) else none) else (some x11))
def laws_heldPlanS.f (k : Nat) (a0 : (List S202)) (a1 : Int) : Option (Int) := (laws_heldPlanS.l0 k a1 0 a0)
theorem laws_heldPlanS.calls {k : Nat} {a0 : (List S202)} {a1 : Int} {Ap0 : Option Addr} {np0 cp0 : Nat} {r : Int} {w : World} (h : laws_heldPlanS.f k a0 a1 = some r) (gp0 : k202.C w Ap0 np0 a0) (lp0 : np0 ≤ cp0) :
    Calls Tryz.prog 131 #[.slice Ap0 np0 cp0, .int .i64 a1] w (fun e w' => e = .returned (.int .i64 r) ∧ Hp noFP w w' []) := by
 obtain rfl := C_len gp0
 have HS := Hp.start w
 have H := Aside0.mk h
 clear h
 unfold laws_heldPlanS.f at H
 go_enter Tryz.func131, Tryz.ntmps131
 go_wp2
 go_loopg [1, 5] k (fun kq v_1 v_5 w' => ∃ (x11 : Int) (x12 : Int), v_1 = .int .i64 x11 ∧ v_5 = .int .i64 x12 ∧ Aside0 (laws_heldPlanS.l0 kq x11 x12 a0 = some r) ∧ Aside0 (kq ≤ k) ∧ Hp noFP w w' [])
 case atStart => exact ⟨_, _, rfl, rfl, H, ⟨Nat.le_refl _⟩, HS⟩
 case round =>
  clear HS H; (try clear F)
  obtain ⟨x11, x12, rfl, rfl, H, HKk10, HS⟩ := hrel
  cases gk with
  | zero => exact absurd H.out (by simp [laws_heldPlanS.l0])
  | succ k10 =>
   simp only [laws_heldPlanS.l0] at H
   replace H := znif H; rcases H with ⟨c14, H⟩ | ⟨c14, H⟩
   case inl =>
    obtain rfl := zsome H
    go_wp2
    go_ret
    exact HS.pk
   replace H := zgo H; obtain ⟨c15, H⟩ := H
   replace H := zgo H; obtain ⟨c16, H⟩ := H
   obtain ⟨ad17, B17_1, d17_1, B17_3, d17_3, rfl, e17_0, e17_1, e17_2, e17_3, e17_4, e17_5, e17_6, m17_1, y17_1, m17_3, y17_3⟩ := at_T202 gp0 x12 (of_eq_true c15) (of_eq_true c16)
   have e17_0_17 := HS.keepc e17_0
   have e17_1_17 := HS.keepc e17_1
   have e17_2_17 := HS.keepc e17_2
   have e17_3_17 := HS.keepc e17_3
   have e17_4_17 := HS.keepc e17_4
   have e17_5_17 := HS.keepc e17_5
   have e17_6_17 := HS.keepc e17_6
   replace H := znif' H; rcases H with ⟨c18, H⟩ | ⟨c18, H⟩
   case inl =>
    have c18a := beq_eq_false_iff_ne.mpr c18
    have c18b := bne_iff_ne.mpr c18
    clear c18
    obtain rfl := zsome H
    go_wp2
    go_ret
    exact HS.pk
   have c18a := beq_iff_eq.mpr c18
   have c18b := bne_eq_false_iff_eq.mpr c18
   clear c18
   have e17_0_19 := HS.keepc e17_0
   have e17_1_19 := HS.keepc e17_1
   have e17_2_19 := HS.keepc e17_2
   have e17_3_19 := HS.keepc e17_3
   have e17_4_19 := HS.keepc e17_4
   have e17_5_19 := HS.keepc e17_5
   have e17_6_19 := HS.keepc e17_6
   replace H := zbind H; obtain ⟨t20, ht20, H⟩ := H
   go_upto_if 29 with ((with_reducible refine gd 27 rfl ?_); refine ev_cl HS (laws_heldIntS.calls ht20.out (HS.ro y17_1) m17_1) Tryz.func181 ?_; clear HS; intro wt20 HS F)
   replace H := zif H; rcases H with ⟨c22, H⟩ | ⟨c22, H⟩
   case inl =>
    (try simp only [c22, dcn])
    obtain rfl := zsome H
    go_wp2
    go_ret
    exact HS.pk
   (try simp only [c22, dcn])
   have e17_0_23 := HS.keepc e17_0
   have e17_1_23 := HS.keepc e17_1
   have e17_2_23 := HS.keepc e17_2
   have e17_3_23 := HS.keepc e17_3
   have e17_4_23 := HS.keepc e17_4
   have e17_5_23 := HS.keepc e17_5
   have e17_6_23 := HS.keepc e17_6
   replace H := znif' H; rcases H with ⟨c24, H⟩ | ⟨c24, H⟩
   case inl =>
    have c24a := beq_eq_false_iff_ne.mpr c24
    have c24b := bne_iff_ne.mpr c24
    clear c24
    obtain rfl := zsome H
    go_wp2
    go_ret
    exact HS.pk
   have c24a := beq_iff_eq.mpr c24
   have c24b := bne_eq_false_iff_eq.mpr c24
   clear c24
   have e17_0_25 := HS.keepc e17_0
   have e17_1_25 := HS.keepc e17_1
   have e17_2_25 := HS.keepc e17_2
   have e17_3_25 := HS.keepc e17_3
   have e17_4_25 := HS.keepc e17_4
   have e17_5_25 := HS.keepc e17_5
   have e17_6_25 := HS.keepc e17_6
   replace H := zbind H; obtain ⟨t26, ht26, H⟩ := H
   go_upto_if 49 with ((with_reducible refine gd 47 rfl ?_); refine ev_cl HS (laws_heldIntS.calls ht26.out (HS.ro y17_3) m17_3) Tryz.func181 ?_; clear HS; intro wt26 HS F)
   replace H := zif H; rcases H with ⟨c28, H⟩ | ⟨c28, H⟩
   case inl =>
    (try simp only [c28, dcn])
    obtain rfl := zsome H
    go_wp2
    go_ret
    exact HS.pk
   (try simp only [c28, dcn])
   have e17_0_29 := HS.keepc e17_0
   have e17_1_29 := HS.keepc e17_1
   have e17_2_29 := HS.keepc e17_2
   have e17_3_29 := HS.keepc e17_3
   have e17_4_29 := HS.keepc e17_4
   have e17_5_29 := HS.keepc e17_5
   have e17_6_29 := HS.keepc e17_6
   replace H := znif' H; rcases H with ⟨c30, H⟩ | ⟨c30, H⟩
   case inl =>
    have c30a := beq_eq_false_iff_ne.mpr c30
    have c30b := bne_iff_ne.mpr c30
    clear c30
    obtain rfl := zsome H
    go_wp2
    go_ret
    exact HS.pk
   have c30a := beq_iff_eq.mpr c30
   have c30b := bne_eq_false_iff_eq.mpr c30
   clear c30
   have e17_0_31 := HS.keepc e17_0
   have e17_1_31 := HS.keepc e17_1
   have e17_2_31 := HS.keepc e17_2
   have e17_3_31 := HS.keepc e17_3
   have e17_4_31 := HS.keepc e17_4
   have e17_5_31 := HS.keepc e17_5
   have e17_6_31 := HS.keepc e17_6
   replace H := znif' H; rcases H with ⟨c32, H⟩ | ⟨c32, H⟩
   case inl =>
    have c32a := beq_eq_false_iff_ne.mpr c32
    have c32b := bne_iff_ne.mpr c32
    clear c32
    obtain rfl := zsome H
    go_wp2
    go_ret
    exact HS.pk
   have c32a := beq_iff_eq.mpr c32
   have c32b := bne_eq_false_iff_eq.mpr c32
   clear c32
   have e17_0_33 := HS.keepc e17_0
   have e17_1_33 := HS.keepc e17_1
   have e17_2_33 := HS.keepc e17_2
   have e17_3_33 := HS.keepc e17_3
   have e17_4_33 := HS.keepc e17_4
   have e17_5_33 := HS.keepc e17_5
   have e17_6_33 := HS.keepc e17_6
   replace H := znif' H; rcases H with ⟨c34, H⟩ | ⟨c34, H⟩
   case inl =>
    have c34a := beq_eq_false_iff_ne.mpr c34
    have c34b := bne_iff_ne.mpr c34
    clear c34
    obtain rfl := zsome H
    go_wp2
    go_ret
    exact HS.pk
   have c34a := beq_iff_eq.mpr c34
   have c34b := bne_eq_false_iff_eq.mpr c34
   clear c34
   go_wp2
   go_roundg k10
   case measure => have := HKk10.out; omega
   case rel => exact ⟨_, _, rfl, rfl, H, ⟨by have := HKk10.out; omega⟩, HS.pick [] (by decide) (by rfl)⟩
def laws_heldKeptS.l0 : Nat → Int → Int → (List S205) → Option (Int)
  | 0, _, _, _ => none
  | k + 1, x9, x10, a0 => (if x10 < (a0.length : Int) then (if 0 ≤ x10 then (if x10 < (a0.length : Int) then ((laws_markText.f k x9).bind fun t13 => (if ((rd_T205 a0 x10).f0).toList = t13.toList then ((laws_markText.f k (wrap64 (x9 + 1))).bind fun t15 => (if ((rd_T205 a0 x10).f1).toList = t15.toList then (if (rd_T205 a0 x10).f2 = (wrap64 ((wrap64 (x9 + 1)) + 1)) then (laws_heldKeptS.l0 k (wrap64 ((wrap64 ((wrap64 (x9 + 1)) + 1)) + 1)) (wrap64 (x10 + 1)) a0) else (some (-1))) else (some (-1)))) else (some (-1)))) else none) else none) else (some x9))
def laws_heldKeptS.f (k : Nat) (a0 : (List S205)) (a1 : Int) : Option (Int) := (laws_heldKeptS.l0 k a1 0 a0)
def laws_heldKeptS.T4 : TT := (true, [([], []), ([], []), ([0, 1], [0, 1]), ([2], [2]), ([3], [3]), ([], []), ([5], [5]), ([4, 6], [4, 6])])
theorem laws_heldKeptS.tT4 : rtab .any (opsOf Tryz.f132 4) = laws_heldKeptS.T4 := by kernel_rfl
def laws_heldKeptS.T7 : TT := (true, [([], []), ([], []), ([0, 1], [0, 1]), ([2], [2]), ([3], [3]), ([], []), ([5], [5]), ([4, 6], [4, 6])])
theorem laws_heldKeptS.tT7 : rtab .any (opsOf Tryz.f132 7) = laws_heldKeptS.T7 := by kernel_rfl
theorem laws_heldKeptS.calls {k : Nat} {a0 : (List S205)} {a1 : Int} {Ap0 : Option Addr} {np0 cp0 : Nat} {r : Int} {w : World} (h : laws_heldKeptS.f k a0 a1 = some r) (gp0 : k205.C w Ap0 np0 a0) (lp0 : np0 ≤ cp0) :
    Calls Tryz.prog 132 #[.slice Ap0 np0 cp0, .int .i64 a1] w (fun e w' => e = .returned (.int .i64 r) ∧ Hp noFP w w' []) := by
 obtain rfl := C_len gp0
 have HS := Hp.start w
 have H := Aside0.mk h
 clear h
 unfold laws_heldKeptS.f at H
 go_enter Tryz.func132, Tryz.ntmps132
 go_wp2
 go_loopg [1, 5] k (fun kq v_1 v_5 w' => ∃ (x9 : Int) (x10 : Int), v_1 = .int .i64 x9 ∧ v_5 = .int .i64 x10 ∧ Aside0 (laws_heldKeptS.l0 kq x9 x10 a0 = some r) ∧ Aside0 (kq ≤ k) ∧ Hp noFP w w' [])
 case atStart => exact ⟨_, _, rfl, rfl, H, ⟨Nat.le_refl _⟩, HS⟩
 case round =>
  clear HS H; (try clear F)
  obtain ⟨x9, x10, rfl, rfl, H, HKk8, HS⟩ := hrel
  cases gk with
  | zero => exact absurd H.out (by simp [laws_heldKeptS.l0])
  | succ k8 =>
   simp only [laws_heldKeptS.l0] at H
   replace H := znif H; rcases H with ⟨c12, H⟩ | ⟨c12, H⟩
   case inl =>
    obtain rfl := zsome H
    go_wp2
    go_ret
    exact HS.pk
   (try go_wp2)
   replace H := zgo H; obtain ⟨c3, H⟩ := H
   replace H := zgo H; obtain ⟨c6, H⟩ := H
   obtain ⟨ad11, rfl, e11_0, e11_1, e11_2⟩ := at_T205 gp0 x10 (of_eq_true c3) (of_eq_true c6)
   replace H := zbind H; obtain ⟨t13, ht13, H⟩ := H
   refine dr_start [] HS #[false, false, false, false, false, false, false, false] (by kernel_rfl) rfl rfl laws_heldKeptS.tT4 (fun w14 HT HS HH => ?_)
   (try clear F)
   refine drq_of [(0, some 12), (1, some 13), (2, some 14), (3, some 15)] ?_
   repeat (refine drp HT ?_)
   refine drq_end ?_
   refine dr_take 4 (some 16) HT HH (v := ?_) (a' := ?_) rfl rfl (by kernel_rfl) (fun _ _ _ h => h) (.inl ⟨by rfl, ?_⟩) ?_ ?_
   rotate_left
   · rintro w' ⟨rs', HS'⟩; have e11_0 := HS'.keepc e11_0; have e11_1 := HS'.keepc e11_1; have e11_2 := HS'.keepc e11_2; go_simp; with_reducible rfl
   rotate_left
   · simp only [Act.put, ptn]; rfl
   refine drq_of [(5, some 17)] ?_
   repeat (refine drp HT ?_)
   refine drq_end ?_
   refine dr1 6 HT fun K hK => ?_
   refine go_cl HS (laws_markText.calls ht13.out) Tryz.func180 ?_; clear HS; intro wt13 HS F
   refine nrm 18 hK ⟨_, HS⟩ (fun HH => ?_); clear hK K
   refine drq_of [(7, some 19)] ?_
   repeat (refine drp HT ?_)
   refine drq_end ?_
   refine done_ (done_of HT.out (by kernel_rfl)) ?_
   replace H := znif' H; rcases H with ⟨c16, H⟩ | ⟨c16, H⟩
   case inl =>
    have c16a := beq_eq_false_iff_ne.mpr c16
    have c16b := bne_iff_ne.mpr c16
    clear c16
    (try simp only [c16a, c16b, dcn])
    obtain rfl := zsome H
    go_wp2
    go_ret
    exact HS.pk
   have c16a := beq_iff_eq.mpr c16
   have c16b := bne_eq_false_iff_eq.mpr c16
   clear c16
   (try simp only [c16a, c16b, dcn])
   (try go_wp2)
   replace H := zbind H; obtain ⟨t15, ht15, H⟩ := H
   refine dr_start [] HS #[false, false, false, false, false, false, false, false] (by kernel_rfl) rfl rfl laws_heldKeptS.tT7 (fun w18 HT HS HH => ?_)
   (try clear F)
   refine drq_of [(0, some 22), (1, some 23), (2, some 24), (3, some 25)] ?_
   repeat (refine drp HT ?_)
   refine drq_end ?_
   refine dr_take 4 (some 26) HT HH (v := ?_) (a' := ?_) rfl rfl (by kernel_rfl) (fun _ _ _ h => h) (.inl ⟨by rfl, ?_⟩) ?_ ?_
   rotate_left
   · rintro w' ⟨rs', HS'⟩; have e11_0 := HS'.keepc e11_0; have e11_1 := HS'.keepc e11_1; have e11_2 := HS'.keepc e11_2; go_simp; with_reducible rfl
   rotate_left
   · simp only [Act.put, ptn]; rfl
   refine drq_of [(5, some 27)] ?_
   repeat (refine drp HT ?_)
   refine drq_end ?_
   refine dr1 6 HT fun K hK => ?_
   refine go_cl HS (laws_markText.calls ht15.out) Tryz.func180 ?_; clear HS; intro wt15 HS F
   refine nrm 28 hK ⟨_, HS⟩ (fun HH => ?_); clear hK K
   refine drq_of [(7, some 29)] ?_
   repeat (refine drp HT ?_)
   refine drq_end ?_
   refine done_ (done_of HT.out (by kernel_rfl)) ?_
   replace H := znif' H; rcases H with ⟨c20, H⟩ | ⟨c20, H⟩
   case inl =>
    have c20a := beq_eq_false_iff_ne.mpr c20
    have c20b := bne_iff_ne.mpr c20
    clear c20
    (try simp only [c20a, c20b, dcn])
    obtain rfl := zsome H
    go_wp2
    go_ret
    exact HS.pk
   have c20a := beq_iff_eq.mpr c20
   have c20b := bne_eq_false_iff_eq.mpr c20
   clear c20
   (try simp only [c20a, c20b, dcn])
   have e11_0_21 := HS.keepc e11_0
   have e11_1_21 := HS.keepc e11_1
   have e11_2_21 := HS.keepc e11_2
   replace H := znif' H; rcases H with ⟨c22, H⟩ | ⟨c22, H⟩
   case inl =>
    have c22a := beq_eq_false_iff_ne.mpr c22
    have c22b := bne_iff_ne.mpr c22
    clear c22
    (try simp only [c22a, c22b, dcn])
    obtain rfl := zsome H
    go_wp2
    go_ret
    exact HS.pk
   have c22a := beq_iff_eq.mpr c22
   have c22b := bne_eq_false_iff_eq.mpr c22
   clear c22
   (try simp only [c22a, c22b, dcn])
   go_wp2
   go_roundg k8
   case measure => have := HKk8.out; omega
   case rel => exact ⟨_, _, rfl, rfl, H, ⟨by have := HKk8.out; omega⟩, HS.pick [] (by decide) (by rfl)⟩
def laws_heldStringS.l0 : Nat → Int → Int → (List ByteArray) → Option (Int)
  | 0, _, _, _ => none
  | k + 1, x9, x10, a0 => (if x10 < (a0.length : Int) then (if 0 ≤ x10 then (if x10 < (a0.length : Int) then ((laws_markText.f k x9).bind fun t11 => (if (rdOf ByteArray.empty a0 x10).toList = t11.toList then (laws_heldStringS.l0 k (wrap64 (x9 + 1)) (wrap64 (x10 + 1)) a0) else (some (-1)))) else none) else none) else (some x9))
def laws_heldStringS.f (k : Nat) (a0 : (List ByteArray)) (a1 : Int) : Option (Int) := (laws_heldStringS.l0 k a1 0 a0)
def laws_heldStringS.T4 : TT := (true, [([], []), ([], []), ([0, 1], [0, 1]), ([2], [2]), ([], []), ([4], [4]), ([3, 5], [3, 5])])
theorem laws_heldStringS.tT4 : rtab .any (opsOf Tryz.f182 4) = laws_heldStringS.T4 := by kernel_rfl
theorem laws_heldStringS.calls {k : Nat} {a0 : (List ByteArray)} {a1 : Int} {Ap0 : Option Addr} {np0 cp0 : Nat} {r : Int} {w : World} (h : laws_heldStringS.f k a0 a1 = some r) (gp0 : Kd.string.C w Ap0 np0 a0) (lp0 : np0 ≤ cp0) :
    Calls Tryz.prog 182 #[.slice Ap0 np0 cp0, .int .i64 a1] w (fun e w' => e = .returned (.int .i64 r) ∧ Hp noFP w w' []) := by
 obtain rfl := C_len gp0
 have HS := Hp.start w
 have H := Aside0.mk h
 clear h
 unfold laws_heldStringS.f at H
 go_enter Tryz.func182, Tryz.ntmps182
 go_wp2
 go_loopg [1, 5] k (fun kq v_1 v_5 w' => ∃ (x9 : Int) (x10 : Int), v_1 = .int .i64 x9 ∧ v_5 = .int .i64 x10 ∧ Aside0 (laws_heldStringS.l0 kq x9 x10 a0 = some r) ∧ Aside0 (kq ≤ k) ∧ Hp noFP w w' [])
 case atStart => exact ⟨_, _, rfl, rfl, H, ⟨Nat.le_refl _⟩, HS⟩
 case round =>
  clear HS H; (try clear F)
  obtain ⟨x9, x10, rfl, rfl, H, HKk8, HS⟩ := hrel
  cases gk with
  | zero => exact absurd H.out (by simp [laws_heldStringS.l0])
  | succ k8 =>
   simp only [laws_heldStringS.l0] at H
   replace H := znif H; rcases H with ⟨c12, H⟩ | ⟨c12, H⟩
   case inl =>
    obtain rfl := zsome H
    go_wp2
    go_ret
    exact HS.pk
   (try go_wp2)
   replace H := zgo H; obtain ⟨c3, H⟩ := H
   replace H := zgo H; obtain ⟨c6, H⟩ := H
   obtain ⟨ad7, rfl, e7_0⟩ := Kd.at_string gp0 x10 (of_eq_true c3) (of_eq_true c6)
   replace H := zbind H; obtain ⟨t11, ht11, H⟩ := H
   refine dr_start [] HS #[false, false, false, false, false, false, false] (by kernel_rfl) rfl rfl laws_heldStringS.tT4 (fun w14 HT HS HH => ?_)
   (try clear F)
   refine drq_of [(0, some 12), (1, some 13), (2, some 14)] ?_
   repeat (refine drp HT ?_)
   refine drq_end ?_
   refine dr_take 3 (some 15) HT HH (v := ?_) (a' := ?_) rfl rfl (by kernel_rfl) (fun _ _ _ h => h) (.inl ⟨by rfl, ?_⟩) ?_ ?_
   rotate_left
   · rintro w' ⟨rs', HS'⟩; have e7_0 := HS'.keepc e7_0; go_simp; with_reducible rfl
   rotate_left
   · simp only [Act.put, ptn]; rfl
   refine drq_of [(4, some 16)] ?_
   repeat (refine drp HT ?_)
   refine drq_end ?_
   refine dr1 5 HT fun K hK => ?_
   refine go_cl HS (laws_markText.calls ht11.out) Tryz.func180 ?_; clear HS; intro wt11 HS F
   refine nrm 17 hK ⟨_, HS⟩ (fun HH => ?_); clear hK K
   refine drq_of [(6, some 18)] ?_
   repeat (refine drp HT ?_)
   refine drq_end ?_
   refine done_ (done_of HT.out (by kernel_rfl)) ?_
   replace H := znif' H; rcases H with ⟨c16, H⟩ | ⟨c16, H⟩
   case inl =>
    have c16a := beq_eq_false_iff_ne.mpr c16
    have c16b := bne_iff_ne.mpr c16
    clear c16
    (try simp only [c16a, c16b, dcn])
    obtain rfl := zsome H
    go_wp2
    go_ret
    exact HS.pk
   have c16a := beq_iff_eq.mpr c16
   have c16b := bne_eq_false_iff_eq.mpr c16
   clear c16
   (try simp only [c16a, c16b, dcn])
   go_wp2
   go_roundg k8
   case measure => have := HKk8.out; omega
   case rel => exact ⟨_, _, rfl, rfl, H, ⟨by have := HKk8.out; omega⟩, HS.pick [] (by decide) (by rfl)⟩
end Go.Proofs.YtacocpknielofaaGreatDoor.F
