/- Functions of the program and of the law, and that their calls do what is written here. -/
import Derived.Test.YtoaoncnbimcdgaaZgFnExactAskNowa
namespace Go.Proofs.Ytoaoncnbimcdgaa.F
open Go.RowKit Go.Proofs.YtoaoncnbimcdgaaW.PrintWords Go.Proofs.YtoaoncnbimcdgaaW.PrintLast Go.Proofs.YtoaoncnbimcdgaaW.PrintMore Go.Proofs.Ytoaoncnbimcdgaa.Z
attribute [local go_sem] max2_int min2_int max_two min_two max_three min_three max_four min_four
set_option linter.unusedVariables false
set_option linter.unusedSimpArgs false
set_option maxRecDepth 100000
/-! ### laws_eqClient: function 11 -/
def laws_eqClient.f (k : Nat) (a0 : S31) (a1 : S31) : Option (Bool) := (if a0.f0.toList = a1.f0.toList then (if a0.f1 = a1.f1 then ((laws_eqWaitS.f k a0.f2 a1.f2).bind fun t7 => (if t7 = true then ((laws_eqGotS.f k a0.f3 a1.f3).bind fun t10 => (if t10 = true then ((laws_eqIntS.f k a0.f4 a1.f4).bind fun t13 => (if t13 = true then (some true) else (some false))) else (some false))) else (some false))) else (some false)) else (some false))
set_option maxHeartbeats 16000000 in
theorem laws_eqClient.calls {k : Nat} {a0 : S31} {a1 : S31} {Ap0 : Option Addr} {np0 cp0 : Nat} {Ap1 : Option Addr} {np1 cp1 : Nat} {Ap2 : Option Addr} {np2 cp2 : Nat} {Ap3 : Option Addr} {np3 cp3 : Nat} {Ap4 : Option Addr} {np4 cp4 : Nat} {Ap5 : Option Addr} {np5 cp5 : Nat} {r : Bool} {w : World} (h : laws_eqClient.f k a0 a1 = some r) (gp0 : k89.C w Ap0 np0 a0.f2) (lp0 : np0 ≤ cp0) (gp1 : k150.C w Ap1 np1 a0.f3) (lp1 : np1 ≤ cp1) (gp2 : (Kd.int .i64).C w Ap2 np2 a0.f4) (lp2 : np2 ≤ cp2) (gp3 : k89.C w Ap3 np3 a1.f2) (lp3 : np3 ≤ cp3) (gp4 : k150.C w Ap4 np4 a1.f3) (lp4 : np4 ≤ cp4) (gp5 : (Kd.int .i64).C w Ap5 np5 a1.f4) (lp5 : np5 ≤ cp5) :
    Calls Try.prog 11 #[.agg #[.string a0.f0, .int .i64 a0.f1, .slice Ap0 np0 cp0, .slice Ap1 np1 cp1, .slice Ap2 np2 cp2], .agg #[.string a1.f0, .int .i64 a1.f1, .slice Ap3 np3 cp3, .slice Ap4 np4 cp4, .slice Ap5 np5 cp5]] w (fun e w' => e = .returned (.bool r) ∧ Hp noFP w w' []) := by
 obtain rfl := C_len gp0
 obtain rfl := C_len gp1
 obtain rfl := C_len gp2
 obtain rfl := C_len gp3
 obtain rfl := C_len gp4
 obtain rfl := C_len gp5
 have HS := Hp.start w
 have H := Aside0.mk h
 clear h
 unfold laws_eqClient.f at H
 go_enter Try.func11, Try.ntmps11
 go_upto_if 9 with (first | ((with_reducible refine gate_dst (N := 2) rfl ?_); refine ev_box rfl HS (by first | (go_simp; done) | (go_simp; rfl)) rfl ?_; clear HS; (try clear F); intro g2 w2 HS; (try simp only [hpn, hpm] at HS); have F := HS.boxes; simp only [boxFacts, and_true] at F) | ((with_reducible refine gate_dst (N := 3) rfl ?_); refine ev_box rfl HS (by first | (go_simp; done) | (go_simp; rfl)) rfl ?_; clear HS; (try clear F); intro g3 w3 HS; (try simp only [hpn, hpm] at HS); have F := HS.boxes; simp only [boxFacts, and_true] at F))
 by_cases c5 : a0.f0.toList = a1.f0.toList
 · replace H := zpos c5 H
   have c5a := beq_iff_eq.mpr c5
   have c5b := bne_eq_false_iff_eq.mpr c5
   clear c5
   (try simp only [c5a, c5b, dcn])
   by_cases c6 : a0.f1 = a1.f1
   · replace H := zpos c6 H
     have c6a := beq_iff_eq.mpr c6
     have c6b := bne_eq_false_iff_eq.mpr c6
     clear c6
     replace H := zbind H; obtain ⟨t7, ht7, H⟩ := H
     go_upto_if 20 with (first | ((with_reducible refine gate_dst (N := 19) rfl ?_); refine ev_call rfl Try.func44 (by kernel_rfl) rfl #[.slice Ap0 a0.f2.length cp0, .slice Ap3 a1.f2.length cp3] rfl (by simp only [List.map_toArray, List.map_cons, List.map_nil]; rfl) ?_; refine (laws_eqWaitS.calls ht7.out (HS.ro gp0) lp0 (HS.ro gp3) lp3).mono ?_; rintro _ wt7 ⟨rfl, HQ⟩; refine ⟨_, rfl, ?_⟩; replace HS := HS.call HQ; clear HQ; (try clear F); (try simp only [hpn, hpm] at HS); have F := HS.boxes; simp only [boxFacts, and_true] at F))
     by_cases c9 : t7 = true
     · replace H := zpos c9 H
       subst c9
       (try simp only [dcn, if_true, Bool.false_eq_true, if_false])
       replace H := zbind H; obtain ⟨t10, ht10, H⟩ := H
       go_upto_if 26 with (first | ((with_reducible refine gate_dst (N := 25) rfl ?_); refine ev_call rfl Try.func45 (by kernel_rfl) rfl #[.slice Ap1 a0.f3.length cp1, .slice Ap4 a1.f3.length cp4] rfl (by simp only [List.map_toArray, List.map_cons, List.map_nil]; rfl) ?_; refine (laws_eqGotS.calls ht10.out (HS.ro gp1) lp1 (HS.ro gp4) lp4).mono ?_; rintro _ wt10 ⟨rfl, HQ⟩; refine ⟨_, rfl, ?_⟩; replace HS := HS.call HQ; clear HQ; (try clear F); (try simp only [hpn, hpm] at HS); have F := HS.boxes; simp only [boxFacts, and_true] at F))
       by_cases c12 : t10 = true
       · replace H := zpos c12 H
         subst c12
         (try simp only [dcn, if_true, Bool.false_eq_true, if_false])
         replace H := zbind H; obtain ⟨t13, ht13, H⟩ := H
         go_upto_if 32 with (first | ((with_reducible refine gate_dst (N := 31) rfl ?_); refine ev_call rfl Try.func46 (by kernel_rfl) rfl #[.slice Ap2 a0.f4.length cp2, .slice Ap5 a1.f4.length cp5] rfl (by simp only [List.map_toArray, List.map_cons, List.map_nil]; rfl) ?_; refine (laws_eqIntS.calls ht13.out (HS.ro gp2) lp2 (HS.ro gp5) lp5).mono ?_; rintro _ wt13 ⟨rfl, HQ⟩; refine ⟨_, rfl, ?_⟩; replace HS := HS.call HQ; clear HQ; (try clear F); (try simp only [hpn, hpm] at HS); have F := HS.boxes; simp only [boxFacts, and_true] at F))
         by_cases c15 : t13 = true
         · replace H := zpos c15 H
           subst c15
           (try simp only [dcn, if_true, Bool.false_eq_true, if_false])
           obtain rfl := zsome H
           go_wp2
           go_ret
           exact ⟨rfl, HS.pick [] (by decide) (by rfl)⟩
         · replace H := zneg c15 H
           replace c15 := eq_false_of_ne_true c15
           subst c15
           (try simp only [dcn, if_true, Bool.false_eq_true, if_false])
           obtain rfl := zsome H
           go_wp2
           go_ret
           exact ⟨rfl, HS.pick [] (by decide) (by rfl)⟩
       · replace H := zneg c12 H
         replace c12 := eq_false_of_ne_true c12
         subst c12
         (try simp only [dcn, if_true, Bool.false_eq_true, if_false])
         obtain rfl := zsome H
         go_wp2
         go_ret
         exact ⟨rfl, HS.pick [] (by decide) (by rfl)⟩
     · replace H := zneg c9 H
       replace c9 := eq_false_of_ne_true c9
       subst c9
       (try simp only [dcn, if_true, Bool.false_eq_true, if_false])
       obtain rfl := zsome H
       go_wp2
       go_ret
       exact ⟨rfl, HS.pick [] (by decide) (by rfl)⟩
   · replace H := zneg c6 H
     have c6a := beq_eq_false_iff_ne.mpr c6
     have c6b := bne_iff_ne.mpr c6
     clear c6
     obtain rfl := zsome H
     go_wp2
     go_ret
     exact ⟨rfl, HS.pick [] (by decide) (by rfl)⟩
 · replace H := zneg c5 H
   have c5a := beq_eq_false_iff_ne.mpr c5
   have c5b := bne_iff_ne.mpr c5
   clear c5
   (try simp only [c5a, c5b, dcn])
   obtain rfl := zsome H
   go_wp2
   go_ret
   exact ⟨rfl, HS.pick [] (by decide) (by rfl)⟩
/-! ### laws_markText: function 110 -/
def laws_markText.l0 : Nat → Int → ByteArray → Option (ByteArray)
  | 0, _, _ => none
  | k + 1, x11, x12 => (if 0 < x11 then (if (strOfNums ([((wrap64 (48 + (Int.tmod x11 10))) % 256)] : List Int)).size + x12.size ≤ 9223372036854775807 then (laws_markText.l0 k (wrap64 (Int.tdiv x11 10)) ((strOfNums ([((wrap64 (48 + (Int.tmod x11 10))) % 256)] : List Int)) ++ x12)) else none) else (if (⟨#[109]⟩ : ByteArray).size + x12.size ≤ 9223372036854775807 then (some ((⟨#[109]⟩ : ByteArray) ++ x12)) else none))
def laws_markText.f (k : Nat) (a0 : Int) : Option (ByteArray) := (if a0 ≤ 0 then (some (⟨#[109, 48]⟩ : ByteArray)) else (laws_markText.l0 k a0 (⟨#[]⟩ : ByteArray)))
set_option maxHeartbeats 16000000 in
theorem laws_markText.calls {k : Nat} {a0 : Int} {r : ByteArray} {w : World} (h : laws_markText.f k a0 = some r) :
    Calls Try.prog 110 #[.int .i64 a0] w (fun e w' => e = .returned (.string r) ∧ Hp noFP w w' []) := by
 have HS := Hp.start w
 have H := Aside0.mk h
 clear h
 unfold laws_markText.f at H
 go_enter Try.func110, Try.ntmps110
 by_cases c1 : a0 ≤ 0
 · replace H := zpos c1 H
   replace c1 := eq_true c1
   obtain rfl := zsome H
   go_wp2
   go_ret
   exact ⟨rfl, HS.pick [] (by decide) (by rfl)⟩
 · replace H := zneg c1 H
   replace c1 := eq_false c1
   go_wp2
   go_loopg [0, 3] k (fun kq v_0 v_3 w' => ∃ (x11 : Int) (x12 : ByteArray), v_0 = .int .i64 x11 ∧ v_3 = .string x12 ∧ Aside0 (laws_markText.l0 kq x11 x12 = some r) ∧ Aside0 (kq ≤ k) ∧ Hp noFP w w' [])
   case atStart => exact ⟨_, _, rfl, rfl, H, ⟨Nat.le_refl _⟩, HS⟩
   case round =>
    clear HS H; (try clear F)
    obtain ⟨x11, x12, rfl, rfl, H, HKk10, HS⟩ := hrel
    cases gk with
    | zero => exact absurd H.out (by simp [laws_markText.l0])
    | succ k10 =>
     simp only [laws_markText.l0] at H
     by_cases c14 : 0 < x11
     · replace H := zpos c14 H
       replace c14 := eq_true c14
       by_cases c17 : (strOfNums ([((wrap64 (48 + (Int.tmod x11 10))) % 256)] : List Int)).size + x12.size ≤ 9223372036854775807
       case neg => exact zno c17 H
       replace H := zpos c17 H
       replace c17 := eq_true c17
       go_wp2_with (first | ((with_reducible refine gate_dst (N := 12) rfl ?_); refine ev_lit rfl (Zd.int .u8) [] ([((wrap64 (48 + (Int.tmod x11 10))) % 256)] : List Int) ([.int .u8 ((wrap64 (48 + (Int.tmod x11 10))) % 256)] ++ []) HS (by first | (go_simp; done) | (go_simp; rfl)) rfl rfl (Nat.le_of_ble_eq_true rfl) (MadeL.cons (js1 := []) (c := [.int .u8 ((wrap64 (48 + (Int.tmod x11 10))) % 256)]) rfl (made_flat (fun _ => rfl)) MadeL.nil (by decide)) ?_; clear HS; (try clear F); intro v15 w15 HS; obtain ⟨B15, d15, rfl, m15⟩ := HS.formn 1 0 rfl rfl; (try simp only [hpn, hpm] at HS)) | ((with_reducible refine gate_dst (N := 13) rfl ?_); refine ev_val rfl (run_str rfl rfl Try.underlying210 Try.underlying5 Try.underlying9 (HS.rd 0 rfl)) ?_) | ((with_reducible refine gate_dst (N := 15) rfl ?_); refine ev_val rfl (run_cat rfl rfl rfl (of_eq_true c17)) ?_))
       go_roundg k10
       case measure => have := HKk10.out; omega
       case rel => exact ⟨_, _, rfl, rfl, H, ⟨by have := HKk10.out; omega⟩, HS.pick [] (by decide) (by rfl)⟩
     · replace H := zneg c14 H
       replace c14 := eq_false c14
       by_cases c18 : (⟨#[109]⟩ : ByteArray).size + x12.size ≤ 9223372036854775807
       case neg => exact zno c18 H
       replace H := zpos c18 H
       replace c18 := eq_true c18
       obtain rfl := zsome H
       go_wp2_with (first | ((with_reducible refine gate_dst (N := 19) rfl ?_); refine ev_val rfl (run_cat rfl rfl rfl (of_eq_true c18)) ?_))
       go_ret
       exact ⟨rfl, HS.pick [] (by decide) (by rfl)⟩
/-! ### laws_markWaitS: function 47 -/
def laws_markWaitS.l0 : Nat → (List S89) → Int → Int → (List S89) → Option (Int × (List S89))
  | 0, _, _, _, _ => none
  | k + 1, l34, x36, x37, a0 => (if x37 < (a0.length : Int) then (if 0 ≤ x37 then (if x37 < (a0.length : Int) then (lets (l34.set (x37).toNat (u89_0_3 (rd_T89 l34 x37) x36)) fun y44 => (lets (y44.set (x37).toNat (u89_1_3 (rd_T89 y44 x37) (wrap64 (x36 + 1)))) fun y48 => ((laws_markText.f k (wrap64 ((wrap64 (x36 + 1)) + 1))).bind fun t50 => (lets (y48.set (x37).toNat (u89_2_9 (rd_T89 y48 x37) t50)) fun y54 => (lets (y54.set (x37).toNat (u89_3_3 (rd_T89 y54 x37) (wrap64 ((wrap64 ((wrap64 (x36 + 1)) + 1)) + 1)))) fun y58 => (laws_markWaitS.l0 k y58 (wrap64 ((wrap64 ((wrap64 ((wrap64 (x36 + 1)) + 1)) + 1)) + 1)) (wrap64 (x37 + 1)) a0)))))) else none) else none) else (some (x36, l34)))
def laws_markWaitS.f (k : Nat) (a0 : (List S89)) (a1 : Int) : Option (Int × (List S89)) := (laws_markWaitS.l0 k a0 a1 0 a0)
set_option maxHeartbeats 16000000 in
theorem laws_markWaitS.calls {k : Nat} {a0 : (List S89)} {a1 : Int} {A : FP} {vp0 : Value} {r1 : Int} {r2 : (List S89)} {w : World} (h : laws_markWaitS.f k a0 a1 = some (r1, r2)) (HS : Hp A w w [.own (Zd.slice 89 q89) a0 [vp0]]) :
    Calls Try.prog 47 #[vp0, .int .i64 a1] w (fun e w' => e = .returned (.int .i64 r1) ∧ Hp A w w' [.own (Zd.slice 89 q89) r2 [vp0]]) := by
 obtain ⟨B1, d1, rfl, m1⟩ := HS.form 0 rfl
 have H := Aside0.mk h
 clear h
 unfold laws_markWaitS.f at H
 go_enter Try.func47, Try.ntmps47
 go_wp2
 go_loopg [1, 5] k (fun kq v_1 v_5 w' => ∃ (l34 : List S89) (x36 : Int) (x37 : Int), v_1 = .int .i64 x36 ∧ v_5 = .int .i64 x37 ∧ Aside0 (laws_markWaitS.l0 kq l34 x36 x37 a0 = some (r1, r2)) ∧ Aside0 (kq ≤ k) ∧ Hp A w w' [.own (Zd.slice 89 q89) l34 [.slice B1 a0.length d1]])
 case atStart => exact ⟨_, _, _, rfl, rfl, H, ⟨Nat.le_refl _⟩, HS⟩
 case round =>
  clear HS H; (try clear F)
  obtain ⟨l34, x36, x37, rfl, rfl, H, HKk33, HS⟩ := hrel
  cases gk with
  | zero => exact absurd H.out (by simp [laws_markWaitS.l0])
  | succ k33 =>
   simp only [laws_markWaitS.l0] at H
   by_cases c39 : x37 < (a0.length : Int)
   · replace H := zpos c39 H
     replace c39 := eq_true c39
     by_cases c40 : 0 ≤ x37
     case neg => exact zno c40 H
     replace H := zpos c40 H
     replace c40 := eq_true c40
     by_cases c41 : x37 < (a0.length : Int)
     case neg => exact zno c41 H
     replace H := zpos c41 H
     replace c41 := eq_true c41
     obtain ⟨ad42, rfl, e42_0, e42_1, e42_2, e42_3⟩ := at_T89 (HS.rd 0 rfl) x37 (of_eq_true c40) (of_eq_true c41)
     replace H := zlets H; obtain ⟨y44, e_y44, H⟩ := H
     replace H := zlets H; obtain ⟨y48, e_y48, H⟩ := H
     replace H := zbind H; obtain ⟨t50, ht50, H⟩ := H
     replace H := zlets H; obtain ⟨y54, e_y54, H⟩ := H
     replace H := zlets H; obtain ⟨y58, e_y58, H⟩ := H
     go_wp2_with (first | ((with_reducible refine gate_store (p := 16) rfl ?_); refine ev_setp (ad := ad42) rfl q89 (Zd.int .i64) lens89_0_3 0 [] x37 (rd_T89 l34 x37) x36 HS (seg := [.int .i64 x36]) rfl (by decide) rfl rfl rfl (by rintro g rfl; simp only [add_plain]; refine congrArg (fun n => (⟨g, n, none⟩ : Addr)) ?_; first | rfl | (show 0 + (x37).toNat * 4 + 0 = (x37).toNat * 4 + 0; omega) | (show 0 + (x37).toNat * 4 = (x37).toNat * 4 + 0; omega)) rfl rfl (by kernel_rfl) (by simp [Value.oneCell']) ⟨of_eq_true c40, of_eq_true c41⟩ rfl (fun hl => rd_T89_get hl) (made_flat (fun _ => rfl)) ?_; clear HS; (try clear F); intro w43 HS; rw [← e_y44.out] at HS; (try simp only [hpn, hpm] at HS); obtain ⟨ad46, hq46, e46_0, e46_1, e46_2, e46_3⟩ := at_T89 (HS.rd 0 rfl) x37 (of_eq_true c40) (of_eq_true c41); obtain rfl := Option.some.inj hq46) | ((with_reducible refine gate_store (p := 23) rfl ?_); refine ev_setp (ad := ad42) rfl q89 (Zd.int .i64) lens89_1_3 0 [] x37 (rd_T89 y44 x37) (wrap64 (x36 + 1)) HS (seg := [.int .i64 (wrap64 (x36 + 1))]) rfl (by decide) rfl rfl rfl (by rintro g rfl; simp only [add_plain]; refine congrArg (fun n => (⟨g, n, none⟩ : Addr)) ?_; first | rfl | (show 0 + (x37).toNat * 4 + 1 = (x37).toNat * 4 + 1; omega) | (show 0 + (x37).toNat * 4 = (x37).toNat * 4 + 0; omega)) rfl rfl (by kernel_rfl) (by simp [Value.oneCell']) ⟨of_eq_true c40, of_eq_true c41⟩ rfl (fun hl => rd_T89_get hl) (made_flat (fun _ => rfl)) ?_; clear HS; (try clear F); intro w47 HS; rw [← e_y48.out] at HS; (try simp only [hpn, hpm] at HS)) | ((with_reducible refine gate_dst (N := 29) rfl ?_); refine ev_call rfl Try.func110 (by kernel_rfl) rfl #[.int .i64 (wrap64 ((wrap64 (x36 + 1)) + 1))] rfl (by simp only [List.map_toArray, List.map_cons, List.map_nil]; rfl) ?_; refine (laws_markText.calls ht50.out).mono ?_; rintro _ wt50 ⟨rfl, HQ⟩; refine ⟨_, rfl, ?_⟩; replace HS := HS.call HQ; clear HQ; (try clear F); (try simp only [hpn, hpm] at HS); obtain ⟨ad52, hq52, e52_0, e52_1, e52_2, e52_3⟩ := at_T89 (HS.rd 0 rfl) x37 (of_eq_true c40) (of_eq_true c41); obtain rfl := Option.some.inj hq52) | ((with_reducible refine gate_store (p := 31) rfl ?_); refine ev_setp (ad := ad42) rfl q89 Zd.string lens89_2_9 0 [] x37 (rd_T89 y48 x37) t50 HS (seg := [.string t50]) rfl (by decide) rfl rfl rfl (by rintro g rfl; simp only [add_plain]; refine congrArg (fun n => (⟨g, n, none⟩ : Addr)) ?_; first | rfl | (show 0 + (x37).toNat * 4 + 2 = (x37).toNat * 4 + 2; omega) | (show 0 + (x37).toNat * 4 = (x37).toNat * 4 + 0; omega)) rfl rfl (by kernel_rfl) (by simp [Value.oneCell']) ⟨of_eq_true c40, of_eq_true c41⟩ rfl (fun hl => rd_T89_get hl) (made_flat (fun _ => rfl)) ?_; clear HS; (try clear F); intro w53 HS; rw [← e_y54.out] at HS; (try simp only [hpn, hpm] at HS); obtain ⟨ad56, hq56, e56_0, e56_1, e56_2, e56_3⟩ := at_T89 (HS.rd 0 rfl) x37 (of_eq_true c40) (of_eq_true c41); obtain rfl := Option.some.inj hq56) | ((with_reducible refine gate_store (p := 38) rfl ?_); refine ev_setp (ad := ad42) rfl q89 (Zd.int .i64) lens89_3_3 0 [] x37 (rd_T89 y54 x37) (wrap64 ((wrap64 ((wrap64 (x36 + 1)) + 1)) + 1)) HS (seg := [.int .i64 (wrap64 ((wrap64 ((wrap64 (x36 + 1)) + 1)) + 1))]) rfl (by decide) rfl rfl rfl (by rintro g rfl; simp only [add_plain]; refine congrArg (fun n => (⟨g, n, none⟩ : Addr)) ?_; first | rfl | (show 0 + (x37).toNat * 4 + 3 = (x37).toNat * 4 + 3; omega) | (show 0 + (x37).toNat * 4 = (x37).toNat * 4 + 0; omega)) rfl rfl (by kernel_rfl) (by simp [Value.oneCell']) ⟨of_eq_true c40, of_eq_true c41⟩ rfl (fun hl => rd_T89_get hl) (made_flat (fun _ => rfl)) ?_; clear HS; (try clear F); intro w57 HS; rw [← e_y58.out] at HS; (try simp only [hpn, hpm] at HS)))
     go_roundg k33
     case measure => have := HKk33.out; omega
     case rel => exact ⟨_, _, _, rfl, rfl, H, ⟨by have := HKk33.out; omega⟩, HS.pick [0] (by decide) (by rfl)⟩
   · replace H := zneg c39 H
     replace c39 := eq_false c39
     obtain ⟨rfl, rfl⟩ := zsome2 H
     go_wp2
     go_ret
     exact ⟨rfl, HS.pick [0] (by decide) (by rfl)⟩
/-! ### laws_markStringS: function 101 -/
def laws_markStringS.l0 : Nat → (List ByteArray) → Int → Int → (List ByteArray) → Option (Int × (List ByteArray))
  | 0, _, _, _, _ => none
  | k + 1, l21, x23, x24, a0 => (if x24 < (a0.length : Int) then ((laws_markText.f k x23).bind fun t27 => (if 0 ≤ x24 then (if x24 < (a0.length : Int) then (laws_markStringS.l0 k (l21.set (x24).toNat t27) (wrap64 (x23 + 1)) (wrap64 (x24 + 1)) a0) else none) else none)) else (some (x23, l21)))
def laws_markStringS.f (k : Nat) (a0 : (List ByteArray)) (a1 : Int) : Option (Int × (List ByteArray)) := (laws_markStringS.l0 k a0 a1 0 a0)
set_option maxHeartbeats 16000000 in
theorem laws_markStringS.calls {k : Nat} {a0 : (List ByteArray)} {a1 : Int} {A : FP} {vp0 : Value} {r1 : Int} {r2 : (List ByteArray)} {w : World} (h : laws_markStringS.f k a0 a1 = some (r1, r2)) (HS : Hp A w w [.own (Zd.slice 9 Zd.string) a0 [vp0]]) :
    Calls Try.prog 101 #[vp0, .int .i64 a1] w (fun e w' => e = .returned (.int .i64 r1) ∧ Hp A w w' [.own (Zd.slice 9 Zd.string) r2 [vp0]]) := by
 obtain ⟨B1, d1, rfl, m1⟩ := HS.form 0 rfl
 have H := Aside0.mk h
 clear h
 unfold laws_markStringS.f at H
 go_enter Try.func101, Try.ntmps101
 go_wp2
 go_loopg [1, 5] k (fun kq v_1 v_5 w' => ∃ (l21 : List ByteArray) (x23 : Int) (x24 : Int), v_1 = .int .i64 x23 ∧ v_5 = .int .i64 x24 ∧ Aside0 (laws_markStringS.l0 kq l21 x23 x24 a0 = some (r1, r2)) ∧ Aside0 (kq ≤ k) ∧ Hp A w w' [.own (Zd.slice 9 Zd.string) l21 [.slice B1 a0.length d1]])
 case atStart => exact ⟨_, _, _, rfl, rfl, H, ⟨Nat.le_refl _⟩, HS⟩
 case round =>
  clear HS H; (try clear F)
  obtain ⟨l21, x23, x24, rfl, rfl, H, HKk20, HS⟩ := hrel
  cases gk with
  | zero => exact absurd H.out (by simp [laws_markStringS.l0])
  | succ k20 =>
   simp only [laws_markStringS.l0] at H
   by_cases c26 : x24 < (a0.length : Int)
   · replace H := zpos c26 H
     replace c26 := eq_true c26
     replace H := zbind H; obtain ⟨t27, ht27, H⟩ := H
     by_cases c29 : 0 ≤ x24
     case neg => exact zno c29 H
     replace H := zpos c29 H
     replace c29 := eq_true c29
     by_cases c30 : x24 < (a0.length : Int)
     case neg => exact zno c30 H
     replace H := zpos c30 H
     replace c30 := eq_true c30
     go_wp2_with (first | ((with_reducible refine gate_dst (N := 15) rfl ?_); refine ev_call rfl Try.func110 (by kernel_rfl) rfl #[.int .i64 x23] rfl (by simp only [List.map_toArray, List.map_cons, List.map_nil]; rfl) ?_; refine (laws_markText.calls ht27.out).mono ?_; rintro _ wt27 ⟨rfl, HQ⟩; refine ⟨_, rfl, ?_⟩; replace HS := HS.call HQ; clear HQ; (try clear F); (try simp only [hpn, hpm] at HS); obtain ⟨ad31, rfl, e31_0⟩ := Kd.at_string (HS.rd 0 rfl) x24 (of_eq_true c29) (of_eq_true c30)) | ((with_reducible refine gate_store (p := 16) rfl ?_); refine ev_set rfl Zd.string 0 [] x24 t27 HS (seg := [.string t27]) rfl (by decide) rfl rfl rfl (by first | rfl | exact (Nat.mul_one _).symm) rfl rfl (by kernel_rfl) (by simp [Value.oneCell']) ⟨of_eq_true c29, of_eq_true c30⟩ rfl (made_flat (fun _ => rfl)) ?_; clear HS; (try clear F); intro w32 HS; (try simp only [hpn, hpm] at HS)))
     go_roundg k20
     case measure => have := HKk20.out; omega
     case rel => exact ⟨_, _, _, rfl, rfl, H, ⟨by have := HKk20.out; omega⟩, HS.pick [0] (by decide) (by rfl)⟩
   · replace H := zneg c26 H
     replace c26 := eq_false c26
     obtain ⟨rfl, rfl⟩ := zsome2 H
     go_wp2
     go_ret
     exact ⟨rfl, HS.pick [0] (by decide) (by rfl)⟩
/-! ### laws_markAnswerS: function 65 -/
def laws_markAnswerS.l0 : Nat → (List S109) → Int → Int → (List S109) → Option (Int × (List S109))
  | 0, _, _, _, _ => none
  | k + 1, l32, x34, x35, a0 => (if x35 < (a0.length : Int) then (if 0 ≤ x35 then (if x35 < (a0.length : Int) then (lets (l32.set (x35).toNat (u109_0_3 (rd_T109 l32 x35) x34)) fun y42 => (lets (y42.set (x35).toNat (u109_1_3 (rd_T109 y42 x35) (wrap64 (x34 + 1)))) fun y46 => ((laws_markStringS.f k ((rd_T109 y46 x35).f2) (wrap64 ((wrap64 (x34 + 1)) + 1))).bind fun t49 => (lets (y46.set (x35).toNat (u109_2_73 (rd_T109 y46 x35) t49.2)) fun y50 => ((laws_markStringS.f k ((rd_T109 y50 x35).f3) t49.1).bind fun t53 => (lets (y50.set (x35).toNat (u109_3_73 (rd_T109 y50 x35) t53.2)) fun y54 => (laws_markAnswerS.l0 k y54 t53.1 (wrap64 (x35 + 1)) a0))))))) else none) else none) else (some (x34, l32)))
def laws_markAnswerS.f (k : Nat) (a0 : (List S109)) (a1 : Int) : Option (Int × (List S109)) := (laws_markAnswerS.l0 k a0 a1 0 a0)
set_option maxHeartbeats 16000000 in
theorem laws_markAnswerS.calls {k : Nat} {a0 : (List S109)} {a1 : Int} {A : FP} {vp0 : Value} {r1 : Int} {r2 : (List S109)} {w : World} (h : laws_markAnswerS.f k a0 a1 = some (r1, r2)) (HS : Hp A w w [.own (Zd.slice 109 q109) a0 [vp0]]) :
    Calls Try.prog 65 #[vp0, .int .i64 a1] w (fun e w' => e = .returned (.int .i64 r1) ∧ Hp A w w' [.own (Zd.slice 109 q109) r2 [vp0]]) := by
 obtain ⟨B1, d1, rfl, m1⟩ := HS.form 0 rfl
 have H := Aside0.mk h
 clear h
 unfold laws_markAnswerS.f at H
 go_enter Try.func65, Try.ntmps65
 go_wp2
 go_loopg [1, 5] k (fun kq v_1 v_5 w' => ∃ (l32 : List S109) (x34 : Int) (x35 : Int), v_1 = .int .i64 x34 ∧ v_5 = .int .i64 x35 ∧ Aside0 (laws_markAnswerS.l0 kq l32 x34 x35 a0 = some (r1, r2)) ∧ Aside0 (kq ≤ k) ∧ Hp A w w' [.own (Zd.slice 109 q109) l32 [.slice B1 a0.length d1]])
 case atStart => exact ⟨_, _, _, rfl, rfl, H, ⟨Nat.le_refl _⟩, HS⟩
 case round =>
  clear HS H; (try clear F)
  obtain ⟨l32, x34, x35, rfl, rfl, H, HKk31, HS⟩ := hrel
  cases gk with
  | zero => exact absurd H.out (by simp [laws_markAnswerS.l0])
  | succ k31 =>
   simp only [laws_markAnswerS.l0] at H
   by_cases c37 : x35 < (a0.length : Int)
   · replace H := zpos c37 H
     replace c37 := eq_true c37
     by_cases c38 : 0 ≤ x35
     case neg => exact zno c38 H
     replace H := zpos c38 H
     replace c38 := eq_true c38
     by_cases c39 : x35 < (a0.length : Int)
     case neg => exact zno c39 H
     replace H := zpos c39 H
     replace c39 := eq_true c39
     obtain ⟨ad40, B40_2, d40_2, B40_3, d40_3, rfl, e40_0, e40_1, e40_2, e40_3, m40_2, y40_2, m40_3, y40_3⟩ := at_T109 (HS.rd 0 rfl) x35 (of_eq_true c38) (of_eq_true c39)
     replace H := zlets H; obtain ⟨y42, e_y42, H⟩ := H
     replace H := zlets H; obtain ⟨y46, e_y46, H⟩ := H
     replace H := zbind H; obtain ⟨t49, ht49, H⟩ := H
     replace H := zlets H; obtain ⟨y50, e_y50, H⟩ := H
     replace H := zbind H; obtain ⟨t53, ht53, H⟩ := H
     replace H := zlets H; obtain ⟨y54, e_y54, H⟩ := H
     go_wp2_with (first | ((with_reducible refine gate_store (p := 16) rfl ?_); refine ev_setp (ad := ad40) rfl q109 (Zd.int .i64) lens109_0_3 0 [] x35 (rd_T109 l32 x35) x34 HS (seg := [.int .i64 x34]) rfl (by decide) rfl rfl rfl (by rintro g rfl; simp only [add_plain]; refine congrArg (fun n => (⟨g, n, none⟩ : Addr)) ?_; first | rfl | (show 0 + (x35).toNat * 4 + 0 = (x35).toNat * 4 + 0; omega) | (show 0 + (x35).toNat * 4 = (x35).toNat * 4 + 0; omega)) rfl rfl (by kernel_rfl) (by simp [Value.oneCell']) ⟨of_eq_true c38, of_eq_true c39⟩ rfl (fun hl => rd_T109_get hl) (made_flat (fun _ => rfl)) ?_; clear HS; (try clear F); intro w41 HS; rw [← e_y42.out] at HS; (try simp only [hpn, hpm] at HS); obtain ⟨ad44, B44_2, d44_2, B44_3, d44_3, hq44, e44_0, e44_1, e44_2, e44_3, m44_2, y44_2, m44_3, y44_3⟩ := at_T109 (HS.rd 0 rfl) x35 (of_eq_true c38) (of_eq_true c39); obtain rfl := Option.some.inj hq44) | ((with_reducible refine gate_store (p := 23) rfl ?_); refine ev_setp (ad := ad40) rfl q109 (Zd.int .i64) lens109_1_3 0 [] x35 (rd_T109 y42 x35) (wrap64 (x34 + 1)) HS (seg := [.int .i64 (wrap64 (x34 + 1))]) rfl (by decide) rfl rfl rfl (by rintro g rfl; simp only [add_plain]; refine congrArg (fun n => (⟨g, n, none⟩ : Addr)) ?_; first | rfl | (show 0 + (x35).toNat * 4 + 1 = (x35).toNat * 4 + 1; omega) | (show 0 + (x35).toNat * 4 = (x35).toNat * 4 + 0; omega)) rfl rfl (by kernel_rfl) (by simp [Value.oneCell']) ⟨of_eq_true c38, of_eq_true c39⟩ rfl (fun hl => rd_T109_get hl) (made_flat (fun _ => rfl)) ?_; clear HS; (try clear F); intro w45 HS; rw [← e_y46.out] at HS; (try simp only [hpn, hpm] at HS); obtain ⟨ad48, B48_2, d48_2, B48_3, d48_3, hq48, e48_0, e48_1, e48_2, e48_3, m48_2, y48_2, m48_3, y48_3⟩ := at_T109 (HS.rd 0 rfl) x35 (of_eq_true c38) (of_eq_true c39); obtain rfl := Option.some.inj hq48) | ((with_reducible refine gate_dst (N := 32) rfl ?_); refine HS.lend_el 0 x35 rfl lens109_2_73 (of_eq_true c38) (of_eq_true c39) e48_2 (by rintro g rfl; simp only [add_plain]; refine congrArg (fun n => (⟨g, n, none⟩ : Addr)) ?_; first | rfl | omega) (fun hl => rd_T109_get hl) (fun A' HL HA HB => ?_); refine ev_call rfl Try.func101 (by kernel_rfl) rfl #[.slice B48_2 (rd_T109 y46 x35).f2.length d48_2, .int .i64 (wrap64 ((wrap64 (x34 + 1)) + 1))] rfl (by simp only [List.map_toArray, List.map_cons, List.map_nil]; rfl) ?_; refine (laws_markStringS.calls ht49.out HA).mono ?_; rintro _ wt49 ⟨rfl, HQ⟩; refine ⟨_, rfl, ?_⟩; replace HS := HB _ _ _ HQ; clear HQ HA HB HL; rw [← e_y50.out] at HS; (try simp only [hpn, hpm] at HS); (try clear F); (try simp only [hpn, hpm] at HS); obtain ⟨ad52, B52_2, d52_2, B52_3, d52_3, hq52, e52_0, e52_1, e52_2, e52_3, m52_2, y52_2, m52_3, y52_3⟩ := at_T109 (HS.rd 0 rfl) x35 (of_eq_true c38) (of_eq_true c39); obtain rfl := Option.some.inj hq52) | ((with_reducible refine gate_dst (N := 39) rfl ?_); refine HS.lend_el 0 x35 rfl lens109_3_73 (of_eq_true c38) (of_eq_true c39) e52_3 (by rintro g rfl; simp only [add_plain]; refine congrArg (fun n => (⟨g, n, none⟩ : Addr)) ?_; first | rfl | omega) (fun hl => rd_T109_get hl) (fun A' HL HA HB => ?_); refine ev_call rfl Try.func101 (by kernel_rfl) rfl #[.slice B52_3 (rd_T109 y50 x35).f3.length d52_3, .int .i64 t49.1] rfl (by simp only [List.map_toArray, List.map_cons, List.map_nil]; rfl) ?_; refine (laws_markStringS.calls ht53.out HA).mono ?_; rintro _ wt53 ⟨rfl, HQ⟩; refine ⟨_, rfl, ?_⟩; replace HS := HB _ _ _ HQ; clear HQ HA HB HL; rw [← e_y54.out] at HS; (try simp only [hpn, hpm] at HS); (try clear F); (try simp only [hpn, hpm] at HS)))
     go_roundg k31
     case measure => have := HKk31.out; omega
     case rel => exact ⟨_, _, _, rfl, rfl, H, ⟨by have := HKk31.out; omega⟩, HS.pick [0] (by decide) (by rfl)⟩
   · replace H := zneg c37 H
     replace c37 := eq_false c37
     obtain ⟨rfl, rfl⟩ := zsome2 H
     go_wp2
     go_ret
     exact ⟨rfl, HS.pick [0] (by decide) (by rfl)⟩
/-! ### laws_markGotS: function 48 -/
def laws_markGotS.l0 : Nat → (List S150) → Int → Int → (List S150) → Option (Int × (List S150))
  | 0, _, _, _, _ => none
  | k + 1, l56, x58, x59, a0 => (if x59 < (a0.length : Int) then (if 0 ≤ x59 then (if x59 < (a0.length : Int) then (lets (l56.set (x59).toNat (u150_0_3 (rd_T150 l56 x59) x58)) fun y66 => ((laws_markText.f k (wrap64 (x58 + 1))).bind fun t68 => (lets (y66.set (x59).toNat (u150_1_9 (rd_T150 y66 x59) t68)) fun y72 => (lets (y72.set (x59).toNat (u150_2_3 (rd_T150 y72 x59) (wrap64 ((wrap64 (x58 + 1)) + 1)))) fun y76 => (lets (y76.set (x59).toNat (u150_3_3 (rd_T150 y76 x59) (wrap64 ((wrap64 ((wrap64 (x58 + 1)) + 1)) + 1)))) fun y80 => (lets (y80.set (x59).toNat (u150_4_3 (rd_T150 y80 x59) (wrap64 ((wrap64 ((wrap64 ((wrap64 (x58 + 1)) + 1)) + 1)) + 1)))) fun y84 => (lets (y84.set (x59).toNat (u150_5_3 (rd_T150 y84 x59) (wrap64 ((wrap64 ((wrap64 ((wrap64 ((wrap64 (x58 + 1)) + 1)) + 1)) + 1)) + 1)))) fun y88 => (lets (y88.set (x59).toNat (u150_6_3 (rd_T150 y88 x59) (wrap64 ((wrap64 ((wrap64 ((wrap64 ((wrap64 ((wrap64 (x58 + 1)) + 1)) + 1)) + 1)) + 1)) + 1)))) fun y92 => ((laws_markAnswerS.f k ((rd_T150 y92 x59).f1.f6) (wrap64 ((wrap64 ((wrap64 ((wrap64 ((wrap64 ((wrap64 ((wrap64 (x58 + 1)) + 1)) + 1)) + 1)) + 1)) + 1)) + 1))).bind fun t95 => (lets (y92.set (x59).toNat (u150_7_38 (rd_T150 y92 x59) t95.2)) fun y96 => ((laws_markText.f k t95.1).bind fun t98 => (lets (y96.set (x59).toNat (u150_8_9 (rd_T150 y96 x59) t98)) fun y102 => (laws_markGotS.l0 k y102 (wrap64 (t95.1 + 1)) (wrap64 (x59 + 1)) a0))))))))))))) else none) else none) else (some (x58, l56)))
def laws_markGotS.f (k : Nat) (a0 : (List S150)) (a1 : Int) : Option (Int × (List S150)) := (laws_markGotS.l0 k a0 a1 0 a0)
set_option maxHeartbeats 16000000 in
theorem laws_markGotS.calls {k : Nat} {a0 : (List S150)} {a1 : Int} {A : FP} {vp0 : Value} {r1 : Int} {r2 : (List S150)} {w : World} (h : laws_markGotS.f k a0 a1 = some (r1, r2)) (HS : Hp A w w [.own (Zd.slice 150 q150) a0 [vp0]]) :
    Calls Try.prog 48 #[vp0, .int .i64 a1] w (fun e w' => e = .returned (.int .i64 r1) ∧ Hp A w w' [.own (Zd.slice 150 q150) r2 [vp0]]) := by
 obtain ⟨B1, d1, rfl, m1⟩ := HS.form 0 rfl
 have H := Aside0.mk h
 clear h
 unfold laws_markGotS.f at H
 go_enter Try.func48, Try.ntmps48
 go_wp2
 go_loopg [1, 5] k (fun kq v_1 v_5 w' => ∃ (l56 : List S150) (x58 : Int) (x59 : Int), v_1 = .int .i64 x58 ∧ v_5 = .int .i64 x59 ∧ Aside0 (laws_markGotS.l0 kq l56 x58 x59 a0 = some (r1, r2)) ∧ Aside0 (kq ≤ k) ∧ Hp A w w' [.own (Zd.slice 150 q150) l56 [.slice B1 a0.length d1]])
 case atStart => exact ⟨_, _, _, rfl, rfl, H, ⟨Nat.le_refl _⟩, HS⟩
 case round =>
  clear HS H; (try clear F)
  obtain ⟨l56, x58, x59, rfl, rfl, H, HKk55, HS⟩ := hrel
  cases gk with
  | zero => exact absurd H.out (by simp [laws_markGotS.l0])
  | succ k55 =>
   simp only [laws_markGotS.l0] at H
   by_cases c61 : x59 < (a0.length : Int)
   · replace H := zpos c61 H
     replace c61 := eq_true c61
     by_cases c62 : 0 ≤ x59
     case neg => exact zno c62 H
     replace H := zpos c62 H
     replace c62 := eq_true c62
     by_cases c63 : x59 < (a0.length : Int)
     case neg => exact zno c63 H
     replace H := zpos c63 H
     replace c63 := eq_true c63
     obtain ⟨ad64, B64_7, d64_7, rfl, e64_0, e64_1, e64_2, e64_3, e64_4, e64_5, e64_6, e64_7, e64_8, m64_7, y64_7⟩ := at_T150 (HS.rd 0 rfl) x59 (of_eq_true c62) (of_eq_true c63)
     replace H := zlets H; obtain ⟨y66, e_y66, H⟩ := H
     replace H := zbind H; obtain ⟨t68, ht68, H⟩ := H
     replace H := zlets H; obtain ⟨y72, e_y72, H⟩ := H
     replace H := zlets H; obtain ⟨y76, e_y76, H⟩ := H
     replace H := zlets H; obtain ⟨y80, e_y80, H⟩ := H
     replace H := zlets H; obtain ⟨y84, e_y84, H⟩ := H
     replace H := zlets H; obtain ⟨y88, e_y88, H⟩ := H
     replace H := zlets H; obtain ⟨y92, e_y92, H⟩ := H
     replace H := zbind H; obtain ⟨t95, ht95, H⟩ := H
     replace H := zlets H; obtain ⟨y96, e_y96, H⟩ := H
     replace H := zbind H; obtain ⟨t98, ht98, H⟩ := H
     replace H := zlets H; obtain ⟨y102, e_y102, H⟩ := H
     go_wp2_with (first | ((with_reducible refine gate_store (p := 16) rfl ?_); refine ev_setp (ad := ad64) rfl q150 (Zd.int .i64) lens150_0_3 0 [] x59 (rd_T150 l56 x59) x58 HS (seg := [.int .i64 x58]) rfl (by decide) rfl rfl rfl (by rintro g rfl; simp only [add_plain]; refine congrArg (fun n => (⟨g, n, none⟩ : Addr)) ?_; first | rfl | (show 0 + (x59).toNat * 9 + 0 = (x59).toNat * 9 + 0; omega) | (show 0 + (x59).toNat * 9 = (x59).toNat * 9 + 0; omega)) rfl rfl (by kernel_rfl) (by simp [Value.oneCell']) ⟨of_eq_true c62, of_eq_true c63⟩ rfl (fun hl => rd_T150_get hl) (made_flat (fun _ => rfl)) ?_; clear HS; (try clear F); intro w65 HS; rw [← e_y66.out] at HS; (try simp only [hpn, hpm] at HS)) | ((with_reducible refine gate_dst (N := 22) rfl ?_); refine ev_call rfl Try.func110 (by kernel_rfl) rfl #[.int .i64 (wrap64 (x58 + 1))] rfl (by simp only [List.map_toArray, List.map_cons, List.map_nil]; rfl) ?_; refine (laws_markText.calls ht68.out).mono ?_; rintro _ wt68 ⟨rfl, HQ⟩; refine ⟨_, rfl, ?_⟩; replace HS := HS.call HQ; clear HQ; (try clear F); (try simp only [hpn, hpm] at HS); obtain ⟨ad70, B70_7, d70_7, hq70, e70_0, e70_1, e70_2, e70_3, e70_4, e70_5, e70_6, e70_7, e70_8, m70_7, y70_7⟩ := at_T150 (HS.rd 0 rfl) x59 (of_eq_true c62) (of_eq_true c63); obtain rfl := Option.some.inj hq70) | ((with_reducible refine gate_store (p := 25) rfl ?_); refine ev_setp (ad := ad64) rfl q150 Zd.string lens150_1_9 0 [] x59 (rd_T150 y66 x59) t68 HS (seg := [.string t68]) rfl (by decide) rfl rfl rfl (by rintro g rfl; simp only [add_plain]; refine congrArg (fun n => (⟨g, n, none⟩ : Addr)) ?_; first | rfl | (show 0 + (x59).toNat * 9 + 1 = (x59).toNat * 9 + 1; omega) | (show 0 + (x59).toNat * 9 = (x59).toNat * 9 + 0; omega)) rfl rfl (by kernel_rfl) (by simp [Value.oneCell']) ⟨of_eq_true c62, of_eq_true c63⟩ rfl (fun hl => rd_T150_get hl) (made_flat (fun _ => rfl)) ?_; clear HS; (try clear F); intro w71 HS; rw [← e_y72.out] at HS; (try simp only [hpn, hpm] at HS); obtain ⟨ad74, B74_7, d74_7, hq74, e74_0, e74_1, e74_2, e74_3, e74_4, e74_5, e74_6, e74_7, e74_8, m74_7, y74_7⟩ := at_T150 (HS.rd 0 rfl) x59 (of_eq_true c62) (of_eq_true c63); obtain rfl := Option.some.inj hq74) | ((with_reducible refine gate_store (p := 33) rfl ?_); refine ev_setp (ad := ad64) rfl q150 (Zd.int .i64) lens150_2_3 0 [] x59 (rd_T150 y72 x59) (wrap64 ((wrap64 (x58 + 1)) + 1)) HS (seg := [.int .i64 (wrap64 ((wrap64 (x58 + 1)) + 1))]) rfl (by decide) rfl rfl rfl (by rintro g rfl; simp only [add_plain]; refine congrArg (fun n => (⟨g, n, none⟩ : Addr)) ?_; first | rfl | (show 0 + (x59).toNat * 9 + 2 = (x59).toNat * 9 + 2; omega) | (show 0 + (x59).toNat * 9 = (x59).toNat * 9 + 0; omega)) rfl rfl (by kernel_rfl) (by simp [Value.oneCell']) ⟨of_eq_true c62, of_eq_true c63⟩ rfl (fun hl => rd_T150_get hl) (made_flat (fun _ => rfl)) ?_; clear HS; (try clear F); intro w75 HS; rw [← e_y76.out] at HS; (try simp only [hpn, hpm] at HS); obtain ⟨ad78, B78_7, d78_7, hq78, e78_0, e78_1, e78_2, e78_3, e78_4, e78_5, e78_6, e78_7, e78_8, m78_7, y78_7⟩ := at_T150 (HS.rd 0 rfl) x59 (of_eq_true c62) (of_eq_true c63); obtain rfl := Option.some.inj hq78) | ((with_reducible refine gate_store (p := 41) rfl ?_); refine ev_setp (ad := ad64) rfl q150 (Zd.int .i64) lens150_3_3 0 [] x59 (rd_T150 y76 x59) (wrap64 ((wrap64 ((wrap64 (x58 + 1)) + 1)) + 1)) HS (seg := [.int .i64 (wrap64 ((wrap64 ((wrap64 (x58 + 1)) + 1)) + 1))]) rfl (by decide) rfl rfl rfl (by rintro g rfl; simp only [add_plain]; refine congrArg (fun n => (⟨g, n, none⟩ : Addr)) ?_; first | rfl | (show 0 + (x59).toNat * 9 + 3 = (x59).toNat * 9 + 3; omega) | (show 0 + (x59).toNat * 9 = (x59).toNat * 9 + 0; omega)) rfl rfl (by kernel_rfl) (by simp [Value.oneCell']) ⟨of_eq_true c62, of_eq_true c63⟩ rfl (fun hl => rd_T150_get hl) (made_flat (fun _ => rfl)) ?_; clear HS; (try clear F); intro w79 HS; rw [← e_y80.out] at HS; (try simp only [hpn, hpm] at HS); obtain ⟨ad82, B82_7, d82_7, hq82, e82_0, e82_1, e82_2, e82_3, e82_4, e82_5, e82_6, e82_7, e82_8, m82_7, y82_7⟩ := at_T150 (HS.rd 0 rfl) x59 (of_eq_true c62) (of_eq_true c63); obtain rfl := Option.some.inj hq82) | ((with_reducible refine gate_store (p := 49) rfl ?_); refine ev_setp (ad := ad64) rfl q150 (Zd.int .i64) lens150_4_3 0 [] x59 (rd_T150 y80 x59) (wrap64 ((wrap64 ((wrap64 ((wrap64 (x58 + 1)) + 1)) + 1)) + 1)) HS (seg := [.int .i64 (wrap64 ((wrap64 ((wrap64 ((wrap64 (x58 + 1)) + 1)) + 1)) + 1))]) rfl (by decide) rfl rfl rfl (by rintro g rfl; simp only [add_plain]; refine congrArg (fun n => (⟨g, n, none⟩ : Addr)) ?_; first | rfl | (show 0 + (x59).toNat * 9 + 4 = (x59).toNat * 9 + 4; omega) | (show 0 + (x59).toNat * 9 = (x59).toNat * 9 + 0; omega)) rfl rfl (by kernel_rfl) (by simp [Value.oneCell']) ⟨of_eq_true c62, of_eq_true c63⟩ rfl (fun hl => rd_T150_get hl) (made_flat (fun _ => rfl)) ?_; clear HS; (try clear F); intro w83 HS; rw [← e_y84.out] at HS; (try simp only [hpn, hpm] at HS); obtain ⟨ad86, B86_7, d86_7, hq86, e86_0, e86_1, e86_2, e86_3, e86_4, e86_5, e86_6, e86_7, e86_8, m86_7, y86_7⟩ := at_T150 (HS.rd 0 rfl) x59 (of_eq_true c62) (of_eq_true c63); obtain rfl := Option.some.inj hq86) | ((with_reducible refine gate_store (p := 57) rfl ?_); refine ev_setp (ad := ad64) rfl q150 (Zd.int .i64) lens150_5_3 0 [] x59 (rd_T150 y84 x59) (wrap64 ((wrap64 ((wrap64 ((wrap64 ((wrap64 (x58 + 1)) + 1)) + 1)) + 1)) + 1)) HS (seg := [.int .i64 (wrap64 ((wrap64 ((wrap64 ((wrap64 ((wrap64 (x58 + 1)) + 1)) + 1)) + 1)) + 1))]) rfl (by decide) rfl rfl rfl (by rintro g rfl; simp only [add_plain]; refine congrArg (fun n => (⟨g, n, none⟩ : Addr)) ?_; first | rfl | (show 0 + (x59).toNat * 9 + 5 = (x59).toNat * 9 + 5; omega) | (show 0 + (x59).toNat * 9 = (x59).toNat * 9 + 0; omega)) rfl rfl (by kernel_rfl) (by simp [Value.oneCell']) ⟨of_eq_true c62, of_eq_true c63⟩ rfl (fun hl => rd_T150_get hl) (made_flat (fun _ => rfl)) ?_; clear HS; (try clear F); intro w87 HS; rw [← e_y88.out] at HS; (try simp only [hpn, hpm] at HS); obtain ⟨ad90, B90_7, d90_7, hq90, e90_0, e90_1, e90_2, e90_3, e90_4, e90_5, e90_6, e90_7, e90_8, m90_7, y90_7⟩ := at_T150 (HS.rd 0 rfl) x59 (of_eq_true c62) (of_eq_true c63); obtain rfl := Option.some.inj hq90) | ((with_reducible refine gate_store (p := 65) rfl ?_); refine ev_setp (ad := ad64) rfl q150 (Zd.int .i64) lens150_6_3 0 [] x59 (rd_T150 y88 x59) (wrap64 ((wrap64 ((wrap64 ((wrap64 ((wrap64 ((wrap64 (x58 + 1)) + 1)) + 1)) + 1)) + 1)) + 1)) HS (seg := [.int .i64 (wrap64 ((wrap64 ((wrap64 ((wrap64 ((wrap64 ((wrap64 (x58 + 1)) + 1)) + 1)) + 1)) + 1)) + 1))]) rfl (by decide) rfl rfl rfl (by rintro g rfl; simp only [add_plain]; refine congrArg (fun n => (⟨g, n, none⟩ : Addr)) ?_; first | rfl | (show 0 + (x59).toNat * 9 + 6 = (x59).toNat * 9 + 6; omega) | (show 0 + (x59).toNat * 9 = (x59).toNat * 9 + 0; omega)) rfl rfl (by kernel_rfl) (by simp [Value.oneCell']) ⟨of_eq_true c62, of_eq_true c63⟩ rfl (fun hl => rd_T150_get hl) (made_flat (fun _ => rfl)) ?_; clear HS; (try clear F); intro w91 HS; rw [← e_y92.out] at HS; (try simp only [hpn, hpm] at HS); obtain ⟨ad94, B94_7, d94_7, hq94, e94_0, e94_1, e94_2, e94_3, e94_4, e94_5, e94_6, e94_7, e94_8, m94_7, y94_7⟩ := at_T150 (HS.rd 0 rfl) x59 (of_eq_true c62) (of_eq_true c63); obtain rfl := Option.some.inj hq94) | ((with_reducible refine gate_dst (N := 75) rfl ?_); refine HS.lend_el 0 x59 rfl lens150_7_38 (of_eq_true c62) (of_eq_true c63) e94_7 (by rintro g rfl; simp only [add_plain]; refine congrArg (fun n => (⟨g, n, none⟩ : Addr)) ?_; first | rfl | omega) (fun hl => rd_T150_get hl) (fun A' HL HA HB => ?_); refine ev_call rfl Try.func65 (by kernel_rfl) rfl #[.slice B94_7 (rd_T150 y92 x59).f1.f6.length d94_7, .int .i64 (wrap64 ((wrap64 ((wrap64 ((wrap64 ((wrap64 ((wrap64 ((wrap64 (x58 + 1)) + 1)) + 1)) + 1)) + 1)) + 1)) + 1))] rfl (by simp only [List.map_toArray, List.map_cons, List.map_nil]; rfl) ?_; refine (laws_markAnswerS.calls ht95.out HA).mono ?_; rintro _ wt95 ⟨rfl, HQ⟩; refine ⟨_, rfl, ?_⟩; replace HS := HB _ _ _ HQ; clear HQ HA HB HL; rw [← e_y96.out] at HS; (try simp only [hpn, hpm] at HS); (try clear F); (try simp only [hpn, hpm] at HS)) | ((with_reducible refine gate_dst (N := 79) rfl ?_); refine ev_call rfl Try.func110 (by kernel_rfl) rfl #[.int .i64 t95.1] rfl (by simp only [List.map_toArray, List.map_cons, List.map_nil]; rfl) ?_; refine (laws_markText.calls ht98.out).mono ?_; rintro _ wt98 ⟨rfl, HQ⟩; refine ⟨_, rfl, ?_⟩; replace HS := HS.call HQ; clear HQ; (try clear F); (try simp only [hpn, hpm] at HS); obtain ⟨ad100, B100_7, d100_7, hq100, e100_0, e100_1, e100_2, e100_3, e100_4, e100_5, e100_6, e100_7, e100_8, m100_7, y100_7⟩ := at_T150 (HS.rd 0 rfl) x59 (of_eq_true c62) (of_eq_true c63); obtain rfl := Option.some.inj hq100) | ((with_reducible refine gate_store (p := 82) rfl ?_); refine ev_setp (ad := ad64) rfl q150 Zd.string lens150_8_9 0 [] x59 (rd_T150 y96 x59) t98 HS (seg := [.string t98]) rfl (by decide) rfl rfl rfl (by rintro g rfl; simp only [add_plain]; refine congrArg (fun n => (⟨g, n, none⟩ : Addr)) ?_; first | rfl | (show 0 + (x59).toNat * 9 + 8 = (x59).toNat * 9 + 8; omega) | (show 0 + (x59).toNat * 9 = (x59).toNat * 9 + 0; omega)) rfl rfl (by kernel_rfl) (by simp [Value.oneCell']) ⟨of_eq_true c62, of_eq_true c63⟩ rfl (fun hl => rd_T150_get hl) (made_flat (fun _ => rfl)) ?_; clear HS; (try clear F); intro w101 HS; rw [← e_y102.out] at HS; (try simp only [hpn, hpm] at HS)))
     go_roundg k55
     case measure => have := HKk55.out; omega
     case rel => exact ⟨_, _, _, rfl, rfl, H, ⟨by have := HKk55.out; omega⟩, HS.pick [0] (by decide) (by rfl)⟩
   · replace H := zneg c61 H
     replace c61 := eq_false c61
     obtain ⟨rfl, rfl⟩ := zsome2 H
     go_wp2
     go_ret
     exact ⟨rfl, HS.pick [0] (by decide) (by rfl)⟩
/-! ### laws_markIntS: function 49 -/
def laws_markIntS.l0 : Nat → (List Int) → Int → Int → (List Int) → Option (Int × (List Int))
  | 0, _, _, _, _ => none
  | k + 1, l19, x21, x22, a0 => (if x22 < (a0.length : Int) then (if 0 ≤ x22 then (if x22 < (a0.length : Int) then (laws_markIntS.l0 k (l19.set (x22).toNat x21) (wrap64 (x21 + 1)) (wrap64 (x22 + 1)) a0) else none) else none) else (some (x21, l19)))
def laws_markIntS.f (k : Nat) (a0 : (List Int)) (a1 : Int) : Option (Int × (List Int)) := (laws_markIntS.l0 k a0 a1 0 a0)
set_option maxHeartbeats 16000000 in
theorem laws_markIntS.calls {k : Nat} {a0 : (List Int)} {a1 : Int} {A : FP} {vp0 : Value} {r1 : Int} {r2 : (List Int)} {w : World} (h : laws_markIntS.f k a0 a1 = some (r1, r2)) (HS : Hp A w w [.own (Zd.slice 3 (Zd.int .i64)) a0 [vp0]]) :
    Calls Try.prog 49 #[vp0, .int .i64 a1] w (fun e w' => e = .returned (.int .i64 r1) ∧ Hp A w w' [.own (Zd.slice 3 (Zd.int .i64)) r2 [vp0]]) := by
 obtain ⟨B1, d1, rfl, m1⟩ := HS.form 0 rfl
 have H := Aside0.mk h
 clear h
 unfold laws_markIntS.f at H
 go_enter Try.func49, Try.ntmps49
 go_wp2
 go_loopg [1, 5] k (fun kq v_1 v_5 w' => ∃ (l19 : List Int) (x21 : Int) (x22 : Int), v_1 = .int .i64 x21 ∧ v_5 = .int .i64 x22 ∧ Aside0 (laws_markIntS.l0 kq l19 x21 x22 a0 = some (r1, r2)) ∧ Aside0 (kq ≤ k) ∧ Hp A w w' [.own (Zd.slice 3 (Zd.int .i64)) l19 [.slice B1 a0.length d1]])
 case atStart => exact ⟨_, _, _, rfl, rfl, H, ⟨Nat.le_refl _⟩, HS⟩
 case round =>
  clear HS H; (try clear F)
  obtain ⟨l19, x21, x22, rfl, rfl, H, HKk18, HS⟩ := hrel
  cases gk with
  | zero => exact absurd H.out (by simp [laws_markIntS.l0])
  | succ k18 =>
   simp only [laws_markIntS.l0] at H
   by_cases c24 : x22 < (a0.length : Int)
   · replace H := zpos c24 H
     replace c24 := eq_true c24
     by_cases c25 : 0 ≤ x22
     case neg => exact zno c25 H
     replace H := zpos c25 H
     replace c25 := eq_true c25
     by_cases c26 : x22 < (a0.length : Int)
     case neg => exact zno c26 H
     replace H := zpos c26 H
     replace c26 := eq_true c26
     obtain ⟨ad27, rfl, e27_0⟩ := Kd.at_int (HS.rd 0 rfl) x22 (of_eq_true c25) (of_eq_true c26)
     go_wp2_with (first | ((with_reducible refine gate_store (p := 15) rfl ?_); refine ev_set rfl (Zd.int .i64) 0 [] x22 x21 HS (seg := [.int .i64 x21]) rfl (by decide) rfl rfl rfl (by first | rfl | exact (Nat.mul_one _).symm) rfl rfl (by kernel_rfl) (by simp [Value.oneCell']) ⟨of_eq_true c25, of_eq_true c26⟩ rfl (made_flat (fun _ => rfl)) ?_; clear HS; (try clear F); intro w28 HS; (try simp only [hpn, hpm] at HS)))
     go_roundg k18
     case measure => have := HKk18.out; omega
     case rel => exact ⟨_, _, _, rfl, rfl, H, ⟨by have := HKk18.out; omega⟩, HS.pick [0] (by decide) (by rfl)⟩
   · replace H := zneg c24 H
     replace c24 := eq_false c24
     obtain ⟨rfl, rfl⟩ := zsome2 H
     go_wp2
     go_ret
     exact ⟨rfl, HS.pick [0] (by decide) (by rfl)⟩
/-! ### laws_markClient: function 12 -/
def laws_markClient.f (k : Nat) (a0 : S31) (a1 : Int) : Option (Int × (List S89) × (List S150) × (List Int)) := ((laws_markWaitS.f k a0.f2 a1).bind fun t6 => ((laws_markGotS.f k a0.f3 t6.1).bind fun t8 => ((laws_markIntS.f k a0.f4 t8.1).bind fun t10 => (some (t10.1, t6.2, t8.2, t10.2)))))
set_option maxHeartbeats 16000000 in
theorem laws_markClient.calls {k : Nat} {a0 : S31} {a1 : Int} {A : FP} {vp0 : Value} {vp1 : Value} {vp2 : Value} {r1 : Int} {r2 : (List S89)} {r3 : (List S150)} {r4 : (List Int)} {w : World} (h : laws_markClient.f k a0 a1 = some (r1, r2, r3, r4)) (HS : Hp A w w [.own (Zd.slice 89 q89) a0.f2 [vp0], .own (Zd.slice 150 q150) a0.f3 [vp1], .own (Zd.slice 3 (Zd.int .i64)) a0.f4 [vp2]]) :
    Calls Try.prog 12 #[.agg #[.string a0.f0, .int .i64 a0.f1, vp0, vp1, vp2], .int .i64 a1] w (fun e w' => e = .returned (.int .i64 r1) ∧ Hp A w w' [.own (Zd.slice 89 q89) r2 [vp0], .own (Zd.slice 150 q150) r3 [vp1], .own (Zd.slice 3 (Zd.int .i64)) r4 [vp2]]) := by
 obtain ⟨B1, d1, rfl, m1⟩ := HS.form 0 rfl
 obtain ⟨B2, d2, rfl, m2⟩ := HS.form 1 rfl
 obtain ⟨B3, d3, rfl, m3⟩ := HS.form 2 rfl
 have H := Aside0.mk h
 clear h
 unfold laws_markClient.f at H
 go_enter Try.func12, Try.ntmps12
 replace H := zbind H; obtain ⟨t6, ht6, H⟩ := H
 replace H := zbind H; obtain ⟨t8, ht8, H⟩ := H
 replace H := zbind H; obtain ⟨t10, ht10, H⟩ := H
 have H := zsome H; simp only [Prod.mk.injEq] at H; obtain ⟨rfl, rfl, rfl, rfl⟩ := H
 go_wp2_with (first | ((with_reducible refine gate_dst (N := 2) rfl ?_); refine ev_box rfl HS (by first | (go_simp; done) | (go_simp; rfl)) rfl ?_; clear HS; (try clear F); intro g2 w2 HS; (try simp only [hpn, hpm] at HS); have F := HS.boxes; simp only [boxFacts, and_true] at F) | ((with_reducible refine gate_dst (N := 8) rfl ?_); refine HS.lend [0] (by decide) [.own (Zd.slice 89 q89) a0.f2 [.slice B1 a0.f2.length d1]] rfl (fun A' HL HD HA HB => ?_); refine ev_call rfl Try.func47 (by kernel_rfl) rfl #[.slice B1 a0.f2.length d1, .int .i64 a1] rfl (by simp only [List.map_toArray, List.map_cons, List.map_nil]; rfl) ?_; refine (laws_markWaitS.calls ht6.out HA).mono ?_; rintro _ wt6 ⟨rfl, HQ⟩; refine ⟨_, rfl, ?_⟩; replace HS := HB _ _ HQ (Nat.le_of_ble_eq_true rfl); clear HQ HA HB HL HD; (try simp only [hpn, hpm] at HS); (try clear F); (try simp only [hpn, hpm] at HS); have F := HS.boxes; simp only [boxFacts, and_true] at F) | ((with_reducible refine gate_dst (N := 12) rfl ?_); refine HS.lend [1] (by decide) [.own (Zd.slice 150 q150) a0.f3 [.slice B2 a0.f3.length d2]] rfl (fun A' HL HD HA HB => ?_); refine ev_call rfl Try.func48 (by kernel_rfl) rfl #[.slice B2 a0.f3.length d2, .int .i64 t6.1] rfl (by simp only [List.map_toArray, List.map_cons, List.map_nil]; rfl) ?_; refine (laws_markGotS.calls ht8.out HA).mono ?_; rintro _ wt8 ⟨rfl, HQ⟩; refine ⟨_, rfl, ?_⟩; replace HS := HB _ _ HQ (Nat.le_of_ble_eq_true rfl); clear HQ HA HB HL HD; (try simp only [hpn, hpm] at HS); (try clear F); (try simp only [hpn, hpm] at HS); have F := HS.boxes; simp only [boxFacts, and_true] at F) | ((with_reducible refine gate_dst (N := 16) rfl ?_); refine HS.lend [2] (by decide) [.own (Zd.slice 3 (Zd.int .i64)) a0.f4 [.slice B3 a0.f4.length d3]] rfl (fun A' HL HD HA HB => ?_); refine ev_call rfl Try.func49 (by kernel_rfl) rfl #[.slice B3 a0.f4.length d3, .int .i64 t8.1] rfl (by simp only [List.map_toArray, List.map_cons, List.map_nil]; rfl) ?_; refine (laws_markIntS.calls ht10.out HA).mono ?_; rintro _ wt10 ⟨rfl, HQ⟩; refine ⟨_, rfl, ?_⟩; replace HS := HB _ _ HQ (Nat.le_of_ble_eq_true rfl); clear HQ HA HB HL HD; (try simp only [hpn, hpm] at HS); (try clear F); (try simp only [hpn, hpm] at HS); have F := HS.boxes; simp only [boxFacts, and_true] at F))
 go_ret
 exact ⟨rfl, HS.pick [0, 1, 2] (by decide) (by rfl)⟩
/-! ### laws_heldWaitS: function 50 -/
def laws_heldWaitS.l0 : Nat → Int → Int → (List S89) → Option (Int)
  | 0, _, _, _ => none
  | k + 1, x11, x12, a0 => (if x12 < (a0.length : Int) then (if 0 ≤ x12 then (if x12 < (a0.length : Int) then (if (rd_T89 a0 x12).f0 = x11 then (if (rd_T89 a0 x12).f1 = (wrap64 (x11 + 1)) then ((laws_markText.f k (wrap64 ((wrap64 (x11 + 1)) + 1))).bind fun t106001 => (if ((rd_T89 a0 x12).f2).toList = t106001.toList then (if (rd_T89 a0 x12).f3 = (wrap64 ((wrap64 ((wrap64 (x11 + 1)) + 1)) + 1)) then (laws_heldWaitS.l0 k (wrap64 ((wrap64 ((wrap64 ((wrap64 (x11 + 1)) + 1)) + 1)) + 1)) (wrap64 (x12 + 1)) a0) else (some (-1))) else (some (-1)))) else (some (-1))) else (some (-1))) else none) else none) else (some x11))
def laws_heldWaitS.f (k : Nat) (a0 : (List S89)) (a1 : Int) : Option (Int) := (laws_heldWaitS.l0 k a1 0 a0)
def laws_heldWaitS.T10 : Bool × List (List Nat × List Nat) := (true, [([], []), ([], []), ([0, 1], [0, 1]), ([2], [2]), ([3], [3]), ([], []), ([5], [5]), ([4, 6], [4, 6])])
theorem laws_heldWaitS.tT10 : rtab .any (opsOf Try.f50 10) = laws_heldWaitS.T10 := by kernel_rfl
set_option maxHeartbeats 16000000 in
theorem laws_heldWaitS.calls {k : Nat} {a0 : (List S89)} {a1 : Int} {Ap0 : Option Addr} {np0 cp0 : Nat} {r : Int} {w : World} (h : laws_heldWaitS.f k a0 a1 = some r) (gp0 : k89.C w Ap0 np0 a0) (lp0 : np0 ≤ cp0) :
    Calls Try.prog 50 #[.slice Ap0 np0 cp0, .int .i64 a1] w (fun e w' => e = .returned (.int .i64 r) ∧ Hp noFP w w' []) := by
 obtain rfl := C_len gp0
 have HS := Hp.start w
 have H := Aside0.mk h
 clear h
 unfold laws_heldWaitS.f at H
 go_enter Try.func50, Try.ntmps50
 go_wp2
 go_loopg [1, 5] k (fun kq v_1 v_5 w' => ∃ (x11 : Int) (x12 : Int), v_1 = .int .i64 x11 ∧ v_5 = .int .i64 x12 ∧ Aside0 (laws_heldWaitS.l0 kq x11 x12 a0 = some r) ∧ Aside0 (kq ≤ k) ∧ Hp noFP w w' [])
 case atStart => exact ⟨_, _, rfl, rfl, H, ⟨Nat.le_refl _⟩, HS⟩
 case round =>
  clear HS H; (try clear F)
  obtain ⟨x11, x12, rfl, rfl, H, HKk10, HS⟩ := hrel
  cases gk with
  | zero => exact absurd H.out (by simp [laws_heldWaitS.l0])
  | succ k10 =>
   simp only [laws_heldWaitS.l0] at H
   by_cases c14 : x12 < (a0.length : Int)
   · replace H := zpos c14 H
     replace c14 := eq_true c14
     by_cases c15 : 0 ≤ x12
     case neg => exact zno c15 H
     replace H := zpos c15 H
     replace c15 := eq_true c15
     by_cases c16 : x12 < (a0.length : Int)
     case neg => exact zno c16 H
     replace H := zpos c16 H
     replace c16 := eq_true c16
     obtain ⟨ad17, rfl, e17_0, e17_1, e17_2, e17_3⟩ := at_T89 gp0 x12 (of_eq_true c15) (of_eq_true c16)
     have e17_0_17 := (HS.keepc e17_0)
     have e17_1_17 := (HS.keepc e17_1)
     have e17_2_17 := (HS.keepc e17_2)
     have e17_3_17 := (HS.keepc e17_3)
     by_cases c18 : (rd_T89 a0 x12).f0 = x11
     · replace H := zpos c18 H
       have c18a := beq_iff_eq.mpr c18
       have c18b := bne_eq_false_iff_eq.mpr c18
       clear c18
       have e17_0_19 := (HS.keepc e17_0)
       have e17_1_19 := (HS.keepc e17_1)
       have e17_2_19 := (HS.keepc e17_2)
       have e17_3_19 := (HS.keepc e17_3)
       by_cases c20 : (rd_T89 a0 x12).f1 = (wrap64 (x11 + 1))
       · replace H := zpos c20 H
         have c20a := beq_iff_eq.mpr c20
         have c20b := bne_eq_false_iff_eq.mpr c20
         clear c20
         (try go_wp2)
         replace H := zbind H; obtain ⟨t106001, ht106001, H⟩ := H
         refine dr_start [] HS #[false, false, false, false, false, false, false, false] (by kernel_rfl) rfl rfl laws_heldWaitS.tT10 (fun w22 HT HS HH => ?_)
         (try clear F)
         refine drq_of [(0, some 30), (1, some 31), (2, some 32), (3, some 33)] ?_
         repeat (first | (refine drq_pure HT (v := ?_) (a' := ?_) rfl rfl (by kernel_rfl) (fun _ _ _ h => h) (.inl ⟨by rfl, ?_⟩) ?_ ?_; rotate_left; (intro w'; go_simp; with_reducible rfl); rotate_left; (simp only [Act.put, List.setIfInBounds_toArray, List.set_cons_zero, List.set_cons_succ, i64_w, i32_w]; rfl)))
         refine drq_end ?_
         refine dr_take 4 (some 34) HT HH (v := ?_) (a' := ?_) rfl rfl (by kernel_rfl) (fun _ _ _ h => h) (.inl ⟨by rfl, ?_⟩) ?_ ?_
         rotate_left
         · rintro w' ⟨rs', HS'⟩; have e17_0 := (HS'.keepc e17_0); have e17_1 := (HS'.keepc e17_1); have e17_2 := (HS'.keepc e17_2); have e17_3 := (HS'.keepc e17_3); go_simp; with_reducible rfl
         rotate_left
         · simp only [Act.put, List.setIfInBounds_toArray, List.set_cons_zero, List.set_cons_succ, i64_w, i32_w]; rfl
         refine drq_of [(5, some 35)] ?_
         repeat (first | (refine drq_pure HT (v := ?_) (a' := ?_) rfl rfl (by kernel_rfl) (fun _ _ _ h => h) (.inl ⟨by rfl, ?_⟩) ?_ ?_; rotate_left; (intro w'; go_simp; with_reducible rfl); rotate_left; (simp only [Act.put, List.setIfInBounds_toArray, List.set_cons_zero, List.set_cons_succ, i64_w, i32_w]; rfl)))
         refine drq_end ?_
         refine dr_one 6 HT rfl (by kernel_rfl) (by decide) (fun K hK => ?_)
         refine goes_ Try.func110 (by kernel_rfl) rfl #[.int .i64 (wrap64 ((wrap64 (x11 + 1)) + 1))] (by rfl) rfl rfl (by simp only [List.map_toArray, List.map_cons, List.map_nil]; rfl) ?_; refine (laws_markText.calls ht106001.out).mono ?_; rintro _ wt106001 ⟨rfl, HQ⟩; refine ⟨_, rfl, ?_⟩; replace HS := HS.call HQ; clear HQ; (try clear F)
         (try simp only [hpn, hpm] at HS)
         refine hK.out _ _ ⟨_, HS⟩ (fun HH => ?_)
         clear hK K
         refine norm_ (a' := ?_) ?_ ?_
         rotate_left
         · show Act.put _ (some 36) _ = _; simp only [Act.put, List.setIfInBounds_toArray, List.set_cons_zero, List.set_cons_succ, i64_w, i32_w]; rfl
         refine drq_of [(7, some 37)] ?_
         repeat (first | (refine drq_pure HT (v := ?_) (a' := ?_) rfl rfl (by kernel_rfl) (fun _ _ _ h => h) (.inl ⟨by rfl, ?_⟩) ?_ ?_; rotate_left; (intro w'; go_simp; with_reducible rfl); rotate_left; (simp only [Act.put, List.setIfInBounds_toArray, List.set_cons_zero, List.set_cons_succ, i64_w, i32_w]; rfl)))
         refine drq_end ?_
         refine done_ (done_of HT.out (by kernel_rfl)) ?_
         by_cases c24 : ((rd_T89 a0 x12).f2).toList = t106001.toList
         · replace H := zpos c24 H
           have c24a := beq_iff_eq.mpr c24
           have c24b := bne_eq_false_iff_eq.mpr c24
           clear c24
           (try simp only [c24a, c24b, dcn])
           have e17_0_25 := (HS.keepc e17_0)
           have e17_1_25 := (HS.keepc e17_1)
           have e17_2_25 := (HS.keepc e17_2)
           have e17_3_25 := (HS.keepc e17_3)
           by_cases c26 : (rd_T89 a0 x12).f3 = (wrap64 ((wrap64 ((wrap64 (x11 + 1)) + 1)) + 1))
           · replace H := zpos c26 H
             have c26a := beq_iff_eq.mpr c26
             have c26b := bne_eq_false_iff_eq.mpr c26
             clear c26
             (try simp only [c26a, c26b, dcn])
             go_wp2
             go_roundg k10
             case measure => have := HKk10.out; omega
             case rel => exact ⟨_, _, rfl, rfl, H, ⟨by have := HKk10.out; omega⟩, HS.pick [] (by decide) (by rfl)⟩
           · replace H := zneg c26 H
             have c26a := beq_eq_false_iff_ne.mpr c26
             have c26b := bne_iff_ne.mpr c26
             clear c26
             (try simp only [c26a, c26b, dcn])
             obtain rfl := zsome H
             go_wp2
             go_ret
             exact ⟨rfl, HS.pick [] (by decide) (by rfl)⟩
         · replace H := zneg c24 H
           have c24a := beq_eq_false_iff_ne.mpr c24
           have c24b := bne_iff_ne.mpr c24
           clear c24
           (try simp only [c24a, c24b, dcn])
           obtain rfl := zsome H
           go_wp2
           go_ret
           exact ⟨rfl, HS.pick [] (by decide) (by rfl)⟩
       · replace H := zneg c20 H
         have c20a := beq_eq_false_iff_ne.mpr c20
         have c20b := bne_iff_ne.mpr c20
         clear c20
         obtain rfl := zsome H
         go_wp2
         go_ret
         exact ⟨rfl, HS.pick [] (by decide) (by rfl)⟩
     · replace H := zneg c18 H
       have c18a := beq_eq_false_iff_ne.mpr c18
       have c18b := bne_iff_ne.mpr c18
       clear c18
       obtain rfl := zsome H
       go_wp2
       go_ret
       exact ⟨rfl, HS.pick [] (by decide) (by rfl)⟩
   · replace H := zneg c14 H
     replace c14 := eq_false c14
     obtain rfl := zsome H
     go_wp2
     go_ret
     exact ⟨rfl, HS.pick [] (by decide) (by rfl)⟩
end Go.Proofs.Ytoaoncnbimcdgaa.F
