/- Functions of the program and of the law, and that their calls do what is written here. -/
import Derived.Test.YtoaoncnbimcdgaaDoorZgFnExactReadCerta
import Derived.Test.YtoaoncnbimcdgaaDoorZgFnExactReadCerth
import Derived.Test.YtoaoncnbimcdgaaDoorZgFnExactReadCertp
namespace Go.Proofs.YtoaoncnbimcdgaaDoor.F
open Go.RowKit Go.Proofs.YtoaoncnbimcdgaaDoorW.PrintWords Go.Proofs.YtoaoncnbimcdgaaDoorW.PrintLast Go.Proofs.YtoaoncnbimcdgaaDoorW.PrintMore Go.Proofs.YtoaoncnbimcdgaaDoor.Z
attribute [local go_sem] max2_int min2_int max_two min_two max_three min_three max_four min_four
set_option linter.unusedVariables false
set_option linter.unusedSimpArgs false
set_option maxRecDepth 100000
/-! ### laws_markIntS: function 64 -/
def laws_markIntS.l0 : Nat → (List Int) → Int → Int → (List Int) → Option (Int × (List Int))
  | 0, _, _, _, _ => none
  | k + 1, l19, x21, x22, a0 => (if x22 < (a0.length : Int) then (if 0 ≤ x22 then (if x22 < (a0.length : Int) then (laws_markIntS.l0 k (l19.set (x22).toNat x21) (wrap64 (x21 + 1)) (wrap64 (x22 + 1)) a0) else none) else none) else (some (x21, l19)))
def laws_markIntS.f (k : Nat) (a0 : (List Int)) (a1 : Int) : Option (Int × (List Int)) := (laws_markIntS.l0 k a0 a1 0 a0)
set_option maxHeartbeats 16000000 in
theorem laws_markIntS.calls {k : Nat} {a0 : (List Int)} {a1 : Int} {A : FP} {vp0 : Value} {r1 : Int} {r2 : (List Int)} {w : World} (h : laws_markIntS.f k a0 a1 = some (r1, r2)) (HS : Hp A w w [.own (Zd.slice 3 (Zd.int .i64)) a0 [vp0]]) :
    Calls Tryd.prog 64 #[vp0, .int .i64 a1] w (fun e w' => e = .returned (.int .i64 r1) ∧ Hp A w w' [.own (Zd.slice 3 (Zd.int .i64)) r2 [vp0]]) := by
 obtain ⟨B1, d1, rfl, m1⟩ := HS.form 0 rfl
 have H := Aside0.mk h
 clear h
 unfold laws_markIntS.f at H
 go_enter Tryd.func64, Tryd.ntmps64
 go_wp2
 go_loopg [1, 5] k (fun kq v_1 v_5 w' => ∃ (l19 : List Int) (x21 : Int) (x22 : Int), v_1 = .int .i64 x21 ∧ v_5 = .int .i64 x22 ∧ Aside0 (laws_markIntS.l0 kq l19 x21 x22 a0 = some (r1, r2)) ∧ Aside0 (kq ≤ k) ∧ Hp A w w' [.own (Zd.slice 3 (Zd.int .i64)) l19 [.slice B1 a0.length d1]])
 case atStart => exact ⟨_, _, _, rfl, rfl, H, ⟨Nat.le_refl _⟩, HS⟩
 case round =>
  clear HS H; (try clear F)
  obtain ⟨l19, x21, x22, rfl, rfl, H, HKk18, HS⟩ := hrel
  cases gk with
  | zero => exact absurd H.out (by simp [laws_markIntS.l0])
  | succ k18 =>
   simp only [laws_markIntS.l0] at H
   by_cases c24 : x22 < (a0.length : Int)
   case neg =>
    replace H := zneg c24 H
    replace c24 := eq_false c24
    obtain ⟨rfl, rfl⟩ := zsome2 H
    go_wp2
    go_ret
    exact ⟨rfl, HS.pick [0] (by decide) (by rfl)⟩
   replace H := zpos c24 H
   replace c24 := eq_true c24
   by_cases c25 : 0 ≤ x22
   case neg => exact zno c25 H
   replace H := zpos c25 H
   replace c25 := eq_true c25
   by_cases c26 : x22 < (a0.length : Int)
   case neg => exact zno c26 H
   replace H := zpos c26 H
   replace c26 := eq_true c26
   obtain ⟨ad27, rfl, e27_0⟩ := Kd.at_int (HS.rd 0 rfl) x22 (of_eq_true c25) (of_eq_true c26)
   go_wp2_with (first | ((with_reducible refine gate_store (p := 15) rfl ?_); refine ev_set rfl (Zd.int .i64) 0 [] x22 x21 HS (seg := [.int .i64 x21]) rfl (by decide) rfl rfl rfl (by first | rfl | exact (Nat.mul_one _).symm) rfl rfl (by kernel_rfl) (by simp [Value.oneCell']) ⟨of_eq_true c25, of_eq_true c26⟩ rfl (made_flat (fun _ => rfl)) ?_; clear HS; (try clear F); intro w28 HS; (try simp only [hpn, hpm] at HS)))
   go_roundg k18
   case measure => have := HKk18.out; omega
   case rel => exact ⟨_, _, _, rfl, rfl, H, ⟨by have := HKk18.out; omega⟩, HS.pick [0] (by decide) (by rfl)⟩
/-! ### laws_markText: function 101 -/
def laws_markText.l0 : Nat → Int → ByteArray → Option (ByteArray)
  | 0, _, _ => none
  | k + 1, x11, x12 => (if 0 < x11 then (if (strOfNums ([((wrap64 (48 + (Int.tmod x11 10))) % 256)] : List Int)).size + x12.size ≤ 9223372036854775807 then (laws_markText.l0 k (wrap64 (Int.tdiv x11 10)) ((strOfNums ([((wrap64 (48 + (Int.tmod x11 10))) % 256)] : List Int)) ++ x12)) else none) else (if (⟨#[109]⟩ : ByteArray).size + x12.size ≤ 9223372036854775807 then (some ((⟨#[109]⟩ : ByteArray) ++ x12)) else none))
def laws_markText.f (k : Nat) (a0 : Int) : Option (ByteArray) := (if a0 ≤ 0 then (some (⟨#[109, 48]⟩ : ByteArray)) else (laws_markText.l0 k a0 (⟨#[]⟩ : ByteArray)))
set_option maxHeartbeats 16000000 in
theorem laws_markText.calls {k : Nat} {a0 : Int} {r : ByteArray} {w : World} (h : laws_markText.f k a0 = some r) :
    Calls Tryd.prog 101 #[.int .i64 a0] w (fun e w' => e = .returned (.string r) ∧ Hp noFP w w' []) := by
 have HS := Hp.start w
 have H := Aside0.mk h
 clear h
 unfold laws_markText.f at H
 go_enter Tryd.func101, Tryd.ntmps101
 by_cases c1 : a0 ≤ 0
 case pos =>
  replace H := zpos c1 H
  replace c1 := eq_true c1
  obtain rfl := zsome H
  go_wp2
  go_ret
  exact ⟨rfl, HS.pick [] (by decide) (by rfl)⟩
 replace H := zneg c1 H
 replace c1 := eq_false c1
 go_wp2
 go_loopg [0, 3] k (fun kq v_0 v_3 w' => ∃ (x11 : Int) (x12 : ByteArray), v_0 = .int .i64 x11 ∧ v_3 = .string x12 ∧ Aside0 (laws_markText.l0 kq x11 x12 = some r) ∧ Aside0 (kq ≤ k) ∧ Hp noFP w w' [])
 case atStart => exact ⟨_, _, rfl, rfl, H, ⟨Nat.le_refl _⟩, HS⟩
 case round =>
  clear HS H; (try clear F)
  obtain ⟨x11, x12, rfl, rfl, H, HKk10, HS⟩ := hrel
  cases gk with
  | zero => exact absurd H.out (by simp [laws_markText.l0])
  | succ k10 =>
   simp only [laws_markText.l0] at H
   by_cases c14 : 0 < x11
   case neg =>
    replace H := zneg c14 H
    replace c14 := eq_false c14
    by_cases c18 : (⟨#[109]⟩ : ByteArray).size + x12.size ≤ 9223372036854775807
    case neg => exact zno c18 H
    replace H := zpos c18 H
    replace c18 := eq_true c18
    obtain rfl := zsome H
    go_wp2_with (first | ((with_reducible refine gate_dst (N := 19) rfl ?_); refine ev_val rfl (run_cat rfl rfl rfl (of_eq_true c18)) ?_))
    go_ret
    exact ⟨rfl, HS.pick [] (by decide) (by rfl)⟩
   replace H := zpos c14 H
   replace c14 := eq_true c14
   by_cases c17 : (strOfNums ([((wrap64 (48 + (Int.tmod x11 10))) % 256)] : List Int)).size + x12.size ≤ 9223372036854775807
   case neg => exact zno c17 H
   replace H := zpos c17 H
   replace c17 := eq_true c17
   go_wp2_with (first | ((with_reducible refine gate_dst (N := 12) rfl ?_); refine ev_lit rfl (Zd.int .u8) [] ([((wrap64 (48 + (Int.tmod x11 10))) % 256)] : List Int) ([.int .u8 ((wrap64 (48 + (Int.tmod x11 10))) % 256)] ++ []) HS (by first | (go_simp; done) | (go_simp; rfl)) rfl rfl (Nat.le_of_ble_eq_true rfl) (MadeL.cons (js1 := []) (c := [.int .u8 ((wrap64 (48 + (Int.tmod x11 10))) % 256)]) rfl (made_flat (fun _ => rfl)) MadeL.nil (by decide)) ?_; clear HS; (try clear F); intro v15 w15 HS; obtain ⟨B15, d15, rfl, m15⟩ := HS.formn 1 0 rfl rfl; (try simp only [hpn, hpm] at HS)) | ((with_reducible refine gate_dst (N := 13) rfl ?_); refine ev_val rfl (run_str rfl rfl Tryd.underlying73 Tryd.underlying5 Tryd.underlying9 (HS.rd 0 rfl)) ?_) | ((with_reducible refine gate_dst (N := 15) rfl ?_); refine ev_val rfl (run_cat rfl rfl rfl (of_eq_true c17)) ?_))
   go_roundg k10
   case measure => have := HKk10.out; omega
   case rel => exact ⟨_, _, rfl, rfl, H, ⟨by have := HKk10.out; omega⟩, HS.pick [] (by decide) (by rfl)⟩
/-! ### laws_markStringS: function 65 -/
def laws_markStringS.l0 : Nat → (List ByteArray) → Int → Int → (List ByteArray) → Option (Int × (List ByteArray))
  | 0, _, _, _, _ => none
  | k + 1, l21, x23, x24, a0 => (if x24 < (a0.length : Int) then ((laws_markText.f k x23).bind fun t27 => (if 0 ≤ x24 then (if x24 < (a0.length : Int) then (laws_markStringS.l0 k (l21.set (x24).toNat t27) (wrap64 (x23 + 1)) (wrap64 (x24 + 1)) a0) else none) else none)) else (some (x23, l21)))
def laws_markStringS.f (k : Nat) (a0 : (List ByteArray)) (a1 : Int) : Option (Int × (List ByteArray)) := (laws_markStringS.l0 k a0 a1 0 a0)
set_option maxHeartbeats 16000000 in
theorem laws_markStringS.calls {k : Nat} {a0 : (List ByteArray)} {a1 : Int} {A : FP} {vp0 : Value} {r1 : Int} {r2 : (List ByteArray)} {w : World} (h : laws_markStringS.f k a0 a1 = some (r1, r2)) (HS : Hp A w w [.own (Zd.slice 9 Zd.string) a0 [vp0]]) :
    Calls Tryd.prog 65 #[vp0, .int .i64 a1] w (fun e w' => e = .returned (.int .i64 r1) ∧ Hp A w w' [.own (Zd.slice 9 Zd.string) r2 [vp0]]) := by
 obtain ⟨B1, d1, rfl, m1⟩ := HS.form 0 rfl
 have H := Aside0.mk h
 clear h
 unfold laws_markStringS.f at H
 go_enter Tryd.func65, Tryd.ntmps65
 go_wp2
 go_loopg [1, 5] k (fun kq v_1 v_5 w' => ∃ (l21 : List ByteArray) (x23 : Int) (x24 : Int), v_1 = .int .i64 x23 ∧ v_5 = .int .i64 x24 ∧ Aside0 (laws_markStringS.l0 kq l21 x23 x24 a0 = some (r1, r2)) ∧ Aside0 (kq ≤ k) ∧ Hp A w w' [.own (Zd.slice 9 Zd.string) l21 [.slice B1 a0.length d1]])
 case atStart => exact ⟨_, _, _, rfl, rfl, H, ⟨Nat.le_refl _⟩, HS⟩
 case round =>
  clear HS H; (try clear F)
  obtain ⟨l21, x23, x24, rfl, rfl, H, HKk20, HS⟩ := hrel
  cases gk with
  | zero => exact absurd H.out (by simp [laws_markStringS.l0])
  | succ k20 =>
   simp only [laws_markStringS.l0] at H
   by_cases c26 : x24 < (a0.length : Int)
   case neg =>
    replace H := zneg c26 H
    replace c26 := eq_false c26
    obtain ⟨rfl, rfl⟩ := zsome2 H
    go_wp2
    go_ret
    exact ⟨rfl, HS.pick [0] (by decide) (by rfl)⟩
   replace H := zpos c26 H
   replace c26 := eq_true c26
   replace H := zbind H; obtain ⟨t27, ht27, H⟩ := H
   by_cases c29 : 0 ≤ x24
   case neg => exact zno c29 H
   replace H := zpos c29 H
   replace c29 := eq_true c29
   by_cases c30 : x24 < (a0.length : Int)
   case neg => exact zno c30 H
   replace H := zpos c30 H
   replace c30 := eq_true c30
   go_wp2_with (first | ((with_reducible refine gate_dst (N := 15) rfl ?_); refine ev_call rfl Tryd.func101 (by kernel_rfl) rfl #[.int .i64 x23] rfl (by simp only [mpn]; rfl) ?_; refine (laws_markText.calls ht27.out).mono ?_; rintro _ wt27 ⟨rfl, HQ⟩; refine ⟨_, rfl, ?_⟩; replace HS := HS.call HQ; clear HQ; (try clear F); (try simp only [hpn, hpm] at HS); obtain ⟨ad31, rfl, e31_0⟩ := Kd.at_string (HS.rd 0 rfl) x24 (of_eq_true c29) (of_eq_true c30)) | ((with_reducible refine gate_store (p := 16) rfl ?_); refine ev_set rfl Zd.string 0 [] x24 t27 HS (seg := [.string t27]) rfl (by decide) rfl rfl rfl (by first | rfl | exact (Nat.mul_one _).symm) rfl rfl (by kernel_rfl) (by simp [Value.oneCell']) ⟨of_eq_true c29, of_eq_true c30⟩ rfl (made_flat (fun _ => rfl)) ?_; clear HS; (try clear F); intro w32 HS; (try simp only [hpn, hpm] at HS)))
   go_roundg k20
   case measure => have := HKk20.out; omega
   case rel => exact ⟨_, _, _, rfl, rfl, H, ⟨by have := HKk20.out; omega⟩, HS.pick [0] (by decide) (by rfl)⟩
/-! ### laws_markCert: function 30 -/
def laws_markCert.f (k : Nat) (a0 : S29) (a1 : Int) : Option (Int × (List Int) × (List ByteArray) × (List ByteArray)) := ((laws_markIntS.f k a0.f9 a1).bind fun t6 => ((laws_markStringS.f k a0.f10 t6.1).bind fun t8 => ((laws_markStringS.f k a0.f11 t8.1).bind fun t10 => (some (t10.1, t6.2, t8.2, t10.2)))))
set_option maxHeartbeats 16000000 in
theorem laws_markCert.calls {k : Nat} {a0 : S29} {a1 : Int} {A : FP} {vp0 : Value} {vp1 : Value} {vp2 : Value} {r1 : Int} {r2 : (List Int)} {r3 : (List ByteArray)} {r4 : (List ByteArray)} {w : World} (h : laws_markCert.f k a0 a1 = some (r1, r2, r3, r4)) (HS : Hp A w w [.own (Zd.slice 3 (Zd.int .i64)) a0.f9 [vp0], .own (Zd.slice 9 Zd.string) a0.f10 [vp1], .own (Zd.slice 9 Zd.string) a0.f11 [vp2]]) :
    Calls Tryd.prog 30 #[.agg #[.int .i64 a0.f0, .string a0.f1, .string a0.f2, .int .i64 a0.f3, .int .i64 a0.f4, .string a0.f5, .bool a0.f6, .int .i64 a0.f7, .int .i64 a0.f8, vp0, vp1, vp2, .string a0.f12], .int .i64 a1] w (fun e w' => e = .returned (.int .i64 r1) ∧ Hp A w w' [.own (Zd.slice 3 (Zd.int .i64)) r2 [vp0], .own (Zd.slice 9 Zd.string) r3 [vp1], .own (Zd.slice 9 Zd.string) r4 [vp2]]) := by
 obtain ⟨B1, d1, rfl, m1⟩ := HS.form 0 rfl
 obtain ⟨B2, d2, rfl, m2⟩ := HS.form 1 rfl
 obtain ⟨B3, d3, rfl, m3⟩ := HS.form 2 rfl
 have H := Aside0.mk h
 clear h
 unfold laws_markCert.f at H
 go_enter Tryd.func30, Tryd.ntmps30
 replace H := zbind H; obtain ⟨t6, ht6, H⟩ := H
 replace H := zbind H; obtain ⟨t8, ht8, H⟩ := H
 replace H := zbind H; obtain ⟨t10, ht10, H⟩ := H
 have H := zsome H; simp only [Prod.mk.injEq] at H; obtain ⟨rfl, rfl, rfl, rfl⟩ := H
 go_wp2_with (first | ((with_reducible refine gate_dst (N := 2) rfl ?_); refine ev_box rfl HS (by first | (go_simp; done) | (go_simp; rfl)) rfl ?_; clear HS; (try clear F); intro g2 w2 HS; (try simp only [hpn, hpm] at HS); have F := HS.boxes; simp only [bxn] at F) | ((with_reducible refine gate_dst (N := 8) rfl ?_); refine HS.lend [0] (by decide) [.own (Zd.slice 3 (Zd.int .i64)) a0.f9 [.slice B1 a0.f9.length d1]] rfl (fun A' HL HD HA HB => ?_); refine ev_call rfl Tryd.func64 (by kernel_rfl) rfl #[.slice B1 a0.f9.length d1, .int .i64 a1] rfl (by simp only [mpn]; rfl) ?_; refine (laws_markIntS.calls ht6.out HA).mono ?_; rintro _ wt6 ⟨rfl, HQ⟩; refine ⟨_, rfl, ?_⟩; replace HS := HB _ _ HQ (Nat.le_of_ble_eq_true rfl); clear HQ HA HB HL HD; (try simp only [hpn, hpm] at HS); (try clear F); (try simp only [hpn, hpm] at HS); have F := HS.boxes; simp only [bxn] at F) | ((with_reducible refine gate_dst (N := 12) rfl ?_); refine HS.lend [1] (by decide) [.own (Zd.slice 9 Zd.string) a0.f10 [.slice B2 a0.f10.length d2]] rfl (fun A' HL HD HA HB => ?_); refine ev_call rfl Tryd.func65 (by kernel_rfl) rfl #[.slice B2 a0.f10.length d2, .int .i64 t6.1] rfl (by simp only [mpn]; rfl) ?_; refine (laws_markStringS.calls ht8.out HA).mono ?_; rintro _ wt8 ⟨rfl, HQ⟩; refine ⟨_, rfl, ?_⟩; replace HS := HB _ _ HQ (Nat.le_of_ble_eq_true rfl); clear HQ HA HB HL HD; (try simp only [hpn, hpm] at HS); (try clear F); (try simp only [hpn, hpm] at HS); have F := HS.boxes; simp only [bxn] at F) | ((with_reducible refine gate_dst (N := 16) rfl ?_); refine HS.lend [2] (by decide) [.own (Zd.slice 9 Zd.string) a0.f11 [.slice B3 a0.f11.length d3]] rfl (fun A' HL HD HA HB => ?_); refine ev_call rfl Tryd.func65 (by kernel_rfl) rfl #[.slice B3 a0.f11.length d3, .int .i64 t8.1] rfl (by simp only [mpn]; rfl) ?_; refine (laws_markStringS.calls ht10.out HA).mono ?_; rintro _ wt10 ⟨rfl, HQ⟩; refine ⟨_, rfl, ?_⟩; replace HS := HB _ _ HQ (Nat.le_of_ble_eq_true rfl); clear HQ HA HB HL HD; (try simp only [hpn, hpm] at HS); (try clear F); (try simp only [hpn, hpm] at HS); have F := HS.boxes; simp only [bxn] at F))
 go_ret
 exact ⟨rfl, HS.pick [0, 1, 2] (by decide) (by rfl)⟩
/-! ### laws_heldIntS: function 66 -/
def laws_heldIntS.l0 : Nat → Int → Int → (List Int) → Option (Int)
  | 0, _, _, _ => none
  | k + 1, x11, x12, a0 => (if x12 < (a0.length : Int) then (if 0 ≤ x12 then (if x12 < (a0.length : Int) then (if (rd a0 x12) = x11 then (laws_heldIntS.l0 k (wrap64 (x11 + 1)) (wrap64 (x12 + 1)) a0) else (some (-1))) else none) else none) else (some x11))
def laws_heldIntS.f (k : Nat) (a0 : (List Int)) (a1 : Int) : Option (Int) := (laws_heldIntS.l0 k a1 0 a0)
set_option maxHeartbeats 16000000 in
theorem laws_heldIntS.calls {k : Nat} {a0 : (List Int)} {a1 : Int} {Ap0 : Option Addr} {np0 cp0 : Nat} {r : Int} {w : World} (h : laws_heldIntS.f k a0 a1 = some r) (gp0 : (Kd.int .i64).C w Ap0 np0 a0) (lp0 : np0 ≤ cp0) :
    Calls Tryd.prog 66 #[.slice Ap0 np0 cp0, .int .i64 a1] w (fun e w' => e = .returned (.int .i64 r) ∧ Hp noFP w w' []) := by
 obtain rfl := C_len gp0
 have HS := Hp.start w
 have H := Aside0.mk h
 clear h
 unfold laws_heldIntS.f at H
 go_enter Tryd.func66, Tryd.ntmps66
 go_wp2
 go_loopg [1, 5] k (fun kq v_1 v_5 w' => ∃ (x11 : Int) (x12 : Int), v_1 = .int .i64 x11 ∧ v_5 = .int .i64 x12 ∧ Aside0 (laws_heldIntS.l0 kq x11 x12 a0 = some r) ∧ Aside0 (kq ≤ k) ∧ Hp noFP w w' [])
 case atStart => exact ⟨_, _, rfl, rfl, H, ⟨Nat.le_refl _⟩, HS⟩
 case round =>
  clear HS H; (try clear F)
  obtain ⟨x11, x12, rfl, rfl, H, HKk10, HS⟩ := hrel
  cases gk with
  | zero => exact absurd H.out (by simp [laws_heldIntS.l0])
  | succ k10 =>
   simp only [laws_heldIntS.l0] at H
   by_cases c14 : x12 < (a0.length : Int)
   case neg =>
    replace H := zneg c14 H
    replace c14 := eq_false c14
    obtain rfl := zsome H
    go_wp2
    go_ret
    exact ⟨rfl, HS.pick [] (by decide) (by rfl)⟩
   replace H := zpos c14 H
   replace c14 := eq_true c14
   by_cases c15 : 0 ≤ x12
   case neg => exact zno c15 H
   replace H := zpos c15 H
   replace c15 := eq_true c15
   by_cases c16 : x12 < (a0.length : Int)
   case neg => exact zno c16 H
   replace H := zpos c16 H
   replace c16 := eq_true c16
   obtain ⟨ad17, rfl, e17_0⟩ := Kd.at_int gp0 x12 (of_eq_true c15) (of_eq_true c16)
   have e17_0_17 := (HS.keepc e17_0)
   by_cases c18 : (rd a0 x12) = x11
   case neg =>
    replace H := zneg c18 H
    have c18a := beq_eq_false_iff_ne.mpr c18
    have c18b := bne_iff_ne.mpr c18
    clear c18
    obtain rfl := zsome H
    go_wp2
    go_ret
    exact ⟨rfl, HS.pick [] (by decide) (by rfl)⟩
   replace H := zpos c18 H
   have c18a := beq_iff_eq.mpr c18
   have c18b := bne_eq_false_iff_eq.mpr c18
   clear c18
   go_wp2
   go_roundg k10
   case measure => have := HKk10.out; omega
   case rel => exact ⟨_, _, rfl, rfl, H, ⟨by have := HKk10.out; omega⟩, HS.pick [] (by decide) (by rfl)⟩
/-! ### laws_heldStringS: function 67 -/
def laws_heldStringS.l0 : Nat → Int → Int → (List ByteArray) → Option (Int)
  | 0, _, _, _ => none
  | k + 1, x9, x10, a0 => (if x10 < (a0.length : Int) then (if 0 ≤ x10 then (if x10 < (a0.length : Int) then ((laws_markText.f k x9).bind fun t205001 => (if (rdOf ByteArray.empty a0 x10).toList = t205001.toList then (laws_heldStringS.l0 k (wrap64 (x9 + 1)) (wrap64 (x10 + 1)) a0) else (some (-1)))) else none) else none) else (some x9))
def laws_heldStringS.f (k : Nat) (a0 : (List ByteArray)) (a1 : Int) : Option (Int) := (laws_heldStringS.l0 k a1 0 a0)
def laws_heldStringS.T4 : Bool × List (List Nat × List Nat) := (true, [([], []), ([], []), ([0, 1], [0, 1]), ([2], [2]), ([], []), ([4], [4]), ([3, 5], [3, 5])])
theorem laws_heldStringS.tT4 : rtab .any (opsOf Tryd.f67 4) = laws_heldStringS.T4 := by kernel_rfl
set_option maxHeartbeats 16000000 in
theorem laws_heldStringS.calls {k : Nat} {a0 : (List ByteArray)} {a1 : Int} {Ap0 : Option Addr} {np0 cp0 : Nat} {r : Int} {w : World} (h : laws_heldStringS.f k a0 a1 = some r) (gp0 : Kd.string.C w Ap0 np0 a0) (lp0 : np0 ≤ cp0) :
    Calls Tryd.prog 67 #[.slice Ap0 np0 cp0, .int .i64 a1] w (fun e w' => e = .returned (.int .i64 r) ∧ Hp noFP w w' []) := by
 obtain rfl := C_len gp0
 have HS := Hp.start w
 have H := Aside0.mk h
 clear h
 unfold laws_heldStringS.f at H
 go_enter Tryd.func67, Tryd.ntmps67
 go_wp2
 go_loopg [1, 5] k (fun kq v_1 v_5 w' => ∃ (x9 : Int) (x10 : Int), v_1 = .int .i64 x9 ∧ v_5 = .int .i64 x10 ∧ Aside0 (laws_heldStringS.l0 kq x9 x10 a0 = some r) ∧ Aside0 (kq ≤ k) ∧ Hp noFP w w' [])
 case atStart => exact ⟨_, _, rfl, rfl, H, ⟨Nat.le_refl _⟩, HS⟩
 case round =>
  clear HS H; (try clear F)
  obtain ⟨x9, x10, rfl, rfl, H, HKk8, HS⟩ := hrel
  cases gk with
  | zero => exact absurd H.out (by simp [laws_heldStringS.l0])
  | succ k8 =>
   simp only [laws_heldStringS.l0] at H
   by_cases c12 : x10 < (a0.length : Int)
   case neg =>
    replace H := zneg c12 H
    replace c12 := eq_false c12
    obtain rfl := zsome H
    go_wp2
    go_ret
    exact ⟨rfl, HS.pick [] (by decide) (by rfl)⟩
   replace H := zpos c12 H
   replace c12 := eq_true c12
   (try go_wp2)
   by_cases c202001 : 0 ≤ x10
   case neg => exact zno c202001 H
   replace H := zpos c202001 H
   replace c202001 := eq_true c202001
   by_cases c202002 : x10 < (a0.length : Int)
   case neg => exact zno c202002 H
   replace H := zpos c202002 H
   replace c202002 := eq_true c202002
   obtain ⟨ad202999, rfl, e202999_0⟩ := Kd.at_string gp0 x10 (of_eq_true c202001) (of_eq_true c202002)
   replace H := zbind H; obtain ⟨t205001, ht205001, H⟩ := H
   refine dr_start [] HS #[false, false, false, false, false, false, false] (by kernel_rfl) rfl rfl laws_heldStringS.tT4 (fun w14 HT HS HH => ?_)
   (try clear F)
   refine drq_of [(0, some 12), (1, some 13), (2, some 14)] ?_
   repeat (first | (refine drq_pure HT (v := ?_) (a' := ?_) rfl rfl (by kernel_rfl) (fun _ _ _ h => h) (.inl ⟨by rfl, ?_⟩) ?_ ?_; rotate_left; (intro w'; go_simp; with_reducible rfl); rotate_left; (simp only [Act.put, ptn]; rfl)))
   refine drq_end ?_
   refine dr_take 3 (some 15) HT HH (v := ?_) (a' := ?_) rfl rfl (by kernel_rfl) (fun _ _ _ h => h) (.inl ⟨by rfl, ?_⟩) ?_ ?_
   rotate_left
   · rintro w' ⟨rs', HS'⟩; have e202999_0 := (HS'.keepc e202999_0); go_simp; with_reducible rfl
   rotate_left
   · simp only [Act.put, ptn]; rfl
   refine drq_of [(4, some 16)] ?_
   repeat (first | (refine drq_pure HT (v := ?_) (a' := ?_) rfl rfl (by kernel_rfl) (fun _ _ _ h => h) (.inl ⟨by rfl, ?_⟩) ?_ ?_; rotate_left; (intro w'; go_simp; with_reducible rfl); rotate_left; (simp only [Act.put, ptn]; rfl)))
   refine drq_end ?_
   refine dr_one 5 HT rfl (by kernel_rfl) (by decide) (fun K hK => ?_)
   refine goes_ Tryd.func101 (by kernel_rfl) rfl #[.int .i64 x9] (by rfl) rfl rfl (by simp only [mpn]; rfl) ?_; refine (laws_markText.calls ht205001.out).mono ?_; rintro _ wt205001 ⟨rfl, HQ⟩; refine ⟨_, rfl, ?_⟩; replace HS := HS.call HQ; clear HQ; (try clear F)
   (try simp only [hpn, hpm] at HS)
   refine hK.out _ _ ⟨_, HS⟩ (fun HH => ?_)
   clear hK K
   refine norm_ (a' := ?_) ?_ ?_
   rotate_left
   · show Act.put _ (some 17) _ = _; simp only [Act.put, ptn]; rfl
   refine drq_of [(6, some 18)] ?_
   repeat (first | (refine drq_pure HT (v := ?_) (a' := ?_) rfl rfl (by kernel_rfl) (fun _ _ _ h => h) (.inl ⟨by rfl, ?_⟩) ?_ ?_; rotate_left; (intro w'; go_simp; with_reducible rfl); rotate_left; (simp only [Act.put, ptn]; rfl)))
   refine drq_end ?_
   refine done_ (done_of HT.out (by kernel_rfl)) ?_
   by_cases c16 : (rdOf ByteArray.empty a0 x10).toList = t205001.toList
   case neg =>
    replace H := zneg c16 H
    have c16a := beq_eq_false_iff_ne.mpr c16
    have c16b := bne_iff_ne.mpr c16
    clear c16
    (try simp only [c16a, c16b, dcn])
    obtain rfl := zsome H
    go_wp2
    go_ret
    exact ⟨rfl, HS.pick [] (by decide) (by rfl)⟩
   replace H := zpos c16 H
   have c16a := beq_iff_eq.mpr c16
   have c16b := bne_eq_false_iff_eq.mpr c16
   clear c16
   (try simp only [c16a, c16b, dcn])
   go_wp2
   go_roundg k8
   case measure => have := HKk8.out; omega
   case rel => exact ⟨_, _, rfl, rfl, H, ⟨by have := HKk8.out; omega⟩, HS.pick [] (by decide) (by rfl)⟩
/-! ### laws_heldCert: function 31 -/
def laws_heldCert.f (k : Nat) (a0 : S29) (a1 : Int) : Option (Int) := ((laws_heldIntS.f k a0.f9 a1).bind fun t3 => (if t3 < 0 then (some (-1)) else ((laws_heldStringS.f k a0.f10 t3).bind fun t6 => (if t6 < 0 then (some (-1)) else ((laws_heldStringS.f k a0.f11 t6).bind fun t9 => (if t9 < 0 then (some (-1)) else (some t9)))))))
set_option maxHeartbeats 16000000 in
theorem laws_heldCert.calls {k : Nat} {a0 : S29} {a1 : Int} {Ap0 : Option Addr} {np0 cp0 : Nat} {Ap1 : Option Addr} {np1 cp1 : Nat} {Ap2 : Option Addr} {np2 cp2 : Nat} {r : Int} {w : World} (h : laws_heldCert.f k a0 a1 = some r) (gp0 : (Kd.int .i64).C w Ap0 np0 a0.f9) (lp0 : np0 ≤ cp0) (gp1 : Kd.string.C w Ap1 np1 a0.f10) (lp1 : np1 ≤ cp1) (gp2 : Kd.string.C w Ap2 np2 a0.f11) (lp2 : np2 ≤ cp2) :
    Calls Tryd.prog 31 #[.agg #[.int .i64 a0.f0, .string a0.f1, .string a0.f2, .int .i64 a0.f3, .int .i64 a0.f4, .string a0.f5, .bool a0.f6, .int .i64 a0.f7, .int .i64 a0.f8, .slice Ap0 np0 cp0, .slice Ap1 np1 cp1, .slice Ap2 np2 cp2, .string a0.f12], .int .i64 a1] w (fun e w' => e = .returned (.int .i64 r) ∧ Hp noFP w w' []) := by
 obtain rfl := C_len gp0
 obtain rfl := C_len gp1
 obtain rfl := C_len gp2
 have HS := Hp.start w
 have H := Aside0.mk h
 clear h
 unfold laws_heldCert.f at H
 go_enter Tryd.func31, Tryd.ntmps31
 replace H := zbind H; obtain ⟨t3, ht3, H⟩ := H
 go_upto_if 10 with (first | ((with_reducible refine gate_dst (N := 2) rfl ?_); refine ev_box rfl HS (by first | (go_simp; done) | (go_simp; rfl)) rfl ?_; clear HS; (try clear F); intro g2 w2 HS; (try simp only [hpn, hpm] at HS); have F := HS.boxes; simp only [bxn] at F) | ((with_reducible refine gate_dst (N := 8) rfl ?_); refine ev_call rfl Tryd.func66 (by kernel_rfl) rfl #[.slice Ap0 a0.f9.length cp0, .int .i64 a1] rfl (by simp only [mpn]; rfl) ?_; refine (laws_heldIntS.calls ht3.out (HS.ro gp0) lp0).mono ?_; rintro _ wt3 ⟨rfl, HQ⟩; refine ⟨_, rfl, ?_⟩; replace HS := HS.call HQ; clear HQ; (try clear F); (try simp only [hpn, hpm] at HS); have F := HS.boxes; simp only [bxn] at F))
 by_cases c5 : t3 < 0
 case pos =>
  replace H := zpos c5 H
  replace c5 := eq_true c5
  (try simp only [c5, dcn])
  obtain rfl := zsome H
  go_wp2
  go_ret
  exact ⟨rfl, HS.pick [] (by decide) (by rfl)⟩
 replace H := zneg c5 H
 replace c5 := eq_false c5
 (try simp only [c5, dcn])
 replace H := zbind H; obtain ⟨t6, ht6, H⟩ := H
 go_upto_if 16 with (first | ((with_reducible refine gate_dst (N := 14) rfl ?_); refine ev_call rfl Tryd.func67 (by kernel_rfl) rfl #[.slice Ap1 a0.f10.length cp1, .int .i64 t3] rfl (by simp only [mpn]; rfl) ?_; refine (laws_heldStringS.calls ht6.out (HS.ro gp1) lp1).mono ?_; rintro _ wt6 ⟨rfl, HQ⟩; refine ⟨_, rfl, ?_⟩; replace HS := HS.call HQ; clear HQ; (try clear F); (try simp only [hpn, hpm] at HS); have F := HS.boxes; simp only [bxn] at F))
 by_cases c8 : t6 < 0
 case pos =>
  replace H := zpos c8 H
  replace c8 := eq_true c8
  (try simp only [c8, dcn])
  obtain rfl := zsome H
  go_wp2
  go_ret
  exact ⟨rfl, HS.pick [] (by decide) (by rfl)⟩
 replace H := zneg c8 H
 replace c8 := eq_false c8
 (try simp only [c8, dcn])
 replace H := zbind H; obtain ⟨t9, ht9, H⟩ := H
 go_upto_if 22 with (first | ((with_reducible refine gate_dst (N := 20) rfl ?_); refine ev_call rfl Tryd.func67 (by kernel_rfl) rfl #[.slice Ap2 a0.f11.length cp2, .int .i64 t6] rfl (by simp only [mpn]; rfl) ?_; refine (laws_heldStringS.calls ht9.out (HS.ro gp2) lp2).mono ?_; rintro _ wt9 ⟨rfl, HQ⟩; refine ⟨_, rfl, ?_⟩; replace HS := HS.call HQ; clear HQ; (try clear F); (try simp only [hpn, hpm] at HS); have F := HS.boxes; simp only [bxn] at F))
 by_cases c11 : t9 < 0
 case pos =>
  replace H := zpos c11 H
  replace c11 := eq_true c11
  (try simp only [c11, dcn])
  obtain rfl := zsome H
  go_wp2
  go_ret
  exact ⟨rfl, HS.pick [] (by decide) (by rfl)⟩
 replace H := zneg c11 H
 replace c11 := eq_false c11
 (try simp only [c11, dcn])
 obtain rfl := zsome H
 go_wp2
 go_ret
 exact ⟨rfl, HS.pick [] (by decide) (by rfl)⟩
/-! ### laws_FnExactReadCert: function 7 -/
def laws_FnExactReadCert.f (k : Nat) (a0 : ByteArray) : Option (Bool) := (if 1048576 < (a0.size : Int) then (some true) else ((spec_ReadCert.f k a0).bind fun t2 => ((impl_ReadCert.f k a0).bind fun t11 => ((laws_eqCert.f k t11.1 t2.1).bind fun t20 => (if t20 = true then (if t11.2 = t2.2 then ((laws_markCert.f k t11.1 1).bind fun t24 => ((laws_heldCert.f k (⟨t11.1.f0, t11.1.f1, t11.1.f2, t11.1.f3, t11.1.f4, t11.1.f5, t11.1.f6, t11.1.f7, t11.1.f8, t24.2.1, t24.2.2.1, t24.2.2.2, t11.1.f12⟩ : S29) 1).bind fun t26 => (if t26 < 0 then (some false) else (if t26 = t24.1 then ((impl_ReadCert.f k a0).bind fun t30 => ((laws_eqCert.f k t30.1 t2.1).bind fun t39 => (if t39 = true then (if t30.2 = t2.2 then ((laws_heldCert.f k (⟨t11.1.f0, t11.1.f1, t11.1.f2, t11.1.f3, t11.1.f4, t11.1.f5, t11.1.f6, t11.1.f7, t11.1.f8, t24.2.1, t24.2.2.1, t24.2.2.2, t11.1.f12⟩ : S29) 1).bind fun t43 => (if t43 < 0 then (some false) else (if t43 = t24.1 then (some true) else (some false)))) else (some false)) else (some false)))) else (some false))))) else (some false)) else (some false))))))
set_option maxHeartbeats 16000000 in
theorem laws_FnExactReadCert.calls {k : Nat} {a0 : ByteArray} {mG : Int} {r : Bool} {w : World} (h : laws_FnExactReadCert.f k a0 = some r) (hgM : w.cell? ⟨0, 0, none⟩ = some (.int .i64 mG)) :
    Calls Tryd.prog 7 #[.string a0] w (fun e w' => e = .returned (.bool r) ∧ Hp noFP w w' []) := by
 have HS := Hp.start w
 have H := Aside0.mk h
 clear h
 unfold laws_FnExactReadCert.f at H
 go_enter Tryd.func7, Tryd.ntmps7
 by_cases c1 : 1048576 < (a0.size : Int)
 case pos =>
  replace H := zpos c1 H
  replace c1 := eq_true c1
  obtain rfl := zsome H
  go_wp2
  go_ret
  exact ⟨rfl, HS.pick [] (by decide) (by rfl)⟩
 replace H := zneg c1 H
 replace c1 := eq_false c1
 replace H := zbind H; obtain ⟨t2, ht2, H⟩ := H
 replace H := zbind H; obtain ⟨t11, ht11, H⟩ := H
 replace H := zbind H; obtain ⟨t20, ht20, H⟩ := H
 by_cases c22 : t20 = true
 case neg =>
  replace H := zneg c22 H
  replace c22 := eq_false_of_ne_true c22
  subst c22
  obtain rfl := zsome H
  go_wp2_with (first | ((with_reducible refine gate_dst (N := 16) rfl ?_); refine ev_call rfl Tryd.func28 (by kernel_rfl) rfl #[.string a0] rfl (by simp only [mpn]; rfl) ?_; refine (spec_ReadCert.calls ht2.out).mono ?_; rintro _ wt2 ⟨v3, v4, v5, rfl, HQ⟩; refine ⟨_, rfl, ?_⟩; replace HS := HS.call HQ; clear HQ; (try clear F); obtain ⟨B3, d3, rfl, m3⟩ := HS.form 0 rfl; obtain ⟨B4, d4, rfl, m4⟩ := HS.form 1 rfl; obtain ⟨B5, d5, rfl, m5⟩ := HS.form 2 rfl; (try simp only [hpn, hpm] at HS)) | ((with_reducible refine gate_dst (N := 3) rfl ?_); refine ev_box rfl HS (by first | (go_simp; done) | (go_simp; rfl)) rfl ?_; clear HS; (try clear F); intro g3 w3 HS; (try simp only [hpn, hpm] at HS); have F := HS.boxes; simp only [bxn] at F) | ((with_reducible refine gate_store (p := 3) rfl ?_); refine ev_store rfl 3 0 HS (seg := [.int .i64 t2.1.f0, .string t2.1.f1, .string t2.1.f2, .int .i64 t2.1.f3, .int .i64 t2.1.f4, .string t2.1.f5, .bool t2.1.f6, .int .i64 t2.1.f7, .int .i64 t2.1.f8, .slice B3 t2.1.f9.length d3, .slice B4 t2.1.f10.length d4, .slice B5 t2.1.f11.length d5, .string t2.1.f12]) rfl rfl rfl rfl rfl rfl (by kernel_rfl) (by simp [wrt]) (by simp [Value.oneCell']) ?_; clear HS; (try clear F); intro w9 HS; (try simp only [hpn, hpm] at HS); have F := HS.boxes; simp only [bxn] at F) | ((with_reducible refine gate_dst (N := 21) rfl ?_); refine ev_call rfl Tryd.func29 (by kernel_rfl) rfl #[.string a0] rfl (by simp only [mpn]; rfl) ?_; refine (impl_ReadCert.calls ht11.out (HS.keepc hgM)).mono ?_; rintro _ wt11 ⟨v12, v13, v14, rfl, HQ⟩; refine ⟨_, rfl, ?_⟩; replace HS := HS.call HQ; clear HQ; (try clear F); obtain ⟨B12, d12, rfl, m12⟩ := HS.form 4 rfl; obtain ⟨B13, d13, rfl, m13⟩ := HS.form 5 rfl; obtain ⟨B14, d14, rfl, m14⟩ := HS.form 6 rfl; (try simp only [hpn, hpm] at HS); have F := HS.boxes; simp only [bxn] at F) | ((with_reducible refine gate_dst (N := 5) rfl ?_); refine ev_box rfl HS (by first | (go_simp; done) | (go_simp; rfl)) rfl ?_; clear HS; (try clear F); intro g5 w5 HS; (try simp only [hpn, hpm] at HS); have F := HS.boxes; simp only [bxn] at F) | ((with_reducible refine gate_store (p := 5) rfl ?_); refine ev_store rfl 7 0 HS (seg := [.int .i64 t11.1.f0, .string t11.1.f1, .string t11.1.f2, .int .i64 t11.1.f3, .int .i64 t11.1.f4, .string t11.1.f5, .bool t11.1.f6, .int .i64 t11.1.f7, .int .i64 t11.1.f8, .slice B12 t11.1.f9.length d12, .slice B13 t11.1.f10.length d13, .slice B14 t11.1.f11.length d14, .string t11.1.f12]) rfl rfl rfl rfl rfl rfl (by kernel_rfl) (by simp [wrt]) (by simp [Value.oneCell']) ?_; clear HS; (try clear F); intro w18 HS; (try simp only [hpn, hpm] at HS); have F := HS.boxes; simp only [bxn] at F) | ((with_reducible refine gate_dst (N := 26) rfl ?_); refine ev_call rfl Tryd.func12 (by kernel_rfl) rfl #[.agg #[.int .i64 t11.1.f0, .string t11.1.f1, .string t11.1.f2, .int .i64 t11.1.f3, .int .i64 t11.1.f4, .string t11.1.f5, .bool t11.1.f6, .int .i64 t11.1.f7, .int .i64 t11.1.f8, .slice B12 t11.1.f9.length d12, .slice B13 t11.1.f10.length d13, .slice B14 t11.1.f11.length d14, .string t11.1.f12], .agg #[.int .i64 t2.1.f0, .string t2.1.f1, .string t2.1.f2, .int .i64 t2.1.f3, .int .i64 t2.1.f4, .string t2.1.f5, .bool t2.1.f6, .int .i64 t2.1.f7, .int .i64 t2.1.f8, .slice B3 t2.1.f9.length d3, .slice B4 t2.1.f10.length d4, .slice B5 t2.1.f11.length d5, .string t2.1.f12]] rfl (by simp only [mpn]; rfl) ?_; refine (laws_eqCert.calls ht20.out (HS.rd 4 rfl) m12 (HS.rd 5 rfl) m13 (HS.rd 6 rfl) m14 (HS.rd 0 rfl) m3 (HS.rd 1 rfl) m4 (HS.rd 2 rfl) m5).mono ?_; rintro _ wt20 ⟨rfl, HQ⟩; refine ⟨_, rfl, ?_⟩; replace HS := HS.call HQ; clear HQ; (try clear F); (try simp only [hpn, hpm] at HS); have F := HS.boxes; simp only [bxn] at F))
  go_ret
  exact ⟨rfl, HS.pick [] (by decide) (by rfl)⟩
 replace H := zpos c22 H
 subst c22
 go_upto_if 32 with (first | ((with_reducible refine gate_dst (N := 16) rfl ?_); refine ev_call rfl Tryd.func28 (by kernel_rfl) rfl #[.string a0] rfl (by simp only [mpn]; rfl) ?_; refine (spec_ReadCert.calls ht2.out).mono ?_; rintro _ wt2 ⟨v3, v4, v5, rfl, HQ⟩; refine ⟨_, rfl, ?_⟩; replace HS := HS.call HQ; clear HQ; (try clear F); obtain ⟨B3, d3, rfl, m3⟩ := HS.form 0 rfl; obtain ⟨B4, d4, rfl, m4⟩ := HS.form 1 rfl; obtain ⟨B5, d5, rfl, m5⟩ := HS.form 2 rfl; (try simp only [hpn, hpm] at HS)) | ((with_reducible refine gate_dst (N := 3) rfl ?_); refine ev_box rfl HS (by first | (go_simp; done) | (go_simp; rfl)) rfl ?_; clear HS; (try clear F); intro g3 w3 HS; (try simp only [hpn, hpm] at HS); have F := HS.boxes; simp only [bxn] at F) | ((with_reducible refine gate_store (p := 3) rfl ?_); refine ev_store rfl 3 0 HS (seg := [.int .i64 t2.1.f0, .string t2.1.f1, .string t2.1.f2, .int .i64 t2.1.f3, .int .i64 t2.1.f4, .string t2.1.f5, .bool t2.1.f6, .int .i64 t2.1.f7, .int .i64 t2.1.f8, .slice B3 t2.1.f9.length d3, .slice B4 t2.1.f10.length d4, .slice B5 t2.1.f11.length d5, .string t2.1.f12]) rfl rfl rfl rfl rfl rfl (by kernel_rfl) (by simp [wrt]) (by simp [Value.oneCell']) ?_; clear HS; (try clear F); intro w9 HS; (try simp only [hpn, hpm] at HS); have F := HS.boxes; simp only [bxn] at F) | ((with_reducible refine gate_dst (N := 21) rfl ?_); refine ev_call rfl Tryd.func29 (by kernel_rfl) rfl #[.string a0] rfl (by simp only [mpn]; rfl) ?_; refine (impl_ReadCert.calls ht11.out (HS.keepc hgM)).mono ?_; rintro _ wt11 ⟨v12, v13, v14, rfl, HQ⟩; refine ⟨_, rfl, ?_⟩; replace HS := HS.call HQ; clear HQ; (try clear F); obtain ⟨B12, d12, rfl, m12⟩ := HS.form 4 rfl; obtain ⟨B13, d13, rfl, m13⟩ := HS.form 5 rfl; obtain ⟨B14, d14, rfl, m14⟩ := HS.form 6 rfl; (try simp only [hpn, hpm] at HS); have F := HS.boxes; simp only [bxn] at F) | ((with_reducible refine gate_dst (N := 5) rfl ?_); refine ev_box rfl HS (by first | (go_simp; done) | (go_simp; rfl)) rfl ?_; clear HS; (try clear F); intro g5 w5 HS; (try simp only [hpn, hpm] at HS); have F := HS.boxes; simp only [bxn] at F) | ((with_reducible refine gate_store (p := 5) rfl ?_); refine ev_store rfl 7 0 HS (seg := [.int .i64 t11.1.f0, .string t11.1.f1, .string t11.1.f2, .int .i64 t11.1.f3, .int .i64 t11.1.f4, .string t11.1.f5, .bool t11.1.f6, .int .i64 t11.1.f7, .int .i64 t11.1.f8, .slice B12 t11.1.f9.length d12, .slice B13 t11.1.f10.length d13, .slice B14 t11.1.f11.length d14, .string t11.1.f12]) rfl rfl rfl rfl rfl rfl (by kernel_rfl) (by simp [wrt]) (by simp [Value.oneCell']) ?_; clear HS; (try clear F); intro w18 HS; (try simp only [hpn, hpm] at HS); have F := HS.boxes; simp only [bxn] at F) | ((with_reducible refine gate_dst (N := 26) rfl ?_); refine ev_call rfl Tryd.func12 (by kernel_rfl) rfl #[.agg #[.int .i64 t11.1.f0, .string t11.1.f1, .string t11.1.f2, .int .i64 t11.1.f3, .int .i64 t11.1.f4, .string t11.1.f5, .bool t11.1.f6, .int .i64 t11.1.f7, .int .i64 t11.1.f8, .slice B12 t11.1.f9.length d12, .slice B13 t11.1.f10.length d13, .slice B14 t11.1.f11.length d14, .string t11.1.f12], .agg #[.int .i64 t2.1.f0, .string t2.1.f1, .string t2.1.f2, .int .i64 t2.1.f3, .int .i64 t2.1.f4, .string t2.1.f5, .bool t2.1.f6, .int .i64 t2.1.f7, .int .i64 t2.1.f8, .slice B3 t2.1.f9.length d3, .slice B4 t2.1.f10.length d4, .slice B5 t2.1.f11.length d5, .string t2.1.f12]] rfl (by simp only [mpn]; rfl) ?_; refine (laws_eqCert.calls ht20.out (HS.rd 4 rfl) m12 (HS.rd 5 rfl) m13 (HS.rd 6 rfl) m14 (HS.rd 0 rfl) m3 (HS.rd 1 rfl) m4 (HS.rd 2 rfl) m5).mono ?_; rintro _ wt20 ⟨rfl, HQ⟩; refine ⟨_, rfl, ?_⟩; replace HS := HS.call HQ; clear HQ; (try clear F); (try simp only [hpn, hpm] at HS); have F := HS.boxes; simp only [bxn] at F))
 by_cases c23 : t11.2 = t2.2
 case neg =>
  replace H := zneg c23 H
  have c23a := beq_eq_false_iff_ne.mpr c23
  have c23b := bne_iff_ne.mpr c23
  clear c23
  (try simp only [c23a, c23b, dcn])
  obtain rfl := zsome H
  go_wp2
  go_ret
  exact ⟨rfl, HS.pick [] (by decide) (by rfl)⟩
 replace H := zpos c23 H
 have c23a := beq_iff_eq.mpr c23
 have c23b := bne_eq_false_iff_eq.mpr c23
 clear c23
 (try simp only [c23a, c23b, dcn])
 replace H := zbind H; obtain ⟨t24, ht24, H⟩ := H
 replace H := zbind H; obtain ⟨t26, ht26, H⟩ := H
 go_upto_if 40 with (first | ((with_reducible refine gate_dst (N := 35) rfl ?_); refine HS.lend [4, 5, 6] (by decide) [.own (Zd.slice 3 (Zd.int .i64)) t11.1.f9 [.slice B12 t11.1.f9.length d12], .own (Zd.slice 9 Zd.string) t11.1.f10 [.slice B13 t11.1.f10.length d13], .own (Zd.slice 9 Zd.string) t11.1.f11 [.slice B14 t11.1.f11.length d14]] rfl (fun A' HL HD HA HB => ?_); refine ev_call rfl Tryd.func30 (by kernel_rfl) rfl #[.agg #[.int .i64 t11.1.f0, .string t11.1.f1, .string t11.1.f2, .int .i64 t11.1.f3, .int .i64 t11.1.f4, .string t11.1.f5, .bool t11.1.f6, .int .i64 t11.1.f7, .int .i64 t11.1.f8, .slice B12 t11.1.f9.length d12, .slice B13 t11.1.f10.length d13, .slice B14 t11.1.f11.length d14, .string t11.1.f12], .int .i64 1] rfl (by simp only [mpn]; rfl) ?_; refine (laws_markCert.calls ht24.out HA).mono ?_; rintro _ wt24 ⟨rfl, HQ⟩; refine ⟨_, rfl, ?_⟩; replace HS := HB _ _ HQ (Nat.le_of_ble_eq_true rfl); clear HQ HA HB HL HD; (try simp only [hpn, hpm] at HS); (try clear F); (try simp only [hpn, hpm] at HS); have F := HS.boxes; simp only [bxn] at F) | ((with_reducible refine gate_dst (N := 38) rfl ?_); refine ev_call rfl Tryd.func31 (by kernel_rfl) rfl #[.agg #[.int .i64 t11.1.f0, .string t11.1.f1, .string t11.1.f2, .int .i64 t11.1.f3, .int .i64 t11.1.f4, .string t11.1.f5, .bool t11.1.f6, .int .i64 t11.1.f7, .int .i64 t11.1.f8, .slice B12 t11.1.f9.length d12, .slice B13 t11.1.f10.length d13, .slice B14 t11.1.f11.length d14, .string t11.1.f12], .int .i64 1] rfl (by simp only [mpn]; rfl) ?_; refine (laws_heldCert.calls ht26.out (HS.rd 4 rfl) m12 (HS.rd 5 rfl) m13 (HS.rd 6 rfl) m14).mono ?_; rintro _ wt26 ⟨rfl, HQ⟩; refine ⟨_, rfl, ?_⟩; replace HS := HS.call HQ; clear HQ; (try clear F); (try simp only [hpn, hpm] at HS); have F := HS.boxes; simp only [bxn] at F))
 by_cases c28 : t26 < 0
 case pos =>
  replace H := zpos c28 H
  replace c28 := eq_true c28
  (try simp only [c28, dcn])
  obtain rfl := zsome H
  go_wp2
  go_ret
  exact ⟨rfl, HS.pick [] (by decide) (by rfl)⟩
 replace H := zneg c28 H
 replace c28 := eq_false c28
 (try simp only [c28, dcn])
 by_cases c29 : t26 = t24.1
 case neg =>
  replace H := zneg c29 H
  have c29a := beq_eq_false_iff_ne.mpr c29
  have c29b := bne_iff_ne.mpr c29
  clear c29
  obtain rfl := zsome H
  go_wp2
  go_ret
  exact ⟨rfl, HS.pick [] (by decide) (by rfl)⟩
 replace H := zpos c29 H
 have c29a := beq_iff_eq.mpr c29
 have c29b := bne_eq_false_iff_eq.mpr c29
 clear c29
 replace H := zbind H; obtain ⟨t30, ht30, H⟩ := H
 replace H := zbind H; obtain ⟨t39, ht39, H⟩ := H
 by_cases c41 : t39 = true
 case neg =>
  replace H := zneg c41 H
  replace c41 := eq_false_of_ne_true c41
  subst c41
  obtain rfl := zsome H
  go_wp2_with (first | ((with_reducible refine gate_dst (N := 46) rfl ?_); refine ev_call rfl Tryd.func29 (by kernel_rfl) rfl #[.string a0] rfl (by simp only [mpn]; rfl) ?_; refine (impl_ReadCert.calls ht30.out (HS.keepc hgM)).mono ?_; rintro _ wt30 ⟨v31, v32, v33, rfl, HQ⟩; refine ⟨_, rfl, ?_⟩; replace HS := HS.call HQ; clear HQ; (try clear F); obtain ⟨B31, d31, rfl, m31⟩ := HS.form 8 rfl; obtain ⟨B32, d32, rfl, m32⟩ := HS.form 9 rfl; obtain ⟨B33, d33, rfl, m33⟩ := HS.form 10 rfl; (try simp only [hpn, hpm] at HS); have F := HS.boxes; simp only [bxn] at F) | ((with_reducible refine gate_dst (N := 9) rfl ?_); refine ev_box rfl HS (by first | (go_simp; done) | (go_simp; rfl)) rfl ?_; clear HS; (try clear F); intro g9 w9 HS; (try simp only [hpn, hpm] at HS); have F := HS.boxes; simp only [bxn] at F) | ((with_reducible refine gate_store (p := 9) rfl ?_); refine ev_store rfl 11 0 HS (seg := [.int .i64 t30.1.f0, .string t30.1.f1, .string t30.1.f2, .int .i64 t30.1.f3, .int .i64 t30.1.f4, .string t30.1.f5, .bool t30.1.f6, .int .i64 t30.1.f7, .int .i64 t30.1.f8, .slice B31 t30.1.f9.length d31, .slice B32 t30.1.f10.length d32, .slice B33 t30.1.f11.length d33, .string t30.1.f12]) rfl rfl rfl rfl rfl rfl (by kernel_rfl) (by simp [wrt]) (by simp [Value.oneCell']) ?_; clear HS; (try clear F); intro w37 HS; (try simp only [hpn, hpm] at HS); have F := HS.boxes; simp only [bxn] at F) | ((with_reducible refine gate_dst (N := 51) rfl ?_); refine ev_call rfl Tryd.func12 (by kernel_rfl) rfl #[.agg #[.int .i64 t30.1.f0, .string t30.1.f1, .string t30.1.f2, .int .i64 t30.1.f3, .int .i64 t30.1.f4, .string t30.1.f5, .bool t30.1.f6, .int .i64 t30.1.f7, .int .i64 t30.1.f8, .slice B31 t30.1.f9.length d31, .slice B32 t30.1.f10.length d32, .slice B33 t30.1.f11.length d33, .string t30.1.f12], .agg #[.int .i64 t2.1.f0, .string t2.1.f1, .string t2.1.f2, .int .i64 t2.1.f3, .int .i64 t2.1.f4, .string t2.1.f5, .bool t2.1.f6, .int .i64 t2.1.f7, .int .i64 t2.1.f8, .slice B3 t2.1.f9.length d3, .slice B4 t2.1.f10.length d4, .slice B5 t2.1.f11.length d5, .string t2.1.f12]] rfl (by simp only [mpn]; rfl) ?_; refine (laws_eqCert.calls ht39.out (HS.rd 8 rfl) m31 (HS.rd 9 rfl) m32 (HS.rd 10 rfl) m33 (HS.rd 0 rfl) m3 (HS.rd 1 rfl) m4 (HS.rd 2 rfl) m5).mono ?_; rintro _ wt39 ⟨rfl, HQ⟩; refine ⟨_, rfl, ?_⟩; replace HS := HS.call HQ; clear HQ; (try clear F); (try simp only [hpn, hpm] at HS); have F := HS.boxes; simp only [bxn] at F))
  go_ret
  exact ⟨rfl, HS.pick [] (by decide) (by rfl)⟩
 replace H := zpos c41 H
 subst c41
 go_upto_if 57 with (first | ((with_reducible refine gate_dst (N := 46) rfl ?_); refine ev_call rfl Tryd.func29 (by kernel_rfl) rfl #[.string a0] rfl (by simp only [mpn]; rfl) ?_; refine (impl_ReadCert.calls ht30.out (HS.keepc hgM)).mono ?_; rintro _ wt30 ⟨v31, v32, v33, rfl, HQ⟩; refine ⟨_, rfl, ?_⟩; replace HS := HS.call HQ; clear HQ; (try clear F); obtain ⟨B31, d31, rfl, m31⟩ := HS.form 8 rfl; obtain ⟨B32, d32, rfl, m32⟩ := HS.form 9 rfl; obtain ⟨B33, d33, rfl, m33⟩ := HS.form 10 rfl; (try simp only [hpn, hpm] at HS); have F := HS.boxes; simp only [bxn] at F) | ((with_reducible refine gate_dst (N := 9) rfl ?_); refine ev_box rfl HS (by first | (go_simp; done) | (go_simp; rfl)) rfl ?_; clear HS; (try clear F); intro g9 w9 HS; (try simp only [hpn, hpm] at HS); have F := HS.boxes; simp only [bxn] at F) | ((with_reducible refine gate_store (p := 9) rfl ?_); refine ev_store rfl 11 0 HS (seg := [.int .i64 t30.1.f0, .string t30.1.f1, .string t30.1.f2, .int .i64 t30.1.f3, .int .i64 t30.1.f4, .string t30.1.f5, .bool t30.1.f6, .int .i64 t30.1.f7, .int .i64 t30.1.f8, .slice B31 t30.1.f9.length d31, .slice B32 t30.1.f10.length d32, .slice B33 t30.1.f11.length d33, .string t30.1.f12]) rfl rfl rfl rfl rfl rfl (by kernel_rfl) (by simp [wrt]) (by simp [Value.oneCell']) ?_; clear HS; (try clear F); intro w37 HS; (try simp only [hpn, hpm] at HS); have F := HS.boxes; simp only [bxn] at F) | ((with_reducible refine gate_dst (N := 51) rfl ?_); refine ev_call rfl Tryd.func12 (by kernel_rfl) rfl #[.agg #[.int .i64 t30.1.f0, .string t30.1.f1, .string t30.1.f2, .int .i64 t30.1.f3, .int .i64 t30.1.f4, .string t30.1.f5, .bool t30.1.f6, .int .i64 t30.1.f7, .int .i64 t30.1.f8, .slice B31 t30.1.f9.length d31, .slice B32 t30.1.f10.length d32, .slice B33 t30.1.f11.length d33, .string t30.1.f12], .agg #[.int .i64 t2.1.f0, .string t2.1.f1, .string t2.1.f2, .int .i64 t2.1.f3, .int .i64 t2.1.f4, .string t2.1.f5, .bool t2.1.f6, .int .i64 t2.1.f7, .int .i64 t2.1.f8, .slice B3 t2.1.f9.length d3, .slice B4 t2.1.f10.length d4, .slice B5 t2.1.f11.length d5, .string t2.1.f12]] rfl (by simp only [mpn]; rfl) ?_; refine (laws_eqCert.calls ht39.out (HS.rd 8 rfl) m31 (HS.rd 9 rfl) m32 (HS.rd 10 rfl) m33 (HS.rd 0 rfl) m3 (HS.rd 1 rfl) m4 (HS.rd 2 rfl) m5).mono ?_; rintro _ wt39 ⟨rfl, HQ⟩; refine ⟨_, rfl, ?_⟩; replace HS := HS.call HQ; clear HQ; (try clear F); (try simp only [hpn, hpm] at HS); have F := HS.boxes; simp only [bxn] at F))
 by_cases c42 : t30.2 = t2.2
 case neg =>
  replace H := zneg c42 H
  have c42a := beq_eq_false_iff_ne.mpr c42
  have c42b := bne_iff_ne.mpr c42
  clear c42
  (try simp only [c42a, c42b, dcn])
  obtain rfl := zsome H
  go_wp2
  go_ret
  exact ⟨rfl, HS.pick [] (by decide) (by rfl)⟩
 replace H := zpos c42 H
 have c42a := beq_iff_eq.mpr c42
 have c42b := bne_eq_false_iff_eq.mpr c42
 clear c42
 (try simp only [c42a, c42b, dcn])
 replace H := zbind H; obtain ⟨t43, ht43, H⟩ := H
 go_upto_if 62 with (first | ((with_reducible refine gate_dst (N := 60) rfl ?_); refine ev_call rfl Tryd.func31 (by kernel_rfl) rfl #[.agg #[.int .i64 t11.1.f0, .string t11.1.f1, .string t11.1.f2, .int .i64 t11.1.f3, .int .i64 t11.1.f4, .string t11.1.f5, .bool t11.1.f6, .int .i64 t11.1.f7, .int .i64 t11.1.f8, .slice B12 t11.1.f9.length d12, .slice B13 t11.1.f10.length d13, .slice B14 t11.1.f11.length d14, .string t11.1.f12], .int .i64 1] rfl (by simp only [mpn]; rfl) ?_; refine (laws_heldCert.calls ht43.out (HS.rd 4 rfl) m12 (HS.rd 5 rfl) m13 (HS.rd 6 rfl) m14).mono ?_; rintro _ wt43 ⟨rfl, HQ⟩; refine ⟨_, rfl, ?_⟩; replace HS := HS.call HQ; clear HQ; (try clear F); (try simp only [hpn, hpm] at HS); have F := HS.boxes; simp only [bxn] at F))
 by_cases c45 : t43 < 0
 case pos =>
  replace H := zpos c45 H
  replace c45 := eq_true c45
  (try simp only [c45, dcn])
  obtain rfl := zsome H
  go_wp2
  go_ret
  exact ⟨rfl, HS.pick [] (by decide) (by rfl)⟩
 replace H := zneg c45 H
 replace c45 := eq_false c45
 (try simp only [c45, dcn])
 by_cases c46 : t43 = t24.1
 case neg =>
  replace H := zneg c46 H
  have c46a := beq_eq_false_iff_ne.mpr c46
  have c46b := bne_iff_ne.mpr c46
  clear c46
  obtain rfl := zsome H
  go_wp2
  go_ret
  exact ⟨rfl, HS.pick [] (by decide) (by rfl)⟩
 replace H := zpos c46 H
 have c46a := beq_iff_eq.mpr c46
 have c46b := bne_eq_false_iff_eq.mpr c46
 clear c46
 obtain rfl := zsome H
 go_wp2
 go_ret
 exact ⟨rfl, HS.pick [] (by decide) (by rfl)⟩
end Go.Proofs.YtoaoncnbimcdgaaDoor.F
