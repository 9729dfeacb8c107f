/- Functions of the program and of the law, and that their calls do what is written here. -/
import Derived.Test.YtacocpknielofaaGreatDoorZgFnExactStoreOkh
namespace Go.Proofs.YtacocpknielofaaGreatDoor.F
open Go.RowKit Go.Proofs.YtacocpknielofaaGreatDoorW.PrintWords Go.Proofs.YtacocpknielofaaGreatDoorW.PrintLast Go.Proofs.YtacocpknielofaaGreatDoorW.PrintMore Go.Proofs.YtacocpknielofaaGreatDoor.Z
attribute [local go_sem] max2_int min2_int max_two min_two max_three min_three max_four min_four
set_option linter.unusedVariables false
set_option linter.unusedSimpArgs false
set_option maxRecDepth 100000
/-! ### impl_PoliciesOk: function 187 -/
def impl_PoliciesOk.l0 : Nat → Int → (List Int) → Option (Bool)
  | 0, _, _ => none
  | k + 1, x4, a0 => (if x4 < (a0.length : Int) then (if 0 ≤ x4 then (if x4 < (a0.length : Int) then ((impl_within.f (rd a0 x4) 0 99).bind fun t10 => (if t10 = true then (if 0 < x4 then (if 0 ≤ (wrap64 (x4 - 1)) then (if (wrap64 (x4 - 1)) < (a0.length : Int) then (if (rd a0 x4) ≤ (rd a0 (wrap64 (x4 - 1))) then (some false) else (impl_PoliciesOk.l0 k (wrap64 (x4 + 1)) a0)) else none) else none) else (impl_PoliciesOk.l0 k (wrap64 (x4 + 1)) a0)) else (some false))) else none) else none) else (some (decide ((a0.length : Int) ≤ 4))))
def impl_PoliciesOk.f (k : Nat) (a0 : (List Int)) : Option (Bool) := (impl_PoliciesOk.l0 k 0 a0)
set_option maxHeartbeats 16000000 in
theorem impl_PoliciesOk.calls {k : Nat} {a0 : (List Int)} {Ap0 : Option Addr} {np0 cp0 : Nat} {r : Bool} {w : World} (h : impl_PoliciesOk.f k a0 = some r) (gp0 : (Kd.int .i64).C w Ap0 np0 a0) (lp0 : np0 ≤ cp0) :
    Calls Tryz.prog 187 #[.slice Ap0 np0 cp0] w (fun e w' => e = .returned (.bool r) ∧ Hp noFP w w' []) := by
 obtain rfl := C_len gp0
 have HS := Hp.start w
 have H := Aside0.mk h
 clear h
 unfold impl_PoliciesOk.f at H
 go_enter Tryz.func187, Tryz.ntmps187
 go_wp2
 go_loopg [7] k (fun kq v_7 w' => ∃ (x4 : Int), v_7 = .int .i64 x4 ∧ Aside0 (impl_PoliciesOk.l0 kq x4 a0 = some r) ∧ Aside0 (kq ≤ k) ∧ Hp noFP w w' [])
 case atStart => exact ⟨_, rfl, H, ⟨Nat.le_refl _⟩, HS⟩
 case round =>
  clear HS H; (try clear F)
  obtain ⟨x4, rfl, H, HKk3, HS⟩ := hrel
  cases gk with
  | zero => exact absurd H.out (by simp [impl_PoliciesOk.l0])
  | succ k3 =>
   simp only [impl_PoliciesOk.l0] at H
   by_cases c6 : x4 < (a0.length : Int)
   case neg =>
    replace H := zneg c6 H
    replace c6 := eq_false c6
    obtain rfl := zsome H
    go_wp2
    go_ret
    exact ⟨rfl, HS.pick [] (by decide) (by rfl)⟩
   replace H := zpos c6 H
   replace c6 := eq_true c6
   by_cases c7 : 0 ≤ x4
   case neg => exact zno c7 H
   replace H := zpos c7 H
   replace c7 := eq_true c7
   by_cases c8 : x4 < (a0.length : Int)
   case neg => exact zno c8 H
   replace H := zpos c8 H
   replace c8 := eq_true c8
   obtain ⟨ad9, rfl, e9_0⟩ := Kd.at_int gp0 x4 (of_eq_true c7) (of_eq_true c8)
   have e9_0_9 := (HS.keepc e9_0)
   replace H := zbind H; obtain ⟨t10, ht10, H⟩ := H
   by_cases c12 : t10 = true
   case neg =>
    replace H := zneg c12 H
    replace c12 := eq_false_of_ne_true c12
    subst c12
    obtain rfl := zsome H
    go_wp2_with (first | ((with_reducible refine gate_dst (N := 13) rfl ?_); refine ev_call rfl Tryz.func79 (by kernel_rfl) rfl #[.int .i64 (rd a0 x4), .int .i64 0, .int .i64 99] rfl (by simp only [mpn]; rfl) ?_; refine (impl_within.calls ht10.out).mono ?_; rintro _ wt10 ⟨rfl, HQ⟩; refine ⟨_, rfl, ?_⟩; replace HS := HS.call HQ; clear HQ; (try clear F); (try simp only [hpn, hpm] at HS)))
    go_ret
    exact ⟨rfl, HS.pick [] (by decide) (by rfl)⟩
   replace H := zpos c12 H
   subst c12
   by_cases c13 : 0 < x4
   case neg =>
    replace H := zneg c13 H
    replace c13 := eq_false c13
    go_wp2_with (first | ((with_reducible refine gate_dst (N := 13) rfl ?_); refine ev_call rfl Tryz.func79 (by kernel_rfl) rfl #[.int .i64 (rd a0 x4), .int .i64 0, .int .i64 99] rfl (by simp only [mpn]; rfl) ?_; refine (impl_within.calls ht10.out).mono ?_; rintro _ wt10 ⟨rfl, HQ⟩; refine ⟨_, rfl, ?_⟩; replace HS := HS.call HQ; clear HQ; (try clear F); (try simp only [hpn, hpm] at HS)))
    go_roundg k3
    case measure => have := HKk3.out; omega
    case rel => exact ⟨_, rfl, H, ⟨by have := HKk3.out; omega⟩, HS.pick [] (by decide) (by rfl)⟩
   replace H := zpos c13 H
   replace c13 := eq_true c13
   by_cases c14 : 0 ≤ (wrap64 (x4 - 1))
   case neg => exact zno c14 H
   replace H := zpos c14 H
   replace c14 := eq_true c14
   by_cases c15 : (wrap64 (x4 - 1)) < (a0.length : Int)
   case neg => exact zno c15 H
   replace H := zpos c15 H
   replace c15 := eq_true c15
   go_upto_if 27 with (first | ((with_reducible refine gate_dst (N := 13) rfl ?_); refine ev_call rfl Tryz.func79 (by kernel_rfl) rfl #[.int .i64 (rd a0 x4), .int .i64 0, .int .i64 99] rfl (by simp only [mpn]; rfl) ?_; refine (impl_within.calls ht10.out).mono ?_; rintro _ wt10 ⟨rfl, HQ⟩; refine ⟨_, rfl, ?_⟩; replace HS := HS.call HQ; clear HQ; (try clear F); (try simp only [hpn, hpm] at HS); obtain ⟨ad16, hq16, e16_0⟩ := Kd.at_int gp0 (wrap64 (x4 - 1)) (of_eq_true c14) (of_eq_true c15); obtain rfl := Option.some.inj hq16; have e16_0_16 := (HS.keepc e16_0)))
   by_cases c17 : (rd a0 x4) ≤ (rd a0 (wrap64 (x4 - 1)))
   case pos =>
    replace H := zpos c17 H
    replace c17 := eq_true c17
    (try simp only [c17, dcn])
    obtain rfl := zsome H
    go_wp2
    go_ret
    exact ⟨rfl, HS.pick [] (by decide) (by rfl)⟩
   replace H := zneg c17 H
   replace c17 := eq_false c17
   (try simp only [c17, dcn])
   go_wp2
   go_roundg k3
   case measure => have := HKk3.out; omega
   case rel => exact ⟨_, rfl, H, ⟨by have := HKk3.out; omega⟩, HS.pick [] (by decide) (by rfl)⟩
/-! ### impl_bytesIn: function 142 -/
def impl_bytesIn.l0 : Nat → Int → ByteArray → Int → Int → Option (Bool)
  | 0, _, _, _, _ => none
  | k + 1, x4, a0, a1, a2 => (if x4 < (a0.size : Int) then (if 0 ≤ x4 then (if x4 < (a0.size : Int) then ((impl_within.f (wrap64 (bt a0 x4)) a1 a2).bind fun t10 => (if t10 = true then (impl_bytesIn.l0 k (wrap64 (x4 + 1)) a0 a1 a2) else (some false))) else none) else none) else (some true))
def impl_bytesIn.f (k : Nat) (a0 : ByteArray) (a1 : Int) (a2 : Int) : Option (Bool) := (impl_bytesIn.l0 k 0 a0 a1 a2)
set_option maxHeartbeats 16000000 in
theorem impl_bytesIn.calls {k : Nat} {a0 : ByteArray} {a1 : Int} {a2 : Int} {r : Bool} {w : World} (h : impl_bytesIn.f k a0 a1 a2 = some r) :
    Calls Tryz.prog 142 #[.string a0, .int .i64 a1, .int .i64 a2] w (fun e w' => e = .returned (.bool r) ∧ Hp noFP w w' []) := by
 have HS := Hp.start w
 have H := Aside0.mk h
 clear h
 unfold impl_bytesIn.f at H
 go_enter Tryz.func142, Tryz.ntmps142
 go_wp2
 go_loopg [7] k (fun kq v_7 w' => ∃ (x4 : Int), v_7 = .int .i64 x4 ∧ Aside0 (impl_bytesIn.l0 kq x4 a0 a1 a2 = some r) ∧ Aside0 (kq ≤ k) ∧ Hp noFP w w' [])
 case atStart => exact ⟨_, rfl, H, ⟨Nat.le_refl _⟩, HS⟩
 case round =>
  clear HS H; (try clear F)
  obtain ⟨x4, rfl, H, HKk3, HS⟩ := hrel
  cases gk with
  | zero => exact absurd H.out (by simp [impl_bytesIn.l0])
  | succ k3 =>
   simp only [impl_bytesIn.l0] at H
   by_cases c6 : x4 < (a0.size : Int)
   case neg =>
    replace H := zneg c6 H
    replace c6 := eq_false c6
    obtain rfl := zsome H
    go_wp2
    go_ret
    exact ⟨rfl, HS.pick [] (by decide) (by rfl)⟩
   replace H := zpos c6 H
   replace c6 := eq_true c6
   by_cases c7 : 0 ≤ x4
   case neg => exact zno c7 H
   replace H := zpos c7 H
   replace c7 := eq_true c7
   by_cases c8 : x4 < (a0.size : Int)
   case neg => exact zno c8 H
   replace H := zpos c8 H
   replace c8 := eq_true c8
   have hx9 := bt_at a0 x4
   replace H := zbind H; obtain ⟨t10, ht10, H⟩ := H
   go_upto_if 21 with (first | ((with_reducible refine gate_dst (N := 20) rfl ?_); refine ev_call rfl Tryz.func79 (by kernel_rfl) rfl #[.int .i64 (wrap64 (bt a0 x4)), .int .i64 a1, .int .i64 a2] rfl (by simp only [mpn]; rfl) ?_; refine (impl_within.calls ht10.out).mono ?_; rintro _ wt10 ⟨rfl, HQ⟩; refine ⟨_, rfl, ?_⟩; replace HS := HS.call HQ; clear HQ; (try clear F); (try simp only [hpn, hpm] at HS)))
   by_cases c12 : t10 = true
   case neg =>
    replace H := zneg c12 H
    replace c12 := eq_false_of_ne_true c12
    subst c12
    (try simp only [dcn, if_true, Bool.false_eq_true, if_false])
    obtain rfl := zsome H
    go_wp2
    go_ret
    exact ⟨rfl, HS.pick [] (by decide) (by rfl)⟩
   replace H := zpos c12 H
   subst c12
   (try simp only [dcn, if_true, Bool.false_eq_true, if_false])
   go_wp2
   go_roundg k3
   case measure => have := HKk3.out; omega
   case rel => exact ⟨_, rfl, H, ⟨by have := HKk3.out; omega⟩, HS.pick [] (by decide) (by rfl)⟩
/-! ### impl_NameOk: function 62 -/
def impl_NameOk.l0 : Nat → Int → ByteArray → (List ByteArray) → Option (Bool)
  | 0, _, _, _ => none
  | k + 1, x7, a0, t1 => (if x7 < (t1.length : Int) then (if 0 ≤ x7 then (if x7 < (t1.length : Int) then (if (rdOf ByteArray.empty t1 x7).toList = ([] : List UInt8) then (some false) else ((impl_bytesIn.f k (rdOf ByteArray.empty t1 x7) 97 122).bind fun t14 => (if t14 = true then (impl_NameOk.l0 k (wrap64 (x7 + 1)) a0 t1) else (some false)))) else none) else none) else (some (decide ((a0.size : Int) ≤ 20))))
def impl_NameOk.f (k : Nat) (a0 : ByteArray) : Option (Bool) := ((strings_Split.f a0 (⟨#[46]⟩ : ByteArray)).bind fun t1 => (impl_NameOk.l0 k 0 a0 t1))
set_option maxHeartbeats 16000000 in
theorem impl_NameOk.calls {k : Nat} {a0 : ByteArray} {mG : Int} {r : Bool} {w : World} (h : impl_NameOk.f k a0 = some r) (hgM : w.cell? ⟨0, 0, none⟩ = some (.int .i64 mG)) :
    Calls Tryz.prog 62 #[.string a0] w (fun e w' => e = .returned (.bool r) ∧ Hp noFP w w' []) := by
 have HS := Hp.start w
 have H := Aside0.mk h
 clear h
 unfold impl_NameOk.f at H
 go_enter Tryz.func62, Tryz.ntmps62
 replace H := zbind H; obtain ⟨t1, ht1, H⟩ := H
 go_wp2_with (first | ((with_reducible refine gate_dst (N := 6) rfl ?_); refine ev_call rfl Tryz.func141 (by kernel_rfl) rfl #[.string a0, .string (⟨#[46]⟩ : ByteArray)] rfl (by simp only [mpn]; rfl) ?_; refine (strings_Split.calls ht1.out (HS.keepc hgM)).mono ?_; rintro _ wt1 ⟨v2, rfl, HQ⟩; refine ⟨_, rfl, ?_⟩; replace HS := HS.call HQ; clear HQ; (try clear F); obtain ⟨B2, d2, rfl, m2⟩ := HS.form 0 rfl; (try simp only [hpn, hpm] at HS)))
 go_loopg [8] k (fun kq v_8 w' => ∃ (x7 : Int), v_8 = .int .i64 x7 ∧ Aside0 (impl_NameOk.l0 kq x7 a0 t1 = some r) ∧ Aside0 (kq ≤ k) ∧ Hp noFP w w' [.own (Zd.slice 9 Zd.string) t1 [.slice B2 t1.length d2]])
 case atStart => exact ⟨_, rfl, H, ⟨Nat.le_refl _⟩, HS⟩
 case round =>
  clear HS H; (try clear F)
  obtain ⟨x7, rfl, H, HKk6, HS⟩ := hrel
  cases gk with
  | zero => exact absurd H.out (by simp [impl_NameOk.l0])
  | succ k6 =>
   simp only [impl_NameOk.l0] at H
   by_cases c9 : x7 < (t1.length : Int)
   case neg =>
    replace H := zneg c9 H
    replace c9 := eq_false c9
    obtain rfl := zsome H
    go_wp2
    go_ret
    exact ⟨rfl, HS.pick [] (by decide) (by rfl)⟩
   replace H := zpos c9 H
   replace c9 := eq_true c9
   by_cases c10 : 0 ≤ x7
   case neg => exact zno c10 H
   replace H := zpos c10 H
   replace c10 := eq_true c10
   by_cases c11 : x7 < (t1.length : Int)
   case neg => exact zno c11 H
   replace H := zpos c11 H
   replace c11 := eq_true c11
   obtain ⟨ad12, rfl, e12_0⟩ := Kd.at_string (HS.rd 0 rfl) x7 (of_eq_true c10) (of_eq_true c11)
   by_cases c13 : (rdOf ByteArray.empty t1 x7).toList = ([] : List UInt8)
   case pos =>
    replace H := zpos c13 H
    have c13a := beq_iff_eq.mpr c13
    have c13b := bne_eq_false_iff_eq.mpr c13
    have c13e := List.isEmpty_iff.mpr c13
    clear c13
    obtain rfl := zsome H
    go_wp2
    go_ret
    exact ⟨rfl, HS.pick [] (by decide) (by rfl)⟩
   replace H := zneg c13 H
   have c13a := beq_eq_false_iff_ne.mpr c13
   have c13b := bne_iff_ne.mpr c13
   have c13e := List.isEmpty_eq_false_iff.mpr c13
   clear c13
   replace H := zbind H; obtain ⟨t14, ht14, H⟩ := H
   go_upto_if 18 with (first | ((with_reducible refine gate_dst (N := 16) rfl ?_); refine gate_guard (by rfl) ?_; refine ev_call rfl Tryz.func142 (by kernel_rfl) rfl #[.string (rdOf ByteArray.empty t1 x7), .int .i64 97, .int .i64 122] rfl (by simp only [mpn]; rfl) ?_; refine (impl_bytesIn.calls ht14.out).mono ?_; rintro _ wt14 ⟨rfl, HQ⟩; refine ⟨_, rfl, ?_⟩; replace HS := HS.call HQ; clear HQ; (try clear F); (try simp only [hpn, hpm] at HS)))
   by_cases c16 : t14 = true
   case neg =>
    replace H := zneg c16 H
    replace c16 := eq_false_of_ne_true c16
    subst c16
    (try simp only [dcn, if_true, Bool.false_eq_true, if_false])
    obtain rfl := zsome H
    go_wp2
    go_ret
    exact ⟨rfl, HS.pick [] (by decide) (by rfl)⟩
   replace H := zpos c16 H
   subst c16
   (try simp only [dcn, if_true, Bool.false_eq_true, if_false])
   go_wp2
   go_roundg k6
   case measure => have := HKk6.out; omega
   case rel => exact ⟨_, rfl, H, ⟨by have := HKk6.out; omega⟩, HS.pick [0] (by decide) (by rfl)⟩
/-! ### impl_NamesOk: function 188 -/
def impl_NamesOk.l0 : Nat → Int → (List ByteArray) → Option (Bool)
  | 0, _, _ => none
  | k + 1, x4, a0 => (if x4 < (a0.length : Int) then (if 0 ≤ x4 then (if x4 < (a0.length : Int) then ((impl_NameOk.f k (rdOf ByteArray.empty a0 x4)).bind fun t10 => (if t10 = true then (if 0 < x4 then (if 0 ≤ (wrap64 (x4 - 1)) then (if (wrap64 (x4 - 1)) < (a0.length : Int) then (if (Op.bytesLess ((rdOf ByteArray.empty a0 (wrap64 (x4 - 1))).toList) ((rdOf ByteArray.empty a0 x4).toList)) = true then (impl_NamesOk.l0 k (wrap64 (x4 + 1)) a0) else (some false)) else none) else none) else (impl_NamesOk.l0 k (wrap64 (x4 + 1)) a0)) else (some false))) else none) else none) else (some (decide ((a0.length : Int) ≤ 4))))
def impl_NamesOk.f (k : Nat) (a0 : (List ByteArray)) : Option (Bool) := (impl_NamesOk.l0 k 0 a0)
set_option maxHeartbeats 16000000 in
theorem impl_NamesOk.calls {k : Nat} {a0 : (List ByteArray)} {Ap0 : Option Addr} {np0 cp0 : Nat} {mG : Int} {r : Bool} {w : World} (h : impl_NamesOk.f k a0 = some r) (gp0 : Kd.string.C w Ap0 np0 a0) (lp0 : np0 ≤ cp0) (hgM : w.cell? ⟨0, 0, none⟩ = some (.int .i64 mG)) :
    Calls Tryz.prog 188 #[.slice Ap0 np0 cp0] w (fun e w' => e = .returned (.bool r) ∧ Hp noFP w w' []) := by
 obtain rfl := C_len gp0
 have HS := Hp.start w
 have H := Aside0.mk h
 clear h
 unfold impl_NamesOk.f at H
 go_enter Tryz.func188, Tryz.ntmps188
 go_wp2
 go_loopg [7] k (fun kq v_7 w' => ∃ (x4 : Int), v_7 = .int .i64 x4 ∧ Aside0 (impl_NamesOk.l0 kq x4 a0 = some r) ∧ Aside0 (kq ≤ k) ∧ Hp noFP w w' [])
 case atStart => exact ⟨_, rfl, H, ⟨Nat.le_refl _⟩, HS⟩
 case round =>
  clear HS H; (try clear F)
  obtain ⟨x4, rfl, H, HKk3, HS⟩ := hrel
  cases gk with
  | zero => exact absurd H.out (by simp [impl_NamesOk.l0])
  | succ k3 =>
   simp only [impl_NamesOk.l0] at H
   by_cases c6 : x4 < (a0.length : Int)
   case neg =>
    replace H := zneg c6 H
    replace c6 := eq_false c6
    obtain rfl := zsome H
    go_wp2
    go_ret
    exact ⟨rfl, HS.pick [] (by decide) (by rfl)⟩
   replace H := zpos c6 H
   replace c6 := eq_true c6
   by_cases c7 : 0 ≤ x4
   case neg => exact zno c7 H
   replace H := zpos c7 H
   replace c7 := eq_true c7
   by_cases c8 : x4 < (a0.length : Int)
   case neg => exact zno c8 H
   replace H := zpos c8 H
   replace c8 := eq_true c8
   obtain ⟨ad9, rfl, e9_0⟩ := Kd.at_string gp0 x4 (of_eq_true c7) (of_eq_true c8)
   have e9_0_9 := (HS.keepc e9_0)
   replace H := zbind H; obtain ⟨t10, ht10, H⟩ := H
   by_cases c12 : t10 = true
   case neg =>
    replace H := zneg c12 H
    replace c12 := eq_false_of_ne_true c12
    subst c12
    obtain rfl := zsome H
    go_wp2_with (first | ((with_reducible refine gate_dst (N := 13) rfl ?_); refine ev_call rfl Tryz.func62 (by kernel_rfl) rfl #[.string (rdOf ByteArray.empty a0 x4)] rfl (by simp only [mpn]; rfl) ?_; refine (impl_NameOk.calls ht10.out (HS.keepc hgM)).mono ?_; rintro _ wt10 ⟨rfl, HQ⟩; refine ⟨_, rfl, ?_⟩; replace HS := HS.call HQ; clear HQ; (try clear F); (try simp only [hpn, hpm] at HS)))
    go_ret
    exact ⟨rfl, HS.pick [] (by decide) (by rfl)⟩
   replace H := zpos c12 H
   subst c12
   by_cases c13 : 0 < x4
   case neg =>
    replace H := zneg c13 H
    replace c13 := eq_false c13
    go_wp2_with (first | ((with_reducible refine gate_dst (N := 13) rfl ?_); refine ev_call rfl Tryz.func62 (by kernel_rfl) rfl #[.string (rdOf ByteArray.empty a0 x4)] rfl (by simp only [mpn]; rfl) ?_; refine (impl_NameOk.calls ht10.out (HS.keepc hgM)).mono ?_; rintro _ wt10 ⟨rfl, HQ⟩; refine ⟨_, rfl, ?_⟩; replace HS := HS.call HQ; clear HQ; (try clear F); (try simp only [hpn, hpm] at HS)))
    go_roundg k3
    case measure => have := HKk3.out; omega
    case rel => exact ⟨_, rfl, H, ⟨by have := HKk3.out; omega⟩, HS.pick [] (by decide) (by rfl)⟩
   replace H := zpos c13 H
   replace c13 := eq_true c13
   by_cases c14 : 0 ≤ (wrap64 (x4 - 1))
   case neg => exact zno c14 H
   replace H := zpos c14 H
   replace c14 := eq_true c14
   by_cases c15 : (wrap64 (x4 - 1)) < (a0.length : Int)
   case neg => exact zno c15 H
   replace H := zpos c15 H
   replace c15 := eq_true c15
   go_upto_if 27 with (first | ((with_reducible refine gate_dst (N := 13) rfl ?_); refine ev_call rfl Tryz.func62 (by kernel_rfl) rfl #[.string (rdOf ByteArray.empty a0 x4)] rfl (by simp only [mpn]; rfl) ?_; refine (impl_NameOk.calls ht10.out (HS.keepc hgM)).mono ?_; rintro _ wt10 ⟨rfl, HQ⟩; refine ⟨_, rfl, ?_⟩; replace HS := HS.call HQ; clear HQ; (try clear F); (try simp only [hpn, hpm] at HS); obtain ⟨ad16, hq16, e16_0⟩ := Kd.at_string gp0 (wrap64 (x4 - 1)) (of_eq_true c14) (of_eq_true c15); obtain rfl := Option.some.inj hq16; have e16_0_16 := (HS.keepc e16_0)))
   by_cases c17 : (Op.bytesLess ((rdOf ByteArray.empty a0 (wrap64 (x4 - 1))).toList) ((rdOf ByteArray.empty a0 x4).toList)) = true
   case neg =>
    replace H := zneg c17 H
    replace c17 := eq_false_of_ne_true c17
    (try simp only [c17, dcn])
    obtain rfl := zsome H
    go_wp2
    go_ret
    exact ⟨rfl, HS.pick [] (by decide) (by rfl)⟩
   replace H := zpos c17 H
   (try simp only [c17, dcn])
   go_wp2
   go_roundg k3
   case measure => have := HKk3.out; omega
   case rel => exact ⟨_, rfl, H, ⟨by have := HKk3.out; omega⟩, HS.pick [] (by decide) (by rfl)⟩
/-! ### impl_timeOk: function 80 -/
def impl_timeOk.f (a0 : Int) : Option (Bool) := ((impl_within.f a0 0 9999).bind fun t1 => (some t1))
set_option maxHeartbeats 16000000 in
theorem impl_timeOk.calls {a0 : Int} {r : Bool} {w : World} (h : impl_timeOk.f a0 = some r) :
    Calls Tryz.prog 80 #[.int .i64 a0] w (fun e w' => e = .returned (.bool r) ∧ Hp noFP w w' []) := by
 have HS := Hp.start w
 have H := Aside0.mk h
 clear h
 unfold impl_timeOk.f at H
 go_enter Tryz.func80, Tryz.ntmps80
 replace H := zbind H; obtain ⟨t1, ht1, H⟩ := H
 obtain rfl := zsome H
 go_wp2_with (first | ((with_reducible refine gate_dst (N := 4) rfl ?_); refine ev_call rfl Tryz.func79 (by kernel_rfl) rfl #[.int .i64 a0, .int .i64 0, .int .i64 9999] rfl (by simp only [mpn]; rfl) ?_; refine (impl_within.calls ht1.out).mono ?_; rintro _ wt1 ⟨rfl, HQ⟩; refine ⟨_, rfl, ?_⟩; replace HS := HS.call HQ; clear HQ; (try clear F); (try simp only [hpn, hpm] at HS)))
 go_ret
 exact ⟨rfl, HS.pick [] (by decide) (by rfl)⟩
/-! ### impl_CertOk: function 124 -/
def impl_CertOk.f (k : Nat) (a0 : S91) : Option (Bool) := ((impl_timeOk.f a0.f0).bind fun t3 => (if t3 = true then ((impl_timeOk.f a0.f3).bind fun t6 => (if t6 = true then ((impl_timeOk.f a0.f4).bind fun t9 => (if t9 = true then ((impl_NameOk.f k a0.f1).bind fun t12 => (if t12 = true then ((impl_NameOk.f k a0.f2).bind fun t15 => (if t15 = true then (if (a0.f5.size : Int) = 15 then ((impl_within.f a0.f7 0 99).bind fun t19 => (if t19 = true then ((impl_within.f a0.f8 0 7).bind fun t22 => (if t22 = true then ((impl_PoliciesOk.f k a0.f9).bind fun t25 => (if t25 = true then ((impl_NamesOk.f k a0.f10).bind fun t28 => (if t28 = true then ((impl_NamesOk.f k a0.f11).bind fun t31 => (if t31 = true then (some ((a0.f12.size : Int) == 15)) else (some false))) else (some false))) else (some false))) else (some false))) else (some false))) else (some false)) else (some false))) else (some false))) else (some false))) else (some false))) else (some false)))
set_option maxHeartbeats 16000000 in
theorem impl_CertOk.calls {k : Nat} {a0 : S91} {Ap0 : Option Addr} {np0 cp0 : Nat} {Ap1 : Option Addr} {np1 cp1 : Nat} {Ap2 : Option Addr} {np2 cp2 : Nat} {mG : Int} {r : Bool} {w : World} (h : impl_CertOk.f k a0 = some r) (gp0 : (Kd.int .i64).C w Ap0 np0 a0.f9) (lp0 : np0 ≤ cp0) (gp1 : Kd.string.C w Ap1 np1 a0.f10) (lp1 : np1 ≤ cp1) (gp2 : Kd.string.C w Ap2 np2 a0.f11) (lp2 : np2 ≤ cp2) (hgM : w.cell? ⟨0, 0, none⟩ = some (.int .i64 mG)) :
    Calls Tryz.prog 124 #[.agg #[.int .i64 a0.f0, .string a0.f1, .string a0.f2, .int .i64 a0.f3, .int .i64 a0.f4, .string a0.f5, .bool a0.f6, .int .i64 a0.f7, .int .i64 a0.f8, .slice Ap0 np0 cp0, .slice Ap1 np1 cp1, .slice Ap2 np2 cp2, .string a0.f12]] w (fun e w' => e = .returned (.bool r) ∧ Hp noFP w w' []) := by
 obtain rfl := C_len gp0
 obtain rfl := C_len gp1
 obtain rfl := C_len gp2
 have HS := Hp.start w
 have H := Aside0.mk h
 clear h
 unfold impl_CertOk.f at H
 go_enter Tryz.func124, Tryz.ntmps124
 replace H := zbind H; obtain ⟨t3, ht3, H⟩ := H
 by_cases c5 : t3 = true
 case neg =>
  replace H := zneg c5 H
  replace c5 := eq_false_of_ne_true c5
  subst c5
  obtain rfl := zsome H
  go_wp2_with (first | ((with_reducible refine gate_dst (N := 1) rfl ?_); refine ev_box rfl HS (by first | (go_simp; done) | (go_simp; rfl)) rfl ?_; clear HS; (try clear F); intro g1 w1 HS; (try simp only [hpn, hpm] at HS); have F := HS.boxes; simp only [bxn] at F) | ((with_reducible refine gate_dst (N := 5) rfl ?_); refine ev_call rfl Tryz.func80 (by kernel_rfl) rfl #[.int .i64 a0.f0] rfl (by simp only [mpn]; rfl) ?_; refine (impl_timeOk.calls ht3.out).mono ?_; rintro _ wt3 ⟨rfl, HQ⟩; refine ⟨_, rfl, ?_⟩; replace HS := HS.call HQ; clear HQ; (try clear F); (try simp only [hpn, hpm] at HS); have F := HS.boxes; simp only [bxn] at F))
  go_ret
  exact ⟨rfl, HS.pick [] (by decide) (by rfl)⟩
 replace H := zpos c5 H
 subst c5
 replace H := zbind H; obtain ⟨t6, ht6, H⟩ := H
 by_cases c8 : t6 = true
 case neg =>
  replace H := zneg c8 H
  replace c8 := eq_false_of_ne_true c8
  subst c8
  obtain rfl := zsome H
  go_wp2_with (first | ((with_reducible refine gate_dst (N := 1) rfl ?_); refine ev_box rfl HS (by first | (go_simp; done) | (go_simp; rfl)) rfl ?_; clear HS; (try clear F); intro g1 w1 HS; (try simp only [hpn, hpm] at HS); have F := HS.boxes; simp only [bxn] at F) | ((with_reducible refine gate_dst (N := 5) rfl ?_); refine ev_call rfl Tryz.func80 (by kernel_rfl) rfl #[.int .i64 a0.f0] rfl (by simp only [mpn]; rfl) ?_; refine (impl_timeOk.calls ht3.out).mono ?_; rintro _ wt3 ⟨rfl, HQ⟩; refine ⟨_, rfl, ?_⟩; replace HS := HS.call HQ; clear HQ; (try clear F); (try simp only [hpn, hpm] at HS); have F := HS.boxes; simp only [bxn] at F) | ((with_reducible refine gate_dst (N := 9) rfl ?_); refine gate_guard (by rfl) ?_; refine ev_call rfl Tryz.func80 (by kernel_rfl) rfl #[.int .i64 a0.f3] rfl (by simp only [mpn]; rfl) ?_; refine (impl_timeOk.calls ht6.out).mono ?_; rintro _ wt6 ⟨rfl, HQ⟩; refine ⟨_, rfl, ?_⟩; replace HS := HS.call HQ; clear HQ; (try clear F); (try simp only [hpn, hpm] at HS); have F := HS.boxes; simp only [bxn] at F))
  go_ret
  exact ⟨rfl, HS.pick [] (by decide) (by rfl)⟩
 replace H := zpos c8 H
 subst c8
 replace H := zbind H; obtain ⟨t9, ht9, H⟩ := H
 by_cases c11 : t9 = true
 case neg =>
  replace H := zneg c11 H
  replace c11 := eq_false_of_ne_true c11
  subst c11
  obtain rfl := zsome H
  go_wp2_with (first | ((with_reducible refine gate_dst (N := 1) rfl ?_); refine ev_box rfl HS (by first | (go_simp; done) | (go_simp; rfl)) rfl ?_; clear HS; (try clear F); intro g1 w1 HS; (try simp only [hpn, hpm] at HS); have F := HS.boxes; simp only [bxn] at F) | ((with_reducible refine gate_dst (N := 5) rfl ?_); refine ev_call rfl Tryz.func80 (by kernel_rfl) rfl #[.int .i64 a0.f0] rfl (by simp only [mpn]; rfl) ?_; refine (impl_timeOk.calls ht3.out).mono ?_; rintro _ wt3 ⟨rfl, HQ⟩; refine ⟨_, rfl, ?_⟩; replace HS := HS.call HQ; clear HQ; (try clear F); (try simp only [hpn, hpm] at HS); have F := HS.boxes; simp only [bxn] at F) | ((with_reducible refine gate_dst (N := 9) rfl ?_); refine gate_guard (by rfl) ?_; refine ev_call rfl Tryz.func80 (by kernel_rfl) rfl #[.int .i64 a0.f3] rfl (by simp only [mpn]; rfl) ?_; refine (impl_timeOk.calls ht6.out).mono ?_; rintro _ wt6 ⟨rfl, HQ⟩; refine ⟨_, rfl, ?_⟩; replace HS := HS.call HQ; clear HQ; (try clear F); (try simp only [hpn, hpm] at HS); have F := HS.boxes; simp only [bxn] at F) | ((with_reducible refine gate_dst (N := 14) rfl ?_); refine gate_guard (by rfl) ?_; refine ev_call rfl Tryz.func80 (by kernel_rfl) rfl #[.int .i64 a0.f4] rfl (by simp only [mpn]; rfl) ?_; refine (impl_timeOk.calls ht9.out).mono ?_; rintro _ wt9 ⟨rfl, HQ⟩; refine ⟨_, rfl, ?_⟩; replace HS := HS.call HQ; clear HQ; (try clear F); (try simp only [hpn, hpm] at HS); have F := HS.boxes; simp only [bxn] at F))
  go_ret
  exact ⟨rfl, HS.pick [] (by decide) (by rfl)⟩
 replace H := zpos c11 H
 subst c11
 replace H := zbind H; obtain ⟨t12, ht12, H⟩ := H
 by_cases c14 : t12 = true
 case neg =>
  replace H := zneg c14 H
  replace c14 := eq_false_of_ne_true c14
  subst c14
  obtain rfl := zsome H
  go_wp2_with (first | ((with_reducible refine gate_dst (N := 1) rfl ?_); refine ev_box rfl HS (by first | (go_simp; done) | (go_simp; rfl)) rfl ?_; clear HS; (try clear F); intro g1 w1 HS; (try simp only [hpn, hpm] at HS); have F := HS.boxes; simp only [bxn] at F) | ((with_reducible refine gate_dst (N := 5) rfl ?_); refine ev_call rfl Tryz.func80 (by kernel_rfl) rfl #[.int .i64 a0.f0] rfl (by simp only [mpn]; rfl) ?_; refine (impl_timeOk.calls ht3.out).mono ?_; rintro _ wt3 ⟨rfl, HQ⟩; refine ⟨_, rfl, ?_⟩; replace HS := HS.call HQ; clear HQ; (try clear F); (try simp only [hpn, hpm] at HS); have F := HS.boxes; simp only [bxn] at F) | ((with_reducible refine gate_dst (N := 9) rfl ?_); refine gate_guard (by rfl) ?_; refine ev_call rfl Tryz.func80 (by kernel_rfl) rfl #[.int .i64 a0.f3] rfl (by simp only [mpn]; rfl) ?_; refine (impl_timeOk.calls ht6.out).mono ?_; rintro _ wt6 ⟨rfl, HQ⟩; refine ⟨_, rfl, ?_⟩; replace HS := HS.call HQ; clear HQ; (try clear F); (try simp only [hpn, hpm] at HS); have F := HS.boxes; simp only [bxn] at F) | ((with_reducible refine gate_dst (N := 14) rfl ?_); refine gate_guard (by rfl) ?_; refine ev_call rfl Tryz.func80 (by kernel_rfl) rfl #[.int .i64 a0.f4] rfl (by simp only [mpn]; rfl) ?_; refine (impl_timeOk.calls ht9.out).mono ?_; rintro _ wt9 ⟨rfl, HQ⟩; refine ⟨_, rfl, ?_⟩; replace HS := HS.call HQ; clear HQ; (try clear F); (try simp only [hpn, hpm] at HS); have F := HS.boxes; simp only [bxn] at F) | ((with_reducible refine gate_dst (N := 19) rfl ?_); refine gate_guard (by rfl) ?_; refine ev_call rfl Tryz.func62 (by kernel_rfl) rfl #[.string a0.f1] rfl (by simp only [mpn]; rfl) ?_; refine (impl_NameOk.calls ht12.out (HS.keepc hgM)).mono ?_; rintro _ wt12 ⟨rfl, HQ⟩; refine ⟨_, rfl, ?_⟩; replace HS := HS.call HQ; clear HQ; (try clear F); (try simp only [hpn, hpm] at HS); have F := HS.boxes; simp only [bxn] at F))
  go_ret
  exact ⟨rfl, HS.pick [] (by decide) (by rfl)⟩
 replace H := zpos c14 H
 subst c14
 replace H := zbind H; obtain ⟨t15, ht15, H⟩ := H
 by_cases c17 : t15 = true
 case neg =>
  replace H := zneg c17 H
  replace c17 := eq_false_of_ne_true c17
  subst c17
  obtain rfl := zsome H
  go_wp2_with (first | ((with_reducible refine gate_dst (N := 1) rfl ?_); refine ev_box rfl HS (by first | (go_simp; done) | (go_simp; rfl)) rfl ?_; clear HS; (try clear F); intro g1 w1 HS; (try simp only [hpn, hpm] at HS); have F := HS.boxes; simp only [bxn] at F) | ((with_reducible refine gate_dst (N := 5) rfl ?_); refine ev_call rfl Tryz.func80 (by kernel_rfl) rfl #[.int .i64 a0.f0] rfl (by simp only [mpn]; rfl) ?_; refine (impl_timeOk.calls ht3.out).mono ?_; rintro _ wt3 ⟨rfl, HQ⟩; refine ⟨_, rfl, ?_⟩; replace HS := HS.call HQ; clear HQ; (try clear F); (try simp only [hpn, hpm] at HS); have F := HS.boxes; simp only [bxn] at F) | ((with_reducible refine gate_dst (N := 9) rfl ?_); refine gate_guard (by rfl) ?_; refine ev_call rfl Tryz.func80 (by kernel_rfl) rfl #[.int .i64 a0.f3] rfl (by simp only [mpn]; rfl) ?_; refine (impl_timeOk.calls ht6.out).mono ?_; rintro _ wt6 ⟨rfl, HQ⟩; refine ⟨_, rfl, ?_⟩; replace HS := HS.call HQ; clear HQ; (try clear F); (try simp only [hpn, hpm] at HS); have F := HS.boxes; simp only [bxn] at F) | ((with_reducible refine gate_dst (N := 14) rfl ?_); refine gate_guard (by rfl) ?_; refine ev_call rfl Tryz.func80 (by kernel_rfl) rfl #[.int .i64 a0.f4] rfl (by simp only [mpn]; rfl) ?_; refine (impl_timeOk.calls ht9.out).mono ?_; rintro _ wt9 ⟨rfl, HQ⟩; refine ⟨_, rfl, ?_⟩; replace HS := HS.call HQ; clear HQ; (try clear F); (try simp only [hpn, hpm] at HS); have F := HS.boxes; simp only [bxn] at F) | ((with_reducible refine gate_dst (N := 19) rfl ?_); refine gate_guard (by rfl) ?_; refine ev_call rfl Tryz.func62 (by kernel_rfl) rfl #[.string a0.f1] rfl (by simp only [mpn]; rfl) ?_; refine (impl_NameOk.calls ht12.out (HS.keepc hgM)).mono ?_; rintro _ wt12 ⟨rfl, HQ⟩; refine ⟨_, rfl, ?_⟩; replace HS := HS.call HQ; clear HQ; (try clear F); (try simp only [hpn, hpm] at HS); have F := HS.boxes; simp only [bxn] at F) | ((with_reducible refine gate_dst (N := 24) rfl ?_); refine gate_guard (by rfl) ?_; refine ev_call rfl Tryz.func62 (by kernel_rfl) rfl #[.string a0.f2] rfl (by simp only [mpn]; rfl) ?_; refine (impl_NameOk.calls ht15.out (HS.keepc hgM)).mono ?_; rintro _ wt15 ⟨rfl, HQ⟩; refine ⟨_, rfl, ?_⟩; replace HS := HS.call HQ; clear HQ; (try clear F); (try simp only [hpn, hpm] at HS); have F := HS.boxes; simp only [bxn] at F))
  go_ret
  exact ⟨rfl, HS.pick [] (by decide) (by rfl)⟩
 replace H := zpos c17 H
 subst c17
 by_cases c18 : (a0.f5.size : Int) = 15
 case neg =>
  replace H := zneg c18 H
  have c18a := beq_eq_false_iff_ne.mpr c18
  have c18b := bne_iff_ne.mpr c18
  clear c18
  obtain rfl := zsome H
  go_wp2_with (first | ((with_reducible refine gate_dst (N := 1) rfl ?_); refine ev_box rfl HS (by first | (go_simp; done) | (go_simp; rfl)) rfl ?_; clear HS; (try clear F); intro g1 w1 HS; (try simp only [hpn, hpm] at HS); have F := HS.boxes; simp only [bxn] at F) | ((with_reducible refine gate_dst (N := 5) rfl ?_); refine ev_call rfl Tryz.func80 (by kernel_rfl) rfl #[.int .i64 a0.f0] rfl (by simp only [mpn]; rfl) ?_; refine (impl_timeOk.calls ht3.out).mono ?_; rintro _ wt3 ⟨rfl, HQ⟩; refine ⟨_, rfl, ?_⟩; replace HS := HS.call HQ; clear HQ; (try clear F); (try simp only [hpn, hpm] at HS); have F := HS.boxes; simp only [bxn] at F) | ((with_reducible refine gate_dst (N := 9) rfl ?_); refine gate_guard (by rfl) ?_; refine ev_call rfl Tryz.func80 (by kernel_rfl) rfl #[.int .i64 a0.f3] rfl (by simp only [mpn]; rfl) ?_; refine (impl_timeOk.calls ht6.out).mono ?_; rintro _ wt6 ⟨rfl, HQ⟩; refine ⟨_, rfl, ?_⟩; replace HS := HS.call HQ; clear HQ; (try clear F); (try simp only [hpn, hpm] at HS); have F := HS.boxes; simp only [bxn] at F) | ((with_reducible refine gate_dst (N := 14) rfl ?_); refine gate_guard (by rfl) ?_; refine ev_call rfl Tryz.func80 (by kernel_rfl) rfl #[.int .i64 a0.f4] rfl (by simp only [mpn]; rfl) ?_; refine (impl_timeOk.calls ht9.out).mono ?_; rintro _ wt9 ⟨rfl, HQ⟩; refine ⟨_, rfl, ?_⟩; replace HS := HS.call HQ; clear HQ; (try clear F); (try simp only [hpn, hpm] at HS); have F := HS.boxes; simp only [bxn] at F) | ((with_reducible refine gate_dst (N := 19) rfl ?_); refine gate_guard (by rfl) ?_; refine ev_call rfl Tryz.func62 (by kernel_rfl) rfl #[.string a0.f1] rfl (by simp only [mpn]; rfl) ?_; refine (impl_NameOk.calls ht12.out (HS.keepc hgM)).mono ?_; rintro _ wt12 ⟨rfl, HQ⟩; refine ⟨_, rfl, ?_⟩; replace HS := HS.call HQ; clear HQ; (try clear F); (try simp only [hpn, hpm] at HS); have F := HS.boxes; simp only [bxn] at F) | ((with_reducible refine gate_dst (N := 24) rfl ?_); refine gate_guard (by rfl) ?_; refine ev_call rfl Tryz.func62 (by kernel_rfl) rfl #[.string a0.f2] rfl (by simp only [mpn]; rfl) ?_; refine (impl_NameOk.calls ht15.out (HS.keepc hgM)).mono ?_; rintro _ wt15 ⟨rfl, HQ⟩; refine ⟨_, rfl, ?_⟩; replace HS := HS.call HQ; clear HQ; (try clear F); (try simp only [hpn, hpm] at HS); have F := HS.boxes; simp only [bxn] at F))
  go_ret
  exact ⟨rfl, HS.pick [] (by decide) (by rfl)⟩
 replace H := zpos c18 H
 have c18a := beq_iff_eq.mpr c18
 have c18b := bne_eq_false_iff_eq.mpr c18
 clear c18
 replace H := zbind H; obtain ⟨t19, ht19, H⟩ := H
 by_cases c21 : t19 = true
 case neg =>
  replace H := zneg c21 H
  replace c21 := eq_false_of_ne_true c21
  subst c21
  obtain rfl := zsome H
  go_wp2_with (first | ((with_reducible refine gate_dst (N := 1) rfl ?_); refine ev_box rfl HS (by first | (go_simp; done) | (go_simp; rfl)) rfl ?_; clear HS; (try clear F); intro g1 w1 HS; (try simp only [hpn, hpm] at HS); have F := HS.boxes; simp only [bxn] at F) | ((with_reducible refine gate_dst (N := 5) rfl ?_); refine ev_call rfl Tryz.func80 (by kernel_rfl) rfl #[.int .i64 a0.f0] rfl (by simp only [mpn]; rfl) ?_; refine (impl_timeOk.calls ht3.out).mono ?_; rintro _ wt3 ⟨rfl, HQ⟩; refine ⟨_, rfl, ?_⟩; replace HS := HS.call HQ; clear HQ; (try clear F); (try simp only [hpn, hpm] at HS); have F := HS.boxes; simp only [bxn] at F) | ((with_reducible refine gate_dst (N := 9) rfl ?_); refine gate_guard (by rfl) ?_; refine ev_call rfl Tryz.func80 (by kernel_rfl) rfl #[.int .i64 a0.f3] rfl (by simp only [mpn]; rfl) ?_; refine (impl_timeOk.calls ht6.out).mono ?_; rintro _ wt6 ⟨rfl, HQ⟩; refine ⟨_, rfl, ?_⟩; replace HS := HS.call HQ; clear HQ; (try clear F); (try simp only [hpn, hpm] at HS); have F := HS.boxes; simp only [bxn] at F) | ((with_reducible refine gate_dst (N := 14) rfl ?_); refine gate_guard (by rfl) ?_; refine ev_call rfl Tryz.func80 (by kernel_rfl) rfl #[.int .i64 a0.f4] rfl (by simp only [mpn]; rfl) ?_; refine (impl_timeOk.calls ht9.out).mono ?_; rintro _ wt9 ⟨rfl, HQ⟩; refine ⟨_, rfl, ?_⟩; replace HS := HS.call HQ; clear HQ; (try clear F); (try simp only [hpn, hpm] at HS); have F := HS.boxes; simp only [bxn] at F) | ((with_reducible refine gate_dst (N := 19) rfl ?_); refine gate_guard (by rfl) ?_; refine ev_call rfl Tryz.func62 (by kernel_rfl) rfl #[.string a0.f1] rfl (by simp only [mpn]; rfl) ?_; refine (impl_NameOk.calls ht12.out (HS.keepc hgM)).mono ?_; rintro _ wt12 ⟨rfl, HQ⟩; refine ⟨_, rfl, ?_⟩; replace HS := HS.call HQ; clear HQ; (try clear F); (try simp only [hpn, hpm] at HS); have F := HS.boxes; simp only [bxn] at F) | ((with_reducible refine gate_dst (N := 24) rfl ?_); refine gate_guard (by rfl) ?_; refine ev_call rfl Tryz.func62 (by kernel_rfl) rfl #[.string a0.f2] rfl (by simp only [mpn]; rfl) ?_; refine (impl_NameOk.calls ht15.out (HS.keepc hgM)).mono ?_; rintro _ wt15 ⟨rfl, HQ⟩; refine ⟨_, rfl, ?_⟩; replace HS := HS.call HQ; clear HQ; (try clear F); (try simp only [hpn, hpm] at HS); have F := HS.boxes; simp only [bxn] at F) | ((with_reducible refine gate_dst (N := 35) rfl ?_); refine gate_guard (by rfl) ?_; refine ev_call rfl Tryz.func79 (by kernel_rfl) rfl #[.int .i64 a0.f7, .int .i64 0, .int .i64 99] rfl (by simp only [mpn]; rfl) ?_; refine (impl_within.calls ht19.out).mono ?_; rintro _ wt19 ⟨rfl, HQ⟩; refine ⟨_, rfl, ?_⟩; replace HS := HS.call HQ; clear HQ; (try clear F); (try simp only [hpn, hpm] at HS); have F := HS.boxes; simp only [bxn] at F))
  go_ret
  exact ⟨rfl, HS.pick [] (by decide) (by rfl)⟩
 replace H := zpos c21 H
 subst c21
 replace H := zbind H; obtain ⟨t22, ht22, H⟩ := H
 by_cases c24 : t22 = true
 case neg =>
  replace H := zneg c24 H
  replace c24 := eq_false_of_ne_true c24
  subst c24
  obtain rfl := zsome H
  go_wp2_with (first | ((with_reducible refine gate_dst (N := 1) rfl ?_); refine ev_box rfl HS (by first | (go_simp; done) | (go_simp; rfl)) rfl ?_; clear HS; (try clear F); intro g1 w1 HS; (try simp only [hpn, hpm] at HS); have F := HS.boxes; simp only [bxn] at F) | ((with_reducible refine gate_dst (N := 5) rfl ?_); refine ev_call rfl Tryz.func80 (by kernel_rfl) rfl #[.int .i64 a0.f0] rfl (by simp only [mpn]; rfl) ?_; refine (impl_timeOk.calls ht3.out).mono ?_; rintro _ wt3 ⟨rfl, HQ⟩; refine ⟨_, rfl, ?_⟩; replace HS := HS.call HQ; clear HQ; (try clear F); (try simp only [hpn, hpm] at HS); have F := HS.boxes; simp only [bxn] at F) | ((with_reducible refine gate_dst (N := 9) rfl ?_); refine gate_guard (by rfl) ?_; refine ev_call rfl Tryz.func80 (by kernel_rfl) rfl #[.int .i64 a0.f3] rfl (by simp only [mpn]; rfl) ?_; refine (impl_timeOk.calls ht6.out).mono ?_; rintro _ wt6 ⟨rfl, HQ⟩; refine ⟨_, rfl, ?_⟩; replace HS := HS.call HQ; clear HQ; (try clear F); (try simp only [hpn, hpm] at HS); have F := HS.boxes; simp only [bxn] at F) | ((with_reducible refine gate_dst (N := 14) rfl ?_); refine gate_guard (by rfl) ?_; refine ev_call rfl Tryz.func80 (by kernel_rfl) rfl #[.int .i64 a0.f4] rfl (by simp only [mpn]; rfl) ?_; refine (impl_timeOk.calls ht9.out).mono ?_; rintro _ wt9 ⟨rfl, HQ⟩; refine ⟨_, rfl, ?_⟩; replace HS := HS.call HQ; clear HQ; (try clear F); (try simp only [hpn, hpm] at HS); have F := HS.boxes; simp only [bxn] at F) | ((with_reducible refine gate_dst (N := 19) rfl ?_); refine gate_guard (by rfl) ?_; refine ev_call rfl Tryz.func62 (by kernel_rfl) rfl #[.string a0.f1] rfl (by simp only [mpn]; rfl) ?_; refine (impl_NameOk.calls ht12.out (HS.keepc hgM)).mono ?_; rintro _ wt12 ⟨rfl, HQ⟩; refine ⟨_, rfl, ?_⟩; replace HS := HS.call HQ; clear HQ; (try clear F); (try simp only [hpn, hpm] at HS); have F := HS.boxes; simp only [bxn] at F) | ((with_reducible refine gate_dst (N := 24) rfl ?_); refine gate_guard (by rfl) ?_; refine ev_call rfl Tryz.func62 (by kernel_rfl) rfl #[.string a0.f2] rfl (by simp only [mpn]; rfl) ?_; refine (impl_NameOk.calls ht15.out (HS.keepc hgM)).mono ?_; rintro _ wt15 ⟨rfl, HQ⟩; refine ⟨_, rfl, ?_⟩; replace HS := HS.call HQ; clear HQ; (try clear F); (try simp only [hpn, hpm] at HS); have F := HS.boxes; simp only [bxn] at F) | ((with_reducible refine gate_dst (N := 35) rfl ?_); refine gate_guard (by rfl) ?_; refine ev_call rfl Tryz.func79 (by kernel_rfl) rfl #[.int .i64 a0.f7, .int .i64 0, .int .i64 99] rfl (by simp only [mpn]; rfl) ?_; refine (impl_within.calls ht19.out).mono ?_; rintro _ wt19 ⟨rfl, HQ⟩; refine ⟨_, rfl, ?_⟩; replace HS := HS.call HQ; clear HQ; (try clear F); (try simp only [hpn, hpm] at HS); have F := HS.boxes; simp only [bxn] at F) | ((with_reducible refine gate_dst (N := 40) rfl ?_); refine gate_guard (by rfl) ?_; refine ev_call rfl Tryz.func79 (by kernel_rfl) rfl #[.int .i64 a0.f8, .int .i64 0, .int .i64 7] rfl (by simp only [mpn]; rfl) ?_; refine (impl_within.calls ht22.out).mono ?_; rintro _ wt22 ⟨rfl, HQ⟩; refine ⟨_, rfl, ?_⟩; replace HS := HS.call HQ; clear HQ; (try clear F); (try simp only [hpn, hpm] at HS); have F := HS.boxes; simp only [bxn] at F))
  go_ret
  exact ⟨rfl, HS.pick [] (by decide) (by rfl)⟩
 replace H := zpos c24 H
 subst c24
 replace H := zbind H; obtain ⟨t25, ht25, H⟩ := H
 by_cases c27 : t25 = true
 case neg =>
  replace H := zneg c27 H
  replace c27 := eq_false_of_ne_true c27
  subst c27
  obtain rfl := zsome H
  go_wp2_with (first | ((with_reducible refine gate_dst (N := 1) rfl ?_); refine ev_box rfl HS (by first | (go_simp; done) | (go_simp; rfl)) rfl ?_; clear HS; (try clear F); intro g1 w1 HS; (try simp only [hpn, hpm] at HS); have F := HS.boxes; simp only [bxn] at F) | ((with_reducible refine gate_dst (N := 5) rfl ?_); refine ev_call rfl Tryz.func80 (by kernel_rfl) rfl #[.int .i64 a0.f0] rfl (by simp only [mpn]; rfl) ?_; refine (impl_timeOk.calls ht3.out).mono ?_; rintro _ wt3 ⟨rfl, HQ⟩; refine ⟨_, rfl, ?_⟩; replace HS := HS.call HQ; clear HQ; (try clear F); (try simp only [hpn, hpm] at HS); have F := HS.boxes; simp only [bxn] at F) | ((with_reducible refine gate_dst (N := 9) rfl ?_); refine gate_guard (by rfl) ?_; refine ev_call rfl Tryz.func80 (by kernel_rfl) rfl #[.int .i64 a0.f3] rfl (by simp only [mpn]; rfl) ?_; refine (impl_timeOk.calls ht6.out).mono ?_; rintro _ wt6 ⟨rfl, HQ⟩; refine ⟨_, rfl, ?_⟩; replace HS := HS.call HQ; clear HQ; (try clear F); (try simp only [hpn, hpm] at HS); have F := HS.boxes; simp only [bxn] at F) | ((with_reducible refine gate_dst (N := 14) rfl ?_); refine gate_guard (by rfl) ?_; refine ev_call rfl Tryz.func80 (by kernel_rfl) rfl #[.int .i64 a0.f4] rfl (by simp only [mpn]; rfl) ?_; refine (impl_timeOk.calls ht9.out).mono ?_; rintro _ wt9 ⟨rfl, HQ⟩; refine ⟨_, rfl, ?_⟩; replace HS := HS.call HQ; clear HQ; (try clear F); (try simp only [hpn, hpm] at HS); have F := HS.boxes; simp only [bxn] at F) | ((with_reducible refine gate_dst (N := 19) rfl ?_); refine gate_guard (by rfl) ?_; refine ev_call rfl Tryz.func62 (by kernel_rfl) rfl #[.string a0.f1] rfl (by simp only [mpn]; rfl) ?_; refine (impl_NameOk.calls ht12.out (HS.keepc hgM)).mono ?_; rintro _ wt12 ⟨rfl, HQ⟩; refine ⟨_, rfl, ?_⟩; replace HS := HS.call HQ; clear HQ; (try clear F); (try simp only [hpn, hpm] at HS); have F := HS.boxes; simp only [bxn] at F) | ((with_reducible refine gate_dst (N := 24) rfl ?_); refine gate_guard (by rfl) ?_; refine ev_call rfl Tryz.func62 (by kernel_rfl) rfl #[.string a0.f2] rfl (by simp only [mpn]; rfl) ?_; refine (impl_NameOk.calls ht15.out (HS.keepc hgM)).mono ?_; rintro _ wt15 ⟨rfl, HQ⟩; refine ⟨_, rfl, ?_⟩; replace HS := HS.call HQ; clear HQ; (try clear F); (try simp only [hpn, hpm] at HS); have F := HS.boxes; simp only [bxn] at F) | ((with_reducible refine gate_dst (N := 35) rfl ?_); refine gate_guard (by rfl) ?_; refine ev_call rfl Tryz.func79 (by kernel_rfl) rfl #[.int .i64 a0.f7, .int .i64 0, .int .i64 99] rfl (by simp only [mpn]; rfl) ?_; refine (impl_within.calls ht19.out).mono ?_; rintro _ wt19 ⟨rfl, HQ⟩; refine ⟨_, rfl, ?_⟩; replace HS := HS.call HQ; clear HQ; (try clear F); (try simp only [hpn, hpm] at HS); have F := HS.boxes; simp only [bxn] at F) | ((with_reducible refine gate_dst (N := 40) rfl ?_); refine gate_guard (by rfl) ?_; refine ev_call rfl Tryz.func79 (by kernel_rfl) rfl #[.int .i64 a0.f8, .int .i64 0, .int .i64 7] rfl (by simp only [mpn]; rfl) ?_; refine (impl_within.calls ht22.out).mono ?_; rintro _ wt22 ⟨rfl, HQ⟩; refine ⟨_, rfl, ?_⟩; replace HS := HS.call HQ; clear HQ; (try clear F); (try simp only [hpn, hpm] at HS); have F := HS.boxes; simp only [bxn] at F) | ((with_reducible refine gate_dst (N := 45) rfl ?_); refine gate_guard (by rfl) ?_; refine ev_call rfl Tryz.func187 (by kernel_rfl) rfl #[.slice Ap0 a0.f9.length cp0] rfl (by simp only [mpn]; rfl) ?_; refine (impl_PoliciesOk.calls ht25.out (HS.ro gp0) lp0).mono ?_; rintro _ wt25 ⟨rfl, HQ⟩; refine ⟨_, rfl, ?_⟩; replace HS := HS.call HQ; clear HQ; (try clear F); (try simp only [hpn, hpm] at HS); have F := HS.boxes; simp only [bxn] at F))
  go_ret
  exact ⟨rfl, HS.pick [] (by decide) (by rfl)⟩
 replace H := zpos c27 H
 subst c27
 replace H := zbind H; obtain ⟨t28, ht28, H⟩ := H
 by_cases c30 : t28 = true
 case neg =>
  replace H := zneg c30 H
  replace c30 := eq_false_of_ne_true c30
  subst c30
  obtain rfl := zsome H
  go_wp2_with (first | ((with_reducible refine gate_dst (N := 1) rfl ?_); refine ev_box rfl HS (by first | (go_simp; done) | (go_simp; rfl)) rfl ?_; clear HS; (try clear F); intro g1 w1 HS; (try simp only [hpn, hpm] at HS); have F := HS.boxes; simp only [bxn] at F) | ((with_reducible refine gate_dst (N := 5) rfl ?_); refine ev_call rfl Tryz.func80 (by kernel_rfl) rfl #[.int .i64 a0.f0] rfl (by simp only [mpn]; rfl) ?_; refine (impl_timeOk.calls ht3.out).mono ?_; rintro _ wt3 ⟨rfl, HQ⟩; refine ⟨_, rfl, ?_⟩; replace HS := HS.call HQ; clear HQ; (try clear F); (try simp only [hpn, hpm] at HS); have F := HS.boxes; simp only [bxn] at F) | ((with_reducible refine gate_dst (N := 9) rfl ?_); refine gate_guard (by rfl) ?_; refine ev_call rfl Tryz.func80 (by kernel_rfl) rfl #[.int .i64 a0.f3] rfl (by simp only [mpn]; rfl) ?_; refine (impl_timeOk.calls ht6.out).mono ?_; rintro _ wt6 ⟨rfl, HQ⟩; refine ⟨_, rfl, ?_⟩; replace HS := HS.call HQ; clear HQ; (try clear F); (try simp only [hpn, hpm] at HS); have F := HS.boxes; simp only [bxn] at F) | ((with_reducible refine gate_dst (N := 14) rfl ?_); refine gate_guard (by rfl) ?_; refine ev_call rfl Tryz.func80 (by kernel_rfl) rfl #[.int .i64 a0.f4] rfl (by simp only [mpn]; rfl) ?_; refine (impl_timeOk.calls ht9.out).mono ?_; rintro _ wt9 ⟨rfl, HQ⟩; refine ⟨_, rfl, ?_⟩; replace HS := HS.call HQ; clear HQ; (try clear F); (try simp only [hpn, hpm] at HS); have F := HS.boxes; simp only [bxn] at F) | ((with_reducible refine gate_dst (N := 19) rfl ?_); refine gate_guard (by rfl) ?_; refine ev_call rfl Tryz.func62 (by kernel_rfl) rfl #[.string a0.f1] rfl (by simp only [mpn]; rfl) ?_; refine (impl_NameOk.calls ht12.out (HS.keepc hgM)).mono ?_; rintro _ wt12 ⟨rfl, HQ⟩; refine ⟨_, rfl, ?_⟩; replace HS := HS.call HQ; clear HQ; (try clear F); (try simp only [hpn, hpm] at HS); have F := HS.boxes; simp only [bxn] at F) | ((with_reducible refine gate_dst (N := 24) rfl ?_); refine gate_guard (by rfl) ?_; refine ev_call rfl Tryz.func62 (by kernel_rfl) rfl #[.string a0.f2] rfl (by simp only [mpn]; rfl) ?_; refine (impl_NameOk.calls ht15.out (HS.keepc hgM)).mono ?_; rintro _ wt15 ⟨rfl, HQ⟩; refine ⟨_, rfl, ?_⟩; replace HS := HS.call HQ; clear HQ; (try clear F); (try simp only [hpn, hpm] at HS); have F := HS.boxes; simp only [bxn] at F) | ((with_reducible refine gate_dst (N := 35) rfl ?_); refine gate_guard (by rfl) ?_; refine ev_call rfl Tryz.func79 (by kernel_rfl) rfl #[.int .i64 a0.f7, .int .i64 0, .int .i64 99] rfl (by simp only [mpn]; rfl) ?_; refine (impl_within.calls ht19.out).mono ?_; rintro _ wt19 ⟨rfl, HQ⟩; refine ⟨_, rfl, ?_⟩; replace HS := HS.call HQ; clear HQ; (try clear F); (try simp only [hpn, hpm] at HS); have F := HS.boxes; simp only [bxn] at F) | ((with_reducible refine gate_dst (N := 40) rfl ?_); refine gate_guard (by rfl) ?_; refine ev_call rfl Tryz.func79 (by kernel_rfl) rfl #[.int .i64 a0.f8, .int .i64 0, .int .i64 7] rfl (by simp only [mpn]; rfl) ?_; refine (impl_within.calls ht22.out).mono ?_; rintro _ wt22 ⟨rfl, HQ⟩; refine ⟨_, rfl, ?_⟩; replace HS := HS.call HQ; clear HQ; (try clear F); (try simp only [hpn, hpm] at HS); have F := HS.boxes; simp only [bxn] at F) | ((with_reducible refine gate_dst (N := 45) rfl ?_); refine gate_guard (by rfl) ?_; refine ev_call rfl Tryz.func187 (by kernel_rfl) rfl #[.slice Ap0 a0.f9.length cp0] rfl (by simp only [mpn]; rfl) ?_; refine (impl_PoliciesOk.calls ht25.out (HS.ro gp0) lp0).mono ?_; rintro _ wt25 ⟨rfl, HQ⟩; refine ⟨_, rfl, ?_⟩; replace HS := HS.call HQ; clear HQ; (try clear F); (try simp only [hpn, hpm] at HS); have F := HS.boxes; simp only [bxn] at F) | ((with_reducible refine gate_dst (N := 50) rfl ?_); refine gate_guard (by rfl) ?_; refine ev_call rfl Tryz.func188 (by kernel_rfl) rfl #[.slice Ap1 a0.f10.length cp1] rfl (by simp only [mpn]; rfl) ?_; refine (impl_NamesOk.calls ht28.out (HS.ro gp1) lp1 (HS.keepc hgM)).mono ?_; rintro _ wt28 ⟨rfl, HQ⟩; refine ⟨_, rfl, ?_⟩; replace HS := HS.call HQ; clear HQ; (try clear F); (try simp only [hpn, hpm] at HS); have F := HS.boxes; simp only [bxn] at F))
  go_ret
  exact ⟨rfl, HS.pick [] (by decide) (by rfl)⟩
 replace H := zpos c30 H
 subst c30
 replace H := zbind H; obtain ⟨t31, ht31, H⟩ := H
 by_cases c33 : t31 = true
 case pos =>
  replace H := zpos c33 H
  subst c33
  obtain rfl := zsome H
  go_wp2_with (first | ((with_reducible refine gate_dst (N := 1) rfl ?_); refine ev_box rfl HS (by first | (go_simp; done) | (go_simp; rfl)) rfl ?_; clear HS; (try clear F); intro g1 w1 HS; (try simp only [hpn, hpm] at HS); have F := HS.boxes; simp only [bxn] at F) | ((with_reducible refine gate_dst (N := 5) rfl ?_); refine ev_call rfl Tryz.func80 (by kernel_rfl) rfl #[.int .i64 a0.f0] rfl (by simp only [mpn]; rfl) ?_; refine (impl_timeOk.calls ht3.out).mono ?_; rintro _ wt3 ⟨rfl, HQ⟩; refine ⟨_, rfl, ?_⟩; replace HS := HS.call HQ; clear HQ; (try clear F); (try simp only [hpn, hpm] at HS); have F := HS.boxes; simp only [bxn] at F) | ((with_reducible refine gate_dst (N := 9) rfl ?_); refine gate_guard (by rfl) ?_; refine ev_call rfl Tryz.func80 (by kernel_rfl) rfl #[.int .i64 a0.f3] rfl (by simp only [mpn]; rfl) ?_; refine (impl_timeOk.calls ht6.out).mono ?_; rintro _ wt6 ⟨rfl, HQ⟩; refine ⟨_, rfl, ?_⟩; replace HS := HS.call HQ; clear HQ; (try clear F); (try simp only [hpn, hpm] at HS); have F := HS.boxes; simp only [bxn] at F) | ((with_reducible refine gate_dst (N := 14) rfl ?_); refine gate_guard (by rfl) ?_; refine ev_call rfl Tryz.func80 (by kernel_rfl) rfl #[.int .i64 a0.f4] rfl (by simp only [mpn]; rfl) ?_; refine (impl_timeOk.calls ht9.out).mono ?_; rintro _ wt9 ⟨rfl, HQ⟩; refine ⟨_, rfl, ?_⟩; replace HS := HS.call HQ; clear HQ; (try clear F); (try simp only [hpn, hpm] at HS); have F := HS.boxes; simp only [bxn] at F) | ((with_reducible refine gate_dst (N := 19) rfl ?_); refine gate_guard (by rfl) ?_; refine ev_call rfl Tryz.func62 (by kernel_rfl) rfl #[.string a0.f1] rfl (by simp only [mpn]; rfl) ?_; refine (impl_NameOk.calls ht12.out (HS.keepc hgM)).mono ?_; rintro _ wt12 ⟨rfl, HQ⟩; refine ⟨_, rfl, ?_⟩; replace HS := HS.call HQ; clear HQ; (try clear F); (try simp only [hpn, hpm] at HS); have F := HS.boxes; simp only [bxn] at F) | ((with_reducible refine gate_dst (N := 24) rfl ?_); refine gate_guard (by rfl) ?_; refine ev_call rfl Tryz.func62 (by kernel_rfl) rfl #[.string a0.f2] rfl (by simp only [mpn]; rfl) ?_; refine (impl_NameOk.calls ht15.out (HS.keepc hgM)).mono ?_; rintro _ wt15 ⟨rfl, HQ⟩; refine ⟨_, rfl, ?_⟩; replace HS := HS.call HQ; clear HQ; (try clear F); (try simp only [hpn, hpm] at HS); have F := HS.boxes; simp only [bxn] at F) | ((with_reducible refine gate_dst (N := 35) rfl ?_); refine gate_guard (by rfl) ?_; refine ev_call rfl Tryz.func79 (by kernel_rfl) rfl #[.int .i64 a0.f7, .int .i64 0, .int .i64 99] rfl (by simp only [mpn]; rfl) ?_; refine (impl_within.calls ht19.out).mono ?_; rintro _ wt19 ⟨rfl, HQ⟩; refine ⟨_, rfl, ?_⟩; replace HS := HS.call HQ; clear HQ; (try clear F); (try simp only [hpn, hpm] at HS); have F := HS.boxes; simp only [bxn] at F) | ((with_reducible refine gate_dst (N := 40) rfl ?_); refine gate_guard (by rfl) ?_; refine ev_call rfl Tryz.func79 (by kernel_rfl) rfl #[.int .i64 a0.f8, .int .i64 0, .int .i64 7] rfl (by simp only [mpn]; rfl) ?_; refine (impl_within.calls ht22.out).mono ?_; rintro _ wt22 ⟨rfl, HQ⟩; refine ⟨_, rfl, ?_⟩; replace HS := HS.call HQ; clear HQ; (try clear F); (try simp only [hpn, hpm] at HS); have F := HS.boxes; simp only [bxn] at F) | ((with_reducible refine gate_dst (N := 45) rfl ?_); refine gate_guard (by rfl) ?_; refine ev_call rfl Tryz.func187 (by kernel_rfl) rfl #[.slice Ap0 a0.f9.length cp0] rfl (by simp only [mpn]; rfl) ?_; refine (impl_PoliciesOk.calls ht25.out (HS.ro gp0) lp0).mono ?_; rintro _ wt25 ⟨rfl, HQ⟩; refine ⟨_, rfl, ?_⟩; replace HS := HS.call HQ; clear HQ; (try clear F); (try simp only [hpn, hpm] at HS); have F := HS.boxes; simp only [bxn] at F) | ((with_reducible refine gate_dst (N := 50) rfl ?_); refine gate_guard (by rfl) ?_; refine ev_call rfl Tryz.func188 (by kernel_rfl) rfl #[.slice Ap1 a0.f10.length cp1] rfl (by simp only [mpn]; rfl) ?_; refine (impl_NamesOk.calls ht28.out (HS.ro gp1) lp1 (HS.keepc hgM)).mono ?_; rintro _ wt28 ⟨rfl, HQ⟩; refine ⟨_, rfl, ?_⟩; replace HS := HS.call HQ; clear HQ; (try clear F); (try simp only [hpn, hpm] at HS); have F := HS.boxes; simp only [bxn] at F) | ((with_reducible refine gate_dst (N := 55) rfl ?_); refine gate_guard (by rfl) ?_; refine ev_call rfl Tryz.func188 (by kernel_rfl) rfl #[.slice Ap2 a0.f11.length cp2] rfl (by simp only [mpn]; rfl) ?_; refine (impl_NamesOk.calls ht31.out (HS.ro gp2) lp2 (HS.keepc hgM)).mono ?_; rintro _ wt31 ⟨rfl, HQ⟩; refine ⟨_, rfl, ?_⟩; replace HS := HS.call HQ; clear HQ; (try clear F); (try simp only [hpn, hpm] at HS); have F := HS.boxes; simp only [bxn] at F))
  go_ret
  exact ⟨rfl, HS.pick [] (by decide) (by rfl)⟩
 replace H := zneg c33 H
 replace c33 := eq_false_of_ne_true c33
 subst c33
 obtain rfl := zsome H
 go_wp2_with (first | ((with_reducible refine gate_dst (N := 1) rfl ?_); refine ev_box rfl HS (by first | (go_simp; done) | (go_simp; rfl)) rfl ?_; clear HS; (try clear F); intro g1 w1 HS; (try simp only [hpn, hpm] at HS); have F := HS.boxes; simp only [bxn] at F) | ((with_reducible refine gate_dst (N := 5) rfl ?_); refine ev_call rfl Tryz.func80 (by kernel_rfl) rfl #[.int .i64 a0.f0] rfl (by simp only [mpn]; rfl) ?_; refine (impl_timeOk.calls ht3.out).mono ?_; rintro _ wt3 ⟨rfl, HQ⟩; refine ⟨_, rfl, ?_⟩; replace HS := HS.call HQ; clear HQ; (try clear F); (try simp only [hpn, hpm] at HS); have F := HS.boxes; simp only [bxn] at F) | ((with_reducible refine gate_dst (N := 9) rfl ?_); refine gate_guard (by rfl) ?_; refine ev_call rfl Tryz.func80 (by kernel_rfl) rfl #[.int .i64 a0.f3] rfl (by simp only [mpn]; rfl) ?_; refine (impl_timeOk.calls ht6.out).mono ?_; rintro _ wt6 ⟨rfl, HQ⟩; refine ⟨_, rfl, ?_⟩; replace HS := HS.call HQ; clear HQ; (try clear F); (try simp only [hpn, hpm] at HS); have F := HS.boxes; simp only [bxn] at F) | ((with_reducible refine gate_dst (N := 14) rfl ?_); refine gate_guard (by rfl) ?_; refine ev_call rfl Tryz.func80 (by kernel_rfl) rfl #[.int .i64 a0.f4] rfl (by simp only [mpn]; rfl) ?_; refine (impl_timeOk.calls ht9.out).mono ?_; rintro _ wt9 ⟨rfl, HQ⟩; refine ⟨_, rfl, ?_⟩; replace HS := HS.call HQ; clear HQ; (try clear F); (try simp only [hpn, hpm] at HS); have F := HS.boxes; simp only [bxn] at F) | ((with_reducible refine gate_dst (N := 19) rfl ?_); refine gate_guard (by rfl) ?_; refine ev_call rfl Tryz.func62 (by kernel_rfl) rfl #[.string a0.f1] rfl (by simp only [mpn]; rfl) ?_; refine (impl_NameOk.calls ht12.out (HS.keepc hgM)).mono ?_; rintro _ wt12 ⟨rfl, HQ⟩; refine ⟨_, rfl, ?_⟩; replace HS := HS.call HQ; clear HQ; (try clear F); (try simp only [hpn, hpm] at HS); have F := HS.boxes; simp only [bxn] at F) | ((with_reducible refine gate_dst (N := 24) rfl ?_); refine gate_guard (by rfl) ?_; refine ev_call rfl Tryz.func62 (by kernel_rfl) rfl #[.string a0.f2] rfl (by simp only [mpn]; rfl) ?_; refine (impl_NameOk.calls ht15.out (HS.keepc hgM)).mono ?_; rintro _ wt15 ⟨rfl, HQ⟩; refine ⟨_, rfl, ?_⟩; replace HS := HS.call HQ; clear HQ; (try clear F); (try simp only [hpn, hpm] at HS); have F := HS.boxes; simp only [bxn] at F) | ((with_reducible refine gate_dst (N := 35) rfl ?_); refine gate_guard (by rfl) ?_; refine ev_call rfl Tryz.func79 (by kernel_rfl) rfl #[.int .i64 a0.f7, .int .i64 0, .int .i64 99] rfl (by simp only [mpn]; rfl) ?_; refine (impl_within.calls ht19.out).mono ?_; rintro _ wt19 ⟨rfl, HQ⟩; refine ⟨_, rfl, ?_⟩; replace HS := HS.call HQ; clear HQ; (try clear F); (try simp only [hpn, hpm] at HS); have F := HS.boxes; simp only [bxn] at F) | ((with_reducible refine gate_dst (N := 40) rfl ?_); refine gate_guard (by rfl) ?_; refine ev_call rfl Tryz.func79 (by kernel_rfl) rfl #[.int .i64 a0.f8, .int .i64 0, .int .i64 7] rfl (by simp only [mpn]; rfl) ?_; refine (impl_within.calls ht22.out).mono ?_; rintro _ wt22 ⟨rfl, HQ⟩; refine ⟨_, rfl, ?_⟩; replace HS := HS.call HQ; clear HQ; (try clear F); (try simp only [hpn, hpm] at HS); have F := HS.boxes; simp only [bxn] at F) | ((with_reducible refine gate_dst (N := 45) rfl ?_); refine gate_guard (by rfl) ?_; refine ev_call rfl Tryz.func187 (by kernel_rfl) rfl #[.slice Ap0 a0.f9.length cp0] rfl (by simp only [mpn]; rfl) ?_; refine (impl_PoliciesOk.calls ht25.out (HS.ro gp0) lp0).mono ?_; rintro _ wt25 ⟨rfl, HQ⟩; refine ⟨_, rfl, ?_⟩; replace HS := HS.call HQ; clear HQ; (try clear F); (try simp only [hpn, hpm] at HS); have F := HS.boxes; simp only [bxn] at F) | ((with_reducible refine gate_dst (N := 50) rfl ?_); refine gate_guard (by rfl) ?_; refine ev_call rfl Tryz.func188 (by kernel_rfl) rfl #[.slice Ap1 a0.f10.length cp1] rfl (by simp only [mpn]; rfl) ?_; refine (impl_NamesOk.calls ht28.out (HS.ro gp1) lp1 (HS.keepc hgM)).mono ?_; rintro _ wt28 ⟨rfl, HQ⟩; refine ⟨_, rfl, ?_⟩; replace HS := HS.call HQ; clear HQ; (try clear F); (try simp only [hpn, hpm] at HS); have F := HS.boxes; simp only [bxn] at F) | ((with_reducible refine gate_dst (N := 55) rfl ?_); refine gate_guard (by rfl) ?_; refine ev_call rfl Tryz.func188 (by kernel_rfl) rfl #[.slice Ap2 a0.f11.length cp2] rfl (by simp only [mpn]; rfl) ?_; refine (impl_NamesOk.calls ht31.out (HS.ro gp2) lp2 (HS.keepc hgM)).mono ?_; rintro _ wt31 ⟨rfl, HQ⟩; refine ⟨_, rfl, ?_⟩; replace HS := HS.call HQ; clear HQ; (try clear F); (try simp only [hpn, hpm] at HS); have F := HS.boxes; simp only [bxn] at F))
 go_ret
 exact ⟨rfl, HS.pick [] (by decide) (by rfl)⟩
end Go.Proofs.YtacocpknielofaaGreatDoor.F
