/- Functions of the program and of the law, and that their calls do what is written here. -/
import Derived.Test.YtnpokacipeobdaaDoorZT
namespace Go.Proofs.YtnpokacipeobdaaDoor.F
open Go.RowKit Go.Proofs.YtnpokacipeobdaaDoorW.PrintWords Go.Proofs.YtnpokacipeobdaaDoorW.PrintLast Go.Proofs.YtnpokacipeobdaaDoorW.PrintMore Go.Proofs.YtnpokacipeobdaaDoor.Z
attribute [local go_sem] max2_int min2_int max_two min_two max_three min_three max_four min_four
set_option linter.unusedVariables false
set_option linter.unusedSimpArgs false
set_option maxRecDepth 100000
/-! ### laws_toRev: function 69 -/
def laws_toRev.f (a0 : S107) : Option (S74) := (some (⟨a0.f0, a0.f1⟩ : S74))
set_option maxHeartbeats 16000000 in
theorem laws_toRev.calls {a0 : S107} {r : S74} {w : World} (h : laws_toRev.f a0 = some r) :
    Calls Tryd.prog 69 #[.agg #[.int .i64 a0.f0, .int .i64 a0.f1]] w (fun e w' => e = .returned (.agg #[.int .i64 r.f0, .int .i64 r.f1]) ∧ Hp noFP w w' []) := by
 have HS := Hp.start w
 have H := Aside0.mk h
 clear h
 unfold laws_toRev.f at H
 go_enter Tryd.func69, Tryd.ntmps69
 obtain rfl := zsome H
 go_wp2_with (first | ((with_reducible refine gate_dst (N := 1) rfl ?_); refine ev_box rfl HS (by first | (go_simp; done) | (go_simp; rfl)) rfl ?_; clear HS; (try clear F); intro g1 w1 HS; (try simp only [hpn, hpm] at HS); have F := HS.boxes; simp only [bxn] at F) | ((with_reducible refine gate_dst (N := 2) rfl ?_); refine ev_box rfl HS (by first | (go_simp; done) | (go_simp; rfl)) rfl ?_; clear HS; (try clear F); intro g2 w2 HS; (try simp only [hpn, hpm] at HS); have F := HS.boxes; simp only [bxn] at F) | ((with_reducible refine gate_dst (N := 3) rfl ?_); refine ev_box rfl HS (by first | (go_simp; done) | (go_simp; rfl)) rfl ?_; clear HS; (try clear F); intro g3 w3 HS; (try simp only [hpn, hpm] at HS); have F := HS.boxes; simp only [bxn] at F) | ((with_reducible refine gate_store (p := 6) rfl ?_); refine ev_store rfl 2 0 HS (seg := [.int .i64 a0.f0]) rfl rfl rfl rfl rfl rfl (by kernel_rfl) (by simp [wrt]) (by simp [Value.oneCell']) ?_; clear HS; (try clear F); intro w7 HS; (try simp only [hpn, hpm] at HS); have F := HS.boxes; simp only [bxn] at F) | ((with_reducible refine gate_store (p := 9) rfl ?_); refine ev_store rfl 2 1 HS (seg := [.int .i64 a0.f1]) rfl rfl rfl rfl rfl rfl (by kernel_rfl) (by simp [wrt]) (by simp [Value.oneCell']) ?_; clear HS; (try clear F); intro w9 HS; (try simp only [hpn, hpm] at HS); have F := HS.boxes; simp only [bxn] at F) | ((with_reducible refine gate_store (p := 2) rfl ?_); refine ev_store rfl 1 0 HS (seg := [.int .i64 a0.f0, .int .i64 a0.f1]) rfl rfl rfl rfl rfl rfl (by kernel_rfl) (by simp [wrt]) (by simp [Value.oneCell']) ?_; clear HS; (try clear F); intro w11 HS; (try simp only [hpn, hpm] at HS); have F := HS.boxes; simp only [bxn] at F))
 exact bodyPost_ret (results_single rfl (.cell _ _ _ _ _ rfl (HS.boxAt (i := 1) rfl) Tryd.underlying74 rfl (by kernel_rfl) .nil)) rfl ⟨rfl, HS.pick [] (by decide) (by rfl)⟩
/-! ### laws_toRevS: function 34 -/
def laws_toRevS.l0 : Nat → (List S74) → Int → (List S107) → Option ((List S74))
  | 0, _, _, _ => none
  | k + 1, l20, x22, a0 => (if x22 < (a0.length : Int) then (if 0 ≤ x22 then (if x22 < (a0.length : Int) then ((laws_toRev.f (rd_T107 a0 x22)).bind fun t28 => (laws_toRevS.l0 k (l20.set (x22).toNat t28) (wrap64 (x22 + 1)) a0)) else none) else none) else (some l20))
def laws_toRevS.f (k : Nat) (a0 : (List S107)) : Option ((List S74)) := (if 0 ≤ (a0.length : Int) then (if ((a0.length : Int)).toNat ≤ 17592186044416 then (laws_toRevS.l0 k (List.replicate a0.length z74) 0 a0) else none) else none)
set_option maxHeartbeats 16000000 in
theorem laws_toRevS.calls {k : Nat} {a0 : (List S107)} {Ap0 : Option Addr} {np0 cp0 : Nat} {r : (List S74)} {w : World} (h : laws_toRevS.f k a0 = some r) (gp0 : k107.C w Ap0 np0 a0) (lp0 : np0 ≤ cp0) :
    Calls Tryd.prog 34 #[.slice Ap0 np0 cp0] w (fun e w' => ∃ v0_ : Value, e = .returned (v0_) ∧ Hp noFP w w' [.own (Zd.slice 74 q74) r [v0_]]) := by
 obtain rfl := C_len gp0
 have HS := Hp.start w
 have H := Aside0.mk h
 clear h
 unfold laws_toRevS.f at H
 go_enter Tryd.func34, Tryd.ntmps34
 by_cases c1 : 0 ≤ (a0.length : Int)
 case neg => exact zno c1 H
 replace H := zpos c1 H
 replace c1 := eq_true c1
 by_cases c2 : ((a0.length : Int)).toNat ≤ 17592186044416
 case neg => exact zno c2 H
 replace H := zpos c2 H
 replace c2 := eq_true c2
 go_wp2_with (first | ((with_reducible refine gate_dst (N := 7) rfl ?_); refine ev_make rfl q74 z74 HS rfl (a0.length : Int) rfl rfl Tryd.underlying27 info74 rfl (by decide) (by decide) q74_zero (of_eq_true c1) (by have := of_eq_true c2; omega) ?_; clear HS; (try clear F); intro v3 w3 HS; obtain ⟨B3, d3, rfl, m3⟩ := HS.formn a0.length 0 rfl (by first | rfl | simp); (try simp only [hpn, hpm] at HS)))
 go_loopg [4] k (fun kq v_4 w' => ∃ (l20 : List S74) (x22 : Int), v_4 = .int .i64 x22 ∧ Aside0 (laws_toRevS.l0 kq l20 x22 a0 = some r) ∧ Aside0 (kq ≤ k) ∧ Hp noFP w w' [.own (Zd.slice 74 q74) l20 [.slice B3 a0.length d3]])
 case atStart => exact ⟨_, _, rfl, H, ⟨Nat.le_refl _⟩, HS⟩
 case round =>
  clear HS H; (try clear F)
  obtain ⟨l20, x22, rfl, H, HKk19, HS⟩ := hrel
  cases gk with
  | zero => exact absurd H.out (by simp [laws_toRevS.l0])
  | succ k19 =>
   simp only [laws_toRevS.l0] at H
   by_cases c24 : x22 < (a0.length : Int)
   case neg =>
    replace H := zneg c24 H
    replace c24 := eq_false c24
    obtain rfl := zsome H
    go_wp2
    exact bodyPost_ret (results_single rfl (.tmp .nil)) rfl ⟨_, rfl, HS.pick [0] (by decide) (by rfl)⟩
   replace H := zpos c24 H
   replace c24 := eq_true c24
   by_cases c25 : 0 ≤ x22
   case neg => exact zno c25 H
   replace H := zpos c25 H
   replace c25 := eq_true c25
   by_cases c26 : x22 < (a0.length : Int)
   case neg => exact zno c26 H
   replace H := zpos c26 H
   replace c26 := eq_true c26
   obtain ⟨ad27, rfl, e27_0, e27_1⟩ := at_T107 gp0 x22 (of_eq_true c25) (of_eq_true c26)
   have e27_0_27 := (HS.keepc e27_0)
   have e27_1_27 := (HS.keepc e27_1)
   replace H := zbind H; obtain ⟨t28, ht28, H⟩ := H
   go_wp2_with (first | ((with_reducible refine gate_dst (N := 20) rfl ?_); refine ev_call rfl Tryd.func69 (by kernel_rfl) rfl #[.agg #[.int .i64 ((rd_T107 a0 x22).f0), .int .i64 ((rd_T107 a0 x22).f1)]] rfl (by simp only [mpn]; rfl) ?_; refine (laws_toRev.calls ht28.out).mono ?_; rintro _ wt28 ⟨rfl, HQ⟩; refine ⟨_, rfl, ?_⟩; replace HS := HS.call HQ; clear HQ; (try clear F); (try simp only [hpn, hpm] at HS); obtain ⟨ad30, rfl, e30_0, e30_1⟩ := at_T74 (HS.rd 0 rfl) x22 (of_eq_true c25) (of_eq_true c26)) | ((with_reducible refine gate_store (p := 21) rfl ?_); refine ev_set rfl q74 0 [] x22 t28 HS (seg := [.int .i64 t28.f0, .int .i64 t28.f1]) rfl (by decide) rfl rfl rfl (by first | rfl | exact (Nat.mul_one _).symm) rfl rfl (by kernel_rfl) (by simp [Value.oneCell']) ⟨of_eq_true c25, of_eq_true c26⟩ rfl (made_flat (fun _ => q74_flat _ _ _)) ?_; clear HS; (try clear F); intro w31 HS; (try simp only [hpn, hpm] at HS)))
   go_roundg k19
   case measure => have := HKk19.out; omega
   case rel => exact ⟨_, _, rfl, H, ⟨by have := HKk19.out; omega⟩, HS.pick [0] (by decide) (by rfl)⟩
/-! ### laws_toCrl: function 10 -/
def laws_toCrl.f (k : Nat) (a0 : S24) : Option (S29) := ((laws_toRevS.f k a0.f5).bind fun t17 => (some (⟨a0.f0, a0.f1, a0.f2, a0.f3, a0.f4, t17, a0.f6⟩ : S29)))
set_option maxHeartbeats 16000000 in
theorem laws_toCrl.calls {k : Nat} {a0 : S24} {Ap0 : Option Addr} {np0 cp0 : Nat} {r : S29} {w : World} (h : laws_toCrl.f k a0 = some r) (gp0 : k107.C w Ap0 np0 a0.f5) (lp0 : np0 ≤ cp0) :
    Calls Tryd.prog 10 #[.agg #[.string a0.f0, .int .i64 a0.f1, .int .i64 a0.f2, .int .i64 a0.f3, .int .i64 a0.f4, .slice Ap0 np0 cp0, .string a0.f6]] w (fun e w' => ∃ v0_ : Value, e = .returned (.agg #[.string r.f0, .int .i64 r.f1, .int .i64 r.f2, .int .i64 r.f3, .int .i64 r.f4, v0_, .string r.f6]) ∧ Hp noFP w w' [.own (Zd.slice 74 q74) r.f5 [v0_]]) := by
 obtain rfl := C_len gp0
 have HS := Hp.start w
 have H := Aside0.mk h
 clear h
 unfold laws_toCrl.f at H
 go_enter Tryd.func10, Tryd.ntmps10
 replace H := zbind H; obtain ⟨t17, ht17, H⟩ := H
 obtain rfl := zsome H
 go_wp2_with (first | ((with_reducible refine gate_dst (N := 1) rfl ?_); refine ev_box rfl HS (by first | (go_simp; done) | (go_simp; rfl)) rfl ?_; clear HS; (try clear F); intro g1 w1 HS; (try simp only [hpn, hpm] at HS); have F := HS.boxes; simp only [bxn] at F) | ((with_reducible refine gate_dst (N := 2) rfl ?_); refine ev_box rfl HS (by first | (go_simp; done) | (go_simp; rfl)) rfl ?_; clear HS; (try clear F); intro g2 w2 HS; (try simp only [hpn, hpm] at HS); have F := HS.boxes; simp only [bxn] at F) | ((with_reducible refine gate_dst (N := 3) rfl ?_); refine ev_box rfl HS (by first | (go_simp; done) | (go_simp; rfl)) rfl ?_; clear HS; (try clear F); intro g3 w3 HS; (try simp only [hpn, hpm] at HS); have F := HS.boxes; simp only [bxn] at F) | ((with_reducible refine gate_store (p := 6) rfl ?_); refine ev_store rfl 2 0 HS (seg := [.string a0.f0]) rfl rfl rfl rfl rfl rfl (by kernel_rfl) (by simp [wrt]) (by simp [Value.oneCell']) ?_; clear HS; (try clear F); intro w7 HS; (try simp only [hpn, hpm] at HS); have F := HS.boxes; simp only [bxn] at F) | ((with_reducible refine gate_store (p := 9) rfl ?_); refine ev_store rfl 2 1 HS (seg := [.int .i64 a0.f1]) rfl rfl rfl rfl rfl rfl (by kernel_rfl) (by simp [wrt]) (by simp [Value.oneCell']) ?_; clear HS; (try clear F); intro w9 HS; (try simp only [hpn, hpm] at HS); have F := HS.boxes; simp only [bxn] at F) | ((with_reducible refine gate_store (p := 12) rfl ?_); refine ev_store rfl 2 2 HS (seg := [.int .i64 a0.f2]) rfl rfl rfl rfl rfl rfl (by kernel_rfl) (by simp [wrt]) (by simp [Value.oneCell']) ?_; clear HS; (try clear F); intro w11 HS; (try simp only [hpn, hpm] at HS); have F := HS.boxes; simp only [bxn] at F) | ((with_reducible refine gate_store (p := 15) rfl ?_); refine ev_store rfl 2 3 HS (seg := [.int .i64 a0.f3]) rfl rfl rfl rfl rfl rfl (by kernel_rfl) (by simp [wrt]) (by simp [Value.oneCell']) ?_; clear HS; (try clear F); intro w13 HS; (try simp only [hpn, hpm] at HS); have F := HS.boxes; simp only [bxn] at F) | ((with_reducible refine gate_store (p := 18) rfl ?_); refine ev_store rfl 2 4 HS (seg := [.int .i64 a0.f4]) rfl rfl rfl rfl rfl rfl (by kernel_rfl) (by simp [wrt]) (by simp [Value.oneCell']) ?_; clear HS; (try clear F); intro w15 HS; (try simp only [hpn, hpm] at HS); have F := HS.boxes; simp only [bxn] at F) | ((with_reducible refine gate_dst (N := 21) rfl ?_); refine ev_call rfl Tryd.func34 (by kernel_rfl) rfl #[.slice Ap0 a0.f5.length cp0] rfl (by simp only [mpn]; rfl) ?_; refine (laws_toRevS.calls ht17.out (HS.ro gp0) lp0).mono ?_; rintro _ wt17 ⟨v18, rfl, HQ⟩; refine ⟨_, rfl, ?_⟩; replace HS := HS.call HQ; clear HQ; (try clear F); obtain ⟨B18, d18, rfl, m18⟩ := HS.form 3 rfl; (try simp only [hpn, hpm] at HS); have F := HS.boxes; simp only [bxn] at F) | ((with_reducible refine gate_store (p := 22) rfl ?_); refine ev_store rfl 2 5 HS (seg := [.slice B18 t17.length d18]) rfl rfl rfl rfl rfl rfl (by kernel_rfl) (by simp [wrt]) (by simp [Value.oneCell']) ?_; clear HS; (try clear F); intro w20 HS; (try simp only [hpn, hpm] at HS); have F := HS.boxes; simp only [bxn] at F) | ((with_reducible refine gate_store (p := 25) rfl ?_); refine ev_store rfl 2 6 HS (seg := [.string a0.f6]) rfl rfl rfl rfl rfl rfl (by kernel_rfl) (by simp [wrt]) (by simp [Value.oneCell']) ?_; clear HS; (try clear F); intro w22 HS; (try simp only [hpn, hpm] at HS); have F := HS.boxes; simp only [bxn] at F) | ((with_reducible refine gate_store (p := 2) rfl ?_); refine ev_store rfl 1 0 HS (seg := [.string a0.f0, .int .i64 a0.f1, .int .i64 a0.f2, .int .i64 a0.f3, .int .i64 a0.f4, .slice B18 t17.length d18, .string a0.f6]) rfl rfl rfl rfl rfl rfl (by kernel_rfl) (by simp [wrt]) (by simp [Value.oneCell']) ?_; clear HS; (try clear F); intro w24 HS; (try simp only [hpn, hpm] at HS); have F := HS.boxes; simp only [bxn] at F))
 exact bodyPost_ret (results_single rfl (.cell _ _ _ _ _ rfl (HS.boxAt (i := 1) rfl) Tryd.underlying29 rfl (by kernel_rfl) .nil)) rfl ⟨_, rfl, HS.pick [3] (by decide) (by rfl)⟩
/-! ### impl_within: function 36 -/
def impl_within.f (a0 : Int) (a1 : Int) (a2 : Int) : Option (Bool) := (if a1 ≤ a0 then (some (decide (a0 ≤ a2))) else (some false))
set_option maxHeartbeats 16000000 in
theorem impl_within.calls {a0 : Int} {a1 : Int} {a2 : Int} {r : Bool} {w : World} (h : impl_within.f a0 a1 a2 = some r) :
    Calls Tryd.prog 36 #[.int .i64 a0, .int .i64 a1, .int .i64 a2] w (fun e w' => e = .returned (.bool r) ∧ Hp noFP w w' []) := by
 have HS := Hp.start w
 have H := Aside0.mk h
 clear h
 unfold impl_within.f at H
 go_enter Tryd.func36, Tryd.ntmps36
 by_cases c1 : a1 ≤ a0
 case pos =>
  replace H := zpos c1 H
  replace c1 := eq_true c1
  obtain rfl := zsome H
  go_wp2
  go_ret
  exact ⟨rfl, HS.pick [] (by decide) (by rfl)⟩
 replace H := zneg c1 H
 replace c1 := eq_false c1
 obtain rfl := zsome H
 go_wp2
 go_ret
 exact ⟨rfl, HS.pick [] (by decide) (by rfl)⟩
/-! ### impl_bytesIn: function 71 -/
def impl_bytesIn.l0 : Nat → Int → ByteArray → Int → Int → Option (Bool)
  | 0, _, _, _, _ => none
  | k + 1, x4, a0, a1, a2 => (if x4 < (a0.size : Int) then (if 0 ≤ x4 then (if x4 < (a0.size : Int) then ((impl_within.f (wrap64 (bt a0 x4)) a1 a2).bind fun t10 => (if t10 = true then (impl_bytesIn.l0 k (wrap64 (x4 + 1)) a0 a1 a2) else (some false))) else none) else none) else (some true))
def impl_bytesIn.f (k : Nat) (a0 : ByteArray) (a1 : Int) (a2 : Int) : Option (Bool) := (impl_bytesIn.l0 k 0 a0 a1 a2)
set_option maxHeartbeats 16000000 in
theorem impl_bytesIn.calls {k : Nat} {a0 : ByteArray} {a1 : Int} {a2 : Int} {r : Bool} {w : World} (h : impl_bytesIn.f k a0 a1 a2 = some r) :
    Calls Tryd.prog 71 #[.string a0, .int .i64 a1, .int .i64 a2] w (fun e w' => e = .returned (.bool r) ∧ Hp noFP w w' []) := by
 have HS := Hp.start w
 have H := Aside0.mk h
 clear h
 unfold impl_bytesIn.f at H
 go_enter Tryd.func71, Tryd.ntmps71
 go_wp2
 go_loopg [7] k (fun kq v_7 w' => ∃ (x4 : Int), v_7 = .int .i64 x4 ∧ Aside0 (impl_bytesIn.l0 kq x4 a0 a1 a2 = some r) ∧ Aside0 (kq ≤ k) ∧ Hp noFP w w' [])
 case atStart => exact ⟨_, rfl, H, ⟨Nat.le_refl _⟩, HS⟩
 case round =>
  clear HS H; (try clear F)
  obtain ⟨x4, rfl, H, HKk3, HS⟩ := hrel
  cases gk with
  | zero => exact absurd H.out (by simp [impl_bytesIn.l0])
  | succ k3 =>
   simp only [impl_bytesIn.l0] at H
   by_cases c6 : x4 < (a0.size : Int)
   case neg =>
    replace H := zneg c6 H
    replace c6 := eq_false c6
    obtain rfl := zsome H
    go_wp2
    go_ret
    exact ⟨rfl, HS.pick [] (by decide) (by rfl)⟩
   replace H := zpos c6 H
   replace c6 := eq_true c6
   by_cases c7 : 0 ≤ x4
   case neg => exact zno c7 H
   replace H := zpos c7 H
   replace c7 := eq_true c7
   by_cases c8 : x4 < (a0.size : Int)
   case neg => exact zno c8 H
   replace H := zpos c8 H
   replace c8 := eq_true c8
   have hx9 := bt_at a0 x4
   replace H := zbind H; obtain ⟨t10, ht10, H⟩ := H
   go_upto_if 21 with (first | ((with_reducible refine gate_dst (N := 20) rfl ?_); refine ev_call rfl Tryd.func36 (by kernel_rfl) rfl #[.int .i64 (wrap64 (bt a0 x4)), .int .i64 a1, .int .i64 a2] rfl (by simp only [mpn]; rfl) ?_; refine (impl_within.calls ht10.out).mono ?_; rintro _ wt10 ⟨rfl, HQ⟩; refine ⟨_, rfl, ?_⟩; replace HS := HS.call HQ; clear HQ; (try clear F); (try simp only [hpn, hpm] at HS)))
   by_cases c12 : t10 = true
   case neg =>
    replace H := zneg c12 H
    replace c12 := eq_false_of_ne_true c12
    subst c12
    (try simp only [dcn, if_true, Bool.false_eq_true, if_false])
    obtain rfl := zsome H
    go_wp2
    go_ret
    exact ⟨rfl, HS.pick [] (by decide) (by rfl)⟩
   replace H := zpos c12 H
   subst c12
   (try simp only [dcn, if_true, Bool.false_eq_true, if_false])
   go_wp2
   go_roundg k3
   case measure => have := HKk3.out; omega
   case rel => exact ⟨_, rfl, H, ⟨by have := HKk3.out; omega⟩, HS.pick [] (by decide) (by rfl)⟩
/-! ### impl_NameOk: function 35 -/
def impl_NameOk.l0 : Nat → Int → ByteArray → (List ByteArray) → Option (Bool)
  | 0, _, _, _ => none
  | k + 1, x7, a0, t1 => (if x7 < (t1.length : Int) then (if 0 ≤ x7 then (if x7 < (t1.length : Int) then (if (rdOf ByteArray.empty t1 x7).toList = ([] : List UInt8) then (some false) else ((impl_bytesIn.f k (rdOf ByteArray.empty t1 x7) 97 122).bind fun t14 => (if t14 = true then (impl_NameOk.l0 k (wrap64 (x7 + 1)) a0 t1) else (some false)))) else none) else none) else (some (decide ((a0.size : Int) ≤ 20))))
def impl_NameOk.f (k : Nat) (a0 : ByteArray) : Option (Bool) := ((strings_Split.f a0 (⟨#[46]⟩ : ByteArray)).bind fun t1 => (impl_NameOk.l0 k 0 a0 t1))
set_option maxHeartbeats 16000000 in
theorem impl_NameOk.calls {k : Nat} {a0 : ByteArray} {mG : Int} {r : Bool} {w : World} (h : impl_NameOk.f k a0 = some r) (hgM : w.cell? ⟨0, 0, none⟩ = some (.int .i64 mG)) :
    Calls Tryd.prog 35 #[.string a0] w (fun e w' => e = .returned (.bool r) ∧ Hp noFP w w' []) := by
 have HS := Hp.start w
 have H := Aside0.mk h
 clear h
 unfold impl_NameOk.f at H
 go_enter Tryd.func35, Tryd.ntmps35
 replace H := zbind H; obtain ⟨t1, ht1, H⟩ := H
 go_wp2_with (first | ((with_reducible refine gate_dst (N := 6) rfl ?_); refine ev_call rfl Tryd.func70 (by kernel_rfl) rfl #[.string a0, .string (⟨#[46]⟩ : ByteArray)] rfl (by simp only [mpn]; rfl) ?_; refine (strings_Split.calls ht1.out (HS.keepc hgM)).mono ?_; rintro _ wt1 ⟨v2, rfl, HQ⟩; refine ⟨_, rfl, ?_⟩; replace HS := HS.call HQ; clear HQ; (try clear F); obtain ⟨B2, d2, rfl, m2⟩ := HS.form 0 rfl; (try simp only [hpn, hpm] at HS)))
 go_loopg [8] k (fun kq v_8 w' => ∃ (x7 : Int), v_8 = .int .i64 x7 ∧ Aside0 (impl_NameOk.l0 kq x7 a0 t1 = some r) ∧ Aside0 (kq ≤ k) ∧ Hp noFP w w' [.own (Zd.slice 9 Zd.string) t1 [.slice B2 t1.length d2]])
 case atStart => exact ⟨_, rfl, H, ⟨Nat.le_refl _⟩, HS⟩
 case round =>
  clear HS H; (try clear F)
  obtain ⟨x7, rfl, H, HKk6, HS⟩ := hrel
  cases gk with
  | zero => exact absurd H.out (by simp [impl_NameOk.l0])
  | succ k6 =>
   simp only [impl_NameOk.l0] at H
   by_cases c9 : x7 < (t1.length : Int)
   case neg =>
    replace H := zneg c9 H
    replace c9 := eq_false c9
    obtain rfl := zsome H
    go_wp2
    go_ret
    exact ⟨rfl, HS.pick [] (by decide) (by rfl)⟩
   replace H := zpos c9 H
   replace c9 := eq_true c9
   by_cases c10 : 0 ≤ x7
   case neg => exact zno c10 H
   replace H := zpos c10 H
   replace c10 := eq_true c10
   by_cases c11 : x7 < (t1.length : Int)
   case neg => exact zno c11 H
   replace H := zpos c11 H
   replace c11 := eq_true c11
   obtain ⟨ad12, rfl, e12_0⟩ := Kd.at_string (HS.rd 0 rfl) x7 (of_eq_true c10) (of_eq_true c11)
   by_cases c13 : (rdOf ByteArray.empty t1 x7).toList = ([] : List UInt8)
   case pos =>
    replace H := zpos c13 H
    have c13a := beq_iff_eq.mpr c13
    have c13b := bne_eq_false_iff_eq.mpr c13
    have c13e := List.isEmpty_iff.mpr c13
    clear c13
    obtain rfl := zsome H
    go_wp2
    go_ret
    exact ⟨rfl, HS.pick [] (by decide) (by rfl)⟩
   replace H := zneg c13 H
   have c13a := beq_eq_false_iff_ne.mpr c13
   have c13b := bne_iff_ne.mpr c13
   have c13e := List.isEmpty_eq_false_iff.mpr c13
   clear c13
   replace H := zbind H; obtain ⟨t14, ht14, H⟩ := H
   go_upto_if 18 with (first | ((with_reducible refine gate_dst (N := 16) rfl ?_); refine gate_guard (by rfl) ?_; refine ev_call rfl Tryd.func71 (by kernel_rfl) rfl #[.string (rdOf ByteArray.empty t1 x7), .int .i64 97, .int .i64 122] rfl (by simp only [mpn]; rfl) ?_; refine (impl_bytesIn.calls ht14.out).mono ?_; rintro _ wt14 ⟨rfl, HQ⟩; refine ⟨_, rfl, ?_⟩; replace HS := HS.call HQ; clear HQ; (try clear F); (try simp only [hpn, hpm] at HS)))
   by_cases c16 : t14 = true
   case neg =>
    replace H := zneg c16 H
    replace c16 := eq_false_of_ne_true c16
    subst c16
    (try simp only [dcn, if_true, Bool.false_eq_true, if_false])
    obtain rfl := zsome H
    go_wp2
    go_ret
    exact ⟨rfl, HS.pick [] (by decide) (by rfl)⟩
   replace H := zpos c16 H
   subst c16
   (try simp only [dcn, if_true, Bool.false_eq_true, if_false])
   go_wp2
   go_roundg k6
   case measure => have := HKk6.out; omega
   case rel => exact ⟨_, rfl, H, ⟨by have := HKk6.out; omega⟩, HS.pick [0] (by decide) (by rfl)⟩
/-! ### impl_timeOk: function 37 -/
def impl_timeOk.f (a0 : Int) : Option (Bool) := ((impl_within.f a0 0 9999).bind fun t1 => (some t1))
set_option maxHeartbeats 16000000 in
theorem impl_timeOk.calls {a0 : Int} {r : Bool} {w : World} (h : impl_timeOk.f a0 = some r) :
    Calls Tryd.prog 37 #[.int .i64 a0] w (fun e w' => e = .returned (.bool r) ∧ Hp noFP w w' []) := by
 have HS := Hp.start w
 have H := Aside0.mk h
 clear h
 unfold impl_timeOk.f at H
 go_enter Tryd.func37, Tryd.ntmps37
 replace H := zbind H; obtain ⟨t1, ht1, H⟩ := H
 obtain rfl := zsome H
 go_wp2_with (first | ((with_reducible refine gate_dst (N := 4) rfl ?_); refine ev_call rfl Tryd.func36 (by kernel_rfl) rfl #[.int .i64 a0, .int .i64 0, .int .i64 9999] rfl (by simp only [mpn]; rfl) ?_; refine (impl_within.calls ht1.out).mono ?_; rintro _ wt1 ⟨rfl, HQ⟩; refine ⟨_, rfl, ?_⟩; replace HS := HS.call HQ; clear HQ; (try clear F); (try simp only [hpn, hpm] at HS)))
 go_ret
 exact ⟨rfl, HS.pick [] (by decide) (by rfl)⟩
end Go.Proofs.YtnpokacipeobdaaDoor.F
