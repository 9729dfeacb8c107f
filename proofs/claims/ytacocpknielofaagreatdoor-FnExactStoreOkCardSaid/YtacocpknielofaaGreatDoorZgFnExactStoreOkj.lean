/- Functions of the program and of the law, and that their calls do what is written here. -/
import Derived.Test.YtacocpknielofaaGreatDoorZgFnExactStoreOkh
import Derived.Test.YtacocpknielofaaGreatDoorZgFnExactStoreOki
namespace Go.Proofs.YtacocpknielofaaGreatDoor.F
open Go.RowKit Go.Proofs.YtacocpknielofaaGreatDoorW.PrintWords Go.Proofs.YtacocpknielofaaGreatDoorW.PrintLast Go.Proofs.YtacocpknielofaaGreatDoorW.PrintMore Go.Proofs.YtacocpknielofaaGreatDoor.Z
attribute [local go_sem] max2_int min2_int max_two min_two max_three min_three max_four min_four
set_option linter.unusedVariables false
set_option linter.unusedSimpArgs false
set_option maxRecDepth 100000
/-! ### impl_itemOk: function 227 -/
mutual
def impl_itemOk.l0 : Nat → Int → S182 → Int → Option (Bool)
  | 0, _, _, _ => none
  | k + 1, x10, a0, a1 => (if x10 < (a0.f2.length : Int) then (if 0 ≤ x10 then (if x10 < (a0.f2.length : Int) then ((impl_itemOk.f k (rd_T182 a0.f2 x10) (wrap64 (a1 + 1))).bind fun t20 => (if t20 = true then (impl_itemOk.l0 k (wrap64 (x10 + 1)) a0 a1) else (some false))) else none) else none) else (some true))
def impl_itemOk.f : Nat → S182 → Int → Option (Bool)
  | 0, _, _ => none
  | k + 1, a0, a1 => (if a0.f0 = 48 then (if a0.f1.toList = ([] : List UInt8) then (if 40 < (a0.f2.length : Int) then (some false) else (if 6 ≤ a1 then (some false) else (impl_itemOk.l0 k 0 a0 a1))) else (some false)) else (if 0 < (a0.f2.length : Int) then (some false) else (if a0.f0 = 1 then (if a0.f1.toList = ([0] : List UInt8) then (some true) else (some (a0.f1.toList == ([255] : List UInt8)))) else (if a0.f0 = 2 then ((impl_within.f (a0.f1.size : Int) 1 5).bind fun t27 => (if t27 = true then (if 0 < (a0.f1.size : Int) then (if (bt a0.f1 0) < 128 then (if (bt a0.f1 0) = 0 then (if (a0.f1.size : Int) = 1 then (some true) else (if 1 < (a0.f1.size : Int) then (some (decide (128 ≤ (bt a0.f1 1)))) else none)) else (some true)) else (some false)) else none) else (some false))) else (if a0.f0 = 4 then (some true) else (if a0.f0 = 12 then ((impl_bytesIn.f k a0.f1 32 126).bind fun t43 => (some t43)) else (some false)))))))
end
set_option maxHeartbeats 16000000 in
theorem impl_itemOk.calls_ (K : Nat) : ∀ {k : Nat} (hK : k ≤ K) {a0 : S182} {a1 : Int} {Ap0 : Option Addr} {np0 cp0 : Nat} {r : Bool} {w : World} (h : impl_itemOk.f k a0 a1 = some r) (gp0 : k182.C w Ap0 np0 a0.f2) (lp0 : np0 ≤ cp0),
    Calls Tryz.prog 227 #[.agg #[.int .i64 a0.f0, .string a0.f1, .slice Ap0 np0 cp0], .int .i64 a1] w (fun e w' => e = .returned (.bool r) ∧ Hp noFP w w' []) := by
  induction K with
  | zero =>
    intro k hK a0 a1 Ap0 np0 cp0 r w h gp0 lp0
    obtain rfl : k = 0 := by omega
    exact absurd h (by simp [impl_itemOk.f])
  | succ K IH =>
    intro k hK a0 a1 Ap0 np0 cp0 r w h gp0 lp0
    cases k with
    | zero => exact absurd h (by simp [impl_itemOk.f])
    | succ k =>
    have HK0 : Aside0 (k ≤ K) := ⟨by omega⟩
    clear hK
    obtain rfl := C_len gp0
    have HS := Hp.start w
    have H := Aside0.mk h
    clear h
    simp only [impl_itemOk.f] at H
    go_enter Tryz.func227, Tryz.ntmps227
    go_upto_if 10 with (first | ((with_reducible refine gate_dst (N := 2) rfl ?_); refine ev_box rfl HS (by first | (go_simp; done) | (go_simp; rfl)) rfl ?_; clear HS; (try clear F); intro g2 w2 HS; (try simp only [hpn, hpm] at HS); have F := HS.boxes; simp only [bxn] at F))
    by_cases c3 : a0.f0 = 48
    case pos =>
     replace H := zpos c3 H
     have c3a := beq_iff_eq.mpr c3
     have c3b := bne_eq_false_iff_eq.mpr c3
     clear c3
     (try simp only [c3a, c3b, dcn])
     by_cases c4 : a0.f1.toList = ([] : List UInt8)
     case neg =>
      replace H := zneg c4 H
      have c4a := beq_eq_false_iff_ne.mpr c4
      have c4b := bne_iff_ne.mpr c4
      have c4e := List.isEmpty_eq_false_iff.mpr c4
      clear c4
      obtain rfl := zsome H
      go_wp2
      go_ret
      exact ⟨rfl, HS.pick [] (by decide) (by rfl)⟩
     replace H := zpos c4 H
     have c4a := beq_iff_eq.mpr c4
     have c4b := bne_eq_false_iff_eq.mpr c4
     have c4e := List.isEmpty_iff.mpr c4
     clear c4
     by_cases c5 : 40 < (a0.f2.length : Int)
     case pos =>
      replace H := zpos c5 H
      replace c5 := eq_true c5
      obtain rfl := zsome H
      go_wp2
      go_ret
      exact ⟨rfl, HS.pick [] (by decide) (by rfl)⟩
     replace H := zneg c5 H
     replace c5 := eq_false c5
     by_cases c6 : 6 ≤ a1
     case pos =>
      replace H := zpos c6 H
      replace c6 := eq_true c6
      obtain rfl := zsome H
      go_wp2
      go_ret
      exact ⟨rfl, HS.pick [] (by decide) (by rfl)⟩
     replace H := zneg c6 H
     replace c6 := eq_false c6
     go_wp2
     go_loopg [27] k (fun kq v_27 w' => ∃ (x10 : Int), v_27 = .int .i64 x10 ∧ Aside0 (impl_itemOk.l0 kq x10 a0 a1 = some r) ∧ Aside0 (kq ≤ k) ∧ Hp noFP w w' [.box g2 [.int .i64 a0.f0, .string a0.f1, .slice Ap0 a0.f2.length cp0] 182])
     case atStart => exact ⟨_, rfl, H, ⟨Nat.le_refl _⟩, HS⟩
     case round =>
      clear HS H; (try clear F)
      obtain ⟨x10, rfl, H, HKk9, HS⟩ := hrel
      have F := HS.boxes; simp only [bxn] at F
      cases gk with
      | zero => exact absurd H.out (by simp [impl_itemOk.l0])
      | succ k9 =>
       simp only [impl_itemOk.l0] at H
       by_cases c12 : x10 < (a0.f2.length : Int)
       case neg =>
        replace H := zneg c12 H
        replace c12 := eq_false c12
        obtain rfl := zsome H
        go_wp2
        go_ret
        exact ⟨rfl, HS.pick [] (by decide) (by rfl)⟩
       replace H := zpos c12 H
       replace c12 := eq_true c12
       by_cases c13 : 0 ≤ x10
       case neg => exact zno c13 H
       replace H := zpos c13 H
       replace c13 := eq_true c13
       by_cases c14 : x10 < (a0.f2.length : Int)
       case neg => exact zno c14 H
       replace H := zpos c14 H
       replace c14 := eq_true c14
       obtain ⟨ad15, B15_2, d15_2, rfl, e15_0, e15_1, e15_2, m15_2, y15_2⟩ := at_T182 gp0 x10 (of_eq_true c13) (of_eq_true c14)
       have e15_0_15 := (HS.keepc e15_0)
       have e15_1_15 := (HS.keepc e15_1)
       have e15_2_15 := (HS.keepc e15_2)
       replace H := zbind H; obtain ⟨t20, ht20, H⟩ := H
       go_upto_if 35 with (first | ((with_reducible refine gate_dst (N := 6) rfl ?_); refine ev_box rfl HS (by first | (go_simp; done) | (go_simp; rfl)) rfl ?_; clear HS; (try clear F); intro g6 w6 HS; (try simp only [hpn, hpm] at HS); have F := HS.boxes; simp only [bxn] at F) | ((with_reducible refine gate_store (p := 6) rfl ?_); refine ev_store rfl 1 0 HS (seg := [.int .i64 ((rd_T182 a0.f2 x10).f0), .string ((rd_T182 a0.f2 x10).f1), .slice B15_2 (rd_T182 a0.f2 x10).f2.length d15_2]) rfl rfl rfl rfl rfl rfl (by kernel_rfl) (by simp [wrt]) (by simp [Value.oneCell']) ?_; clear HS; (try clear F); intro w18 HS; (try simp only [hpn, hpm] at HS); have F := HS.boxes; simp only [bxn] at F) | ((with_reducible refine gate_dst (N := 34) rfl ?_); refine ev_call rfl Tryz.func227 (by kernel_rfl) rfl #[.agg #[.int .i64 ((rd_T182 a0.f2 x10).f0), .string ((rd_T182 a0.f2 x10).f1), .slice B15_2 (rd_T182 a0.f2 x10).f2.length d15_2], .int .i64 (wrap64 (a1 + 1))] rfl (by simp only [mpn]; rfl) ?_; refine (IH (by have := HK0.out; have := HKk9.out; omega) ht20.out (HS.ro y15_2) m15_2).mono ?_; rintro _ wt20 ⟨rfl, HQ⟩; refine ⟨_, rfl, ?_⟩; replace HS := HS.call HQ; clear HQ; (try clear F); (try simp only [hpn, hpm] at HS); have F := HS.boxes; simp only [bxn] at F))
       by_cases c22 : t20 = true
       case neg =>
        replace H := zneg c22 H
        replace c22 := eq_false_of_ne_true c22
        subst c22
        (try simp only [dcn, if_true, Bool.false_eq_true, if_false])
        obtain rfl := zsome H
        go_wp2
        go_ret
        exact ⟨rfl, HS.pick [] (by decide) (by rfl)⟩
       replace H := zpos c22 H
       subst c22
       (try simp only [dcn, if_true, Bool.false_eq_true, if_false])
       go_wp2
       go_roundg k9
       case measure => have := HK0.out; have := HKk9.out; omega
       case rel => exact ⟨_, rfl, H, ⟨by have := HK0.out; have := HKk9.out; omega⟩, HS.pick [0] (by decide) (by rfl)⟩
    replace H := zneg c3 H
    have c3a := beq_eq_false_iff_ne.mpr c3
    have c3b := bne_iff_ne.mpr c3
    clear c3
    (try simp only [c3a, c3b, dcn])
    by_cases c23 : 0 < (a0.f2.length : Int)
    case pos =>
     replace H := zpos c23 H
     replace c23 := eq_true c23
     have c23n := (propext (Int.natCast_pos (n := a0.f2.length))).symm.trans c23
     obtain rfl := zsome H
     go_wp2
     go_ret
     exact ⟨rfl, HS.pick [] (by decide) (by rfl)⟩
    replace H := zneg c23 H
    replace c23 := eq_false c23
    have c23n := (propext (Int.natCast_pos (n := a0.f2.length))).symm.trans c23
    by_cases c24 : a0.f0 = 1
    case pos =>
     replace H := zpos c24 H
     have c24a := beq_iff_eq.mpr c24
     have c24b := bne_eq_false_iff_eq.mpr c24
     clear c24
     by_cases c25 : a0.f1.toList = ([0] : List UInt8)
     case neg =>
      replace H := zneg c25 H
      have c25a := beq_eq_false_iff_ne.mpr c25
      have c25b := bne_iff_ne.mpr c25
      clear c25
      obtain rfl := zsome H
      go_wp2
      go_ret
      exact ⟨rfl, HS.pick [] (by decide) (by rfl)⟩
     replace H := zpos c25 H
     have c25a := beq_iff_eq.mpr c25
     have c25b := bne_eq_false_iff_eq.mpr c25
     clear c25
     obtain rfl := zsome H
     go_wp2
     go_ret
     exact ⟨rfl, HS.pick [] (by decide) (by rfl)⟩
    replace H := zneg c24 H
    have c24a := beq_eq_false_iff_ne.mpr c24
    have c24b := bne_iff_ne.mpr c24
    clear c24
    by_cases c26 : a0.f0 = 2
    case neg =>
     replace H := zneg c26 H
     have c26a := beq_eq_false_iff_ne.mpr c26
     have c26b := bne_iff_ne.mpr c26
     clear c26
     by_cases c41 : a0.f0 = 4
     case pos =>
      replace H := zpos c41 H
      have c41a := beq_iff_eq.mpr c41
      have c41b := bne_eq_false_iff_eq.mpr c41
      clear c41
      obtain rfl := zsome H
      go_wp2
      go_ret
      exact ⟨rfl, HS.pick [] (by decide) (by rfl)⟩
     replace H := zneg c41 H
     have c41a := beq_eq_false_iff_ne.mpr c41
     have c41b := bne_iff_ne.mpr c41
     clear c41
     by_cases c42 : a0.f0 = 12
     case neg =>
      replace H := zneg c42 H
      have c42a := beq_eq_false_iff_ne.mpr c42
      have c42b := bne_iff_ne.mpr c42
      clear c42
      obtain rfl := zsome H
      go_wp2
      go_ret
      exact ⟨rfl, HS.pick [] (by decide) (by rfl)⟩
     replace H := zpos c42 H
     have c42a := beq_iff_eq.mpr c42
     have c42b := bne_eq_false_iff_eq.mpr c42
     clear c42
     replace H := zbind H; obtain ⟨t43, ht43, H⟩ := H
     obtain rfl := zsome H
     go_wp2_with (first | ((with_reducible refine gate_dst (N := 88) rfl ?_); refine ev_call rfl Tryz.func142 (by kernel_rfl) rfl #[.string a0.f1, .int .i64 32, .int .i64 126] rfl (by simp only [mpn]; rfl) ?_; refine (impl_bytesIn.calls ht43.out).mono ?_; rintro _ wt43 ⟨rfl, HQ⟩; refine ⟨_, rfl, ?_⟩; replace HS := HS.call HQ; clear HQ; (try clear F); (try simp only [hpn, hpm] at HS); have F := HS.boxes; simp only [bxn] at F))
     go_ret
     exact ⟨rfl, HS.pick [] (by decide) (by rfl)⟩
    replace H := zpos c26 H
    have c26a := beq_iff_eq.mpr c26
    have c26b := bne_eq_false_iff_eq.mpr c26
    clear c26
    replace H := zbind H; obtain ⟨t27, ht27, H⟩ := H
    by_cases c29 : t27 = true
    case neg =>
     replace H := zneg c29 H
     replace c29 := eq_false_of_ne_true c29
     subst c29
     obtain rfl := zsome H
     go_wp2_with (first | ((with_reducible refine gate_dst (N := 59) rfl ?_); refine ev_call rfl Tryz.func79 (by kernel_rfl) rfl #[.int .i64 (a0.f1.size : Int), .int .i64 1, .int .i64 5] rfl (by simp only [mpn]; rfl) ?_; refine (impl_within.calls ht27.out).mono ?_; rintro _ wt27 ⟨rfl, HQ⟩; refine ⟨_, rfl, ?_⟩; replace HS := HS.call HQ; clear HQ; (try clear F); (try simp only [hpn, hpm] at HS); have F := HS.boxes; simp only [bxn] at F))
     go_ret
     exact ⟨rfl, HS.pick [] (by decide) (by rfl)⟩
    replace H := zpos c29 H
    subst c29
    by_cases c30 : 0 < (a0.f1.size : Int)
    case neg => exact zno c30 H
    replace H := zpos c30 H
    replace c30 := eq_true c30
    have c30n : (0 < a0.f1.size) = True := eq_true (by have := of_eq_true c30; omega)
    by_cases c33 : (bt a0.f1 0) < 128
    case neg =>
     replace H := zneg c33 H
     replace c33 := eq_false c33
     obtain rfl := zsome H
     go_wp2_with (first | ((with_reducible refine gate_dst (N := 59) rfl ?_); refine ev_call rfl Tryz.func79 (by kernel_rfl) rfl #[.int .i64 (a0.f1.size : Int), .int .i64 1, .int .i64 5] rfl (by simp only [mpn]; rfl) ?_; refine (impl_within.calls ht27.out).mono ?_; rintro _ wt27 ⟨rfl, HQ⟩; refine ⟨_, rfl, ?_⟩; replace HS := HS.call HQ; clear HQ; (try clear F); (try simp only [hpn, hpm] at HS); have F := HS.boxes; simp only [bxn] at F; have hx31 : ∀ h : 0 < a0.f1.size, ((a0.f1[0]'h).toNat : Int) = bt a0.f1 0 := bt_at a0.f1 0; have hz32 : 0 < a0.f1.size := (by have := of_eq_true c30; omega)))
     go_ret
     exact ⟨rfl, HS.pick [] (by decide) (by rfl)⟩
    replace H := zpos c33 H
    replace c33 := eq_true c33
    by_cases c36 : (bt a0.f1 0) = 0
    case neg =>
     replace H := zneg c36 H
     have c36a := beq_eq_false_iff_ne.mpr c36
     have c36b := bne_iff_ne.mpr c36
     clear c36
     obtain rfl := zsome H
     go_wp2_with (first | ((with_reducible refine gate_dst (N := 59) rfl ?_); refine ev_call rfl Tryz.func79 (by kernel_rfl) rfl #[.int .i64 (a0.f1.size : Int), .int .i64 1, .int .i64 5] rfl (by simp only [mpn]; rfl) ?_; refine (impl_within.calls ht27.out).mono ?_; rintro _ wt27 ⟨rfl, HQ⟩; refine ⟨_, rfl, ?_⟩; replace HS := HS.call HQ; clear HQ; (try clear F); (try simp only [hpn, hpm] at HS); have F := HS.boxes; simp only [bxn] at F; have hx31 : ∀ h : 0 < a0.f1.size, ((a0.f1[0]'h).toNat : Int) = bt a0.f1 0 := bt_at a0.f1 0; have hz32 : 0 < a0.f1.size := (by have := of_eq_true c30; omega); have hx34 : ∀ h : 0 < a0.f1.size, ((a0.f1[0]'h).toNat : Int) = bt a0.f1 0 := bt_at a0.f1 0; have hz35 : 0 < a0.f1.size := (by have := of_eq_true c30; omega)))
     go_ret
     exact ⟨rfl, HS.pick [] (by decide) (by rfl)⟩
    replace H := zpos c36 H
    have c36a := beq_iff_eq.mpr c36
    have c36b := bne_eq_false_iff_eq.mpr c36
    clear c36
    by_cases c37 : (a0.f1.size : Int) = 1
    case pos =>
     replace H := zpos c37 H
     have c37a := beq_iff_eq.mpr c37
     have c37b := bne_eq_false_iff_eq.mpr c37
     clear c37
     obtain rfl := zsome H
     go_wp2_with (first | ((with_reducible refine gate_dst (N := 59) rfl ?_); refine ev_call rfl Tryz.func79 (by kernel_rfl) rfl #[.int .i64 (a0.f1.size : Int), .int .i64 1, .int .i64 5] rfl (by simp only [mpn]; rfl) ?_; refine (impl_within.calls ht27.out).mono ?_; rintro _ wt27 ⟨rfl, HQ⟩; refine ⟨_, rfl, ?_⟩; replace HS := HS.call HQ; clear HQ; (try clear F); (try simp only [hpn, hpm] at HS); have F := HS.boxes; simp only [bxn] at F; have hx31 : ∀ h : 0 < a0.f1.size, ((a0.f1[0]'h).toNat : Int) = bt a0.f1 0 := bt_at a0.f1 0; have hz32 : 0 < a0.f1.size := (by have := of_eq_true c30; omega); have hx34 : ∀ h : 0 < a0.f1.size, ((a0.f1[0]'h).toNat : Int) = bt a0.f1 0 := bt_at a0.f1 0; have hz35 : 0 < a0.f1.size := (by have := of_eq_true c30; omega)))
     go_ret
     exact ⟨rfl, HS.pick [] (by decide) (by rfl)⟩
    replace H := zneg c37 H
    have c37a := beq_eq_false_iff_ne.mpr c37
    have c37b := bne_iff_ne.mpr c37
    clear c37
    by_cases c38 : 1 < (a0.f1.size : Int)
    case neg => exact zno c38 H
    replace H := zpos c38 H
    replace c38 := eq_true c38
    have c38n : (1 < a0.f1.size) = True := eq_true (by have := of_eq_true c38; omega)
    obtain rfl := zsome H
    go_wp2_with (first | ((with_reducible refine gate_dst (N := 59) rfl ?_); refine ev_call rfl Tryz.func79 (by kernel_rfl) rfl #[.int .i64 (a0.f1.size : Int), .int .i64 1, .int .i64 5] rfl (by simp only [mpn]; rfl) ?_; refine (impl_within.calls ht27.out).mono ?_; rintro _ wt27 ⟨rfl, HQ⟩; refine ⟨_, rfl, ?_⟩; replace HS := HS.call HQ; clear HQ; (try clear F); (try simp only [hpn, hpm] at HS); have F := HS.boxes; simp only [bxn] at F; have hx31 : ∀ h : 0 < a0.f1.size, ((a0.f1[0]'h).toNat : Int) = bt a0.f1 0 := bt_at a0.f1 0; have hz32 : 0 < a0.f1.size := (by have := of_eq_true c30; omega); have hx34 : ∀ h : 0 < a0.f1.size, ((a0.f1[0]'h).toNat : Int) = bt a0.f1 0 := bt_at a0.f1 0; have hz35 : 0 < a0.f1.size := (by have := of_eq_true c30; omega); have hx39 : ∀ h : 1 < a0.f1.size, ((a0.f1[1]'h).toNat : Int) = bt a0.f1 1 := bt_at a0.f1 1; have hz40 : 1 < a0.f1.size := (by have := of_eq_true c38; omega)))
    go_ret
    exact ⟨rfl, HS.pick [] (by decide) (by rfl)⟩
theorem impl_itemOk.calls {k : Nat} {a0 : S182} {a1 : Int} {Ap0 : Option Addr} {np0 cp0 : Nat} {r : Bool} {w : World} (h : impl_itemOk.f k a0 a1 = some r) (gp0 : k182.C w Ap0 np0 a0.f2) (lp0 : np0 ≤ cp0) :
    Calls Tryz.prog 227 #[.agg #[.int .i64 a0.f0, .string a0.f1, .slice Ap0 np0 cp0], .int .i64 a1] w (fun e w' => e = .returned (.bool r) ∧ Hp noFP w w' []) := impl_itemOk.calls_ k (Nat.le_refl k) h gp0 lp0
/-! ### impl_ItemOk: function 199 -/
def impl_ItemOk.f (k : Nat) (a0 : S182) : Option (Bool) := ((impl_itemOk.f k a0 0).bind fun t3 => (some t3))
set_option maxHeartbeats 16000000 in
theorem impl_ItemOk.calls {k : Nat} {a0 : S182} {Ap0 : Option Addr} {np0 cp0 : Nat} {r : Bool} {w : World} (h : impl_ItemOk.f k a0 = some r) (gp0 : k182.C w Ap0 np0 a0.f2) (lp0 : np0 ≤ cp0) :
    Calls Tryz.prog 199 #[.agg #[.int .i64 a0.f0, .string a0.f1, .slice Ap0 np0 cp0]] w (fun e w' => e = .returned (.bool r) ∧ Hp noFP w w' []) := by
 obtain rfl := C_len gp0
 have HS := Hp.start w
 have H := Aside0.mk h
 clear h
 unfold impl_ItemOk.f at H
 go_enter Tryz.func199, Tryz.ntmps199
 replace H := zbind H; obtain ⟨t3, ht3, H⟩ := H
 obtain rfl := zsome H
 go_wp2_with (first | ((with_reducible refine gate_dst (N := 1) rfl ?_); refine ev_box rfl HS (by first | (go_simp; done) | (go_simp; rfl)) rfl ?_; clear HS; (try clear F); intro g1 w1 HS; (try simp only [hpn, hpm] at HS); have F := HS.boxes; simp only [bxn] at F) | ((with_reducible refine gate_dst (N := 4) rfl ?_); refine ev_call rfl Tryz.func227 (by kernel_rfl) rfl #[.agg #[.int .i64 a0.f0, .string a0.f1, .slice Ap0 a0.f2.length cp0], .int .i64 0] rfl (by simp only [mpn]; rfl) ?_; refine (impl_itemOk.calls ht3.out (HS.ro gp0) lp0).mono ?_; rintro _ wt3 ⟨rfl, HQ⟩; refine ⟨_, rfl, ?_⟩; replace HS := HS.call HQ; clear HQ; (try clear F); (try simp only [hpn, hpm] at HS); have F := HS.boxes; simp only [bxn] at F))
 go_ret
 exact ⟨rfl, HS.pick [] (by decide) (by rfl)⟩
/-! ### impl_lengthText: function 228 -/
def impl_lengthText.l0 : Nat → (List Int) → Int → Option (ByteArray)
  | 0, _, _ => none
  | k + 1, l14, x16 => (if 0 < x16 then (if 1 + l14.length ≤ 140737488355328 then (lets (([(x16 % 256)] : List Int) ++ l14) fun y22 => (impl_lengthText.l0 k y22 (x16 / 256))) else none) else (if 1 + l14.length ≤ 140737488355328 then (lets (([((wrap64 (128 + (l14.length : Int))) % 256)] : List Int) ++ l14) fun y27 => (some (strOfNums y27))) else none))
def impl_lengthText.f (k : Nat) (a0 : Int) : Option (ByteArray) := (if a0 < 128 then (some (strOfNums ([(a0 % 256)] : List Int))) else (impl_lengthText.l0 k [] a0))
set_option maxHeartbeats 16000000 in
theorem impl_lengthText.calls {k : Nat} {a0 : Int} {r : ByteArray} {w : World} (h : impl_lengthText.f k a0 = some r) :
    Calls Tryz.prog 228 #[.int .i64 a0] w (fun e w' => e = .returned (.string r) ∧ Hp noFP w w' []) := by
 have HS := Hp.start w
 have H := Aside0.mk h
 clear h
 unfold impl_lengthText.f at H
 go_enter Tryz.func228, Tryz.ntmps228
 by_cases c1 : a0 < 128
 case pos =>
  replace H := zpos c1 H
  replace c1 := eq_true c1
  obtain rfl := zsome H
  go_wp2_with (first | ((with_reducible refine gate_dst (N := 9) rfl ?_); refine ev_lit rfl (Zd.int .u8) [] ([(a0 % 256)] : List Int) ([.int .u8 (a0 % 256)] ++ []) HS (by first | (go_simp; done) | (go_simp; rfl)) rfl rfl (Nat.le_of_ble_eq_true rfl) (MadeL.cons (js1 := []) (c := [.int .u8 (a0 % 256)]) rfl (made_flat (fun _ => rfl)) MadeL.nil (by decide)) ?_; clear HS; (try clear F); intro v2 w2 HS; obtain ⟨B2, d2, rfl, m2⟩ := HS.formn 1 0 rfl rfl; (try simp only [hpn, hpm] at HS)) | ((with_reducible refine gate_dst (N := 10) rfl ?_); refine ev_val rfl (run_str rfl rfl Tryz.underlying225 Tryz.underlying5 Tryz.underlying9 (HS.rd 0 rfl)) ?_))
  go_ret
  exact ⟨rfl, HS.pick [] (by decide) (by rfl)⟩
 replace H := zneg c1 H
 replace c1 := eq_false c1
 go_wp2
 replace HS := HS.nil 5 (Zd.int .u8)
 go_loopg [3, 4] k (fun kq v_3 v_4 w' => ∃ (l14 : List Int) (v15 : Value) (x16 : Int), v_3 = v15 ∧ v_4 = .int .i64 x16 ∧ Aside0 (impl_lengthText.l0 kq l14 x16 = some r) ∧ Aside0 (kq ≤ k) ∧ Hp noFP w w' [.own (Zd.slice 5 (Zd.int .u8)) l14 [v15]])
 case atStart => exact ⟨_, _, _, rfl, rfl, H, ⟨Nat.le_refl _⟩, HS⟩
 case round =>
  clear HS H; (try clear F)
  obtain ⟨l14, v15, x16, rfl, rfl, H, HKk13, HS⟩ := hrel
  obtain ⟨B15, d15, rfl, m15⟩ := HS.form 0 rfl
  cases gk with
  | zero => exact absurd H.out (by simp [impl_lengthText.l0])
  | succ k13 =>
   simp only [impl_lengthText.l0] at H
   by_cases c18 : 0 < x16
   case pos =>
    replace H := zpos c18 H
    replace c18 := eq_true c18
    by_cases c21 : 1 + l14.length ≤ 140737488355328
    case neg => exact zno c21 H
    replace H := zpos c21 H
    replace c21 := eq_true c21
    replace H := zlets H; obtain ⟨y22, e_y22, H⟩ := H
    go_wp2_with (first | ((with_reducible refine gate_dst (N := 18) rfl ?_); refine ev_lit rfl (Zd.int .u8) [] ([(x16 % 256)] : List Int) ([.int .u8 (x16 % 256)] ++ []) HS (by first | (go_simp; done) | (go_simp; rfl)) rfl rfl (Nat.le_of_ble_eq_true rfl) (MadeL.cons (js1 := []) (c := [.int .u8 (x16 % 256)]) rfl (made_flat (fun _ => rfl)) MadeL.nil (by decide)) ?_; clear HS; (try clear F); intro v19 w19 HS; obtain ⟨B19, d19, rfl, m19⟩ := HS.formn 1 1 rfl rfl; (try simp only [hpn, hpm] at HS)) | ((with_reducible refine gate_dst (N := 20) rfl ?_); refine ev_appendr rfl (Zd.int .u8) (flat_int _) 1 HS rfl (HS.rd 0 rfl) rfl rfl rfl Tryz.underlying225 info5 rfl (by decide) (by decide) (by have := of_eq_true c21; first | omega | (simp only [List.length_cons, List.length_nil, List.length_append, Nat.zero_add] at this ⊢; omega)) ?_; clear HS; (try clear F); intro v22 w22 HS; rw [← e_y22.out] at HS; obtain ⟨B22, d22, rfl, m22⟩ := HS.form 2 rfl; (try simp only [hpn, hpm] at HS)))
    go_roundg k13
    case measure => have := HKk13.out; omega
    case rel => exact ⟨_, _, _, rfl, rfl, H, ⟨by have := HKk13.out; omega⟩, HS.pick [2] (by decide) (by rfl)⟩
   replace H := zneg c18 H
   replace c18 := eq_false c18
   by_cases c26 : 1 + l14.length ≤ 140737488355328
   case neg => exact zno c26 H
   replace H := zpos c26 H
   replace c26 := eq_true c26
   replace H := zlets H; obtain ⟨y27, e_y27, H⟩ := H
   obtain rfl := zsome H
   go_wp2_with (first | ((with_reducible refine gate_dst (N := 25) rfl ?_); refine ev_lit rfl (Zd.int .u8) [] ([((wrap64 (128 + (l14.length : Int))) % 256)] : List Int) ([.int .u8 ((wrap64 (128 + (l14.length : Int))) % 256)] ++ []) HS (by first | (go_simp; done) | (go_simp; rfl)) rfl rfl (Nat.le_of_ble_eq_true rfl) (MadeL.cons (js1 := []) (c := [.int .u8 ((wrap64 (128 + (l14.length : Int))) % 256)]) rfl (made_flat (fun _ => rfl)) MadeL.nil (by decide)) ?_; clear HS; (try clear F); intro v24 w24 HS; obtain ⟨B24, d24, rfl, m24⟩ := HS.formn 1 1 rfl rfl; (try simp only [hpn, hpm] at HS)) | ((with_reducible refine gate_dst (N := 27) rfl ?_); refine ev_appendr rfl (Zd.int .u8) (flat_int _) 1 HS rfl (HS.rd 0 rfl) rfl rfl rfl Tryz.underlying225 info5 rfl (by decide) (by decide) (by have := of_eq_true c26; first | omega | (simp only [List.length_cons, List.length_nil, List.length_append, Nat.zero_add] at this ⊢; omega)) ?_; clear HS; (try clear F); intro v27 w27 HS; rw [← e_y27.out] at HS; obtain ⟨B27, d27, rfl, m27⟩ := HS.form 2 rfl; (try simp only [hpn, hpm] at HS)) | ((with_reducible refine gate_dst (N := 28) rfl ?_); refine ev_val rfl (run_str rfl rfl Tryz.underlying225 Tryz.underlying5 Tryz.underlying9 (HS.rd 2 rfl)) ?_))
   go_ret
   exact ⟨rfl, HS.pick [] (by decide) (by rfl)⟩
/-! ### impl_itemText: function 200 -/
mutual
def impl_itemText.l0 : Nat → (List Int) → Int → S182 → Option (ByteArray)
  | 0, _, _, _ => none
  | k + 1, l19, x21, a0 => (if x21 < (a0.f2.length : Int) then (if 0 ≤ x21 then (if x21 < (a0.f2.length : Int) then ((impl_itemText.f k (rd_T182 a0.f2 x21)).bind fun t31 => (if l19.length + t31.size ≤ 140737488355328 then (lets (l19 ++ bytesOf t31) fun y34 => (impl_itemText.l0 k y34 (wrap64 (x21 + 1)) a0)) else none)) else none) else none) else ((impl_lengthText.f k ((strOfNums l19).size : Int)).bind fun t107001 => (if (strOfNums ([(a0.f0 % 256)] : List Int)).size + t107001.size ≤ 9223372036854775807 then (if ((strOfNums ([(a0.f0 % 256)] : List Int)) ++ t107001).size + (strOfNums l19).size ≤ 9223372036854775807 then (some (((strOfNums ([(a0.f0 % 256)] : List Int)) ++ t107001) ++ (strOfNums l19))) else none) else none)))
def impl_itemText.f : Nat → S182 → Option (ByteArray)
  | 0, _ => none
  | k + 1, a0 => (if a0.f0 = 48 then (impl_itemText.l0 k [] 0 a0) else ((impl_lengthText.f k (a0.f1.size : Int)).bind fun t207001 => (if (strOfNums ([(a0.f0 % 256)] : List Int)).size + t207001.size ≤ 9223372036854775807 then (if ((strOfNums ([(a0.f0 % 256)] : List Int)) ++ t207001).size + a0.f1.size ≤ 9223372036854775807 then (some (((strOfNums ([(a0.f0 % 256)] : List Int)) ++ t207001) ++ a0.f1)) else none) else none)))
end
def impl_itemText.T10 : Bool × List (List Nat × List Nat) := (true, [([], []), ([0], [0]), ([1], [1]), ([2], [2]), ([3], [3]), ([], []), ([5], [5]), ([6], [6]), ([4, 7], [4, 7]), ([], []), ([8, 9], [8, 9]), ([10, 7, 0, 1, 2, 3, 4, 5, 6, 7, 8, 9, 10], [10])])
theorem impl_itemText.tT10 : rtab .any (opsOf Tryz.f200 10) = impl_itemText.T10 := by kernel_rfl
set_option maxHeartbeats 16000000 in
theorem impl_itemText.calls_ (K : Nat) : ∀ {k : Nat} (hK : k ≤ K) {a0 : S182} {Ap0 : Option Addr} {np0 cp0 : Nat} {r : ByteArray} {w : World} (h : impl_itemText.f k a0 = some r) (gp0 : k182.C w Ap0 np0 a0.f2) (lp0 : np0 ≤ cp0),
    Calls Tryz.prog 200 #[.agg #[.int .i64 a0.f0, .string a0.f1, .slice Ap0 np0 cp0]] w (fun e w' => e = .returned (.string r) ∧ Hp noFP w w' []) := by
  induction K with
  | zero =>
    intro k hK a0 Ap0 np0 cp0 r w h gp0 lp0
    obtain rfl : k = 0 := by omega
    exact absurd h (by simp [impl_itemText.f])
  | succ K IH =>
    intro k hK a0 Ap0 np0 cp0 r w h gp0 lp0
    cases k with
    | zero => exact absurd h (by simp [impl_itemText.f])
    | succ k =>
    have HK0 : Aside0 (k ≤ K) := ⟨by omega⟩
    clear hK
    obtain rfl := C_len gp0
    have HS := Hp.start w
    have H := Aside0.mk h
    clear h
    simp only [impl_itemText.f] at H
    go_enter Tryz.func200, Tryz.ntmps200
    go_upto_if 11 with (first | ((with_reducible refine gate_dst (N := 1) rfl ?_); refine ev_box rfl HS (by first | (go_simp; done) | (go_simp; rfl)) rfl ?_; clear HS; (try clear F); intro g1 w1 HS; (try simp only [hpn, hpm] at HS); have F := HS.boxes; simp only [bxn] at F))
    by_cases c3 : a0.f0 = 48
    case neg =>
     replace H := zneg c3 H
     have c3a := beq_eq_false_iff_ne.mpr c3
     have c3b := bne_iff_ne.mpr c3
     clear c3
     (try simp only [c3a, c3b, dcn])
     (try go_wp2)
     replace H := zbind H; obtain ⟨t207001, ht207001, H⟩ := H
     by_cases c208001 : (strOfNums ([(a0.f0 % 256)] : List Int)).size + t207001.size ≤ 9223372036854775807
     case neg => exact zno c208001 H
     replace H := zpos c208001 H
     replace c208001 := eq_true c208001
     by_cases c210001 : ((strOfNums ([(a0.f0 % 256)] : List Int)) ++ t207001).size + a0.f1.size ≤ 9223372036854775807
     case neg => exact zno c210001 H
     replace H := zpos c210001 H
     replace c210001 := eq_true c210001
     refine dr_start [] HS #[false, false, false, false, false, false, false, false, false, false, false, false] (by kernel_rfl) rfl rfl impl_itemText.tT10 (fun w40 HT HS HH => ?_)
     (try clear F)
     refine join_ 0 #[true, true, true, true, true, true, true, true, true, true, true, true] (fun (v203001 : Value) => ([(26, .pointer (some ⟨g1, 0, none⟩)), (27, .int .i64 a0.f0), (28, .int .u8 (a0.f0 % 256)), (29, v203001), (30, .string (strOfNums ([(a0.f0 % 256)] : List Int))), (31, .string a0.f1), (32, .int .i64 (a0.f1.size : Int)), (33, .string t207001), (34, .string ((strOfNums ([(a0.f0 % 256)] : List Int)) ++ t207001)), (35, .string a0.f1), (36, .string (((strOfNums ([(a0.f0 % 256)] : List Int)) ++ t207001) ++ a0.f1)), (2, .string (((strOfNums ([(a0.f0 % 256)] : List Int)) ++ t207001) ++ a0.f1))] : List (Tmp × Value))) (fun (v203001 : Value) w' => Hp noFP w w' [.box g1 [.int .i64 a0.f0, .string a0.f1, .slice Ap0 a0.f2.length cp0] 182, .own (Zd.slice 5 (Zd.int .u8)) ([(a0.f0 % 256)] : List Int) [v203001]]) ?_ ?_
     rotate_left
     · intro hJ
       refine drq_of [(0, some 26), (1, some 27), (2, some 28), (5, some 31), (6, some 32), (9, some 35)] ?_
       repeat (first | (refine drq_pure HT (v := ?_) (a' := ?_) rfl rfl (by kernel_rfl) (fun _ _ _ h => h) (.inl ⟨by rfl, ?_⟩) ?_ ?_; rotate_left; (intro w'; go_simp; with_reducible rfl); rotate_left; (simp only [Act.put, ptn]; rfl)) | (refine drq_take HT HH (v := ?_) (a' := ?_) rfl rfl (by kernel_rfl) (fun _ _ _ h => h) (.inl ⟨by rfl, ?_⟩) ?_ ?_; rotate_left; (rintro w' ⟨rs', HS'⟩; have F := HS'.boxes; simp only [bxn, List.cons_append, List.nil_append] at F; go_simp; with_reducible rfl); rotate_left; (simp only [Act.put, ptn]; rfl)))
       refine drq_end ?_
       refine dr_any [3, 7] HT (by kernel_rfl) (by decide) (AllReadyL.cons rfl (by decide) (fun K hK => ?_) (AllReadyL.cons rfl (by decide) (fun K hK => ?_) AllReadyL.nil))
       · refine if_wp (by rfl) ?_; refine wp_lit (Zd.int .u8) [] ([(a0.f0 % 256)] : List Int) ([.int .u8 (a0.f0 % 256)] ++ []) HS (by first | (go_simp; done) | (go_simp; rfl)) rfl rfl (Nat.le_of_ble_eq_true rfl) (MadeL.cons (js1 := []) (c := [.int .u8 (a0.f0 % 256)]) rfl (made_flat (fun _ => rfl)) MadeL.nil (by decide)) ?_; clear HS; (try clear F); intro v203001 w203001 HS; obtain ⟨B203001, d203001, rfl, m203001⟩ := HS.formn 1 1 rfl rfl
         (try simp only [hpn, hpm] at HS)
         have F := HS.boxes; simp only [bxn] at F
         refine hK.out _ _ ⟨_, HS⟩ (fun HH => ?_)
         clear hK K
         refine norm_ (a' := ?_) ?_ ?_
         rotate_left
         · show Act.put _ (some 29) _ = _; simp only [Act.put, ptn]; rfl
         refine dr_any [4, 7] HT (by kernel_rfl) (by decide) (AllReadyL.cons rfl (by decide) (fun K hK => ?_) (AllReadyL.cons rfl (by decide) (fun K hK => ?_) AllReadyL.nil))
         · refine if_wp (by rfl) ?_; refine wp_run (run_str rfl rfl Tryz.underlying225 Tryz.underlying5 Tryz.underlying9 (HS.rd 1 rfl)) ?_
           (try simp only [hpn, hpm] at HS)
           have F := HS.boxes; simp only [bxn] at F
           refine hK.out _ _ ⟨_, HS⟩ (fun HH => ?_)
           clear hK K
           refine norm_ (a' := ?_) ?_ ?_
           rotate_left
           · show Act.put _ (some 30) _ = _; simp only [Act.put, ptn]; rfl
           refine dr_one 7 HT rfl (by kernel_rfl) (by decide) (fun K hK => ?_)
           refine goes_ Tryz.func228 (by kernel_rfl) rfl #[.int .i64 (a0.f1.size : Int)] (by rfl) rfl rfl (by simp only [mpn]; rfl) ?_; refine (impl_lengthText.calls ht207001.out).mono ?_; rintro _ wt207001 ⟨rfl, HQ⟩; refine ⟨_, rfl, ?_⟩; replace HS := HS.call HQ; clear HQ; (try clear F)
           (try simp only [hpn, hpm] at HS)
           have F := HS.boxes; simp only [bxn] at F
           refine hK.out _ _ ⟨_, HS⟩ (fun HH => ?_)
           clear hK K
           refine norm_ (a' := ?_) ?_ ?_
           rotate_left
           · show Act.put _ (some 33) _ = _; simp only [Act.put, ptn]; rfl
           refine dr_pure 8 (some 34) HT (v := .string ((strOfNums ([(a0.f0 % 256)] : List Int)) ++ t207001)) (a' := ?_) rfl rfl (by kernel_rfl) (fun _ _ _ h => h) (.inl ⟨by rfl, fun w' => (run_cat rfl rfl rfl (of_eq_true c208001))⟩) ?_ ?_
           rotate_left
           · simp only [Act.put, ptn]; rfl
           refine dr_pure 10 (some 36) HT (v := .string (((strOfNums ([(a0.f0 % 256)] : List Int)) ++ t207001) ++ a0.f1)) (a' := ?_) rfl rfl (by kernel_rfl) (fun _ _ _ h => h) (.inl ⟨by rfl, fun w' => (run_cat rfl rfl rfl (of_eq_true c210001))⟩) ?_ ?_
           rotate_left
           · simp only [Act.put, ptn]; rfl
           refine drq_of [(11, some 2)] ?_
           repeat (first | (refine drq_pure HT (v := ?_) (a' := ?_) rfl rfl (by kernel_rfl) (fun _ _ _ h => h) (.inl ⟨by rfl, ?_⟩) ?_ ?_; rotate_left; (intro w'; go_simp; with_reducible rfl); rotate_left; (simp only [Act.put, ptn]; rfl)))
           refine drq_end ?_
           refine norm_ ?_ (hJ (.slice B203001 1 d203001) _ (HS.arr [some 0, some 1] (by decide)))
           simp only [putAll, Act.put, ptn]
           (try rfl)
         · refine goes_ Tryz.func228 (by kernel_rfl) rfl #[.int .i64 (a0.f1.size : Int)] (by rfl) rfl rfl (by simp only [mpn]; rfl) ?_; refine (impl_lengthText.calls ht207001.out).mono ?_; rintro _ wt207001 ⟨rfl, HQ⟩; refine ⟨_, rfl, ?_⟩; replace HS := HS.call HQ; clear HQ; (try clear F)
           (try simp only [hpn, hpm] at HS)
           have F := HS.boxes; simp only [bxn] at F
           refine hK.out _ _ ⟨_, HS⟩ (fun HH => ?_)
           clear hK K
           refine norm_ (a' := ?_) ?_ ?_
           rotate_left
           · show Act.put _ (some 33) _ = _; simp only [Act.put, ptn]; rfl
           refine dr_one 4 HT rfl (by kernel_rfl) (by decide) (fun K hK => ?_)
           refine if_wp (by rfl) ?_; refine wp_run (run_str rfl rfl Tryz.underlying225 Tryz.underlying5 Tryz.underlying9 (HS.rd 1 rfl)) ?_
           (try simp only [hpn, hpm] at HS)
           have F := HS.boxes; simp only [bxn] at F
           refine hK.out _ _ ⟨_, HS⟩ (fun HH => ?_)
           clear hK K
           refine norm_ (a' := ?_) ?_ ?_
           rotate_left
           · show Act.put _ (some 30) _ = _; simp only [Act.put, ptn]; rfl
           refine dr_pure 8 (some 34) HT (v := .string ((strOfNums ([(a0.f0 % 256)] : List Int)) ++ t207001)) (a' := ?_) rfl rfl (by kernel_rfl) (fun _ _ _ h => h) (.inl ⟨by rfl, fun w' => (run_cat rfl rfl rfl (of_eq_true c208001))⟩) ?_ ?_
           rotate_left
           · simp only [Act.put, ptn]; rfl
           refine dr_pure 10 (some 36) HT (v := .string (((strOfNums ([(a0.f0 % 256)] : List Int)) ++ t207001) ++ a0.f1)) (a' := ?_) rfl rfl (by kernel_rfl) (fun _ _ _ h => h) (.inl ⟨by rfl, fun w' => (run_cat rfl rfl rfl (of_eq_true c210001))⟩) ?_ ?_
           rotate_left
           · simp only [Act.put, ptn]; rfl
           refine drq_of [(11, some 2)] ?_
           repeat (first | (refine drq_pure HT (v := ?_) (a' := ?_) rfl rfl (by kernel_rfl) (fun _ _ _ h => h) (.inl ⟨by rfl, ?_⟩) ?_ ?_; rotate_left; (intro w'; go_simp; with_reducible rfl); rotate_left; (simp only [Act.put, ptn]; rfl)))
           refine drq_end ?_
           refine norm_ ?_ (hJ (.slice B203001 1 d203001) _ (HS.arr [some 0, some 1] (by decide)))
           simp only [putAll, Act.put, ptn]
           (try rfl)
       · refine goes_ Tryz.func228 (by kernel_rfl) rfl #[.int .i64 (a0.f1.size : Int)] (by rfl) rfl rfl (by simp only [mpn]; rfl) ?_; refine (impl_lengthText.calls ht207001.out).mono ?_; rintro _ wt207001 ⟨rfl, HQ⟩; refine ⟨_, rfl, ?_⟩; replace HS := HS.call HQ; clear HQ; (try clear F)
         (try simp only [hpn, hpm] at HS)
         have F := HS.boxes; simp only [bxn] at F
         refine hK.out _ _ ⟨_, HS⟩ (fun HH => ?_)
         clear hK K
         refine norm_ (a' := ?_) ?_ ?_
         rotate_left
         · show Act.put _ (some 33) _ = _; simp only [Act.put, ptn]; rfl
         refine dr_one 3 HT rfl (by kernel_rfl) (by decide) (fun K hK => ?_)
         refine if_wp (by rfl) ?_; refine wp_lit (Zd.int .u8) [] ([(a0.f0 % 256)] : List Int) ([.int .u8 (a0.f0 % 256)] ++ []) HS (by first | (go_simp; done) | (go_simp; rfl)) rfl rfl (Nat.le_of_ble_eq_true rfl) (MadeL.cons (js1 := []) (c := [.int .u8 (a0.f0 % 256)]) rfl (made_flat (fun _ => rfl)) MadeL.nil (by decide)) ?_; clear HS; (try clear F); intro v203001 w203001 HS; obtain ⟨B203001, d203001, rfl, m203001⟩ := HS.formn 1 1 rfl rfl
         (try simp only [hpn, hpm] at HS)
         have F := HS.boxes; simp only [bxn] at F
         refine hK.out _ _ ⟨_, HS⟩ (fun HH => ?_)
         clear hK K
         refine norm_ (a' := ?_) ?_ ?_
         rotate_left
         · show Act.put _ (some 29) _ = _; simp only [Act.put, ptn]; rfl
         refine dr_one 4 HT rfl (by kernel_rfl) (by decide) (fun K hK => ?_)
         refine if_wp (by rfl) ?_; refine wp_run (run_str rfl rfl Tryz.underlying225 Tryz.underlying5 Tryz.underlying9 (HS.rd 1 rfl)) ?_
         (try simp only [hpn, hpm] at HS)
         have F := HS.boxes; simp only [bxn] at F
         refine hK.out _ _ ⟨_, HS⟩ (fun HH => ?_)
         clear hK K
         refine norm_ (a' := ?_) ?_ ?_
         rotate_left
         · show Act.put _ (some 30) _ = _; simp only [Act.put, ptn]; rfl
         refine dr_pure 8 (some 34) HT (v := .string ((strOfNums ([(a0.f0 % 256)] : List Int)) ++ t207001)) (a' := ?_) rfl rfl (by kernel_rfl) (fun _ _ _ h => h) (.inl ⟨by rfl, fun w' => (run_cat rfl rfl rfl (of_eq_true c208001))⟩) ?_ ?_
         rotate_left
         · simp only [Act.put, ptn]; rfl
         refine dr_pure 10 (some 36) HT (v := .string (((strOfNums ([(a0.f0 % 256)] : List Int)) ++ t207001) ++ a0.f1)) (a' := ?_) rfl rfl (by kernel_rfl) (fun _ _ _ h => h) (.inl ⟨by rfl, fun w' => (run_cat rfl rfl rfl (of_eq_true c210001))⟩) ?_ ?_
         rotate_left
         · simp only [Act.put, ptn]; rfl
         refine drq_of [(11, some 2)] ?_
         repeat (first | (refine drq_pure HT (v := ?_) (a' := ?_) rfl rfl (by kernel_rfl) (fun _ _ _ h => h) (.inl ⟨by rfl, ?_⟩) ?_ ?_; rotate_left; (intro w'; go_simp; with_reducible rfl); rotate_left; (simp only [Act.put, ptn]; rfl)))
         refine drq_end ?_
         refine norm_ ?_ (hJ (.slice B203001 1 d203001) _ (HS.arr [some 0, some 1] (by decide)))
         simp only [putAll, Act.put, ptn]
         (try rfl)
     rintro v203001 w299999 HS
     obtain ⟨B203001, d203001, rfl, m203001⟩ := HS.formn 1 1 rfl (by first | rfl | simp)
     have F := HS.boxes; simp only [bxn] at F
     refine norm_ (a' := ?_) ?_ ?_
     rotate_left
     · simp only [putAll, Act.put, ptn]; rfl
     refine done_ (done_of HT.out (by kernel_rfl)) ?_
     obtain rfl := zsome H
     go_wp2
     go_ret
     exact ⟨rfl, HS.pick [] (by decide) (by rfl)⟩
    replace H := zpos c3 H
    have c3a := beq_iff_eq.mpr c3
    have c3b := bne_eq_false_iff_eq.mpr c3
    clear c3
    (try simp only [c3a, c3b, dcn])
    go_wp2
    replace HS := HS.nil 5 (Zd.int .u8)
    go_loopg [4, 15] k (fun kq v_4 v_15 w' => ∃ (l19 : List Int) (v20 : Value) (x21 : Int), v_4 = v20 ∧ v_15 = .int .i64 x21 ∧ Aside0 (impl_itemText.l0 kq l19 x21 a0 = some r) ∧ Aside0 (kq ≤ k) ∧ Hp noFP w w' [.box g1 [.int .i64 a0.f0, .string a0.f1, .slice Ap0 a0.f2.length cp0] 182, .own (Zd.slice 5 (Zd.int .u8)) l19 [v20]])
    case atStart => exact ⟨_, _, _, rfl, rfl, H, ⟨Nat.le_refl _⟩, HS⟩
    case round =>
     clear HS H; (try clear F)
     obtain ⟨l19, v20, x21, rfl, rfl, H, HKk18, HS⟩ := hrel
     obtain ⟨B20, d20, rfl, m20⟩ := HS.form 1 rfl
     have F := HS.boxes; simp only [bxn] at F
     cases gk with
     | zero => exact absurd H.out (by simp [impl_itemText.l0])
     | succ k18 =>
      simp only [impl_itemText.l0] at H
      by_cases c23 : x21 < (a0.f2.length : Int)
      case pos =>
       replace H := zpos c23 H
       replace c23 := eq_true c23
       by_cases c24 : 0 ≤ x21
       case neg => exact zno c24 H
       replace H := zpos c24 H
       replace c24 := eq_true c24
       by_cases c25 : x21 < (a0.f2.length : Int)
       case neg => exact zno c25 H
       replace H := zpos c25 H
       replace c25 := eq_true c25
       obtain ⟨ad26, B26_2, d26_2, rfl, e26_0, e26_1, e26_2, m26_2, y26_2⟩ := at_T182 gp0 x21 (of_eq_true c24) (of_eq_true c25)
       have e26_0_26 := (HS.keepc e26_0)
       have e26_1_26 := (HS.keepc e26_1)
       have e26_2_26 := (HS.keepc e26_2)
       replace H := zbind H; obtain ⟨t31, ht31, H⟩ := H
       by_cases c33 : l19.length + t31.size ≤ 140737488355328
       case neg => exact zno c33 H
       replace H := zpos c33 H
       replace c33 := eq_true c33
       replace H := zlets H; obtain ⟨y34, e_y34, H⟩ := H
       go_wp2_with (first | ((with_reducible refine gate_dst (N := 6) rfl ?_); refine ev_box rfl HS (by first | (go_simp; done) | (go_simp; rfl)) rfl ?_; clear HS; (try clear F); intro g6 w6 HS; (try simp only [hpn, hpm] at HS); have F := HS.boxes; simp only [bxn] at F) | ((with_reducible refine gate_store (p := 6) rfl ?_); refine ev_store rfl 2 0 HS (seg := [.int .i64 ((rd_T182 a0.f2 x21).f0), .string ((rd_T182 a0.f2 x21).f1), .slice B26_2 (rd_T182 a0.f2 x21).f2.length d26_2]) rfl rfl rfl rfl rfl rfl (by kernel_rfl) (by simp [wrt]) (by simp [Value.oneCell']) ?_; clear HS; (try clear F); intro w29 HS; (try simp only [hpn, hpm] at HS); have F := HS.boxes; simp only [bxn] at F) | ((with_reducible refine gate_dst (N := 21) rfl ?_); refine ev_call rfl Tryz.func200 (by kernel_rfl) rfl #[.agg #[.int .i64 ((rd_T182 a0.f2 x21).f0), .string ((rd_T182 a0.f2 x21).f1), .slice B26_2 (rd_T182 a0.f2 x21).f2.length d26_2]] rfl (by simp only [mpn]; rfl) ?_; refine (IH (by have := HK0.out; have := HKk18.out; omega) ht31.out (HS.ro y26_2) m26_2).mono ?_; rintro _ wt31 ⟨rfl, HQ⟩; refine ⟨_, rfl, ?_⟩; replace HS := HS.call HQ; clear HQ; (try clear F); (try simp only [hpn, hpm] at HS); have F := HS.boxes; simp only [bxn] at F) | ((with_reducible refine gate_dst (N := 22) rfl ?_); refine ev_appends rfl 1 HS rfl rfl rfl rfl Tryz.underlying225 Tryz.underlying9 info5 (by have := of_eq_true c33; first | omega | (simp only [List.length_cons, List.length_nil, List.length_append, Nat.zero_add] at this ⊢; omega)) ?_; clear HS; (try clear F); intro v34 w34 HS; rw [← e_y34.out] at HS; obtain ⟨B34, d34, rfl, m34⟩ := HS.form 3 rfl; (try simp only [hpn, hpm] at HS); have F := HS.boxes; simp only [bxn] at F))
       go_roundg k18
       case measure => have := HK0.out; have := HKk18.out; omega
       case rel => exact ⟨_, _, _, rfl, rfl, H, ⟨by have := HK0.out; have := HKk18.out; omega⟩, HS.pick [0, 3] (by decide) (by rfl)⟩
      replace H := zneg c23 H
      replace c23 := eq_false c23
      go_wp2_with (first | ((with_reducible refine gate_dst (N := 25) rfl ?_); refine ev_val rfl (run_str rfl rfl Tryz.underlying225 Tryz.underlying5 Tryz.underlying9 (HS.rd 1 rfl)) ?_))
      replace H := zbind H; obtain ⟨t107001, ht107001, H⟩ := H
      by_cases c108001 : (strOfNums ([(a0.f0 % 256)] : List Int)).size + t107001.size ≤ 9223372036854775807
      case neg => exact zno c108001 H
      replace H := zpos c108001 H
      replace c108001 := eq_true c108001
      by_cases c110001 : ((strOfNums ([(a0.f0 % 256)] : List Int)) ++ t107001).size + (strOfNums l19).size ≤ 9223372036854775807
      case neg => exact zno c110001 H
      replace H := zpos c110001 H
      replace c110001 := eq_true c110001
      refine dr_start [] HS #[false, false, false, false, false, false, false, false, false, false, false, false] (by kernel_rfl) rfl rfl impl_itemText.tT10 (fun w37 HT HS HH => ?_)
      (try clear F)
      refine join_ 0 #[true, true, true, true, true, true, true, true, true, true, true, true] (fun (v103001 : Value) => ([(26, .pointer (some ⟨g1, 0, none⟩)), (27, .int .i64 a0.f0), (28, .int .u8 (a0.f0 % 256)), (29, v103001), (30, .string (strOfNums ([(a0.f0 % 256)] : List Int))), (31, .string (strOfNums l19)), (32, .int .i64 ((strOfNums l19).size : Int)), (33, .string t107001), (34, .string ((strOfNums ([(a0.f0 % 256)] : List Int)) ++ t107001)), (35, .string (strOfNums l19)), (36, .string (((strOfNums ([(a0.f0 % 256)] : List Int)) ++ t107001) ++ (strOfNums l19))), (2, .string (((strOfNums ([(a0.f0 % 256)] : List Int)) ++ t107001) ++ (strOfNums l19)))] : List (Tmp × Value))) (fun (v103001 : Value) w' => Hp noFP w w' [.box g1 [.int .i64 a0.f0, .string a0.f1, .slice Ap0 a0.f2.length cp0] 182, .own (Zd.slice 5 (Zd.int .u8)) l19 [.slice B20 l19.length d20], .own (Zd.slice 5 (Zd.int .u8)) ([(a0.f0 % 256)] : List Int) [v103001]]) ?_ ?_
      rotate_left
      · intro hJ
        refine drq_of [(0, some 26), (1, some 27), (2, some 28), (5, some 31), (6, some 32), (9, some 35)] ?_
        repeat (first | (refine drq_pure HT (v := ?_) (a' := ?_) rfl rfl (by kernel_rfl) (fun _ _ _ h => h) (.inl ⟨by rfl, ?_⟩) ?_ ?_; rotate_left; (intro w'; go_simp; with_reducible rfl); rotate_left; (simp only [Act.put, ptn]; rfl)) | (refine drq_take HT HH (v := ?_) (a' := ?_) rfl rfl (by kernel_rfl) (fun _ _ _ h => h) (.inl ⟨by rfl, ?_⟩) ?_ ?_; rotate_left; (rintro w' ⟨rs', HS'⟩; have F := HS'.boxes; simp only [bxn, List.cons_append, List.nil_append] at F; go_simp; with_reducible rfl); rotate_left; (simp only [Act.put, ptn]; rfl)))
        refine drq_end ?_
        refine dr_any [3, 7] HT (by kernel_rfl) (by decide) (AllReadyL.cons rfl (by decide) (fun K hK => ?_) (AllReadyL.cons rfl (by decide) (fun K hK => ?_) AllReadyL.nil))
        · refine if_wp (by rfl) ?_; refine wp_lit (Zd.int .u8) [] ([(a0.f0 % 256)] : List Int) ([.int .u8 (a0.f0 % 256)] ++ []) HS (by first | (go_simp; done) | (go_simp; rfl)) rfl rfl (Nat.le_of_ble_eq_true rfl) (MadeL.cons (js1 := []) (c := [.int .u8 (a0.f0 % 256)]) rfl (made_flat (fun _ => rfl)) MadeL.nil (by decide)) ?_; clear HS; (try clear F); intro v103001 w103001 HS; obtain ⟨B103001, d103001, rfl, m103001⟩ := HS.formn 1 2 rfl rfl
          (try simp only [hpn, hpm] at HS)
          have F := HS.boxes; simp only [bxn] at F
          refine hK.out _ _ ⟨_, HS⟩ (fun HH => ?_)
          clear hK K
          refine norm_ (a' := ?_) ?_ ?_
          rotate_left
          · show Act.put _ (some 29) _ = _; simp only [Act.put, ptn]; rfl
          refine dr_any [4, 7] HT (by kernel_rfl) (by decide) (AllReadyL.cons rfl (by decide) (fun K hK => ?_) (AllReadyL.cons rfl (by decide) (fun K hK => ?_) AllReadyL.nil))
          · refine if_wp (by rfl) ?_; refine wp_run (run_str rfl rfl Tryz.underlying225 Tryz.underlying5 Tryz.underlying9 (HS.rd 2 rfl)) ?_
            (try simp only [hpn, hpm] at HS)
            have F := HS.boxes; simp only [bxn] at F
            refine hK.out _ _ ⟨_, HS⟩ (fun HH => ?_)
            clear hK K
            refine norm_ (a' := ?_) ?_ ?_
            rotate_left
            · show Act.put _ (some 30) _ = _; simp only [Act.put, ptn]; rfl
            refine dr_one 7 HT rfl (by kernel_rfl) (by decide) (fun K hK => ?_)
            refine goes_ Tryz.func228 (by kernel_rfl) rfl #[.int .i64 ((strOfNums l19).size : Int)] (by rfl) rfl rfl (by simp only [mpn]; rfl) ?_; refine (impl_lengthText.calls ht107001.out).mono ?_; rintro _ wt107001 ⟨rfl, HQ⟩; refine ⟨_, rfl, ?_⟩; replace HS := HS.call HQ; clear HQ; (try clear F)
            (try simp only [hpn, hpm] at HS)
            have F := HS.boxes; simp only [bxn] at F
            refine hK.out _ _ ⟨_, HS⟩ (fun HH => ?_)
            clear hK K
            refine norm_ (a' := ?_) ?_ ?_
            rotate_left
            · show Act.put _ (some 33) _ = _; simp only [Act.put, ptn]; rfl
            refine dr_pure 8 (some 34) HT (v := .string ((strOfNums ([(a0.f0 % 256)] : List Int)) ++ t107001)) (a' := ?_) rfl rfl (by kernel_rfl) (fun _ _ _ h => h) (.inl ⟨by rfl, fun w' => (run_cat rfl rfl rfl (of_eq_true c108001))⟩) ?_ ?_
            rotate_left
            · simp only [Act.put, ptn]; rfl
            refine dr_pure 10 (some 36) HT (v := .string (((strOfNums ([(a0.f0 % 256)] : List Int)) ++ t107001) ++ (strOfNums l19))) (a' := ?_) rfl rfl (by kernel_rfl) (fun _ _ _ h => h) (.inl ⟨by rfl, fun w' => (run_cat rfl rfl rfl (of_eq_true c110001))⟩) ?_ ?_
            rotate_left
            · simp only [Act.put, ptn]; rfl
            refine drq_of [(11, some 2)] ?_
            repeat (first | (refine drq_pure HT (v := ?_) (a' := ?_) rfl rfl (by kernel_rfl) (fun _ _ _ h => h) (.inl ⟨by rfl, ?_⟩) ?_ ?_; rotate_left; (intro w'; go_simp; with_reducible rfl); rotate_left; (simp only [Act.put, ptn]; rfl)))
            refine drq_end ?_
            refine norm_ ?_ (hJ (.slice B103001 1 d103001) _ (HS.arr [some 0, some 1, some 2] (by decide)))
            simp only [putAll, Act.put, ptn]
            (try rfl)
          · refine goes_ Tryz.func228 (by kernel_rfl) rfl #[.int .i64 ((strOfNums l19).size : Int)] (by rfl) rfl rfl (by simp only [mpn]; rfl) ?_; refine (impl_lengthText.calls ht107001.out).mono ?_; rintro _ wt107001 ⟨rfl, HQ⟩; refine ⟨_, rfl, ?_⟩; replace HS := HS.call HQ; clear HQ; (try clear F)
            (try simp only [hpn, hpm] at HS)
            have F := HS.boxes; simp only [bxn] at F
            refine hK.out _ _ ⟨_, HS⟩ (fun HH => ?_)
            clear hK K
            refine norm_ (a' := ?_) ?_ ?_
            rotate_left
            · show Act.put _ (some 33) _ = _; simp only [Act.put, ptn]; rfl
            refine dr_one 4 HT rfl (by kernel_rfl) (by decide) (fun K hK => ?_)
            refine if_wp (by rfl) ?_; refine wp_run (run_str rfl rfl Tryz.underlying225 Tryz.underlying5 Tryz.underlying9 (HS.rd 2 rfl)) ?_
            (try simp only [hpn, hpm] at HS)
            have F := HS.boxes; simp only [bxn] at F
            refine hK.out _ _ ⟨_, HS⟩ (fun HH => ?_)
            clear hK K
            refine norm_ (a' := ?_) ?_ ?_
            rotate_left
            · show Act.put _ (some 30) _ = _; simp only [Act.put, ptn]; rfl
            refine dr_pure 8 (some 34) HT (v := .string ((strOfNums ([(a0.f0 % 256)] : List Int)) ++ t107001)) (a' := ?_) rfl rfl (by kernel_rfl) (fun _ _ _ h => h) (.inl ⟨by rfl, fun w' => (run_cat rfl rfl rfl (of_eq_true c108001))⟩) ?_ ?_
            rotate_left
            · simp only [Act.put, ptn]; rfl
            refine dr_pure 10 (some 36) HT (v := .string (((strOfNums ([(a0.f0 % 256)] : List Int)) ++ t107001) ++ (strOfNums l19))) (a' := ?_) rfl rfl (by kernel_rfl) (fun _ _ _ h => h) (.inl ⟨by rfl, fun w' => (run_cat rfl rfl rfl (of_eq_true c110001))⟩) ?_ ?_
            rotate_left
            · simp only [Act.put, ptn]; rfl
            refine drq_of [(11, some 2)] ?_
            repeat (first | (refine drq_pure HT (v := ?_) (a' := ?_) rfl rfl (by kernel_rfl) (fun _ _ _ h => h) (.inl ⟨by rfl, ?_⟩) ?_ ?_; rotate_left; (intro w'; go_simp; with_reducible rfl); rotate_left; (simp only [Act.put, ptn]; rfl)))
            refine drq_end ?_
            refine norm_ ?_ (hJ (.slice B103001 1 d103001) _ (HS.arr [some 0, some 1, some 2] (by decide)))
            simp only [putAll, Act.put, ptn]
            (try rfl)
        · refine goes_ Tryz.func228 (by kernel_rfl) rfl #[.int .i64 ((strOfNums l19).size : Int)] (by rfl) rfl rfl (by simp only [mpn]; rfl) ?_; refine (impl_lengthText.calls ht107001.out).mono ?_; rintro _ wt107001 ⟨rfl, HQ⟩; refine ⟨_, rfl, ?_⟩; replace HS := HS.call HQ; clear HQ; (try clear F)
          (try simp only [hpn, hpm] at HS)
          have F := HS.boxes; simp only [bxn] at F
          refine hK.out _ _ ⟨_, HS⟩ (fun HH => ?_)
          clear hK K
          refine norm_ (a' := ?_) ?_ ?_
          rotate_left
          · show Act.put _ (some 33) _ = _; simp only [Act.put, ptn]; rfl
          refine dr_one 3 HT rfl (by kernel_rfl) (by decide) (fun K hK => ?_)
          refine if_wp (by rfl) ?_; refine wp_lit (Zd.int .u8) [] ([(a0.f0 % 256)] : List Int) ([.int .u8 (a0.f0 % 256)] ++ []) HS (by first | (go_simp; done) | (go_simp; rfl)) rfl rfl (Nat.le_of_ble_eq_true rfl) (MadeL.cons (js1 := []) (c := [.int .u8 (a0.f0 % 256)]) rfl (made_flat (fun _ => rfl)) MadeL.nil (by decide)) ?_; clear HS; (try clear F); intro v103001 w103001 HS; obtain ⟨B103001, d103001, rfl, m103001⟩ := HS.formn 1 2 rfl rfl
          (try simp only [hpn, hpm] at HS)
          have F := HS.boxes; simp only [bxn] at F
          refine hK.out _ _ ⟨_, HS⟩ (fun HH => ?_)
          clear hK K
          refine norm_ (a' := ?_) ?_ ?_
          rotate_left
          · show Act.put _ (some 29) _ = _; simp only [Act.put, ptn]; rfl
          refine dr_one 4 HT rfl (by kernel_rfl) (by decide) (fun K hK => ?_)
          refine if_wp (by rfl) ?_; refine wp_run (run_str rfl rfl Tryz.underlying225 Tryz.underlying5 Tryz.underlying9 (HS.rd 2 rfl)) ?_
          (try simp only [hpn, hpm] at HS)
          have F := HS.boxes; simp only [bxn] at F
          refine hK.out _ _ ⟨_, HS⟩ (fun HH => ?_)
          clear hK K
          refine norm_ (a' := ?_) ?_ ?_
          rotate_left
          · show Act.put _ (some 30) _ = _; simp only [Act.put, ptn]; rfl
          refine dr_pure 8 (some 34) HT (v := .string ((strOfNums ([(a0.f0 % 256)] : List Int)) ++ t107001)) (a' := ?_) rfl rfl (by kernel_rfl) (fun _ _ _ h => h) (.inl ⟨by rfl, fun w' => (run_cat rfl rfl rfl (of_eq_true c108001))⟩) ?_ ?_
          rotate_left
          · simp only [Act.put, ptn]; rfl
          refine dr_pure 10 (some 36) HT (v := .string (((strOfNums ([(a0.f0 % 256)] : List Int)) ++ t107001) ++ (strOfNums l19))) (a' := ?_) rfl rfl (by kernel_rfl) (fun _ _ _ h => h) (.inl ⟨by rfl, fun w' => (run_cat rfl rfl rfl (of_eq_true c110001))⟩) ?_ ?_
          rotate_left
          · simp only [Act.put, ptn]; rfl
          refine drq_of [(11, some 2)] ?_
          repeat (first | (refine drq_pure HT (v := ?_) (a' := ?_) rfl rfl (by kernel_rfl) (fun _ _ _ h => h) (.inl ⟨by rfl, ?_⟩) ?_ ?_; rotate_left; (intro w'; go_simp; with_reducible rfl); rotate_left; (simp only [Act.put, ptn]; rfl)))
          refine drq_end ?_
          refine norm_ ?_ (hJ (.slice B103001 1 d103001) _ (HS.arr [some 0, some 1, some 2] (by decide)))
          simp only [putAll, Act.put, ptn]
          (try rfl)
      rintro v103001 w199999 HS
      obtain ⟨B103001, d103001, rfl, m103001⟩ := HS.formn 1 2 rfl (by first | rfl | simp)
      have F := HS.boxes; simp only [bxn] at F
      refine norm_ (a' := ?_) ?_ ?_
      rotate_left
      · simp only [putAll, Act.put, ptn]; rfl
      refine done_ (done_of HT.out (by kernel_rfl)) ?_
      obtain rfl := zsome H
      go_wp2
      go_ret
      exact ⟨rfl, HS.pick [] (by decide) (by rfl)⟩
theorem impl_itemText.calls {k : Nat} {a0 : S182} {Ap0 : Option Addr} {np0 cp0 : Nat} {r : ByteArray} {w : World} (h : impl_itemText.f k a0 = some r) (gp0 : k182.C w Ap0 np0 a0.f2) (lp0 : np0 ≤ cp0) :
    Calls Tryz.prog 200 #[.agg #[.int .i64 a0.f0, .string a0.f1, .slice Ap0 np0 cp0]] w (fun e w' => e = .returned (.string r) ∧ Hp noFP w w' []) := impl_itemText.calls_ k (Nat.le_refl k) h gp0 lp0
/-! ### impl_ItemText: function 144 -/
def impl_ItemText.f (k : Nat) (a0 : S182) : Option (ByteArray × Bool) := ((impl_ItemOk.f k a0).bind fun t3 => (if t3 = true then ((impl_itemText.f k a0).bind fun t6 => (if 4000 < (t6.size : Int) then (some ((⟨#[]⟩ : ByteArray), false)) else (some (t6, true)))) else (some ((⟨#[]⟩ : ByteArray), false))))
set_option maxHeartbeats 16000000 in
theorem impl_ItemText.calls {k : Nat} {a0 : S182} {Ap0 : Option Addr} {np0 cp0 : Nat} {r1 : ByteArray} {r2 : Bool} {w : World} (h : impl_ItemText.f k a0 = some (r1, r2)) (gp0 : k182.C w Ap0 np0 a0.f2) (lp0 : np0 ≤ cp0) :
    Calls Tryz.prog 144 #[.agg #[.int .i64 a0.f0, .string a0.f1, .slice Ap0 np0 cp0]] w (fun e w' => e = .returned (.tuple #[.string r1, .bool r2]) ∧ Hp noFP w w' []) := by
 obtain rfl := C_len gp0
 have HS := Hp.start w
 have H := Aside0.mk h
 clear h
 unfold impl_ItemText.f at H
 go_enter Tryz.func144, Tryz.ntmps144
 replace H := zbind H; obtain ⟨t3, ht3, H⟩ := H
 go_upto_if 7 with (first | ((with_reducible refine gate_dst (N := 1) rfl ?_); refine ev_box rfl HS (by first | (go_simp; done) | (go_simp; rfl)) rfl ?_; clear HS; (try clear F); intro g1 w1 HS; (try simp only [hpn, hpm] at HS); have F := HS.boxes; simp only [bxn] at F) | ((with_reducible refine gate_dst (N := 6) rfl ?_); refine ev_call rfl Tryz.func199 (by kernel_rfl) rfl #[.agg #[.int .i64 a0.f0, .string a0.f1, .slice Ap0 a0.f2.length cp0]] rfl (by simp only [mpn]; rfl) ?_; refine (impl_ItemOk.calls ht3.out (HS.ro gp0) lp0).mono ?_; rintro _ wt3 ⟨rfl, HQ⟩; refine ⟨_, rfl, ?_⟩; replace HS := HS.call HQ; clear HQ; (try clear F); (try simp only [hpn, hpm] at HS); have F := HS.boxes; simp only [bxn] at F))
 by_cases c5 : t3 = true
 case neg =>
  replace H := zneg c5 H
  replace c5 := eq_false_of_ne_true c5
  subst c5
  (try simp only [dcn, if_true, Bool.false_eq_true, if_false])
  obtain ⟨rfl, rfl⟩ := zsome2 H
  go_wp2
  exact bodyPost_ret (results_list (rs := [.tmp 2, .tmp 3]) rfl (by simp) (.tmp (.tmp .nil))) rfl ⟨rfl, HS.pick [] (by decide) (by rfl)⟩
 replace H := zpos c5 H
 subst c5
 (try simp only [dcn, if_true, Bool.false_eq_true, if_false])
 replace H := zbind H; obtain ⟨t6, ht6, H⟩ := H
 go_upto_if 12 with (first | ((with_reducible refine gate_dst (N := 9) rfl ?_); refine ev_call rfl Tryz.func200 (by kernel_rfl) rfl #[.agg #[.int .i64 a0.f0, .string a0.f1, .slice Ap0 a0.f2.length cp0]] rfl (by simp only [mpn]; rfl) ?_; refine (impl_itemText.calls ht6.out (HS.ro gp0) lp0).mono ?_; rintro _ wt6 ⟨rfl, HQ⟩; refine ⟨_, rfl, ?_⟩; replace HS := HS.call HQ; clear HQ; (try clear F); (try simp only [hpn, hpm] at HS); have F := HS.boxes; simp only [bxn] at F))
 by_cases c8 : 4000 < (t6.size : Int)
 case pos =>
  replace H := zpos c8 H
  replace c8 := eq_true c8
  (try simp only [c8, dcn])
  obtain ⟨rfl, rfl⟩ := zsome2 H
  go_wp2
  exact bodyPost_ret (results_list (rs := [.tmp 2, .tmp 3]) rfl (by simp) (.tmp (.tmp .nil))) rfl ⟨rfl, HS.pick [] (by decide) (by rfl)⟩
 replace H := zneg c8 H
 replace c8 := eq_false c8
 (try simp only [c8, dcn])
 obtain ⟨rfl, rfl⟩ := zsome2 H
 go_wp2
 exact bodyPost_ret (results_list (rs := [.tmp 2, .tmp 3]) rfl (by simp) (.tmp (.tmp .nil))) rfl ⟨rfl, HS.pick [] (by decide) (by rfl)⟩
end Go.Proofs.YtacocpknielofaaGreatDoor.F
