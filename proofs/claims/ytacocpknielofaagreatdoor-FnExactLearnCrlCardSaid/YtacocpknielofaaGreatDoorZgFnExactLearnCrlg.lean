/- Functions of the program and of the law, and that their calls do what is written here. -/
import Derived.Test.YtacocpknielofaaGreatDoorZgFnExactLearnCrlf
namespace Go.Proofs.YtacocpknielofaaGreatDoor.F
open Go.RowKit YtacocpknielofaaGreatDoorW.PrintWords YtacocpknielofaaGreatDoorW.PrintLast YtacocpknielofaaGreatDoorW.PrintMore Z
attribute [local go_sem] max2_int min2_int max_two min_two max_three min_three max_four min_four
set_option linter.unusedVariables false
set_option linter.unusedSimpArgs false
set_option maxRecDepth 100000
set_option maxHeartbeats 16000000
def impl_copyServer.l0 : Nat → (List S202) → Int → S46 → S33 → (List S205) → Option (S46)
  | 0, _, _, _, _, _ => none
  | k + 1, l52, x54, a0, t5, y13 => (if x54 < (a0.f1.length : Int) then (if 0 ≤ x54 then (if x54 < (a0.f1.length : Int) then (if 0 + (rd_T202 a0.f1 x54).f1.length ≤ 17592186044416 then (lets (([] : List Int) ++ ((rd_T202 a0.f1 x54).f1)) fun y65 => (if 0 + (rd_T202 a0.f1 x54).f2.f1.length ≤ 17592186044416 then (lets (([] : List Int) ++ ((rd_T202 a0.f1 x54).f2.f1)) fun y70 => (if l52.length + 1 ≤ 1759218604441 then (lets (l52 ++ ([(⟨(rd_T202 a0.f1 x54).f0, y65, (⟨(rd_T202 a0.f1 x54).f2.f0, y70, (rd_T202 a0.f1 x54).f2.f2, (rd_T202 a0.f1 x54).f2.f3, (rd_T202 a0.f1 x54).f2.f4⟩ : S200)⟩ : S202)] : List S202)) fun y77 => (impl_copyServer.l0 k y77 (wrap64 (x54 + 1)) a0 t5 y13)) else none)) else none)) else none) else none) else none) else (some (⟨(⟨t5.f0, t5.f1, t5.f2⟩ : S33), l52, a0.f2, a0.f3, a0.f4, y13⟩ : S46)))
def impl_copyServer.f (k : Nat) (a0 : S46) : Option (S46) := ((impl_copyStore.f k a0.f0).bind fun t5 => (if 0 + a0.f5.length ≤ 3518437208883 then (lets (([] : List S205) ++ a0.f5) fun y13 => (impl_copyServer.l0 k [] 0 a0 t5 y13)) else none))
theorem impl_copyServer.calls {k : Nat} {a0 : S46} {Ap0 Ap1 Ap2 Ap3 Ap4 : Option Addr} {np0 cp0 np1 cp1 np2 cp2 np3 cp3 np4 cp4 : Nat} {r : S46} {w : World} (h : impl_copyServer.f k a0 = some r) (gp0 : k91.C w Ap0 np0 a0.f0.f0) (lp0 : np0 ≤ cp0) (gp1 : k81.C w Ap1 np1 a0.f0.f1) (lp1 : np1 ≤ cp1) (gp2 : k115.C w Ap2 np2 a0.f0.f2) (lp2 : np2 ≤ cp2) (gp3 : k202.C w Ap3 np3 a0.f1) (lp3 : np3 ≤ cp3) (gp4 : k205.C w Ap4 np4 a0.f5) (lp4 : np4 ≤ cp4) :
    Calls Tryz.prog 128 #[.agg #[.slice Ap0 np0 cp0, .slice Ap1 np1 cp1, .slice Ap2 np2 cp2, .slice Ap3 np3 cp3, .int .i64 a0.f2, .int .i64 a0.f3, .int .i64 a0.f4, .slice Ap4 np4 cp4]] w (fun e w' => ∃ v0_ v1_ v2_ v3_ v4_ : Value, e = .returned (.agg #[v0_, v1_, v2_, v3_, .int .i64 r.f2, .int .i64 r.f3, .int .i64 r.f4, v4_]) ∧ Hp noFP w w' [.own (Zd.slice 91 q91) r.f0.f0 [v0_], .own (Zd.slice 81 q81) r.f0.f1 [v1_], .own (Zd.slice 115 q115) r.f0.f2 [v2_], .own (Zd.slice 202 q202) r.f1 [v3_], .own (Zd.slice 205 q205) r.f5 [v4_]]) := by
 obtain rfl := C_len gp0
 obtain rfl := C_len gp1
 obtain rfl := C_len gp2
 obtain rfl := C_len gp3
 obtain rfl := C_len gp4
 have HS := Hp.start w
 have H := Aside0.mk h
 clear h
 unfold impl_copyServer.f at H
 go_enter Tryz.func128, Tryz.ntmps128
 replace H := zbind H; obtain ⟨t5, ht5, H⟩ := H
 replace H := zgo H; obtain ⟨c12, H⟩ := H
 replace H := zlets H; obtain ⟨y13, e_y13, H⟩ := H
 go_wp2_with (first | ((with_reducible refine gd 1 rfl ?_); refine ev_bx HS ?_; clear HS; intro g1 w1 HS F) | ((with_reducible refine gd 2 rfl ?_); refine ev_bx HS ?_; clear HS; intro g2 w2 HS F) | ((with_reducible refine gd 10 rfl ?_); refine ev_cl3 HS (impl_copyStore.calls ht5.out (HS.ro gp0) lp0 (HS.ro gp1) lp1 (HS.ro gp2) lp2) Tryz.func108 ?_; clear HS; intro v6 v7 v8 wt5 HS F; obtain ⟨B6, d6, rfl, m6⟩ := HS.form 2 rfl; obtain ⟨B7, d7, rfl, m7⟩ := HS.form 3 rfl; obtain ⟨B8, d8, rfl, m8⟩ := HS.form 4 rfl) | ((with_reducible refine gate_store (p := 11) rfl ?_); refine ev_st 0 0 HS (seg := [.slice B6 t5.f0.length d6, .slice B7 t5.f1.length d7, .slice B8 t5.f2.length d8]) ?_; clear HS; intro w10 HS F) | ((with_reducible refine gd 14 rfl ?_); replace HS := HS.nil 205 q205; refine ev_apr fl205 5 HS rfl (HS.ro gp4) Tryz.underlying44 info205 (of_eq_true c12) ?_; clear HS; intro v13 w13 HS; rw [← e_y13.out] at HS; obtain ⟨B13, d13, rfl, m13⟩ := HS.form 6 rfl; (try simp only [hpn, hpm] at HS); have F := HS.boxes; simp only [bxn] at F) | ((with_reducible refine gate_store (p := 15) rfl ?_); refine ev_st 0 7 HS (seg := [.slice B13 y13.length d13]) ?_; clear HS; intro w15 HS F) | ((with_reducible refine gate_store (p := 16) rfl ?_); refine ev_st 0 3 HS (seg := [.slice none 0 0]) ?_; clear HS; intro w17 HS F))
 replace HS := HS.nil 202 q202
 go_loopg [19] k (fun kq v_19 w' => ∃ (l52 : List S202) (v53 : Value) (x54 : Int), v_19 = .int .i64 x54 ∧ Aside0 (impl_copyServer.l0 kq l52 x54 a0 t5 y13 = some r) ∧ Aside0 (kq ≤ k) ∧ Hp noFP w w' [.box g1 [.slice B6 t5.f0.length d6, .slice B7 t5.f1.length d7, .slice B8 t5.f2.length d8, v53, .int .i64 a0.f2, .int .i64 a0.f3, .int .i64 a0.f4, .slice B13 y13.length d13] 46, .box g2 [.slice none 0 0, .slice none 0 0, .slice none 0 0, .slice none 0 0, .int .i64 0, .int .i64 0, .int .i64 0, .slice none 0 0] 46, .own (Zd.slice 91 q91) t5.f0 [.slice B6 t5.f0.length d6], .own (Zd.slice 81 q81) t5.f1 [.slice B7 t5.f1.length d7], .own (Zd.slice 115 q115) t5.f2 [.slice B8 t5.f2.length d8], .emp, .own (Zd.slice 205 q205) y13 [.slice B13 y13.length d13], .own (Zd.slice 202 q202) l52 [v53]])
 case atStart => exact ⟨_, _, _, rfl, H, ⟨Nat.le_refl _⟩, HS⟩
 case round =>
  clear HS H; (try clear F)
  obtain ⟨l52, v53, x54, rfl, H, HKk51, HS⟩ := hrel
  obtain ⟨B53, d53, rfl, m53⟩ := HS.form 7 rfl
  have F := HS.boxes; simp only [bxn] at F
  cases gk with
  | zero => exact absurd H.out (by simp [impl_copyServer.l0])
  | succ k51 =>
   simp only [impl_copyServer.l0] at H
   replace H := znif H; rcases H with ⟨c56, H⟩ | ⟨c56, H⟩
   case inl =>
    obtain rfl := zsome H
    go_wp2_with ((with_reducible refine gate_store (p := 2) rfl ?_); refine ev_st 1 0 HS (seg := [.slice B6 t5.f0.length d6, .slice B7 t5.f1.length d7, .slice B8 t5.f2.length d8, .slice B53 l52.length d53, .int .i64 a0.f2, .int .i64 a0.f3, .int .i64 a0.f4, .slice B13 y13.length d13]) ?_; clear HS; intro w81 HS F)
    exact bodyPost_ret (results_single rfl (.cell _ _ _ _ _ rfl (HS.boxAt (i := 1) rfl) Tryz.underlying46 rfl (by kernel_rfl) .nil)) rfl ⟨_, _, _, _, _, rfl, HS.pick [2, 3, 4, 7, 6] (by decide) (by rfl)⟩
   replace H := zgo H; obtain ⟨c57, H⟩ := H
   replace H := zgo H; obtain ⟨c58, H⟩ := H
   obtain ⟨ad59, B59_1, d59_1, B59_3, d59_3, rfl, e59_0, e59_1, e59_2, e59_3, e59_4, e59_5, e59_6, m59_1, y59_1, m59_3, y59_3⟩ := at_T202 gp3 x54 (of_eq_true c57) (of_eq_true c58)
   have e59_0_59 := HS.keepc e59_0
   have e59_1_59 := HS.keepc e59_1
   have e59_2_59 := HS.keepc e59_2
   have e59_3_59 := HS.keepc e59_3
   have e59_4_59 := HS.keepc e59_4
   have e59_5_59 := HS.keepc e59_5
   have e59_6_59 := HS.keepc e59_6
   replace H := zgo H; obtain ⟨c64, H⟩ := H
   replace H := zlets H; obtain ⟨y65, e_y65, H⟩ := H
   replace H := zgo H; obtain ⟨c69, H⟩ := H
   replace H := zlets H; obtain ⟨y70, e_y70, H⟩ := H
   replace H := zgo H; obtain ⟨c76, H⟩ := H
   replace H := zlets H; obtain ⟨y77, e_y77, H⟩ := H
   go_wp2_with (first | ((with_reducible refine gd 5 rfl ?_); refine ev_bx HS ?_; clear HS; intro g5 w5 HS F) | ((with_reducible refine gate_store (p := 5) rfl ?_); refine ev_st 8 0 HS (seg := [.int .i64 ((rd_T202 a0.f1 x54).f0), .slice B59_1 (rd_T202 a0.f1 x54).f1.length d59_1, .int .i64 ((rd_T202 a0.f1 x54).f2.f0), .slice B59_3 (rd_T202 a0.f1 x54).f2.f1.length d59_3, .bool ((rd_T202 a0.f1 x54).f2.f2), .bool ((rd_T202 a0.f1 x54).f2.f3), .int .i64 ((rd_T202 a0.f1 x54).f2.f4)]) ?_; clear HS; intro w62 HS F) | ((with_reducible refine gd 25 rfl ?_); replace HS := HS.nil 3 (Zd.int .i64); refine ev_apr (flat_int _) 9 HS rfl (HS.ro y59_1) Tryz.underlying52 info3 (of_eq_true c64) ?_; clear HS; intro v65 w65 HS; rw [← e_y65.out] at HS; obtain ⟨B65, d65, rfl, m65⟩ := HS.form 10 rfl; (try simp only [hpn, hpm] at HS); have F := HS.boxes; simp only [bxn] at F) | ((with_reducible refine gate_store (p := 26) rfl ?_); refine ev_st 8 1 HS (seg := [.slice B65 y65.length d65]) ?_; clear HS; intro w67 HS F) | ((with_reducible refine gd 30 rfl ?_); replace HS := HS.nil 3 (Zd.int .i64); refine ev_apr (flat_int _) 11 HS rfl (HS.ro y59_3) Tryz.underlying52 info3 (of_eq_true c69) ?_; clear HS; intro v70 w70 HS; rw [← e_y70.out] at HS; obtain ⟨B70, d70, rfl, m70⟩ := HS.form 12 rfl; (try simp only [hpn, hpm] at HS); have F := HS.boxes; simp only [bxn] at F) | ((with_reducible refine gate_store (p := 32) rfl ?_); refine ev_st 8 3 HS (seg := [.slice B70 y70.length d70]) ?_; clear HS; intro w72 HS F) | ((with_reducible refine gd 36 rfl ?_); refine ev_li q202 [10, 12] ([(⟨(rd_T202 a0.f1 x54).f0, y65, (⟨(rd_T202 a0.f1 x54).f2.f0, y70, (rd_T202 a0.f1 x54).f2.f2, (rd_T202 a0.f1 x54).f2.f3, (rd_T202 a0.f1 x54).f2.f4⟩ : S200)⟩ : S202)] : List S202) ([.int .i64 ((rd_T202 a0.f1 x54).f0), .slice B65 y65.length d65, .int .i64 ((rd_T202 a0.f1 x54).f2.f0), .slice B70 y70.length d70, .bool ((rd_T202 a0.f1 x54).f2.f2), .bool ((rd_T202 a0.f1 x54).f2.f3), .int .i64 ((rd_T202 a0.f1 x54).f2.f4)] ++ []) HS (MadeL.cons (js1 := [10, 12]) (c := [.int .i64 ((rd_T202 a0.f1 x54).f0), .slice B65 y65.length d65, .int .i64 ((rd_T202 a0.f1 x54).f2.f0), .slice B70 y70.length d70, .bool ((rd_T202 a0.f1 x54).f2.f2), .bool ((rd_T202 a0.f1 x54).f2.f3), .int .i64 ((rd_T202 a0.f1 x54).f2.f4)]) rfl (fun S hd hh => q202_pack (x := (⟨(rd_T202 a0.f1 x54).f0, y65, (⟨(rd_T202 a0.f1 x54).f2.f0, y70, (rd_T202 a0.f1 x54).f2.f2, (rd_T202 a0.f1 x54).f2.f3, (rd_T202 a0.f1 x54).f2.f4⟩ : S200)⟩ : S202)) hd (hh 10 (.own (Zd.slice 3 (Zd.int .i64)) y65 [.slice B65 y65.length d65]) rfl) (hh 12 (.own (Zd.slice 3 (Zd.int .i64)) y70 [.slice B70 y70.length d70]) rfl) (by decide)) MadeL.nil (by decide)) ?_; clear HS; intro v74 w74 HS F; obtain ⟨B74, d74, rfl, m74⟩ := HS.formn 1 13 rfl rfl) | ((with_reducible refine gd 37 rfl ?_); refine ev_ap q202 7 13 HS rfl rfl Tryz.underlying43 info202 (of_eq_true c76) ?_; clear HS; intro v77 w77 HS; rw [← e_y77.out] at HS; obtain ⟨B77, d77, rfl, m77⟩ := HS.form 14 rfl; (try simp only [hpn, hpm] at HS); have F := HS.boxes; simp only [bxn] at F) | ((with_reducible refine gate_store (p := 38) rfl ?_); refine ev_st 0 3 HS (seg := [.slice B77 y77.length d77]) ?_; clear HS; intro w79 HS F))
   go_roundg k51
   case measure => have := HKk51.out; omega
   case rel => exact ⟨_, _, _, rfl, H, ⟨by have := HKk51.out; omega⟩, HS.pick [0, 1, 2, 3, 4, 5, 6, 14] (by decide) (by rfl)⟩
def slices_Index_string_string.l0 : Nat → Int → (List ByteArray) → ByteArray → Option (Int)
  | 0, _, _, _ => none
  | k + 1, x4, a0, a1 => (if x4 < (a0.length : Int) then (if 0 ≤ x4 then (if x4 < (a0.length : Int) then (if a1.toList = (rdOf ByteArray.empty a0 x4).toList then (some x4) else (slices_Index_string_string.l0 k (wrap64 (x4 + 1)) a0 a1)) else none) else none) else (some (-1)))
def slices_Index_string_string.f (k : Nat) (a0 : (List ByteArray)) (a1 : ByteArray) : Option (Int) := (slices_Index_string_string.l0 k 0 a0 a1)
theorem slices_Index_string_string.calls {k : Nat} {a0 : (List ByteArray)} {a1 : ByteArray} {Ap0 : Option Addr} {np0 cp0 : Nat} {r : Int} {w : World} (h : slices_Index_string_string.f k a0 a1 = some r) (gp0 : Kd.string.C w Ap0 np0 a0) (lp0 : np0 ≤ cp0) :
    Calls Tryz.prog 198 #[.slice Ap0 np0 cp0, .string a1] w (fun e w' => e = .returned (.int .i64 r) ∧ Hp noFP w w' []) := by
 obtain rfl := C_len gp0
 have HS := Hp.start w
 have H := Aside0.mk h
 clear h
 unfold slices_Index_string_string.f at H
 go_enter Tryz.func198, Tryz.ntmps198
 go_wp2
 go_loopg [8] k (fun kq v_8 w' => ∃ (x4 : Int), v_8 = .int .i64 x4 ∧ Aside0 (slices_Index_string_string.l0 kq x4 a0 a1 = some r) ∧ Aside0 (kq ≤ k) ∧ Hp noFP w w' [])
 case atStart => exact ⟨_, rfl, H, ⟨Nat.le_refl _⟩, HS⟩
 case round =>
  clear HS H; (try clear F)
  obtain ⟨x4, rfl, H, HKk3, HS⟩ := hrel
  cases gk with
  | zero => exact absurd H.out (by simp [slices_Index_string_string.l0])
  | succ k3 =>
   simp only [slices_Index_string_string.l0] at H
   replace H := znif H; rcases H with ⟨c6, H⟩ | ⟨c6, H⟩
   case inl =>
    obtain rfl := zsome H
    go_wp2
    go_ret
    exact HS.pk
   replace H := zgo H; obtain ⟨c7, H⟩ := H
   replace H := zgo H; obtain ⟨c8, H⟩ := H
   obtain ⟨ad9, rfl, e9_0⟩ := Kd.at_string gp0 x4 (of_eq_true c7) (of_eq_true c8)
   have e9_0_9 := HS.keepc e9_0
   replace H := zif' H; rcases H with ⟨c10, H⟩ | ⟨c10, H⟩
   case inl =>
    have c10a := beq_iff_eq.mpr c10
    have c10b := bne_eq_false_iff_eq.mpr c10
    clear c10
    obtain rfl := zsome H
    go_wp2
    go_ret
    exact HS.pk
   have c10a := beq_eq_false_iff_ne.mpr c10
   have c10b := bne_iff_ne.mpr c10
   clear c10
   go_wp2
   go_roundg k3
   case measure => have := HKk3.out; omega
   case rel => exact ⟨_, rfl, H, ⟨by have := HKk3.out; omega⟩, HS.pick [] (by decide) (by rfl)⟩
def slices_Contains_string_string.f (k : Nat) (a0 : (List ByteArray)) (a1 : ByteArray) : Option (Bool) := ((slices_Index_string_string.f k a0 a1).bind fun t1 => (some (decide (0 ≤ t1))))
theorem slices_Contains_string_string.calls {k : Nat} {a0 : (List ByteArray)} {a1 : ByteArray} {Ap0 : Option Addr} {np0 cp0 : Nat} {r : Bool} {w : World} (h : slices_Contains_string_string.f k a0 a1 = some r) (gp0 : Kd.string.C w Ap0 np0 a0) (lp0 : np0 ≤ cp0) :
    Calls Tryz.prog 143 #[.slice Ap0 np0 cp0, .string a1] w (fun e w' => e = .returned (.bool r) ∧ Hp noFP w w' []) := by
 obtain rfl := C_len gp0
 have HS := Hp.start w
 have H := Aside0.mk h
 clear h
 unfold slices_Contains_string_string.f at H
 go_enter Tryz.func143, Tryz.ntmps143
 replace H := zbind H; obtain ⟨t1, ht1, H⟩ := H
 obtain rfl := zsome H
 go_wp2_with ((with_reducible refine gd 7 rfl ?_); refine ev_cl HS (slices_Index_string_string.calls ht1.out (HS.ro gp0) lp0) Tryz.func198 ?_; clear HS; intro wt1 HS F)
 go_ret
 exact HS.pk
def impl_within.f (a0 : Int) (a1 : Int) (a2 : Int) : Option (Bool) := (if a1 ≤ a0 then (some (decide (a0 ≤ a2))) else (some false))
theorem impl_within.calls {a0 : Int} {a1 : Int} {a2 : Int} {r : Bool} {w : World} (h : impl_within.f a0 a1 a2 = some r) :
    Calls Tryz.prog 79 #[.int .i64 a0, .int .i64 a1, .int .i64 a2] w (fun e w' => e = .returned (.bool r) ∧ Hp noFP w w' []) := by
 have HS := Hp.start w
 have H := Aside0.mk h
 clear h
 unfold impl_within.f at H
 go_enter Tryz.func79, Tryz.ntmps79
 replace H := zif H; rcases H with ⟨c1, H⟩ | ⟨c1, H⟩
 case inl =>
  obtain rfl := zsome H
  go_wp2
  go_ret
  exact HS.pk
 obtain rfl := zsome H
 go_wp2
 go_ret
 exact HS.pk
def impl_PoliciesOk.l0 : Nat → Int → (List Int) → Option (Bool)
  | 0, _, _ => none
  | k + 1, x4, a0 => (if x4 < (a0.length : Int) then (if 0 ≤ x4 then (if x4 < (a0.length : Int) then ((impl_within.f (rd a0 x4) 0 99).bind fun t10 => (if t10 = true then (if 0 < x4 then (if 0 ≤ (wrap64 (x4 - 1)) then (if (wrap64 (x4 - 1)) < (a0.length : Int) then (if (rd a0 x4) ≤ (rd a0 (wrap64 (x4 - 1))) then (some false) else (impl_PoliciesOk.l0 k (wrap64 (x4 + 1)) a0)) else none) else none) else (impl_PoliciesOk.l0 k (wrap64 (x4 + 1)) a0)) else (some false))) else none) else none) else (some (decide ((a0.length : Int) ≤ 4))))
def impl_PoliciesOk.f (k : Nat) (a0 : (List Int)) : Option (Bool) := (impl_PoliciesOk.l0 k 0 a0)
theorem impl_PoliciesOk.calls {k : Nat} {a0 : (List Int)} {Ap0 : Option Addr} {np0 cp0 : Nat} {r : Bool} {w : World} (h : impl_PoliciesOk.f k a0 = some r) (gp0 : (Kd.int .i64).C w Ap0 np0 a0) (lp0 : np0 ≤ cp0) :
    Calls Tryz.prog 187 #[.slice Ap0 np0 cp0] w (fun e w' => e = .returned (.bool r) ∧ Hp noFP w w' []) := by
 obtain rfl := C_len gp0
 have HS := Hp.start w
 have H := Aside0.mk h
 clear h
 unfold impl_PoliciesOk.f at H
 go_enter Tryz.func187, Tryz.ntmps187
 go_wp2
 go_loopg [7] k (fun kq v_7 w' => ∃ (x4 : Int), v_7 = .int .i64 x4 ∧ Aside0 (impl_PoliciesOk.l0 kq x4 a0 = some r) ∧ Aside0 (kq ≤ k) ∧ Hp noFP w w' [])
 case atStart => exact ⟨_, rfl, H, ⟨Nat.le_refl _⟩, HS⟩
 case round =>
  clear HS H; (try clear F)
  obtain ⟨x4, rfl, H, HKk3, HS⟩ := hrel
  cases gk with
  | zero => exact absurd H.out (by simp [impl_PoliciesOk.l0])
  | succ k3 =>
   simp only [impl_PoliciesOk.l0] at H
   replace H := znif H; rcases H with ⟨c6, H⟩ | ⟨c6, H⟩
   case inl =>
    obtain rfl := zsome H
    go_wp2
    go_ret
    exact HS.pk
   replace H := zgo H; obtain ⟨c7, H⟩ := H
   replace H := zgo H; obtain ⟨c8, H⟩ := H
   obtain ⟨ad9, rfl, e9_0⟩ := Kd.at_int gp0 x4 (of_eq_true c7) (of_eq_true c8)
   have e9_0_9 := HS.keepc e9_0
   replace H := zbind H; obtain ⟨t10, ht10, H⟩ := H
   replace H := znifb H; rcases H with ⟨c12, H⟩ | ⟨c12, H⟩
   case inl =>
    subst c12
    obtain rfl := zsome H
    go_wp2_with ((with_reducible refine gd 13 rfl ?_); refine ev_cl HS (impl_within.calls ht10.out) Tryz.func79 ?_; clear HS; intro wt10 HS F)
    go_ret
    exact HS.pk
   subst c12
   replace H := znif H; rcases H with ⟨c13, H⟩ | ⟨c13, H⟩
   case inl =>
    go_wp2_with ((with_reducible refine gd 13 rfl ?_); refine ev_cl HS (impl_within.calls ht10.out) Tryz.func79 ?_; clear HS; intro wt10 HS F)
    go_roundg k3
    case measure => have := HKk3.out; omega
    case rel => exact ⟨_, rfl, H, ⟨by have := HKk3.out; omega⟩, HS.pick [] (by decide) (by rfl)⟩
   replace H := zgo H; obtain ⟨c14, H⟩ := H
   replace H := zgo H; obtain ⟨c15, H⟩ := H
   go_upto_if 27 with ((with_reducible refine gd 13 rfl ?_); refine ev_cl HS (impl_within.calls ht10.out) Tryz.func79 ?_; clear HS; intro wt10 HS F; obtain ⟨ad16, hq16, e16_0⟩ := Kd.at_int gp0 (wrap64 (x4 - 1)) (of_eq_true c14) (of_eq_true c15); obtain rfl := Option.some.inj hq16; have e16_0_16 := HS.keepc e16_0)
   replace H := zif H; rcases H with ⟨c17, H⟩ | ⟨c17, H⟩
   case inl =>
    (try simp only [c17, dcn])
    obtain rfl := zsome H
    go_wp2
    go_ret
    exact HS.pk
   (try simp only [c17, dcn])
   go_wp2
   go_roundg k3
   case measure => have := HKk3.out; omega
   case rel => exact ⟨_, rfl, H, ⟨by have := HKk3.out; omega⟩, HS.pick [] (by decide) (by rfl)⟩
def impl_bytesIn.l0 : Nat → Int → ByteArray → Int → Int → Option (Bool)
  | 0, _, _, _, _ => none
  | k + 1, x4, a0, a1, a2 => (if x4 < (a0.size : Int) then (if 0 ≤ x4 then (if x4 < (a0.size : Int) then ((impl_within.f (wrap64 (bt a0 x4)) a1 a2).bind fun t10 => (if t10 = true then (impl_bytesIn.l0 k (wrap64 (x4 + 1)) a0 a1 a2) else (some false))) else none) else none) else (some true))
def impl_bytesIn.f (k : Nat) (a0 : ByteArray) (a1 : Int) (a2 : Int) : Option (Bool) := (impl_bytesIn.l0 k 0 a0 a1 a2)
theorem impl_bytesIn.calls {k : Nat} {a0 : ByteArray} {a1 : Int} {a2 : Int} {r : Bool} {w : World} (h : impl_bytesIn.f k a0 a1 a2 = some r) :
    Calls Tryz.prog 142 #[.string a0, .int .i64 a1, .int .i64 a2] w (fun e w' => e = .returned (.bool r) ∧ Hp noFP w w' []) := by
 have HS := Hp.start w
 have H := Aside0.mk h
 clear h
 unfold impl_bytesIn.f at H
 go_enter Tryz.func142, Tryz.ntmps142
 go_wp2
 go_loopg [7] k (fun kq v_7 w' => ∃ (x4 : Int), v_7 = .int .i64 x4 ∧ Aside0 (impl_bytesIn.l0 kq x4 a0 a1 a2 = some r) ∧ Aside0 (kq ≤ k) ∧ Hp noFP w w' [])
 case atStart => exact ⟨_, rfl, H, ⟨Nat.le_refl _⟩, HS⟩
 case round =>
  clear HS H; (try clear F)
  obtain ⟨x4, rfl, H, HKk3, HS⟩ := hrel
  cases gk with
  | zero => exact absurd H.out (by simp [impl_bytesIn.l0])
  | succ k3 =>
   simp only [impl_bytesIn.l0] at H
   replace H := znif H; rcases H with ⟨c6, H⟩ | ⟨c6, H⟩
   case inl =>
    obtain rfl := zsome H
    go_wp2
    go_ret
    exact HS.pk
   replace H := zgo H; obtain ⟨c7, H⟩ := H
   replace H := zgo H; obtain ⟨c8, H⟩ := H
   have hx9 := bt_at a0 x4
   replace H := zbind H; obtain ⟨t10, ht10, H⟩ := H
   go_upto_if 21 with ((with_reducible refine gd 20 rfl ?_); refine ev_cl HS (impl_within.calls ht10.out) Tryz.func79 ?_; clear HS; intro wt10 HS F)
   replace H := znifb H; rcases H with ⟨c12, H⟩ | ⟨c12, H⟩
   case inl =>
    subst c12
    (try simp only [dcn, dcu, dcf])
    obtain rfl := zsome H
    go_wp2
    go_ret
    exact HS.pk
   subst c12
   (try simp only [dcn, dcu, dcf])
   go_wp2
   go_roundg k3
   case measure => have := HKk3.out; omega
   case rel => exact ⟨_, rfl, H, ⟨by have := HKk3.out; omega⟩, HS.pick [] (by decide) (by rfl)⟩
def impl_NameOk.l0 : Nat → Int → ByteArray → (List ByteArray) → Option (Bool)
  | 0, _, _, _ => none
  | k + 1, x7, a0, t1 => (if x7 < (t1.length : Int) then (if 0 ≤ x7 then (if x7 < (t1.length : Int) then (if (rdOf ByteArray.empty t1 x7).toList = ([] : List UInt8) then (some false) else ((impl_bytesIn.f k (rdOf ByteArray.empty t1 x7) 97 122).bind fun t14 => (if t14 = true then (impl_NameOk.l0 k (wrap64 (x7 + 1)) a0 t1) else (some false)))) else none) else none) else (some (decide ((a0.size : Int) ≤ 20))))
def impl_NameOk.f (k : Nat) (a0 : ByteArray) : Option (Bool) := ((strings_Split.f a0 (⟨#[46]⟩ : ByteArray)).bind fun t1 => (impl_NameOk.l0 k 0 a0 t1))
theorem impl_NameOk.calls {k : Nat} {a0 : ByteArray} {mG : Int} {r : Bool} {w : World} (h : impl_NameOk.f k a0 = some r) (hgM : w.cell? ⟨0, 0, none⟩ = some (.int .i64 mG)) :
    Calls Tryz.prog 62 #[.string a0] w (fun e w' => e = .returned (.bool r) ∧ Hp noFP w w' []) := by
 have HS := Hp.start w
 have H := Aside0.mk h
 clear h
 unfold impl_NameOk.f at H
 go_enter Tryz.func62, Tryz.ntmps62
 replace H := zbind H; obtain ⟨t1, ht1, H⟩ := H
 go_wp2_with ((with_reducible refine gd 6 rfl ?_); refine ev_cl1 HS (strings_Split.calls ht1.out (HS.keepc hgM)) Tryz.func141 ?_; clear HS; intro v2 wt1 HS F; obtain ⟨B2, d2, rfl, m2⟩ := HS.form 0 rfl)
 go_loopg [8] k (fun kq v_8 w' => ∃ (x7 : Int), v_8 = .int .i64 x7 ∧ Aside0 (impl_NameOk.l0 kq x7 a0 t1 = some r) ∧ Aside0 (kq ≤ k) ∧ Hp noFP w w' [.own (Zd.slice 9 Zd.string) t1 [.slice B2 t1.length d2]])
 case atStart => exact ⟨_, rfl, H, ⟨Nat.le_refl _⟩, HS⟩
 case round =>
  clear HS H; (try clear F)
  obtain ⟨x7, rfl, H, HKk6, HS⟩ := hrel
  cases gk with
  | zero => exact absurd H.out (by simp [impl_NameOk.l0])
  | succ k6 =>
   simp only [impl_NameOk.l0] at H
   replace H := znif H; rcases H with ⟨c9, H⟩ | ⟨c9, H⟩
   case inl =>
    obtain rfl := zsome H
    go_wp2
    go_ret
    exact HS.pk
   replace H := zgo H; obtain ⟨c10, H⟩ := H
   replace H := zgo H; obtain ⟨c11, H⟩ := H
   obtain ⟨ad12, rfl, e12_0⟩ := Kd.at_string (HS.rd 0 rfl) x7 (of_eq_true c10) (of_eq_true c11)
   replace H := zif' H; rcases H with ⟨c13, H⟩ | ⟨c13, H⟩
   case inl =>
    have c13a := beq_iff_eq.mpr c13
    have c13b := bne_eq_false_iff_eq.mpr c13
    have c13e := List.isEmpty_iff.mpr c13
    clear c13
    obtain rfl := zsome H
    go_wp2
    go_ret
    exact HS.pk
   have c13a := beq_eq_false_iff_ne.mpr c13
   have c13b := bne_iff_ne.mpr c13
   have c13e := List.isEmpty_eq_false_iff.mpr c13
   clear c13
   replace H := zbind H; obtain ⟨t14, ht14, H⟩ := H
   go_upto_if 18 with ((with_reducible refine gd 16 rfl ?_); refine gg ?_; refine ev_cl HS (impl_bytesIn.calls ht14.out) Tryz.func142 ?_; clear HS; intro wt14 HS F)
   replace H := znifb H; rcases H with ⟨c16, H⟩ | ⟨c16, H⟩
   case inl =>
    subst c16
    (try simp only [dcn, dcu, dcf])
    obtain rfl := zsome H
    go_wp2
    go_ret
    exact HS.pk
   subst c16
   (try simp only [dcn, dcu, dcf])
   go_wp2
   go_roundg k6
   case measure => have := HKk6.out; omega
   case rel => exact ⟨_, rfl, H, ⟨by have := HKk6.out; omega⟩, HS.pick [0] (by decide) (by rfl)⟩
def impl_NamesOk.l0 : Nat → Int → (List ByteArray) → Option (Bool)
  | 0, _, _ => none
  | k + 1, x4, a0 => (if x4 < (a0.length : Int) then (if 0 ≤ x4 then (if x4 < (a0.length : Int) then ((impl_NameOk.f k (rdOf ByteArray.empty a0 x4)).bind fun t10 => (if t10 = true then (if 0 < x4 then (if 0 ≤ (wrap64 (x4 - 1)) then (if (wrap64 (x4 - 1)) < (a0.length : Int) then (if (Op.bytesLess ((rdOf ByteArray.empty a0 (wrap64 (x4 - 1))).toList) ((rdOf ByteArray.empty a0 x4).toList)) = true then (impl_NamesOk.l0 k (wrap64 (x4 + 1)) a0) else (some false)) else none) else none) else (impl_NamesOk.l0 k (wrap64 (x4 + 1)) a0)) else (some false))) else none) else none) else (some (decide ((a0.length : Int) ≤ 4))))
def impl_NamesOk.f (k : Nat) (a0 : (List ByteArray)) : Option (Bool) := (impl_NamesOk.l0 k 0 a0)
theorem impl_NamesOk.calls {k : Nat} {a0 : (List ByteArray)} {Ap0 : Option Addr} {np0 cp0 : Nat} {mG : Int} {r : Bool} {w : World} (h : impl_NamesOk.f k a0 = some r) (gp0 : Kd.string.C w Ap0 np0 a0) (lp0 : np0 ≤ cp0) (hgM : w.cell? ⟨0, 0, none⟩ = some (.int .i64 mG)) :
    Calls Tryz.prog 188 #[.slice Ap0 np0 cp0] w (fun e w' => e = .returned (.bool r) ∧ Hp noFP w w' []) := by
 obtain rfl := C_len gp0
 have HS := Hp.start w
 have H := Aside0.mk h
 clear h
 unfold impl_NamesOk.f at H
 go_enter Tryz.func188, Tryz.ntmps188
 go_wp2
 go_loopg [7] k (fun kq v_7 w' => ∃ (x4 : Int), v_7 = .int .i64 x4 ∧ Aside0 (impl_NamesOk.l0 kq x4 a0 = some r) ∧ Aside0 (kq ≤ k) ∧ Hp noFP w w' [])
 case atStart => exact ⟨_, rfl, H, ⟨Nat.le_refl _⟩, HS⟩
 case round =>
  clear HS H; (try clear F)
  obtain ⟨x4, rfl, H, HKk3, HS⟩ := hrel
  cases gk with
  | zero => exact absurd H.out (by simp [impl_NamesOk.l0])
  | succ k3 =>
   simp only [impl_NamesOk.l0] at H
   replace H := znif H; rcases H with ⟨c6, H⟩ | ⟨c6, H⟩
   case inl =>
    obtain rfl := zsome H
    go_wp2
    go_ret
    exact HS.pk
   replace H := zgo H; obtain ⟨c7, H⟩ := H
   replace H := zgo H; obtain ⟨c8, H⟩ := H
   obtain ⟨ad9, rfl, e9_0⟩ := Kd.at_string gp0 x4 (of_eq_true c7) (of_eq_true c8)
   have e9_0_9 := HS.keepc e9_0
   replace H := zbind H; obtain ⟨t10, ht10, H⟩ := H
   replace H := znifb H; rcases H with ⟨c12, H⟩ | ⟨c12, H⟩
   case inl =>
    subst c12
    obtain rfl := zsome H
    go_wp2_with ((with_reducible refine gd 13 rfl ?_); refine ev_cl HS (impl_NameOk.calls ht10.out (HS.keepc hgM)) Tryz.func62 ?_; clear HS; intro wt10 HS F)
    go_ret
    exact HS.pk
   subst c12
   replace H := znif H; rcases H with ⟨c13, H⟩ | ⟨c13, H⟩
   case inl =>
    go_wp2_with ((with_reducible refine gd 13 rfl ?_); refine ev_cl HS (impl_NameOk.calls ht10.out (HS.keepc hgM)) Tryz.func62 ?_; clear HS; intro wt10 HS F)
    go_roundg k3
    case measure => have := HKk3.out; omega
    case rel => exact ⟨_, rfl, H, ⟨by have := HKk3.out; omega⟩, HS.pick [] (by decide) (by rfl)⟩
   replace H := zgo H; obtain ⟨c14, H⟩ := H
   replace H := zgo H; obtain ⟨c15, H⟩ := H
   go_upto_if 27 with ((with_reducible refine gd 13 rfl ?_); refine ev_cl HS (impl_NameOk.calls ht10.out (HS.keepc hgM)) Tryz.func62 ?_; clear HS; intro wt10 HS F; obtain ⟨ad16, hq16, e16_0⟩ := Kd.at_string gp0 (wrap64 (x4 - 1)) (of_eq_true c14) (of_eq_true c15); obtain rfl := Option.some.inj hq16; have e16_0_16 := HS.keepc e16_0)
   replace H := znifb H; rcases H with ⟨c17, H⟩ | ⟨c17, H⟩
   case inl =>
    (try simp only [c17, dcn])
    obtain rfl := zsome H
    go_wp2
    go_ret
    exact HS.pk
   (try simp only [c17, dcn])
   go_wp2
   go_roundg k3
   case measure => have := HKk3.out; omega
   case rel => exact ⟨_, rfl, H, ⟨by have := HKk3.out; omega⟩, HS.pick [] (by decide) (by rfl)⟩
def impl_timeOk.f (a0 : Int) : Option (Bool) := ((impl_within.f a0 0 9999).bind fun t1 => (some t1))
theorem impl_timeOk.calls {a0 : Int} {r : Bool} {w : World} (h : impl_timeOk.f a0 = some r) :
    Calls Tryz.prog 80 #[.int .i64 a0] w (fun e w' => e = .returned (.bool r) ∧ Hp noFP w w' []) := by
 have HS := Hp.start w
 have H := Aside0.mk h
 clear h
 unfold impl_timeOk.f at H
 go_enter Tryz.func80, Tryz.ntmps80
 replace H := zbind H; obtain ⟨t1, ht1, H⟩ := H
 obtain rfl := zsome H
 go_wp2_with ((with_reducible refine gd 4 rfl ?_); refine ev_cl HS (impl_within.calls ht1.out) Tryz.func79 ?_; clear HS; intro wt1 HS F)
 go_ret
 exact HS.pk
def impl_CertOk.f (k : Nat) (a0 : S91) : Option (Bool) := ((impl_timeOk.f a0.f0).bind fun t3 => (if t3 = true then ((impl_timeOk.f a0.f3).bind fun t6 => (if t6 = true then ((impl_timeOk.f a0.f4).bind fun t9 => (if t9 = true then ((impl_NameOk.f k a0.f1).bind fun t12 => (if t12 = true then ((impl_NameOk.f k a0.f2).bind fun t15 => (if t15 = true then (if (a0.f5.size : Int) = 15 then ((impl_within.f a0.f7 0 99).bind fun t19 => (if t19 = true then ((impl_within.f a0.f8 0 7).bind fun t22 => (if t22 = true then ((impl_PoliciesOk.f k a0.f9).bind fun t25 => (if t25 = true then ((impl_NamesOk.f k a0.f10).bind fun t28 => (if t28 = true then ((impl_NamesOk.f k a0.f11).bind fun t31 => (if t31 = true then (some ((a0.f12.size : Int) == 15)) else (some false))) else (some false))) else (some false))) else (some false))) else (some false))) else (some false)) else (some false))) else (some false))) else (some false))) else (some false))) else (some false)))
theorem impl_CertOk.calls {k : Nat} {a0 : S91} {Ap0 Ap1 Ap2 : Option Addr} {np0 cp0 np1 cp1 np2 cp2 : Nat} {mG : Int} {r : Bool} {w : World} (h : impl_CertOk.f k a0 = some r) (gp0 : (Kd.int .i64).C w Ap0 np0 a0.f9) (lp0 : np0 ≤ cp0) (gp1 : Kd.string.C w Ap1 np1 a0.f10) (lp1 : np1 ≤ cp1) (gp2 : Kd.string.C w Ap2 np2 a0.f11) (lp2 : np2 ≤ cp2) (hgM : w.cell? ⟨0, 0, none⟩ = some (.int .i64 mG)) :
    Calls Tryz.prog 124 #[.agg #[.int .i64 a0.f0, .string a0.f1, .string a0.f2, .int .i64 a0.f3, .int .i64 a0.f4, .string a0.f5, .bool a0.f6, .int .i64 a0.f7, .int .i64 a0.f8, .slice Ap0 np0 cp0, .slice Ap1 np1 cp1, .slice Ap2 np2 cp2, .string a0.f12]] w (fun e w' => e = .returned (.bool r) ∧ Hp noFP w w' []) := by
 obtain rfl := C_len gp0
 obtain rfl := C_len gp1
 obtain rfl := C_len gp2
 have HS := Hp.start w
 have H := Aside0.mk h
 clear h
 unfold impl_CertOk.f at H
 go_enter Tryz.func124, Tryz.ntmps124
 replace H := zbind H; obtain ⟨t3, ht3, H⟩ := H
 replace H := znifb H; rcases H with ⟨c5, H⟩ | ⟨c5, H⟩
 case inl =>
  subst c5
  obtain rfl := zsome H
  go_wp2_with (first | ((with_reducible refine gd 1 rfl ?_); refine ev_bx HS ?_; clear HS; intro g1 w1 HS F) | ((with_reducible refine gd 5 rfl ?_); refine ev_cl HS (impl_timeOk.calls ht3.out) Tryz.func80 ?_; clear HS; intro wt3 HS F))
  go_ret
  exact HS.pk
 subst c5
 replace H := zbind H; obtain ⟨t6, ht6, H⟩ := H
 replace H := znifb H; rcases H with ⟨c8, H⟩ | ⟨c8, H⟩
 case inl =>
  subst c8
  obtain rfl := zsome H
  go_wp2_with (first | ((with_reducible refine gd 1 rfl ?_); refine ev_bx HS ?_; clear HS; intro g1 w1 HS F) | ((with_reducible refine gd 5 rfl ?_); refine ev_cl HS (impl_timeOk.calls ht3.out) Tryz.func80 ?_; clear HS; intro wt3 HS F) | ((with_reducible refine gd 9 rfl ?_); refine gg ?_; refine ev_cl HS (impl_timeOk.calls ht6.out) Tryz.func80 ?_; clear HS; intro wt6 HS F))
  go_ret
  exact HS.pk
 subst c8
 replace H := zbind H; obtain ⟨t9, ht9, H⟩ := H
 replace H := znifb H; rcases H with ⟨c11, H⟩ | ⟨c11, H⟩
 case inl =>
  subst c11
  obtain rfl := zsome H
  go_wp2_with (first | ((with_reducible refine gd 1 rfl ?_); refine ev_bx HS ?_; clear HS; intro g1 w1 HS F) | ((with_reducible refine gd 5 rfl ?_); refine ev_cl HS (impl_timeOk.calls ht3.out) Tryz.func80 ?_; clear HS; intro wt3 HS F) | ((with_reducible refine gd 9 rfl ?_); refine gg ?_; refine ev_cl HS (impl_timeOk.calls ht6.out) Tryz.func80 ?_; clear HS; intro wt6 HS F) | ((with_reducible refine gd 14 rfl ?_); refine gg ?_; refine ev_cl HS (impl_timeOk.calls ht9.out) Tryz.func80 ?_; clear HS; intro wt9 HS F))
  go_ret
  exact HS.pk
 subst c11
 replace H := zbind H; obtain ⟨t12, ht12, H⟩ := H
 replace H := znifb H; rcases H with ⟨c14, H⟩ | ⟨c14, H⟩
 case inl =>
  subst c14
  obtain rfl := zsome H
  go_wp2_with (first | ((with_reducible refine gd 1 rfl ?_); refine ev_bx HS ?_; clear HS; intro g1 w1 HS F) | ((with_reducible refine gd 5 rfl ?_); refine ev_cl HS (impl_timeOk.calls ht3.out) Tryz.func80 ?_; clear HS; intro wt3 HS F) | ((with_reducible refine gd 9 rfl ?_); refine gg ?_; refine ev_cl HS (impl_timeOk.calls ht6.out) Tryz.func80 ?_; clear HS; intro wt6 HS F) | ((with_reducible refine gd 14 rfl ?_); refine gg ?_; refine ev_cl HS (impl_timeOk.calls ht9.out) Tryz.func80 ?_; clear HS; intro wt9 HS F) | ((with_reducible refine gd 19 rfl ?_); refine gg ?_; refine ev_cl HS (impl_NameOk.calls ht12.out (HS.keepc hgM)) Tryz.func62 ?_; clear HS; intro wt12 HS F))
  go_ret
  exact HS.pk
 subst c14
 replace H := zbind H; obtain ⟨t15, ht15, H⟩ := H
 replace H := znifb H; rcases H with ⟨c17, H⟩ | ⟨c17, H⟩
 case inl =>
  subst c17
  obtain rfl := zsome H
  go_wp2_with (first | ((with_reducible refine gd 1 rfl ?_); refine ev_bx HS ?_; clear HS; intro g1 w1 HS F) | ((with_reducible refine gd 5 rfl ?_); refine ev_cl HS (impl_timeOk.calls ht3.out) Tryz.func80 ?_; clear HS; intro wt3 HS F) | ((with_reducible refine gd 9 rfl ?_); refine gg ?_; refine ev_cl HS (impl_timeOk.calls ht6.out) Tryz.func80 ?_; clear HS; intro wt6 HS F) | ((with_reducible refine gd 14 rfl ?_); refine gg ?_; refine ev_cl HS (impl_timeOk.calls ht9.out) Tryz.func80 ?_; clear HS; intro wt9 HS F) | ((with_reducible refine gd 19 rfl ?_); refine gg ?_; refine ev_cl HS (impl_NameOk.calls ht12.out (HS.keepc hgM)) Tryz.func62 ?_; clear HS; intro wt12 HS F) | ((with_reducible refine gd 24 rfl ?_); refine gg ?_; refine ev_cl HS (impl_NameOk.calls ht15.out (HS.keepc hgM)) Tryz.func62 ?_; clear HS; intro wt15 HS F))
  go_ret
  exact HS.pk
 subst c17
 replace H := znif' H; rcases H with ⟨c18, H⟩ | ⟨c18, H⟩
 case inl =>
  have c18a := beq_eq_false_iff_ne.mpr c18
  have c18b := bne_iff_ne.mpr c18
  clear c18
  obtain rfl := zsome H
  go_wp2_with (first | ((with_reducible refine gd 1 rfl ?_); refine ev_bx HS ?_; clear HS; intro g1 w1 HS F) | ((with_reducible refine gd 5 rfl ?_); refine ev_cl HS (impl_timeOk.calls ht3.out) Tryz.func80 ?_; clear HS; intro wt3 HS F) | ((with_reducible refine gd 9 rfl ?_); refine gg ?_; refine ev_cl HS (impl_timeOk.calls ht6.out) Tryz.func80 ?_; clear HS; intro wt6 HS F) | ((with_reducible refine gd 14 rfl ?_); refine gg ?_; refine ev_cl HS (impl_timeOk.calls ht9.out) Tryz.func80 ?_; clear HS; intro wt9 HS F) | ((with_reducible refine gd 19 rfl ?_); refine gg ?_; refine ev_cl HS (impl_NameOk.calls ht12.out (HS.keepc hgM)) Tryz.func62 ?_; clear HS; intro wt12 HS F) | ((with_reducible refine gd 24 rfl ?_); refine gg ?_; refine ev_cl HS (impl_NameOk.calls ht15.out (HS.keepc hgM)) Tryz.func62 ?_; clear HS; intro wt15 HS F))
  go_ret
  exact HS.pk
 have c18a := beq_iff_eq.mpr c18
 have c18b := bne_eq_false_iff_eq.mpr c18
 clear c18
 replace H := zbind H; obtain ⟨t19, ht19, H⟩ := H
 replace H := znifb H; rcases H with ⟨c21, H⟩ | ⟨c21, H⟩
 case inl =>
  subst c21
  obtain rfl := zsome H
  go_wp2_with (first | ((with_reducible refine gd 1 rfl ?_); refine ev_bx HS ?_; clear HS; intro g1 w1 HS F) | ((with_reducible refine gd 5 rfl ?_); refine ev_cl HS (impl_timeOk.calls ht3.out) Tryz.func80 ?_; clear HS; intro wt3 HS F) | ((with_reducible refine gd 9 rfl ?_); refine gg ?_; refine ev_cl HS (impl_timeOk.calls ht6.out) Tryz.func80 ?_; clear HS; intro wt6 HS F) | ((with_reducible refine gd 14 rfl ?_); refine gg ?_; refine ev_cl HS (impl_timeOk.calls ht9.out) Tryz.func80 ?_; clear HS; intro wt9 HS F) | ((with_reducible refine gd 19 rfl ?_); refine gg ?_; refine ev_cl HS (impl_NameOk.calls ht12.out (HS.keepc hgM)) Tryz.func62 ?_; clear HS; intro wt12 HS F) | ((with_reducible refine gd 24 rfl ?_); refine gg ?_; refine ev_cl HS (impl_NameOk.calls ht15.out (HS.keepc hgM)) Tryz.func62 ?_; clear HS; intro wt15 HS F) | ((with_reducible refine gd 35 rfl ?_); refine gg ?_; refine ev_cl HS (impl_within.calls ht19.out) Tryz.func79 ?_; clear HS; intro wt19 HS F))
  go_ret
  exact HS.pk
 subst c21
 replace H := zbind H; obtain ⟨t22, ht22, H⟩ := H
 replace H := znifb H; rcases H with ⟨c24, H⟩ | ⟨c24, H⟩
 case inl =>
  subst c24
  obtain rfl := zsome H
  go_wp2_with (first | ((with_reducible refine gd 1 rfl ?_); refine ev_bx HS ?_; clear HS; intro g1 w1 HS F) | ((with_reducible refine gd 5 rfl ?_); refine ev_cl HS (impl_timeOk.calls ht3.out) Tryz.func80 ?_; clear HS; intro wt3 HS F) | ((with_reducible refine gd 9 rfl ?_); refine gg ?_; refine ev_cl HS (impl_timeOk.calls ht6.out) Tryz.func80 ?_; clear HS; intro wt6 HS F) | ((with_reducible refine gd 14 rfl ?_); refine gg ?_; refine ev_cl HS (impl_timeOk.calls ht9.out) Tryz.func80 ?_; clear HS; intro wt9 HS F) | ((with_reducible refine gd 19 rfl ?_); refine gg ?_; refine ev_cl HS (impl_NameOk.calls ht12.out (HS.keepc hgM)) Tryz.func62 ?_; clear HS; intro wt12 HS F) | ((with_reducible refine gd 24 rfl ?_); refine gg ?_; refine ev_cl HS (impl_NameOk.calls ht15.out (HS.keepc hgM)) Tryz.func62 ?_; clear HS; intro wt15 HS F) | ((with_reducible refine gd 35 rfl ?_); refine gg ?_; refine ev_cl HS (impl_within.calls ht19.out) Tryz.func79 ?_; clear HS; intro wt19 HS F) | ((with_reducible refine gd 40 rfl ?_); refine gg ?_; refine ev_cl HS (impl_within.calls ht22.out) Tryz.func79 ?_; clear HS; intro wt22 HS F))
  go_ret
  exact HS.pk
 subst c24
 replace H := zbind H; obtain ⟨t25, ht25, H⟩ := H
 replace H := znifb H; rcases H with ⟨c27, H⟩ | ⟨c27, H⟩
 case inl =>
  subst c27
  obtain rfl := zsome H
  go_wp2_with (first | ((with_reducible refine gd 1 rfl ?_); refine ev_bx HS ?_; clear HS; intro g1 w1 HS F) | ((with_reducible refine gd 5 rfl ?_); refine ev_cl HS (impl_timeOk.calls ht3.out) Tryz.func80 ?_; clear HS; intro wt3 HS F) | ((with_reducible refine gd 9 rfl ?_); refine gg ?_; refine ev_cl HS (impl_timeOk.calls ht6.out) Tryz.func80 ?_; clear HS; intro wt6 HS F) | ((with_reducible refine gd 14 rfl ?_); refine gg ?_; refine ev_cl HS (impl_timeOk.calls ht9.out) Tryz.func80 ?_; clear HS; intro wt9 HS F) | ((with_reducible refine gd 19 rfl ?_); refine gg ?_; refine ev_cl HS (impl_NameOk.calls ht12.out (HS.keepc hgM)) Tryz.func62 ?_; clear HS; intro wt12 HS F) | ((with_reducible refine gd 24 rfl ?_); refine gg ?_; refine ev_cl HS (impl_NameOk.calls ht15.out (HS.keepc hgM)) Tryz.func62 ?_; clear HS; intro wt15 HS F) | ((with_reducible refine gd 35 rfl ?_); refine gg ?_; refine ev_cl HS (impl_within.calls ht19.out) Tryz.func79 ?_; clear HS; intro wt19 HS F) | ((with_reducible refine gd 40 rfl ?_); refine gg ?_; refine ev_cl HS (impl_within.calls ht22.out) Tryz.func79 ?_; clear HS; intro wt22 HS F) | ((with_reducible refine gd 45 rfl ?_); refine gg ?_; refine ev_cl HS (impl_PoliciesOk.calls ht25.out (HS.ro gp0) lp0) Tryz.func187 ?_; clear HS; intro wt25 HS F))
  go_ret
  exact HS.pk
 subst c27
 replace H := zbind H; obtain ⟨t28, ht28, H⟩ := H
 replace H := znifb H; rcases H with ⟨c30, H⟩ | ⟨c30, H⟩
 case inl =>
  subst c30
  obtain rfl := zsome H
  go_wp2_with (first | ((with_reducible refine gd 1 rfl ?_); refine ev_bx HS ?_; clear HS; intro g1 w1 HS F) | ((with_reducible refine gd 5 rfl ?_); refine ev_cl HS (impl_timeOk.calls ht3.out) Tryz.func80 ?_; clear HS; intro wt3 HS F) | ((with_reducible refine gd 9 rfl ?_); refine gg ?_; refine ev_cl HS (impl_timeOk.calls ht6.out) Tryz.func80 ?_; clear HS; intro wt6 HS F) | ((with_reducible refine gd 14 rfl ?_); refine gg ?_; refine ev_cl HS (impl_timeOk.calls ht9.out) Tryz.func80 ?_; clear HS; intro wt9 HS F) | ((with_reducible refine gd 19 rfl ?_); refine gg ?_; refine ev_cl HS (impl_NameOk.calls ht12.out (HS.keepc hgM)) Tryz.func62 ?_; clear HS; intro wt12 HS F) | ((with_reducible refine gd 24 rfl ?_); refine gg ?_; refine ev_cl HS (impl_NameOk.calls ht15.out (HS.keepc hgM)) Tryz.func62 ?_; clear HS; intro wt15 HS F) | ((with_reducible refine gd 35 rfl ?_); refine gg ?_; refine ev_cl HS (impl_within.calls ht19.out) Tryz.func79 ?_; clear HS; intro wt19 HS F) | ((with_reducible refine gd 40 rfl ?_); refine gg ?_; refine ev_cl HS (impl_within.calls ht22.out) Tryz.func79 ?_; clear HS; intro wt22 HS F) | ((with_reducible refine gd 45 rfl ?_); refine gg ?_; refine ev_cl HS (impl_PoliciesOk.calls ht25.out (HS.ro gp0) lp0) Tryz.func187 ?_; clear HS; intro wt25 HS F) | ((with_reducible refine gd 50 rfl ?_); refine gg ?_; refine ev_cl HS (impl_NamesOk.calls ht28.out (HS.ro gp1) lp1 (HS.keepc hgM)) Tryz.func188 ?_; clear HS; intro wt28 HS F))
  go_ret
  exact HS.pk
 subst c30
 replace H := zbind H; obtain ⟨t31, ht31, H⟩ := H
 replace H := zifb H; rcases H with ⟨c33, H⟩ | ⟨c33, H⟩
 case inl =>
  subst c33
  obtain rfl := zsome H
  go_wp2_with (first | ((with_reducible refine gd 1 rfl ?_); refine ev_bx HS ?_; clear HS; intro g1 w1 HS F) | ((with_reducible refine gd 5 rfl ?_); refine ev_cl HS (impl_timeOk.calls ht3.out) Tryz.func80 ?_; clear HS; intro wt3 HS F) | ((with_reducible refine gd 9 rfl ?_); refine gg ?_; refine ev_cl HS (impl_timeOk.calls ht6.out) Tryz.func80 ?_; clear HS; intro wt6 HS F) | ((with_reducible refine gd 14 rfl ?_); refine gg ?_; refine ev_cl HS (impl_timeOk.calls ht9.out) Tryz.func80 ?_; clear HS; intro wt9 HS F) | ((with_reducible refine gd 19 rfl ?_); refine gg ?_; refine ev_cl HS (impl_NameOk.calls ht12.out (HS.keepc hgM)) Tryz.func62 ?_; clear HS; intro wt12 HS F) | ((with_reducible refine gd 24 rfl ?_); refine gg ?_; refine ev_cl HS (impl_NameOk.calls ht15.out (HS.keepc hgM)) Tryz.func62 ?_; clear HS; intro wt15 HS F) | ((with_reducible refine gd 35 rfl ?_); refine gg ?_; refine ev_cl HS (impl_within.calls ht19.out) Tryz.func79 ?_; clear HS; intro wt19 HS F) | ((with_reducible refine gd 40 rfl ?_); refine gg ?_; refine ev_cl HS (impl_within.calls ht22.out) Tryz.func79 ?_; clear HS; intro wt22 HS F) | ((with_reducible refine gd 45 rfl ?_); refine gg ?_; refine ev_cl HS (impl_PoliciesOk.calls ht25.out (HS.ro gp0) lp0) Tryz.func187 ?_; clear HS; intro wt25 HS F) | ((with_reducible refine gd 50 rfl ?_); refine gg ?_; refine ev_cl HS (impl_NamesOk.calls ht28.out (HS.ro gp1) lp1 (HS.keepc hgM)) Tryz.func188 ?_; clear HS; intro wt28 HS F) | ((with_reducible refine gd 55 rfl ?_); refine gg ?_; refine ev_cl HS (impl_NamesOk.calls ht31.out (HS.ro gp2) lp2 (HS.keepc hgM)) Tryz.func188 ?_; clear HS; intro wt31 HS F))
  go_ret
  exact HS.pk
 subst c33
 obtain rfl := zsome H
 go_wp2_with (first | ((with_reducible refine gd 1 rfl ?_); refine ev_bx HS ?_; clear HS; intro g1 w1 HS F) | ((with_reducible refine gd 5 rfl ?_); refine ev_cl HS (impl_timeOk.calls ht3.out) Tryz.func80 ?_; clear HS; intro wt3 HS F) | ((with_reducible refine gd 9 rfl ?_); refine gg ?_; refine ev_cl HS (impl_timeOk.calls ht6.out) Tryz.func80 ?_; clear HS; intro wt6 HS F) | ((with_reducible refine gd 14 rfl ?_); refine gg ?_; refine ev_cl HS (impl_timeOk.calls ht9.out) Tryz.func80 ?_; clear HS; intro wt9 HS F) | ((with_reducible refine gd 19 rfl ?_); refine gg ?_; refine ev_cl HS (impl_NameOk.calls ht12.out (HS.keepc hgM)) Tryz.func62 ?_; clear HS; intro wt12 HS F) | ((with_reducible refine gd 24 rfl ?_); refine gg ?_; refine ev_cl HS (impl_NameOk.calls ht15.out (HS.keepc hgM)) Tryz.func62 ?_; clear HS; intro wt15 HS F) | ((with_reducible refine gd 35 rfl ?_); refine gg ?_; refine ev_cl HS (impl_within.calls ht19.out) Tryz.func79 ?_; clear HS; intro wt19 HS F) | ((with_reducible refine gd 40 rfl ?_); refine gg ?_; refine ev_cl HS (impl_within.calls ht22.out) Tryz.func79 ?_; clear HS; intro wt22 HS F) | ((with_reducible refine gd 45 rfl ?_); refine gg ?_; refine ev_cl HS (impl_PoliciesOk.calls ht25.out (HS.ro gp0) lp0) Tryz.func187 ?_; clear HS; intro wt25 HS F) | ((with_reducible refine gd 50 rfl ?_); refine gg ?_; refine ev_cl HS (impl_NamesOk.calls ht28.out (HS.ro gp1) lp1 (HS.keepc hgM)) Tryz.func188 ?_; clear HS; intro wt28 HS F) | ((with_reducible refine gd 55 rfl ?_); refine gg ?_; refine ev_cl HS (impl_NamesOk.calls ht31.out (HS.ro gp2) lp2 (HS.keepc hgM)) Tryz.func188 ?_; clear HS; intro wt31 HS F))
 go_ret
 exact HS.pk
mutual
def impl_itemOk.l0 : Nat → Int → S182 → Int → Option (Bool)
  | 0, _, _, _ => none
  | k + 1, x10, a0, a1 => (if x10 < (a0.f2.length : Int) then (if 0 ≤ x10 then (if x10 < (a0.f2.length : Int) then ((impl_itemOk.f k (rd_T182 a0.f2 x10) (wrap64 (a1 + 1))).bind fun t20 => (if t20 = true then (impl_itemOk.l0 k (wrap64 (x10 + 1)) a0 a1) else (some false))) else none) else none) else (some true))
def impl_itemOk.f : Nat → S182 → Int → Option (Bool)
  | 0, _, _ => none
  | k + 1, a0, a1 => (if a0.f0 = 48 then (if a0.f1.toList = ([] : List UInt8) then (if 40 < (a0.f2.length : Int) then (some false) else (if 6 ≤ a1 then (some false) else (impl_itemOk.l0 k 0 a0 a1))) else (some false)) else (if 0 < (a0.f2.length : Int) then (some false) else (if a0.f0 = 1 then (if a0.f1.toList = ([0] : List UInt8) then (some true) else (some (a0.f1.toList == ([255] : List UInt8)))) else (if a0.f0 = 2 then ((impl_within.f (a0.f1.size : Int) 1 5).bind fun t27 => (if t27 = true then (if 0 < (a0.f1.size : Int) then (if (bt a0.f1 0) < 128 then (if (bt a0.f1 0) = 0 then (if (a0.f1.size : Int) = 1 then (some true) else (if 1 < (a0.f1.size : Int) then (some (decide (128 ≤ (bt a0.f1 1)))) else none)) else (some true)) else (some false)) else none) else (some false))) else (if a0.f0 = 4 then (some true) else (if a0.f0 = 12 then ((impl_bytesIn.f k a0.f1 32 126).bind fun t43 => (some t43)) else (some false)))))))
end
theorem impl_itemOk.calls_ (K : Nat) : ∀ {k : Nat} (hK : k ≤ K) {a0 : S182} {a1 : Int} {Ap0 : Option Addr} {np0 cp0 : Nat} {r : Bool} {w : World} (h : impl_itemOk.f k a0 a1 = some r) (gp0 : k182.C w Ap0 np0 a0.f2) (lp0 : np0 ≤ cp0),
    Calls Tryz.prog 227 #[.agg #[.int .i64 a0.f0, .string a0.f1, .slice Ap0 np0 cp0], .int .i64 a1] w (fun e w' => e = .returned (.bool r) ∧ Hp noFP w w' []) := by
  induction K with
  | zero =>
    intro k hK a0 a1 Ap0 np0 cp0 r w h gp0 lp0
    obtain rfl : k = 0 := by omega
    exact absurd h (by simp [impl_itemOk.f])
  | succ K IH =>
    intro k hK a0 a1 Ap0 np0 cp0 r w h gp0 lp0
    cases k with
    | zero => exact absurd h (by simp [impl_itemOk.f])
    | succ k =>
    have HK0 : Aside0 (k ≤ K) := ⟨by omega⟩
    clear hK
    obtain rfl := C_len gp0
    have HS := Hp.start w
    have H := Aside0.mk h
    clear h
    simp only [impl_itemOk.f] at H
    go_enter Tryz.func227, Tryz.ntmps227
    go_upto_if 10 with ((with_reducible refine gd 2 rfl ?_); refine ev_bx HS ?_; clear HS; intro g2 w2 HS F)
    replace H := zif' H; rcases H with ⟨c3, H⟩ | ⟨c3, H⟩
    case inl =>
     have c3a := beq_iff_eq.mpr c3
     have c3b := bne_eq_false_iff_eq.mpr c3
     clear c3
     (try simp only [c3a, c3b, dcn])
     replace H := znif' H; rcases H with ⟨c4, H⟩ | ⟨c4, H⟩
     case inl =>
      have c4a := beq_eq_false_iff_ne.mpr c4
      have c4b := bne_iff_ne.mpr c4
      have c4e := List.isEmpty_eq_false_iff.mpr c4
      clear c4
      obtain rfl := zsome H
      go_wp2
      go_ret
      exact HS.pk
     have c4a := beq_iff_eq.mpr c4
     have c4b := bne_eq_false_iff_eq.mpr c4
     have c4e := List.isEmpty_iff.mpr c4
     clear c4
     replace H := zif H; rcases H with ⟨c5, H⟩ | ⟨c5, H⟩
     case inl =>
      obtain rfl := zsome H
      go_wp2
      go_ret
      exact HS.pk
     replace H := zif H; rcases H with ⟨c6, H⟩ | ⟨c6, H⟩
     case inl =>
      obtain rfl := zsome H
      go_wp2
      go_ret
      exact HS.pk
     go_wp2
     go_loopg [27] k (fun kq v_27 w' => ∃ (x10 : Int), v_27 = .int .i64 x10 ∧ Aside0 (impl_itemOk.l0 kq x10 a0 a1 = some r) ∧ Aside0 (kq ≤ k) ∧ Hp noFP w w' [.box g2 [.int .i64 a0.f0, .string a0.f1, .slice Ap0 a0.f2.length cp0] 182])
     case atStart => exact ⟨_, rfl, H, ⟨Nat.le_refl _⟩, HS⟩
     case round =>
      clear HS H; (try clear F)
      obtain ⟨x10, rfl, H, HKk9, HS⟩ := hrel
      have F := HS.boxes; simp only [bxn] at F
      cases gk with
      | zero => exact absurd H.out (by simp [impl_itemOk.l0])
      | succ k9 =>
       simp only [impl_itemOk.l0] at H
       replace H := znif H; rcases H with ⟨c12, H⟩ | ⟨c12, H⟩
       case inl =>
        obtain rfl := zsome H
        go_wp2
        go_ret
        exact HS.pk
       replace H := zgo H; obtain ⟨c13, H⟩ := H
       replace H := zgo H; obtain ⟨c14, H⟩ := H
       obtain ⟨ad15, B15_2, d15_2, rfl, e15_0, e15_1, e15_2, m15_2, y15_2⟩ := at_T182 gp0 x10 (of_eq_true c13) (of_eq_true c14)
       have e15_0_15 := HS.keepc e15_0
       have e15_1_15 := HS.keepc e15_1
       have e15_2_15 := HS.keepc e15_2
       replace H := zbind H; obtain ⟨t20, ht20, H⟩ := H
       go_upto_if 35 with (first | ((with_reducible refine gd 6 rfl ?_); refine ev_bx HS ?_; clear HS; intro g6 w6 HS F) | ((with_reducible refine gate_store (p := 6) rfl ?_); refine ev_st 1 0 HS (seg := [.int .i64 ((rd_T182 a0.f2 x10).f0), .string ((rd_T182 a0.f2 x10).f1), .slice B15_2 (rd_T182 a0.f2 x10).f2.length d15_2]) ?_; clear HS; intro w18 HS F) | ((with_reducible refine gd 34 rfl ?_); refine ev_cl HS (IH (by have := HK0.out; have := HKk9.out; omega) ht20.out (HS.ro y15_2) m15_2) Tryz.func227 ?_; clear HS; intro wt20 HS F))
       replace H := znifb H; rcases H with ⟨c22, H⟩ | ⟨c22, H⟩
       case inl =>
        subst c22
        (try simp only [dcn, dcu, dcf])
        obtain rfl := zsome H
        go_wp2
        go_ret
        exact HS.pk
       subst c22
       (try simp only [dcn, dcu, dcf])
       go_wp2
       go_roundg k9
       case measure => have := HK0.out; have := HKk9.out; omega
       case rel => exact ⟨_, rfl, H, ⟨by have := HK0.out; have := HKk9.out; omega⟩, HS.pick [0] (by decide) (by rfl)⟩
    have c3a := beq_eq_false_iff_ne.mpr c3
    have c3b := bne_iff_ne.mpr c3
    clear c3
    (try simp only [c3a, c3b, dcn])
    replace H := zif H; rcases H with ⟨c23, H⟩ | ⟨c23, H⟩
    case inl =>
     have c23n := (propext (Int.natCast_pos (n := a0.f2.length))).symm.trans c23
     obtain rfl := zsome H
     go_wp2
     go_ret
     exact HS.pk
    have c23n := (propext (Int.natCast_pos (n := a0.f2.length))).symm.trans c23
    replace H := zif' H; rcases H with ⟨c24, H⟩ | ⟨c24, H⟩
    case inl =>
     have c24a := beq_iff_eq.mpr c24
     have c24b := bne_eq_false_iff_eq.mpr c24
     clear c24
     replace H := znif' H; rcases H with ⟨c25, H⟩ | ⟨c25, H⟩
     case inl =>
      have c25a := beq_eq_false_iff_ne.mpr c25
      have c25b := bne_iff_ne.mpr c25
      clear c25
      obtain rfl := zsome H
      go_wp2
      go_ret
      exact HS.pk
     have c25a := beq_iff_eq.mpr c25
     have c25b := bne_eq_false_iff_eq.mpr c25
     clear c25
     obtain rfl := zsome H
     go_wp2
     go_ret
     exact HS.pk
    have c24a := beq_eq_false_iff_ne.mpr c24
    have c24b := bne_iff_ne.mpr c24
    clear c24
    replace H := znif' H; rcases H with ⟨c26, H⟩ | ⟨c26, H⟩
    case inl =>
     have c26a := beq_eq_false_iff_ne.mpr c26
     have c26b := bne_iff_ne.mpr c26
     clear c26
     replace H := zif' H; rcases H with ⟨c41, H⟩ | ⟨c41, H⟩
     case inl =>
      have c41a := beq_iff_eq.mpr c41
      have c41b := bne_eq_false_iff_eq.mpr c41
      clear c41
      obtain rfl := zsome H
      go_wp2
      go_ret
      exact HS.pk
     have c41a := beq_eq_false_iff_ne.mpr c41
     have c41b := bne_iff_ne.mpr c41
     clear c41
     replace H := znif' H; rcases H with ⟨c42, H⟩ | ⟨c42, H⟩
     case inl =>
      have c42a := beq_eq_false_iff_ne.mpr c42
      have c42b := bne_iff_ne.mpr c42
      clear c42
      obtain rfl := zsome H
      go_wp2
      go_ret
      exact HS.pk
     have c42a := beq_iff_eq.mpr c42
     have c42b := bne_eq_false_iff_eq.mpr c42
     clear c42
     replace H := zbind H; obtain ⟨t43, ht43, H⟩ := H
     obtain rfl := zsome H
     go_wp2_with ((with_reducible refine gd 88 rfl ?_); refine ev_cl HS (impl_bytesIn.calls ht43.out) Tryz.func142 ?_; clear HS; intro wt43 HS F)
     go_ret
     exact HS.pk
    have c26a := beq_iff_eq.mpr c26
    have c26b := bne_eq_false_iff_eq.mpr c26
    clear c26
    replace H := zbind H; obtain ⟨t27, ht27, H⟩ := H
    replace H := znifb H; rcases H with ⟨c29, H⟩ | ⟨c29, H⟩
    case inl =>
     subst c29
     obtain rfl := zsome H
     go_wp2_with ((with_reducible refine gd 59 rfl ?_); refine ev_cl HS (impl_within.calls ht27.out) Tryz.func79 ?_; clear HS; intro wt27 HS F)
     go_ret
     exact HS.pk
    subst c29
    replace H := zgo H; obtain ⟨c30, H⟩ := H
    have c30n : (0 < a0.f1.size) = True := eq_true (by have := of_eq_true c30; omega)
    replace H := znif H; rcases H with ⟨c33, H⟩ | ⟨c33, H⟩
    case inl =>
     obtain rfl := zsome H
     go_wp2_with ((with_reducible refine gd 59 rfl ?_); refine ev_cl HS (impl_within.calls ht27.out) Tryz.func79 ?_; clear HS; intro wt27 HS F; have hx31 : ∀ h : 0 < a0.f1.size, ((a0.f1[0]'h).toNat : Int) = bt a0.f1 0 := bt_at a0.f1 0; have hz32 : 0 < a0.f1.size := (by have := of_eq_true c30; omega))
     go_ret
     exact HS.pk
    replace H := znif' H; rcases H with ⟨c36, H⟩ | ⟨c36, H⟩
    case inl =>
     have c36a := beq_eq_false_iff_ne.mpr c36
     have c36b := bne_iff_ne.mpr c36
     clear c36
     obtain rfl := zsome H
     go_wp2_with ((with_reducible refine gd 59 rfl ?_); refine ev_cl HS (impl_within.calls ht27.out) Tryz.func79 ?_; clear HS; intro wt27 HS F; have hx31 : ∀ h : 0 < a0.f1.size, ((a0.f1[0]'h).toNat : Int) = bt a0.f1 0 := bt_at a0.f1 0; have hz32 : 0 < a0.f1.size := (by have := of_eq_true c30; omega); have hx34 : ∀ h : 0 < a0.f1.size, ((a0.f1[0]'h).toNat : Int) = bt a0.f1 0 := bt_at a0.f1 0; have hz35 : 0 < a0.f1.size := (by have := of_eq_true c30; omega))
     go_ret
     exact HS.pk
    have c36a := beq_iff_eq.mpr c36
    have c36b := bne_eq_false_iff_eq.mpr c36
    clear c36
    replace H := zif' H; rcases H with ⟨c37, H⟩ | ⟨c37, H⟩
    case inl =>
     have c37a := beq_iff_eq.mpr c37
     have c37b := bne_eq_false_iff_eq.mpr c37
     clear c37
     obtain rfl := zsome H
     go_wp2_with ((with_reducible refine gd 59 rfl ?_); refine ev_cl HS (impl_within.calls ht27.out) Tryz.func79 ?_; clear HS; intro wt27 HS F; have hx31 : ∀ h : 0 < a0.f1.size, ((a0.f1[0]'h).toNat : Int) = bt a0.f1 0 := bt_at a0.f1 0; have hz32 : 0 < a0.f1.size := (by have := of_eq_true c30; omega); have hx34 : ∀ h : 0 < a0.f1.size, ((a0.f1[0]'h).toNat : Int) = bt a0.f1 0 := bt_at a0.f1 0; have hz35 : 0 < a0.f1.size := (by have := of_eq_true c30; omega))
     go_ret
     exact HS.pk
    have c37a := beq_eq_false_iff_ne.mpr c37
    have c37b := bne_iff_ne.mpr c37
    clear c37
    replace H := zgo H; obtain ⟨c38, H⟩ := H
    have c38n : (1 < a0.f1.size) = True := eq_true (by have := of_eq_true c38; omega)
    obtain rfl := zsome H
    go_wp2_with ((with_reducible refine gd 59 rfl ?_); refine ev_cl HS (impl_within.calls ht27.out) Tryz.func79 ?_; clear HS; intro wt27 HS F; have hx31 : ∀ h : 0 < a0.f1.size, ((a0.f1[0]'h).toNat : Int) = bt a0.f1 0 := bt_at a0.f1 0; have hz32 : 0 < a0.f1.size := (by have := of_eq_true c30; omega); have hx34 : ∀ h : 0 < a0.f1.size, ((a0.f1[0]'h).toNat : Int) = bt a0.f1 0 := bt_at a0.f1 0; have hz35 : 0 < a0.f1.size := (by have := of_eq_true c30; omega); have hx39 : ∀ h : 1 < a0.f1.size, ((a0.f1[1]'h).toNat : Int) = bt a0.f1 1 := bt_at a0.f1 1; have hz40 : 1 < a0.f1.size := (by have := of_eq_true c38; omega))
    go_ret
    exact HS.pk
theorem impl_itemOk.calls {k : Nat} {a0 : S182} {a1 : Int} {Ap0 : Option Addr} {np0 cp0 : Nat} {r : Bool} {w : World} (h : impl_itemOk.f k a0 a1 = some r) (gp0 : k182.C w Ap0 np0 a0.f2) (lp0 : np0 ≤ cp0) :
    Calls Tryz.prog 227 #[.agg #[.int .i64 a0.f0, .string a0.f1, .slice Ap0 np0 cp0], .int .i64 a1] w (fun e w' => e = .returned (.bool r) ∧ Hp noFP w w' []) := impl_itemOk.calls_ k (Nat.le_refl k) h gp0 lp0
end Go.Proofs.YtacocpknielofaaGreatDoor.F
