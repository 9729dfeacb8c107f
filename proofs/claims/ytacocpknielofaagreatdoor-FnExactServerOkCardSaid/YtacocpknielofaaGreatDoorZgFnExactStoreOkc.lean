/- Functions of the program and of the law, and that their calls do what is written here. -/
import Derived.Test.YtacocpknielofaaGreatDoorZgFnExactStoreOka
import Derived.Test.YtacocpknielofaaGreatDoorZgFnExactStoreOkb
namespace Go.Proofs.YtacocpknielofaaGreatDoor.F
open Go.RowKit Go.Proofs.YtacocpknielofaaGreatDoorW.PrintWords Go.Proofs.YtacocpknielofaaGreatDoorW.PrintLast Go.Proofs.YtacocpknielofaaGreatDoorW.PrintMore Go.Proofs.YtacocpknielofaaGreatDoor.Z
attribute [local go_sem] max2_int min2_int max_two min_two max_three min_three max_four min_four
set_option linter.unusedVariables false
set_option linter.unusedSimpArgs false
set_option maxRecDepth 100000
/-! ### spec_ItemText: function 134 -/
def spec_ItemText.f (k : Nat) (a0 : S182) : Option (ByteArray × Bool) := ((spec_ItemOk.f k a0).bind fun t3 => (if t3 = true then ((spec_l07Text.f k a0).bind fun t6 => (if 4000 < (t6.size : Int) then (some ((⟨#[]⟩ : ByteArray), false)) else (some (t6, true)))) else (some ((⟨#[]⟩ : ByteArray), false))))
set_option maxHeartbeats 16000000 in
theorem spec_ItemText.calls {k : Nat} {a0 : S182} {Ap0 : Option Addr} {np0 cp0 : Nat} {r1 : ByteArray} {r2 : Bool} {w : World} (h : spec_ItemText.f k a0 = some (r1, r2)) (gp0 : k182.C w Ap0 np0 a0.f2) (lp0 : np0 ≤ cp0) :
    Calls Tryz.prog 134 #[.agg #[.int .i64 a0.f0, .string a0.f1, .slice Ap0 np0 cp0]] w (fun e w' => e = .returned (.tuple #[.string r1, .bool r2]) ∧ Hp noFP w w' []) := by
 obtain rfl := C_len gp0
 have HS := Hp.start w
 have H := Aside0.mk h
 clear h
 unfold spec_ItemText.f at H
 go_enter Tryz.func134, Tryz.ntmps134
 replace H := zbind H; obtain ⟨t3, ht3, H⟩ := H
 go_upto_if 7 with (first | ((with_reducible refine gate_dst (N := 1) rfl ?_); refine ev_bx HS ?_; clear HS; (try clear F); intro g1 w1 HS F) | ((with_reducible refine gate_dst (N := 6) rfl ?_); refine ev_cl HS (spec_ItemOk.calls ht3.out (HS.ro gp0) lp0) Tryz.func190 ?_; clear HS; (try clear F); intro wt3 HS F))
 by_cases c5 : t3 = true
 case neg =>
  replace H := zneg c5 H
  replace c5 := eq_false_of_ne_true c5
  subst c5
  (try simp only [dcn, if_true, Bool.false_eq_true, if_false])
  obtain ⟨rfl, rfl⟩ := zsome2 H
  go_wp2
  exact bodyPost_ret (results_list (rs := [.tmp 2, .tmp 3]) rfl (by simp) (.tmp (.tmp .nil))) rfl ⟨rfl, HS.pick [] (by decide) (by rfl)⟩
 replace H := zpos c5 H
 subst c5
 (try simp only [dcn, if_true, Bool.false_eq_true, if_false])
 replace H := zbind H; obtain ⟨t6, ht6, H⟩ := H
 go_upto_if 12 with (first | ((with_reducible refine gate_dst (N := 9) rfl ?_); refine ev_cl HS (spec_l07Text.calls ht6.out (HS.ro gp0) lp0) Tryz.func191 ?_; clear HS; (try clear F); intro wt6 HS F))
 by_cases c8 : 4000 < (t6.size : Int)
 case pos =>
  replace H := zpos c8 H
  replace c8 := eq_true c8
  (try simp only [c8, dcn])
  obtain ⟨rfl, rfl⟩ := zsome2 H
  go_wp2
  exact bodyPost_ret (results_list (rs := [.tmp 2, .tmp 3]) rfl (by simp) (.tmp (.tmp .nil))) rfl ⟨rfl, HS.pick [] (by decide) (by rfl)⟩
 replace H := zneg c8 H
 replace c8 := eq_false c8
 (try simp only [c8, dcn])
 obtain ⟨rfl, rfl⟩ := zsome2 H
 go_wp2
 exact bodyPost_ret (results_list (rs := [.tmp 2, .tmp 3]) rfl (by simp) (.tmp (.tmp .nil))) rfl ⟨rfl, HS.pick [] (by decide) (by rfl)⟩
/-! ### spec_l09Bytes: function 136 -/
def spec_l09Bytes.f (a0 : ByteArray) : Option (S182) := (some (⟨4, a0, ([] : List S182)⟩ : S182))
set_option maxHeartbeats 16000000 in
theorem spec_l09Bytes.calls {a0 : ByteArray} {r : S182} {w : World} (h : spec_l09Bytes.f a0 = some r) :
    Calls Tryz.prog 136 #[.string a0] w (fun e w' => ∃ v0_ : Value, e = .returned (.agg #[.int .i64 r.f0, .string r.f1, v0_]) ∧ Hp noFP w w' [.own (Zd.slice 182 q182) r.f2 [v0_]]) := by
 have HS := Hp.start w
 have H := Aside0.mk h
 clear h
 unfold spec_l09Bytes.f at H
 go_enter Tryz.func136, Tryz.ntmps136
 obtain rfl := zsome H
 go_wp2_with (first | ((with_reducible refine gate_dst (N := 2) rfl ?_); refine ev_bx HS ?_; clear HS; (try clear F); intro g2 w2 HS F) | ((with_reducible refine gate_store (p := 2) rfl ?_); refine ev_st 0 0 HS (seg := [.int .i64 4, .string a0, .slice none 0 0]) ?_; clear HS; (try clear F); intro w3 HS F))
 replace HS := HS.nil 182 q182
 exact bodyPost_ret (results_single rfl (.cell _ _ _ _ _ rfl (HS.boxAt (i := 0) rfl) Tryz.underlying182 rfl (by kernel_rfl) .nil)) rfl ⟨_, rfl, HS.pick [1] (by decide) (by rfl)⟩
/-! ### spec_IntItem: function 192 -/
mutual
def spec_IntItem.l0 : Nat → Int → ByteArray → Option (S182)
  | 0, _, _ => none
  | k + 1, x15, x16 => (if 0 < x15 then (if (strOfNums ([((Int.tmod x15 256) % 256)] : List Int)).size + x16.size ≤ 9223372036854775807 then (spec_IntItem.l0 k (wrap64 (Int.tdiv x15 256)) ((strOfNums ([((Int.tmod x15 256) % 256)] : List Int)) ++ x16)) else none) else (if x16.toList = ([] : List UInt8) then (if (⟨#[0]⟩ : ByteArray).size + x16.size ≤ 9223372036854775807 then (some (⟨2, ((⟨#[0]⟩ : ByteArray) ++ x16), ([] : List S182)⟩ : S182)) else none) else (if 0 < (x16.size : Int) then (if 128 ≤ (bt x16 0) then (if (⟨#[0]⟩ : ByteArray).size + x16.size ≤ 9223372036854775807 then (some (⟨2, ((⟨#[0]⟩ : ByteArray) ++ x16), ([] : List S182)⟩ : S182)) else none) else (some (⟨2, x16, ([] : List S182)⟩ : S182))) else none)))
def spec_IntItem.l1 : Nat → Int → ByteArray → Option (S182)
  | 0, _, _ => none
  | k + 1, x44, x45 => (if 0 < x44 then (if (strOfNums ([((Int.tmod x44 256) % 256)] : List Int)).size + x45.size ≤ 9223372036854775807 then (spec_IntItem.l1 k (wrap64 (Int.tdiv x44 256)) ((strOfNums ([((Int.tmod x44 256) % 256)] : List Int)) ++ x45)) else none) else (if x45.toList = ([] : List UInt8) then (if (⟨#[0]⟩ : ByteArray).size + x45.size ≤ 9223372036854775807 then (some (⟨2, ((⟨#[0]⟩ : ByteArray) ++ x45), ([] : List S182)⟩ : S182)) else none) else (if 0 < (x45.size : Int) then (if 128 ≤ (bt x45 0) then (if (⟨#[0]⟩ : ByteArray).size + x45.size ≤ 9223372036854775807 then (some (⟨2, ((⟨#[0]⟩ : ByteArray) ++ x45), ([] : List S182)⟩ : S182)) else none) else (some (⟨2, x45, ([] : List S182)⟩ : S182))) else none)))
end
def spec_IntItem.f (k : Nat) (a0 : Int) : Option (S182) := ((spec_l01In.f a0 0 1000000000).bind fun t3 => (if t3 = true then (spec_IntItem.l0 k a0 (⟨#[]⟩ : ByteArray)) else (spec_IntItem.l1 k 0 (⟨#[]⟩ : ByteArray))))
set_option maxHeartbeats 16000000 in
theorem spec_IntItem.calls {k : Nat} {a0 : Int} {r : S182} {w : World} (h : spec_IntItem.f k a0 = some r) :
    Calls Tryz.prog 192 #[.int .i64 a0] w (fun e w' => ∃ v0_ : Value, e = .returned (.agg #[.int .i64 r.f0, .string r.f1, v0_]) ∧ Hp noFP w w' [.own (Zd.slice 182 q182) r.f2 [v0_]]) := by
 have HS := Hp.start w
 have H := Aside0.mk h
 clear h
 unfold spec_IntItem.f at H
 go_enter Tryz.func192, Tryz.ntmps192
 replace H := zbind H; obtain ⟨t3, ht3, H⟩ := H
 go_upto_if 6 with (first | ((with_reducible refine gate_dst (N := 2) rfl ?_); refine ev_bx HS ?_; clear HS; (try clear F); intro g2 w2 HS F) | ((with_reducible refine gate_dst (N := 5) rfl ?_); refine ev_cl HS (spec_l01In.calls ht3.out) Tryz.func74 ?_; clear HS; (try clear F); intro wt3 HS F))
 by_cases c5 : t3 = true
 case pos =>
  replace H := zpos c5 H
  subst c5
  (try simp only [dcn, if_true, Bool.false_eq_true, if_false])
  go_wp2
  go_loopg [0, 3] k (fun kq v_0 v_3 w' => ∃ (x15 : Int) (x16 : ByteArray), v_0 = .int .i64 x15 ∧ v_3 = .string x16 ∧ Aside0 (spec_IntItem.l0 kq x15 x16 = some r) ∧ Aside0 (kq ≤ k) ∧ Hp noFP w w' [.box g2 [.int .i64 0, .string (⟨#[]⟩ : ByteArray), .slice none 0 0] 182])
  case atStart => exact ⟨_, _, rfl, rfl, H, ⟨Nat.le_refl _⟩, HS⟩
  case round =>
   clear HS H; (try clear F)
   obtain ⟨x15, x16, rfl, rfl, H, HKk14, HS⟩ := hrel
   have F := HS.boxes; simp only [bxn] at F
   cases gk with
   | zero => exact absurd H.out (by simp [spec_IntItem.l0])
   | succ k14 =>
    simp only [spec_IntItem.l0] at H
    by_cases c18 : 0 < x15
    case pos =>
     replace H := zpos c18 H
     replace c18 := eq_true c18
     obtain ⟨c21, H⟩ := zgo H
     go_wp2_with (first | ((with_reducible refine gate_dst (N := 12) rfl ?_); refine ev_lit rfl (Zd.int .u8) [] ([((Int.tmod x15 256) % 256)] : List Int) ([.int .u8 ((Int.tmod x15 256) % 256)] ++ []) HS (by first | (go_simp; done) | (go_simp; rfl)) rfl rfl (Nat.le_of_ble_eq_true rfl) (MadeL.cons (js1 := []) (c := [.int .u8 ((Int.tmod x15 256) % 256)]) rfl (made_flat (fun _ => rfl)) MadeL.nil (by decide)) ?_; clear HS; (try clear F); intro v19 w19 HS; obtain ⟨B19, d19, rfl, m19⟩ := HS.formn 1 1 rfl rfl; (try simp only [hpn, hpm] at HS); have F := HS.boxes; simp only [bxn] at F) | ((with_reducible refine gate_dst (N := 13) rfl ?_); refine ev_val rfl (run_str rfl rfl Tryz.underlying225 Tryz.underlying5 Tryz.underlying9 (HS.rd 1 rfl)) ?_) | ((with_reducible refine gate_dst (N := 15) rfl ?_); refine ev_val rfl (run_cat rfl rfl rfl (of_eq_true c21)) ?_))
     go_roundg k14
     case measure => have := HKk14.out; omega
     case rel => exact ⟨_, _, rfl, rfl, H, ⟨by have := HKk14.out; omega⟩, HS.pick [0] (by decide) (by rfl)⟩
    replace H := zneg c18 H
    replace c18 := eq_false c18
    by_cases c22 : x16.toList = ([] : List UInt8)
    case pos =>
     replace H := zpos c22 H
     have c22a := beq_iff_eq.mpr c22
     have c22b := bne_eq_false_iff_eq.mpr c22
     have c22e := List.isEmpty_iff.mpr c22
     clear c22
     obtain ⟨c23, H⟩ := zgo H
     obtain rfl := zsome H
     go_wp2_with (first | ((with_reducible refine gate_dst (N := 26) rfl ?_); refine ev_val rfl (run_cat rfl rfl rfl (of_eq_true c23)) ?_) | ((with_reducible refine gate_store (p := 2) rfl ?_); refine ev_st 0 0 HS (seg := [.int .i64 2, .string ((⟨#[0]⟩ : ByteArray) ++ x16), .slice none 0 0]) ?_; clear HS; (try clear F); intro w24 HS F))
     replace HS := HS.nil 182 q182
     exact bodyPost_ret (results_single rfl (.cell _ _ _ _ _ rfl (HS.boxAt (i := 0) rfl) Tryz.underlying182 rfl (by kernel_rfl) .nil)) rfl ⟨_, rfl, HS.pick [1] (by decide) (by rfl)⟩
    replace H := zneg c22 H
    have c22a := beq_eq_false_iff_ne.mpr c22
    have c22b := bne_iff_ne.mpr c22
    have c22e := List.isEmpty_eq_false_iff.mpr c22
    clear c22
    obtain ⟨c26, H⟩ := zgo H
    have c26n : (0 < x16.size) = True := eq_true (by have := of_eq_true c26; omega)
    have hx27 : ∀ h : 0 < x16.size, ((x16[0]'h).toNat : Int) = bt x16 0 := bt_at x16 0
    have hz28 : 0 < x16.size := (by have := of_eq_true c26; omega)
    by_cases c29 : 128 ≤ (bt x16 0)
    case neg =>
     replace H := zneg c29 H
     replace c29 := eq_false c29
     obtain rfl := zsome H
     go_wp2_with (first | ((with_reducible refine gate_store (p := 2) rfl ?_); refine ev_st 0 0 HS (seg := [.int .i64 2, .string x16, .slice none 0 0]) ?_; clear HS; (try clear F); intro w33 HS F))
     replace HS := HS.nil 182 q182
     exact bodyPost_ret (results_single rfl (.cell _ _ _ _ _ rfl (HS.boxAt (i := 0) rfl) Tryz.underlying182 rfl (by kernel_rfl) .nil)) rfl ⟨_, rfl, HS.pick [1] (by decide) (by rfl)⟩
    replace H := zpos c29 H
    replace c29 := eq_true c29
    obtain ⟨c30, H⟩ := zgo H
    obtain rfl := zsome H
    go_wp2_with (first | ((with_reducible refine gate_dst (N := 26) rfl ?_); refine ev_val rfl (run_cat rfl rfl rfl (of_eq_true c30)) ?_) | ((with_reducible refine gate_store (p := 2) rfl ?_); refine ev_st 0 0 HS (seg := [.int .i64 2, .string ((⟨#[0]⟩ : ByteArray) ++ x16), .slice none 0 0]) ?_; clear HS; (try clear F); intro w31 HS F))
    replace HS := HS.nil 182 q182
    exact bodyPost_ret (results_single rfl (.cell _ _ _ _ _ rfl (HS.boxAt (i := 0) rfl) Tryz.underlying182 rfl (by kernel_rfl) .nil)) rfl ⟨_, rfl, HS.pick [1] (by decide) (by rfl)⟩
 replace H := zneg c5 H
 replace c5 := eq_false_of_ne_true c5
 subst c5
 (try simp only [dcn, if_true, Bool.false_eq_true, if_false])
 go_wp2
 go_loopg [0, 3] k (fun kq v_0 v_3 w' => ∃ (x44 : Int) (x45 : ByteArray), v_0 = .int .i64 x44 ∧ v_3 = .string x45 ∧ Aside0 (spec_IntItem.l1 kq x44 x45 = some r) ∧ Aside0 (kq ≤ k) ∧ Hp noFP w w' [.box g2 [.int .i64 0, .string (⟨#[]⟩ : ByteArray), .slice none 0 0] 182])
 case atStart => exact ⟨_, _, rfl, rfl, H, ⟨Nat.le_refl _⟩, HS⟩
 case round =>
  clear HS H; (try clear F)
  obtain ⟨x44, x45, rfl, rfl, H, HKk43, HS⟩ := hrel
  have F := HS.boxes; simp only [bxn] at F
  cases gk with
  | zero => exact absurd H.out (by simp [spec_IntItem.l1])
  | succ k43 =>
   simp only [spec_IntItem.l1] at H
   by_cases c47 : 0 < x44
   case pos =>
    replace H := zpos c47 H
    replace c47 := eq_true c47
    obtain ⟨c50, H⟩ := zgo H
    go_wp2_with (first | ((with_reducible refine gate_dst (N := 12) rfl ?_); refine ev_lit rfl (Zd.int .u8) [] ([((Int.tmod x44 256) % 256)] : List Int) ([.int .u8 ((Int.tmod x44 256) % 256)] ++ []) HS (by first | (go_simp; done) | (go_simp; rfl)) rfl rfl (Nat.le_of_ble_eq_true rfl) (MadeL.cons (js1 := []) (c := [.int .u8 ((Int.tmod x44 256) % 256)]) rfl (made_flat (fun _ => rfl)) MadeL.nil (by decide)) ?_; clear HS; (try clear F); intro v48 w48 HS; obtain ⟨B48, d48, rfl, m48⟩ := HS.formn 1 1 rfl rfl; (try simp only [hpn, hpm] at HS); have F := HS.boxes; simp only [bxn] at F) | ((with_reducible refine gate_dst (N := 13) rfl ?_); refine ev_val rfl (run_str rfl rfl Tryz.underlying225 Tryz.underlying5 Tryz.underlying9 (HS.rd 1 rfl)) ?_) | ((with_reducible refine gate_dst (N := 15) rfl ?_); refine ev_val rfl (run_cat rfl rfl rfl (of_eq_true c50)) ?_))
    go_roundg k43
    case measure => have := HKk43.out; omega
    case rel => exact ⟨_, _, rfl, rfl, H, ⟨by have := HKk43.out; omega⟩, HS.pick [0] (by decide) (by rfl)⟩
   replace H := zneg c47 H
   replace c47 := eq_false c47
   by_cases c51 : x45.toList = ([] : List UInt8)
   case pos =>
    replace H := zpos c51 H
    have c51a := beq_iff_eq.mpr c51
    have c51b := bne_eq_false_iff_eq.mpr c51
    have c51e := List.isEmpty_iff.mpr c51
    clear c51
    obtain ⟨c52, H⟩ := zgo H
    obtain rfl := zsome H
    go_wp2_with (first | ((with_reducible refine gate_dst (N := 26) rfl ?_); refine ev_val rfl (run_cat rfl rfl rfl (of_eq_true c52)) ?_) | ((with_reducible refine gate_store (p := 2) rfl ?_); refine ev_st 0 0 HS (seg := [.int .i64 2, .string ((⟨#[0]⟩ : ByteArray) ++ x45), .slice none 0 0]) ?_; clear HS; (try clear F); intro w53 HS F))
    replace HS := HS.nil 182 q182
    exact bodyPost_ret (results_single rfl (.cell _ _ _ _ _ rfl (HS.boxAt (i := 0) rfl) Tryz.underlying182 rfl (by kernel_rfl) .nil)) rfl ⟨_, rfl, HS.pick [1] (by decide) (by rfl)⟩
   replace H := zneg c51 H
   have c51a := beq_eq_false_iff_ne.mpr c51
   have c51b := bne_iff_ne.mpr c51
   have c51e := List.isEmpty_eq_false_iff.mpr c51
   clear c51
   obtain ⟨c55, H⟩ := zgo H
   have c55n : (0 < x45.size) = True := eq_true (by have := of_eq_true c55; omega)
   have hx56 : ∀ h : 0 < x45.size, ((x45[0]'h).toNat : Int) = bt x45 0 := bt_at x45 0
   have hz57 : 0 < x45.size := (by have := of_eq_true c55; omega)
   by_cases c58 : 128 ≤ (bt x45 0)
   case neg =>
    replace H := zneg c58 H
    replace c58 := eq_false c58
    obtain rfl := zsome H
    go_wp2_with (first | ((with_reducible refine gate_store (p := 2) rfl ?_); refine ev_st 0 0 HS (seg := [.int .i64 2, .string x45, .slice none 0 0]) ?_; clear HS; (try clear F); intro w62 HS F))
    replace HS := HS.nil 182 q182
    exact bodyPost_ret (results_single rfl (.cell _ _ _ _ _ rfl (HS.boxAt (i := 0) rfl) Tryz.underlying182 rfl (by kernel_rfl) .nil)) rfl ⟨_, rfl, HS.pick [1] (by decide) (by rfl)⟩
   replace H := zpos c58 H
   replace c58 := eq_true c58
   obtain ⟨c59, H⟩ := zgo H
   obtain rfl := zsome H
   go_wp2_with (first | ((with_reducible refine gate_dst (N := 26) rfl ?_); refine ev_val rfl (run_cat rfl rfl rfl (of_eq_true c59)) ?_) | ((with_reducible refine gate_store (p := 2) rfl ?_); refine ev_st 0 0 HS (seg := [.int .i64 2, .string ((⟨#[0]⟩ : ByteArray) ++ x45), .slice none 0 0]) ?_; clear HS; (try clear F); intro w60 HS F))
   replace HS := HS.nil 182 q182
   exact bodyPost_ret (results_single rfl (.cell _ _ _ _ _ rfl (HS.boxAt (i := 0) rfl) Tryz.underlying182 rfl (by kernel_rfl) .nil)) rfl ⟨_, rfl, HS.pick [1] (by decide) (by rfl)⟩
/-! ### spec_TextItem: function 193 -/
def spec_TextItem.f (a0 : ByteArray) : Option (S182) := (some (⟨12, a0, ([] : List S182)⟩ : S182))
set_option maxHeartbeats 16000000 in
theorem spec_TextItem.calls {a0 : ByteArray} {r : S182} {w : World} (h : spec_TextItem.f a0 = some r) :
    Calls Tryz.prog 193 #[.string a0] w (fun e w' => ∃ v0_ : Value, e = .returned (.agg #[.int .i64 r.f0, .string r.f1, v0_]) ∧ Hp noFP w w' [.own (Zd.slice 182 q182) r.f2 [v0_]]) := by
 have HS := Hp.start w
 have H := Aside0.mk h
 clear h
 unfold spec_TextItem.f at H
 go_enter Tryz.func193, Tryz.ntmps193
 obtain rfl := zsome H
 go_wp2_with (first | ((with_reducible refine gate_dst (N := 2) rfl ?_); refine ev_bx HS ?_; clear HS; (try clear F); intro g2 w2 HS F) | ((with_reducible refine gate_store (p := 2) rfl ?_); refine ev_st 0 0 HS (seg := [.int .i64 12, .string a0, .slice none 0 0]) ?_; clear HS; (try clear F); intro w3 HS F))
 replace HS := HS.nil 182 q182
 exact bodyPost_ret (results_single rfl (.cell _ _ _ _ _ rfl (HS.boxAt (i := 0) rfl) Tryz.underlying182 rfl (by kernel_rfl) .nil)) rfl ⟨_, rfl, HS.pick [1] (by decide) (by rfl)⟩
/-! ### spec_l09Bool: function 194 -/
def spec_l09Bool.f (a0 : Bool) : Option (S182) := (if a0 = true then (some (⟨1, (⟨#[255]⟩ : ByteArray), ([] : List S182)⟩ : S182)) else (some (⟨1, (⟨#[0]⟩ : ByteArray), ([] : List S182)⟩ : S182)))
set_option maxHeartbeats 16000000 in
theorem spec_l09Bool.calls {a0 : Bool} {r : S182} {w : World} (h : spec_l09Bool.f a0 = some r) :
    Calls Tryz.prog 194 #[.bool a0] w (fun e w' => ∃ v0_ : Value, e = .returned (.agg #[.int .i64 r.f0, .string r.f1, v0_]) ∧ Hp noFP w w' [.own (Zd.slice 182 q182) r.f2 [v0_]]) := by
 have HS := Hp.start w
 have H := Aside0.mk h
 clear h
 unfold spec_l09Bool.f at H
 go_enter Tryz.func194, Tryz.ntmps194
 go_upto_if 3 with (first | ((with_reducible refine gate_dst (N := 2) rfl ?_); refine ev_bx HS ?_; clear HS; (try clear F); intro g2 w2 HS F))
 by_cases c3 : a0 = true
 case pos =>
  replace H := zpos c3 H
  subst c3
  (try simp only [dcn, if_true, Bool.false_eq_true, if_false])
  obtain rfl := zsome H
  go_wp2_with (first | ((with_reducible refine gate_store (p := 2) rfl ?_); refine ev_st 0 0 HS (seg := [.int .i64 1, .string (⟨#[255]⟩ : ByteArray), .slice none 0 0]) ?_; clear HS; (try clear F); intro w4 HS F))
  replace HS := HS.nil 182 q182
  exact bodyPost_ret (results_single rfl (.cell _ _ _ _ _ rfl (HS.boxAt (i := 0) rfl) Tryz.underlying182 rfl (by kernel_rfl) .nil)) rfl ⟨_, rfl, HS.pick [1] (by decide) (by rfl)⟩
 replace H := zneg c3 H
 replace c3 := eq_false_of_ne_true c3
 subst c3
 (try simp only [dcn, if_true, Bool.false_eq_true, if_false])
 obtain rfl := zsome H
 go_wp2_with (first | ((with_reducible refine gate_store (p := 2) rfl ?_); refine ev_st 0 0 HS (seg := [.int .i64 1, .string (⟨#[0]⟩ : ByteArray), .slice none 0 0]) ?_; clear HS; (try clear F); intro w6 HS F))
 replace HS := HS.nil 182 q182
 exact bodyPost_ret (results_single rfl (.cell _ _ _ _ _ rfl (HS.boxAt (i := 0) rfl) Tryz.underlying182 rfl (by kernel_rfl) .nil)) rfl ⟨_, rfl, HS.pick [1] (by decide) (by rfl)⟩
/-! ### spec_l09Ints: function 195 -/
def spec_l09Ints.l0 : Nat → (List S182) → Int → (List Int) → Option (S182)
  | 0, _, _, _ => none
  | k + 1, l19, x21, a0 => (if x21 < (a0.length : Int) then (if 0 ≤ x21 then (if x21 < (a0.length : Int) then ((spec_IntItem.f k (rd a0 x21)).bind fun t206001 => (if l19.length + 1 ≤ 2932031007402 then (lets (l19 ++ ([t206001] : List S182)) fun y208999 => (spec_l09Ints.l0 k y208999 (wrap64 (x21 + 1)) a0)) else none)) else none) else none) else (some (⟨48, (⟨#[]⟩ : ByteArray), l19⟩ : S182)))
def spec_l09Ints.f (k : Nat) (a0 : (List Int)) : Option (S182) := (spec_l09Ints.l0 k [] 0 a0)
def spec_l09Ints.T5 : Bool × List (List Nat × List Nat) := (true, [([], []), ([0], [0]), ([], []), ([], []), ([2, 3], [2, 3]), ([4], [4]), ([5], [5]), ([6], [6]), ([1, 7, 6], [1, 7]), ([0, 1, 2, 3, 4, 5, 6, 7, 8], []), ([9, 8, 8, 0, 1, 2, 3, 4, 5, 6, 7, 8], [8, 9])])
theorem spec_l09Ints.tT5 : rtab .any (opsOf Tryz.f195 5) = spec_l09Ints.T5 := by kernel_rfl
set_option maxHeartbeats 16000000 in
theorem spec_l09Ints.calls {k : Nat} {a0 : (List Int)} {Ap0 : Option Addr} {np0 cp0 : Nat} {r : S182} {w : World} (h : spec_l09Ints.f k a0 = some r) (gp0 : (Kd.int .i64).C w Ap0 np0 a0) (lp0 : np0 ≤ cp0) :
    Calls Tryz.prog 195 #[.slice Ap0 np0 cp0] w (fun e w' => ∃ v0_ : Value, e = .returned (.agg #[.int .i64 r.f0, .string r.f1, v0_]) ∧ Hp noFP w w' [.own (Zd.slice 182 q182) r.f2 [v0_]]) := by
 obtain rfl := C_len gp0
 have HS := Hp.start w
 have H := Aside0.mk h
 clear h
 unfold spec_l09Ints.f at H
 go_enter Tryz.func195, Tryz.ntmps195
 go_wp2_with (first | ((with_reducible refine gate_dst (N := 2) rfl ?_); refine ev_bx HS ?_; clear HS; (try clear F); intro g2 w2 HS F) | ((with_reducible refine gate_dst (N := 3) rfl ?_); refine ev_bx HS ?_; clear HS; (try clear F); intro g3 w3 HS F) | ((with_reducible refine gate_store (p := 3) rfl ?_); refine ev_st 1 0 HS (seg := [.int .i64 48, .string (⟨#[]⟩ : ByteArray), .slice none 0 0]) ?_; clear HS; (try clear F); intro w5 HS F))
 replace HS := HS.nil 182 q182
 go_loopg [4] k (fun kq v_4 w' => ∃ (l19 : List S182) (v20 : Value) (x21 : Int), v_4 = .int .i64 x21 ∧ Aside0 (spec_l09Ints.l0 kq l19 x21 a0 = some r) ∧ Aside0 (kq ≤ k) ∧ Hp noFP w w' [.box g2 [.int .i64 0, .string (⟨#[]⟩ : ByteArray), .slice none 0 0] 182, .box g3 [.int .i64 48, .string (⟨#[]⟩ : ByteArray), v20] 182, .own (Zd.slice 182 q182) l19 [v20]])
 case atStart => exact ⟨_, _, _, rfl, H, ⟨Nat.le_refl _⟩, HS⟩
 case round =>
  clear HS H; (try clear F)
  obtain ⟨l19, v20, x21, rfl, H, HKk18, HS⟩ := hrel
  obtain ⟨B20, d20, rfl, m20⟩ := HS.form 2 rfl
  have F := HS.boxes; simp only [bxn] at F
  cases gk with
  | zero => exact absurd H.out (by simp [spec_l09Ints.l0])
  | succ k18 =>
   simp only [spec_l09Ints.l0] at H
   by_cases c23 : x21 < (a0.length : Int)
   case neg =>
    replace H := zneg c23 H
    replace c23 := eq_false c23
    obtain rfl := zsome H
    go_wp2_with (first | ((with_reducible refine gate_store (p := 2) rfl ?_); refine ev_st 0 0 HS (seg := [.int .i64 48, .string (⟨#[]⟩ : ByteArray), .slice B20 l19.length d20]) ?_; clear HS; (try clear F); intro w27 HS F))
    exact bodyPost_ret (results_single rfl (.cell _ _ _ _ _ rfl (HS.boxAt (i := 0) rfl) Tryz.underlying182 rfl (by kernel_rfl) .nil)) rfl ⟨_, rfl, HS.pick [2] (by decide) (by rfl)⟩
   replace H := zpos c23 H
   replace c23 := eq_true c23
   (try go_wp2)
   obtain ⟨c204001, H⟩ := zgo H
   obtain ⟨c204002, H⟩ := zgo H
   obtain ⟨ad204999, rfl, e204999_0⟩ := Kd.at_int gp0 x21 (of_eq_true c204001) (of_eq_true c204002)
   replace H := zbind H; obtain ⟨t206001, ht206001, H⟩ := H
   obtain ⟨c208001, H⟩ := zgo H
   replace H := zlets H; obtain ⟨y208999, e_y208999, H⟩ := H
   refine dr_start2 [.box g2 [.int .i64 0, .string (⟨#[]⟩ : ByteArray), .slice none 0 0] 182, .box g3 [.int .i64 48, .string (⟨#[]⟩ : ByteArray), .slice B20 l19.length d20] 182, .emp] [10] HS (HS.arr [some 0, some 1, none] (by decide)) #[false, false, false, false, false, false, false, false, false, false, false] (by kernel_rfl) rfl rfl spec_l09Ints.tT5 (fun w25 HT HS HH => ?_)
   (try clear F)
   refine drq_of [(0, some 12), (1, some 13), (2, some 14), (3, some 15), (4, some 16)] ?_
   repeat (first | refine drp HT ?_ | refine drt HT HH ?_)
   refine drq_end ?_
   refine dr_take 5 (some 17) HT HH (v := ?_) (a' := ?_) rfl rfl (by kernel_rfl) (fun _ _ _ h => h) (.inl ⟨by rfl, ?_⟩) ?_ ?_
   rotate_left
   · rintro w' ⟨rs', HS'⟩; have e204999_0 := (HS'.keepc e204999_0); go_simp; with_reducible rfl
   rotate_left
   · simp only [Act.put, ptn]; rfl
   refine dr1 6 HT fun K hK => ?_
   refine go_cl1 HS (spec_IntItem.calls ht206001.out) Tryz.func192 ?_; clear HS; (try clear F); intro v206002 wt206001 HS F; obtain ⟨B206002, d206002, rfl, m206002⟩ := HS.form 3 rfl
   refine hK.out _ _ ⟨[], HS.arr [some 0, some 1, none] (by decide)⟩ (fun HH => ?_)
   clear hK K
   refine norm_ (a' := ?_) ?_ ?_
   rotate_left
   · show Act.put _ (some 18) _ = _; simp only [Act.put, ptn]; rfl
   refine dr1 7 HT fun K hK => ?_
   refine if_wp (by rfl) ?_; refine wp_lit q182 [3] ([t206001] : List S182) ([.int .i64 t206001.f0, .string t206001.f1, .slice B206002 t206001.f2.length d206002] ++ []) HS (by first | (go_simp; done) | (go_simp; rfl)) rfl rfl (Nat.le_of_ble_eq_true rfl) (MadeL.cons (js1 := [3]) (c := [.int .i64 t206001.f0, .string t206001.f1, .slice B206002 t206001.f2.length d206002]) rfl (fun S hd hh => q182_pack (x := t206001) hd (hh 3 (.own (Zd.slice 182 q182) t206001.f2 [.slice B206002 t206001.f2.length d206002]) rfl) (by decide)) MadeL.nil (by decide)) ?_; clear HS; (try clear F); intro v207001 w207001 HS; obtain ⟨B207001, d207001, rfl, m207001⟩ := HS.formn 1 4 rfl rfl
   (try simp only [hpn, hpm] at HS)
   have F := HS.boxes; simp only [bxn] at F
   refine hK.out _ _ ⟨[], HS.arr [some 0, some 1, none] (by decide)⟩ (fun HH => ?_)
   clear hK K
   refine norm_ (a' := ?_) ?_ ?_
   rotate_left
   · show Act.put _ (some 19) _ = _; simp only [Act.put, ptn]; rfl
   refine dr1 8 HT fun K hK => ?_
   refine if_wp (by rfl) ?_; refine wp_append q182 2 4 HS rfl rfl (by decide) rfl rfl rfl Tryz.underlying180 info182 rfl (by decide) (by decide) (by have := of_eq_true c208001; first | omega | (simp only [List.length_cons, List.length_nil, List.length_append, Nat.zero_add] at this ⊢; omega)) ?_; clear HS; (try clear F); intro v208999 w208999 HS; rw [← e_y208999.out] at HS; obtain ⟨B208999, d208999, rfl, m208999⟩ := HS.form 5 rfl
   (try simp only [hpn, hpm] at HS)
   have F := HS.boxes; simp only [bxn] at F
   refine hK.out _ _ ⟨[], HS.arr [some 0, some 1, none] (by decide)⟩ (fun HH => ?_)
   clear hK K
   refine norm_ (a' := ?_) ?_ ?_
   rotate_left
   · show Act.put _ (some 20) _ = _; simp only [Act.put, ptn]; rfl
   refine drq_of [(9, some 21)] ?_
   repeat (refine drp HT ?_)
   refine drq_end ?_
   refine dr_last 10 HT rfl (by kernel_rfl) (by decide) (fun K hK => ?_)
   refine if_st 1 2 HS (seg := [.slice B208999 y208999.length d208999]) ?_; clear HS; (try clear F); intro w210001 HS F
   refine hK.out _ _ ?_
   clear hK K
   refine done_ (done_of HT.out (by kernel_rfl)) ?_
   (try clear F)
   have F := HS.boxes; simp only [bxn] at F
   go_wp2
   go_roundg k18
   case measure => have := HKk18.out; omega
   case rel => exact ⟨_, _, _, rfl, H, ⟨by have := HKk18.out; omega⟩, HS.pick [0, 1, 5] (by decide) (by rfl)⟩
/-! ### spec_l09Texts: function 196 -/
def spec_l09Texts.l0 : Nat → (List S182) → Int → (List ByteArray) → Option (S182)
  | 0, _, _, _ => none
  | k + 1, l19, x21, a0 => (if x21 < (a0.length : Int) then (if 0 ≤ x21 then (if x21 < (a0.length : Int) then ((spec_TextItem.f (rdOf ByteArray.empty a0 x21)).bind fun t206001 => (if l19.length + 1 ≤ 2932031007402 then (lets (l19 ++ ([t206001] : List S182)) fun y208999 => (spec_l09Texts.l0 k y208999 (wrap64 (x21 + 1)) a0)) else none)) else none) else none) else (some (⟨48, (⟨#[]⟩ : ByteArray), l19⟩ : S182)))
def spec_l09Texts.f (k : Nat) (a0 : (List ByteArray)) : Option (S182) := (spec_l09Texts.l0 k [] 0 a0)
def spec_l09Texts.T5 : Bool × List (List Nat × List Nat) := (true, [([], []), ([0], [0]), ([], []), ([], []), ([2, 3], [2, 3]), ([4], [4]), ([5], [5]), ([6], [6]), ([1, 7, 6], [1, 7]), ([0, 1, 2, 3, 4, 5, 6, 7, 8], []), ([9, 8, 8, 0, 1, 2, 3, 4, 5, 6, 7, 8], [8, 9])])
theorem spec_l09Texts.tT5 : rtab .any (opsOf Tryz.f196 5) = spec_l09Texts.T5 := by kernel_rfl
set_option maxHeartbeats 16000000 in
theorem spec_l09Texts.calls {k : Nat} {a0 : (List ByteArray)} {Ap0 : Option Addr} {np0 cp0 : Nat} {r : S182} {w : World} (h : spec_l09Texts.f k a0 = some r) (gp0 : Kd.string.C w Ap0 np0 a0) (lp0 : np0 ≤ cp0) :
    Calls Tryz.prog 196 #[.slice Ap0 np0 cp0] w (fun e w' => ∃ v0_ : Value, e = .returned (.agg #[.int .i64 r.f0, .string r.f1, v0_]) ∧ Hp noFP w w' [.own (Zd.slice 182 q182) r.f2 [v0_]]) := by
 obtain rfl := C_len gp0
 have HS := Hp.start w
 have H := Aside0.mk h
 clear h
 unfold spec_l09Texts.f at H
 go_enter Tryz.func196, Tryz.ntmps196
 go_wp2_with (first | ((with_reducible refine gate_dst (N := 2) rfl ?_); refine ev_bx HS ?_; clear HS; (try clear F); intro g2 w2 HS F) | ((with_reducible refine gate_dst (N := 3) rfl ?_); refine ev_bx HS ?_; clear HS; (try clear F); intro g3 w3 HS F) | ((with_reducible refine gate_store (p := 3) rfl ?_); refine ev_st 1 0 HS (seg := [.int .i64 48, .string (⟨#[]⟩ : ByteArray), .slice none 0 0]) ?_; clear HS; (try clear F); intro w5 HS F))
 replace HS := HS.nil 182 q182
 go_loopg [4] k (fun kq v_4 w' => ∃ (l19 : List S182) (v20 : Value) (x21 : Int), v_4 = .int .i64 x21 ∧ Aside0 (spec_l09Texts.l0 kq l19 x21 a0 = some r) ∧ Aside0 (kq ≤ k) ∧ Hp noFP w w' [.box g2 [.int .i64 0, .string (⟨#[]⟩ : ByteArray), .slice none 0 0] 182, .box g3 [.int .i64 48, .string (⟨#[]⟩ : ByteArray), v20] 182, .own (Zd.slice 182 q182) l19 [v20]])
 case atStart => exact ⟨_, _, _, rfl, H, ⟨Nat.le_refl _⟩, HS⟩
 case round =>
  clear HS H; (try clear F)
  obtain ⟨l19, v20, x21, rfl, H, HKk18, HS⟩ := hrel
  obtain ⟨B20, d20, rfl, m20⟩ := HS.form 2 rfl
  have F := HS.boxes; simp only [bxn] at F
  cases gk with
  | zero => exact absurd H.out (by simp [spec_l09Texts.l0])
  | succ k18 =>
   simp only [spec_l09Texts.l0] at H
   by_cases c23 : x21 < (a0.length : Int)
   case neg =>
    replace H := zneg c23 H
    replace c23 := eq_false c23
    obtain rfl := zsome H
    go_wp2_with (first | ((with_reducible refine gate_store (p := 2) rfl ?_); refine ev_st 0 0 HS (seg := [.int .i64 48, .string (⟨#[]⟩ : ByteArray), .slice B20 l19.length d20]) ?_; clear HS; (try clear F); intro w27 HS F))
    exact bodyPost_ret (results_single rfl (.cell _ _ _ _ _ rfl (HS.boxAt (i := 0) rfl) Tryz.underlying182 rfl (by kernel_rfl) .nil)) rfl ⟨_, rfl, HS.pick [2] (by decide) (by rfl)⟩
   replace H := zpos c23 H
   replace c23 := eq_true c23
   (try go_wp2)
   obtain ⟨c204001, H⟩ := zgo H
   obtain ⟨c204002, H⟩ := zgo H
   obtain ⟨ad204999, rfl, e204999_0⟩ := Kd.at_string gp0 x21 (of_eq_true c204001) (of_eq_true c204002)
   replace H := zbind H; obtain ⟨t206001, ht206001, H⟩ := H
   obtain ⟨c208001, H⟩ := zgo H
   replace H := zlets H; obtain ⟨y208999, e_y208999, H⟩ := H
   refine dr_start2 [.box g2 [.int .i64 0, .string (⟨#[]⟩ : ByteArray), .slice none 0 0] 182, .box g3 [.int .i64 48, .string (⟨#[]⟩ : ByteArray), .slice B20 l19.length d20] 182, .emp] [10] HS (HS.arr [some 0, some 1, none] (by decide)) #[false, false, false, false, false, false, false, false, false, false, false] (by kernel_rfl) rfl rfl spec_l09Texts.tT5 (fun w25 HT HS HH => ?_)
   (try clear F)
   refine drq_of [(0, some 12), (1, some 13), (2, some 14), (3, some 15), (4, some 16)] ?_
   repeat (first | refine drp HT ?_ | refine drt HT HH ?_)
   refine drq_end ?_
   refine dr_take 5 (some 17) HT HH (v := ?_) (a' := ?_) rfl rfl (by kernel_rfl) (fun _ _ _ h => h) (.inl ⟨by rfl, ?_⟩) ?_ ?_
   rotate_left
   · rintro w' ⟨rs', HS'⟩; have e204999_0 := (HS'.keepc e204999_0); go_simp; with_reducible rfl
   rotate_left
   · simp only [Act.put, ptn]; rfl
   refine dr1 6 HT fun K hK => ?_
   refine go_cl1 HS (spec_TextItem.calls ht206001.out) Tryz.func193 ?_; clear HS; (try clear F); intro v206002 wt206001 HS F; obtain ⟨B206002, d206002, rfl, m206002⟩ := HS.form 3 rfl
   refine hK.out _ _ ⟨[], HS.arr [some 0, some 1, none] (by decide)⟩ (fun HH => ?_)
   clear hK K
   refine norm_ (a' := ?_) ?_ ?_
   rotate_left
   · show Act.put _ (some 18) _ = _; simp only [Act.put, ptn]; rfl
   refine dr1 7 HT fun K hK => ?_
   refine if_wp (by rfl) ?_; refine wp_lit q182 [3] ([t206001] : List S182) ([.int .i64 t206001.f0, .string t206001.f1, .slice B206002 t206001.f2.length d206002] ++ []) HS (by first | (go_simp; done) | (go_simp; rfl)) rfl rfl (Nat.le_of_ble_eq_true rfl) (MadeL.cons (js1 := [3]) (c := [.int .i64 t206001.f0, .string t206001.f1, .slice B206002 t206001.f2.length d206002]) rfl (fun S hd hh => q182_pack (x := t206001) hd (hh 3 (.own (Zd.slice 182 q182) t206001.f2 [.slice B206002 t206001.f2.length d206002]) rfl) (by decide)) MadeL.nil (by decide)) ?_; clear HS; (try clear F); intro v207001 w207001 HS; obtain ⟨B207001, d207001, rfl, m207001⟩ := HS.formn 1 4 rfl rfl
   (try simp only [hpn, hpm] at HS)
   have F := HS.boxes; simp only [bxn] at F
   refine hK.out _ _ ⟨[], HS.arr [some 0, some 1, none] (by decide)⟩ (fun HH => ?_)
   clear hK K
   refine norm_ (a' := ?_) ?_ ?_
   rotate_left
   · show Act.put _ (some 19) _ = _; simp only [Act.put, ptn]; rfl
   refine dr1 8 HT fun K hK => ?_
   refine if_wp (by rfl) ?_; refine wp_append q182 2 4 HS rfl rfl (by decide) rfl rfl rfl Tryz.underlying180 info182 rfl (by decide) (by decide) (by have := of_eq_true c208001; first | omega | (simp only [List.length_cons, List.length_nil, List.length_append, Nat.zero_add] at this ⊢; omega)) ?_; clear HS; (try clear F); intro v208999 w208999 HS; rw [← e_y208999.out] at HS; obtain ⟨B208999, d208999, rfl, m208999⟩ := HS.form 5 rfl
   (try simp only [hpn, hpm] at HS)
   have F := HS.boxes; simp only [bxn] at F
   refine hK.out _ _ ⟨[], HS.arr [some 0, some 1, none] (by decide)⟩ (fun HH => ?_)
   clear hK K
   refine norm_ (a' := ?_) ?_ ?_
   rotate_left
   · show Act.put _ (some 20) _ = _; simp only [Act.put, ptn]; rfl
   refine drq_of [(9, some 21)] ?_
   repeat (refine drp HT ?_)
   refine drq_end ?_
   refine dr_last 10 HT rfl (by kernel_rfl) (by decide) (fun K hK => ?_)
   refine if_st 1 2 HS (seg := [.slice B208999 y208999.length d208999]) ?_; clear HS; (try clear F); intro w210001 HS F
   refine hK.out _ _ ?_
   clear hK K
   refine done_ (done_of HT.out (by kernel_rfl)) ?_
   (try clear F)
   have F := HS.boxes; simp only [bxn] at F
   go_wp2
   go_roundg k18
   case measure => have := HKk18.out; omega
   case rel => exact ⟨_, _, _, rfl, H, ⟨by have := HKk18.out; omega⟩, HS.pick [0, 1, 5] (by decide) (by rfl)⟩
end Go.Proofs.YtacocpknielofaaGreatDoor.F
