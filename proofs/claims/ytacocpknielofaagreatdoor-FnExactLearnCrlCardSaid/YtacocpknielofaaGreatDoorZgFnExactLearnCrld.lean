/- Functions of the program and of the law, and that their calls do what is written here. -/
import Derived.Test.YtacocpknielofaaGreatDoorZgFnExactLearnCrlb
import Derived.Test.YtacocpknielofaaGreatDoorZgFnExactLearnCrlc
namespace Go.Proofs.YtacocpknielofaaGreatDoor.F
open Go.RowKit YtacocpknielofaaGreatDoorW.PrintWords YtacocpknielofaaGreatDoorW.PrintLast YtacocpknielofaaGreatDoorW.PrintMore Z
attribute [local go_sem] max2_int min2_int max_two min_two max_three min_three max_four min_four
set_option linter.unusedVariables false
set_option linter.unusedSimpArgs false
set_option maxRecDepth 100000
set_option maxHeartbeats 16000000
mutual
def spec_IntItem.l0 : Nat → Int → ByteArray → Option (S182)
  | 0, _, _ => none
  | k + 1, x15, x16 => (if 0 < x15 then (if (strOfNums ([((Int.tmod x15 256) % 256)] : List Int)).size + x16.size ≤ 9223372036854775807 then (spec_IntItem.l0 k (wrap64 (Int.tdiv x15 256)) ((strOfNums ([((Int.tmod x15 256) % 256)] : List Int)) ++ x16)) else none) else (if x16.toList = ([] : List UInt8) then (if (⟨#[0]⟩ : ByteArray).size + x16.size ≤ 9223372036854775807 then (some (⟨2, ((⟨#[0]⟩ : ByteArray) ++ x16), ([] : List S182)⟩ : S182)) else none) else (if 0 < (x16.size : Int) then (if 128 ≤ (bt x16 0) then (if (⟨#[0]⟩ : ByteArray).size + x16.size ≤ 9223372036854775807 then (some (⟨2, ((⟨#[0]⟩ : ByteArray) ++ x16), ([] : List S182)⟩ : S182)) else none) else (some (⟨2, x16, ([] : List S182)⟩ : S182))) else none)))
def spec_IntItem.l1 : Nat → Int → ByteArray → Option (S182)
  | 0, _, _ => none
  | k + 1, x44, x45 => (if 0 < x44 then (if (strOfNums ([((Int.tmod x44 256) % 256)] : List Int)).size + x45.size ≤ 9223372036854775807 then (spec_IntItem.l1 k (wrap64 (Int.tdiv x44 256)) ((strOfNums ([((Int.tmod x44 256) % 256)] : List Int)) ++ x45)) else none) else (if x45.toList = ([] : List UInt8) then (if (⟨#[0]⟩ : ByteArray).size + x45.size ≤ 9223372036854775807 then (some (⟨2, ((⟨#[0]⟩ : ByteArray) ++ x45), ([] : List S182)⟩ : S182)) else none) else (if 0 < (x45.size : Int) then (if 128 ≤ (bt x45 0) then (if (⟨#[0]⟩ : ByteArray).size + x45.size ≤ 9223372036854775807 then (some (⟨2, ((⟨#[0]⟩ : ByteArray) ++ x45), ([] : List S182)⟩ : S182)) else none) else (some (⟨2, x45, ([] : List S182)⟩ : S182))) else none)))
end
def spec_IntItem.f (k : Nat) (a0 : Int) : Option (S182) := ((spec_l01In.f a0 0 1000000000).bind fun t3 => (if t3 = true then (spec_IntItem.l0 k a0 (⟨#[]⟩ : ByteArray)) else (spec_IntItem.l1 k 0 (⟨#[]⟩ : ByteArray))))
theorem spec_IntItem.calls {k : Nat} {a0 : Int} {r : S182} {w : World} (h : spec_IntItem.f k a0 = some r) :
    Calls Tryz.prog 192 #[.int .i64 a0] w (fun e w' => ∃ v0_ : Value, e = .returned (.agg #[.int .i64 r.f0, .string r.f1, v0_]) ∧ Hp noFP w w' [.own (Zd.slice 182 q182) r.f2 [v0_]]) := by
 have HS := Hp.start w
 have H := Aside0.mk h
 clear h
 unfold spec_IntItem.f at H
 go_enter Tryz.func192, Tryz.ntmps192
 replace H := zbind H; obtain ⟨t3, ht3, H⟩ := H
 go_upto_if 6 with (first | ((with_reducible refine gd 2 rfl ?_); refine ev_bx HS ?_; clear HS; intro g2 w2 HS F) | ((with_reducible refine gd 5 rfl ?_); refine ev_cl HS (spec_l01In.calls ht3.out) Tryz.func74 ?_; clear HS; intro wt3 HS F))
 replace H := zifb H; rcases H with ⟨c5, H⟩ | ⟨c5, H⟩
 case inl =>
  subst c5
  (try simp only [dcn, dcu, dcf])
  go_wp2
  go_loopg [0, 3] k (fun kq v_0 v_3 w' => ∃ (x15 : Int) (x16 : ByteArray), v_0 = .int .i64 x15 ∧ v_3 = .string x16 ∧ Aside0 (spec_IntItem.l0 kq x15 x16 = some r) ∧ Aside0 (kq ≤ k) ∧ Hp noFP w w' [.box g2 [.int .i64 0, .string (⟨#[]⟩ : ByteArray), .slice none 0 0] 182])
  case atStart => exact ⟨_, _, rfl, rfl, H, ⟨Nat.le_refl _⟩, HS⟩
  case round =>
   clear HS H; (try clear F)
   obtain ⟨x15, x16, rfl, rfl, H, HKk14, HS⟩ := hrel
   have F := HS.boxes; simp only [bxn] at F
   cases gk with
   | zero => exact absurd H.out (by simp [spec_IntItem.l0])
   | succ k14 =>
    simp only [spec_IntItem.l0] at H
    replace H := zif H; rcases H with ⟨c18, H⟩ | ⟨c18, H⟩
    case inl =>
     replace H := zgo H; obtain ⟨c21, H⟩ := H
     go_wp2_with (first | ((with_reducible refine gd 12 rfl ?_); refine ev_li (Zd.int .u8) [] ([((Int.tmod x15 256) % 256)] : List Int) ([.int .u8 ((Int.tmod x15 256) % 256)] ++ []) HS (MadeL.cons (js1 := []) (c := [.int .u8 ((Int.tmod x15 256) % 256)]) rfl (made_flat (fun _ => rfl)) MadeL.nil (by decide)) ?_; clear HS; intro v19 w19 HS F; obtain ⟨B19, d19, rfl, m19⟩ := HS.formn 1 1 rfl rfl) | ((with_reducible refine gd 13 rfl ?_); refine ev_val rfl (run_str rfl rfl Tryz.underlying225 Tryz.underlying5 Tryz.underlying9 (HS.rd 1 rfl)) ?_) | ((with_reducible refine gd 15 rfl ?_); refine ev_val rfl (run_cat rfl rfl rfl (of_eq_true c21)) ?_))
     go_roundg k14
     case measure => have := HKk14.out; omega
     case rel => exact ⟨_, _, rfl, rfl, H, ⟨by have := HKk14.out; omega⟩, HS.pick [0] (by decide) (by rfl)⟩
    replace H := zif' H; rcases H with ⟨c22, H⟩ | ⟨c22, H⟩
    case inl =>
     have c22a := beq_iff_eq.mpr c22
     have c22b := bne_eq_false_iff_eq.mpr c22
     have c22e := List.isEmpty_iff.mpr c22
     clear c22
     replace H := zgo H; obtain ⟨c23, H⟩ := H
     obtain rfl := zsome H
     go_wp2_with (first | ((with_reducible refine gd 26 rfl ?_); refine ev_val rfl (run_cat rfl rfl rfl (of_eq_true c23)) ?_) | ((with_reducible refine gate_store (p := 2) rfl ?_); refine ev_st 0 0 HS (seg := [.int .i64 2, .string ((⟨#[0]⟩ : ByteArray) ++ x16), .slice none 0 0]) ?_; clear HS; intro w24 HS F))
     replace HS := HS.nil 182 q182
     exact bodyPost_ret (results_single rfl (.cell _ _ _ _ _ rfl (HS.boxAt (i := 0) rfl) Tryz.underlying182 rfl (by kernel_rfl) .nil)) rfl ⟨_, rfl, HS.pick [1] (by decide) (by rfl)⟩
    have c22a := beq_eq_false_iff_ne.mpr c22
    have c22b := bne_iff_ne.mpr c22
    have c22e := List.isEmpty_eq_false_iff.mpr c22
    clear c22
    replace H := zgo H; obtain ⟨c26, H⟩ := H
    have c26n : (0 < x16.size) = True := eq_true (by have := of_eq_true c26; omega)
    have hx27 : ∀ h : 0 < x16.size, ((x16[0]'h).toNat : Int) = bt x16 0 := bt_at x16 0
    have hz28 : 0 < x16.size := (by have := of_eq_true c26; omega)
    replace H := znif H; rcases H with ⟨c29, H⟩ | ⟨c29, H⟩
    case inl =>
     obtain rfl := zsome H
     go_wp2_with ((with_reducible refine gate_store (p := 2) rfl ?_); refine ev_st 0 0 HS (seg := [.int .i64 2, .string x16, .slice none 0 0]) ?_; clear HS; intro w33 HS F)
     replace HS := HS.nil 182 q182
     exact bodyPost_ret (results_single rfl (.cell _ _ _ _ _ rfl (HS.boxAt (i := 0) rfl) Tryz.underlying182 rfl (by kernel_rfl) .nil)) rfl ⟨_, rfl, HS.pick [1] (by decide) (by rfl)⟩
    replace H := zgo H; obtain ⟨c30, H⟩ := H
    obtain rfl := zsome H
    go_wp2_with (first | ((with_reducible refine gd 26 rfl ?_); refine ev_val rfl (run_cat rfl rfl rfl (of_eq_true c30)) ?_) | ((with_reducible refine gate_store (p := 2) rfl ?_); refine ev_st 0 0 HS (seg := [.int .i64 2, .string ((⟨#[0]⟩ : ByteArray) ++ x16), .slice none 0 0]) ?_; clear HS; intro w31 HS F))
    replace HS := HS.nil 182 q182
    exact bodyPost_ret (results_single rfl (.cell _ _ _ _ _ rfl (HS.boxAt (i := 0) rfl) Tryz.underlying182 rfl (by kernel_rfl) .nil)) rfl ⟨_, rfl, HS.pick [1] (by decide) (by rfl)⟩
 subst c5
 (try simp only [dcn, dcu, dcf])
 go_wp2
 go_loopg [0, 3] k (fun kq v_0 v_3 w' => ∃ (x44 : Int) (x45 : ByteArray), v_0 = .int .i64 x44 ∧ v_3 = .string x45 ∧ Aside0 (spec_IntItem.l1 kq x44 x45 = some r) ∧ Aside0 (kq ≤ k) ∧ Hp noFP w w' [.box g2 [.int .i64 0, .string (⟨#[]⟩ : ByteArray), .slice none 0 0] 182])
 case atStart => exact ⟨_, _, rfl, rfl, H, ⟨Nat.le_refl _⟩, HS⟩
 case round =>
  clear HS H; (try clear F)
  obtain ⟨x44, x45, rfl, rfl, H, HKk43, HS⟩ := hrel
  have F := HS.boxes; simp only [bxn] at F
  cases gk with
  | zero => exact absurd H.out (by simp [spec_IntItem.l1])
  | succ k43 =>
   simp only [spec_IntItem.l1] at H
   replace H := zif H; rcases H with ⟨c47, H⟩ | ⟨c47, H⟩
   case inl =>
    replace H := zgo H; obtain ⟨c50, H⟩ := H
    go_wp2_with (first | ((with_reducible refine gd 12 rfl ?_); refine ev_li (Zd.int .u8) [] ([((Int.tmod x44 256) % 256)] : List Int) ([.int .u8 ((Int.tmod x44 256) % 256)] ++ []) HS (MadeL.cons (js1 := []) (c := [.int .u8 ((Int.tmod x44 256) % 256)]) rfl (made_flat (fun _ => rfl)) MadeL.nil (by decide)) ?_; clear HS; intro v48 w48 HS F; obtain ⟨B48, d48, rfl, m48⟩ := HS.formn 1 1 rfl rfl) | ((with_reducible refine gd 13 rfl ?_); refine ev_val rfl (run_str rfl rfl Tryz.underlying225 Tryz.underlying5 Tryz.underlying9 (HS.rd 1 rfl)) ?_) | ((with_reducible refine gd 15 rfl ?_); refine ev_val rfl (run_cat rfl rfl rfl (of_eq_true c50)) ?_))
    go_roundg k43
    case measure => have := HKk43.out; omega
    case rel => exact ⟨_, _, rfl, rfl, H, ⟨by have := HKk43.out; omega⟩, HS.pick [0] (by decide) (by rfl)⟩
   replace H := zif' H; rcases H with ⟨c51, H⟩ | ⟨c51, H⟩
   case inl =>
    have c51a := beq_iff_eq.mpr c51
    have c51b := bne_eq_false_iff_eq.mpr c51
    have c51e := List.isEmpty_iff.mpr c51
    clear c51
    replace H := zgo H; obtain ⟨c52, H⟩ := H
    obtain rfl := zsome H
    go_wp2_with (first | ((with_reducible refine gd 26 rfl ?_); refine ev_val rfl (run_cat rfl rfl rfl (of_eq_true c52)) ?_) | ((with_reducible refine gate_store (p := 2) rfl ?_); refine ev_st 0 0 HS (seg := [.int .i64 2, .string ((⟨#[0]⟩ : ByteArray) ++ x45), .slice none 0 0]) ?_; clear HS; intro w53 HS F))
    replace HS := HS.nil 182 q182
    exact bodyPost_ret (results_single rfl (.cell _ _ _ _ _ rfl (HS.boxAt (i := 0) rfl) Tryz.underlying182 rfl (by kernel_rfl) .nil)) rfl ⟨_, rfl, HS.pick [1] (by decide) (by rfl)⟩
   have c51a := beq_eq_false_iff_ne.mpr c51
   have c51b := bne_iff_ne.mpr c51
   have c51e := List.isEmpty_eq_false_iff.mpr c51
   clear c51
   replace H := zgo H; obtain ⟨c55, H⟩ := H
   have c55n : (0 < x45.size) = True := eq_true (by have := of_eq_true c55; omega)
   have hx56 : ∀ h : 0 < x45.size, ((x45[0]'h).toNat : Int) = bt x45 0 := bt_at x45 0
   have hz57 : 0 < x45.size := (by have := of_eq_true c55; omega)
   replace H := znif H; rcases H with ⟨c58, H⟩ | ⟨c58, H⟩
   case inl =>
    obtain rfl := zsome H
    go_wp2_with ((with_reducible refine gate_store (p := 2) rfl ?_); refine ev_st 0 0 HS (seg := [.int .i64 2, .string x45, .slice none 0 0]) ?_; clear HS; intro w62 HS F)
    replace HS := HS.nil 182 q182
    exact bodyPost_ret (results_single rfl (.cell _ _ _ _ _ rfl (HS.boxAt (i := 0) rfl) Tryz.underlying182 rfl (by kernel_rfl) .nil)) rfl ⟨_, rfl, HS.pick [1] (by decide) (by rfl)⟩
   replace H := zgo H; obtain ⟨c59, H⟩ := H
   obtain rfl := zsome H
   go_wp2_with (first | ((with_reducible refine gd 26 rfl ?_); refine ev_val rfl (run_cat rfl rfl rfl (of_eq_true c59)) ?_) | ((with_reducible refine gate_store (p := 2) rfl ?_); refine ev_st 0 0 HS (seg := [.int .i64 2, .string ((⟨#[0]⟩ : ByteArray) ++ x45), .slice none 0 0]) ?_; clear HS; intro w60 HS F))
   replace HS := HS.nil 182 q182
   exact bodyPost_ret (results_single rfl (.cell _ _ _ _ _ rfl (HS.boxAt (i := 0) rfl) Tryz.underlying182 rfl (by kernel_rfl) .nil)) rfl ⟨_, rfl, HS.pick [1] (by decide) (by rfl)⟩
def spec_TextItem.f (a0 : ByteArray) : Option (S182) := (some (⟨12, a0, ([] : List S182)⟩ : S182))
theorem spec_TextItem.calls {a0 : ByteArray} {r : S182} {w : World} (h : spec_TextItem.f a0 = some r) :
    Calls Tryz.prog 193 #[.string a0] w (fun e w' => ∃ v0_ : Value, e = .returned (.agg #[.int .i64 r.f0, .string r.f1, v0_]) ∧ Hp noFP w w' [.own (Zd.slice 182 q182) r.f2 [v0_]]) := by
 have HS := Hp.start w
 have H := Aside0.mk h
 clear h
 unfold spec_TextItem.f at H
 go_enter Tryz.func193, Tryz.ntmps193
 obtain rfl := zsome H
 go_wp2_with (first | ((with_reducible refine gd 2 rfl ?_); refine ev_bx HS ?_; clear HS; intro g2 w2 HS F) | ((with_reducible refine gate_store (p := 2) rfl ?_); refine ev_st 0 0 HS (seg := [.int .i64 12, .string a0, .slice none 0 0]) ?_; clear HS; intro w3 HS F))
 replace HS := HS.nil 182 q182
 exact bodyPost_ret (results_single rfl (.cell _ _ _ _ _ rfl (HS.boxAt (i := 0) rfl) Tryz.underlying182 rfl (by kernel_rfl) .nil)) rfl ⟨_, rfl, HS.pick [1] (by decide) (by rfl)⟩
def spec_l09Bool.f (a0 : Bool) : Option (S182) := (if a0 = true then (some (⟨1, (⟨#[255]⟩ : ByteArray), ([] : List S182)⟩ : S182)) else (some (⟨1, (⟨#[0]⟩ : ByteArray), ([] : List S182)⟩ : S182)))
theorem spec_l09Bool.calls {a0 : Bool} {r : S182} {w : World} (h : spec_l09Bool.f a0 = some r) :
    Calls Tryz.prog 194 #[.bool a0] w (fun e w' => ∃ v0_ : Value, e = .returned (.agg #[.int .i64 r.f0, .string r.f1, v0_]) ∧ Hp noFP w w' [.own (Zd.slice 182 q182) r.f2 [v0_]]) := by
 have HS := Hp.start w
 have H := Aside0.mk h
 clear h
 unfold spec_l09Bool.f at H
 go_enter Tryz.func194, Tryz.ntmps194
 go_upto_if 3 with ((with_reducible refine gd 2 rfl ?_); refine ev_bx HS ?_; clear HS; intro g2 w2 HS F)
 replace H := zifb H; rcases H with ⟨c3, H⟩ | ⟨c3, H⟩
 case inl =>
  subst c3
  (try simp only [dcn, dcu, dcf])
  obtain rfl := zsome H
  go_wp2_with ((with_reducible refine gate_store (p := 2) rfl ?_); refine ev_st 0 0 HS (seg := [.int .i64 1, .string (⟨#[255]⟩ : ByteArray), .slice none 0 0]) ?_; clear HS; intro w4 HS F)
  replace HS := HS.nil 182 q182
  exact bodyPost_ret (results_single rfl (.cell _ _ _ _ _ rfl (HS.boxAt (i := 0) rfl) Tryz.underlying182 rfl (by kernel_rfl) .nil)) rfl ⟨_, rfl, HS.pick [1] (by decide) (by rfl)⟩
 subst c3
 (try simp only [dcn, dcu, dcf])
 obtain rfl := zsome H
 go_wp2_with ((with_reducible refine gate_store (p := 2) rfl ?_); refine ev_st 0 0 HS (seg := [.int .i64 1, .string (⟨#[0]⟩ : ByteArray), .slice none 0 0]) ?_; clear HS; intro w6 HS F)
 replace HS := HS.nil 182 q182
 exact bodyPost_ret (results_single rfl (.cell _ _ _ _ _ rfl (HS.boxAt (i := 0) rfl) Tryz.underlying182 rfl (by kernel_rfl) .nil)) rfl ⟨_, rfl, HS.pick [1] (by decide) (by rfl)⟩
def spec_l09Ints.l0 : Nat → (List S182) → Int → (List Int) → Option (S182)
  | 0, _, _, _ => none
  | k + 1, l19, x21, a0 => (if x21 < (a0.length : Int) then (if 0 ≤ x21 then (if x21 < (a0.length : Int) then ((spec_IntItem.f k (rd a0 x21)).bind fun t9 => (if l19.length + 1 ≤ 2932031007402 then (lets (l19 ++ ([t9] : List S182)) fun y13 => (spec_l09Ints.l0 k y13 (wrap64 (x21 + 1)) a0)) else none)) else none) else none) else (some (⟨48, (⟨#[]⟩ : ByteArray), l19⟩ : S182)))
def spec_l09Ints.f (k : Nat) (a0 : (List Int)) : Option (S182) := (spec_l09Ints.l0 k [] 0 a0)
def spec_l09Ints.T5 : TT := (true, [([], []), ([0], [0]), ([], []), ([], []), ([2, 3], [2, 3]), ([4], [4]), ([5], [5]), ([6], [6]), ([1, 7, 6], [1, 7]), ([0, 1, 2, 3, 4, 5, 6, 7, 8], []), ([9, 8, 8, 0, 1, 2, 3, 4, 5, 6, 7, 8], [8, 9])])
theorem spec_l09Ints.tT5 : rtab .any (opsOf Tryz.f195 5) = spec_l09Ints.T5 := by kernel_rfl
theorem spec_l09Ints.calls {k : Nat} {a0 : (List Int)} {Ap0 : Option Addr} {np0 cp0 : Nat} {r : S182} {w : World} (h : spec_l09Ints.f k a0 = some r) (gp0 : (Kd.int .i64).C w Ap0 np0 a0) (lp0 : np0 ≤ cp0) :
    Calls Tryz.prog 195 #[.slice Ap0 np0 cp0] w (fun e w' => ∃ v0_ : Value, e = .returned (.agg #[.int .i64 r.f0, .string r.f1, v0_]) ∧ Hp noFP w w' [.own (Zd.slice 182 q182) r.f2 [v0_]]) := by
 obtain rfl := C_len gp0
 have HS := Hp.start w
 have H := Aside0.mk h
 clear h
 unfold spec_l09Ints.f at H
 go_enter Tryz.func195, Tryz.ntmps195
 go_wp2_with (first | ((with_reducible refine gd 2 rfl ?_); refine ev_bx HS ?_; clear HS; intro g2 w2 HS F) | ((with_reducible refine gd 3 rfl ?_); refine ev_bx HS ?_; clear HS; intro g3 w3 HS F) | ((with_reducible refine gate_store (p := 3) rfl ?_); refine ev_st 1 0 HS (seg := [.int .i64 48, .string (⟨#[]⟩ : ByteArray), .slice none 0 0]) ?_; clear HS; intro w5 HS F))
 replace HS := HS.nil 182 q182
 go_loopg [4] k (fun kq v_4 w' => ∃ (l19 : List S182) (v20 : Value) (x21 : Int), v_4 = .int .i64 x21 ∧ Aside0 (spec_l09Ints.l0 kq l19 x21 a0 = some r) ∧ Aside0 (kq ≤ k) ∧ Hp noFP w w' [.box g2 [.int .i64 0, .string (⟨#[]⟩ : ByteArray), .slice none 0 0] 182, .box g3 [.int .i64 48, .string (⟨#[]⟩ : ByteArray), v20] 182, .own (Zd.slice 182 q182) l19 [v20]])
 case atStart => exact ⟨_, _, _, rfl, H, ⟨Nat.le_refl _⟩, HS⟩
 case round =>
  clear HS H; (try clear F)
  obtain ⟨l19, v20, x21, rfl, H, HKk18, HS⟩ := hrel
  obtain ⟨B20, d20, rfl, m20⟩ := HS.form 2 rfl
  have F := HS.boxes; simp only [bxn] at F
  cases gk with
  | zero => exact absurd H.out (by simp [spec_l09Ints.l0])
  | succ k18 =>
   simp only [spec_l09Ints.l0] at H
   replace H := znif H; rcases H with ⟨c23, H⟩ | ⟨c23, H⟩
   case inl =>
    obtain rfl := zsome H
    go_wp2_with ((with_reducible refine gate_store (p := 2) rfl ?_); refine ev_st 0 0 HS (seg := [.int .i64 48, .string (⟨#[]⟩ : ByteArray), .slice B20 l19.length d20]) ?_; clear HS; intro w27 HS F)
    exact bodyPost_ret (results_single rfl (.cell _ _ _ _ _ rfl (HS.boxAt (i := 0) rfl) Tryz.underlying182 rfl (by kernel_rfl) .nil)) rfl ⟨_, rfl, HS.pick [2] (by decide) (by rfl)⟩
   (try go_wp2)
   replace H := zgo H; obtain ⟨c6, H⟩ := H
   replace H := zgo H; obtain ⟨c7, H⟩ := H
   obtain ⟨ad8, rfl, e8_0⟩ := Kd.at_int gp0 x21 (of_eq_true c6) (of_eq_true c7)
   replace H := zbind H; obtain ⟨t9, ht9, H⟩ := H
   replace H := zgo H; obtain ⟨c12, H⟩ := H
   replace H := zlets H; obtain ⟨y13, e_y13, H⟩ := H
   refine dr_start2 [.box g2 [.int .i64 0, .string (⟨#[]⟩ : ByteArray), .slice none 0 0] 182, .box g3 [.int .i64 48, .string (⟨#[]⟩ : ByteArray), .slice B20 l19.length d20] 182, .emp] [10] HS (HS.arr [some 0, some 1, none] (by decide)) #[false, false, false, false, false, false, false, false, false, false, false] (by kernel_rfl) rfl rfl spec_l09Ints.tT5 (fun w25 HT HS HH => ?_)
   (try clear F)
   refine drq_of [(0, some 12), (1, some 13), (2, some 14), (3, some 15), (4, some 16)] ?_
   repeat (first | refine drp HT ?_ | refine drt HT HH ?_)
   refine drq_end ?_
   refine dr_take 5 (some 17) HT HH (v := ?_) (a' := ?_) rfl rfl (by kernel_rfl) (fun _ _ _ h => h) (.inl ⟨by rfl, ?_⟩) ?_ ?_
   rotate_left
   · rintro w' ⟨rs', HS'⟩; have e8_0 := HS'.keepc e8_0; go_simp; with_reducible rfl
   rotate_left
   · simp only [Act.put, ptn]; rfl
   refine dr1 6 HT fun K hK => ?_
   refine go_cl1 HS (spec_IntItem.calls ht9.out) Tryz.func192 ?_; clear HS; intro v10 wt9 HS F; obtain ⟨B10, d10, rfl, m10⟩ := HS.form 3 rfl
   refine hK.out _ _ ⟨[], HS.arr [some 0, some 1, none] (by decide)⟩ (fun HH => ?_)
   clear hK K
   refine norm_ (a' := ?_) ?_ ?_
   rotate_left
   · show Act.put _ (some 18) _ = _; simp only [Act.put, ptn]; rfl
   refine dr1 7 HT fun K hK => ?_
   refine if_li q182 [3] ([t9] : List S182) ([.int .i64 t9.f0, .string t9.f1, .slice B10 t9.f2.length d10] ++ []) HS (MadeL.cons (js1 := [3]) (c := [.int .i64 t9.f0, .string t9.f1, .slice B10 t9.f2.length d10]) rfl (fun S hd hh => q182_pack (x := t9) hd (hh 3 (.own (Zd.slice 182 q182) t9.f2 [.slice B10 t9.f2.length d10]) rfl) (by decide)) MadeL.nil (by decide)) ?_; clear HS; intro v11 w11 HS F; obtain ⟨B11, d11, rfl, m11⟩ := HS.formn 1 4 rfl rfl
   refine hK.out _ _ ⟨[], HS.arr [some 0, some 1, none] (by decide)⟩ (fun HH => ?_)
   clear hK K
   refine norm_ (a' := ?_) ?_ ?_
   rotate_left
   · show Act.put _ (some 19) _ = _; simp only [Act.put, ptn]; rfl
   refine dr1 8 HT fun K hK => ?_
   refine wp_ap q182 2 4 HS rfl rfl Tryz.underlying180 info182 (of_eq_true c12) ?_; clear HS; intro v13 w13 HS; rw [← e_y13.out] at HS; obtain ⟨B13, d13, rfl, m13⟩ := HS.form 5 rfl
   (try simp only [hpn, hpm] at HS)
   have F := HS.boxes; simp only [bxn] at F
   refine hK.out _ _ ⟨[], HS.arr [some 0, some 1, none] (by decide)⟩ (fun HH => ?_)
   clear hK K
   refine norm_ (a' := ?_) ?_ ?_
   rotate_left
   · show Act.put _ (some 20) _ = _; simp only [Act.put, ptn]; rfl
   refine drq_of [(9, some 21)] ?_
   repeat (refine drp HT ?_)
   refine drq_end ?_
   refine dr_last 10 HT rfl (by kernel_rfl) (by decide) (fun K hK => ?_)
   refine if_st 1 2 HS (seg := [.slice B13 y13.length d13]) ?_; clear HS; intro w14 HS F
   refine hK.out _ _ ?_
   clear hK K
   refine done_ (done_of HT.out (by kernel_rfl)) ?_
   (try clear F)
   have F := HS.boxes; simp only [bxn] at F
   go_wp2
   go_roundg k18
   case measure => have := HKk18.out; omega
   case rel => exact ⟨_, _, _, rfl, H, ⟨by have := HKk18.out; omega⟩, HS.pick [0, 1, 5] (by decide) (by rfl)⟩
def spec_l09Texts.l0 : Nat → (List S182) → Int → (List ByteArray) → Option (S182)
  | 0, _, _, _ => none
  | k + 1, l19, x21, a0 => (if x21 < (a0.length : Int) then (if 0 ≤ x21 then (if x21 < (a0.length : Int) then ((spec_TextItem.f (rdOf ByteArray.empty a0 x21)).bind fun t9 => (if l19.length + 1 ≤ 2932031007402 then (lets (l19 ++ ([t9] : List S182)) fun y13 => (spec_l09Texts.l0 k y13 (wrap64 (x21 + 1)) a0)) else none)) else none) else none) else (some (⟨48, (⟨#[]⟩ : ByteArray), l19⟩ : S182)))
def spec_l09Texts.f (k : Nat) (a0 : (List ByteArray)) : Option (S182) := (spec_l09Texts.l0 k [] 0 a0)
def spec_l09Texts.T5 : TT := (true, [([], []), ([0], [0]), ([], []), ([], []), ([2, 3], [2, 3]), ([4], [4]), ([5], [5]), ([6], [6]), ([1, 7, 6], [1, 7]), ([0, 1, 2, 3, 4, 5, 6, 7, 8], []), ([9, 8, 8, 0, 1, 2, 3, 4, 5, 6, 7, 8], [8, 9])])
theorem spec_l09Texts.tT5 : rtab .any (opsOf Tryz.f196 5) = spec_l09Texts.T5 := by kernel_rfl
theorem spec_l09Texts.calls {k : Nat} {a0 : (List ByteArray)} {Ap0 : Option Addr} {np0 cp0 : Nat} {r : S182} {w : World} (h : spec_l09Texts.f k a0 = some r) (gp0 : Kd.string.C w Ap0 np0 a0) (lp0 : np0 ≤ cp0) :
    Calls Tryz.prog 196 #[.slice Ap0 np0 cp0] w (fun e w' => ∃ v0_ : Value, e = .returned (.agg #[.int .i64 r.f0, .string r.f1, v0_]) ∧ Hp noFP w w' [.own (Zd.slice 182 q182) r.f2 [v0_]]) := by
 obtain rfl := C_len gp0
 have HS := Hp.start w
 have H := Aside0.mk h
 clear h
 unfold spec_l09Texts.f at H
 go_enter Tryz.func196, Tryz.ntmps196
 go_wp2_with (first | ((with_reducible refine gd 2 rfl ?_); refine ev_bx HS ?_; clear HS; intro g2 w2 HS F) | ((with_reducible refine gd 3 rfl ?_); refine ev_bx HS ?_; clear HS; intro g3 w3 HS F) | ((with_reducible refine gate_store (p := 3) rfl ?_); refine ev_st 1 0 HS (seg := [.int .i64 48, .string (⟨#[]⟩ : ByteArray), .slice none 0 0]) ?_; clear HS; intro w5 HS F))
 replace HS := HS.nil 182 q182
 go_loopg [4] k (fun kq v_4 w' => ∃ (l19 : List S182) (v20 : Value) (x21 : Int), v_4 = .int .i64 x21 ∧ Aside0 (spec_l09Texts.l0 kq l19 x21 a0 = some r) ∧ Aside0 (kq ≤ k) ∧ Hp noFP w w' [.box g2 [.int .i64 0, .string (⟨#[]⟩ : ByteArray), .slice none 0 0] 182, .box g3 [.int .i64 48, .string (⟨#[]⟩ : ByteArray), v20] 182, .own (Zd.slice 182 q182) l19 [v20]])
 case atStart => exact ⟨_, _, _, rfl, H, ⟨Nat.le_refl _⟩, HS⟩
 case round =>
  clear HS H; (try clear F)
  obtain ⟨l19, v20, x21, rfl, H, HKk18, HS⟩ := hrel
  obtain ⟨B20, d20, rfl, m20⟩ := HS.form 2 rfl
  have F := HS.boxes; simp only [bxn] at F
  cases gk with
  | zero => exact absurd H.out (by simp [spec_l09Texts.l0])
  | succ k18 =>
   simp only [spec_l09Texts.l0] at H
   replace H := znif H; rcases H with ⟨c23, H⟩ | ⟨c23, H⟩
   case inl =>
    obtain rfl := zsome H
    go_wp2_with ((with_reducible refine gate_store (p := 2) rfl ?_); refine ev_st 0 0 HS (seg := [.int .i64 48, .string (⟨#[]⟩ : ByteArray), .slice B20 l19.length d20]) ?_; clear HS; intro w27 HS F)
    exact bodyPost_ret (results_single rfl (.cell _ _ _ _ _ rfl (HS.boxAt (i := 0) rfl) Tryz.underlying182 rfl (by kernel_rfl) .nil)) rfl ⟨_, rfl, HS.pick [2] (by decide) (by rfl)⟩
   (try go_wp2)
   replace H := zgo H; obtain ⟨c6, H⟩ := H
   replace H := zgo H; obtain ⟨c7, H⟩ := H
   obtain ⟨ad8, rfl, e8_0⟩ := Kd.at_string gp0 x21 (of_eq_true c6) (of_eq_true c7)
   replace H := zbind H; obtain ⟨t9, ht9, H⟩ := H
   replace H := zgo H; obtain ⟨c12, H⟩ := H
   replace H := zlets H; obtain ⟨y13, e_y13, H⟩ := H
   refine dr_start2 [.box g2 [.int .i64 0, .string (⟨#[]⟩ : ByteArray), .slice none 0 0] 182, .box g3 [.int .i64 48, .string (⟨#[]⟩ : ByteArray), .slice B20 l19.length d20] 182, .emp] [10] HS (HS.arr [some 0, some 1, none] (by decide)) #[false, false, false, false, false, false, false, false, false, false, false] (by kernel_rfl) rfl rfl spec_l09Texts.tT5 (fun w25 HT HS HH => ?_)
   (try clear F)
   refine drq_of [(0, some 12), (1, some 13), (2, some 14), (3, some 15), (4, some 16)] ?_
   repeat (first | refine drp HT ?_ | refine drt HT HH ?_)
   refine drq_end ?_
   refine dr_take 5 (some 17) HT HH (v := ?_) (a' := ?_) rfl rfl (by kernel_rfl) (fun _ _ _ h => h) (.inl ⟨by rfl, ?_⟩) ?_ ?_
   rotate_left
   · rintro w' ⟨rs', HS'⟩; have e8_0 := HS'.keepc e8_0; go_simp; with_reducible rfl
   rotate_left
   · simp only [Act.put, ptn]; rfl
   refine dr1 6 HT fun K hK => ?_
   refine go_cl1 HS (spec_TextItem.calls ht9.out) Tryz.func193 ?_; clear HS; intro v10 wt9 HS F; obtain ⟨B10, d10, rfl, m10⟩ := HS.form 3 rfl
   refine hK.out _ _ ⟨[], HS.arr [some 0, some 1, none] (by decide)⟩ (fun HH => ?_)
   clear hK K
   refine norm_ (a' := ?_) ?_ ?_
   rotate_left
   · show Act.put _ (some 18) _ = _; simp only [Act.put, ptn]; rfl
   refine dr1 7 HT fun K hK => ?_
   refine if_li q182 [3] ([t9] : List S182) ([.int .i64 t9.f0, .string t9.f1, .slice B10 t9.f2.length d10] ++ []) HS (MadeL.cons (js1 := [3]) (c := [.int .i64 t9.f0, .string t9.f1, .slice B10 t9.f2.length d10]) rfl (fun S hd hh => q182_pack (x := t9) hd (hh 3 (.own (Zd.slice 182 q182) t9.f2 [.slice B10 t9.f2.length d10]) rfl) (by decide)) MadeL.nil (by decide)) ?_; clear HS; intro v11 w11 HS F; obtain ⟨B11, d11, rfl, m11⟩ := HS.formn 1 4 rfl rfl
   refine hK.out _ _ ⟨[], HS.arr [some 0, some 1, none] (by decide)⟩ (fun HH => ?_)
   clear hK K
   refine norm_ (a' := ?_) ?_ ?_
   rotate_left
   · show Act.put _ (some 19) _ = _; simp only [Act.put, ptn]; rfl
   refine dr1 8 HT fun K hK => ?_
   refine wp_ap q182 2 4 HS rfl rfl Tryz.underlying180 info182 (of_eq_true c12) ?_; clear HS; intro v13 w13 HS; rw [← e_y13.out] at HS; obtain ⟨B13, d13, rfl, m13⟩ := HS.form 5 rfl
   (try simp only [hpn, hpm] at HS)
   have F := HS.boxes; simp only [bxn] at F
   refine hK.out _ _ ⟨[], HS.arr [some 0, some 1, none] (by decide)⟩ (fun HH => ?_)
   clear hK K
   refine norm_ (a' := ?_) ?_ ?_
   rotate_left
   · show Act.put _ (some 20) _ = _; simp only [Act.put, ptn]; rfl
   refine drq_of [(9, some 21)] ?_
   repeat (refine drp HT ?_)
   refine drq_end ?_
   refine dr_last 10 HT rfl (by kernel_rfl) (by decide) (fun K hK => ?_)
   refine if_st 1 2 HS (seg := [.slice B13 y13.length d13]) ?_; clear HS; intro w14 HS F
   refine hK.out _ _ ?_
   clear hK K
   refine done_ (done_of HT.out (by kernel_rfl)) ?_
   (try clear F)
   have F := HS.boxes; simp only [bxn] at F
   go_wp2
   go_roundg k18
   case measure => have := HKk18.out; omega
   case rel => exact ⟨_, _, _, rfl, H, ⟨by have := HKk18.out; omega⟩, HS.pick [0, 1, 5] (by decide) (by rfl)⟩
def spec_BodyItem.f (k : Nat) (a0 : S91) : Option (S182) := ((spec_IntItem.f k a0.f3).bind fun t13 => ((spec_IntItem.f k a0.f4).bind fun t15 => ((spec_IntItem.f k a0.f0).bind fun t20 => ((spec_TextItem.f a0.f1).bind fun t22 => ((spec_TextItem.f a0.f2).bind fun t24 => ((spec_l09Bytes.f a0.f5).bind fun t26 => ((spec_l09Bool.f a0.f6).bind fun t28 => ((spec_IntItem.f k a0.f7).bind fun t30 => ((spec_IntItem.f k a0.f8).bind fun t32 => ((spec_l09Ints.f k a0.f9).bind fun t34 => ((spec_l09Texts.f k a0.f10).bind fun t36 => ((spec_l09Texts.f k a0.f11).bind fun t38 => (some (⟨48, (⟨#[]⟩ : ByteArray), ([t20, t22, (⟨48, (⟨#[]⟩ : ByteArray), ([t13, t15] : List S182)⟩ : S182), t24, t26, t28, t30, t32, t34, t36, t38] : List S182)⟩ : S182))))))))))))))
def spec_BodyItem.T1 : TT := (true, [([], []), ([0], [0]), ([1], [1]), ([], []), ([3], [3]), ([4, 2], [4]), ([2, 5], [2, 5]), ([6], [6]), ([], []), ([8, 7, 5, 0, 1, 2, 3, 4, 5, 6, 7, 8], [7, 8])])
theorem spec_BodyItem.tT1 : rtab .any (opsOf Tryz.f135 1) = spec_BodyItem.T1 := by kernel_rfl
def spec_BodyItem.T2 : TT := (true, [([], []), ([0], [0]), ([1], [1]), ([], []), ([3], [3]), ([4, 2], [4]), ([], []), ([], []), ([7], [7]), ([8, 5], [8]), ([], []), ([10], [10]), ([11, 9], [11]), ([], []), ([13], [13]), ([14, 12], [14]), ([], []), ([16], [16]), ([17, 15], [17]), ([], []), ([19], [19]), ([20, 18], [20]), ([], []), ([22], [22]), ([23, 21], [23]), ([], []), ([25], [25]), ([26, 24], [26]), ([], []), ([28], [28]), ([29, 27], [29]), ([2, 5, 6, 9, 12, 15, 18, 21, 24, 27, 30], [2, 5, 6, 9, 12, 15, 18, 21, 24, 27, 30]), ([31], [31]), ([32, 30, 0, 1, 2, 3, 4, 5, 6, 7, 8, 9, 10, 11, 12, 13, 14, 15, 16, 17, 18, 19, 20, 21, 22, 23, 24, 25, 26, 27, 28, 29, 30, 31, 32], [32])])
theorem spec_BodyItem.tT2 : rtab .any (opsOf Tryz.f135 2) = spec_BodyItem.T2 := by kernel_rfl
theorem spec_BodyItem.calls {k : Nat} {a0 : S91} {Ap0 Ap1 Ap2 : Option Addr} {np0 cp0 np1 cp1 np2 cp2 : Nat} {r : S182} {w : World} (h : spec_BodyItem.f k a0 = some r) (gp0 : (Kd.int .i64).C w Ap0 np0 a0.f9) (lp0 : np0 ≤ cp0) (gp1 : Kd.string.C w Ap1 np1 a0.f10) (lp1 : np1 ≤ cp1) (gp2 : Kd.string.C w Ap2 np2 a0.f11) (lp2 : np2 ≤ cp2) :
    Calls Tryz.prog 135 #[.agg #[.int .i64 a0.f0, .string a0.f1, .string a0.f2, .int .i64 a0.f3, .int .i64 a0.f4, .string a0.f5, .bool a0.f6, .int .i64 a0.f7, .int .i64 a0.f8, .slice Ap0 np0 cp0, .slice Ap1 np1 cp1, .slice Ap2 np2 cp2, .string a0.f12]] w (fun e w' => ∃ v0_ : Value, e = .returned (.agg #[.int .i64 r.f0, .string r.f1, v0_]) ∧ Hp noFP w w' [.own (Zd.slice 182 q182) r.f2 [v0_]]) := by
 obtain rfl := C_len gp0
 obtain rfl := C_len gp1
 obtain rfl := C_len gp2
 have HS := Hp.start w
 have H := Aside0.mk h
 clear h
 unfold spec_BodyItem.f at H
 go_enter Tryz.func135, Tryz.ntmps135
 go_wp2_with (first | ((with_reducible refine gd 1 rfl ?_); refine ev_bx HS ?_; clear HS; intro g1 w1 HS F) | ((with_reducible refine gd 2 rfl ?_); refine ev_bx HS ?_; clear HS; intro g2 w2 HS F))
 replace H := zbind H; obtain ⟨t13, ht13, H⟩ := H
 replace H := zbind H; obtain ⟨t15, ht15, H⟩ := H
 refine dr_start [9] HS #[false, false, false, false, false, false, false, false, false, false] (by kernel_rfl) rfl rfl spec_BodyItem.tT1 (fun w6 HT HS HH => ?_)
 (try clear F)
 refine join_ 0 #[true, true, true, true, true, true, true, true, true, true] (fun ((v14, v16, v17, g3) : Value × Value × Value × Nat) => ([(4, .pointer (some ⟨g1, 3, none⟩)), (5, .int .i64 a0.f3), (6, .agg #[.int .i64 t13.f0, .string t13.f1, v14]), (7, .pointer (some ⟨g1, 4, none⟩)), (8, .int .i64 a0.f4), (9, .agg #[.int .i64 t15.f0, .string t15.f1, v16]), (10, v17), (11, .agg #[.int .i64 48, .string (⟨#[]⟩ : ByteArray), v17]), (3, .pointer (some ⟨g3, 0, none⟩))] : List (Tmp × Value))) (fun ((v14, v16, v17, g3) : Value × Value × Value × Nat) w' => Hp noFP w w' [.box g1 [.int .i64 a0.f0, .string a0.f1, .string a0.f2, .int .i64 a0.f3, .int .i64 a0.f4, .string a0.f5, .bool a0.f6, .int .i64 a0.f7, .int .i64 a0.f8, .slice Ap0 a0.f9.length cp0, .slice Ap1 a0.f10.length cp1, .slice Ap2 a0.f11.length cp2, .string a0.f12] 91, .box g2 [.int .i64 0, .string (⟨#[]⟩ : ByteArray), .slice none 0 0] 182, .emp, .emp, .own (Zd.slice 182 q182) ([t13, t15] : List S182) [v17], .box g3 [.int .i64 48, .string (⟨#[]⟩ : ByteArray), v17] 182]) ?_ ?_
 rotate_left
 · intro hJ
   refine drq_of [(0, some 4), (1, some 5), (3, some 7), (4, some 8)] ?_
   repeat (first | refine drp HT ?_ | refine drt HT HH ?_)
   refine drq_end ?_
   refine dr_any [2, 8] HT (by kernel_rfl) (by decide) (AllReadyL.cons rfl (by decide) (fun K hK => ?_) (AllReadyL.cons rfl (by decide) (fun K hK => ?_) AllReadyL.nil))
   · refine go_cl1 HS (spec_IntItem.calls ht13.out) Tryz.func192 ?_; clear HS; intro v14 wt13 HS F; obtain ⟨B14, d14, rfl, m14⟩ := HS.form 2 rfl
     refine nrm 6 hK ⟨_, HS⟩ (fun HH => ?_); clear hK K
     refine dr_any [5, 8] HT (by kernel_rfl) (by decide) (AllReadyL.cons rfl (by decide) (fun K hK => ?_) (AllReadyL.cons rfl (by decide) (fun K hK => ?_) AllReadyL.nil))
     · refine go_cl1 HS (spec_IntItem.calls ht15.out) Tryz.func192 ?_; clear HS; intro v16 wt15 HS F; obtain ⟨B16, d16, rfl, m16⟩ := HS.form 3 rfl
       refine nrm 9 hK ⟨_, HS⟩ (fun HH => ?_); clear hK K
       refine dr_any [6, 8] HT (by kernel_rfl) (by decide) (AllReadyL.cons rfl (by decide) (fun K hK => ?_) (AllReadyL.cons rfl (by decide) (fun K hK => ?_) AllReadyL.nil))
       · refine if_li q182 [2, 3] ([t13, t15] : List S182) ([.int .i64 t13.f0, .string t13.f1, .slice B14 t13.f2.length d14] ++ ([.int .i64 t15.f0, .string t15.f1, .slice B16 t15.f2.length d16] ++ [])) HS (MadeL.cons (js1 := [2]) (c := [.int .i64 t13.f0, .string t13.f1, .slice B14 t13.f2.length d14]) rfl (fun S hd hh => q182_pack (x := t13) hd (hh 2 (.own (Zd.slice 182 q182) t13.f2 [.slice B14 t13.f2.length d14]) rfl) (by decide)) (MadeL.cons (js1 := [3]) (c := [.int .i64 t15.f0, .string t15.f1, .slice B16 t15.f2.length d16]) rfl (fun S hd hh => q182_pack (x := t15) hd (hh 3 (.own (Zd.slice 182 q182) t15.f2 [.slice B16 t15.f2.length d16]) rfl) (by decide)) MadeL.nil (by decide)) (by decide)) ?_; clear HS; intro v17 w17 HS F; obtain ⟨B17, d17, rfl, m17⟩ := HS.formn 2 4 rfl rfl
         refine nrm 10 hK ⟨_, HS⟩ (fun HH => ?_); clear hK K
         refine drq_of [(7, some 11)] ?_
         repeat (refine drp HT ?_)
         refine drq_end ?_
         refine dr1 8 HT fun K hK => ?_
         refine if_bx HS ?_; clear HS; intro g3 w3 HS F
         refine nrm 3 hK ⟨_, HS⟩ (fun HH => ?_); clear hK K
         refine dr_last 9 HT rfl (by kernel_rfl) (by decide) (fun K hK => ?_)
         refine if_st 5 0 HS (seg := [.int .i64 48, .string (⟨#[]⟩ : ByteArray), .slice B17 2 d17]) ?_; clear HS; intro w18 HS F
         refine hK.out _ _ ?_
         clear hK K
         refine norm_ ?_ (hJ (.slice B14 t13.f2.length d14, .slice B16 t15.f2.length d16, .slice B17 2 d17, g3) _ (HS.arr [some 0, some 1, none, none, some 4, some 5] (by decide)))
         simp only [putAll, Act.put, ptn]
         (try rfl)
       · refine if_bx HS ?_; clear HS; intro g3 w3 HS F
         refine nrm 3 hK ⟨_, HS⟩ (fun HH => ?_); clear hK K
         refine dr1 6 HT fun K hK => ?_
         refine if_li q182 [2, 3] ([t13, t15] : List S182) ([.int .i64 t13.f0, .string t13.f1, .slice B14 t13.f2.length d14] ++ ([.int .i64 t15.f0, .string t15.f1, .slice B16 t15.f2.length d16] ++ [])) HS (MadeL.cons (js1 := [2]) (c := [.int .i64 t13.f0, .string t13.f1, .slice B14 t13.f2.length d14]) rfl (fun S hd hh => q182_pack (x := t13) hd (hh 2 (.own (Zd.slice 182 q182) t13.f2 [.slice B14 t13.f2.length d14]) rfl) (by decide)) (MadeL.cons (js1 := [3]) (c := [.int .i64 t15.f0, .string t15.f1, .slice B16 t15.f2.length d16]) rfl (fun S hd hh => q182_pack (x := t15) hd (hh 3 (.own (Zd.slice 182 q182) t15.f2 [.slice B16 t15.f2.length d16]) rfl) (by decide)) MadeL.nil (by decide)) (by decide)) ?_; clear HS; intro v17 w17 HS F; obtain ⟨B17, d17, rfl, m17⟩ := HS.formn 2 5 rfl rfl
         refine nrm 10 hK ⟨_, HS⟩ (fun HH => ?_); clear hK K
         refine drq_of [(7, some 11)] ?_
         repeat (refine drp HT ?_)
         refine drq_end ?_
         refine dr_last 9 HT rfl (by kernel_rfl) (by decide) (fun K hK => ?_)
         refine if_st 4 0 HS (seg := [.int .i64 48, .string (⟨#[]⟩ : ByteArray), .slice B17 2 d17]) ?_; clear HS; intro w18 HS F
         refine hK.out _ _ ?_
         clear hK K
         refine norm_ ?_ (hJ (.slice B14 t13.f2.length d14, .slice B16 t15.f2.length d16, .slice B17 2 d17, g3) _ (HS.arr [some 0, some 1, none, none, some 5, some 4] (by decide)))
         simp only [putAll, Act.put, ptn]
         (try rfl)
     · refine if_bx HS ?_; clear HS; intro g3 w3 HS F
       refine nrm 3 hK ⟨_, HS⟩ (fun HH => ?_); clear hK K
       refine dr1 5 HT fun K hK => ?_
       refine go_cl1 HS (spec_IntItem.calls ht15.out) Tryz.func192 ?_; clear HS; intro v16 wt15 HS F; obtain ⟨B16, d16, rfl, m16⟩ := HS.form 4 rfl
       refine nrm 9 hK ⟨_, HS⟩ (fun HH => ?_); clear hK K
       refine dr1 6 HT fun K hK => ?_
       refine if_li q182 [2, 4] ([t13, t15] : List S182) ([.int .i64 t13.f0, .string t13.f1, .slice B14 t13.f2.length d14] ++ ([.int .i64 t15.f0, .string t15.f1, .slice B16 t15.f2.length d16] ++ [])) HS (MadeL.cons (js1 := [2]) (c := [.int .i64 t13.f0, .string t13.f1, .slice B14 t13.f2.length d14]) rfl (fun S hd hh => q182_pack (x := t13) hd (hh 2 (.own (Zd.slice 182 q182) t13.f2 [.slice B14 t13.f2.length d14]) rfl) (by decide)) (MadeL.cons (js1 := [4]) (c := [.int .i64 t15.f0, .string t15.f1, .slice B16 t15.f2.length d16]) rfl (fun S hd hh => q182_pack (x := t15) hd (hh 4 (.own (Zd.slice 182 q182) t15.f2 [.slice B16 t15.f2.length d16]) rfl) (by decide)) MadeL.nil (by decide)) (by decide)) ?_; clear HS; intro v17 w17 HS F; obtain ⟨B17, d17, rfl, m17⟩ := HS.formn 2 5 rfl rfl
       refine nrm 10 hK ⟨_, HS⟩ (fun HH => ?_); clear hK K
       refine drq_of [(7, some 11)] ?_
       repeat (refine drp HT ?_)
       refine drq_end ?_
       refine dr_last 9 HT rfl (by kernel_rfl) (by decide) (fun K hK => ?_)
       refine if_st 3 0 HS (seg := [.int .i64 48, .string (⟨#[]⟩ : ByteArray), .slice B17 2 d17]) ?_; clear HS; intro w18 HS F
       refine hK.out _ _ ?_
       clear hK K
       refine norm_ ?_ (hJ (.slice B14 t13.f2.length d14, .slice B16 t15.f2.length d16, .slice B17 2 d17, g3) _ (HS.arr [some 0, some 1, none, none, some 5, some 3] (by decide)))
       simp only [putAll, Act.put, ptn]
       (try rfl)
   · refine if_bx HS ?_; clear HS; intro g3 w3 HS F
     refine nrm 3 hK ⟨_, HS⟩ (fun HH => ?_); clear hK K
     refine dr1 2 HT fun K hK => ?_
     refine go_cl1 HS (spec_IntItem.calls ht13.out) Tryz.func192 ?_; clear HS; intro v14 wt13 HS F; obtain ⟨B14, d14, rfl, m14⟩ := HS.form 3 rfl
     refine nrm 6 hK ⟨_, HS⟩ (fun HH => ?_); clear hK K
     refine dr1 5 HT fun K hK => ?_
     refine go_cl1 HS (spec_IntItem.calls ht15.out) Tryz.func192 ?_; clear HS; intro v16 wt15 HS F; obtain ⟨B16, d16, rfl, m16⟩ := HS.form 4 rfl
     refine nrm 9 hK ⟨_, HS⟩ (fun HH => ?_); clear hK K
     refine dr1 6 HT fun K hK => ?_
     refine if_li q182 [3, 4] ([t13, t15] : List S182) ([.int .i64 t13.f0, .string t13.f1, .slice B14 t13.f2.length d14] ++ ([.int .i64 t15.f0, .string t15.f1, .slice B16 t15.f2.length d16] ++ [])) HS (MadeL.cons (js1 := [3]) (c := [.int .i64 t13.f0, .string t13.f1, .slice B14 t13.f2.length d14]) rfl (fun S hd hh => q182_pack (x := t13) hd (hh 3 (.own (Zd.slice 182 q182) t13.f2 [.slice B14 t13.f2.length d14]) rfl) (by decide)) (MadeL.cons (js1 := [4]) (c := [.int .i64 t15.f0, .string t15.f1, .slice B16 t15.f2.length d16]) rfl (fun S hd hh => q182_pack (x := t15) hd (hh 4 (.own (Zd.slice 182 q182) t15.f2 [.slice B16 t15.f2.length d16]) rfl) (by decide)) MadeL.nil (by decide)) (by decide)) ?_; clear HS; intro v17 w17 HS F; obtain ⟨B17, d17, rfl, m17⟩ := HS.formn 2 5 rfl rfl
     refine nrm 10 hK ⟨_, HS⟩ (fun HH => ?_); clear hK K
     refine drq_of [(7, some 11)] ?_
     repeat (refine drp HT ?_)
     refine drq_end ?_
     refine dr_last 9 HT rfl (by kernel_rfl) (by decide) (fun K hK => ?_)
     refine if_st 2 0 HS (seg := [.int .i64 48, .string (⟨#[]⟩ : ByteArray), .slice B17 2 d17]) ?_; clear HS; intro w18 HS F
     refine hK.out _ _ ?_
     clear hK K
     refine norm_ ?_ (hJ (.slice B14 t13.f2.length d14, .slice B16 t15.f2.length d16, .slice B17 2 d17, g3) _ (HS.arr [some 0, some 1, none, none, some 5, some 2] (by decide)))
     simp only [putAll, Act.put, ptn]
     (try rfl)
 rintro ⟨v14, v16, v17, g3⟩ w19 HS
 obtain ⟨B17, d17, rfl, m17⟩ := HS.formn 2 4 rfl (by first | rfl | simp)
 have F := HS.boxes; simp only [bxn] at F
 refine norm_ (a' := ?_) ?_ ?_
 rotate_left
 · simp only [putAll, Act.put, ptn]; rfl
 refine done_ (done_of HT.out (by kernel_rfl)) ?_
 (try go_wp2)
 replace H := zbind H; obtain ⟨t20, ht20, H⟩ := H
 replace H := zbind H; obtain ⟨t22, ht22, H⟩ := H
 replace H := zbind H; obtain ⟨t24, ht24, H⟩ := H
 replace H := zbind H; obtain ⟨t26, ht26, H⟩ := H
 replace H := zbind H; obtain ⟨t28, ht28, H⟩ := H
 replace H := zbind H; obtain ⟨t30, ht30, H⟩ := H
 replace H := zbind H; obtain ⟨t32, ht32, H⟩ := H
 replace H := zbind H; obtain ⟨t34, ht34, H⟩ := H
 replace H := zbind H; obtain ⟨t36, ht36, H⟩ := H
 replace H := zbind H; obtain ⟨t38, ht38, H⟩ := H
 refine dr_start2 [.box g1 [.int .i64 a0.f0, .string a0.f1, .string a0.f2, .int .i64 a0.f3, .int .i64 a0.f4, .string a0.f5, .bool a0.f6, .int .i64 a0.f7, .int .i64 a0.f8, .slice Ap0 a0.f9.length cp0, .slice Ap1 a0.f10.length cp1, .slice Ap2 a0.f11.length cp2, .string a0.f12] 91, .box g2 [.int .i64 0, .string (⟨#[]⟩ : ByteArray), .slice none 0 0] 182, .emp, .emp, .emp, .box g3 [.int .i64 48, .string (⟨#[]⟩ : ByteArray), .slice B17 2 d17] 182] [33] HS (HS.arr [some 0, some 1, none, none, none, some 5] (by decide)) #[false, false, false, false, false, false, false, false, false, false, false, false, false, false, false, false, false, false, false, false, false, false, false, false, false, false, false, false, false, false, false, false, false, false] (by kernel_rfl) rfl rfl spec_BodyItem.tT2 (fun w9 HT HS HH => ?_)
 (try clear F)
 refine drq_of [(0, some 12), (1, some 13), (3, some 15), (4, some 16), (6, some 18), (7, some 19), (8, some 20), (10, some 22), (11, some 23), (13, some 25), (14, some 26), (16, some 28), (17, some 29), (19, some 31), (20, some 32), (22, some 34), (23, some 35), (25, some 37), (26, some 38), (28, some 40), (29, some 41)] ?_
 repeat (first | refine drp HT ?_ | refine drt HT HH ?_)
 refine drq_end ?_
 refine dr1 2 HT fun K hK => ?_
 refine go_cl1 HS (spec_IntItem.calls ht20.out) Tryz.func192 ?_; clear HS; intro v21 wt20 HS F; obtain ⟨B21, d21, rfl, m21⟩ := HS.form 6 rfl
 refine hK.out _ _ ⟨[], HS.arr [some 0, some 1, none, none, none, some 5] (by decide)⟩ (fun HH => ?_)
 clear hK K
 refine norm_ (a' := ?_) ?_ ?_
 rotate_left
 · show Act.put _ (some 14) _ = _; simp only [Act.put, ptn]; rfl
 refine dr1 5 HT fun K hK => ?_
 refine go_cl1 HS (spec_TextItem.calls ht22.out) Tryz.func193 ?_; clear HS; intro v23 wt22 HS F; obtain ⟨B23, d23, rfl, m23⟩ := HS.form 7 rfl
 refine hK.out _ _ ⟨[], HS.arr [some 0, some 1, none, none, none, some 5] (by decide)⟩ (fun HH => ?_)
 clear hK K
 refine norm_ (a' := ?_) ?_ ?_
 rotate_left
 · show Act.put _ (some 17) _ = _; simp only [Act.put, ptn]; rfl
 refine dr1 9 HT fun K hK => ?_
 refine go_cl1 HS (spec_TextItem.calls ht24.out) Tryz.func193 ?_; clear HS; intro v25 wt24 HS F; obtain ⟨B25, d25, rfl, m25⟩ := HS.form 8 rfl
 refine hK.out _ _ ⟨[], HS.arr [some 0, some 1, none, none, none, some 5] (by decide)⟩ (fun HH => ?_)
 clear hK K
 refine norm_ (a' := ?_) ?_ ?_
 rotate_left
 · show Act.put _ (some 21) _ = _; simp only [Act.put, ptn]; rfl
 refine dr1 12 HT fun K hK => ?_
 refine go_cl1 HS (spec_l09Bytes.calls ht26.out) Tryz.func136 ?_; clear HS; intro v27 wt26 HS F; obtain ⟨B27, d27, rfl, m27⟩ := HS.form 9 rfl
 refine hK.out _ _ ⟨[], HS.arr [some 0, some 1, none, none, none, some 5] (by decide)⟩ (fun HH => ?_)
 clear hK K
 refine norm_ (a' := ?_) ?_ ?_
 rotate_left
 · show Act.put _ (some 24) _ = _; simp only [Act.put, ptn]; rfl
 refine dr1 15 HT fun K hK => ?_
 refine go_cl1 HS (spec_l09Bool.calls ht28.out) Tryz.func194 ?_; clear HS; intro v29 wt28 HS F; obtain ⟨B29, d29, rfl, m29⟩ := HS.form 10 rfl
 refine hK.out _ _ ⟨[], HS.arr [some 0, some 1, none, none, none, some 5] (by decide)⟩ (fun HH => ?_)
 clear hK K
 refine norm_ (a' := ?_) ?_ ?_
 rotate_left
 · show Act.put _ (some 27) _ = _; simp only [Act.put, ptn]; rfl
 refine dr1 18 HT fun K hK => ?_
 refine go_cl1 HS (spec_IntItem.calls ht30.out) Tryz.func192 ?_; clear HS; intro v31 wt30 HS F; obtain ⟨B31, d31, rfl, m31⟩ := HS.form 11 rfl
 refine hK.out _ _ ⟨[], HS.arr [some 0, some 1, none, none, none, some 5] (by decide)⟩ (fun HH => ?_)
 clear hK K
 refine norm_ (a' := ?_) ?_ ?_
 rotate_left
 · show Act.put _ (some 30) _ = _; simp only [Act.put, ptn]; rfl
 refine dr1 21 HT fun K hK => ?_
 refine go_cl1 HS (spec_IntItem.calls ht32.out) Tryz.func192 ?_; clear HS; intro v33 wt32 HS F; obtain ⟨B33, d33, rfl, m33⟩ := HS.form 12 rfl
 refine hK.out _ _ ⟨[], HS.arr [some 0, some 1, none, none, none, some 5] (by decide)⟩ (fun HH => ?_)
 clear hK K
 refine norm_ (a' := ?_) ?_ ?_
 rotate_left
 · show Act.put _ (some 33) _ = _; simp only [Act.put, ptn]; rfl
 refine dr1 24 HT fun K hK => ?_
 refine go_cl1 HS (spec_l09Ints.calls ht34.out (HS.ro gp0) lp0) Tryz.func195 ?_; clear HS; intro v35 wt34 HS F; obtain ⟨B35, d35, rfl, m35⟩ := HS.form 13 rfl
 refine hK.out _ _ ⟨[], HS.arr [some 0, some 1, none, none, none, some 5] (by decide)⟩ (fun HH => ?_)
 clear hK K
 refine norm_ (a' := ?_) ?_ ?_
 rotate_left
 · show Act.put _ (some 36) _ = _; simp only [Act.put, ptn]; rfl
 refine dr1 27 HT fun K hK => ?_
 refine go_cl1 HS (spec_l09Texts.calls ht36.out (HS.ro gp1) lp1) Tryz.func196 ?_; clear HS; intro v37 wt36 HS F; obtain ⟨B37, d37, rfl, m37⟩ := HS.form 14 rfl
 refine hK.out _ _ ⟨[], HS.arr [some 0, some 1, none, none, none, some 5] (by decide)⟩ (fun HH => ?_)
 clear hK K
 refine norm_ (a' := ?_) ?_ ?_
 rotate_left
 · show Act.put _ (some 39) _ = _; simp only [Act.put, ptn]; rfl
 refine dr1 30 HT fun K hK => ?_
 refine go_cl1 HS (spec_l09Texts.calls ht38.out (HS.ro gp2) lp2) Tryz.func196 ?_; clear HS; intro v39 wt38 HS F; obtain ⟨B39, d39, rfl, m39⟩ := HS.form 15 rfl
 refine hK.out _ _ ⟨[], HS.arr [some 0, some 1, none, none, none, some 5] (by decide)⟩ (fun HH => ?_)
 clear hK K
 refine norm_ (a' := ?_) ?_ ?_
 rotate_left
 · show Act.put _ (some 42) _ = _; simp only [Act.put, ptn]; rfl
 refine dr1 31 HT fun K hK => ?_
 refine if_li q182 [6, 7, 4, 8, 9, 10, 11, 12, 13, 14, 15] ([t20, t22, (⟨48, (⟨#[]⟩ : ByteArray), ([t13, t15] : List S182)⟩ : S182), t24, t26, t28, t30, t32, t34, t36, t38] : List S182) ([.int .i64 t20.f0, .string t20.f1, .slice B21 t20.f2.length d21] ++ ([.int .i64 t22.f0, .string t22.f1, .slice B23 t22.f2.length d23] ++ ([.int .i64 48, .string (⟨#[]⟩ : ByteArray), .slice B17 2 d17] ++ ([.int .i64 t24.f0, .string t24.f1, .slice B25 t24.f2.length d25] ++ ([.int .i64 t26.f0, .string t26.f1, .slice B27 t26.f2.length d27] ++ ([.int .i64 t28.f0, .string t28.f1, .slice B29 t28.f2.length d29] ++ ([.int .i64 t30.f0, .string t30.f1, .slice B31 t30.f2.length d31] ++ ([.int .i64 t32.f0, .string t32.f1, .slice B33 t32.f2.length d33] ++ ([.int .i64 t34.f0, .string t34.f1, .slice B35 t34.f2.length d35] ++ ([.int .i64 t36.f0, .string t36.f1, .slice B37 t36.f2.length d37] ++ ([.int .i64 t38.f0, .string t38.f1, .slice B39 t38.f2.length d39] ++ []))))))))))) HS (MadeL.cons (js1 := [6]) (c := [.int .i64 t20.f0, .string t20.f1, .slice B21 t20.f2.length d21]) rfl (fun S hd hh => q182_pack (x := t20) hd (hh 6 (.own (Zd.slice 182 q182) t20.f2 [.slice B21 t20.f2.length d21]) rfl) (by decide)) (MadeL.cons (js1 := [7]) (c := [.int .i64 t22.f0, .string t22.f1, .slice B23 t22.f2.length d23]) rfl (fun S hd hh => q182_pack (x := t22) hd (hh 7 (.own (Zd.slice 182 q182) t22.f2 [.slice B23 t22.f2.length d23]) rfl) (by decide)) (MadeL.cons (js1 := [4]) (c := [.int .i64 48, .string (⟨#[]⟩ : ByteArray), .slice B17 2 d17]) rfl (fun S hd hh => q182_pack (x := (⟨48, (⟨#[]⟩ : ByteArray), ([t13, t15] : List S182)⟩ : S182)) hd (hh 4 (.own (Zd.slice 182 q182) ([t13, t15] : List S182) [.slice B17 2 d17]) rfl) (by decide)) (MadeL.cons (js1 := [8]) (c := [.int .i64 t24.f0, .string t24.f1, .slice B25 t24.f2.length d25]) rfl (fun S hd hh => q182_pack (x := t24) hd (hh 8 (.own (Zd.slice 182 q182) t24.f2 [.slice B25 t24.f2.length d25]) rfl) (by decide)) (MadeL.cons (js1 := [9]) (c := [.int .i64 t26.f0, .string t26.f1, .slice B27 t26.f2.length d27]) rfl (fun S hd hh => q182_pack (x := t26) hd (hh 9 (.own (Zd.slice 182 q182) t26.f2 [.slice B27 t26.f2.length d27]) rfl) (by decide)) (MadeL.cons (js1 := [10]) (c := [.int .i64 t28.f0, .string t28.f1, .slice B29 t28.f2.length d29]) rfl (fun S hd hh => q182_pack (x := t28) hd (hh 10 (.own (Zd.slice 182 q182) t28.f2 [.slice B29 t28.f2.length d29]) rfl) (by decide)) (MadeL.cons (js1 := [11]) (c := [.int .i64 t30.f0, .string t30.f1, .slice B31 t30.f2.length d31]) rfl (fun S hd hh => q182_pack (x := t30) hd (hh 11 (.own (Zd.slice 182 q182) t30.f2 [.slice B31 t30.f2.length d31]) rfl) (by decide)) (MadeL.cons (js1 := [12]) (c := [.int .i64 t32.f0, .string t32.f1, .slice B33 t32.f2.length d33]) rfl (fun S hd hh => q182_pack (x := t32) hd (hh 12 (.own (Zd.slice 182 q182) t32.f2 [.slice B33 t32.f2.length d33]) rfl) (by decide)) (MadeL.cons (js1 := [13]) (c := [.int .i64 t34.f0, .string t34.f1, .slice B35 t34.f2.length d35]) rfl (fun S hd hh => q182_pack (x := t34) hd (hh 13 (.own (Zd.slice 182 q182) t34.f2 [.slice B35 t34.f2.length d35]) rfl) (by decide)) (MadeL.cons (js1 := [14]) (c := [.int .i64 t36.f0, .string t36.f1, .slice B37 t36.f2.length d37]) rfl (fun S hd hh => q182_pack (x := t36) hd (hh 14 (.own (Zd.slice 182 q182) t36.f2 [.slice B37 t36.f2.length d37]) rfl) (by decide)) (MadeL.cons (js1 := [15]) (c := [.int .i64 t38.f0, .string t38.f1, .slice B39 t38.f2.length d39]) rfl (fun S hd hh => q182_pack (x := t38) hd (hh 15 (.own (Zd.slice 182 q182) t38.f2 [.slice B39 t38.f2.length d39]) rfl) (by decide)) MadeL.nil (by decide)) (by decide)) (by decide)) (by decide)) (by decide)) (by decide)) (by decide)) (by decide)) (by decide)) (by decide)) (by decide)) ?_; clear HS; intro v40 w40 HS F; obtain ⟨B40, d40, rfl, m40⟩ := HS.formn 11 16 rfl rfl
 refine hK.out _ _ ⟨[], HS.arr [some 0, some 1, none, none, none, some 5] (by decide)⟩ (fun HH => ?_)
 clear hK K
 refine norm_ (a' := ?_) ?_ ?_
 rotate_left
 · show Act.put _ (some 43) _ = _; simp only [Act.put, ptn]; rfl
 refine drq_of [(32, some 44)] ?_
 repeat (refine drp HT ?_)
 refine drq_end ?_
 refine dr_last 33 HT rfl (by kernel_rfl) (by decide) (fun K hK => ?_)
 refine if_st 1 0 HS (seg := [.int .i64 48, .string (⟨#[]⟩ : ByteArray), .slice B40 11 d40]) ?_; clear HS; intro w41 HS F
 refine hK.out _ _ ?_
 clear hK K
 refine done_ (done_of HT.out (by kernel_rfl)) ?_
 (try clear F)
 have F := HS.boxes; simp only [bxn] at F
 obtain rfl := zsome H
 go_wp2
 exact bodyPost_ret (results_single rfl (.cell _ _ _ _ _ rfl (HS.boxAt (i := 1) rfl) Tryz.underlying182 rfl (by kernel_rfl) .nil)) rfl ⟨_, rfl, HS.pick [16] (by decide) (by rfl)⟩
def spec_CertText.f (k : Nat) (a0 : S91) : Option (ByteArray × Bool) := ((spec_CertOk.f k a0).bind fun t3 => (if t3 = true then ((spec_BodyItem.f k a0).bind fun t13 => ((spec_l09Bytes.f a0.f12).bind fun t15 => ((spec_ItemText.f k (⟨48, (⟨#[]⟩ : ByteArray), ([t13, t15] : List S182)⟩ : S182)).bind fun t18 => (some (t18.1, t18.2))))) else (some ((⟨#[]⟩ : ByteArray), false))))
def spec_CertText.T3 : TT := (true, [([], []), ([0], [0]), ([], []), ([2], [2]), ([3, 1], [3]), ([1, 4], [1, 4]), ([5], [5]), ([6, 4], [6]), ([7], [7]), ([7], [7]), ([8, 7, 0, 1, 2, 3, 4, 5, 6, 7, 8, 9], [8]), ([9, 10, 0, 1, 2, 3, 4, 5, 6, 7, 8, 9, 10], [9])])
theorem spec_CertText.tT3 : rtab .any (opsOf Tryz.f54 3) = spec_CertText.T3 := by kernel_rfl
theorem spec_CertText.calls {k : Nat} {a0 : S91} {Ap0 Ap1 Ap2 : Option Addr} {np0 cp0 np1 cp1 np2 cp2 : Nat} {r1 : ByteArray} {r2 : Bool} {w : World} (h : spec_CertText.f k a0 = some (r1, r2)) (gp0 : (Kd.int .i64).C w Ap0 np0 a0.f9) (lp0 : np0 ≤ cp0) (gp1 : Kd.string.C w Ap1 np1 a0.f10) (lp1 : np1 ≤ cp1) (gp2 : Kd.string.C w Ap2 np2 a0.f11) (lp2 : np2 ≤ cp2) :
    Calls Tryz.prog 54 #[.agg #[.int .i64 a0.f0, .string a0.f1, .string a0.f2, .int .i64 a0.f3, .int .i64 a0.f4, .string a0.f5, .bool a0.f6, .int .i64 a0.f7, .int .i64 a0.f8, .slice Ap0 np0 cp0, .slice Ap1 np1 cp1, .slice Ap2 np2 cp2, .string a0.f12]] w (fun e w' => e = .returned (.tuple #[.string r1, .bool r2]) ∧ Hp noFP w w' []) := by
 obtain rfl := C_len gp0
 obtain rfl := C_len gp1
 obtain rfl := C_len gp2
 have HS := Hp.start w
 have H := Aside0.mk h
 clear h
 unfold spec_CertText.f at H
 go_enter Tryz.func54, Tryz.ntmps54
 replace H := zbind H; obtain ⟨t3, ht3, H⟩ := H
 go_upto_if 6 with (first | ((with_reducible refine gd 1 rfl ?_); refine ev_bx HS ?_; clear HS; intro g1 w1 HS F) | ((with_reducible refine gd 5 rfl ?_); refine ev_cl HS (spec_CertOk.calls ht3.out (HS.ro gp0) lp0 (HS.ro gp1) lp1 (HS.ro gp2) lp2) Tryz.func122 ?_; clear HS; intro wt3 HS F))
 replace H := znifb H; rcases H with ⟨c5, H⟩ | ⟨c5, H⟩
 case inl =>
  subst c5
  (try simp only [dcn, dcu, dcf])
  obtain ⟨rfl, rfl⟩ := zsome2 H
  go_wp2
  exact bodyPost_ret (results_list (rs := [.tmp 2, .tmp 3]) rfl (by simp) (.tmp (.tmp .nil))) rfl ⟨rfl, HS.pick [] (by decide) (by rfl)⟩
 subst c5
 (try simp only [dcn, dcu, dcf])
 (try go_wp2)
 replace H := zbind H; obtain ⟨t13, ht13, H⟩ := H
 replace H := zbind H; obtain ⟨t15, ht15, H⟩ := H
 replace H := zbind H; obtain ⟨t18, ht18, H⟩ := H
 refine dr_start [] HS #[false, false, false, false, false, false, false, false, false, false, false, false] (by kernel_rfl) rfl rfl spec_CertText.tT3 (fun w7 HT HS HH => ?_)
 (try clear F)
 refine drq_of [(0, some 7), (2, some 9), (3, some 10)] ?_
 repeat (first | refine drp HT ?_ | refine drt HT HH ?_)
 refine drq_end ?_
 refine dr1 1 HT fun K hK => ?_
 refine go_cl1 HS (spec_BodyItem.calls ht13.out (HS.ro gp0) lp0 (HS.ro gp1) lp1 (HS.ro gp2) lp2) Tryz.func135 ?_; clear HS; intro v14 wt13 HS F; obtain ⟨B14, d14, rfl, m14⟩ := HS.form 1 rfl
 refine nrm 8 hK ⟨_, HS⟩ (fun HH => ?_); clear hK K
 refine dr1 4 HT fun K hK => ?_
 refine go_cl1 HS (spec_l09Bytes.calls ht15.out) Tryz.func136 ?_; clear HS; intro v16 wt15 HS F; obtain ⟨B16, d16, rfl, m16⟩ := HS.form 2 rfl
 refine nrm 11 hK ⟨_, HS⟩ (fun HH => ?_); clear hK K
 refine dr1 5 HT fun K hK => ?_
 refine if_li q182 [1, 2] ([t13, t15] : List S182) ([.int .i64 t13.f0, .string t13.f1, .slice B14 t13.f2.length d14] ++ ([.int .i64 t15.f0, .string t15.f1, .slice B16 t15.f2.length d16] ++ [])) HS (MadeL.cons (js1 := [1]) (c := [.int .i64 t13.f0, .string t13.f1, .slice B14 t13.f2.length d14]) rfl (fun S hd hh => q182_pack (x := t13) hd (hh 1 (.own (Zd.slice 182 q182) t13.f2 [.slice B14 t13.f2.length d14]) rfl) (by decide)) (MadeL.cons (js1 := [2]) (c := [.int .i64 t15.f0, .string t15.f1, .slice B16 t15.f2.length d16]) rfl (fun S hd hh => q182_pack (x := t15) hd (hh 2 (.own (Zd.slice 182 q182) t15.f2 [.slice B16 t15.f2.length d16]) rfl) (by decide)) MadeL.nil (by decide)) (by decide)) ?_; clear HS; intro v17 w17 HS F; obtain ⟨B17, d17, rfl, m17⟩ := HS.formn 2 3 rfl rfl
 refine nrm 12 hK ⟨_, HS⟩ (fun HH => ?_); clear hK K
 refine drq_of [(6, some 13)] ?_
 repeat (refine drp HT ?_)
 refine drq_end ?_
 refine dr1 7 HT fun K hK => ?_
 refine go_cl HS (spec_ItemText.calls ht18.out (HS.rd 3 rfl) m17) Tryz.func134 ?_; clear HS; intro wt18 HS F
 refine nrm 14 hK ⟨_, HS⟩ (fun HH => ?_); clear hK K
 refine drq_of [(8, some 15), (9, some 16), (10, some 2), (11, some 3)] ?_
 repeat (refine drp HT ?_)
 refine drq_end ?_
 refine done_ (done_of HT.out (by kernel_rfl)) ?_
 (try clear F)
 have F := HS.boxes; simp only [bxn] at F
 obtain ⟨rfl, rfl⟩ := zsome2 H
 go_wp2
 exact bodyPost_ret (results_list (rs := [.tmp 2, .tmp 3]) rfl (by simp) (.tmp (.tmp .nil))) rfl ⟨rfl, HS.pick [] (by decide) (by rfl)⟩
def spec_l13In.l0 : Nat → Int → (List ByteArray) → ByteArray → Option (Bool)
  | 0, _, _, _ => none
  | k + 1, x4, a0, a1 => (if x4 < (a0.length : Int) then (if 0 ≤ x4 then (if x4 < (a0.length : Int) then (if (rdOf ByteArray.empty a0 x4).toList = a1.toList then (some true) else (spec_l13In.l0 k (wrap64 (x4 + 1)) a0 a1)) else none) else none) else (some false))
def spec_l13In.f (k : Nat) (a0 : (List ByteArray)) (a1 : ByteArray) : Option (Bool) := (spec_l13In.l0 k 0 a0 a1)
theorem spec_l13In.calls {k : Nat} {a0 : (List ByteArray)} {a1 : ByteArray} {Ap0 : Option Addr} {np0 cp0 : Nat} {r : Bool} {w : World} (h : spec_l13In.f k a0 a1 = some r) (gp0 : Kd.string.C w Ap0 np0 a0) (lp0 : np0 ≤ cp0) :
    Calls Tryz.prog 55 #[.slice Ap0 np0 cp0, .string a1] w (fun e w' => e = .returned (.bool r) ∧ Hp noFP w w' []) := by
 obtain rfl := C_len gp0
 have HS := Hp.start w
 have H := Aside0.mk h
 clear h
 unfold spec_l13In.f at H
 go_enter Tryz.func55, Tryz.ntmps55
 go_wp2
 go_loopg [5] k (fun kq v_5 w' => ∃ (x4 : Int), v_5 = .int .i64 x4 ∧ Aside0 (spec_l13In.l0 kq x4 a0 a1 = some r) ∧ Aside0 (kq ≤ k) ∧ Hp noFP w w' [])
 case atStart => exact ⟨_, rfl, H, ⟨Nat.le_refl _⟩, HS⟩
 case round =>
  clear HS H; (try clear F)
  obtain ⟨x4, rfl, H, HKk3, HS⟩ := hrel
  cases gk with
  | zero => exact absurd H.out (by simp [spec_l13In.l0])
  | succ k3 =>
   simp only [spec_l13In.l0] at H
   replace H := znif H; rcases H with ⟨c6, H⟩ | ⟨c6, H⟩
   case inl =>
    obtain rfl := zsome H
    go_wp2
    go_ret
    exact HS.pk
   replace H := zgo H; obtain ⟨c7, H⟩ := H
   replace H := zgo H; obtain ⟨c8, H⟩ := H
   obtain ⟨ad9, rfl, e9_0⟩ := Kd.at_string gp0 x4 (of_eq_true c7) (of_eq_true c8)
   have e9_0_9 := HS.keepc e9_0
   replace H := zif' H; rcases H with ⟨c10, H⟩ | ⟨c10, H⟩
   case inl =>
    have c10a := beq_iff_eq.mpr c10
    have c10b := bne_eq_false_iff_eq.mpr c10
    clear c10
    obtain rfl := zsome H
    go_wp2
    go_ret
    exact HS.pk
   have c10a := beq_eq_false_iff_ne.mpr c10
   have c10b := bne_iff_ne.mpr c10
   clear c10
   go_wp2
   go_roundg k3
   case measure => have := HKk3.out; omega
   case rel => exact ⟨_, rfl, H, ⟨by have := HKk3.out; omega⟩, HS.pick [] (by decide) (by rfl)⟩
end Go.Proofs.YtacocpknielofaaGreatDoor.F
