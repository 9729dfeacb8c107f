/- Functions of the program and of the law, and that their calls do what is written here. -/
import Derived.Test.YtacocpknielofaaGreatDoorZgFnExactLearnCrla
import Derived.Test.YtacocpknielofaaGreatDoorZgFnExactLearnCrlb
import Derived.Test.YtacocpknielofaaGreatDoorZgFnExactLearnCrld
import Derived.Test.YtacocpknielofaaGreatDoorZgFnExactLearnCrle
namespace Go.Proofs.YtacocpknielofaaGreatDoor.F
open Go.RowKit YtacocpknielofaaGreatDoorW.PrintWords YtacocpknielofaaGreatDoorW.PrintLast YtacocpknielofaaGreatDoorW.PrintMore Z
attribute [local go_sem] max2_int min2_int max_two min_two max_three min_three max_four min_four
set_option linter.unusedVariables false
set_option linter.unusedSimpArgs false
set_option maxRecDepth 100000
set_option maxHeartbeats 16000000
mutual
def spec_StoreOk.l0 : Nat → (List ByteArray) → Int → S33 → Option (Bool)
  | 0, _, _, _ => none
  | k + 1, l22, x24, a0 => (if x24 < (a0.f0.length : Int) then (if 0 ≤ x24 then (if x24 < (a0.f0.length : Int) then ((spec_CertText.f k (rd_T91 a0.f0 x24)).bind fun t30 => (if t30.2 = true then ((spec_l13In.f k l22 t30.1).bind fun t33 => (if t33 = true then (some false) else (if l22.length + 1 ≤ 8796093022208 then (lets (l22 ++ ([t30.1] : List ByteArray)) fun y39 => (spec_StoreOk.l0 k y39 (wrap64 (x24 + 1)) a0)) else none))) else (some false))) else none) else none) else (spec_StoreOk.l1 k ([] : List ByteArray) 0 a0))
def spec_StoreOk.l1 : Nat → (List ByteArray) → Int → S33 → Option (Bool)
  | 0, _, _, _ => none
  | k + 1, l57, x59, a0 => (if x59 < (a0.f1.length : Int) then (if 0 ≤ x59 then (if x59 < (a0.f1.length : Int) then ((spec_CrlText.f k (rd_T81 a0.f1 x59)).bind fun t65 => (if t65.2 = true then ((spec_l13In.f k l57 t65.1).bind fun t68 => (if t68 = true then (some false) else (if l57.length + 1 ≤ 8796093022208 then (lets (l57 ++ ([t65.1] : List ByteArray)) fun y74 => (spec_StoreOk.l1 k y74 (wrap64 (x59 + 1)) a0)) else none))) else (some false))) else none) else none) else (spec_StoreOk.l2 k 0 a0))
def spec_StoreOk.l2 : Nat → Int → S33 → Option (Bool)
  | 0, _, _ => none
  | k + 1, x79, a0 => (if x79 < (a0.f2.length : Int) then (if 0 ≤ x79 then (if x79 < (a0.f2.length : Int) then ((spec_l13Anchor.f k (rd_T115 a0.f2 x79)).bind fun t85 => (if t85 = true then (spec_StoreOk.l3 k 0 a0 x79) else (some false))) else none) else none) else (some true))
def spec_StoreOk.l3 : Nat → Int → S33 → Int → Option (Bool)
  | 0, _, _, _ => none
  | k + 1, x91, a0, x79 => (if x91 < x79 then (if 0 ≤ x91 then (if x91 < (a0.f2.length : Int) then (if ((rd_T115 a0.f2 x91).f0).toList = ((rd_T115 a0.f2 x79).f0).toList then (some false) else (spec_StoreOk.l3 k (wrap64 (x91 + 1)) a0 x79)) else none) else none) else (spec_StoreOk.l2 k (wrap64 (x79 + 1)) a0))
end
def spec_StoreOk.f (k : Nat) (a0 : S33) : Option (Bool) := (if 12 < (a0.f0.length : Int) then (some false) else (if 8 < (a0.f1.length : Int) then (some false) else (if 3 < (a0.f2.length : Int) then (some false) else (spec_StoreOk.l0 k ([] : List ByteArray) 0 a0))))
def spec_StoreOk.T27 : TT := (true, [([], []), ([0], [0]), ([], []), ([1, 2], [1, 2]), ([3], [3]), ([4], [4]), ([], []), ([6], [6]), ([], []), ([7, 8], [7, 8]), ([9], [9]), ([10], [10]), ([5, 11], [5, 11])])
theorem spec_StoreOk.tT27 : rtab .any (opsOf Tryz.f12 27) = spec_StoreOk.T27 := by kernel_rfl
theorem spec_StoreOk.calls {k : Nat} {a0 : S33} {Ap0 Ap1 Ap2 : Option Addr} {np0 cp0 np1 cp1 np2 cp2 : Nat} {r : Bool} {w : World} (h : spec_StoreOk.f k a0 = some r) (gp0 : k91.C w Ap0 np0 a0.f0) (lp0 : np0 ≤ cp0) (gp1 : k81.C w Ap1 np1 a0.f1) (lp1 : np1 ≤ cp1) (gp2 : k115.C w Ap2 np2 a0.f2) (lp2 : np2 ≤ cp2) :
    Calls Tryz.prog 12 #[.agg #[.slice Ap0 np0 cp0, .slice Ap1 np1 cp1, .slice Ap2 np2 cp2]] w (fun e w' => e = .returned (.bool r) ∧ Hp noFP w w' []) := by
 obtain rfl := C_len gp0
 obtain rfl := C_len gp1
 obtain rfl := C_len gp2
 have HS := Hp.start w
 have H := Aside0.mk h
 clear h
 unfold spec_StoreOk.f at H
 go_enter Tryz.func12, Tryz.ntmps12
 replace H := zif H; rcases H with ⟨c3, H⟩ | ⟨c3, H⟩
 case inl =>
  obtain rfl := zsome H
  go_wp2_with ((with_reducible refine gd 1 rfl ?_); refine ev_bx HS ?_; clear HS; intro g1 w1 HS F)
  go_ret
  exact HS.pk
 replace H := zif H; rcases H with ⟨c4, H⟩ | ⟨c4, H⟩
 case inl =>
  obtain rfl := zsome H
  go_wp2_with ((with_reducible refine gd 1 rfl ?_); refine ev_bx HS ?_; clear HS; intro g1 w1 HS F)
  go_ret
  exact HS.pk
 go_upto_if 28 with ((with_reducible refine gd 1 rfl ?_); refine ev_bx HS ?_; clear HS; intro g1 w1 HS F)
 replace H := zif H; rcases H with ⟨c5, H⟩ | ⟨c5, H⟩
 case inl =>
  (try simp only [c5, dcn])
  obtain rfl := zsome H
  go_wp2
  go_ret
  exact HS.pk
 (try simp only [c5, dcn])
 go_wp2_with ((with_reducible refine gd 29 rfl ?_); refine ev_li Zd.string [] ([] : List ByteArray) [] HS MadeL.nil ?_; clear HS; intro v6 w6 HS F; obtain ⟨B6, d6, rfl, m6⟩ := HS.formn 0 1 rfl rfl)
 go_loopg [3, 4] k (fun kq v_3 v_4 w' => ∃ (l22 : List ByteArray) (v23 : Value) (x24 : Int), v_3 = v23 ∧ v_4 = .int .i64 x24 ∧ Aside0 (spec_StoreOk.l0 kq l22 x24 a0 = some r) ∧ Aside0 (kq ≤ k) ∧ Hp noFP w w' [.box g1 [.slice Ap0 a0.f0.length cp0, .slice Ap1 a0.f1.length cp1, .slice Ap2 a0.f2.length cp2] 33, .own (Zd.slice 9 Zd.string) l22 [v23]])
 case atStart => exact ⟨_, _, _, rfl, rfl, H, ⟨Nat.le_refl _⟩, HS⟩
 case round =>
  clear HS H; (try clear F)
  obtain ⟨l22, v23, x24, rfl, rfl, H, HKk21, HS⟩ := hrel
  obtain ⟨B23, d23, rfl, m23⟩ := HS.form 1 rfl
  have F := HS.boxes; simp only [bxn] at F
  cases gk with
  | zero => exact absurd H.out (by simp [spec_StoreOk.l0])
  | succ k21 =>
   simp only [spec_StoreOk.l0] at H
   replace H := zif H; rcases H with ⟨c26, H⟩ | ⟨c26, H⟩
   case inl =>
    replace H := zgo H; obtain ⟨c27, H⟩ := H
    replace H := zgo H; obtain ⟨c28, H⟩ := H
    obtain ⟨ad29, B29_9, d29_9, B29_10, d29_10, B29_11, d29_11, rfl, e29_0, e29_1, e29_2, e29_3, e29_4, e29_5, e29_6, e29_7, e29_8, e29_9, e29_10, e29_11, e29_12, m29_9, y29_9, m29_10, y29_10, m29_11, y29_11⟩ := at_T91 gp0 x24 (of_eq_true c27) (of_eq_true c28)
    have e29_0_29 := HS.keepc e29_0
    have e29_1_29 := HS.keepc e29_1
    have e29_2_29 := HS.keepc e29_2
    have e29_3_29 := HS.keepc e29_3
    have e29_4_29 := HS.keepc e29_4
    have e29_5_29 := HS.keepc e29_5
    have e29_6_29 := HS.keepc e29_6
    have e29_7_29 := HS.keepc e29_7
    have e29_8_29 := HS.keepc e29_8
    have e29_9_29 := HS.keepc e29_9
    have e29_10_29 := HS.keepc e29_10
    have e29_11_29 := HS.keepc e29_11
    have e29_12_29 := HS.keepc e29_12
    replace H := zbind H; obtain ⟨t30, ht30, H⟩ := H
    replace H := znifb H; rcases H with ⟨c32, H⟩ | ⟨c32, H⟩
    case inl =>
     obtain rfl := zsome H
     go_wp2_with ((with_reducible refine gd 43 rfl ?_); refine ev_cl HS (spec_CertText.calls ht30.out (HS.ro y29_9) m29_9 (HS.ro y29_10) m29_10 (HS.ro y29_11) m29_11) Tryz.func54 ?_; clear HS; intro wt30 HS F; (try simp only [c32]))
     go_ret
     exact HS.pk
    replace H := zbind H; obtain ⟨t33, ht33, H⟩ := H
    go_upto_if 52 with (first | ((with_reducible refine gd 43 rfl ?_); refine ev_cl HS (spec_CertText.calls ht30.out (HS.ro y29_9) m29_9 (HS.ro y29_10) m29_10 (HS.ro y29_11) m29_11) Tryz.func54 ?_; clear HS; intro wt30 HS F; (try simp only [c32])) | ((with_reducible refine gd 51 rfl ?_); refine gg ?_; refine ev_cl HS (spec_l13In.calls ht33.out (HS.rd 1 rfl) m23) Tryz.func55 ?_; clear HS; intro wt33 HS F))
    replace H := zifb H; rcases H with ⟨c35, H⟩ | ⟨c35, H⟩
    case inl =>
     subst c35
     (try simp only [dcn, dcu, dcf])
     obtain rfl := zsome H
     go_wp2
     go_ret
     exact HS.pk
    subst c35
    (try simp only [dcn, dcu, dcf])
    replace H := zgo H; obtain ⟨c38, H⟩ := H
    replace H := zlets H; obtain ⟨y39, e_y39, H⟩ := H
    go_wp2_with (first | ((with_reducible refine gd 55 rfl ?_); refine ev_li Zd.string [] ([t30.1] : List ByteArray) ([.string t30.1] ++ []) HS (MadeL.cons (js1 := []) (c := [.string t30.1]) rfl (made_flat (fun _ => rfl)) MadeL.nil (by decide)) ?_; clear HS; intro v36 w36 HS F; obtain ⟨B36, d36, rfl, m36⟩ := HS.formn 1 2 rfl rfl) | ((with_reducible refine gd 56 rfl ?_); refine ev_ap Zd.string 1 2 HS rfl rfl Tryz.underlying57 info9 (of_eq_true c38) ?_; clear HS; intro v39 w39 HS; rw [← e_y39.out] at HS; obtain ⟨B39, d39, rfl, m39⟩ := HS.form 3 rfl; (try simp only [hpn, hpm] at HS); have F := HS.boxes; simp only [bxn] at F))
    go_roundg k21
    case measure => have := HKk21.out; omega
    case rel => exact ⟨_, _, _, rfl, rfl, H, ⟨by have := HKk21.out; omega⟩, HS.pick [0, 3] (by decide) (by rfl)⟩
   go_wp2_with ((with_reducible refine gd 57 rfl ?_); refine ev_li Zd.string [] ([] : List ByteArray) [] HS MadeL.nil ?_; clear HS; intro v41 w41 HS F; obtain ⟨B41, d41, rfl, m41⟩ := HS.formn 0 2 rfl rfl)
   (try obtain ⟨wok56, rfl⟩ : ∃ wo_ : World, wo_ = wr := ⟨_, rfl⟩)
   go_loopg [7, 8] k21 (fun kq v_7 v_8 w' => ∃ (l57 : List ByteArray) (v58 : Value) (x59 : Int), v_7 = v58 ∧ v_8 = .int .i64 x59 ∧ Aside0 (spec_StoreOk.l1 kq l57 x59 a0 = some r) ∧ Aside0 (kq ≤ k21) ∧ Hp noFP w w' [.box g1 [.slice Ap0 a0.f0.length cp0, .slice Ap1 a0.f1.length cp1, .slice Ap2 a0.f2.length cp2] 33, .own (Zd.slice 9 Zd.string) l22 [.slice B23 l22.length d23], .own (Zd.slice 9 Zd.string) l57 [v58]])
   case atStart => exact ⟨_, _, _, rfl, rfl, H, ⟨Nat.le_refl _⟩, HS⟩
   case round =>
    clear HS H; (try clear F)
    obtain ⟨l57, v58, x59, rfl, rfl, H, HKk56, HS⟩ := hrel
    obtain ⟨B58, d58, rfl, m58⟩ := HS.form 2 rfl
    have F := HS.boxes; simp only [bxn] at F
    cases gk with
    | zero => exact absurd H.out (by simp [spec_StoreOk.l1])
    | succ k56 =>
     simp only [spec_StoreOk.l1] at H
     replace H := zif H; rcases H with ⟨c61, H⟩ | ⟨c61, H⟩
     case inl =>
      replace H := zgo H; obtain ⟨c62, H⟩ := H
      replace H := zgo H; obtain ⟨c63, H⟩ := H
      obtain ⟨ad64, B64_5, d64_5, rfl, e64_0, e64_1, e64_2, e64_3, e64_4, e64_5, e64_6, m64_5, y64_5⟩ := at_T81 gp1 x59 (of_eq_true c62) (of_eq_true c63)
      have e64_0_64 := HS.keepc e64_0
      have e64_1_64 := HS.keepc e64_1
      have e64_2_64 := HS.keepc e64_2
      have e64_3_64 := HS.keepc e64_3
      have e64_4_64 := HS.keepc e64_4
      have e64_5_64 := HS.keepc e64_5
      have e64_6_64 := HS.keepc e64_6
      replace H := zbind H; obtain ⟨t65, ht65, H⟩ := H
      replace H := znifb H; rcases H with ⟨c67, H⟩ | ⟨c67, H⟩
      case inl =>
       obtain rfl := zsome H
       go_wp2_with ((with_reducible refine gd 71 rfl ?_); refine ev_cl HS (spec_CrlText.calls ht65.out (HS.ro y64_5) m64_5) Tryz.func56 ?_; clear HS; intro wt65 HS F; (try simp only [c67]))
       go_ret
       exact HS.pk
      replace H := zbind H; obtain ⟨t68, ht68, H⟩ := H
      go_upto_if 80 with (first | ((with_reducible refine gd 71 rfl ?_); refine ev_cl HS (spec_CrlText.calls ht65.out (HS.ro y64_5) m64_5) Tryz.func56 ?_; clear HS; intro wt65 HS F; (try simp only [c67])) | ((with_reducible refine gd 79 rfl ?_); refine gg ?_; refine ev_cl HS (spec_l13In.calls ht68.out (HS.rd 2 rfl) m58) Tryz.func55 ?_; clear HS; intro wt68 HS F))
      replace H := zifb H; rcases H with ⟨c70, H⟩ | ⟨c70, H⟩
      case inl =>
       subst c70
       (try simp only [dcn, dcu, dcf])
       obtain rfl := zsome H
       go_wp2
       go_ret
       exact HS.pk
      subst c70
      (try simp only [dcn, dcu, dcf])
      replace H := zgo H; obtain ⟨c73, H⟩ := H
      replace H := zlets H; obtain ⟨y74, e_y74, H⟩ := H
      go_wp2_with (first | ((with_reducible refine gd 83 rfl ?_); refine ev_li Zd.string [] ([t65.1] : List ByteArray) ([.string t65.1] ++ []) HS (MadeL.cons (js1 := []) (c := [.string t65.1]) rfl (made_flat (fun _ => rfl)) MadeL.nil (by decide)) ?_; clear HS; intro v71 w71 HS F; obtain ⟨B71, d71, rfl, m71⟩ := HS.formn 1 3 rfl rfl) | ((with_reducible refine gd 84 rfl ?_); refine ev_ap Zd.string 2 3 HS rfl rfl Tryz.underlying57 info9 (of_eq_true c73) ?_; clear HS; intro v74 w74 HS; rw [← e_y74.out] at HS; obtain ⟨B74, d74, rfl, m74⟩ := HS.form 4 rfl; (try simp only [hpn, hpm] at HS); have F := HS.boxes; simp only [bxn] at F))
      go_roundg k56
      case measure => have := HKk21.out; have := HKk56.out; omega
      case rel => exact ⟨_, _, _, rfl, rfl, H, ⟨by have := HKk21.out; have := HKk56.out; omega⟩, HS.pick [0, 1, 4] (by decide) (by rfl)⟩
     go_wp2
     (try obtain ⟨wok78, rfl⟩ : ∃ wo_ : World, wo_ = wr := ⟨_, rfl⟩)
     go_loopg [11] k56 (fun kq v_11 w' => ∃ (x79 : Int), v_11 = .int .i64 x79 ∧ Aside0 (spec_StoreOk.l2 kq x79 a0 = some r) ∧ Aside0 (kq ≤ k56) ∧ Hp noFP w w' [.box g1 [.slice Ap0 a0.f0.length cp0, .slice Ap1 a0.f1.length cp1, .slice Ap2 a0.f2.length cp2] 33, .own (Zd.slice 9 Zd.string) l22 [.slice B23 l22.length d23], .own (Zd.slice 9 Zd.string) l57 [.slice B58 l57.length d58]])
     case atStart => exact ⟨_, rfl, H, ⟨Nat.le_refl _⟩, HS⟩
     case round =>
      clear HS H; (try clear F)
      obtain ⟨x79, rfl, H, HKk78, HS⟩ := hrel
      have F := HS.boxes; simp only [bxn] at F
      cases gk with
      | zero => exact absurd H.out (by simp [spec_StoreOk.l2])
      | succ k78 =>
       simp only [spec_StoreOk.l2] at H
       replace H := znif H; rcases H with ⟨c81, H⟩ | ⟨c81, H⟩
       case inl =>
        obtain rfl := zsome H
        go_wp2
        go_ret
        exact HS.pk
       replace H := zgo H; obtain ⟨c82, H⟩ := H
       replace H := zgo H; obtain ⟨c83, H⟩ := H
       obtain ⟨ad84, rfl, e84_0, e84_1⟩ := at_T115 gp2 x79 (of_eq_true c82) (of_eq_true c83)
       have e84_0_84 := HS.keepc e84_0
       have e84_1_84 := HS.keepc e84_1
       replace H := zbind H; obtain ⟨t85, ht85, H⟩ := H
       go_upto_if 98 with ((with_reducible refine gd 97 rfl ?_); refine ev_cl HS (spec_l13Anchor.calls ht85.out) Tryz.func57 ?_; clear HS; intro wt85 HS F)
       replace H := znifb H; rcases H with ⟨c87, H⟩ | ⟨c87, H⟩
       case inl =>
        subst c87
        (try simp only [dcn, dcu, dcf])
        obtain rfl := zsome H
        go_wp2
        go_ret
        exact HS.pk
       subst c87
       (try simp only [dcn, dcu, dcf])
       go_wp2
       (try obtain ⟨wok90, rfl⟩ : ∃ wo_ : World, wo_ = wr := ⟨_, rfl⟩)
       go_loopg [12] k78 (fun kq v_12 w' => ∃ (x91 : Int), v_12 = .int .i64 x91 ∧ Aside0 (spec_StoreOk.l3 kq x91 a0 x79 = some r) ∧ Aside0 (kq ≤ k78) ∧ Hp noFP w w' [.box g1 [.slice Ap0 a0.f0.length cp0, .slice Ap1 a0.f1.length cp1, .slice (some ad84) a0.f2.length cp2] 33, .own (Zd.slice 9 Zd.string) l22 [.slice B23 l22.length d23], .own (Zd.slice 9 Zd.string) l57 [.slice B58 l57.length d58]])
       case atStart => exact ⟨_, rfl, H, ⟨Nat.le_refl _⟩, HS⟩
       case round =>
        clear HS H; (try clear F)
        obtain ⟨x91, rfl, H, HKk90, HS⟩ := hrel
        have F := HS.boxes; simp only [bxn] at F
        cases gk with
        | zero => exact absurd H.out (by simp [spec_StoreOk.l3])
        | succ k90 =>
         simp only [spec_StoreOk.l3] at H
         replace H := znif H; rcases H with ⟨c93, H⟩ | ⟨c93, H⟩
         case inl =>
          go_wp2
          go_roundg k90
          case measure => have := HKk21.out; have := HKk56.out; have := HKk78.out; have := HKk90.out; omega
          case rel => exact ⟨_, rfl, H, ⟨by have := HKk21.out; have := HKk56.out; have := HKk78.out; have := HKk90.out; omega⟩, HS.pick [0, 1, 2] (by decide) (by rfl)⟩
         (try go_wp2)
         replace H := zgo H; obtain ⟨c10, H⟩ := H
         replace H := zgo H; obtain ⟨c13, H⟩ := H
         obtain ⟨ad14, hq14, e14_0, e14_1⟩ := at_T115 gp2 x91 (of_eq_true c10) (of_eq_true c13); obtain rfl := Option.some.inj hq14
         obtain ⟨ad15, hq15, e15_0, e15_1⟩ := at_T115 gp2 x79 (of_eq_true c82) (of_eq_true c83); obtain rfl := Option.some.inj hq15
         refine dr_start [] HS #[false, false, false, false, false, false, false, false, false, false, false, false, false] (by kernel_rfl) rfl rfl spec_StoreOk.tT27 (fun w95 HT HS HH => ?_)
         (try clear F)
         refine drq_of [(0, some 104), (1, some 105), (2, some 106), (3, some 107), (4, some 108)] ?_
         repeat (first | refine drp HT ?_ | refine drt HT HH ?_)
         refine drq_end ?_
         refine dr_take 5 (some 109) HT HH (v := ?_) (a' := ?_) rfl rfl (by kernel_rfl) (fun _ _ _ h => h) (.inl ⟨by rfl, ?_⟩) ?_ ?_
         rotate_left
         · rintro w' ⟨rs', HS'⟩; have e14_0 := HS'.keepc e14_0; have e14_1 := HS'.keepc e14_1; go_simp; with_reducible rfl
         rotate_left
         · simp only [Act.put, ptn]; rfl
         refine drq_of [(6, some 110), (7, some 111), (8, some 112), (9, some 113), (10, some 114)] ?_
         repeat (first | refine drp HT ?_ | refine drt HT HH ?_)
         refine drq_end ?_
         refine dr_take 11 (some 115) HT HH (v := ?_) (a' := ?_) rfl rfl (by kernel_rfl) (fun _ _ _ h => h) (.inl ⟨by rfl, ?_⟩) ?_ ?_
         rotate_left
         · rintro w' ⟨rs', HS'⟩; have e15_0 := HS'.keepc e15_0; have e15_1 := HS'.keepc e15_1; go_simp; with_reducible rfl
         rotate_left
         · simp only [Act.put, ptn]; rfl
         refine drq_of [(12, some 116)] ?_
         repeat (refine drp HT ?_)
         refine drq_end ?_
         refine done_ (done_of HT.out (by kernel_rfl)) ?_
         (try clear F)
         have F := HS.boxes; simp only [bxn] at F
         replace H := zif' H; rcases H with ⟨c97, H⟩ | ⟨c97, H⟩
         case inl =>
          have c97a := beq_iff_eq.mpr c97
          have c97b := bne_eq_false_iff_eq.mpr c97
          clear c97
          (try simp only [c97a, c97b, dcn])
          obtain rfl := zsome H
          go_wp2
          go_ret
          exact HS.pk
         have c97a := beq_eq_false_iff_ne.mpr c97
         have c97b := bne_iff_ne.mpr c97
         clear c97
         (try simp only [c97a, c97b, dcn])
         go_wp2
         go_roundg k90
         case measure => have := HKk21.out; have := HKk56.out; have := HKk78.out; have := HKk90.out; omega
         case rel => exact ⟨_, rfl, H, ⟨by have := HKk21.out; have := HKk56.out; have := HKk78.out; have := HKk90.out; omega⟩, HS.pick [0, 1, 2] (by decide) (by rfl)⟩
def spec_AddCrl.f (k : Nat) (a0 : S33) (a1 : S81) : Option (S33 × Bool) := ((spec_l13Copy.f k a0).bind fun t7 => ((spec_l10Copy.f a1).bind fun t11 => (if t7.f1.length + 1 ≤ 1599289640401 then (lets (t7.f1 ++ ([t11] : List S81)) fun y18 => ((spec_StoreOk.f k (⟨t7.f0, y18, t7.f2⟩ : S33)).bind fun t19 => (if t19 = true then (some ((⟨t7.f0, y18, t7.f2⟩ : S33), true)) else ((spec_l13Copy.f k a0).bind fun t24 => (some ((⟨t24.f0, t24.f1, t24.f2⟩ : S33), false)))))) else none)))
def spec_AddCrl.T2 : TT := (true, [([], []), ([0], [0]), ([], []), ([2], [2]), ([3], [3]), ([1, 4, 3], [1, 4]), ([0, 1, 2, 3, 4, 5], []), ([6, 5, 5, 0, 1, 2, 3, 4, 5], [5, 6])])
theorem spec_AddCrl.tT2 : rtab .any (opsOf Tryz.f27 2) = spec_AddCrl.T2 := by kernel_rfl
theorem spec_AddCrl.calls {k : Nat} {a0 : S33} {a1 : S81} {Ap0 Ap1 Ap2 Ap3 : Option Addr} {np0 cp0 np1 cp1 np2 cp2 np3 cp3 : Nat} {r1 : S33} {r2 : Bool} {w : World} (h : spec_AddCrl.f k a0 a1 = some (r1, r2)) (gp0 : k91.C w Ap0 np0 a0.f0) (lp0 : np0 ≤ cp0) (gp1 : k81.C w Ap1 np1 a0.f1) (lp1 : np1 ≤ cp1) (gp2 : k115.C w Ap2 np2 a0.f2) (lp2 : np2 ≤ cp2) (gp3 : k238.C w Ap3 np3 a1.f5) (lp3 : np3 ≤ cp3) :
    Calls Tryz.prog 27 #[.agg #[.slice Ap0 np0 cp0, .slice Ap1 np1 cp1, .slice Ap2 np2 cp2], .agg #[.string a1.f0, .int .i64 a1.f1, .int .i64 a1.f2, .int .i64 a1.f3, .int .i64 a1.f4, .slice Ap3 np3 cp3, .string a1.f6]] w (fun e w' => ∃ v0_ v1_ v2_ : Value, e = .returned (.tuple #[.agg #[v0_, v1_, v2_], .bool r2]) ∧ Hp noFP w w' [.own (Zd.slice 91 q91) r1.f0 [v0_], .own (Zd.slice 81 q81) r1.f1 [v1_], .own (Zd.slice 115 q115) r1.f2 [v2_]]) := by
 obtain rfl := C_len gp0
 obtain rfl := C_len gp1
 obtain rfl := C_len gp2
 obtain rfl := C_len gp3
 have HS := Hp.start w
 have H := Aside0.mk h
 clear h
 unfold spec_AddCrl.f at H
 go_enter Tryz.func27, Tryz.ntmps27
 replace H := zbind H; obtain ⟨t7, ht7, H⟩ := H
 go_wp2_with (first | ((with_reducible refine gd 2 rfl ?_); refine ev_bx HS ?_; clear HS; intro g2 w2 HS F) | ((with_reducible refine gd 3 rfl ?_); refine ev_bx HS ?_; clear HS; intro g3 w3 HS F) | ((with_reducible refine gd 4 rfl ?_); refine ev_bx HS ?_; clear HS; intro g4 w4 HS F) | ((with_reducible refine gd 8 rfl ?_); refine ev_cl3 HS (spec_l13Copy.calls ht7.out (HS.ro gp0) lp0 (HS.ro gp1) lp1 (HS.ro gp2) lp2) Tryz.func105 ?_; clear HS; intro v8 v9 v10 wt7 HS F; obtain ⟨B8, d8, rfl, m8⟩ := HS.form 3 rfl; obtain ⟨B9, d9, rfl, m9⟩ := HS.form 4 rfl; obtain ⟨B10, d10, rfl, m10⟩ := HS.form 5 rfl) | ((with_reducible refine gd 6 rfl ?_); refine ev_bx HS ?_; clear HS; intro g6 w6 HS F) | ((with_reducible refine gate_store (p := 6) rfl ?_); refine ev_st 6 0 HS (seg := [.slice B8 t7.f0.length d8, .slice B9 t7.f1.length d9, .slice B10 t7.f2.length d10]) ?_; clear HS; intro w14 HS F))
 replace H := zbind H; obtain ⟨t11, ht11, H⟩ := H
 replace H := zgo H; obtain ⟨c16, H⟩ := H
 replace H := zlets H; obtain ⟨y18, e_y18, H⟩ := H
 refine dr_start2 [.box g2 [.slice Ap0 a0.f0.length cp0, .slice Ap1 a0.f1.length cp1, .slice Ap2 a0.f2.length cp2] 33, .box g3 [.string a1.f0, .int .i64 a1.f1, .int .i64 a1.f2, .int .i64 a1.f3, .int .i64 a1.f4, .slice Ap3 a1.f5.length cp3, .string a1.f6] 81, .box g4 [.slice none 0 0, .slice none 0 0, .slice none 0 0] 33, .own (Zd.slice 91 q91) t7.f0 [.slice B8 t7.f0.length d8], .emp, .own (Zd.slice 115 q115) t7.f2 [.slice B10 t7.f2.length d10], .box g6 [.slice B8 t7.f0.length d8, .slice B9 t7.f1.length d9, .slice B10 t7.f2.length d10] 33] [7] HS (HS.arr [some 0, some 1, some 2, some 3, none, some 5, some 6] (by decide)) #[false, false, false, false, false, false, false, false] (by kernel_rfl) rfl rfl spec_AddCrl.tT2 (fun w17 HT HS HH => ?_)
 (try clear F)
 refine drq_of [(0, some 9), (1, some 10), (2, some 11)] ?_
 repeat (first | refine drp HT ?_ | refine drt HT HH ?_)
 refine drq_end ?_
 refine dr1 3 HT fun K hK => ?_
 refine go_cl1 HS (spec_l10Copy.calls ht11.out (HS.ro gp3) lp3) Tryz.func106 ?_; clear HS; intro v13 wt11 HS F; obtain ⟨B13, d13, rfl, m13⟩ := HS.form 7 rfl
 refine hK.out _ _ ⟨[], HS.arr [some 0, some 1, some 2, some 3, none, some 5, some 6] (by decide)⟩ (fun HH => ?_)
 clear hK K
 refine norm_ (a' := ?_) ?_ ?_
 rotate_left
 · show Act.put _ (some 12) _ = _; simp only [Act.put, ptn]; rfl
 refine dr1 4 HT fun K hK => ?_
 refine if_li q81 [7] ([t11] : List S81) ([.string t11.f0, .int .i64 t11.f1, .int .i64 t11.f2, .int .i64 t11.f3, .int .i64 t11.f4, .slice B13 t11.f5.length d13, .string t11.f6] ++ []) HS (MadeL.cons (js1 := [7]) (c := [.string t11.f0, .int .i64 t11.f1, .int .i64 t11.f2, .int .i64 t11.f3, .int .i64 t11.f4, .slice B13 t11.f5.length d13, .string t11.f6]) rfl (fun S hd hh => q81_pack (x := t11) hd (hh 7 (.own (Zd.slice 238 q238) t11.f5 [.slice B13 t11.f5.length d13]) rfl) (by decide)) MadeL.nil (by decide)) ?_; clear HS; intro v15 w15 HS F; obtain ⟨B15, d15, rfl, m15⟩ := HS.formn 1 8 rfl rfl
 refine hK.out _ _ ⟨[], HS.arr [some 0, some 1, some 2, some 3, none, some 5, some 6] (by decide)⟩ (fun HH => ?_)
 clear hK K
 refine norm_ (a' := ?_) ?_ ?_
 rotate_left
 · show Act.put _ (some 13) _ = _; simp only [Act.put, ptn]; rfl
 refine dr1 5 HT fun K hK => ?_
 refine wp_ap q81 4 8 HS rfl rfl Tryz.underlying30 info81 (of_eq_true c16) ?_; clear HS; intro v18 w18 HS; rw [← e_y18.out] at HS; obtain ⟨B18, d18, rfl, m18⟩ := HS.form 9 rfl
 (try simp only [hpn, hpm] at HS)
 have F := HS.boxes; simp only [bxn] at F
 refine hK.out _ _ ⟨[], HS.arr [some 0, some 1, some 2, some 3, none, some 5, some 6] (by decide)⟩ (fun HH => ?_)
 clear hK K
 refine norm_ (a' := ?_) ?_ ?_
 rotate_left
 · show Act.put _ (some 14) _ = _; simp only [Act.put, ptn]; rfl
 refine drq_of [(6, some 15)] ?_
 repeat (refine drp HT ?_)
 refine drq_end ?_
 refine dr_last 7 HT rfl (by kernel_rfl) (by decide) (fun K hK => ?_)
 refine if_st 6 1 HS (seg := [.slice B18 y18.length d18]) ?_; clear HS; intro w20 HS F
 refine hK.out _ _ ?_
 clear hK K
 refine done_ (done_of HT.out (by kernel_rfl)) ?_
 (try clear F)
 have F := HS.boxes; simp only [bxn] at F
 replace H := zbind H; obtain ⟨t19, ht19, H⟩ := H
 go_upto_if 18 with ((with_reducible refine gd 17 rfl ?_); refine ev_cl HS (spec_StoreOk.calls ht19.out (HS.rd 3 rfl) m8 (HS.rd 9 rfl) m18 (HS.rd 5 rfl) m10) Tryz.func12 ?_; clear HS; intro wt19 HS F)
 replace H := zifb H; rcases H with ⟨c21, H⟩ | ⟨c21, H⟩
 case inl =>
  subst c21
  (try simp only [dcn, dcu, dcf])
  obtain ⟨rfl, rfl⟩ := zsome2 H
  go_wp2_with ((with_reducible refine gate_store (p := 4) rfl ?_); refine ev_st 2 0 HS (seg := [.slice B8 t7.f0.length d8, .slice B18 y18.length d18, .slice B10 t7.f2.length d10]) ?_; clear HS; intro w22 HS F)
  exact bodyPost_ret (results_list (rs := [.cell 4 33, .tmp 5]) rfl (by simp) (.cell _ _ _ _ _ rfl (HS.boxAt (i := 2) rfl) Tryz.underlying33 rfl (by kernel_rfl) (.tmp .nil))) rfl ⟨_, _, _, rfl, HS.pick [3, 9, 5] (by decide) (by rfl)⟩
 subst c21
 (try simp only [dcn, dcu, dcf])
 replace H := zbind H; obtain ⟨t24, ht24, H⟩ := H
 obtain ⟨rfl, rfl⟩ := zsome2 H
 go_wp2_with (first | ((with_reducible refine gd 20 rfl ?_); refine ev_cl3 HS (spec_l13Copy.calls ht24.out (HS.ro gp0) lp0 (HS.ro gp1) lp1 (HS.ro gp2) lp2) Tryz.func105 ?_; clear HS; intro v25 v26 v27 wt24 HS F; obtain ⟨B25, d25, rfl, m25⟩ := HS.form 10 rfl; obtain ⟨B26, d26, rfl, m26⟩ := HS.form 11 rfl; obtain ⟨B27, d27, rfl, m27⟩ := HS.form 12 rfl) | ((with_reducible refine gate_store (p := 4) rfl ?_); refine ev_st 2 0 HS (seg := [.slice B25 t24.f0.length d25, .slice B26 t24.f1.length d26, .slice B27 t24.f2.length d27]) ?_; clear HS; intro w29 HS F))
 exact bodyPost_ret (results_list (rs := [.cell 4 33, .tmp 5]) rfl (by simp) (.cell _ _ _ _ _ rfl (HS.boxAt (i := 2) rfl) Tryz.underlying33 rfl (by kernel_rfl) (.tmp .nil))) rfl ⟨_, _, _, rfl, HS.pick [10, 11, 12] (by decide) (by rfl)⟩
def spec_LearnCrl.f (k : Nat) (a0 : S46) (a1 : S81) : Option (S46 × Bool) := ((spec_l17Copy.f k a0).bind fun t7 => ((spec_AddCrl.f k a0.f0 a1).bind fun t18 => (if t18.2 = true then (some ((⟨(⟨t18.1.f0, t18.1.f1, t18.1.f2⟩ : S33), t7.f1, t7.f2, t7.f3, t7.f4, ([] : List S205)⟩ : S46), true)) else (some ((⟨(⟨t7.f0.f0, t7.f0.f1, t7.f0.f2⟩ : S33), t7.f1, t7.f2, t7.f3, t7.f4, t7.f5⟩ : S46), false)))))
theorem spec_LearnCrl.calls {k : Nat} {a0 : S46} {a1 : S81} {Ap0 Ap1 Ap2 Ap3 Ap4 Ap5 : Option Addr} {np0 cp0 np1 cp1 np2 cp2 np3 cp3 np4 cp4 np5 cp5 : Nat} {r1 : S46} {r2 : Bool} {w : World} (h : spec_LearnCrl.f k a0 a1 = some (r1, r2)) (gp0 : k91.C w Ap0 np0 a0.f0.f0) (lp0 : np0 ≤ cp0) (gp1 : k81.C w Ap1 np1 a0.f0.f1) (lp1 : np1 ≤ cp1) (gp2 : k115.C w Ap2 np2 a0.f0.f2) (lp2 : np2 ≤ cp2) (gp3 : k202.C w Ap3 np3 a0.f1) (lp3 : np3 ≤ cp3) (gp4 : k205.C w Ap4 np4 a0.f5) (lp4 : np4 ≤ cp4) (gp5 : k238.C w Ap5 np5 a1.f5) (lp5 : np5 ≤ cp5) :
    Calls Tryz.prog 45 #[.agg #[.slice Ap0 np0 cp0, .slice Ap1 np1 cp1, .slice Ap2 np2 cp2, .slice Ap3 np3 cp3, .int .i64 a0.f2, .int .i64 a0.f3, .int .i64 a0.f4, .slice Ap4 np4 cp4], .agg #[.string a1.f0, .int .i64 a1.f1, .int .i64 a1.f2, .int .i64 a1.f3, .int .i64 a1.f4, .slice Ap5 np5 cp5, .string a1.f6]] w (fun e w' => ∃ v0_ v1_ v2_ v3_ v4_ : Value, e = .returned (.tuple #[.agg #[v0_, v1_, v2_, v3_, .int .i64 r1.f2, .int .i64 r1.f3, .int .i64 r1.f4, v4_], .bool r2]) ∧ Hp noFP w w' [.own (Zd.slice 91 q91) r1.f0.f0 [v0_], .own (Zd.slice 81 q81) r1.f0.f1 [v1_], .own (Zd.slice 115 q115) r1.f0.f2 [v2_], .own (Zd.slice 202 q202) r1.f1 [v3_], .own (Zd.slice 205 q205) r1.f5 [v4_]]) := by
 obtain rfl := C_len gp0
 obtain rfl := C_len gp1
 obtain rfl := C_len gp2
 obtain rfl := C_len gp3
 obtain rfl := C_len gp4
 obtain rfl := C_len gp5
 have HS := Hp.start w
 have H := Aside0.mk h
 clear h
 unfold spec_LearnCrl.f at H
 go_enter Tryz.func45, Tryz.ntmps45
 replace H := zbind H; obtain ⟨t7, ht7, H⟩ := H
 replace H := zbind H; obtain ⟨t18, ht18, H⟩ := H
 go_upto_if 18 with (first | ((with_reducible refine gd 2 rfl ?_); refine ev_bx HS ?_; clear HS; intro g2 w2 HS F) | ((with_reducible refine gd 3 rfl ?_); refine ev_bx HS ?_; clear HS; intro g3 w3 HS F) | ((with_reducible refine gd 4 rfl ?_); refine ev_bx HS ?_; clear HS; intro g4 w4 HS F) | ((with_reducible refine gd 10 rfl ?_); refine ev_cl5 HS (spec_l17Copy.calls ht7.out (HS.ro gp0) lp0 (HS.ro gp1) lp1 (HS.ro gp2) lp2 (HS.ro gp3) lp3 (HS.ro gp4) lp4) Tryz.func127 ?_; clear HS; intro v8 v9 v10 v11 v12 wt7 HS F; obtain ⟨B8, d8, rfl, m8⟩ := HS.form 3 rfl; obtain ⟨B9, d9, rfl, m9⟩ := HS.form 4 rfl; obtain ⟨B10, d10, rfl, m10⟩ := HS.form 5 rfl; obtain ⟨B11, d11, rfl, m11⟩ := HS.form 6 rfl; obtain ⟨B12, d12, rfl, m12⟩ := HS.form 7 rfl) | ((with_reducible refine gd 6 rfl ?_); refine ev_bx HS ?_; clear HS; intro g6 w6 HS F) | ((with_reducible refine gate_store (p := 6) rfl ?_); refine ev_st 8 0 HS (seg := [.slice B8 t7.f0.f0.length d8, .slice B9 t7.f0.f1.length d9, .slice B10 t7.f0.f2.length d10, .slice B11 t7.f1.length d11, .int .i64 t7.f2, .int .i64 t7.f3, .int .i64 t7.f4, .slice B12 t7.f5.length d12]) ?_; clear HS; intro w16 HS F) | ((with_reducible refine gd 15 rfl ?_); refine ev_cl3 HS (spec_AddCrl.calls ht18.out (HS.ro gp0) lp0 (HS.ro gp1) lp1 (HS.ro gp2) lp2 (HS.ro gp5) lp5) Tryz.func27 ?_; clear HS; intro v19 v20 v21 wt18 HS F; obtain ⟨B19, d19, rfl, m19⟩ := HS.form 9 rfl; obtain ⟨B20, d20, rfl, m20⟩ := HS.form 10 rfl; obtain ⟨B21, d21, rfl, m21⟩ := HS.form 11 rfl) | ((with_reducible refine gd 7 rfl ?_); refine ev_bx HS ?_; clear HS; intro g7 w7 HS F) | ((with_reducible refine gate_store (p := 7) rfl ?_); refine ev_st 12 0 HS (seg := [.slice B19 t18.1.f0.length d19, .slice B20 t18.1.f1.length d20, .slice B21 t18.1.f2.length d21]) ?_; clear HS; intro w25 HS F))
 replace H := znifb H; rcases H with ⟨c27, H⟩ | ⟨c27, H⟩
 case inl =>
  (try simp only [c27, dcn])
  obtain ⟨rfl, rfl⟩ := zsome2 H
  go_wp2_with ((with_reducible refine gate_store (p := 4) rfl ?_); refine ev_st 2 0 HS (seg := [.slice B8 t7.f0.f0.length d8, .slice B9 t7.f0.f1.length d9, .slice B10 t7.f0.f2.length d10, .slice B11 t7.f1.length d11, .int .i64 t7.f2, .int .i64 t7.f3, .int .i64 t7.f4, .slice B12 t7.f5.length d12]) ?_; clear HS; intro w36 HS F)
  exact bodyPost_ret (results_list (rs := [.cell 4 46, .tmp 5]) rfl (by simp) (.cell _ _ _ _ _ rfl (HS.boxAt (i := 2) rfl) Tryz.underlying46 rfl (by kernel_rfl) (.tmp .nil))) rfl ⟨_, _, _, _, _, rfl, HS.pick [3, 4, 5, 6, 7] (by decide) (by rfl)⟩
 (try simp only [c27, dcn])
 obtain ⟨rfl, rfl⟩ := zsome2 H
 go_wp2_with (first | ((with_reducible refine gate_store (p := 20) rfl ?_); refine ev_st 8 0 HS (seg := [.slice B19 t18.1.f0.length d19, .slice B20 t18.1.f1.length d20, .slice B21 t18.1.f2.length d21]) ?_; clear HS; intro w28 HS F) | ((with_reducible refine gd 21 rfl ?_); refine ev_li q205 [] ([] : List S205) [] HS MadeL.nil ?_; clear HS; intro v30 w30 HS F; obtain ⟨B30, d30, rfl, m30⟩ := HS.formn 0 13 rfl rfl) | ((with_reducible refine gate_store (p := 22) rfl ?_); refine ev_st 8 7 HS (seg := [.slice B30 0 d30]) ?_; clear HS; intro w32 HS F) | ((with_reducible refine gate_store (p := 4) rfl ?_); refine ev_st 2 0 HS (seg := [.slice B19 t18.1.f0.length d19, .slice B20 t18.1.f1.length d20, .slice B21 t18.1.f2.length d21, .slice B11 t7.f1.length d11, .int .i64 t7.f2, .int .i64 t7.f3, .int .i64 t7.f4, .slice B30 0 d30]) ?_; clear HS; intro w34 HS F))
 exact bodyPost_ret (results_list (rs := [.cell 4 46, .tmp 5]) rfl (by simp) (.cell _ _ _ _ _ rfl (HS.boxAt (i := 2) rfl) Tryz.underlying46 rfl (by kernel_rfl) (.tmp .nil))) rfl ⟨_, _, _, _, _, rfl, HS.pick [9, 10, 11, 6, 13] (by decide) (by rfl)⟩
def impl_copyCert.f (a0 : S91) : Option (S91) := (if 0 + a0.f9.length ≤ 17592186044416 then (lets (([] : List Int) ++ a0.f9) fun y6 => (if 0 + a0.f10.length ≤ 8796093022208 then (lets (([] : List ByteArray) ++ a0.f10) fun y11 => (if 0 + a0.f11.length ≤ 8796093022208 then (lets (([] : List ByteArray) ++ a0.f11) fun y16 => (some (⟨a0.f0, a0.f1, a0.f2, a0.f3, a0.f4, a0.f5, a0.f6, a0.f7, a0.f8, y6, y11, y16, a0.f12⟩ : S91))) else none)) else none)) else none)
theorem impl_copyCert.calls {a0 : S91} {Ap0 Ap1 Ap2 : Option Addr} {np0 cp0 np1 cp1 np2 cp2 : Nat} {r : S91} {w : World} (h : impl_copyCert.f a0 = some r) (gp0 : (Kd.int .i64).C w Ap0 np0 a0.f9) (lp0 : np0 ≤ cp0) (gp1 : Kd.string.C w Ap1 np1 a0.f10) (lp1 : np1 ≤ cp1) (gp2 : Kd.string.C w Ap2 np2 a0.f11) (lp2 : np2 ≤ cp2) :
    Calls Tryz.prog 119 #[.agg #[.int .i64 a0.f0, .string a0.f1, .string a0.f2, .int .i64 a0.f3, .int .i64 a0.f4, .string a0.f5, .bool a0.f6, .int .i64 a0.f7, .int .i64 a0.f8, .slice Ap0 np0 cp0, .slice Ap1 np1 cp1, .slice Ap2 np2 cp2, .string a0.f12]] w (fun e w' => ∃ v0_ v1_ v2_ : Value, e = .returned (.agg #[.int .i64 r.f0, .string r.f1, .string r.f2, .int .i64 r.f3, .int .i64 r.f4, .string r.f5, .bool r.f6, .int .i64 r.f7, .int .i64 r.f8, v0_, v1_, v2_, .string r.f12]) ∧ Hp noFP w w' [.own (Zd.slice 3 (Zd.int .i64)) r.f9 [v0_], .own (Zd.slice 9 Zd.string) r.f10 [v1_], .own (Zd.slice 9 Zd.string) r.f11 [v2_]]) := by
 obtain rfl := C_len gp0
 obtain rfl := C_len gp1
 obtain rfl := C_len gp2
 have HS := Hp.start w
 have H := Aside0.mk h
 clear h
 unfold impl_copyCert.f at H
 go_enter Tryz.func119, Tryz.ntmps119
 replace H := zgo H; obtain ⟨c5, H⟩ := H
 replace H := zlets H; obtain ⟨y6, e_y6, H⟩ := H
 replace H := zgo H; obtain ⟨c10, H⟩ := H
 replace H := zlets H; obtain ⟨y11, e_y11, H⟩ := H
 replace H := zgo H; obtain ⟨c15, H⟩ := H
 replace H := zlets H; obtain ⟨y16, e_y16, H⟩ := H
 obtain rfl := zsome H
 go_wp2_with (first | ((with_reducible refine gd 1 rfl ?_); refine ev_bx HS ?_; clear HS; intro g1 w1 HS F) | ((with_reducible refine gd 2 rfl ?_); refine ev_bx HS ?_; clear HS; intro g2 w2 HS F) | ((with_reducible refine gd 5 rfl ?_); replace HS := HS.nil 3 (Zd.int .i64); refine ev_apr (flat_int _) 2 HS rfl (HS.ro gp0) Tryz.underlying52 info3 (of_eq_true c5) ?_; clear HS; intro v6 w6 HS; rw [← e_y6.out] at HS; obtain ⟨B6, d6, rfl, m6⟩ := HS.form 3 rfl; (try simp only [hpn, hpm] at HS); have F := HS.boxes; simp only [bxn] at F) | ((with_reducible refine gate_store (p := 6) rfl ?_); refine ev_st 0 9 HS (seg := [.slice B6 y6.length d6]) ?_; clear HS; intro w8 HS F) | ((with_reducible refine gd 9 rfl ?_); replace HS := HS.nil 9 Zd.string; refine ev_apr flat_string 4 HS rfl (HS.ro gp1) Tryz.underlying57 info9 (of_eq_true c10) ?_; clear HS; intro v11 w11 HS; rw [← e_y11.out] at HS; obtain ⟨B11, d11, rfl, m11⟩ := HS.form 5 rfl; (try simp only [hpn, hpm] at HS); have F := HS.boxes; simp only [bxn] at F) | ((with_reducible refine gate_store (p := 10) rfl ?_); refine ev_st 0 10 HS (seg := [.slice B11 y11.length d11]) ?_; clear HS; intro w13 HS F) | ((with_reducible refine gd 13 rfl ?_); replace HS := HS.nil 9 Zd.string; refine ev_apr flat_string 6 HS rfl (HS.ro gp2) Tryz.underlying57 info9 (of_eq_true c15) ?_; clear HS; intro v16 w16 HS; rw [← e_y16.out] at HS; obtain ⟨B16, d16, rfl, m16⟩ := HS.form 7 rfl; (try simp only [hpn, hpm] at HS); have F := HS.boxes; simp only [bxn] at F) | ((with_reducible refine gate_store (p := 14) rfl ?_); refine ev_st 0 11 HS (seg := [.slice B16 y16.length d16]) ?_; clear HS; intro w18 HS F) | ((with_reducible refine gate_store (p := 2) rfl ?_); refine ev_st 1 0 HS (seg := [.int .i64 a0.f0, .string a0.f1, .string a0.f2, .int .i64 a0.f3, .int .i64 a0.f4, .string a0.f5, .bool a0.f6, .int .i64 a0.f7, .int .i64 a0.f8, .slice B6 y6.length d6, .slice B11 y11.length d11, .slice B16 y16.length d16, .string a0.f12]) ?_; clear HS; intro w20 HS F))
 exact bodyPost_ret (results_single rfl (.cell _ _ _ _ _ rfl (HS.boxAt (i := 1) rfl) Tryz.underlying91 rfl (by kernel_rfl) .nil)) rfl ⟨_, _, _, rfl, HS.pick [3, 5, 7] (by decide) (by rfl)⟩
def impl_copyCerts.l0 : Nat → (List S91) → Int → (List S91) → Option ((List S91))
  | 0, _, _, _ => none
  | k + 1, l16, x18, a0 => (if x18 < (a0.length : Int) then (if 0 ≤ x18 then (if x18 < (a0.length : Int) then ((impl_copyCert.f (rd_T91 a0 x18)).bind fun t28 => (if l16.length + 1 ≤ 764877654105 then (lets (l16 ++ ([t28] : List S91)) fun y36 => (impl_copyCerts.l0 k y36 (wrap64 (x18 + 1)) a0)) else none)) else none) else none) else (some l16))
def impl_copyCerts.f (k : Nat) (a0 : (List S91)) : Option ((List S91)) := (impl_copyCerts.l0 k [] 0 a0)
theorem impl_copyCerts.calls {k : Nat} {a0 : (List S91)} {Ap0 : Option Addr} {np0 cp0 : Nat} {r : (List S91)} {w : World} (h : impl_copyCerts.f k a0 = some r) (gp0 : k91.C w Ap0 np0 a0) (lp0 : np0 ≤ cp0) :
    Calls Tryz.prog 177 #[.slice Ap0 np0 cp0] w (fun e w' => ∃ v0_ : Value, e = .returned (v0_) ∧ Hp noFP w w' [.own (Zd.slice 91 q91) r [v0_]]) := by
 obtain rfl := C_len gp0
 have HS := Hp.start w
 have H := Aside0.mk h
 clear h
 unfold impl_copyCerts.f at H
 go_enter Tryz.func177, Tryz.ntmps177
 go_wp2
 replace HS := HS.nil 91 q91
 go_loopg [3, 8] k (fun kq v_3 v_8 w' => ∃ (l16 : List S91) (v17 : Value) (x18 : Int), v_3 = v17 ∧ v_8 = .int .i64 x18 ∧ Aside0 (impl_copyCerts.l0 kq l16 x18 a0 = some r) ∧ Aside0 (kq ≤ k) ∧ Hp noFP w w' [.own (Zd.slice 91 q91) l16 [v17]])
 case atStart => exact ⟨_, _, _, rfl, rfl, H, ⟨Nat.le_refl _⟩, HS⟩
 case round =>
  clear HS H; (try clear F)
  obtain ⟨l16, v17, x18, rfl, rfl, H, HKk15, HS⟩ := hrel
  obtain ⟨B17, d17, rfl, m17⟩ := HS.form 0 rfl
  cases gk with
  | zero => exact absurd H.out (by simp [impl_copyCerts.l0])
  | succ k15 =>
   simp only [impl_copyCerts.l0] at H
   replace H := znif H; rcases H with ⟨c20, H⟩ | ⟨c20, H⟩
   case inl =>
    obtain rfl := zsome H
    go_wp2
    exact bodyPost_ret (results_single rfl (.tmp .nil)) rfl ⟨_, rfl, HS.pick [0] (by decide) (by rfl)⟩
   replace H := zgo H; obtain ⟨c21, H⟩ := H
   replace H := zgo H; obtain ⟨c22, H⟩ := H
   obtain ⟨ad23, B23_9, d23_9, B23_10, d23_10, B23_11, d23_11, rfl, e23_0, e23_1, e23_2, e23_3, e23_4, e23_5, e23_6, e23_7, e23_8, e23_9, e23_10, e23_11, e23_12, m23_9, y23_9, m23_10, y23_10, m23_11, y23_11⟩ := at_T91 gp0 x18 (of_eq_true c21) (of_eq_true c22)
   have e23_0_23 := HS.keepc e23_0
   have e23_1_23 := HS.keepc e23_1
   have e23_2_23 := HS.keepc e23_2
   have e23_3_23 := HS.keepc e23_3
   have e23_4_23 := HS.keepc e23_4
   have e23_5_23 := HS.keepc e23_5
   have e23_6_23 := HS.keepc e23_6
   have e23_7_23 := HS.keepc e23_7
   have e23_8_23 := HS.keepc e23_8
   have e23_9_23 := HS.keepc e23_9
   have e23_10_23 := HS.keepc e23_10
   have e23_11_23 := HS.keepc e23_11
   have e23_12_23 := HS.keepc e23_12
   replace H := zbind H; obtain ⟨t28, ht28, H⟩ := H
   replace H := zgo H; obtain ⟨c35, H⟩ := H
   replace H := zlets H; obtain ⟨y36, e_y36, H⟩ := H
   go_wp2_with (first | ((with_reducible refine gd 5 rfl ?_); refine ev_bx HS ?_; clear HS; intro g5 w5 HS F) | ((with_reducible refine gate_store (p := 5) rfl ?_); refine ev_st 1 0 HS (seg := [.int .i64 ((rd_T91 a0 x18).f0), .string ((rd_T91 a0 x18).f1), .string ((rd_T91 a0 x18).f2), .int .i64 ((rd_T91 a0 x18).f3), .int .i64 ((rd_T91 a0 x18).f4), .string ((rd_T91 a0 x18).f5), .bool ((rd_T91 a0 x18).f6), .int .i64 ((rd_T91 a0 x18).f7), .int .i64 ((rd_T91 a0 x18).f8), .slice B23_9 (rd_T91 a0 x18).f9.length d23_9, .slice B23_10 (rd_T91 a0 x18).f10.length d23_10, .slice B23_11 (rd_T91 a0 x18).f11.length d23_11, .string ((rd_T91 a0 x18).f12)]) ?_; clear HS; intro w26 HS F) | ((with_reducible refine gd 14 rfl ?_); refine ev_cl3 HS (impl_copyCert.calls ht28.out (HS.ro y23_9) m23_9 (HS.ro y23_10) m23_10 (HS.ro y23_11) m23_11) Tryz.func119 ?_; clear HS; intro v29 v30 v31 wt28 HS F; obtain ⟨B29, d29, rfl, m29⟩ := HS.form 2 rfl; obtain ⟨B30, d30, rfl, m30⟩ := HS.form 3 rfl; obtain ⟨B31, d31, rfl, m31⟩ := HS.form 4 rfl) | ((with_reducible refine gd 15 rfl ?_); refine ev_li q91 [2, 3, 4] ([t28] : List S91) ([.int .i64 t28.f0, .string t28.f1, .string t28.f2, .int .i64 t28.f3, .int .i64 t28.f4, .string t28.f5, .bool t28.f6, .int .i64 t28.f7, .int .i64 t28.f8, .slice B29 t28.f9.length d29, .slice B30 t28.f10.length d30, .slice B31 t28.f11.length d31, .string t28.f12] ++ []) HS (MadeL.cons (js1 := [2, 3, 4]) (c := [.int .i64 t28.f0, .string t28.f1, .string t28.f2, .int .i64 t28.f3, .int .i64 t28.f4, .string t28.f5, .bool t28.f6, .int .i64 t28.f7, .int .i64 t28.f8, .slice B29 t28.f9.length d29, .slice B30 t28.f10.length d30, .slice B31 t28.f11.length d31, .string t28.f12]) rfl (fun S hd hh => q91_pack (x := t28) hd (hh 2 (.own (Zd.slice 3 (Zd.int .i64)) t28.f9 [.slice B29 t28.f9.length d29]) rfl) (hh 3 (.own (Zd.slice 9 Zd.string) t28.f10 [.slice B30 t28.f10.length d30]) rfl) (hh 4 (.own (Zd.slice 9 Zd.string) t28.f11 [.slice B31 t28.f11.length d31]) rfl) (by decide)) MadeL.nil (by decide)) ?_; clear HS; intro v33 w33 HS F; obtain ⟨B33, d33, rfl, m33⟩ := HS.formn 1 5 rfl rfl) | ((with_reducible refine gd 16 rfl ?_); refine ev_ap q91 0 5 HS rfl rfl Tryz.underlying29 info91 (of_eq_true c35) ?_; clear HS; intro v36 w36 HS; rw [← e_y36.out] at HS; obtain ⟨B36, d36, rfl, m36⟩ := HS.form 6 rfl; (try simp only [hpn, hpm] at HS); have F := HS.boxes; simp only [bxn] at F))
   go_roundg k15
   case measure => have := HKk15.out; omega
   case rel => exact ⟨_, _, _, rfl, rfl, H, ⟨by have := HKk15.out; omega⟩, HS.pick [6] (by decide) (by rfl)⟩
def impl_copyCrl.f (a0 : S81) : Option (S81) := (if 0 + a0.f5.length ≤ 8796093022208 then (lets (([] : List S238) ++ a0.f5) fun y6 => (some (⟨a0.f0, a0.f1, a0.f2, a0.f3, a0.f4, y6, a0.f6⟩ : S81))) else none)
theorem impl_copyCrl.calls {a0 : S81} {Ap0 : Option Addr} {np0 cp0 : Nat} {r : S81} {w : World} (h : impl_copyCrl.f a0 = some r) (gp0 : k238.C w Ap0 np0 a0.f5) (lp0 : np0 ≤ cp0) :
    Calls Tryz.prog 109 #[.agg #[.string a0.f0, .int .i64 a0.f1, .int .i64 a0.f2, .int .i64 a0.f3, .int .i64 a0.f4, .slice Ap0 np0 cp0, .string a0.f6]] w (fun e w' => ∃ v0_ : Value, e = .returned (.agg #[.string r.f0, .int .i64 r.f1, .int .i64 r.f2, .int .i64 r.f3, .int .i64 r.f4, v0_, .string r.f6]) ∧ Hp noFP w w' [.own (Zd.slice 238 q238) r.f5 [v0_]]) := by
 obtain rfl := C_len gp0
 have HS := Hp.start w
 have H := Aside0.mk h
 clear h
 unfold impl_copyCrl.f at H
 go_enter Tryz.func109, Tryz.ntmps109
 replace H := zgo H; obtain ⟨c5, H⟩ := H
 replace H := zlets H; obtain ⟨y6, e_y6, H⟩ := H
 obtain rfl := zsome H
 go_wp2_with (first | ((with_reducible refine gd 1 rfl ?_); refine ev_bx HS ?_; clear HS; intro g1 w1 HS F) | ((with_reducible refine gd 2 rfl ?_); refine ev_bx HS ?_; clear HS; intro g2 w2 HS F) | ((with_reducible refine gd 5 rfl ?_); replace HS := HS.nil 238 q238; refine ev_apr fl238 2 HS rfl (HS.ro gp0) Tryz.underlying79 info238 (of_eq_true c5) ?_; clear HS; intro v6 w6 HS; rw [← e_y6.out] at HS; obtain ⟨B6, d6, rfl, m6⟩ := HS.form 3 rfl; (try simp only [hpn, hpm] at HS); have F := HS.boxes; simp only [bxn] at F) | ((with_reducible refine gate_store (p := 6) rfl ?_); refine ev_st 0 5 HS (seg := [.slice B6 y6.length d6]) ?_; clear HS; intro w8 HS F) | ((with_reducible refine gate_store (p := 2) rfl ?_); refine ev_st 1 0 HS (seg := [.string a0.f0, .int .i64 a0.f1, .int .i64 a0.f2, .int .i64 a0.f3, .int .i64 a0.f4, .slice B6 y6.length d6, .string a0.f6]) ?_; clear HS; intro w10 HS F))
 exact bodyPost_ret (results_single rfl (.cell _ _ _ _ _ rfl (HS.boxAt (i := 1) rfl) Tryz.underlying81 rfl (by kernel_rfl) .nil)) rfl ⟨_, rfl, HS.pick [3] (by decide) (by rfl)⟩
def impl_copyCrls.l0 : Nat → (List S81) → Int → (List S81) → Option ((List S81))
  | 0, _, _, _ => none
  | k + 1, l16, x18, a0 => (if x18 < (a0.length : Int) then (if 0 ≤ x18 then (if x18 < (a0.length : Int) then ((impl_copyCrl.f (rd_T81 a0 x18)).bind fun t28 => (if l16.length + 1 ≤ 1599289640401 then (lets (l16 ++ ([t28] : List S81)) fun y34 => (impl_copyCrls.l0 k y34 (wrap64 (x18 + 1)) a0)) else none)) else none) else none) else (some l16))
def impl_copyCrls.f (k : Nat) (a0 : (List S81)) : Option ((List S81)) := (impl_copyCrls.l0 k [] 0 a0)
theorem impl_copyCrls.calls {k : Nat} {a0 : (List S81)} {Ap0 : Option Addr} {np0 cp0 : Nat} {r : (List S81)} {w : World} (h : impl_copyCrls.f k a0 = some r) (gp0 : k81.C w Ap0 np0 a0) (lp0 : np0 ≤ cp0) :
    Calls Tryz.prog 178 #[.slice Ap0 np0 cp0] w (fun e w' => ∃ v0_ : Value, e = .returned (v0_) ∧ Hp noFP w w' [.own (Zd.slice 81 q81) r [v0_]]) := by
 obtain rfl := C_len gp0
 have HS := Hp.start w
 have H := Aside0.mk h
 clear h
 unfold impl_copyCrls.f at H
 go_enter Tryz.func178, Tryz.ntmps178
 go_wp2
 replace HS := HS.nil 81 q81
 go_loopg [3, 8] k (fun kq v_3 v_8 w' => ∃ (l16 : List S81) (v17 : Value) (x18 : Int), v_3 = v17 ∧ v_8 = .int .i64 x18 ∧ Aside0 (impl_copyCrls.l0 kq l16 x18 a0 = some r) ∧ Aside0 (kq ≤ k) ∧ Hp noFP w w' [.own (Zd.slice 81 q81) l16 [v17]])
 case atStart => exact ⟨_, _, _, rfl, rfl, H, ⟨Nat.le_refl _⟩, HS⟩
 case round =>
  clear HS H; (try clear F)
  obtain ⟨l16, v17, x18, rfl, rfl, H, HKk15, HS⟩ := hrel
  obtain ⟨B17, d17, rfl, m17⟩ := HS.form 0 rfl
  cases gk with
  | zero => exact absurd H.out (by simp [impl_copyCrls.l0])
  | succ k15 =>
   simp only [impl_copyCrls.l0] at H
   replace H := znif H; rcases H with ⟨c20, H⟩ | ⟨c20, H⟩
   case inl =>
    obtain rfl := zsome H
    go_wp2
    exact bodyPost_ret (results_single rfl (.tmp .nil)) rfl ⟨_, rfl, HS.pick [0] (by decide) (by rfl)⟩
   replace H := zgo H; obtain ⟨c21, H⟩ := H
   replace H := zgo H; obtain ⟨c22, H⟩ := H
   obtain ⟨ad23, B23_5, d23_5, rfl, e23_0, e23_1, e23_2, e23_3, e23_4, e23_5, e23_6, m23_5, y23_5⟩ := at_T81 gp0 x18 (of_eq_true c21) (of_eq_true c22)
   have e23_0_23 := HS.keepc e23_0
   have e23_1_23 := HS.keepc e23_1
   have e23_2_23 := HS.keepc e23_2
   have e23_3_23 := HS.keepc e23_3
   have e23_4_23 := HS.keepc e23_4
   have e23_5_23 := HS.keepc e23_5
   have e23_6_23 := HS.keepc e23_6
   replace H := zbind H; obtain ⟨t28, ht28, H⟩ := H
   replace H := zgo H; obtain ⟨c33, H⟩ := H
   replace H := zlets H; obtain ⟨y34, e_y34, H⟩ := H
   go_wp2_with (first | ((with_reducible refine gd 5 rfl ?_); refine ev_bx HS ?_; clear HS; intro g5 w5 HS F) | ((with_reducible refine gate_store (p := 5) rfl ?_); refine ev_st 1 0 HS (seg := [.string ((rd_T81 a0 x18).f0), .int .i64 ((rd_T81 a0 x18).f1), .int .i64 ((rd_T81 a0 x18).f2), .int .i64 ((rd_T81 a0 x18).f3), .int .i64 ((rd_T81 a0 x18).f4), .slice B23_5 (rd_T81 a0 x18).f5.length d23_5, .string ((rd_T81 a0 x18).f6)]) ?_; clear HS; intro w26 HS F) | ((with_reducible refine gd 14 rfl ?_); refine ev_cl1 HS (impl_copyCrl.calls ht28.out (HS.ro y23_5) m23_5) Tryz.func109 ?_; clear HS; intro v29 wt28 HS F; obtain ⟨B29, d29, rfl, m29⟩ := HS.form 2 rfl) | ((with_reducible refine gd 15 rfl ?_); refine ev_li q81 [2] ([t28] : List S81) ([.string t28.f0, .int .i64 t28.f1, .int .i64 t28.f2, .int .i64 t28.f3, .int .i64 t28.f4, .slice B29 t28.f5.length d29, .string t28.f6] ++ []) HS (MadeL.cons (js1 := [2]) (c := [.string t28.f0, .int .i64 t28.f1, .int .i64 t28.f2, .int .i64 t28.f3, .int .i64 t28.f4, .slice B29 t28.f5.length d29, .string t28.f6]) rfl (fun S hd hh => q81_pack (x := t28) hd (hh 2 (.own (Zd.slice 238 q238) t28.f5 [.slice B29 t28.f5.length d29]) rfl) (by decide)) MadeL.nil (by decide)) ?_; clear HS; intro v31 w31 HS F; obtain ⟨B31, d31, rfl, m31⟩ := HS.formn 1 3 rfl rfl) | ((with_reducible refine gd 16 rfl ?_); refine ev_ap q81 0 3 HS rfl rfl Tryz.underlying30 info81 (of_eq_true c33) ?_; clear HS; intro v34 w34 HS; rw [← e_y34.out] at HS; obtain ⟨B34, d34, rfl, m34⟩ := HS.form 4 rfl; (try simp only [hpn, hpm] at HS); have F := HS.boxes; simp only [bxn] at F))
   go_roundg k15
   case measure => have := HKk15.out; omega
   case rel => exact ⟨_, _, _, rfl, rfl, H, ⟨by have := HKk15.out; omega⟩, HS.pick [4] (by decide) (by rfl)⟩
def impl_copyStore.f (k : Nat) (a0 : S33) : Option (S33) := ((impl_copyCerts.f k a0.f0).bind fun t3 => ((impl_copyCrls.f k a0.f1).bind fun t5 => (if 0 + a0.f2.length ≤ 4398046511104 then (lets (([] : List S115) ++ a0.f2) fun y9 => (some (⟨t3, t5, y9⟩ : S33))) else none)))
def impl_copyStore.T1 : TT := (true, [([], []), ([0], [0]), ([1], [1]), ([], []), ([3], [3]), ([4, 2], [4]), ([], []), ([6], [6]), ([7, 5], [7]), ([2, 5, 8], [2, 5, 8]), ([9, 8, 0, 1, 2, 3, 4, 5, 6, 7, 8, 9], [9])])
theorem impl_copyStore.tT1 : rtab .any (opsOf Tryz.f108 1) = impl_copyStore.T1 := by kernel_rfl
theorem impl_copyStore.calls {k : Nat} {a0 : S33} {Ap0 Ap1 Ap2 : Option Addr} {np0 cp0 np1 cp1 np2 cp2 : Nat} {r : S33} {w : World} (h : impl_copyStore.f k a0 = some r) (gp0 : k91.C w Ap0 np0 a0.f0) (lp0 : np0 ≤ cp0) (gp1 : k81.C w Ap1 np1 a0.f1) (lp1 : np1 ≤ cp1) (gp2 : k115.C w Ap2 np2 a0.f2) (lp2 : np2 ≤ cp2) :
    Calls Tryz.prog 108 #[.agg #[.slice Ap0 np0 cp0, .slice Ap1 np1 cp1, .slice Ap2 np2 cp2]] w (fun e w' => ∃ v0_ v1_ v2_ : Value, e = .returned (.agg #[v0_, v1_, v2_]) ∧ Hp noFP w w' [.own (Zd.slice 91 q91) r.f0 [v0_], .own (Zd.slice 81 q81) r.f1 [v1_], .own (Zd.slice 115 q115) r.f2 [v2_]]) := by
 obtain rfl := C_len gp0
 obtain rfl := C_len gp1
 obtain rfl := C_len gp2
 have HS := Hp.start w
 have H := Aside0.mk h
 clear h
 unfold impl_copyStore.f at H
 go_enter Tryz.func108, Tryz.ntmps108
 go_wp2_with (first | ((with_reducible refine gd 1 rfl ?_); refine ev_bx HS ?_; clear HS; intro g1 w1 HS F) | ((with_reducible refine gd 2 rfl ?_); refine ev_bx HS ?_; clear HS; intro g2 w2 HS F))
 replace H := zbind H; obtain ⟨t3, ht3, H⟩ := H
 replace H := zbind H; obtain ⟨t5, ht5, H⟩ := H
 replace H := zgo H; obtain ⟨c8, H⟩ := H
 replace H := zlets H; obtain ⟨y9, e_y9, H⟩ := H
 refine dr_start [10] HS #[false, false, false, false, false, false, false, false, false, false, false] (by kernel_rfl) rfl rfl impl_copyStore.tT1 (fun w6 HT HS HH => ?_)
 (try clear F)
 refine drq_of [(0, some 3), (1, some 4), (3, some 6), (4, some 7), (6, some 9), (7, some 10)] ?_
 repeat (first | refine drp HT ?_ | refine drt HT HH ?_)
 refine drq_end ?_
 refine dr1 2 HT fun K hK => ?_
 refine go_cl1 HS (impl_copyCerts.calls ht3.out (HS.ro gp0) lp0) Tryz.func177 ?_; clear HS; intro v4 wt3 HS F; obtain ⟨B4, d4, rfl, m4⟩ := HS.form 2 rfl
 refine nrm 5 hK ⟨_, HS⟩ (fun HH => ?_); clear hK K
 refine dr1 5 HT fun K hK => ?_
 refine go_cl1 HS (impl_copyCrls.calls ht5.out (HS.ro gp1) lp1) Tryz.func178 ?_; clear HS; intro v7 wt5 HS F; obtain ⟨B7, d7, rfl, m7⟩ := HS.form 3 rfl
 refine nrm 8 hK ⟨_, HS⟩ (fun HH => ?_); clear hK K
 refine dr1 8 HT fun K hK => ?_
 refine if_wp (by rfl) ?_; replace HS := HS.nil 115 q115; refine wp_appendr q115 fl115 4 HS rfl (HS.ro gp2) rfl rfl rfl Tryz.underlying31 info115 rfl (by decide) (by decide) (by have := of_eq_true c8; first | omega | (simp only [List.length_cons, List.length_nil, List.length_append, Nat.zero_add] at this ⊢; omega)) ?_; clear HS; intro v9 w9 HS; rw [← e_y9.out] at HS; obtain ⟨B9, d9, rfl, m9⟩ := HS.form 5 rfl
 (try simp only [hpn, hpm] at HS)
 have F := HS.boxes; simp only [bxn] at F
 refine nrm 11 hK ⟨_, HS⟩ (fun HH => ?_); clear hK K
 refine drq_of [(9, some 12)] ?_
 repeat (refine drp HT ?_)
 refine drq_end ?_
 refine dr_last 10 HT rfl (by kernel_rfl) (by decide) (fun K hK => ?_)
 refine if_st 1 0 HS (seg := [.slice B4 t3.length d4, .slice B7 t5.length d7, .slice B9 y9.length d9]) ?_; clear HS; intro w10 HS F
 refine hK.out _ _ ?_
 clear hK K
 refine done_ (done_of HT.out (by kernel_rfl)) ?_
 (try clear F)
 have F := HS.boxes; simp only [bxn] at F
 obtain rfl := zsome H
 go_wp2
 exact bodyPost_ret (results_single rfl (.cell _ _ _ _ _ rfl (HS.boxAt (i := 1) rfl) Tryz.underlying33 rfl (by kernel_rfl) .nil)) rfl ⟨_, _, _, rfl, HS.pick [2, 3, 5] (by decide) (by rfl)⟩
end Go.Proofs.YtacocpknielofaaGreatDoor.F
