/- Functions of the program and of the law, and that their calls do what is written here. -/
import Derived.Test.YtacocpknielofaaGreatDoorZgFnExactStoreOkc
import Derived.Test.YtacocpknielofaaGreatDoorZgFnExactStoreOkd
namespace Go.Proofs.YtacocpknielofaaGreatDoor.F
open Go.RowKit Go.Proofs.YtacocpknielofaaGreatDoorW.PrintWords Go.Proofs.YtacocpknielofaaGreatDoorW.PrintLast Go.Proofs.YtacocpknielofaaGreatDoorW.PrintMore Go.Proofs.YtacocpknielofaaGreatDoor.Z
attribute [local go_sem] max2_int min2_int max_two min_two max_three min_three max_four min_four
set_option linter.unusedVariables false
set_option linter.unusedSimpArgs false
set_option maxRecDepth 100000
set_option maxHeartbeats 16000000
mutual
def spec_StoreOk.l0 : Nat → (List ByteArray) → Int → S33 → Option (Bool)
  | 0, _, _, _ => none
  | k + 1, l22, x24, a0 => (if x24 < (a0.f0.length : Int) then (if 0 ≤ x24 then (if x24 < (a0.f0.length : Int) then ((spec_CertText.f k (rd_T91 a0.f0 x24)).bind fun t30 => (if t30.2 = true then ((spec_l13In.f k l22 t30.1).bind fun t33 => (if t33 = true then (some false) else (if l22.length + 1 ≤ 8796093022208 then (lets (l22 ++ ([t30.1] : List ByteArray)) fun y39 => (spec_StoreOk.l0 k y39 (wrap64 (x24 + 1)) a0)) else none))) else (some false))) else none) else none) else (spec_StoreOk.l1 k ([] : List ByteArray) 0 a0))
def spec_StoreOk.l1 : Nat → (List ByteArray) → Int → S33 → Option (Bool)
  | 0, _, _, _ => none
  | k + 1, l57, x59, a0 => (if x59 < (a0.f1.length : Int) then (if 0 ≤ x59 then (if x59 < (a0.f1.length : Int) then ((spec_CrlText.f k (rd_T81 a0.f1 x59)).bind fun t65 => (if t65.2 = true then ((spec_l13In.f k l57 t65.1).bind fun t68 => (if t68 = true then (some false) else (if l57.length + 1 ≤ 8796093022208 then (lets (l57 ++ ([t65.1] : List ByteArray)) fun y74 => (spec_StoreOk.l1 k y74 (wrap64 (x59 + 1)) a0)) else none))) else (some false))) else none) else none) else (spec_StoreOk.l2 k 0 a0))
def spec_StoreOk.l2 : Nat → Int → S33 → Option (Bool)
  | 0, _, _ => none
  | k + 1, x79, a0 => (if x79 < (a0.f2.length : Int) then (if 0 ≤ x79 then (if x79 < (a0.f2.length : Int) then ((spec_l13Anchor.f k (rd_T115 a0.f2 x79)).bind fun t85 => (if t85 = true then (spec_StoreOk.l3 k 0 a0 x79) else (some false))) else none) else none) else (some true))
def spec_StoreOk.l3 : Nat → Int → S33 → Int → Option (Bool)
  | 0, _, _, _ => none
  | k + 1, x91, a0, x79 => (if x91 < x79 then (if 0 ≤ x91 then (if x91 < (a0.f2.length : Int) then (if ((rd_T115 a0.f2 x91).f0).toList = ((rd_T115 a0.f2 x79).f0).toList then (some false) else (spec_StoreOk.l3 k (wrap64 (x91 + 1)) a0 x79)) else none) else none) else (spec_StoreOk.l2 k (wrap64 (x79 + 1)) a0))
end
def spec_StoreOk.f (k : Nat) (a0 : S33) : Option (Bool) := (if 12 < (a0.f0.length : Int) then (some false) else (if 8 < (a0.f1.length : Int) then (some false) else (if 3 < (a0.f2.length : Int) then (some false) else (spec_StoreOk.l0 k ([] : List ByteArray) 0 a0))))
def spec_StoreOk.T27 : TT := (true, [([], []), ([0], [0]), ([], []), ([1, 2], [1, 2]), ([3], [3]), ([4], [4]), ([], []), ([6], [6]), ([], []), ([7, 8], [7, 8]), ([9], [9]), ([10], [10]), ([5, 11], [5, 11])])
theorem spec_StoreOk.tT27 : rtab .any (opsOf Tryz.f12 27) = spec_StoreOk.T27 := by kernel_rfl
theorem spec_StoreOk.calls {k : Nat} {a0 : S33} {Ap0 Ap1 Ap2 : Option Addr} {np0 cp0 np1 cp1 np2 cp2 : Nat} {r : Bool} {w : World} (h : spec_StoreOk.f k a0 = some r) (gp0 : k91.C w Ap0 np0 a0.f0) (lp0 : np0 ≤ cp0) (gp1 : k81.C w Ap1 np1 a0.f1) (lp1 : np1 ≤ cp1) (gp2 : k115.C w Ap2 np2 a0.f2) (lp2 : np2 ≤ cp2) :
    Calls Tryz.prog 12 #[.agg #[.slice Ap0 np0 cp0, .slice Ap1 np1 cp1, .slice Ap2 np2 cp2]] w (fun e w' => e = .returned (.bool r) ∧ Hp noFP w w' []) := by
 obtain rfl := C_len gp0
 obtain rfl := C_len gp1
 obtain rfl := C_len gp2
 have HS := Hp.start w
 have H := Aside0.mk h
 clear h
 unfold spec_StoreOk.f at H
 go_enter Tryz.func12, Tryz.ntmps12
 replace H := zif H; rcases H with ⟨c3, H⟩ | ⟨c3, H⟩
 case inl =>
  obtain rfl := zsome H
  go_wp2_with (first | ((with_reducible refine gd 1 rfl ?_); refine ev_bx HS ?_; clear HS; intro g1 w1 HS F))
  go_ret
  exact HS.pk
 replace H := zif H; rcases H with ⟨c4, H⟩ | ⟨c4, H⟩
 case inl =>
  obtain rfl := zsome H
  go_wp2_with (first | ((with_reducible refine gd 1 rfl ?_); refine ev_bx HS ?_; clear HS; intro g1 w1 HS F))
  go_ret
  exact HS.pk
 go_upto_if 28 with (first | ((with_reducible refine gd 1 rfl ?_); refine ev_bx HS ?_; clear HS; intro g1 w1 HS F))
 replace H := zif H; rcases H with ⟨c5, H⟩ | ⟨c5, H⟩
 case inl =>
  (try simp only [c5, dcn])
  obtain rfl := zsome H
  go_wp2
  go_ret
  exact HS.pk
 (try simp only [c5, dcn])
 go_wp2_with (first | ((with_reducible refine gd 29 rfl ?_); refine ev_li Zd.string [] ([] : List ByteArray) [] HS MadeL.nil ?_; clear HS; intro v6 w6 HS F; obtain ⟨B6, d6, rfl, m6⟩ := HS.formn 0 1 rfl rfl))
 go_loopg [3, 4] k (fun kq v_3 v_4 w' => ∃ (l22 : List ByteArray) (v23 : Value) (x24 : Int), v_3 = v23 ∧ v_4 = .int .i64 x24 ∧ Aside0 (spec_StoreOk.l0 kq l22 x24 a0 = some r) ∧ Aside0 (kq ≤ k) ∧ Hp noFP w w' [.box g1 [.slice Ap0 a0.f0.length cp0, .slice Ap1 a0.f1.length cp1, .slice Ap2 a0.f2.length cp2] 33, .own (Zd.slice 9 Zd.string) l22 [v23]])
 case atStart => exact ⟨_, _, _, rfl, rfl, H, ⟨Nat.le_refl _⟩, HS⟩
 case round =>
  clear HS H; (try clear F)
  obtain ⟨l22, v23, x24, rfl, rfl, H, HKk21, HS⟩ := hrel
  obtain ⟨B23, d23, rfl, m23⟩ := HS.form 1 rfl
  have F := HS.boxes; simp only [bxn] at F
  cases gk with
  | zero => exact absurd H.out (by simp [spec_StoreOk.l0])
  | succ k21 =>
   simp only [spec_StoreOk.l0] at H
   replace H := zif H; rcases H with ⟨c26, H⟩ | ⟨c26, H⟩
   case inl =>
    replace H := zgo H; obtain ⟨c27, H⟩ := H
    replace H := zgo H; obtain ⟨c28, H⟩ := H
    obtain ⟨ad29, B29_9, d29_9, B29_10, d29_10, B29_11, d29_11, rfl, e29_0, e29_1, e29_2, e29_3, e29_4, e29_5, e29_6, e29_7, e29_8, e29_9, e29_10, e29_11, e29_12, m29_9, y29_9, m29_10, y29_10, m29_11, y29_11⟩ := at_T91 gp0 x24 (of_eq_true c27) (of_eq_true c28)
    have e29_0_29 := HS.keepc e29_0
    have e29_1_29 := HS.keepc e29_1
    have e29_2_29 := HS.keepc e29_2
    have e29_3_29 := HS.keepc e29_3
    have e29_4_29 := HS.keepc e29_4
    have e29_5_29 := HS.keepc e29_5
    have e29_6_29 := HS.keepc e29_6
    have e29_7_29 := HS.keepc e29_7
    have e29_8_29 := HS.keepc e29_8
    have e29_9_29 := HS.keepc e29_9
    have e29_10_29 := HS.keepc e29_10
    have e29_11_29 := HS.keepc e29_11
    have e29_12_29 := HS.keepc e29_12
    replace H := zbind H; obtain ⟨t30, ht30, H⟩ := H
    replace H := znifb H; rcases H with ⟨c32, H⟩ | ⟨c32, H⟩
    case inl =>
     obtain rfl := zsome H
     go_wp2_with (first | ((with_reducible refine gd 43 rfl ?_); refine ev_cl HS (spec_CertText.calls ht30.out (HS.ro y29_9) m29_9 (HS.ro y29_10) m29_10 (HS.ro y29_11) m29_11) Tryz.func54 ?_; clear HS; intro wt30 HS F; (try simp only [c32])))
     go_ret
     exact HS.pk
    replace H := zbind H; obtain ⟨t33, ht33, H⟩ := H
    go_upto_if 52 with (first | ((with_reducible refine gd 43 rfl ?_); refine ev_cl HS (spec_CertText.calls ht30.out (HS.ro y29_9) m29_9 (HS.ro y29_10) m29_10 (HS.ro y29_11) m29_11) Tryz.func54 ?_; clear HS; intro wt30 HS F; (try simp only [c32])) | ((with_reducible refine gd 51 rfl ?_); refine gg ?_; refine ev_cl HS (spec_l13In.calls ht33.out (HS.rd 1 rfl) m23) Tryz.func55 ?_; clear HS; intro wt33 HS F))
    replace H := zifb H; rcases H with ⟨c35, H⟩ | ⟨c35, H⟩
    case inl =>
     subst c35
     (try simp only [dcn, dcu, dcf])
     obtain rfl := zsome H
     go_wp2
     go_ret
     exact HS.pk
    subst c35
    (try simp only [dcn, dcu, dcf])
    replace H := zgo H; obtain ⟨c38, H⟩ := H
    replace H := zlets H; obtain ⟨y39, e_y39, H⟩ := H
    go_wp2_with (first | ((with_reducible refine gd 55 rfl ?_); refine ev_li Zd.string [] ([t30.1] : List ByteArray) ([.string t30.1] ++ []) HS (MadeL.cons (js1 := []) (c := [.string t30.1]) rfl (made_flat (fun _ => rfl)) MadeL.nil (by decide)) ?_; clear HS; intro v36 w36 HS F; obtain ⟨B36, d36, rfl, m36⟩ := HS.formn 1 2 rfl rfl) | ((with_reducible refine gd 56 rfl ?_); refine ev_ap Zd.string 1 2 HS rfl rfl Tryz.underlying57 info9 (of_eq_true c38) ?_; clear HS; intro v39 w39 HS; rw [← e_y39.out] at HS; obtain ⟨B39, d39, rfl, m39⟩ := HS.form 3 rfl; (try simp only [hpn, hpm] at HS); have F := HS.boxes; simp only [bxn] at F))
    go_roundg k21
    case measure => have := HKk21.out; omega
    case rel => exact ⟨_, _, _, rfl, rfl, H, ⟨by have := HKk21.out; omega⟩, HS.pick [0, 3] (by decide) (by rfl)⟩
   go_wp2_with (first | ((with_reducible refine gd 57 rfl ?_); refine ev_li Zd.string [] ([] : List ByteArray) [] HS MadeL.nil ?_; clear HS; intro v41 w41 HS F; obtain ⟨B41, d41, rfl, m41⟩ := HS.formn 0 2 rfl rfl))
   (try obtain ⟨wok56, rfl⟩ : ∃ wo_ : World, wo_ = wr := ⟨_, rfl⟩)
   go_loopg [7, 8] k21 (fun kq v_7 v_8 w' => ∃ (l57 : List ByteArray) (v58 : Value) (x59 : Int), v_7 = v58 ∧ v_8 = .int .i64 x59 ∧ Aside0 (spec_StoreOk.l1 kq l57 x59 a0 = some r) ∧ Aside0 (kq ≤ k21) ∧ Hp noFP w w' [.box g1 [.slice Ap0 a0.f0.length cp0, .slice Ap1 a0.f1.length cp1, .slice Ap2 a0.f2.length cp2] 33, .own (Zd.slice 9 Zd.string) l22 [.slice B23 l22.length d23], .own (Zd.slice 9 Zd.string) l57 [v58]])
   case atStart => exact ⟨_, _, _, rfl, rfl, H, ⟨Nat.le_refl _⟩, HS⟩
   case round =>
    clear HS H; (try clear F)
    obtain ⟨l57, v58, x59, rfl, rfl, H, HKk56, HS⟩ := hrel
    obtain ⟨B58, d58, rfl, m58⟩ := HS.form 2 rfl
    have F := HS.boxes; simp only [bxn] at F
    cases gk with
    | zero => exact absurd H.out (by simp [spec_StoreOk.l1])
    | succ k56 =>
     simp only [spec_StoreOk.l1] at H
     replace H := zif H; rcases H with ⟨c61, H⟩ | ⟨c61, H⟩
     case inl =>
      replace H := zgo H; obtain ⟨c62, H⟩ := H
      replace H := zgo H; obtain ⟨c63, H⟩ := H
      obtain ⟨ad64, B64_5, d64_5, rfl, e64_0, e64_1, e64_2, e64_3, e64_4, e64_5, e64_6, m64_5, y64_5⟩ := at_T81 gp1 x59 (of_eq_true c62) (of_eq_true c63)
      have e64_0_64 := HS.keepc e64_0
      have e64_1_64 := HS.keepc e64_1
      have e64_2_64 := HS.keepc e64_2
      have e64_3_64 := HS.keepc e64_3
      have e64_4_64 := HS.keepc e64_4
      have e64_5_64 := HS.keepc e64_5
      have e64_6_64 := HS.keepc e64_6
      replace H := zbind H; obtain ⟨t65, ht65, H⟩ := H
      replace H := znifb H; rcases H with ⟨c67, H⟩ | ⟨c67, H⟩
      case inl =>
       obtain rfl := zsome H
       go_wp2_with (first | ((with_reducible refine gd 71 rfl ?_); refine ev_cl HS (spec_CrlText.calls ht65.out (HS.ro y64_5) m64_5) Tryz.func56 ?_; clear HS; intro wt65 HS F; (try simp only [c67])))
       go_ret
       exact HS.pk
      replace H := zbind H; obtain ⟨t68, ht68, H⟩ := H
      go_upto_if 80 with (first | ((with_reducible refine gd 71 rfl ?_); refine ev_cl HS (spec_CrlText.calls ht65.out (HS.ro y64_5) m64_5) Tryz.func56 ?_; clear HS; intro wt65 HS F; (try simp only [c67])) | ((with_reducible refine gd 79 rfl ?_); refine gg ?_; refine ev_cl HS (spec_l13In.calls ht68.out (HS.rd 2 rfl) m58) Tryz.func55 ?_; clear HS; intro wt68 HS F))
      replace H := zifb H; rcases H with ⟨c70, H⟩ | ⟨c70, H⟩
      case inl =>
       subst c70
       (try simp only [dcn, dcu, dcf])
       obtain rfl := zsome H
       go_wp2
       go_ret
       exact HS.pk
      subst c70
      (try simp only [dcn, dcu, dcf])
      replace H := zgo H; obtain ⟨c73, H⟩ := H
      replace H := zlets H; obtain ⟨y74, e_y74, H⟩ := H
      go_wp2_with (first | ((with_reducible refine gd 83 rfl ?_); refine ev_li Zd.string [] ([t65.1] : List ByteArray) ([.string t65.1] ++ []) HS (MadeL.cons (js1 := []) (c := [.string t65.1]) rfl (made_flat (fun _ => rfl)) MadeL.nil (by decide)) ?_; clear HS; intro v71 w71 HS F; obtain ⟨B71, d71, rfl, m71⟩ := HS.formn 1 3 rfl rfl) | ((with_reducible refine gd 84 rfl ?_); refine ev_ap Zd.string 2 3 HS rfl rfl Tryz.underlying57 info9 (of_eq_true c73) ?_; clear HS; intro v74 w74 HS; rw [← e_y74.out] at HS; obtain ⟨B74, d74, rfl, m74⟩ := HS.form 4 rfl; (try simp only [hpn, hpm] at HS); have F := HS.boxes; simp only [bxn] at F))
      go_roundg k56
      case measure => have := HKk21.out; have := HKk56.out; omega
      case rel => exact ⟨_, _, _, rfl, rfl, H, ⟨by have := HKk21.out; have := HKk56.out; omega⟩, HS.pick [0, 1, 4] (by decide) (by rfl)⟩
     go_wp2
     (try obtain ⟨wok78, rfl⟩ : ∃ wo_ : World, wo_ = wr := ⟨_, rfl⟩)
     go_loopg [11] k56 (fun kq v_11 w' => ∃ (x79 : Int), v_11 = .int .i64 x79 ∧ Aside0 (spec_StoreOk.l2 kq x79 a0 = some r) ∧ Aside0 (kq ≤ k56) ∧ Hp noFP w w' [.box g1 [.slice Ap0 a0.f0.length cp0, .slice Ap1 a0.f1.length cp1, .slice Ap2 a0.f2.length cp2] 33, .own (Zd.slice 9 Zd.string) l22 [.slice B23 l22.length d23], .own (Zd.slice 9 Zd.string) l57 [.slice B58 l57.length d58]])
     case atStart => exact ⟨_, rfl, H, ⟨Nat.le_refl _⟩, HS⟩
     case round =>
      clear HS H; (try clear F)
      obtain ⟨x79, rfl, H, HKk78, HS⟩ := hrel
      have F := HS.boxes; simp only [bxn] at F
      cases gk with
      | zero => exact absurd H.out (by simp [spec_StoreOk.l2])
      | succ k78 =>
       simp only [spec_StoreOk.l2] at H
       replace H := znif H; rcases H with ⟨c81, H⟩ | ⟨c81, H⟩
       case inl =>
        obtain rfl := zsome H
        go_wp2
        go_ret
        exact HS.pk
       replace H := zgo H; obtain ⟨c82, H⟩ := H
       replace H := zgo H; obtain ⟨c83, H⟩ := H
       obtain ⟨ad84, rfl, e84_0, e84_1⟩ := at_T115 gp2 x79 (of_eq_true c82) (of_eq_true c83)
       have e84_0_84 := HS.keepc e84_0
       have e84_1_84 := HS.keepc e84_1
       replace H := zbind H; obtain ⟨t85, ht85, H⟩ := H
       go_upto_if 98 with (first | ((with_reducible refine gd 97 rfl ?_); refine ev_cl HS (spec_l13Anchor.calls ht85.out) Tryz.func57 ?_; clear HS; intro wt85 HS F))
       replace H := znifb H; rcases H with ⟨c87, H⟩ | ⟨c87, H⟩
       case inl =>
        subst c87
        (try simp only [dcn, dcu, dcf])
        obtain rfl := zsome H
        go_wp2
        go_ret
        exact HS.pk
       subst c87
       (try simp only [dcn, dcu, dcf])
       go_wp2
       (try obtain ⟨wok90, rfl⟩ : ∃ wo_ : World, wo_ = wr := ⟨_, rfl⟩)
       go_loopg [12] k78 (fun kq v_12 w' => ∃ (x91 : Int), v_12 = .int .i64 x91 ∧ Aside0 (spec_StoreOk.l3 kq x91 a0 x79 = some r) ∧ Aside0 (kq ≤ k78) ∧ Hp noFP w w' [.box g1 [.slice Ap0 a0.f0.length cp0, .slice Ap1 a0.f1.length cp1, .slice (some ad84) a0.f2.length cp2] 33, .own (Zd.slice 9 Zd.string) l22 [.slice B23 l22.length d23], .own (Zd.slice 9 Zd.string) l57 [.slice B58 l57.length d58]])
       case atStart => exact ⟨_, rfl, H, ⟨Nat.le_refl _⟩, HS⟩
       case round =>
        clear HS H; (try clear F)
        obtain ⟨x91, rfl, H, HKk90, HS⟩ := hrel
        have F := HS.boxes; simp only [bxn] at F
        cases gk with
        | zero => exact absurd H.out (by simp [spec_StoreOk.l3])
        | succ k90 =>
         simp only [spec_StoreOk.l3] at H
         replace H := znif H; rcases H with ⟨c93, H⟩ | ⟨c93, H⟩
         case inl =>
          go_wp2
          go_roundg k90
          case measure => have := HKk21.out; have := HKk56.out; have := HKk78.out; have := HKk90.out; omega
          case rel => exact ⟨_, rfl, H, ⟨by have := HKk21.out; have := HKk56.out; have := HKk78.out; have := HKk90.out; omega⟩, HS.pick [0, 1, 2] (by decide) (by rfl)⟩
         (try go_wp2)
         replace H := zgo H; obtain ⟨c10, H⟩ := H
         replace H := zgo H; obtain ⟨c13, H⟩ := H
         obtain ⟨ad14, hq14, e14_0, e14_1⟩ := at_T115 gp2 x91 (of_eq_true c10) (of_eq_true c13); obtain rfl := Option.some.inj hq14
         obtain ⟨ad15, hq15, e15_0, e15_1⟩ := at_T115 gp2 x79 (of_eq_true c82) (of_eq_true c83); obtain rfl := Option.some.inj hq15
         refine dr_start [] HS #[false, false, false, false, false, false, false, false, false, false, false, false, false] (by kernel_rfl) rfl rfl spec_StoreOk.tT27 (fun w95 HT HS HH => ?_)
         (try clear F)
         refine drq_of [(0, some 104), (1, some 105), (2, some 106), (3, some 107), (4, some 108)] ?_
         repeat (first | refine drp HT ?_ | refine drt HT HH ?_)
         refine drq_end ?_
         refine dr_take 5 (some 109) HT HH (v := ?_) (a' := ?_) rfl rfl (by kernel_rfl) (fun _ _ _ h => h) (.inl ⟨by rfl, ?_⟩) ?_ ?_
         rotate_left
         · rintro w' ⟨rs', HS'⟩; have e14_0 := HS'.keepc e14_0; have e14_1 := HS'.keepc e14_1; go_simp; with_reducible rfl
         rotate_left
         · simp only [Act.put, ptn]; rfl
         refine drq_of [(6, some 110), (7, some 111), (8, some 112), (9, some 113), (10, some 114)] ?_
         repeat (first | refine drp HT ?_ | refine drt HT HH ?_)
         refine drq_end ?_
         refine dr_take 11 (some 115) HT HH (v := ?_) (a' := ?_) rfl rfl (by kernel_rfl) (fun _ _ _ h => h) (.inl ⟨by rfl, ?_⟩) ?_ ?_
         rotate_left
         · rintro w' ⟨rs', HS'⟩; have e15_0 := HS'.keepc e15_0; have e15_1 := HS'.keepc e15_1; go_simp; with_reducible rfl
         rotate_left
         · simp only [Act.put, ptn]; rfl
         refine drq_of [(12, some 116)] ?_
         repeat (refine drp HT ?_)
         refine drq_end ?_
         refine done_ (done_of HT.out (by kernel_rfl)) ?_
         (try clear F)
         have F := HS.boxes; simp only [bxn] at F
         replace H := zif' H; rcases H with ⟨c97, H⟩ | ⟨c97, H⟩
         case inl =>
          have c97a := beq_iff_eq.mpr c97
          have c97b := bne_eq_false_iff_eq.mpr c97
          clear c97
          (try simp only [c97a, c97b, dcn])
          obtain rfl := zsome H
          go_wp2
          go_ret
          exact HS.pk
         have c97a := beq_eq_false_iff_ne.mpr c97
         have c97b := bne_iff_ne.mpr c97
         clear c97
         (try simp only [c97a, c97b, dcn])
         go_wp2
         go_roundg k90
         case measure => have := HKk21.out; have := HKk56.out; have := HKk78.out; have := HKk90.out; omega
         case rel => exact ⟨_, rfl, H, ⟨by have := HKk21.out; have := HKk56.out; have := HKk78.out; have := HKk90.out; omega⟩, HS.pick [0, 1, 2] (by decide) (by rfl)⟩
def laws_toIntS.l0 : Nat → (List Int) → Int → (List Int) → Option ((List Int))
  | 0, _, _, _ => none
  | k + 1, l18, x20, a0 => (if x20 < (a0.length : Int) then (if 0 ≤ x20 then (if x20 < (a0.length : Int) then (laws_toIntS.l0 k (l18.set (x20).toNat (rd a0 x20)) (wrap64 (x20 + 1)) a0) else none) else none) else (some l18))
def laws_toIntS.f (k : Nat) (a0 : (List Int)) : Option ((List Int)) := (if 0 ≤ (a0.length : Int) then (if ((a0.length : Int)).toNat ≤ 35184372088832 then (laws_toIntS.l0 k (List.replicate a0.length (0 : Int)) 0 a0) else none) else none)
theorem laws_toIntS.calls {k : Nat} {a0 : (List Int)} {Ap0 : Option Addr} {np0 cp0 : Nat} {r : (List Int)} {w : World} (h : laws_toIntS.f k a0 = some r) (gp0 : (Kd.int .i64).C w Ap0 np0 a0) (lp0 : np0 ≤ cp0) :
    Calls Tryz.prog 93 #[.slice Ap0 np0 cp0] w (fun e w' => ∃ v0_ : Value, e = .returned (v0_) ∧ Hp noFP w w' [.own (Zd.slice 3 (Zd.int .i64)) r [v0_]]) := by
 obtain rfl := C_len gp0
 have HS := Hp.start w
 have H := Aside0.mk h
 clear h
 unfold laws_toIntS.f at H
 go_enter Tryz.func93, Tryz.ntmps93
 replace H := zgo H; obtain ⟨c1, H⟩ := H
 replace H := zgo H; obtain ⟨c2, H⟩ := H
 go_wp2_with (first | ((with_reducible refine gd 7 rfl ?_); refine ev_make rfl (Zd.int .i64) (0 : Int) HS rfl (a0.length : Int) rfl rfl Tryz.underlying52 info3 rfl (by decide) (by decide) (fun _ _ => rfl) (of_eq_true c1) (by have := of_eq_true c2; omega) ?_; clear HS; intro v3 w3 HS; obtain ⟨B3, d3, rfl, m3⟩ := HS.formn a0.length 0 rfl (by first | rfl | simp); (try simp only [hpn, hpm] at HS)))
 go_loopg [4] k (fun kq v_4 w' => ∃ (l18 : List Int) (x20 : Int), v_4 = .int .i64 x20 ∧ Aside0 (laws_toIntS.l0 kq l18 x20 a0 = some r) ∧ Aside0 (kq ≤ k) ∧ Hp noFP w w' [.own (Zd.slice 3 (Zd.int .i64)) l18 [.slice B3 a0.length d3]])
 case atStart => exact ⟨_, _, rfl, H, ⟨Nat.le_refl _⟩, HS⟩
 case round =>
  clear HS H; (try clear F)
  obtain ⟨l18, x20, rfl, H, HKk17, HS⟩ := hrel
  cases gk with
  | zero => exact absurd H.out (by simp [laws_toIntS.l0])
  | succ k17 =>
   simp only [laws_toIntS.l0] at H
   replace H := znif H; rcases H with ⟨c22, H⟩ | ⟨c22, H⟩
   case inl =>
    obtain rfl := zsome H
    go_wp2
    exact bodyPost_ret (results_single rfl (.tmp .nil)) rfl ⟨_, rfl, HS.pick [0] (by decide) (by rfl)⟩
   replace H := zgo H; obtain ⟨c23, H⟩ := H
   replace H := zgo H; obtain ⟨c24, H⟩ := H
   obtain ⟨ad25, rfl, e25_0⟩ := Kd.at_int gp0 x20 (of_eq_true c23) (of_eq_true c24)
   have e25_0_25 := HS.keepc e25_0
   obtain ⟨ad26, rfl, e26_0⟩ := Kd.at_int (HS.rd 0 rfl) x20 (of_eq_true c23) (of_eq_true c24)
   go_wp2_with (first | ((with_reducible refine gate_store (p := 20) rfl ?_); refine ev_set rfl (Zd.int .i64) 0 [] x20 (rd a0 x20) HS (seg := [.int .i64 (rd a0 x20)]) rfl (by decide) rfl rfl rfl (by first | rfl | exact (Nat.mul_one _).symm) rfl rfl (by kernel_rfl) (by simp [Value.oneCell']) ⟨of_eq_true c23, of_eq_true c24⟩ rfl (made_flat (fun _ => rfl)) ?_; clear HS; intro w27 HS; (try simp only [hpn, hpm] at HS)))
   go_roundg k17
   case measure => have := HKk17.out; omega
   case rel => exact ⟨_, _, rfl, H, ⟨by have := HKk17.out; omega⟩, HS.pick [0] (by decide) (by rfl)⟩
def laws_toStringS.l0 : Nat → (List ByteArray) → Int → (List ByteArray) → Option ((List ByteArray))
  | 0, _, _, _ => none
  | k + 1, l18, x20, a0 => (if x20 < (a0.length : Int) then (if 0 ≤ x20 then (if x20 < (a0.length : Int) then (laws_toStringS.l0 k (l18.set (x20).toNat (rdOf ByteArray.empty a0 x20)) (wrap64 (x20 + 1)) a0) else none) else none) else (some l18))
def laws_toStringS.f (k : Nat) (a0 : (List ByteArray)) : Option ((List ByteArray)) := (if 0 ≤ (a0.length : Int) then (if ((a0.length : Int)).toNat ≤ 17592186044416 then (laws_toStringS.l0 k (List.replicate a0.length (⟨#[]⟩ : ByteArray)) 0 a0) else none) else none)
theorem laws_toStringS.calls {k : Nat} {a0 : (List ByteArray)} {Ap0 : Option Addr} {np0 cp0 : Nat} {r : (List ByteArray)} {w : World} (h : laws_toStringS.f k a0 = some r) (gp0 : Kd.string.C w Ap0 np0 a0) (lp0 : np0 ≤ cp0) :
    Calls Tryz.prog 95 #[.slice Ap0 np0 cp0] w (fun e w' => ∃ v0_ : Value, e = .returned (v0_) ∧ Hp noFP w w' [.own (Zd.slice 9 Zd.string) r [v0_]]) := by
 obtain rfl := C_len gp0
 have HS := Hp.start w
 have H := Aside0.mk h
 clear h
 unfold laws_toStringS.f at H
 go_enter Tryz.func95, Tryz.ntmps95
 replace H := zgo H; obtain ⟨c1, H⟩ := H
 replace H := zgo H; obtain ⟨c2, H⟩ := H
 go_wp2_with (first | ((with_reducible refine gd 7 rfl ?_); refine ev_make rfl Zd.string (⟨#[]⟩ : ByteArray) HS rfl (a0.length : Int) rfl rfl Tryz.underlying57 info9 rfl (by decide) (by decide) (fun _ _ => rfl) (of_eq_true c1) (by have := of_eq_true c2; omega) ?_; clear HS; intro v3 w3 HS; obtain ⟨B3, d3, rfl, m3⟩ := HS.formn a0.length 0 rfl (by first | rfl | simp); (try simp only [hpn, hpm] at HS)))
 go_loopg [4] k (fun kq v_4 w' => ∃ (l18 : List ByteArray) (x20 : Int), v_4 = .int .i64 x20 ∧ Aside0 (laws_toStringS.l0 kq l18 x20 a0 = some r) ∧ Aside0 (kq ≤ k) ∧ Hp noFP w w' [.own (Zd.slice 9 Zd.string) l18 [.slice B3 a0.length d3]])
 case atStart => exact ⟨_, _, rfl, H, ⟨Nat.le_refl _⟩, HS⟩
 case round =>
  clear HS H; (try clear F)
  obtain ⟨l18, x20, rfl, H, HKk17, HS⟩ := hrel
  cases gk with
  | zero => exact absurd H.out (by simp [laws_toStringS.l0])
  | succ k17 =>
   simp only [laws_toStringS.l0] at H
   replace H := znif H; rcases H with ⟨c22, H⟩ | ⟨c22, H⟩
   case inl =>
    obtain rfl := zsome H
    go_wp2
    exact bodyPost_ret (results_single rfl (.tmp .nil)) rfl ⟨_, rfl, HS.pick [0] (by decide) (by rfl)⟩
   replace H := zgo H; obtain ⟨c23, H⟩ := H
   replace H := zgo H; obtain ⟨c24, H⟩ := H
   obtain ⟨ad25, rfl, e25_0⟩ := Kd.at_string gp0 x20 (of_eq_true c23) (of_eq_true c24)
   have e25_0_25 := HS.keepc e25_0
   obtain ⟨ad26, rfl, e26_0⟩ := Kd.at_string (HS.rd 0 rfl) x20 (of_eq_true c23) (of_eq_true c24)
   go_wp2_with (first | ((with_reducible refine gate_store (p := 20) rfl ?_); refine ev_set rfl Zd.string 0 [] x20 (rdOf ByteArray.empty a0 x20) HS (seg := [.string (rdOf ByteArray.empty a0 x20)]) rfl (by decide) rfl rfl rfl (by first | rfl | exact (Nat.mul_one _).symm) rfl rfl (by kernel_rfl) (by simp [Value.oneCell']) ⟨of_eq_true c23, of_eq_true c24⟩ rfl (made_flat (fun _ => rfl)) ?_; clear HS; intro w27 HS; (try simp only [hpn, hpm] at HS)))
   go_roundg k17
   case measure => have := HKk17.out; omega
   case rel => exact ⟨_, _, rfl, H, ⟨by have := HKk17.out; omega⟩, HS.pick [0] (by decide) (by rfl)⟩
def laws_toCert.f (k : Nat) (a0 : S88) : Option (S91) := ((laws_toIntS.f k a0.f9).bind fun t25 => ((laws_toStringS.f k a0.f10).bind fun t30 => ((laws_toStringS.f k a0.f11).bind fun t35 => (some (⟨a0.f0, a0.f1, a0.f2, a0.f3, a0.f4, a0.f5, a0.f6, a0.f7, a0.f8, t25, t30, t35, a0.f12⟩ : S91)))))
theorem laws_toCert.calls {k : Nat} {a0 : S88} {Ap0 Ap1 Ap2 : Option Addr} {np0 cp0 np1 cp1 np2 cp2 : Nat} {r : S91} {w : World} (h : laws_toCert.f k a0 = some r) (gp0 : (Kd.int .i64).C w Ap0 np0 a0.f9) (lp0 : np0 ≤ cp0) (gp1 : Kd.string.C w Ap1 np1 a0.f10) (lp1 : np1 ≤ cp1) (gp2 : Kd.string.C w Ap2 np2 a0.f11) (lp2 : np2 ≤ cp2) :
    Calls Tryz.prog 36 #[.agg #[.int .i64 a0.f0, .string a0.f1, .string a0.f2, .int .i64 a0.f3, .int .i64 a0.f4, .string a0.f5, .bool a0.f6, .int .i64 a0.f7, .int .i64 a0.f8, .slice Ap0 np0 cp0, .slice Ap1 np1 cp1, .slice Ap2 np2 cp2, .string a0.f12]] w (fun e w' => ∃ v0_ v1_ v2_ : Value, e = .returned (.agg #[.int .i64 r.f0, .string r.f1, .string r.f2, .int .i64 r.f3, .int .i64 r.f4, .string r.f5, .bool r.f6, .int .i64 r.f7, .int .i64 r.f8, v0_, v1_, v2_, .string r.f12]) ∧ Hp noFP w w' [.own (Zd.slice 3 (Zd.int .i64)) r.f9 [v0_], .own (Zd.slice 9 Zd.string) r.f10 [v1_], .own (Zd.slice 9 Zd.string) r.f11 [v2_]]) := by
 obtain rfl := C_len gp0
 obtain rfl := C_len gp1
 obtain rfl := C_len gp2
 have HS := Hp.start w
 have H := Aside0.mk h
 clear h
 unfold laws_toCert.f at H
 go_enter Tryz.func36, Tryz.ntmps36
 replace H := zbind H; obtain ⟨t25, ht25, H⟩ := H
 replace H := zbind H; obtain ⟨t30, ht30, H⟩ := H
 replace H := zbind H; obtain ⟨t35, ht35, H⟩ := H
 obtain rfl := zsome H
 go_wp2_with (first | ((with_reducible refine gd 1 rfl ?_); refine ev_bx HS ?_; clear HS; intro g1 w1 HS F) | ((with_reducible refine gd 2 rfl ?_); refine ev_bx HS ?_; clear HS; intro g2 w2 HS F) | ((with_reducible refine gd 3 rfl ?_); refine ev_bx HS ?_; clear HS; intro g3 w3 HS F) | ((with_reducible refine gate_store (p := 6) rfl ?_); refine ev_st 2 0 HS (seg := [.int .i64 a0.f0]) ?_; clear HS; intro w7 HS F) | ((with_reducible refine gate_store (p := 9) rfl ?_); refine ev_st 2 1 HS (seg := [.string a0.f1]) ?_; clear HS; intro w9 HS F) | ((with_reducible refine gate_store (p := 12) rfl ?_); refine ev_st 2 2 HS (seg := [.string a0.f2]) ?_; clear HS; intro w11 HS F) | ((with_reducible refine gate_store (p := 15) rfl ?_); refine ev_st 2 3 HS (seg := [.int .i64 a0.f3]) ?_; clear HS; intro w13 HS F) | ((with_reducible refine gate_store (p := 18) rfl ?_); refine ev_st 2 4 HS (seg := [.int .i64 a0.f4]) ?_; clear HS; intro w15 HS F) | ((with_reducible refine gate_store (p := 21) rfl ?_); refine ev_st 2 5 HS (seg := [.string a0.f5]) ?_; clear HS; intro w17 HS F) | ((with_reducible refine gate_store (p := 24) rfl ?_); refine ev_st 2 6 HS (seg := [.bool a0.f6]) ?_; clear HS; intro w19 HS F) | ((with_reducible refine gate_store (p := 27) rfl ?_); refine ev_st 2 7 HS (seg := [.int .i64 a0.f7]) ?_; clear HS; intro w21 HS F) | ((with_reducible refine gate_store (p := 30) rfl ?_); refine ev_st 2 8 HS (seg := [.int .i64 a0.f8]) ?_; clear HS; intro w23 HS F) | ((with_reducible refine gd 33 rfl ?_); refine ev_cl1 HS (laws_toIntS.calls ht25.out (HS.ro gp0) lp0) Tryz.func93 ?_; clear HS; intro v26 wt25 HS F; obtain ⟨B26, d26, rfl, m26⟩ := HS.form 3 rfl) | ((with_reducible refine gate_store (p := 34) rfl ?_); refine ev_st 2 9 HS (seg := [.slice B26 t25.length d26]) ?_; clear HS; intro w28 HS F) | ((with_reducible refine gd 37 rfl ?_); refine ev_cl1 HS (laws_toStringS.calls ht30.out (HS.ro gp1) lp1) Tryz.func95 ?_; clear HS; intro v31 wt30 HS F; obtain ⟨B31, d31, rfl, m31⟩ := HS.form 4 rfl) | ((with_reducible refine gate_store (p := 38) rfl ?_); refine ev_st 2 10 HS (seg := [.slice B31 t30.length d31]) ?_; clear HS; intro w33 HS F) | ((with_reducible refine gd 41 rfl ?_); refine ev_cl1 HS (laws_toStringS.calls ht35.out (HS.ro gp2) lp2) Tryz.func95 ?_; clear HS; intro v36 wt35 HS F; obtain ⟨B36, d36, rfl, m36⟩ := HS.form 5 rfl) | ((with_reducible refine gate_store (p := 42) rfl ?_); refine ev_st 2 11 HS (seg := [.slice B36 t35.length d36]) ?_; clear HS; intro w38 HS F) | ((with_reducible refine gate_store (p := 45) rfl ?_); refine ev_st 2 12 HS (seg := [.string a0.f12]) ?_; clear HS; intro w40 HS F) | ((with_reducible refine gate_store (p := 2) rfl ?_); refine ev_st 1 0 HS (seg := [.int .i64 a0.f0, .string a0.f1, .string a0.f2, .int .i64 a0.f3, .int .i64 a0.f4, .string a0.f5, .bool a0.f6, .int .i64 a0.f7, .int .i64 a0.f8, .slice B26 t25.length d26, .slice B31 t30.length d31, .slice B36 t35.length d36, .string a0.f12]) ?_; clear HS; intro w42 HS F))
 exact bodyPost_ret (results_single rfl (.cell _ _ _ _ _ rfl (HS.boxAt (i := 1) rfl) Tryz.underlying91 rfl (by kernel_rfl) .nil)) rfl ⟨_, _, _, rfl, HS.pick [3, 4, 5] (by decide) (by rfl)⟩
def laws_toCertS.l0 : Nat → (List S91) → Int → (List S88) → Option ((List S91))
  | 0, _, _, _ => none
  | k + 1, l23, x25, a0 => (if x25 < (a0.length : Int) then (if 0 ≤ x25 then (if x25 < (a0.length : Int) then ((laws_toCert.f k (rd_T88 a0 x25)).bind fun t31 => (laws_toCertS.l0 k (l23.set (x25).toNat t31) (wrap64 (x25 + 1)) a0)) else none) else none) else (some l23))
def laws_toCertS.f (k : Nat) (a0 : (List S88)) : Option ((List S91)) := (if 0 ≤ (a0.length : Int) then (if ((a0.length : Int)).toNat ≤ 1529755308210 then (laws_toCertS.l0 k (List.replicate a0.length z91) 0 a0) else none) else none)
theorem laws_toCertS.calls {k : Nat} {a0 : (List S88)} {Ap0 : Option Addr} {np0 cp0 : Nat} {r : (List S91)} {w : World} (h : laws_toCertS.f k a0 = some r) (gp0 : k88.C w Ap0 np0 a0) (lp0 : np0 ≤ cp0) :
    Calls Tryz.prog 58 #[.slice Ap0 np0 cp0] w (fun e w' => ∃ v0_ : Value, e = .returned (v0_) ∧ Hp noFP w w' [.own (Zd.slice 91 q91) r [v0_]]) := by
 obtain rfl := C_len gp0
 have HS := Hp.start w
 have H := Aside0.mk h
 clear h
 unfold laws_toCertS.f at H
 go_enter Tryz.func58, Tryz.ntmps58
 replace H := zgo H; obtain ⟨c1, H⟩ := H
 replace H := zgo H; obtain ⟨c2, H⟩ := H
 go_wp2_with (first | ((with_reducible refine gd 7 rfl ?_); refine ev_make rfl q91 z91 HS rfl (a0.length : Int) rfl rfl Tryz.underlying29 info91 rfl (by decide) (by decide) q91_zero (of_eq_true c1) (by have := of_eq_true c2; omega) ?_; clear HS; intro v3 w3 HS; obtain ⟨B3, d3, rfl, m3⟩ := HS.formn a0.length 0 rfl (by first | rfl | simp); (try simp only [hpn, hpm] at HS)))
 go_loopg [4] k (fun kq v_4 w' => ∃ (l23 : List S91) (x25 : Int), v_4 = .int .i64 x25 ∧ Aside0 (laws_toCertS.l0 kq l23 x25 a0 = some r) ∧ Aside0 (kq ≤ k) ∧ Hp noFP w w' [.own (Zd.slice 91 q91) l23 [.slice B3 a0.length d3]])
 case atStart => exact ⟨_, _, rfl, H, ⟨Nat.le_refl _⟩, HS⟩
 case round =>
  clear HS H; (try clear F)
  obtain ⟨l23, x25, rfl, H, HKk22, HS⟩ := hrel
  cases gk with
  | zero => exact absurd H.out (by simp [laws_toCertS.l0])
  | succ k22 =>
   simp only [laws_toCertS.l0] at H
   replace H := znif H; rcases H with ⟨c27, H⟩ | ⟨c27, H⟩
   case inl =>
    obtain rfl := zsome H
    go_wp2
    exact bodyPost_ret (results_single rfl (.tmp .nil)) rfl ⟨_, rfl, HS.pick [0] (by decide) (by rfl)⟩
   replace H := zgo H; obtain ⟨c28, H⟩ := H
   replace H := zgo H; obtain ⟨c29, H⟩ := H
   obtain ⟨ad30, B30_9, d30_9, B30_10, d30_10, B30_11, d30_11, rfl, e30_0, e30_1, e30_2, e30_3, e30_4, e30_5, e30_6, e30_7, e30_8, e30_9, e30_10, e30_11, e30_12, m30_9, y30_9, m30_10, y30_10, m30_11, y30_11⟩ := at_T88 gp0 x25 (of_eq_true c28) (of_eq_true c29)
   have e30_0_30 := HS.keepc e30_0
   have e30_1_30 := HS.keepc e30_1
   have e30_2_30 := HS.keepc e30_2
   have e30_3_30 := HS.keepc e30_3
   have e30_4_30 := HS.keepc e30_4
   have e30_5_30 := HS.keepc e30_5
   have e30_6_30 := HS.keepc e30_6
   have e30_7_30 := HS.keepc e30_7
   have e30_8_30 := HS.keepc e30_8
   have e30_9_30 := HS.keepc e30_9
   have e30_10_30 := HS.keepc e30_10
   have e30_11_30 := HS.keepc e30_11
   have e30_12_30 := HS.keepc e30_12
   replace H := zbind H; obtain ⟨t31, ht31, H⟩ := H
   go_wp2_with (first | ((with_reducible refine gd 20 rfl ?_); refine ev_cl3 HS (laws_toCert.calls ht31.out (HS.ro y30_9) m30_9 (HS.ro y30_10) m30_10 (HS.ro y30_11) m30_11) Tryz.func36 ?_; clear HS; intro v32 v33 v34 wt31 HS F; obtain ⟨B32, d32, rfl, m32⟩ := HS.form 1 rfl; obtain ⟨B33, d33, rfl, m33⟩ := HS.form 2 rfl; obtain ⟨B34, d34, rfl, m34⟩ := HS.form 3 rfl; obtain ⟨ad36, B36_9, d36_9, B36_10, d36_10, B36_11, d36_11, rfl, e36_0, e36_1, e36_2, e36_3, e36_4, e36_5, e36_6, e36_7, e36_8, e36_9, e36_10, e36_11, e36_12, m36_9, y36_9, m36_10, y36_10, m36_11, y36_11⟩ := at_T91 (HS.rd 0 rfl) x25 (of_eq_true c28) (of_eq_true c29)) | ((with_reducible refine gate_store (p := 21) rfl ?_); refine ev_set rfl q91 0 [1, 2, 3] x25 t31 HS (seg := [.int .i64 t31.f0, .string t31.f1, .string t31.f2, .int .i64 t31.f3, .int .i64 t31.f4, .string t31.f5, .bool t31.f6, .int .i64 t31.f7, .int .i64 t31.f8, .slice B32 t31.f9.length d32, .slice B33 t31.f10.length d33, .slice B34 t31.f11.length d34, .string t31.f12]) rfl (by decide) rfl rfl rfl (by first | rfl | exact (Nat.mul_one _).symm) rfl rfl (by kernel_rfl) (by simp [Value.oneCell']) ⟨of_eq_true c28, of_eq_true c29⟩ rfl (fun S hd hh => q91_pack (x := t31) hd (hh 1 (.own (Zd.slice 3 (Zd.int .i64)) t31.f9 [.slice B32 t31.f9.length d32]) rfl) (hh 2 (.own (Zd.slice 9 Zd.string) t31.f10 [.slice B33 t31.f10.length d33]) rfl) (hh 3 (.own (Zd.slice 9 Zd.string) t31.f11 [.slice B34 t31.f11.length d34]) rfl) (by decide)) ?_; clear HS; intro w37 HS; (try simp only [hpn, hpm] at HS)))
   go_roundg k22
   case measure => have := HKk22.out; omega
   case rel => exact ⟨_, _, rfl, H, ⟨by have := HKk22.out; omega⟩, HS.pick [0] (by decide) (by rfl)⟩
def laws_toRev.f (a0 : S240) : Option (S238) := (some (⟨a0.f0, a0.f1⟩ : S238))
theorem laws_toRev.calls {a0 : S240} {r : S238} {w : World} (h : laws_toRev.f a0 = some r) :
    Calls Tryz.prog 176 #[.agg #[.int .i64 a0.f0, .int .i64 a0.f1]] w (fun e w' => e = .returned (.agg #[.int .i64 r.f0, .int .i64 r.f1]) ∧ Hp noFP w w' []) := by
 have HS := Hp.start w
 have H := Aside0.mk h
 clear h
 unfold laws_toRev.f at H
 go_enter Tryz.func176, Tryz.ntmps176
 obtain rfl := zsome H
 go_wp2_with (first | ((with_reducible refine gd 1 rfl ?_); refine ev_bx HS ?_; clear HS; intro g1 w1 HS F) | ((with_reducible refine gd 2 rfl ?_); refine ev_bx HS ?_; clear HS; intro g2 w2 HS F) | ((with_reducible refine gd 3 rfl ?_); refine ev_bx HS ?_; clear HS; intro g3 w3 HS F) | ((with_reducible refine gate_store (p := 6) rfl ?_); refine ev_st 2 0 HS (seg := [.int .i64 a0.f0]) ?_; clear HS; intro w7 HS F) | ((with_reducible refine gate_store (p := 9) rfl ?_); refine ev_st 2 1 HS (seg := [.int .i64 a0.f1]) ?_; clear HS; intro w9 HS F) | ((with_reducible refine gate_store (p := 2) rfl ?_); refine ev_st 1 0 HS (seg := [.int .i64 a0.f0, .int .i64 a0.f1]) ?_; clear HS; intro w11 HS F))
 exact bodyPost_ret (results_single rfl (.cell _ _ _ _ _ rfl (HS.boxAt (i := 1) rfl) Tryz.underlying238 rfl (by kernel_rfl) .nil)) rfl ⟨rfl, HS.pick [] (by decide) (by rfl)⟩
def laws_toRevS.l0 : Nat → (List S238) → Int → (List S240) → Option ((List S238))
  | 0, _, _, _ => none
  | k + 1, l20, x22, a0 => (if x22 < (a0.length : Int) then (if 0 ≤ x22 then (if x22 < (a0.length : Int) then ((laws_toRev.f (rd_T240 a0 x22)).bind fun t28 => (laws_toRevS.l0 k (l20.set (x22).toNat t28) (wrap64 (x22 + 1)) a0)) else none) else none) else (some l20))
def laws_toRevS.f (k : Nat) (a0 : (List S240)) : Option ((List S238)) := (if 0 ≤ (a0.length : Int) then (if ((a0.length : Int)).toNat ≤ 17592186044416 then (laws_toRevS.l0 k (List.replicate a0.length z238) 0 a0) else none) else none)
theorem laws_toRevS.calls {k : Nat} {a0 : (List S240)} {Ap0 : Option Addr} {np0 cp0 : Nat} {r : (List S238)} {w : World} (h : laws_toRevS.f k a0 = some r) (gp0 : k240.C w Ap0 np0 a0) (lp0 : np0 ≤ cp0) :
    Calls Tryz.prog 107 #[.slice Ap0 np0 cp0] w (fun e w' => ∃ v0_ : Value, e = .returned (v0_) ∧ Hp noFP w w' [.own (Zd.slice 238 q238) r [v0_]]) := by
 obtain rfl := C_len gp0
 have HS := Hp.start w
 have H := Aside0.mk h
 clear h
 unfold laws_toRevS.f at H
 go_enter Tryz.func107, Tryz.ntmps107
 replace H := zgo H; obtain ⟨c1, H⟩ := H
 replace H := zgo H; obtain ⟨c2, H⟩ := H
 go_wp2_with (first | ((with_reducible refine gd 7 rfl ?_); refine ev_make rfl q238 z238 HS rfl (a0.length : Int) rfl rfl Tryz.underlying79 info238 rfl (by decide) (by decide) q238_zero (of_eq_true c1) (by have := of_eq_true c2; omega) ?_; clear HS; intro v3 w3 HS; obtain ⟨B3, d3, rfl, m3⟩ := HS.formn a0.length 0 rfl (by first | rfl | simp); (try simp only [hpn, hpm] at HS)))
 go_loopg [4] k (fun kq v_4 w' => ∃ (l20 : List S238) (x22 : Int), v_4 = .int .i64 x22 ∧ Aside0 (laws_toRevS.l0 kq l20 x22 a0 = some r) ∧ Aside0 (kq ≤ k) ∧ Hp noFP w w' [.own (Zd.slice 238 q238) l20 [.slice B3 a0.length d3]])
 case atStart => exact ⟨_, _, rfl, H, ⟨Nat.le_refl _⟩, HS⟩
 case round =>
  clear HS H; (try clear F)
  obtain ⟨l20, x22, rfl, H, HKk19, HS⟩ := hrel
  cases gk with
  | zero => exact absurd H.out (by simp [laws_toRevS.l0])
  | succ k19 =>
   simp only [laws_toRevS.l0] at H
   replace H := znif H; rcases H with ⟨c24, H⟩ | ⟨c24, H⟩
   case inl =>
    obtain rfl := zsome H
    go_wp2
    exact bodyPost_ret (results_single rfl (.tmp .nil)) rfl ⟨_, rfl, HS.pick [0] (by decide) (by rfl)⟩
   replace H := zgo H; obtain ⟨c25, H⟩ := H
   replace H := zgo H; obtain ⟨c26, H⟩ := H
   obtain ⟨ad27, rfl, e27_0, e27_1⟩ := at_T240 gp0 x22 (of_eq_true c25) (of_eq_true c26)
   have e27_0_27 := HS.keepc e27_0
   have e27_1_27 := HS.keepc e27_1
   replace H := zbind H; obtain ⟨t28, ht28, H⟩ := H
   go_wp2_with (first | ((with_reducible refine gd 20 rfl ?_); refine ev_cl HS (laws_toRev.calls ht28.out) Tryz.func176 ?_; clear HS; intro wt28 HS F; obtain ⟨ad30, rfl, e30_0, e30_1⟩ := at_T238 (HS.rd 0 rfl) x22 (of_eq_true c25) (of_eq_true c26)) | ((with_reducible refine gate_store (p := 21) rfl ?_); refine ev_set rfl q238 0 [] x22 t28 HS (seg := [.int .i64 t28.f0, .int .i64 t28.f1]) rfl (by decide) rfl rfl rfl (by first | rfl | exact (Nat.mul_one _).symm) rfl rfl (by kernel_rfl) (by simp [Value.oneCell']) ⟨of_eq_true c25, of_eq_true c26⟩ rfl (made_flat (fun _ => q238_flat _ _ _)) ?_; clear HS; intro w31 HS; (try simp only [hpn, hpm] at HS)))
   go_roundg k19
   case measure => have := HKk19.out; omega
   case rel => exact ⟨_, _, rfl, H, ⟨by have := HKk19.out; omega⟩, HS.pick [0] (by decide) (by rfl)⟩
def laws_toCrl.f (k : Nat) (a0 : S75) : Option (S81) := ((laws_toRevS.f k a0.f5).bind fun t17 => (some (⟨a0.f0, a0.f1, a0.f2, a0.f3, a0.f4, t17, a0.f6⟩ : S81)))
theorem laws_toCrl.calls {k : Nat} {a0 : S75} {Ap0 : Option Addr} {np0 cp0 : Nat} {r : S81} {w : World} (h : laws_toCrl.f k a0 = some r) (gp0 : k240.C w Ap0 np0 a0.f5) (lp0 : np0 ≤ cp0) :
    Calls Tryz.prog 28 #[.agg #[.string a0.f0, .int .i64 a0.f1, .int .i64 a0.f2, .int .i64 a0.f3, .int .i64 a0.f4, .slice Ap0 np0 cp0, .string a0.f6]] w (fun e w' => ∃ v0_ : Value, e = .returned (.agg #[.string r.f0, .int .i64 r.f1, .int .i64 r.f2, .int .i64 r.f3, .int .i64 r.f4, v0_, .string r.f6]) ∧ Hp noFP w w' [.own (Zd.slice 238 q238) r.f5 [v0_]]) := by
 obtain rfl := C_len gp0
 have HS := Hp.start w
 have H := Aside0.mk h
 clear h
 unfold laws_toCrl.f at H
 go_enter Tryz.func28, Tryz.ntmps28
 replace H := zbind H; obtain ⟨t17, ht17, H⟩ := H
 obtain rfl := zsome H
 go_wp2_with (first | ((with_reducible refine gd 1 rfl ?_); refine ev_bx HS ?_; clear HS; intro g1 w1 HS F) | ((with_reducible refine gd 2 rfl ?_); refine ev_bx HS ?_; clear HS; intro g2 w2 HS F) | ((with_reducible refine gd 3 rfl ?_); refine ev_bx HS ?_; clear HS; intro g3 w3 HS F) | ((with_reducible refine gate_store (p := 6) rfl ?_); refine ev_st 2 0 HS (seg := [.string a0.f0]) ?_; clear HS; intro w7 HS F) | ((with_reducible refine gate_store (p := 9) rfl ?_); refine ev_st 2 1 HS (seg := [.int .i64 a0.f1]) ?_; clear HS; intro w9 HS F) | ((with_reducible refine gate_store (p := 12) rfl ?_); refine ev_st 2 2 HS (seg := [.int .i64 a0.f2]) ?_; clear HS; intro w11 HS F) | ((with_reducible refine gate_store (p := 15) rfl ?_); refine ev_st 2 3 HS (seg := [.int .i64 a0.f3]) ?_; clear HS; intro w13 HS F) | ((with_reducible refine gate_store (p := 18) rfl ?_); refine ev_st 2 4 HS (seg := [.int .i64 a0.f4]) ?_; clear HS; intro w15 HS F) | ((with_reducible refine gd 21 rfl ?_); refine ev_cl1 HS (laws_toRevS.calls ht17.out (HS.ro gp0) lp0) Tryz.func107 ?_; clear HS; intro v18 wt17 HS F; obtain ⟨B18, d18, rfl, m18⟩ := HS.form 3 rfl) | ((with_reducible refine gate_store (p := 22) rfl ?_); refine ev_st 2 5 HS (seg := [.slice B18 t17.length d18]) ?_; clear HS; intro w20 HS F) | ((with_reducible refine gate_store (p := 25) rfl ?_); refine ev_st 2 6 HS (seg := [.string a0.f6]) ?_; clear HS; intro w22 HS F) | ((with_reducible refine gate_store (p := 2) rfl ?_); refine ev_st 1 0 HS (seg := [.string a0.f0, .int .i64 a0.f1, .int .i64 a0.f2, .int .i64 a0.f3, .int .i64 a0.f4, .slice B18 t17.length d18, .string a0.f6]) ?_; clear HS; intro w24 HS F))
 exact bodyPost_ret (results_single rfl (.cell _ _ _ _ _ rfl (HS.boxAt (i := 1) rfl) Tryz.underlying81 rfl (by kernel_rfl) .nil)) rfl ⟨_, rfl, HS.pick [3] (by decide) (by rfl)⟩
def laws_toCrlS.l0 : Nat → (List S81) → Int → (List S75) → Option ((List S81))
  | 0, _, _, _ => none
  | k + 1, l21, x23, a0 => (if x23 < (a0.length : Int) then (if 0 ≤ x23 then (if x23 < (a0.length : Int) then ((laws_toCrl.f k (rd_T75 a0 x23)).bind fun t29 => (laws_toCrlS.l0 k (l21.set (x23).toNat t29) (wrap64 (x23 + 1)) a0)) else none) else none) else (some l21))
def laws_toCrlS.f (k : Nat) (a0 : (List S75)) : Option ((List S81)) := (if 0 ≤ (a0.length : Int) then (if ((a0.length : Int)).toNat ≤ 3198579280802 then (laws_toCrlS.l0 k (List.replicate a0.length z81) 0 a0) else none) else none)
theorem laws_toCrlS.calls {k : Nat} {a0 : (List S75)} {Ap0 : Option Addr} {np0 cp0 : Nat} {r : (List S81)} {w : World} (h : laws_toCrlS.f k a0 = some r) (gp0 : k75.C w Ap0 np0 a0) (lp0 : np0 ≤ cp0) :
    Calls Tryz.prog 59 #[.slice Ap0 np0 cp0] w (fun e w' => ∃ v0_ : Value, e = .returned (v0_) ∧ Hp noFP w w' [.own (Zd.slice 81 q81) r [v0_]]) := by
 obtain rfl := C_len gp0
 have HS := Hp.start w
 have H := Aside0.mk h
 clear h
 unfold laws_toCrlS.f at H
 go_enter Tryz.func59, Tryz.ntmps59
 replace H := zgo H; obtain ⟨c1, H⟩ := H
 replace H := zgo H; obtain ⟨c2, H⟩ := H
 go_wp2_with (first | ((with_reducible refine gd 7 rfl ?_); refine ev_make rfl q81 z81 HS rfl (a0.length : Int) rfl rfl Tryz.underlying30 info81 rfl (by decide) (by decide) q81_zero (of_eq_true c1) (by have := of_eq_true c2; omega) ?_; clear HS; intro v3 w3 HS; obtain ⟨B3, d3, rfl, m3⟩ := HS.formn a0.length 0 rfl (by first | rfl | simp); (try simp only [hpn, hpm] at HS)))
 go_loopg [4] k (fun kq v_4 w' => ∃ (l21 : List S81) (x23 : Int), v_4 = .int .i64 x23 ∧ Aside0 (laws_toCrlS.l0 kq l21 x23 a0 = some r) ∧ Aside0 (kq ≤ k) ∧ Hp noFP w w' [.own (Zd.slice 81 q81) l21 [.slice B3 a0.length d3]])
 case atStart => exact ⟨_, _, rfl, H, ⟨Nat.le_refl _⟩, HS⟩
 case round =>
  clear HS H; (try clear F)
  obtain ⟨l21, x23, rfl, H, HKk20, HS⟩ := hrel
  cases gk with
  | zero => exact absurd H.out (by simp [laws_toCrlS.l0])
  | succ k20 =>
   simp only [laws_toCrlS.l0] at H
   replace H := znif H; rcases H with ⟨c25, H⟩ | ⟨c25, H⟩
   case inl =>
    obtain rfl := zsome H
    go_wp2
    exact bodyPost_ret (results_single rfl (.tmp .nil)) rfl ⟨_, rfl, HS.pick [0] (by decide) (by rfl)⟩
   replace H := zgo H; obtain ⟨c26, H⟩ := H
   replace H := zgo H; obtain ⟨c27, H⟩ := H
   obtain ⟨ad28, B28_5, d28_5, rfl, e28_0, e28_1, e28_2, e28_3, e28_4, e28_5, e28_6, m28_5, y28_5⟩ := at_T75 gp0 x23 (of_eq_true c26) (of_eq_true c27)
   have e28_0_28 := HS.keepc e28_0
   have e28_1_28 := HS.keepc e28_1
   have e28_2_28 := HS.keepc e28_2
   have e28_3_28 := HS.keepc e28_3
   have e28_4_28 := HS.keepc e28_4
   have e28_5_28 := HS.keepc e28_5
   have e28_6_28 := HS.keepc e28_6
   replace H := zbind H; obtain ⟨t29, ht29, H⟩ := H
   go_wp2_with (first | ((with_reducible refine gd 20 rfl ?_); refine ev_cl1 HS (laws_toCrl.calls ht29.out (HS.ro y28_5) m28_5) Tryz.func28 ?_; clear HS; intro v30 wt29 HS F; obtain ⟨B30, d30, rfl, m30⟩ := HS.form 1 rfl; obtain ⟨ad32, B32_5, d32_5, rfl, e32_0, e32_1, e32_2, e32_3, e32_4, e32_5, e32_6, m32_5, y32_5⟩ := at_T81 (HS.rd 0 rfl) x23 (of_eq_true c26) (of_eq_true c27)) | ((with_reducible refine gate_store (p := 21) rfl ?_); refine ev_set rfl q81 0 [1] x23 t29 HS (seg := [.string t29.f0, .int .i64 t29.f1, .int .i64 t29.f2, .int .i64 t29.f3, .int .i64 t29.f4, .slice B30 t29.f5.length d30, .string t29.f6]) rfl (by decide) rfl rfl rfl (by first | rfl | exact (Nat.mul_one _).symm) rfl rfl (by kernel_rfl) (by simp [Value.oneCell']) ⟨of_eq_true c26, of_eq_true c27⟩ rfl (fun S hd hh => q81_pack (x := t29) hd (hh 1 (.own (Zd.slice 238 q238) t29.f5 [.slice B30 t29.f5.length d30]) rfl) (by decide)) ?_; clear HS; intro w33 HS; (try simp only [hpn, hpm] at HS)))
   go_roundg k20
   case measure => have := HKk20.out; omega
   case rel => exact ⟨_, _, rfl, H, ⟨by have := HKk20.out; omega⟩, HS.pick [0] (by decide) (by rfl)⟩
def laws_toAnchor.f (a0 : S178) : Option (S115) := (some (⟨a0.f0, a0.f1⟩ : S115))
theorem laws_toAnchor.calls {a0 : S178} {r : S115} {w : World} (h : laws_toAnchor.f a0 = some r) :
    Calls Tryz.prog 140 #[.agg #[.string a0.f0, .string a0.f1]] w (fun e w' => e = .returned (.agg #[.string r.f0, .string r.f1]) ∧ Hp noFP w w' []) := by
 have HS := Hp.start w
 have H := Aside0.mk h
 clear h
 unfold laws_toAnchor.f at H
 go_enter Tryz.func140, Tryz.ntmps140
 obtain rfl := zsome H
 go_wp2_with (first | ((with_reducible refine gd 1 rfl ?_); refine ev_bx HS ?_; clear HS; intro g1 w1 HS F) | ((with_reducible refine gd 2 rfl ?_); refine ev_bx HS ?_; clear HS; intro g2 w2 HS F) | ((with_reducible refine gd 3 rfl ?_); refine ev_bx HS ?_; clear HS; intro g3 w3 HS F) | ((with_reducible refine gate_store (p := 6) rfl ?_); refine ev_st 2 0 HS (seg := [.string a0.f0]) ?_; clear HS; intro w7 HS F) | ((with_reducible refine gate_store (p := 9) rfl ?_); refine ev_st 2 1 HS (seg := [.string a0.f1]) ?_; clear HS; intro w9 HS F) | ((with_reducible refine gate_store (p := 2) rfl ?_); refine ev_st 1 0 HS (seg := [.string a0.f0, .string a0.f1]) ?_; clear HS; intro w11 HS F))
 exact bodyPost_ret (results_single rfl (.cell _ _ _ _ _ rfl (HS.boxAt (i := 1) rfl) Tryz.underlying115 rfl (by kernel_rfl) .nil)) rfl ⟨rfl, HS.pick [] (by decide) (by rfl)⟩
def laws_toAnchorS.l0 : Nat → (List S115) → Int → (List S178) → Option ((List S115))
  | 0, _, _, _ => none
  | k + 1, l20, x22, a0 => (if x22 < (a0.length : Int) then (if 0 ≤ x22 then (if x22 < (a0.length : Int) then ((laws_toAnchor.f (rd_T178 a0 x22)).bind fun t28 => (laws_toAnchorS.l0 k (l20.set (x22).toNat t28) (wrap64 (x22 + 1)) a0)) else none) else none) else (some l20))
def laws_toAnchorS.f (k : Nat) (a0 : (List S178)) : Option ((List S115)) := (if 0 ≤ (a0.length : Int) then (if ((a0.length : Int)).toNat ≤ 8796093022208 then (laws_toAnchorS.l0 k (List.replicate a0.length z115) 0 a0) else none) else none)
theorem laws_toAnchorS.calls {k : Nat} {a0 : (List S178)} {Ap0 : Option Addr} {np0 cp0 : Nat} {r : (List S115)} {w : World} (h : laws_toAnchorS.f k a0 = some r) (gp0 : k178.C w Ap0 np0 a0) (lp0 : np0 ≤ cp0) :
    Calls Tryz.prog 60 #[.slice Ap0 np0 cp0] w (fun e w' => ∃ v0_ : Value, e = .returned (v0_) ∧ Hp noFP w w' [.own (Zd.slice 115 q115) r [v0_]]) := by
 obtain rfl := C_len gp0
 have HS := Hp.start w
 have H := Aside0.mk h
 clear h
 unfold laws_toAnchorS.f at H
 go_enter Tryz.func60, Tryz.ntmps60
 replace H := zgo H; obtain ⟨c1, H⟩ := H
 replace H := zgo H; obtain ⟨c2, H⟩ := H
 go_wp2_with (first | ((with_reducible refine gd 7 rfl ?_); refine ev_make rfl q115 z115 HS rfl (a0.length : Int) rfl rfl Tryz.underlying31 info115 rfl (by decide) (by decide) q115_zero (of_eq_true c1) (by have := of_eq_true c2; omega) ?_; clear HS; intro v3 w3 HS; obtain ⟨B3, d3, rfl, m3⟩ := HS.formn a0.length 0 rfl (by first | rfl | simp); (try simp only [hpn, hpm] at HS)))
 go_loopg [4] k (fun kq v_4 w' => ∃ (l20 : List S115) (x22 : Int), v_4 = .int .i64 x22 ∧ Aside0 (laws_toAnchorS.l0 kq l20 x22 a0 = some r) ∧ Aside0 (kq ≤ k) ∧ Hp noFP w w' [.own (Zd.slice 115 q115) l20 [.slice B3 a0.length d3]])
 case atStart => exact ⟨_, _, rfl, H, ⟨Nat.le_refl _⟩, HS⟩
 case round =>
  clear HS H; (try clear F)
  obtain ⟨l20, x22, rfl, H, HKk19, HS⟩ := hrel
  cases gk with
  | zero => exact absurd H.out (by simp [laws_toAnchorS.l0])
  | succ k19 =>
   simp only [laws_toAnchorS.l0] at H
   replace H := znif H; rcases H with ⟨c24, H⟩ | ⟨c24, H⟩
   case inl =>
    obtain rfl := zsome H
    go_wp2
    exact bodyPost_ret (results_single rfl (.tmp .nil)) rfl ⟨_, rfl, HS.pick [0] (by decide) (by rfl)⟩
   replace H := zgo H; obtain ⟨c25, H⟩ := H
   replace H := zgo H; obtain ⟨c26, H⟩ := H
   obtain ⟨ad27, rfl, e27_0, e27_1⟩ := at_T178 gp0 x22 (of_eq_true c25) (of_eq_true c26)
   have e27_0_27 := HS.keepc e27_0
   have e27_1_27 := HS.keepc e27_1
   replace H := zbind H; obtain ⟨t28, ht28, H⟩ := H
   go_wp2_with (first | ((with_reducible refine gd 20 rfl ?_); refine ev_cl HS (laws_toAnchor.calls ht28.out) Tryz.func140 ?_; clear HS; intro wt28 HS F; obtain ⟨ad30, rfl, e30_0, e30_1⟩ := at_T115 (HS.rd 0 rfl) x22 (of_eq_true c25) (of_eq_true c26)) | ((with_reducible refine gate_store (p := 21) rfl ?_); refine ev_set rfl q115 0 [] x22 t28 HS (seg := [.string t28.f0, .string t28.f1]) rfl (by decide) rfl rfl rfl (by first | rfl | exact (Nat.mul_one _).symm) rfl rfl (by kernel_rfl) (by simp [Value.oneCell']) ⟨of_eq_true c25, of_eq_true c26⟩ rfl (made_flat (fun _ => q115_flat _ _ _)) ?_; clear HS; intro w31 HS; (try simp only [hpn, hpm] at HS)))
   go_roundg k19
   case measure => have := HKk19.out; omega
   case rel => exact ⟨_, _, rfl, H, ⟨by have := HKk19.out; omega⟩, HS.pick [0] (by decide) (by rfl)⟩
def laws_toStore.f (k : Nat) (a0 : S26) : Option (S33) := ((laws_toCertS.f k a0.f0).bind fun t7 => ((laws_toCrlS.f k a0.f1).bind fun t12 => ((laws_toAnchorS.f k a0.f2).bind fun t17 => (some (⟨t7, t12, t17⟩ : S33)))))
theorem laws_toStore.calls {k : Nat} {a0 : S26} {Ap0 Ap1 Ap2 : Option Addr} {np0 cp0 np1 cp1 np2 cp2 : Nat} {r : S33} {w : World} (h : laws_toStore.f k a0 = some r) (gp0 : k88.C w Ap0 np0 a0.f0) (lp0 : np0 ≤ cp0) (gp1 : k75.C w Ap1 np1 a0.f1) (lp1 : np1 ≤ cp1) (gp2 : k178.C w Ap2 np2 a0.f2) (lp2 : np2 ≤ cp2) :
    Calls Tryz.prog 13 #[.agg #[.slice Ap0 np0 cp0, .slice Ap1 np1 cp1, .slice Ap2 np2 cp2]] w (fun e w' => ∃ v0_ v1_ v2_ : Value, e = .returned (.agg #[v0_, v1_, v2_]) ∧ Hp noFP w w' [.own (Zd.slice 91 q91) r.f0 [v0_], .own (Zd.slice 81 q81) r.f1 [v1_], .own (Zd.slice 115 q115) r.f2 [v2_]]) := by
 obtain rfl := C_len gp0
 obtain rfl := C_len gp1
 obtain rfl := C_len gp2
 have HS := Hp.start w
 have H := Aside0.mk h
 clear h
 unfold laws_toStore.f at H
 go_enter Tryz.func13, Tryz.ntmps13
 replace H := zbind H; obtain ⟨t7, ht7, H⟩ := H
 replace H := zbind H; obtain ⟨t12, ht12, H⟩ := H
 replace H := zbind H; obtain ⟨t17, ht17, H⟩ := H
 obtain rfl := zsome H
 go_wp2_with (first | ((with_reducible refine gd 1 rfl ?_); refine ev_bx HS ?_; clear HS; intro g1 w1 HS F) | ((with_reducible refine gd 2 rfl ?_); refine ev_bx HS ?_; clear HS; intro g2 w2 HS F) | ((with_reducible refine gd 3 rfl ?_); refine ev_bx HS ?_; clear HS; intro g3 w3 HS F) | ((with_reducible refine gd 6 rfl ?_); refine ev_cl1 HS (laws_toCertS.calls ht7.out (HS.ro gp0) lp0) Tryz.func58 ?_; clear HS; intro v8 wt7 HS F; obtain ⟨B8, d8, rfl, m8⟩ := HS.form 3 rfl) | ((with_reducible refine gate_store (p := 7) rfl ?_); refine ev_st 2 0 HS (seg := [.slice B8 t7.length d8]) ?_; clear HS; intro w10 HS F) | ((with_reducible refine gd 10 rfl ?_); refine ev_cl1 HS (laws_toCrlS.calls ht12.out (HS.ro gp1) lp1) Tryz.func59 ?_; clear HS; intro v13 wt12 HS F; obtain ⟨B13, d13, rfl, m13⟩ := HS.form 4 rfl) | ((with_reducible refine gate_store (p := 11) rfl ?_); refine ev_st 2 1 HS (seg := [.slice B13 t12.length d13]) ?_; clear HS; intro w15 HS F) | ((with_reducible refine gd 14 rfl ?_); refine ev_cl1 HS (laws_toAnchorS.calls ht17.out (HS.ro gp2) lp2) Tryz.func60 ?_; clear HS; intro v18 wt17 HS F; obtain ⟨B18, d18, rfl, m18⟩ := HS.form 5 rfl) | ((with_reducible refine gate_store (p := 15) rfl ?_); refine ev_st 2 2 HS (seg := [.slice B18 t17.length d18]) ?_; clear HS; intro w20 HS F) | ((with_reducible refine gate_store (p := 2) rfl ?_); refine ev_st 1 0 HS (seg := [.slice B8 t7.length d8, .slice B13 t12.length d13, .slice B18 t17.length d18]) ?_; clear HS; intro w22 HS F))
 exact bodyPost_ret (results_single rfl (.cell _ _ _ _ _ rfl (HS.boxAt (i := 1) rfl) Tryz.underlying33 rfl (by kernel_rfl) .nil)) rfl ⟨_, _, _, rfl, HS.pick [3, 4, 5] (by decide) (by rfl)⟩
def slices_Index_string_string.l0 : Nat → Int → (List ByteArray) → ByteArray → Option (Int)
  | 0, _, _, _ => none
  | k + 1, x4, a0, a1 => (if x4 < (a0.length : Int) then (if 0 ≤ x4 then (if x4 < (a0.length : Int) then (if a1.toList = (rdOf ByteArray.empty a0 x4).toList then (some x4) else (slices_Index_string_string.l0 k (wrap64 (x4 + 1)) a0 a1)) else none) else none) else (some (-1)))
def slices_Index_string_string.f (k : Nat) (a0 : (List ByteArray)) (a1 : ByteArray) : Option (Int) := (slices_Index_string_string.l0 k 0 a0 a1)
theorem slices_Index_string_string.calls {k : Nat} {a0 : (List ByteArray)} {a1 : ByteArray} {Ap0 : Option Addr} {np0 cp0 : Nat} {r : Int} {w : World} (h : slices_Index_string_string.f k a0 a1 = some r) (gp0 : Kd.string.C w Ap0 np0 a0) (lp0 : np0 ≤ cp0) :
    Calls Tryz.prog 198 #[.slice Ap0 np0 cp0, .string a1] w (fun e w' => e = .returned (.int .i64 r) ∧ Hp noFP w w' []) := by
 obtain rfl := C_len gp0
 have HS := Hp.start w
 have H := Aside0.mk h
 clear h
 unfold slices_Index_string_string.f at H
 go_enter Tryz.func198, Tryz.ntmps198
 go_wp2
 go_loopg [8] k (fun kq v_8 w' => ∃ (x4 : Int), v_8 = .int .i64 x4 ∧ Aside0 (slices_Index_string_string.l0 kq x4 a0 a1 = some r) ∧ Aside0 (kq ≤ k) ∧ Hp noFP w w' [])
 case atStart => exact ⟨_, rfl, H, ⟨Nat.le_refl _⟩, HS⟩
 case round =>
  clear HS H; (try clear F)
  obtain ⟨x4, rfl, H, HKk3, HS⟩ := hrel
  cases gk with
  | zero => exact absurd H.out (by simp [slices_Index_string_string.l0])
  | succ k3 =>
   simp only [slices_Index_string_string.l0] at H
   replace H := znif H; rcases H with ⟨c6, H⟩ | ⟨c6, H⟩
   case inl =>
    obtain rfl := zsome H
    go_wp2
    go_ret
    exact HS.pk
   replace H := zgo H; obtain ⟨c7, H⟩ := H
   replace H := zgo H; obtain ⟨c8, H⟩ := H
   obtain ⟨ad9, rfl, e9_0⟩ := Kd.at_string gp0 x4 (of_eq_true c7) (of_eq_true c8)
   have e9_0_9 := HS.keepc e9_0
   replace H := zif' H; rcases H with ⟨c10, H⟩ | ⟨c10, H⟩
   case inl =>
    have c10a := beq_iff_eq.mpr c10
    have c10b := bne_eq_false_iff_eq.mpr c10
    clear c10
    obtain rfl := zsome H
    go_wp2
    go_ret
    exact HS.pk
   have c10a := beq_eq_false_iff_ne.mpr c10
   have c10b := bne_iff_ne.mpr c10
   clear c10
   go_wp2
   go_roundg k3
   case measure => have := HKk3.out; omega
   case rel => exact ⟨_, rfl, H, ⟨by have := HKk3.out; omega⟩, HS.pick [] (by decide) (by rfl)⟩
def slices_Contains_string_string.f (k : Nat) (a0 : (List ByteArray)) (a1 : ByteArray) : Option (Bool) := ((slices_Index_string_string.f k a0 a1).bind fun t1 => (some (decide (0 ≤ t1))))
theorem slices_Contains_string_string.calls {k : Nat} {a0 : (List ByteArray)} {a1 : ByteArray} {Ap0 : Option Addr} {np0 cp0 : Nat} {r : Bool} {w : World} (h : slices_Contains_string_string.f k a0 a1 = some r) (gp0 : Kd.string.C w Ap0 np0 a0) (lp0 : np0 ≤ cp0) :
    Calls Tryz.prog 143 #[.slice Ap0 np0 cp0, .string a1] w (fun e w' => e = .returned (.bool r) ∧ Hp noFP w w' []) := by
 obtain rfl := C_len gp0
 have HS := Hp.start w
 have H := Aside0.mk h
 clear h
 unfold slices_Contains_string_string.f at H
 go_enter Tryz.func143, Tryz.ntmps143
 replace H := zbind H; obtain ⟨t1, ht1, H⟩ := H
 obtain rfl := zsome H
 go_wp2_with (first | ((with_reducible refine gd 7 rfl ?_); refine ev_cl HS (slices_Index_string_string.calls ht1.out (HS.ro gp0) lp0) Tryz.func198 ?_; clear HS; intro wt1 HS F))
 go_ret
 exact HS.pk
end Go.Proofs.YtacocpknielofaaGreatDoor.F
