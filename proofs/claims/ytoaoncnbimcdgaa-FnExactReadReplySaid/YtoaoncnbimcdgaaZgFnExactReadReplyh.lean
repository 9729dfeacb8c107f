/- Functions of the program and of the law, and that their calls do what is written here. -/
import Derived.Test.YtoaoncnbimcdgaaZgFnExactReadReplyf
namespace Go.Proofs.Ytoaoncnbimcdgaa.F
open Go.RowKit Go.Proofs.YtoaoncnbimcdgaaW.PrintWords Go.Proofs.YtoaoncnbimcdgaaW.PrintLast Go.Proofs.YtoaoncnbimcdgaaW.PrintMore Go.Proofs.Ytoaoncnbimcdgaa.Z
attribute [local go_sem] max2_int min2_int max_two min_two max_three min_three max_four min_four
set_option linter.unusedVariables false
set_option linter.unusedSimpArgs false
set_option maxRecDepth 100000
/-! ### impl_opener_list_0: function 59 -/
def impl_opener_list_0.f (a0 : S114) (a1 : S100) (a2 : Int) : Option ((Bool × Nat) × S114) := (if a1.f0 = 48 then (if 0 ≤ a2 then (if (a1.f2.length : Int) = a2 then (some ((true, 0), a0)) else (if a2 < 0 then (some ((false, 0), (⟨true⟩ : S114))) else (if 0 ≤ a2 then (if (a2).toNat ≤ 5864062014805 then (some ((false, (a2).toNat), (⟨true⟩ : S114))) else none) else none))) else (some ((true, 0), a0))) else (if a2 < 0 then (some ((false, 0), (⟨true⟩ : S114))) else (if 0 ≤ a2 then (if (a2).toNat ≤ 5864062014805 then (some ((false, (a2).toNat), (⟨true⟩ : S114))) else none) else none)))
set_option maxHeartbeats 16000000 in
theorem impl_opener_list_0.calls {a0 : S114} {a1 : S100} {a2 : Int} {A : FP} {p0 : Nat} {Ap1 : Option Addr} {np1 cp1 : Nat} {wv : World} {r1 : (Bool × Nat)} {r2 : S114} {w : World} (h : impl_opener_list_0.f a0 a1 a2 = some (r1, r2)) (gp1 : k100.C wv Ap1 np1 a1.f2) (lp1 : np1 ≤ cp1) (hV : View A w wv) (HS : Hp A w w [.box p0 [.bool a0.f0] 114]) :
    Calls Try.prog 59 #[.pointer (some ⟨p0, 0, none⟩), .agg #[.int .i64 a1.f0, .string a1.f1, .slice Ap1 np1 cp1], .int .i64 a2] w (fun e w' => ∃ v0_ : Value, e = .returned (cond r1.1 (.slice Ap1 np1 cp1) v0_) ∧ Hp A w w' [.box p0 [.bool r2.f0] 114, .own (Zd.slice 100 q100) (List.replicate r1.2 z100) [v0_]]) := by
 obtain rfl := C_len gp1
 have H := Aside0.mk h
 clear h
 unfold impl_opener_list_0.f at H
 go_enter Try.func59, Try.ntmps59
 by_cases c3 : a1.f0 = 48
 · replace H := zpos c3 H
   have c3a := beq_iff_eq.mpr c3
   have c3b := bne_eq_false_iff_eq.mpr c3
   clear c3
   by_cases c4 : 0 ≤ a2
   · replace H := zpos c4 H
     replace c4 := eq_true c4
     go_upto_if 20 with (first | ((with_reducible refine gate_dst (N := 4) rfl ?_); refine ev_box rfl HS (by first | (go_simp; done) | (go_simp; rfl)) rfl ?_; clear HS; (try clear F); intro g4 w4 HS; (try simp only [hpn, hpm] at HS); have F := HS.boxes; simp only [boxFacts, and_true] at F))
     by_cases c5 : (a1.f2.length : Int) = a2
     · replace H := zpos c5 H
       have c5a := beq_iff_eq.mpr c5
       have c5b := bne_eq_false_iff_eq.mpr c5
       clear c5
       (try simp only [c5a, c5b, dcn])
       obtain ⟨rfl, rfl⟩ := zsome2 H
       go_wp2
       replace HS := HS.nil 100 q100
       first | exact bodyPost_ret (results_single rfl (.tmp .nil)) rfl ⟨_, rfl, HS.pick [0, 2] (by decide) (by rfl)⟩ | exact bodyPost_ret (results_single rfl (.tmp .nil)) rfl ⟨rfl, _, HS.pick [0, 2] (by decide) (by rfl)⟩
     · replace H := zneg c5 H
       have c5a := beq_eq_false_iff_ne.mpr c5
       have c5b := bne_iff_ne.mpr c5
       clear c5
       (try simp only [c5a, c5b, dcn])
       by_cases c8 : a2 < 0
       · replace H := zpos c8 H
         replace c8 := eq_true c8
         obtain ⟨rfl, rfl⟩ := zsome2 H
         go_wp2_with (first | ((with_reducible refine gate_store (p := 23) rfl ?_); refine ev_store rfl 0 0 HS (seg := [.bool true]) rfl rfl rfl rfl rfl rfl (by kernel_rfl) (by simp [wrt]) (by simp [Value.oneCell']) ?_; clear HS; (try clear F); intro w6 HS; (try simp only [hpn, hpm] at HS); have F := HS.boxes; simp only [boxFacts, and_true] at F) | ((with_reducible refine gate_dst (N := 26) rfl ?_); refine ev_make rfl q100 z100 HS rfl (0 : Int) rfl rfl Try.underlying98 info100 rfl (by decide) (by decide) q100_zero (of_eq_true (eq_true (by decide : (0 : Int) ≤ 0))) (by have := of_eq_true (eq_true (by decide : (0 : Int).toNat ≤ 5864062014805)); omega) ?_; clear HS; (try clear F); intro v9 w9 HS; obtain ⟨B9, d9, rfl, m9⟩ := HS.formn 0 2 rfl (by first | rfl | simp); (try simp only [hpn, hpm] at HS); have F := HS.boxes; simp only [boxFacts, and_true] at F))
         first | exact bodyPost_ret (results_single rfl (.tmp .nil)) rfl ⟨_, rfl, HS.pick [0, 2] (by decide) (by rfl)⟩ | exact bodyPost_ret (results_single rfl (.tmp .nil)) rfl ⟨rfl, _, HS.pick [0, 2] (by decide) (by rfl)⟩
       · replace H := zneg c8 H
         replace c8 := eq_false c8
         by_cases c11 : 0 ≤ a2
         case neg => exact zno c11 H
         replace H := zpos c11 H
         replace c11 := eq_true c11
         by_cases c12 : (a2).toNat ≤ 5864062014805
         case neg => exact zno c12 H
         replace H := zpos c12 H
         replace c12 := eq_true c12
         obtain ⟨rfl, rfl⟩ := zsome2 H
         go_wp2_with (first | ((with_reducible refine gate_store (p := 23) rfl ?_); refine ev_store rfl 0 0 HS (seg := [.bool true]) rfl rfl rfl rfl rfl rfl (by kernel_rfl) (by simp [wrt]) (by simp [Value.oneCell']) ?_; clear HS; (try clear F); intro w6 HS; (try simp only [hpn, hpm] at HS); have F := HS.boxes; simp only [boxFacts, and_true] at F) | ((with_reducible refine gate_dst (N := 26) rfl ?_); refine ev_make rfl q100 z100 HS rfl a2 rfl rfl Try.underlying98 info100 rfl (by decide) (by decide) q100_zero (of_eq_true c11) (by have := of_eq_true c12; omega) ?_; clear HS; (try clear F); intro v13 w13 HS; obtain ⟨B13, d13, rfl, m13⟩ := HS.formn ((a2).toNat) 2 rfl (by first | rfl | simp); (try simp only [hpn, hpm] at HS); have F := HS.boxes; simp only [boxFacts, and_true] at F))
         first | exact bodyPost_ret (results_single rfl (.tmp .nil)) rfl ⟨_, rfl, HS.pick [0, 2] (by decide) (by rfl)⟩ | exact bodyPost_ret (results_single rfl (.tmp .nil)) rfl ⟨rfl, _, HS.pick [0, 2] (by decide) (by rfl)⟩
   · replace H := zneg c4 H
     replace c4 := eq_false c4
     obtain ⟨rfl, rfl⟩ := zsome2 H
     go_wp2_with (first | ((with_reducible refine gate_dst (N := 4) rfl ?_); refine ev_box rfl HS (by first | (go_simp; done) | (go_simp; rfl)) rfl ?_; clear HS; (try clear F); intro g4 w4 HS; (try simp only [hpn, hpm] at HS); have F := HS.boxes; simp only [boxFacts, and_true] at F))
     replace HS := HS.nil 100 q100
     first | exact bodyPost_ret (results_single rfl (.tmp .nil)) rfl ⟨_, rfl, HS.pick [0, 2] (by decide) (by rfl)⟩ | exact bodyPost_ret (results_single rfl (.tmp .nil)) rfl ⟨rfl, _, HS.pick [0, 2] (by decide) (by rfl)⟩
 · replace H := zneg c3 H
   have c3a := beq_eq_false_iff_ne.mpr c3
   have c3b := bne_iff_ne.mpr c3
   clear c3
   by_cases c17 : a2 < 0
   · replace H := zpos c17 H
     replace c17 := eq_true c17
     obtain ⟨rfl, rfl⟩ := zsome2 H
     go_wp2_with (first | ((with_reducible refine gate_dst (N := 4) rfl ?_); refine ev_box rfl HS (by first | (go_simp; done) | (go_simp; rfl)) rfl ?_; clear HS; (try clear F); intro g4 w4 HS; (try simp only [hpn, hpm] at HS); have F := HS.boxes; simp only [boxFacts, and_true] at F) | ((with_reducible refine gate_store (p := 23) rfl ?_); refine ev_store rfl 0 0 HS (seg := [.bool true]) rfl rfl rfl rfl rfl rfl (by kernel_rfl) (by simp [wrt]) (by simp [Value.oneCell']) ?_; clear HS; (try clear F); intro w15 HS; (try simp only [hpn, hpm] at HS); have F := HS.boxes; simp only [boxFacts, and_true] at F) | ((with_reducible refine gate_dst (N := 26) rfl ?_); refine ev_make rfl q100 z100 HS rfl (0 : Int) rfl rfl Try.underlying98 info100 rfl (by decide) (by decide) q100_zero (of_eq_true (eq_true (by decide : (0 : Int) ≤ 0))) (by have := of_eq_true (eq_true (by decide : (0 : Int).toNat ≤ 5864062014805)); omega) ?_; clear HS; (try clear F); intro v18 w18 HS; obtain ⟨B18, d18, rfl, m18⟩ := HS.formn 0 2 rfl (by first | rfl | simp); (try simp only [hpn, hpm] at HS); have F := HS.boxes; simp only [boxFacts, and_true] at F))
     first | exact bodyPost_ret (results_single rfl (.tmp .nil)) rfl ⟨_, rfl, HS.pick [0, 2] (by decide) (by rfl)⟩ | exact bodyPost_ret (results_single rfl (.tmp .nil)) rfl ⟨rfl, _, HS.pick [0, 2] (by decide) (by rfl)⟩
   · replace H := zneg c17 H
     replace c17 := eq_false c17
     by_cases c20 : 0 ≤ a2
     case neg => exact zno c20 H
     replace H := zpos c20 H
     replace c20 := eq_true c20
     by_cases c21 : (a2).toNat ≤ 5864062014805
     case neg => exact zno c21 H
     replace H := zpos c21 H
     replace c21 := eq_true c21
     obtain ⟨rfl, rfl⟩ := zsome2 H
     go_wp2_with (first | ((with_reducible refine gate_dst (N := 4) rfl ?_); refine ev_box rfl HS (by first | (go_simp; done) | (go_simp; rfl)) rfl ?_; clear HS; (try clear F); intro g4 w4 HS; (try simp only [hpn, hpm] at HS); have F := HS.boxes; simp only [boxFacts, and_true] at F) | ((with_reducible refine gate_store (p := 23) rfl ?_); refine ev_store rfl 0 0 HS (seg := [.bool true]) rfl rfl rfl rfl rfl rfl (by kernel_rfl) (by simp [wrt]) (by simp [Value.oneCell']) ?_; clear HS; (try clear F); intro w15 HS; (try simp only [hpn, hpm] at HS); have F := HS.boxes; simp only [boxFacts, and_true] at F) | ((with_reducible refine gate_dst (N := 26) rfl ?_); refine ev_make rfl q100 z100 HS rfl a2 rfl rfl Try.underlying98 info100 rfl (by decide) (by decide) q100_zero (of_eq_true c20) (by have := of_eq_true c21; omega) ?_; clear HS; (try clear F); intro v22 w22 HS; obtain ⟨B22, d22, rfl, m22⟩ := HS.formn ((a2).toNat) 2 rfl (by first | rfl | simp); (try simp only [hpn, hpm] at HS); have F := HS.boxes; simp only [boxFacts, and_true] at F))
     first | exact bodyPost_ret (results_single rfl (.tmp .nil)) rfl ⟨_, rfl, HS.pick [0, 2] (by decide) (by rfl)⟩ | exact bodyPost_ret (results_single rfl (.tmp .nil)) rfl ⟨rfl, _, HS.pick [0, 2] (by decide) (by rfl)⟩
/-! ### impl_opener_text_0: function 60 -/
def impl_opener_text_0.f (a0 : S114) (a1 : S100) (a2 : Int) : Option (ByteArray × S114) := (if a0.f0 = true then (some (a1.f1, (⟨true⟩ : S114))) else (some (a1.f1, (⟨(a1.f0 != a2)⟩ : S114))))
set_option maxHeartbeats 16000000 in
theorem impl_opener_text_0.calls {a0 : S114} {a1 : S100} {a2 : Int} {A : FP} {p0 : Nat} {Ap1 : Option Addr} {np1 cp1 : Nat} {wv : World} {r1 : ByteArray} {r2 : S114} {w : World} (h : impl_opener_text_0.f a0 a1 a2 = some (r1, r2)) (gp1 : k100.C wv Ap1 np1 a1.f2) (lp1 : np1 ≤ cp1) (hV : View A w wv) (HS : Hp A w w [.box p0 [.bool a0.f0] 114]) :
    Calls Try.prog 60 #[.pointer (some ⟨p0, 0, none⟩), .agg #[.int .i64 a1.f0, .string a1.f1, .slice Ap1 np1 cp1], .int .i64 a2] w (fun e w' => e = .returned (.string r1) ∧ Hp A w w' [.box p0 [.bool r2.f0] 114]) := by
 obtain rfl := C_len gp1
 have H := Aside0.mk h
 clear h
 unfold impl_opener_text_0.f at H
 go_enter Try.func60, Try.ntmps60
 by_cases c3 : a0.f0 = true
 · replace H := zpos c3 H
   obtain ⟨rfl, rfl⟩ := zsome2 H
   go_wp2_with (first | ((with_reducible refine gate_dst (N := 4) rfl ?_); refine ev_box rfl HS (by first | (go_simp; done) | (go_simp; rfl)) rfl ?_; clear HS; (try clear F); intro g4 w4 HS; (try simp only [hpn, hpm] at HS); have F := HS.boxes; simp only [boxFacts, and_true] at F; (try simp only [c3])) | ((with_reducible refine gate_store (p := 19) rfl ?_); refine ev_store rfl 0 0 HS (seg := [.bool true]) rfl rfl rfl rfl rfl rfl (by kernel_rfl) (by simp [wrt]) (by simp [Value.oneCell']) ?_; clear HS; (try clear F); intro w4 HS; (try simp only [hpn, hpm] at HS); have F := HS.boxes; simp only [boxFacts, and_true] at F))
   go_ret
   exact ⟨rfl, HS.pick [0] (by decide) (by rfl)⟩
 · replace H := zneg c3 H
   replace c3 := eq_false_of_ne_true c3
   obtain ⟨rfl, rfl⟩ := zsome2 H
   go_wp2_with (first | ((with_reducible refine gate_dst (N := 4) rfl ?_); refine ev_box rfl HS (by first | (go_simp; done) | (go_simp; rfl)) rfl ?_; clear HS; (try clear F); intro g4 w4 HS; (try simp only [hpn, hpm] at HS); have F := HS.boxes; simp only [boxFacts, and_true] at F; (try simp only [c3])) | ((with_reducible refine gate_store (p := 19) rfl ?_); refine ev_store rfl 0 0 HS (seg := [.bool (a1.f0 != a2)]) rfl rfl rfl rfl rfl rfl (by kernel_rfl) (by simp [wrt]) (by simp [Value.oneCell']) ?_; clear HS; (try clear F); intro w6 HS; (try simp only [hpn, hpm] at HS); have F := HS.boxes; simp only [boxFacts, and_true] at F))
   go_ret
   exact ⟨rfl, HS.pick [0] (by decide) (by rfl)⟩
/-! ### impl_IntItem: function 149 -/
mutual
def impl_IntItem.l0 : Nat → (List Int) → Int → Option (S100)
  | 0, _, _ => none
  | k + 1, l19, x21 => (if 0 < x21 then (if 1 + l19.length ≤ 140737488355328 then (lets (([(x21 % 256)] : List Int) ++ l19) fun y27 => (impl_IntItem.l0 k y27 (x21 / 256))) else none) else (if 0 < (l19.length : Int) then (if 128 ≤ (rd l19 0) then (if 1 + l19.length ≤ 140737488355328 then (lets (([0] : List Int) ++ l19) fun y35 => (some (⟨2, (strOfNums y35), ([] : List S100)⟩ : S100))) else none) else (some (⟨2, (strOfNums l19), ([] : List S100)⟩ : S100))) else none))
def impl_IntItem.l1 : Nat → (List Int) → Int → Option (S100)
  | 0, _, _ => none
  | k + 1, l54, x56 => (if 0 < x56 then (if 1 + l54.length ≤ 140737488355328 then (lets (([(x56 % 256)] : List Int) ++ l54) fun y62 => (impl_IntItem.l1 k y62 (x56 / 256))) else none) else (if 0 < (l54.length : Int) then (if 128 ≤ (rd l54 0) then (if 1 + l54.length ≤ 140737488355328 then (lets (([0] : List Int) ++ l54) fun y70 => (some (⟨2, (strOfNums y70), ([] : List S100)⟩ : S100))) else none) else (some (⟨2, (strOfNums l54), ([] : List S100)⟩ : S100))) else none))
end
def impl_IntItem.f (k : Nat) (a0 : Int) : Option (S100) := ((impl_within.f a0 0 1000000000).bind fun t3 => (if t3 = true then (impl_IntItem.l0 k ([(a0 % 256)] : List Int) (a0 / 256)) else (impl_IntItem.l1 k ([0] : List Int) (0 / 256))))
set_option maxHeartbeats 16000000 in
theorem impl_IntItem.calls {k : Nat} {a0 : Int} {r : S100} {w : World} (h : impl_IntItem.f k a0 = some r) :
    Calls Try.prog 149 #[.int .i64 a0] w (fun e w' => ∃ v0_ : Value, e = .returned (.agg #[.int .i64 r.f0, .string r.f1, v0_]) ∧ Hp noFP w w' [.own (Zd.slice 100 q100) r.f2 [v0_]]) := by
 have HS := Hp.start w
 have H := Aside0.mk h
 clear h
 unfold impl_IntItem.f at H
 go_enter Try.func149, Try.ntmps149
 replace H := zbind H; obtain ⟨t3, ht3, H⟩ := H
 go_upto_if 6 with (first | ((with_reducible refine gate_dst (N := 2) rfl ?_); refine ev_box rfl HS (by first | (go_simp; done) | (go_simp; rfl)) rfl ?_; clear HS; (try clear F); intro g2 w2 HS; (try simp only [hpn, hpm] at HS); have F := HS.boxes; simp only [boxFacts, and_true] at F) | ((with_reducible refine gate_dst (N := 5) rfl ?_); refine ev_call rfl Try.func78 (by kernel_rfl) rfl #[.int .i64 a0, .int .i64 0, .int .i64 1000000000] rfl (by simp only [List.map_toArray, List.map_cons, List.map_nil]; rfl) ?_; refine (impl_within.calls ht3.out).mono ?_; rintro _ wt3 ⟨rfl, HQ⟩; refine ⟨_, rfl, ?_⟩; replace HS := HS.call HQ; clear HQ; (try clear F); (try simp only [hpn, hpm] at HS); have F := HS.boxes; simp only [boxFacts, and_true] at F))
 by_cases c5 : t3 = true
 · replace H := zpos c5 H
   subst c5
   (try simp only [dcn, if_true, Bool.false_eq_true, if_false])
   go_wp2_with (first | ((with_reducible refine gate_dst (N := 9) rfl ?_); refine ev_lit rfl (Zd.int .u8) [] ([(a0 % 256)] : List Int) ([.int .u8 (a0 % 256)] ++ []) HS (by first | (go_simp; done) | (go_simp; rfl)) rfl rfl (Nat.le_of_ble_eq_true rfl) (MadeL.cons (js1 := []) (c := [.int .u8 (a0 % 256)]) rfl (made_flat (fun _ => rfl)) MadeL.nil (by decide)) ?_; clear HS; (try clear F); intro v6 w6 HS; obtain ⟨B6, d6, rfl, m6⟩ := HS.formn 1 1 rfl rfl; (try simp only [hpn, hpm] at HS); have F := HS.boxes; simp only [boxFacts, and_true] at F))
   go_loopg [0, 3] k (fun kq v_0 v_3 w' => ∃ (l19 : List Int) (v20 : Value) (x21 : Int), v_0 = .int .i64 x21 ∧ v_3 = v20 ∧ Aside0 (impl_IntItem.l0 kq l19 x21 = some r) ∧ Aside0 (kq ≤ k) ∧ Hp noFP w w' [.box g2 [.int .i64 0, .string (⟨#[]⟩ : ByteArray), .slice none 0 0] 100, .own (Zd.slice 5 (Zd.int .u8)) l19 [v20]])
   case atStart => exact ⟨_, _, _, rfl, rfl, H, ⟨Nat.le_refl _⟩, HS⟩
   case round =>
    clear HS H; (try clear F)
    obtain ⟨l19, v20, x21, rfl, rfl, H, HKk18, HS⟩ := hrel
    obtain ⟨B20, d20, rfl, m20⟩ := HS.form 1 rfl
    have F := HS.boxes; simp only [boxFacts, and_true] at F
    cases gk with
    | zero => exact absurd H.out (by simp [impl_IntItem.l0])
    | succ k18 =>
     simp only [impl_IntItem.l0] at H
     by_cases c23 : 0 < x21
     · replace H := zpos c23 H
       replace c23 := eq_true c23
       by_cases c26 : 1 + l19.length ≤ 140737488355328
       case neg => exact zno c26 H
       replace H := zpos c26 H
       replace c26 := eq_true c26
       replace H := zlets H; obtain ⟨y27, e_y27, H⟩ := H
       go_wp2_with (first | ((with_reducible refine gate_dst (N := 18) rfl ?_); refine ev_lit rfl (Zd.int .u8) [] ([(x21 % 256)] : List Int) ([.int .u8 (x21 % 256)] ++ []) HS (by first | (go_simp; done) | (go_simp; rfl)) rfl rfl (Nat.le_of_ble_eq_true rfl) (MadeL.cons (js1 := []) (c := [.int .u8 (x21 % 256)]) rfl (made_flat (fun _ => rfl)) MadeL.nil (by decide)) ?_; clear HS; (try clear F); intro v24 w24 HS; obtain ⟨B24, d24, rfl, m24⟩ := HS.formn 1 2 rfl rfl; (try simp only [hpn, hpm] at HS); have F := HS.boxes; simp only [boxFacts, and_true] at F) | ((with_reducible refine gate_dst (N := 20) rfl ?_); refine ev_appendr rfl (Zd.int .u8) (flat_int _) 2 HS rfl (HS.rd 1 rfl) rfl rfl rfl Try.underlying210 info5 rfl (by decide) (by decide) (by have := of_eq_true c26; first | omega | (simp only [List.length_cons, List.length_nil, List.length_append, Nat.zero_add] at this ⊢; omega)) ?_; clear HS; (try clear F); intro v27 w27 HS; rw [← e_y27.out] at HS; obtain ⟨B27, d27, rfl, m27⟩ := HS.form 3 rfl; (try simp only [hpn, hpm] at HS); have F := HS.boxes; simp only [boxFacts, and_true] at F))
       go_roundg k18
       case measure => have := HKk18.out; omega
       case rel => exact ⟨_, _, _, rfl, rfl, H, ⟨by have := HKk18.out; omega⟩, HS.pick [0, 3] (by decide) (by rfl)⟩
     · replace H := zneg c23 H
       replace c23 := eq_false c23
       by_cases c29 : 0 < (l19.length : Int)
       case neg => exact zno c29 H
       replace H := zpos c29 H
       replace c29 := eq_true c29
       have c29n : (0 < l19.length) = True := eq_true (by have := of_eq_true c29; omega)
       obtain ⟨ad30, rfl, e30_0⟩ := Kd.at_int (HS.rd 1 rfl) 0 (of_eq_true (eq_true (by decide))) (of_eq_true c29)
       (try (have e30_0' := e30_0; simp only [Int.toNat_zero, Int.reduceToNat, Int.toNat_natCast, Nat.zero_mul, Nat.one_mul, Nat.zero_add, Nat.add_zero, Addr.add_zero', Addr.add_succ', Nat.reduceMul, Nat.reduceAdd] at e30_0'))
       by_cases c31 : 128 ≤ (rd l19 0)
       · replace H := zpos c31 H
         replace c31 := eq_true c31
         by_cases c34 : 1 + l19.length ≤ 140737488355328
         case neg => exact zno c34 H
         replace H := zpos c34 H
         replace c34 := eq_true c34
         replace H := zlets H; obtain ⟨y35, e_y35, H⟩ := H
         obtain rfl := zsome H
         go_wp2_with (first | ((with_reducible refine gate_dst (N := 25) rfl ?_); refine ev_lit rfl (Zd.int .u8) [] ([0] : List Int) ([.int .u8 0] ++ []) HS (by first | (go_simp; done) | (go_simp; rfl)) rfl rfl (Nat.le_of_ble_eq_true rfl) (MadeL.cons (js1 := []) (c := [.int .u8 0]) rfl (made_flat (fun _ => rfl)) MadeL.nil (by decide)) ?_; clear HS; (try clear F); intro v32 w32 HS; obtain ⟨B32, d32, rfl, m32⟩ := HS.formn 1 2 rfl rfl; (try simp only [hpn, hpm] at HS); have F := HS.boxes; simp only [boxFacts, and_true] at F) | ((with_reducible refine gate_dst (N := 27) rfl ?_); refine ev_appendr rfl (Zd.int .u8) (flat_int _) 2 HS rfl (HS.rd 1 rfl) rfl rfl rfl Try.underlying210 info5 rfl (by decide) (by decide) (by have := of_eq_true c34; first | omega | (simp only [List.length_cons, List.length_nil, List.length_append, Nat.zero_add] at this ⊢; omega)) ?_; clear HS; (try clear F); intro v35 w35 HS; rw [← e_y35.out] at HS; obtain ⟨B35, d35, rfl, m35⟩ := HS.form 3 rfl; (try simp only [hpn, hpm] at HS); have F := HS.boxes; simp only [boxFacts, and_true] at F) | ((with_reducible refine gate_dst (N := 29) rfl ?_); refine ev_val rfl (run_str rfl rfl Try.underlying210 Try.underlying5 Try.underlying9 (HS.rd 3 rfl)) ?_) | ((with_reducible refine gate_store (p := 2) rfl ?_); refine ev_store rfl 0 0 HS (seg := [.int .i64 2, .string (strOfNums y35), .slice none 0 0]) rfl rfl rfl rfl rfl rfl (by kernel_rfl) (by simp [wrt]) (by simp [Value.oneCell']) ?_; clear HS; (try clear F); intro w37 HS; (try simp only [hpn, hpm] at HS); have F := HS.boxes; simp only [boxFacts, and_true] at F))
         replace HS := HS.nil 100 q100
         exact bodyPost_ret (results_single rfl (.cell _ _ _ _ _ rfl (HS.boxAt (i := 0) rfl) Try.underlying100 rfl (by kernel_rfl) .nil)) rfl ⟨_, rfl, HS.pick [4] (by decide) (by rfl)⟩
       · replace H := zneg c31 H
         replace c31 := eq_false c31
         obtain rfl := zsome H
         go_wp2_with (first | ((with_reducible refine gate_dst (N := 29) rfl ?_); refine ev_val rfl (run_str rfl rfl Try.underlying210 Try.underlying5 Try.underlying9 (HS.rd 1 rfl)) ?_) | ((with_reducible refine gate_store (p := 2) rfl ?_); refine ev_store rfl 0 0 HS (seg := [.int .i64 2, .string (strOfNums l19), .slice none 0 0]) rfl rfl rfl rfl rfl rfl (by kernel_rfl) (by simp [wrt]) (by simp [Value.oneCell']) ?_; clear HS; (try clear F); intro w39 HS; (try simp only [hpn, hpm] at HS); have F := HS.boxes; simp only [boxFacts, and_true] at F))
         replace HS := HS.nil 100 q100
         exact bodyPost_ret (results_single rfl (.cell _ _ _ _ _ rfl (HS.boxAt (i := 0) rfl) Try.underlying100 rfl (by kernel_rfl) .nil)) rfl ⟨_, rfl, HS.pick [2] (by decide) (by rfl)⟩
 · replace H := zneg c5 H
   replace c5 := eq_false_of_ne_true c5
   subst c5
   (try simp only [dcn, if_true, Bool.false_eq_true, if_false])
   go_wp2_with (first | ((with_reducible refine gate_dst (N := 9) rfl ?_); refine ev_lit rfl (Zd.int .u8) [] ([0] : List Int) ([.int .u8 0] ++ []) HS (by first | (go_simp; done) | (go_simp; rfl)) rfl rfl (Nat.le_of_ble_eq_true rfl) (MadeL.cons (js1 := []) (c := [.int .u8 0]) rfl (made_flat (fun _ => rfl)) MadeL.nil (by decide)) ?_; clear HS; (try clear F); intro v41 w41 HS; obtain ⟨B41, d41, rfl, m41⟩ := HS.formn 1 1 rfl rfl; (try simp only [hpn, hpm] at HS); have F := HS.boxes; simp only [boxFacts, and_true] at F))
   go_loopg [0, 3] k (fun kq v_0 v_3 w' => ∃ (l54 : List Int) (v55 : Value) (x56 : Int), v_0 = .int .i64 x56 ∧ v_3 = v55 ∧ Aside0 (impl_IntItem.l1 kq l54 x56 = some r) ∧ Aside0 (kq ≤ k) ∧ Hp noFP w w' [.box g2 [.int .i64 0, .string (⟨#[]⟩ : ByteArray), .slice none 0 0] 100, .own (Zd.slice 5 (Zd.int .u8)) l54 [v55]])
   case atStart => exact ⟨_, _, _, rfl, rfl, H, ⟨Nat.le_refl _⟩, HS⟩
   case round =>
    clear HS H; (try clear F)
    obtain ⟨l54, v55, x56, rfl, rfl, H, HKk53, HS⟩ := hrel
    obtain ⟨B55, d55, rfl, m55⟩ := HS.form 1 rfl
    have F := HS.boxes; simp only [boxFacts, and_true] at F
    cases gk with
    | zero => exact absurd H.out (by simp [impl_IntItem.l1])
    | succ k53 =>
     simp only [impl_IntItem.l1] at H
     by_cases c58 : 0 < x56
     · replace H := zpos c58 H
       replace c58 := eq_true c58
       by_cases c61 : 1 + l54.length ≤ 140737488355328
       case neg => exact zno c61 H
       replace H := zpos c61 H
       replace c61 := eq_true c61
       replace H := zlets H; obtain ⟨y62, e_y62, H⟩ := H
       go_wp2_with (first | ((with_reducible refine gate_dst (N := 18) rfl ?_); refine ev_lit rfl (Zd.int .u8) [] ([(x56 % 256)] : List Int) ([.int .u8 (x56 % 256)] ++ []) HS (by first | (go_simp; done) | (go_simp; rfl)) rfl rfl (Nat.le_of_ble_eq_true rfl) (MadeL.cons (js1 := []) (c := [.int .u8 (x56 % 256)]) rfl (made_flat (fun _ => rfl)) MadeL.nil (by decide)) ?_; clear HS; (try clear F); intro v59 w59 HS; obtain ⟨B59, d59, rfl, m59⟩ := HS.formn 1 2 rfl rfl; (try simp only [hpn, hpm] at HS); have F := HS.boxes; simp only [boxFacts, and_true] at F) | ((with_reducible refine gate_dst (N := 20) rfl ?_); refine ev_appendr rfl (Zd.int .u8) (flat_int _) 2 HS rfl (HS.rd 1 rfl) rfl rfl rfl Try.underlying210 info5 rfl (by decide) (by decide) (by have := of_eq_true c61; first | omega | (simp only [List.length_cons, List.length_nil, List.length_append, Nat.zero_add] at this ⊢; omega)) ?_; clear HS; (try clear F); intro v62 w62 HS; rw [← e_y62.out] at HS; obtain ⟨B62, d62, rfl, m62⟩ := HS.form 3 rfl; (try simp only [hpn, hpm] at HS); have F := HS.boxes; simp only [boxFacts, and_true] at F))
       go_roundg k53
       case measure => have := HKk53.out; omega
       case rel => exact ⟨_, _, _, rfl, rfl, H, ⟨by have := HKk53.out; omega⟩, HS.pick [0, 3] (by decide) (by rfl)⟩
     · replace H := zneg c58 H
       replace c58 := eq_false c58
       by_cases c64 : 0 < (l54.length : Int)
       case neg => exact zno c64 H
       replace H := zpos c64 H
       replace c64 := eq_true c64
       have c64n : (0 < l54.length) = True := eq_true (by have := of_eq_true c64; omega)
       obtain ⟨ad65, rfl, e65_0⟩ := Kd.at_int (HS.rd 1 rfl) 0 (of_eq_true (eq_true (by decide))) (of_eq_true c64)
       (try (have e65_0' := e65_0; simp only [Int.toNat_zero, Int.reduceToNat, Int.toNat_natCast, Nat.zero_mul, Nat.one_mul, Nat.zero_add, Nat.add_zero, Addr.add_zero', Addr.add_succ', Nat.reduceMul, Nat.reduceAdd] at e65_0'))
       by_cases c66 : 128 ≤ (rd l54 0)
       · replace H := zpos c66 H
         replace c66 := eq_true c66
         by_cases c69 : 1 + l54.length ≤ 140737488355328
         case neg => exact zno c69 H
         replace H := zpos c69 H
         replace c69 := eq_true c69
         replace H := zlets H; obtain ⟨y70, e_y70, H⟩ := H
         obtain rfl := zsome H
         go_wp2_with (first | ((with_reducible refine gate_dst (N := 25) rfl ?_); refine ev_lit rfl (Zd.int .u8) [] ([0] : List Int) ([.int .u8 0] ++ []) HS (by first | (go_simp; done) | (go_simp; rfl)) rfl rfl (Nat.le_of_ble_eq_true rfl) (MadeL.cons (js1 := []) (c := [.int .u8 0]) rfl (made_flat (fun _ => rfl)) MadeL.nil (by decide)) ?_; clear HS; (try clear F); intro v67 w67 HS; obtain ⟨B67, d67, rfl, m67⟩ := HS.formn 1 2 rfl rfl; (try simp only [hpn, hpm] at HS); have F := HS.boxes; simp only [boxFacts, and_true] at F) | ((with_reducible refine gate_dst (N := 27) rfl ?_); refine ev_appendr rfl (Zd.int .u8) (flat_int _) 2 HS rfl (HS.rd 1 rfl) rfl rfl rfl Try.underlying210 info5 rfl (by decide) (by decide) (by have := of_eq_true c69; first | omega | (simp only [List.length_cons, List.length_nil, List.length_append, Nat.zero_add] at this ⊢; omega)) ?_; clear HS; (try clear F); intro v70 w70 HS; rw [← e_y70.out] at HS; obtain ⟨B70, d70, rfl, m70⟩ := HS.form 3 rfl; (try simp only [hpn, hpm] at HS); have F := HS.boxes; simp only [boxFacts, and_true] at F) | ((with_reducible refine gate_dst (N := 29) rfl ?_); refine ev_val rfl (run_str rfl rfl Try.underlying210 Try.underlying5 Try.underlying9 (HS.rd 3 rfl)) ?_) | ((with_reducible refine gate_store (p := 2) rfl ?_); refine ev_store rfl 0 0 HS (seg := [.int .i64 2, .string (strOfNums y70), .slice none 0 0]) rfl rfl rfl rfl rfl rfl (by kernel_rfl) (by simp [wrt]) (by simp [Value.oneCell']) ?_; clear HS; (try clear F); intro w72 HS; (try simp only [hpn, hpm] at HS); have F := HS.boxes; simp only [boxFacts, and_true] at F))
         replace HS := HS.nil 100 q100
         exact bodyPost_ret (results_single rfl (.cell _ _ _ _ _ rfl (HS.boxAt (i := 0) rfl) Try.underlying100 rfl (by kernel_rfl) .nil)) rfl ⟨_, rfl, HS.pick [4] (by decide) (by rfl)⟩
       · replace H := zneg c66 H
         replace c66 := eq_false c66
         obtain rfl := zsome H
         go_wp2_with (first | ((with_reducible refine gate_dst (N := 29) rfl ?_); refine ev_val rfl (run_str rfl rfl Try.underlying210 Try.underlying5 Try.underlying9 (HS.rd 1 rfl)) ?_) | ((with_reducible refine gate_store (p := 2) rfl ?_); refine ev_store rfl 0 0 HS (seg := [.int .i64 2, .string (strOfNums l54), .slice none 0 0]) rfl rfl rfl rfl rfl rfl (by kernel_rfl) (by simp [wrt]) (by simp [Value.oneCell']) ?_; clear HS; (try clear F); intro w74 HS; (try simp only [hpn, hpm] at HS); have F := HS.boxes; simp only [boxFacts, and_true] at F))
         replace HS := HS.nil 100 q100
         exact bodyPost_ret (results_single rfl (.cell _ _ _ _ _ rfl (HS.boxAt (i := 0) rfl) Try.underlying100 rfl (by kernel_rfl) .nil)) rfl ⟨_, rfl, HS.pick [2] (by decide) (by rfl)⟩
/-! ### impl_SameItem: function 160 -/
mutual
def impl_SameItem.f : Nat → S100 → S100 → Option (Bool)
  | 0, _, _ => none
  | k + 1, a0, a1 => (if a0.f0 = a1.f0 then (if a0.f1.toList = a1.f1.toList then ((impl_SameItem_impl_Item.f k a0.f2 a1.f2).bind fun t7 => (some t7)) else (some false)) else (some false))
def impl_SameItem_impl_Item.l0 : Nat → Int → (List S100) → (List S100) → Option (Bool)
  | 0, _, _, _ => none
  | k + 1, x5, a0, a1 => (if x5 < (a0.length : Int) then (if 0 ≤ x5 then (if x5 < (a0.length : Int) then (if x5 < (a1.length : Int) then ((impl_SameItem.f k (rd_T100 a0 x5) (rd_T100 a1 x5)).bind fun t21 => (if t21 = true then (impl_SameItem_impl_Item.l0 k (wrap64 (x5 + 1)) a0 a1) else (some false))) else none) else none) else none) else (some true))
def impl_SameItem_impl_Item.f : Nat → (List S100) → (List S100) → Option (Bool)
  | 0, _, _ => none
  | k + 1, a0, a1 => (if (a0.length : Int) = (a1.length : Int) then (impl_SameItem_impl_Item.l0 k 0 a0 a1) else (some false))
end
set_option maxHeartbeats 16000000 in
theorem impl_SameItem_impl_Item.calls_ {K : Nat} (IH : ∀ {k : Nat} (hK : k ≤ K) {a0 : S100} {a1 : S100} {Ap0 : Option Addr} {np0 cp0 : Nat} {Ap1 : Option Addr} {np1 cp1 : Nat} {r : Bool} {w : World} (h : impl_SameItem.f k a0 a1 = some r) (gp0 : k100.C w Ap0 np0 a0.f2) (lp0 : np0 ≤ cp0) (gp1 : k100.C w Ap1 np1 a1.f2) (lp1 : np1 ≤ cp1), Calls Try.prog 160 #[.agg #[.int .i64 a0.f0, .string a0.f1, .slice Ap0 np0 cp0], .agg #[.int .i64 a1.f0, .string a1.f1, .slice Ap1 np1 cp1]] w (fun e w' => e = .returned (.bool r) ∧ Hp noFP w w' [])) : ∀ {k : Nat} (hK : k ≤ K) {a0 : (List S100)} {a1 : (List S100)} {Ap0 : Option Addr} {np0 cp0 : Nat} {Ap1 : Option Addr} {np1 cp1 : Nat} {r : Bool} {w : World} (h : impl_SameItem_impl_Item.f k a0 a1 = some r) (gp0 : k100.C w Ap0 np0 a0) (lp0 : np0 ≤ cp0) (gp1 : k100.C w Ap1 np1 a1) (lp1 : np1 ≤ cp1),
    Calls Try.prog 182 #[.slice Ap0 np0 cp0, .slice Ap1 np1 cp1, .func (.func 160) #[] #[]] w (fun e w' => e = .returned (.bool r) ∧ Hp noFP w w' []) := by
  intro k hK a0 a1 Ap0 np0 cp0 Ap1 np1 cp1 r w h gp0 lp0 gp1 lp1
  cases k with
  | zero => exact absurd h (by simp [impl_SameItem_impl_Item.f])
  | succ k =>
  have HK0 : Aside0 (k ≤ K) := ⟨by omega⟩
  clear hK
  obtain rfl := C_len gp0
  obtain rfl := C_len gp1
  have HS := Hp.start w
  have H := Aside0.mk h
  clear h
  simp only [impl_SameItem_impl_Item.f] at H
  go_enter Try.func182, Try.ntmps182
  by_cases c1 : (a0.length : Int) = (a1.length : Int)
  · replace H := zpos c1 H
    have c1a := beq_iff_eq.mpr c1
    have c1b := bne_eq_false_iff_eq.mpr c1
    clear c1
    go_wp2
    go_loopg [17] k (fun kq v_17 w' => ∃ (x5 : Int), v_17 = .int .i64 x5 ∧ Aside0 (impl_SameItem_impl_Item.l0 kq x5 a0 a1 = some r) ∧ Aside0 (kq ≤ k) ∧ Hp noFP w w' [])
    case atStart => exact ⟨_, rfl, H, ⟨Nat.le_refl _⟩, HS⟩
    case round =>
     clear HS H; (try clear F)
     obtain ⟨x5, rfl, H, HKk4, HS⟩ := hrel
     cases gk with
     | zero => exact absurd H.out (by simp [impl_SameItem_impl_Item.l0])
     | succ k4 =>
      simp only [impl_SameItem_impl_Item.l0] at H
      by_cases c7 : x5 < (a0.length : Int)
      · replace H := zpos c7 H
        replace c7 := eq_true c7
        by_cases c8 : 0 ≤ x5
        case neg => exact zno c8 H
        replace H := zpos c8 H
        replace c8 := eq_true c8
        by_cases c9 : x5 < (a0.length : Int)
        case neg => exact zno c9 H
        replace H := zpos c9 H
        replace c9 := eq_true c9
        obtain ⟨ad10, B10_2, d10_2, rfl, e10_0, e10_1, e10_2, m10_2, y10_2⟩ := at_T100 gp0 x5 (of_eq_true c8) (of_eq_true c9)
        have e10_0_10 := (HS.keepc e10_0)
        have e10_1_10 := (HS.keepc e10_1)
        have e10_2_10 := (HS.keepc e10_2)
        by_cases c15 : x5 < (a1.length : Int)
        case neg => exact zno c15 H
        replace H := zpos c15 H
        replace c15 := eq_true c15
        replace H := zbind H; obtain ⟨t21, ht21, H⟩ := H
        go_upto_if 30 with (first | ((with_reducible refine gate_dst (N := 8) rfl ?_); refine ev_box rfl HS (by first | (go_simp; done) | (go_simp; rfl)) rfl ?_; clear HS; (try clear F); intro g8 w8 HS; (try simp only [hpn, hpm] at HS); have F := HS.boxes; simp only [boxFacts, and_true] at F) | ((with_reducible refine gate_store (p := 8) rfl ?_); refine ev_store rfl 0 0 HS (seg := [.int .i64 ((rd_T100 a0 x5).f0), .string ((rd_T100 a0 x5).f1), .slice B10_2 (rd_T100 a0 x5).f2.length d10_2]) rfl rfl rfl rfl rfl rfl (by kernel_rfl) (by simp [wrt]) (by simp [Value.oneCell']) ?_; clear HS; (try clear F); intro w13 HS; (try simp only [hpn, hpm] at HS); have F := HS.boxes; simp only [boxFacts, and_true] at F; obtain ⟨ad16, B16_2, d16_2, rfl, e16_0, e16_1, e16_2, m16_2, y16_2⟩ := at_T100 gp1 x5 (of_eq_true c8) (of_eq_true c15); have e16_0_16 := (HS.keepc e16_0); have e16_1_16 := (HS.keepc e16_1); have e16_2_16 := (HS.keepc e16_2)) | ((with_reducible refine gate_dst (N := 9) rfl ?_); refine ev_box rfl HS (by first | (go_simp; done) | (go_simp; rfl)) rfl ?_; clear HS; (try clear F); intro g9 w9 HS; (try simp only [hpn, hpm] at HS); have F := HS.boxes; simp only [boxFacts, and_true] at F) | ((with_reducible refine gate_store (p := 9) rfl ?_); refine ev_store rfl 1 0 HS (seg := [.int .i64 ((rd_T100 a1 x5).f0), .string ((rd_T100 a1 x5).f1), .slice B16_2 (rd_T100 a1 x5).f2.length d16_2]) rfl rfl rfl rfl rfl rfl (by kernel_rfl) (by simp [wrt]) (by simp [Value.oneCell']) ?_; clear HS; (try clear F); intro w19 HS; (try simp only [hpn, hpm] at HS); have F := HS.boxes; simp only [boxFacts, and_true] at F) | ((with_reducible refine gate_dst (N := 29) rfl ?_); refine ev_callv rfl Try.func160 (by kernel_rfl) rfl #[.agg #[.int .i64 ((rd_T100 a0 x5).f0), .string ((rd_T100 a0 x5).f1), .slice B10_2 (rd_T100 a0 x5).f2.length d10_2], .agg #[.int .i64 ((rd_T100 a1 x5).f0), .string ((rd_T100 a1 x5).f1), .slice B16_2 (rd_T100 a1 x5).f2.length d16_2]] #[.agg #[.int .i64 ((rd_T100 a0 x5).f0), .string ((rd_T100 a0 x5).f1), .slice B10_2 (rd_T100 a0 x5).f2.length d10_2], .agg #[.int .i64 ((rd_T100 a1 x5).f0), .string ((rd_T100 a1 x5).f1), .slice B16_2 (rd_T100 a1 x5).f2.length d16_2]] rfl rfl (by simp only [List.map_toArray, List.map_cons, List.map_nil]; rfl) (by first | rfl | simp) ?_; refine (IH (by have := HK0.out; have := HKk4.out; omega) ht21.out (HS.ro y10_2) m10_2 (HS.ro y16_2) m16_2).mono ?_; rintro _ wt21 ⟨rfl, HQ⟩; refine ⟨_, rfl, ?_⟩; replace HS := HS.call HQ; clear HQ; (try clear F); (try simp only [hpn, hpm] at HS); have F := HS.boxes; simp only [boxFacts, and_true] at F))
        by_cases c23 : t21 = true
        · replace H := zpos c23 H
          subst c23
          (try simp only [dcn, if_true, Bool.false_eq_true, if_false])
          go_wp2
          go_roundg k4
          case measure => have := HK0.out; have := HKk4.out; omega
          case rel => exact ⟨_, rfl, H, ⟨by have := HK0.out; have := HKk4.out; omega⟩, HS.pick [] (by decide) (by rfl)⟩
        · replace H := zneg c23 H
          replace c23 := eq_false_of_ne_true c23
          subst c23
          (try simp only [dcn, if_true, Bool.false_eq_true, if_false])
          obtain rfl := zsome H
          go_wp2
          go_ret
          exact ⟨rfl, HS.pick [] (by decide) (by rfl)⟩
      · replace H := zneg c7 H
        replace c7 := eq_false c7
        obtain rfl := zsome H
        go_wp2
        go_ret
        exact ⟨rfl, HS.pick [] (by decide) (by rfl)⟩
  · replace H := zneg c1 H
    have c1a := beq_eq_false_iff_ne.mpr c1
    have c1b := bne_iff_ne.mpr c1
    clear c1
    obtain rfl := zsome H
    go_wp2
    go_ret
    exact ⟨rfl, HS.pick [] (by decide) (by rfl)⟩
set_option maxHeartbeats 16000000 in
theorem impl_SameItem.calls_ (K : Nat) : ∀ {k : Nat} (hK : k ≤ K) {a0 : S100} {a1 : S100} {Ap0 : Option Addr} {np0 cp0 : Nat} {Ap1 : Option Addr} {np1 cp1 : Nat} {r : Bool} {w : World} (h : impl_SameItem.f k a0 a1 = some r) (gp0 : k100.C w Ap0 np0 a0.f2) (lp0 : np0 ≤ cp0) (gp1 : k100.C w Ap1 np1 a1.f2) (lp1 : np1 ≤ cp1),
    Calls Try.prog 160 #[.agg #[.int .i64 a0.f0, .string a0.f1, .slice Ap0 np0 cp0], .agg #[.int .i64 a1.f0, .string a1.f1, .slice Ap1 np1 cp1]] w (fun e w' => e = .returned (.bool r) ∧ Hp noFP w w' []) := by
  induction K with
  | zero =>
    intro k hK a0 a1 Ap0 np0 cp0 Ap1 np1 cp1 r w h gp0 lp0 gp1 lp1
    obtain rfl : k = 0 := by omega
    exact absurd h (by simp [impl_SameItem.f])
  | succ K IH =>
    intro k hK a0 a1 Ap0 np0 cp0 Ap1 np1 cp1 r w h gp0 lp0 gp1 lp1
    cases k with
    | zero => exact absurd h (by simp [impl_SameItem.f])
    | succ k =>
    have HK0 : Aside0 (k ≤ K) := ⟨by omega⟩
    clear hK
    obtain rfl := C_len gp0
    obtain rfl := C_len gp1
    have HS := Hp.start w
    have H := Aside0.mk h
    clear h
    simp only [impl_SameItem.f] at H
    go_enter Try.func160, Try.ntmps160
    by_cases c5 : a0.f0 = a1.f0
    · replace H := zpos c5 H
      have c5a := beq_iff_eq.mpr c5
      have c5b := bne_eq_false_iff_eq.mpr c5
      clear c5
      by_cases c6 : a0.f1.toList = a1.f1.toList
      · replace H := zpos c6 H
        have c6a := beq_iff_eq.mpr c6
        have c6b := bne_eq_false_iff_eq.mpr c6
        clear c6
        replace H := zbind H; obtain ⟨t7, ht7, H⟩ := H
        obtain rfl := zsome H
        go_wp2_with (first | ((with_reducible refine gate_dst (N := 2) rfl ?_); refine ev_box rfl HS (by first | (go_simp; done) | (go_simp; rfl)) rfl ?_; clear HS; (try clear F); intro g2 w2 HS; (try simp only [hpn, hpm] at HS); have F := HS.boxes; simp only [boxFacts, and_true] at F) | ((with_reducible refine gate_dst (N := 3) rfl ?_); refine ev_box rfl HS (by first | (go_simp; done) | (go_simp; rfl)) rfl ?_; clear HS; (try clear F); intro g3 w3 HS; (try simp only [hpn, hpm] at HS); have F := HS.boxes; simp only [boxFacts, and_true] at F) | ((with_reducible refine gate_dst (N := 22) rfl ?_); refine gate_guard (by rfl) ?_; refine ev_call rfl Try.func182 (by kernel_rfl) rfl #[.slice Ap0 a0.f2.length cp0, .slice Ap1 a1.f2.length cp1, .func (.func 160) #[] #[]] rfl (by simp only [List.map_toArray, List.map_cons, List.map_nil]; rfl) ?_; refine (impl_SameItem_impl_Item.calls_ IH (by have := HK0.out; omega) ht7.out (HS.ro gp0) lp0 (HS.ro gp1) lp1).mono ?_; rintro _ wt7 ⟨rfl, HQ⟩; refine ⟨_, rfl, ?_⟩; replace HS := HS.call HQ; clear HQ; (try clear F); (try simp only [hpn, hpm] at HS); have F := HS.boxes; simp only [boxFacts, and_true] at F))
        go_ret
        exact ⟨rfl, HS.pick [] (by decide) (by rfl)⟩
      · replace H := zneg c6 H
        have c6a := beq_eq_false_iff_ne.mpr c6
        have c6b := bne_iff_ne.mpr c6
        clear c6
        obtain rfl := zsome H
        go_wp2_with (first | ((with_reducible refine gate_dst (N := 2) rfl ?_); refine ev_box rfl HS (by first | (go_simp; done) | (go_simp; rfl)) rfl ?_; clear HS; (try clear F); intro g2 w2 HS; (try simp only [hpn, hpm] at HS); have F := HS.boxes; simp only [boxFacts, and_true] at F) | ((with_reducible refine gate_dst (N := 3) rfl ?_); refine ev_box rfl HS (by first | (go_simp; done) | (go_simp; rfl)) rfl ?_; clear HS; (try clear F); intro g3 w3 HS; (try simp only [hpn, hpm] at HS); have F := HS.boxes; simp only [boxFacts, and_true] at F))
        go_ret
        exact ⟨rfl, HS.pick [] (by decide) (by rfl)⟩
    · replace H := zneg c5 H
      have c5a := beq_eq_false_iff_ne.mpr c5
      have c5b := bne_iff_ne.mpr c5
      clear c5
      obtain rfl := zsome H
      go_wp2_with (first | ((with_reducible refine gate_dst (N := 2) rfl ?_); refine ev_box rfl HS (by first | (go_simp; done) | (go_simp; rfl)) rfl ?_; clear HS; (try clear F); intro g2 w2 HS; (try simp only [hpn, hpm] at HS); have F := HS.boxes; simp only [boxFacts, and_true] at F) | ((with_reducible refine gate_dst (N := 3) rfl ?_); refine ev_box rfl HS (by first | (go_simp; done) | (go_simp; rfl)) rfl ?_; clear HS; (try clear F); intro g3 w3 HS; (try simp only [hpn, hpm] at HS); have F := HS.boxes; simp only [boxFacts, and_true] at F))
      go_ret
      exact ⟨rfl, HS.pick [] (by decide) (by rfl)⟩
theorem impl_SameItem.calls {k : Nat} {a0 : S100} {a1 : S100} {Ap0 : Option Addr} {np0 cp0 : Nat} {Ap1 : Option Addr} {np1 cp1 : Nat} {r : Bool} {w : World} (h : impl_SameItem.f k a0 a1 = some r) (gp0 : k100.C w Ap0 np0 a0.f2) (lp0 : np0 ≤ cp0) (gp1 : k100.C w Ap1 np1 a1.f2) (lp1 : np1 ≤ cp1) :
    Calls Try.prog 160 #[.agg #[.int .i64 a0.f0, .string a0.f1, .slice Ap0 np0 cp0], .agg #[.int .i64 a1.f0, .string a1.f1, .slice Ap1 np1 cp1]] w (fun e w' => e = .returned (.bool r) ∧ Hp noFP w w' []) := impl_SameItem.calls_ k (Nat.le_refl k) h gp0 lp0 gp1 lp1
end Go.Proofs.Ytoaoncnbimcdgaa.F
