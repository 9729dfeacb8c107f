/- Functions of the program and of the law, and that their calls do what is written here. -/
import Derived.Test.YtoaoncnbimcdgaaZgFnExactReadReplyf
import Derived.Test.YtoaoncnbimcdgaaZgFnExactReadReplyh
namespace Go.Proofs.Ytoaoncnbimcdgaa.F
open Go.RowKit Go.Proofs.YtoaoncnbimcdgaaW.PrintWords Go.Proofs.YtoaoncnbimcdgaaW.PrintLast Go.Proofs.YtoaoncnbimcdgaaW.PrintMore Go.Proofs.Ytoaoncnbimcdgaa.Z
attribute [local go_sem] max2_int min2_int max_two min_two max_three min_three max_four min_four
set_option linter.unusedVariables false
set_option linter.unusedSimpArgs false
set_option maxRecDepth 100000
/-! ### impl_IntIn: function 119 -/
mutual
def impl_IntIn.l0 : Nat → Int → Int → S100 → ByteArray → Option (Int × Bool)
  | 0, _, _, _, _ => none
  | k + 1, x19, x20, a0, y6 => (if x20 < (y6.size : Int) then (if 0 ≤ x20 then (if x20 < (y6.size : Int) then (impl_IntIn.l0 k (Go.bits .or .i64 (wrap64 (x19 * 256)) (wrap64 (rd (bytesOf y6) x20))) (wrap64 (x20 + 1)) a0 y6) else none) else none) else ((impl_within.f x19 0 1000000000).bind fun t101001 => (if t101001 = true then ((impl_IntItem.f k x19).bind fun t106001 => ((impl_SameItem.f k a0 t106001).bind fun t107001 => (if t107001 = true then (some (x19, true)) else (some (0, false))))) else (some (0, false)))))
def impl_IntIn.l1 : Nat → Int → Int → S100 → ByteArray → Option (Int × Bool)
  | 0, _, _, _, _ => none
  | k + 1, x47, x48, a0, y34 => (if x48 < (y34.size : Int) then (if 0 ≤ x48 then (if x48 < (y34.size : Int) then (impl_IntIn.l1 k (Go.bits .or .i64 (wrap64 (x47 * 256)) (wrap64 (rd (bytesOf y34) x48))) (wrap64 (x48 + 1)) a0 y34) else none) else none) else ((impl_within.f x47 0 1000000000).bind fun t201001 => (if t201001 = true then ((impl_IntItem.f k x47).bind fun t206001 => ((impl_SameItem.f k a0 t206001).bind fun t207001 => (if t207001 = true then (some (x47, true)) else (some (0, false))))) else (some (0, false)))))
end
def impl_IntIn.f (k : Nat) (a0 : S100) : Option (Int × Bool) := (if 5 < (a0.f1.size : Int) then (if 0 ≤ 5 then (if 5 ≤ (a0.f1.size : Int) then (lets (a0.f1.extract 0 5) fun y6 => (if y6.size ≤ 9223372036854775807 then (impl_IntIn.l0 k 0 0 a0 y6) else none)) else none) else none) else (if 0 ≤ (a0.f1.size : Int) then (if (a0.f1.size : Int) ≤ (a0.f1.size : Int) then (lets (a0.f1.extract 0 ((a0.f1.size : Int)).toNat) fun y34 => (if y34.size ≤ 9223372036854775807 then (impl_IntIn.l1 k 0 0 a0 y34) else none)) else none) else none))
def impl_IntIn.T7 : Bool × List (List Nat × List Nat) := (true, [([], []), ([0], [0]), ([1], [1]), ([2, 1], [2]), ([3], [3]), ([3], [3]), ([5, 3, 3], [3, 5]), ([4, 6, 6, 3], [3, 4, 6]), ([7, 3], [3, 7]), ([3, 8], [3, 8])])
theorem impl_IntIn.tT7 : rtab .any (opsOf Try.f119 7) = impl_IntIn.T7 := by kernel_rfl
set_option maxHeartbeats 16000000 in
theorem impl_IntIn.calls {k : Nat} {a0 : S100} {Ap0 : Option Addr} {np0 cp0 : Nat} {r1 : Int} {r2 : Bool} {w : World} (h : impl_IntIn.f k a0 = some (r1, r2)) (gp0 : k100.C w Ap0 np0 a0.f2) (lp0 : np0 ≤ cp0) :
    Calls Try.prog 119 #[.agg #[.int .i64 a0.f0, .string a0.f1, .slice Ap0 np0 cp0]] w (fun e w' => e = .returned (.tuple #[.int .i64 r1, .bool r2]) ∧ Hp noFP w w' []) := by
 obtain rfl := C_len gp0
 have HS := Hp.start w
 have H := Aside0.mk h
 clear h
 unfold impl_IntIn.f at H
 go_enter Try.func119, Try.ntmps119
 by_cases c3 : 5 < (a0.f1.size : Int)
 · replace H := zpos c3 H
   replace c3 := eq_true c3
   by_cases c4 : 0 ≤ 5
   case neg => exact zno c4 H
   replace H := zpos c4 H
   replace c4 := eq_true c4
   by_cases c5 : 5 ≤ (a0.f1.size : Int)
   case neg => exact zno c5 H
   replace H := zpos c5 H
   replace c5 := eq_true c5
   replace H := zlets H; obtain ⟨y6, e_y6, H⟩ := H
   by_cases c7 : y6.size ≤ 9223372036854775807
   case neg => exact zno c7 H
   replace H := zpos c7 H
   replace c7 := eq_true c7
   go_wp2_with (first | ((with_reducible refine gate_dst (N := 1) rfl ?_); refine ev_box rfl HS (by first | (go_simp; done) | (go_simp; rfl)) rfl ?_; clear HS; (try clear F); intro g1 w1 HS; (try simp only [hpn, hpm] at HS); have F := HS.boxes; simp only [boxFacts, and_true] at F) | ((with_reducible refine gate_dst (N := 13) rfl ?_); refine ev_val rfl (run_cut rfl rfl Try.underlying9 (.inl ⟨rfl, rfl⟩) (.inr ⟨_, _, rfl, rfl, by have := of_eq_true (eq_true (by decide : (0:Int) ≤ 0)); have := of_eq_true c4; have := of_eq_true c5; omega⟩) (by have := of_eq_true (eq_true (by decide : (0:Int) ≤ 0)); have := of_eq_true c4; have := of_eq_true c5; omega) (by have := of_eq_true (eq_true (by decide : (0:Int) ≤ 0)); have := of_eq_true c4; have := of_eq_true c5; omega)) ?_) | ((with_reducible refine gate_dst (N := 14) rfl ?_); refine ev_bytes rfl HS rfl (s := y6) (by rw [e_y6.out]; rfl) Try.underlying9 Try.underlying210 Try.underlying5 (of_eq_true c7) ?_; clear HS; (try clear F); intro v6 w6 HS; obtain ⟨B6, d6, rfl, m6⟩ := HS.vformb 1 rfl; (try simp only [hpn, hpm] at HS); have F := HS.boxes; simp only [boxFacts, and_true] at F))
   go_loopg [4, 16] k (fun kq v_4 v_16 w' => ∃ (x19 : Int) (x20 : Int), v_4 = .int .i64 x19 ∧ v_16 = .int .i64 x20 ∧ Aside0 (impl_IntIn.l0 kq x19 x20 a0 y6 = some (r1, r2)) ∧ Aside0 (kq ≤ k) ∧ Hp noFP w w' [.box g1 [.int .i64 a0.f0, .string a0.f1, .slice Ap0 a0.f2.length cp0] 100, .own (Zd.view 5 (Zd.int .u8)) (bytesOf y6) [.slice B6 y6.size d6]])
   case atStart => exact ⟨_, _, rfl, rfl, H, ⟨Nat.le_refl _⟩, HS⟩
   case round =>
    clear HS H; (try clear F)
    obtain ⟨x19, x20, rfl, rfl, H, HKk18, HS⟩ := hrel
    have F := HS.boxes; simp only [boxFacts, and_true] at F
    cases gk with
    | zero => exact absurd H.out (by simp [impl_IntIn.l0])
    | succ k18 =>
     simp only [impl_IntIn.l0] at H
     by_cases c22 : x20 < (y6.size : Int)
     · replace H := zpos c22 H
       replace c22 := eq_true c22
       by_cases c23 : 0 ≤ x20
       case neg => exact zno c23 H
       replace H := zpos c23 H
       replace c23 := eq_true c23
       by_cases c24 : x20 < (y6.size : Int)
       case neg => exact zno c24 H
       replace H := zpos c24 H
       replace c24 := eq_true c24
       obtain ⟨ad25, rfl, e25_0⟩ := Kd.at_int (HS.vrd 1 rfl) x20 (of_eq_true c23) (of_eq_true c24)
       go_wp2
       go_roundg k18
       case measure => have := HKk18.out; omega
       case rel => exact ⟨_, _, rfl, rfl, H, ⟨by have := HKk18.out; omega⟩, HS.pick [0, 1] (by decide) (by rfl)⟩
     · replace H := zneg c22 H
       replace c22 := eq_false c22
       (try go_wp2)
       replace H := zbind H; obtain ⟨t101001, ht101001, H⟩ := H
       by_cases c103001 : t101001 = true
       · replace H := zpos c103001 H
         subst c103001
         replace H := zbind H; obtain ⟨t106001, ht106001, H⟩ := H
         replace H := zbind H; obtain ⟨t107001, ht107001, H⟩ := H
         refine dr_start [] HS #[false, false, false, false, false, false, false, false, false, false] (by kernel_rfl) rfl rfl impl_IntIn.tT7 (fun w27 HT HS HH => ?_)
         (try clear F)
         refine drq_of [(0, some 26)] ?_
         repeat (first | (refine drq_pure HT (v := ?_) (a' := ?_) rfl rfl (by kernel_rfl) (fun _ _ _ h => h) (.inl ⟨by rfl, ?_⟩) ?_ ?_; rotate_left; (intro w'; go_simp; with_reducible rfl); rotate_left; (simp only [Act.put, List.setIfInBounds_toArray, List.set_cons_zero, List.set_cons_succ, i64_w, i32_w]; rfl)))
         refine drq_end ?_
         refine dr_one 1 HT rfl (by kernel_rfl) (by decide) (fun K hK => ?_)
         refine goes_ Try.func78 (by kernel_rfl) rfl #[.int .i64 x19, .int .i64 0, .int .i64 1000000000] (by rfl) rfl rfl (by simp only [List.map_toArray, List.map_cons, List.map_nil]; rfl) ?_; refine (impl_within.calls ht101001.out).mono ?_; rintro _ wt101001 ⟨rfl, HQ⟩; refine ⟨_, rfl, ?_⟩; replace HS := HS.call HQ; clear HQ; (try clear F)
         (try simp only [hpn, hpm] at HS)
         have F := HS.boxes; simp only [boxFacts, and_true] at F
         refine hK.out _ _ ⟨_, HS⟩ (fun HH => ?_)
         clear hK K
         refine norm_ (a' := ?_) ?_ ?_
         rotate_left
         · show Act.put _ (some 27) _ = _; simp only [Act.put, List.setIfInBounds_toArray, List.set_cons_zero, List.set_cons_succ, i64_w, i32_w]; rfl
         refine drq_of [(2, some 28), (3, some 29), (4, some 30), (5, some 31)] ?_
         repeat (first | (refine drq_pure HT (v := ?_) (a' := ?_) rfl rfl (by kernel_rfl) (fun _ _ _ h => h) (.inl ⟨by rfl, ?_⟩) ?_ ?_; rotate_left; (intro w'; go_simp; with_reducible rfl); rotate_left; (simp only [Act.put, List.setIfInBounds_toArray, List.set_cons_zero, List.set_cons_succ, i64_w, i32_w]; rfl)) | (refine drq_take HT HH (v := ?_) (a' := ?_) rfl rfl (by kernel_rfl) (fun _ _ _ h => h) (.inl ⟨by rfl, ?_⟩) ?_ ?_; rotate_left; (rintro w' ⟨rs', HS'⟩; have F := HS'.boxes; simp only [boxFacts, List.cons_append, List.nil_append, and_true] at F; go_simp; with_reducible rfl); rotate_left; (simp only [Act.put, List.setIfInBounds_toArray, List.set_cons_zero, List.set_cons_succ, i64_w, i32_w]; rfl)))
         refine drq_end ?_
         refine dr_one 6 HT rfl (by kernel_rfl) (by decide) (fun K hK => ?_)
         refine goes_ Try.func149 (by kernel_rfl) rfl #[.int .i64 x19] (by rfl) rfl rfl (by simp only [List.map_toArray, List.map_cons, List.map_nil]; rfl) ?_; refine (impl_IntItem.calls ht106001.out).mono ?_; rintro _ wt106001 ⟨v106002, rfl, HQ⟩; refine ⟨_, rfl, ?_⟩; replace HS := HS.call HQ; clear HQ; (try clear F); obtain ⟨B106002, d106002, rfl, m106002⟩ := HS.form 2 rfl
         (try simp only [hpn, hpm] at HS)
         have F := HS.boxes; simp only [boxFacts, and_true] at F
         refine hK.out _ _ ⟨_, HS⟩ (fun HH => ?_)
         clear hK K
         refine norm_ (a' := ?_) ?_ ?_
         rotate_left
         · show Act.put _ (some 32) _ = _; simp only [Act.put, List.setIfInBounds_toArray, List.set_cons_zero, List.set_cons_succ, i64_w, i32_w]; rfl
         refine dr_one 7 HT rfl (by kernel_rfl) (by decide) (fun K hK => ?_)
         refine goes_ Try.func160 (by kernel_rfl) rfl #[.agg #[.int .i64 a0.f0, .string a0.f1, .slice Ap0 a0.f2.length cp0], .agg #[.int .i64 t106001.f0, .string t106001.f1, .slice B106002 t106001.f2.length d106002]] (by rfl) rfl rfl (by simp only [List.map_toArray, List.map_cons, List.map_nil]; rfl) ?_; refine (impl_SameItem.calls ht107001.out (HS.ro gp0) lp0 (HS.rd 2 rfl) m106002).mono ?_; rintro _ wt107001 ⟨rfl, HQ⟩; refine ⟨_, rfl, ?_⟩; replace HS := HS.call HQ; clear HQ; (try clear F)
         (try simp only [hpn, hpm] at HS)
         have F := HS.boxes; simp only [boxFacts, and_true] at F
         refine hK.out _ _ ⟨_, HS⟩ (fun HH => ?_)
         clear hK K
         refine norm_ (a' := ?_) ?_ ?_
         rotate_left
         · show Act.put _ (some 33) _ = _; simp only [Act.put, List.setIfInBounds_toArray, List.set_cons_zero, List.set_cons_succ, i64_w, i32_w]; rfl
         refine drq_of [(8, some 34), (9, some 35)] ?_
         repeat (first | (refine drq_pure HT (v := ?_) (a' := ?_) rfl rfl (by kernel_rfl) (fun _ _ _ h => h) (.inl ⟨by rfl, ?_⟩) ?_ ?_; rotate_left; (intro w'; go_simp; with_reducible rfl); rotate_left; (simp only [Act.put, List.setIfInBounds_toArray, List.set_cons_zero, List.set_cons_succ, i64_w, i32_w]; rfl)))
         refine drq_end ?_
         refine done_ (done_of HT.out (by kernel_rfl)) ?_
         (try clear F)
         have F := HS.boxes; simp only [boxFacts, and_true] at F
         by_cases c29 : t107001 = true
         · replace H := zpos c29 H
           subst c29
           (try simp only [dcn, if_true, Bool.false_eq_true, if_false])
           obtain ⟨rfl, rfl⟩ := zsome2 H
           go_wp2
           exact bodyPost_ret (results_list (rs := [.tmp 2, .tmp 3]) rfl (by simp) (.tmp (.tmp .nil))) rfl ⟨rfl, HS.pick [] (by decide) (by rfl)⟩
         · replace H := zneg c29 H
           replace c29 := eq_false_of_ne_true c29
           subst c29
           (try simp only [dcn, if_true, Bool.false_eq_true, if_false])
           obtain ⟨rfl, rfl⟩ := zsome2 H
           go_wp2
           exact bodyPost_ret (results_list (rs := [.tmp 2, .tmp 3]) rfl (by simp) (.tmp (.tmp .nil))) rfl ⟨rfl, HS.pick [] (by decide) (by rfl)⟩
       · replace H := zneg c103001 H
         replace c103001 := eq_false_of_ne_true c103001
         subst c103001
         refine dr_start [] HS #[false, false, false, false, false, false, false, false, false, false] (by kernel_rfl) rfl rfl impl_IntIn.tT7 (fun w30 HT HS HH => ?_)
         (try clear F)
         refine drq_of [(0, some 26)] ?_
         repeat (first | (refine drq_pure HT (v := ?_) (a' := ?_) rfl rfl (by kernel_rfl) (fun _ _ _ h => h) (.inl ⟨by rfl, ?_⟩) ?_ ?_; rotate_left; (intro w'; go_simp; with_reducible rfl); rotate_left; (simp only [Act.put, List.setIfInBounds_toArray, List.set_cons_zero, List.set_cons_succ, i64_w, i32_w]; rfl)))
         refine drq_end ?_
         refine dr_one 1 HT rfl (by kernel_rfl) (by decide) (fun K hK => ?_)
         refine goes_ Try.func78 (by kernel_rfl) rfl #[.int .i64 x19, .int .i64 0, .int .i64 1000000000] (by rfl) rfl rfl (by simp only [List.map_toArray, List.map_cons, List.map_nil]; rfl) ?_; refine (impl_within.calls ht101001.out).mono ?_; rintro _ wt101001 ⟨rfl, HQ⟩; refine ⟨_, rfl, ?_⟩; replace HS := HS.call HQ; clear HQ; (try clear F)
         (try simp only [hpn, hpm] at HS)
         have F := HS.boxes; simp only [boxFacts, and_true] at F
         refine hK.out _ _ ⟨_, HS⟩ (fun HH => ?_)
         clear hK K
         refine norm_ (a' := ?_) ?_ ?_
         rotate_left
         · show Act.put _ (some 27) _ = _; simp only [Act.put, List.setIfInBounds_toArray, List.set_cons_zero, List.set_cons_succ, i64_w, i32_w]; rfl
         refine drq_of [(2, some 28), (3, some 29), (4, some 30), (5, some 31), (6, some 32), (7, some 33), (8, some 34), (9, some 35)] ?_
         repeat (first | (refine drq_pure HT (v := ?_) (a' := ?_) rfl rfl (by kernel_rfl) (fun _ _ _ h => h) (.inl ⟨by rfl, ?_⟩) ?_ ?_; rotate_left; (intro w'; go_simp; with_reducible rfl); rotate_left; (simp only [Act.put, List.setIfInBounds_toArray, List.set_cons_zero, List.set_cons_succ, i64_w, i32_w]; rfl)) | (refine drq_pure HT (v := undef) (a' := ?_) rfl rfl (by kernel_rfl) (fun _ _ _ h => h) (.inr ⟨by rfl, rfl⟩) ?_ ?_; rotate_left; (simp only [Act.put, List.setIfInBounds_toArray, List.set_cons_zero, List.set_cons_succ, i64_w, i32_w]; rfl)))
         refine drq_end ?_
         refine done_ (done_of HT.out (by kernel_rfl)) ?_
         (try clear F)
         have F := HS.boxes; simp only [boxFacts, and_true] at F
         obtain ⟨rfl, rfl⟩ := zsome2 H
         go_wp2
         exact bodyPost_ret (results_list (rs := [.tmp 2, .tmp 3]) rfl (by simp) (.tmp (.tmp .nil))) rfl ⟨rfl, HS.pick [] (by decide) (by rfl)⟩
 · replace H := zneg c3 H
   replace c3 := eq_false c3
   by_cases c32 : 0 ≤ (a0.f1.size : Int)
   case neg => exact zno c32 H
   replace H := zpos c32 H
   replace c32 := eq_true c32
   by_cases c33 : (a0.f1.size : Int) ≤ (a0.f1.size : Int)
   case neg => exact zno c33 H
   replace H := zpos c33 H
   replace c33 := eq_true c33
   replace H := zlets H; obtain ⟨y34, e_y34, H⟩ := H
   by_cases c35 : y34.size ≤ 9223372036854775807
   case neg => exact zno c35 H
   replace H := zpos c35 H
   replace c35 := eq_true c35
   go_wp2_with (first | ((with_reducible refine gate_dst (N := 1) rfl ?_); refine ev_box rfl HS (by first | (go_simp; done) | (go_simp; rfl)) rfl ?_; clear HS; (try clear F); intro g1 w1 HS; (try simp only [hpn, hpm] at HS); have F := HS.boxes; simp only [boxFacts, and_true] at F) | ((with_reducible refine gate_dst (N := 13) rfl ?_); refine ev_val rfl (run_cut rfl rfl Try.underlying9 (.inl ⟨rfl, rfl⟩) (.inr ⟨_, _, rfl, rfl, by have := of_eq_true (eq_true (by decide : (0:Int) ≤ 0)); have := of_eq_true c32; have := of_eq_true c33; omega⟩) (by have := of_eq_true (eq_true (by decide : (0:Int) ≤ 0)); have := of_eq_true c32; have := of_eq_true c33; omega) (by have := of_eq_true (eq_true (by decide : (0:Int) ≤ 0)); have := of_eq_true c32; have := of_eq_true c33; omega)) ?_) | ((with_reducible refine gate_dst (N := 14) rfl ?_); refine ev_bytes rfl HS rfl (s := y34) (by rw [e_y34.out]; rfl) Try.underlying9 Try.underlying210 Try.underlying5 (of_eq_true c35) ?_; clear HS; (try clear F); intro v34 w34 HS; obtain ⟨B34, d34, rfl, m34⟩ := HS.vformb 1 rfl; (try simp only [hpn, hpm] at HS); have F := HS.boxes; simp only [boxFacts, and_true] at F))
   go_loopg [4, 16] k (fun kq v_4 v_16 w' => ∃ (x47 : Int) (x48 : Int), v_4 = .int .i64 x47 ∧ v_16 = .int .i64 x48 ∧ Aside0 (impl_IntIn.l1 kq x47 x48 a0 y34 = some (r1, r2)) ∧ Aside0 (kq ≤ k) ∧ Hp noFP w w' [.box g1 [.int .i64 a0.f0, .string a0.f1, .slice Ap0 a0.f2.length cp0] 100, .own (Zd.view 5 (Zd.int .u8)) (bytesOf y34) [.slice B34 y34.size d34]])
   case atStart => exact ⟨_, _, rfl, rfl, H, ⟨Nat.le_refl _⟩, HS⟩
   case round =>
    clear HS H; (try clear F)
    obtain ⟨x47, x48, rfl, rfl, H, HKk46, HS⟩ := hrel
    have F := HS.boxes; simp only [boxFacts, and_true] at F
    cases gk with
    | zero => exact absurd H.out (by simp [impl_IntIn.l1])
    | succ k46 =>
     simp only [impl_IntIn.l1] at H
     by_cases c50 : x48 < (y34.size : Int)
     · replace H := zpos c50 H
       replace c50 := eq_true c50
       by_cases c51 : 0 ≤ x48
       case neg => exact zno c51 H
       replace H := zpos c51 H
       replace c51 := eq_true c51
       by_cases c52 : x48 < (y34.size : Int)
       case neg => exact zno c52 H
       replace H := zpos c52 H
       replace c52 := eq_true c52
       obtain ⟨ad53, rfl, e53_0⟩ := Kd.at_int (HS.vrd 1 rfl) x48 (of_eq_true c51) (of_eq_true c52)
       go_wp2
       go_roundg k46
       case measure => have := HKk46.out; omega
       case rel => exact ⟨_, _, rfl, rfl, H, ⟨by have := HKk46.out; omega⟩, HS.pick [0, 1] (by decide) (by rfl)⟩
     · replace H := zneg c50 H
       replace c50 := eq_false c50
       (try go_wp2)
       replace H := zbind H; obtain ⟨t201001, ht201001, H⟩ := H
       by_cases c203001 : t201001 = true
       · replace H := zpos c203001 H
         subst c203001
         replace H := zbind H; obtain ⟨t206001, ht206001, H⟩ := H
         replace H := zbind H; obtain ⟨t207001, ht207001, H⟩ := H
         refine dr_start [] HS #[false, false, false, false, false, false, false, false, false, false] (by kernel_rfl) rfl rfl impl_IntIn.tT7 (fun w55 HT HS HH => ?_)
         (try clear F)
         refine drq_of [(0, some 26)] ?_
         repeat (first | (refine drq_pure HT (v := ?_) (a' := ?_) rfl rfl (by kernel_rfl) (fun _ _ _ h => h) (.inl ⟨by rfl, ?_⟩) ?_ ?_; rotate_left; (intro w'; go_simp; with_reducible rfl); rotate_left; (simp only [Act.put, List.setIfInBounds_toArray, List.set_cons_zero, List.set_cons_succ, i64_w, i32_w]; rfl)))
         refine drq_end ?_
         refine dr_one 1 HT rfl (by kernel_rfl) (by decide) (fun K hK => ?_)
         refine goes_ Try.func78 (by kernel_rfl) rfl #[.int .i64 x47, .int .i64 0, .int .i64 1000000000] (by rfl) rfl rfl (by simp only [List.map_toArray, List.map_cons, List.map_nil]; rfl) ?_; refine (impl_within.calls ht201001.out).mono ?_; rintro _ wt201001 ⟨rfl, HQ⟩; refine ⟨_, rfl, ?_⟩; replace HS := HS.call HQ; clear HQ; (try clear F)
         (try simp only [hpn, hpm] at HS)
         have F := HS.boxes; simp only [boxFacts, and_true] at F
         refine hK.out _ _ ⟨_, HS⟩ (fun HH => ?_)
         clear hK K
         refine norm_ (a' := ?_) ?_ ?_
         rotate_left
         · show Act.put _ (some 27) _ = _; simp only [Act.put, List.setIfInBounds_toArray, List.set_cons_zero, List.set_cons_succ, i64_w, i32_w]; rfl
         refine drq_of [(2, some 28), (3, some 29), (4, some 30), (5, some 31)] ?_
         repeat (first | (refine drq_pure HT (v := ?_) (a' := ?_) rfl rfl (by kernel_rfl) (fun _ _ _ h => h) (.inl ⟨by rfl, ?_⟩) ?_ ?_; rotate_left; (intro w'; go_simp; with_reducible rfl); rotate_left; (simp only [Act.put, List.setIfInBounds_toArray, List.set_cons_zero, List.set_cons_succ, i64_w, i32_w]; rfl)) | (refine drq_take HT HH (v := ?_) (a' := ?_) rfl rfl (by kernel_rfl) (fun _ _ _ h => h) (.inl ⟨by rfl, ?_⟩) ?_ ?_; rotate_left; (rintro w' ⟨rs', HS'⟩; have F := HS'.boxes; simp only [boxFacts, List.cons_append, List.nil_append, and_true] at F; go_simp; with_reducible rfl); rotate_left; (simp only [Act.put, List.setIfInBounds_toArray, List.set_cons_zero, List.set_cons_succ, i64_w, i32_w]; rfl)))
         refine drq_end ?_
         refine dr_one 6 HT rfl (by kernel_rfl) (by decide) (fun K hK => ?_)
         refine goes_ Try.func149 (by kernel_rfl) rfl #[.int .i64 x47] (by rfl) rfl rfl (by simp only [List.map_toArray, List.map_cons, List.map_nil]; rfl) ?_; refine (impl_IntItem.calls ht206001.out).mono ?_; rintro _ wt206001 ⟨v206002, rfl, HQ⟩; refine ⟨_, rfl, ?_⟩; replace HS := HS.call HQ; clear HQ; (try clear F); obtain ⟨B206002, d206002, rfl, m206002⟩ := HS.form 2 rfl
         (try simp only [hpn, hpm] at HS)
         have F := HS.boxes; simp only [boxFacts, and_true] at F
         refine hK.out _ _ ⟨_, HS⟩ (fun HH => ?_)
         clear hK K
         refine norm_ (a' := ?_) ?_ ?_
         rotate_left
         · show Act.put _ (some 32) _ = _; simp only [Act.put, List.setIfInBounds_toArray, List.set_cons_zero, List.set_cons_succ, i64_w, i32_w]; rfl
         refine dr_one 7 HT rfl (by kernel_rfl) (by decide) (fun K hK => ?_)
         refine goes_ Try.func160 (by kernel_rfl) rfl #[.agg #[.int .i64 a0.f0, .string a0.f1, .slice Ap0 a0.f2.length cp0], .agg #[.int .i64 t206001.f0, .string t206001.f1, .slice B206002 t206001.f2.length d206002]] (by rfl) rfl rfl (by simp only [List.map_toArray, List.map_cons, List.map_nil]; rfl) ?_; refine (impl_SameItem.calls ht207001.out (HS.ro gp0) lp0 (HS.rd 2 rfl) m206002).mono ?_; rintro _ wt207001 ⟨rfl, HQ⟩; refine ⟨_, rfl, ?_⟩; replace HS := HS.call HQ; clear HQ; (try clear F)
         (try simp only [hpn, hpm] at HS)
         have F := HS.boxes; simp only [boxFacts, and_true] at F
         refine hK.out _ _ ⟨_, HS⟩ (fun HH => ?_)
         clear hK K
         refine norm_ (a' := ?_) ?_ ?_
         rotate_left
         · show Act.put _ (some 33) _ = _; simp only [Act.put, List.setIfInBounds_toArray, List.set_cons_zero, List.set_cons_succ, i64_w, i32_w]; rfl
         refine drq_of [(8, some 34), (9, some 35)] ?_
         repeat (first | (refine drq_pure HT (v := ?_) (a' := ?_) rfl rfl (by kernel_rfl) (fun _ _ _ h => h) (.inl ⟨by rfl, ?_⟩) ?_ ?_; rotate_left; (intro w'; go_simp; with_reducible rfl); rotate_left; (simp only [Act.put, List.setIfInBounds_toArray, List.set_cons_zero, List.set_cons_succ, i64_w, i32_w]; rfl)))
         refine drq_end ?_
         refine done_ (done_of HT.out (by kernel_rfl)) ?_
         (try clear F)
         have F := HS.boxes; simp only [boxFacts, and_true] at F
         by_cases c57 : t207001 = true
         · replace H := zpos c57 H
           subst c57
           (try simp only [dcn, if_true, Bool.false_eq_true, if_false])
           obtain ⟨rfl, rfl⟩ := zsome2 H
           go_wp2
           exact bodyPost_ret (results_list (rs := [.tmp 2, .tmp 3]) rfl (by simp) (.tmp (.tmp .nil))) rfl ⟨rfl, HS.pick [] (by decide) (by rfl)⟩
         · replace H := zneg c57 H
           replace c57 := eq_false_of_ne_true c57
           subst c57
           (try simp only [dcn, if_true, Bool.false_eq_true, if_false])
           obtain ⟨rfl, rfl⟩ := zsome2 H
           go_wp2
           exact bodyPost_ret (results_list (rs := [.tmp 2, .tmp 3]) rfl (by simp) (.tmp (.tmp .nil))) rfl ⟨rfl, HS.pick [] (by decide) (by rfl)⟩
       · replace H := zneg c203001 H
         replace c203001 := eq_false_of_ne_true c203001
         subst c203001
         refine dr_start [] HS #[false, false, false, false, false, false, false, false, false, false] (by kernel_rfl) rfl rfl impl_IntIn.tT7 (fun w58 HT HS HH => ?_)
         (try clear F)
         refine drq_of [(0, some 26)] ?_
         repeat (first | (refine drq_pure HT (v := ?_) (a' := ?_) rfl rfl (by kernel_rfl) (fun _ _ _ h => h) (.inl ⟨by rfl, ?_⟩) ?_ ?_; rotate_left; (intro w'; go_simp; with_reducible rfl); rotate_left; (simp only [Act.put, List.setIfInBounds_toArray, List.set_cons_zero, List.set_cons_succ, i64_w, i32_w]; rfl)))
         refine drq_end ?_
         refine dr_one 1 HT rfl (by kernel_rfl) (by decide) (fun K hK => ?_)
         refine goes_ Try.func78 (by kernel_rfl) rfl #[.int .i64 x47, .int .i64 0, .int .i64 1000000000] (by rfl) rfl rfl (by simp only [List.map_toArray, List.map_cons, List.map_nil]; rfl) ?_; refine (impl_within.calls ht201001.out).mono ?_; rintro _ wt201001 ⟨rfl, HQ⟩; refine ⟨_, rfl, ?_⟩; replace HS := HS.call HQ; clear HQ; (try clear F)
         (try simp only [hpn, hpm] at HS)
         have F := HS.boxes; simp only [boxFacts, and_true] at F
         refine hK.out _ _ ⟨_, HS⟩ (fun HH => ?_)
         clear hK K
         refine norm_ (a' := ?_) ?_ ?_
         rotate_left
         · show Act.put _ (some 27) _ = _; simp only [Act.put, List.setIfInBounds_toArray, List.set_cons_zero, List.set_cons_succ, i64_w, i32_w]; rfl
         refine drq_of [(2, some 28), (3, some 29), (4, some 30), (5, some 31), (6, some 32), (7, some 33), (8, some 34), (9, some 35)] ?_
         repeat (first | (refine drq_pure HT (v := ?_) (a' := ?_) rfl rfl (by kernel_rfl) (fun _ _ _ h => h) (.inl ⟨by rfl, ?_⟩) ?_ ?_; rotate_left; (intro w'; go_simp; with_reducible rfl); rotate_left; (simp only [Act.put, List.setIfInBounds_toArray, List.set_cons_zero, List.set_cons_succ, i64_w, i32_w]; rfl)) | (refine drq_pure HT (v := undef) (a' := ?_) rfl rfl (by kernel_rfl) (fun _ _ _ h => h) (.inr ⟨by rfl, rfl⟩) ?_ ?_; rotate_left; (simp only [Act.put, List.setIfInBounds_toArray, List.set_cons_zero, List.set_cons_succ, i64_w, i32_w]; rfl)))
         refine drq_end ?_
         refine done_ (done_of HT.out (by kernel_rfl)) ?_
         (try clear F)
         have F := HS.boxes; simp only [boxFacts, and_true] at F
         obtain ⟨rfl, rfl⟩ := zsome2 H
         go_wp2
         exact bodyPost_ret (results_list (rs := [.tmp 2, .tmp 3]) rfl (by simp) (.tmp (.tmp .nil))) rfl ⟨rfl, HS.pick [] (by decide) (by rfl)⟩
/-! ### impl_opener_num_0: function 61 -/
def impl_opener_num_0.f (k : Nat) (a0 : S114) (a1 : S100) : Option (Int × S114) := ((impl_IntIn.f k a1).bind fun t3 => (if a0.f0 = true then (some (t3.1, (⟨true⟩ : S114))) else (some (t3.1, (⟨(!t3.2)⟩ : S114)))))
set_option maxHeartbeats 16000000 in
theorem impl_opener_num_0.calls {k : Nat} {a0 : S114} {a1 : S100} {A : FP} {p0 : Nat} {Ap1 : Option Addr} {np1 cp1 : Nat} {wv : World} {r1 : Int} {r2 : S114} {w : World} (h : impl_opener_num_0.f k a0 a1 = some (r1, r2)) (gp1 : k100.C wv Ap1 np1 a1.f2) (lp1 : np1 ≤ cp1) (hV : View A w wv) (HS : Hp A w w [.box p0 [.bool a0.f0] 114]) :
    Calls Try.prog 61 #[.pointer (some ⟨p0, 0, none⟩), .agg #[.int .i64 a1.f0, .string a1.f1, .slice Ap1 np1 cp1]] w (fun e w' => e = .returned (.int .i64 r1) ∧ Hp A w w' [.box p0 [.bool r2.f0] 114]) := by
 obtain rfl := C_len gp1
 have H := Aside0.mk h
 clear h
 unfold impl_opener_num_0.f at H
 go_enter Try.func61, Try.ntmps61
 replace H := zbind H; obtain ⟨t3, ht3, H⟩ := H
 by_cases c5 : a0.f0 = true
 · replace H := zpos c5 H
   obtain ⟨rfl, rfl⟩ := zsome2 H
   go_wp2_with (first | ((with_reducible refine gate_dst (N := 3) rfl ?_); refine ev_box rfl HS (by first | (go_simp; done) | (go_simp; rfl)) rfl ?_; clear HS; (try clear F); intro g3 w3 HS; (try simp only [hpn, hpm] at HS); have F := HS.boxes; simp only [boxFacts, and_true] at F) | ((with_reducible refine gate_dst (N := 9) rfl ?_); refine ev_call rfl Try.func119 (by kernel_rfl) rfl #[.agg #[.int .i64 a1.f0, .string a1.f1, .slice Ap1 a1.f2.length cp1]] rfl (by simp only [List.map_toArray, List.map_cons, List.map_nil]; rfl) ?_; refine (impl_IntIn.calls ht3.out (hV.ro km100 HS gp1) lp1).mono ?_; rintro _ wt3 ⟨rfl, HQ⟩; refine ⟨_, rfl, ?_⟩; replace HS := HS.call HQ; clear HQ; (try clear F); (try simp only [hpn, hpm] at HS); have F := HS.boxes; simp only [boxFacts, and_true] at F; (try simp only [c5])) | ((with_reducible refine gate_store (p := 22) rfl ?_); refine ev_store rfl 0 0 HS (seg := [.bool true]) rfl rfl rfl rfl rfl rfl (by kernel_rfl) (by simp [wrt]) (by simp [Value.oneCell']) ?_; clear HS; (try clear F); intro w6 HS; (try simp only [hpn, hpm] at HS); have F := HS.boxes; simp only [boxFacts, and_true] at F))
   go_ret
   exact ⟨rfl, HS.pick [0] (by decide) (by rfl)⟩
 · replace H := zneg c5 H
   replace c5 := eq_false_of_ne_true c5
   obtain ⟨rfl, rfl⟩ := zsome2 H
   go_wp2_with (first | ((with_reducible refine gate_dst (N := 3) rfl ?_); refine ev_box rfl HS (by first | (go_simp; done) | (go_simp; rfl)) rfl ?_; clear HS; (try clear F); intro g3 w3 HS; (try simp only [hpn, hpm] at HS); have F := HS.boxes; simp only [boxFacts, and_true] at F) | ((with_reducible refine gate_dst (N := 9) rfl ?_); refine ev_call rfl Try.func119 (by kernel_rfl) rfl #[.agg #[.int .i64 a1.f0, .string a1.f1, .slice Ap1 a1.f2.length cp1]] rfl (by simp only [List.map_toArray, List.map_cons, List.map_nil]; rfl) ?_; refine (impl_IntIn.calls ht3.out (hV.ro km100 HS gp1) lp1).mono ?_; rintro _ wt3 ⟨rfl, HQ⟩; refine ⟨_, rfl, ?_⟩; replace HS := HS.call HQ; clear HQ; (try clear F); (try simp only [hpn, hpm] at HS); have F := HS.boxes; simp only [boxFacts, and_true] at F; (try simp only [c5])) | ((with_reducible refine gate_store (p := 22) rfl ?_); refine ev_store rfl 0 0 HS (seg := [.bool (!t3.2)]) rfl rfl rfl rfl rfl rfl (by kernel_rfl) (by simp [wrt]) (by simp [Value.oneCell']) ?_; clear HS; (try clear F); intro w8 HS; (try simp only [hpn, hpm] at HS); have F := HS.boxes; simp only [boxFacts, and_true] at F))
   go_ret
   exact ⟨rfl, HS.pick [0] (by decide) (by rfl)⟩
/-! ### impl_opener_texts_0: function 62 -/
mutual
def impl_opener_texts_0.l0 : Nat → (List ByteArray) → Int → Bool → S100 → Int → Option ((List ByteArray) × S114)
  | 0, _, _, _, _, _ => none
  | k + 1, l42, x44, x45, a1, a2 => (if x44 < (a1.f2.length : Int) then (if 0 ≤ x44 then (if x44 < (a1.f2.length : Int) then ((impl_opener_text_0.f (⟨x45⟩ : S114) (rd_T100 a1.f2 x44) a2).bind fun t55 => (if l42.length + 1 ≤ 8796093022208 then (lets (l42 ++ ([t55.1] : List ByteArray)) fun y60 => (impl_opener_texts_0.l0 k y60 (wrap64 (x44 + 1)) t55.2.f0 a1 a2)) else none)) else none) else none) else (some (l42, (⟨x45⟩ : S114))))
def impl_opener_texts_0.l1 : Nat → (List ByteArray) → Int → Bool → Int → (Bool × Nat) × S114 → Option ((List ByteArray) × S114)
  | 0, _, _, _, _, _ => none
  | k + 1, l97, x99, x100, a2, t3 => (if x99 < (t3.1.2 : Int) then (if 0 ≤ x99 then (if x99 < (t3.1.2 : Int) then ((impl_opener_text_0.f (⟨x100⟩ : S114) (⟨0, (⟨#[]⟩ : ByteArray), ([] : List S100)⟩ : S100) a2).bind fun t110 => (if l97.length + 1 ≤ 8796093022208 then (lets (l97 ++ ([t110.1] : List ByteArray)) fun y115 => (impl_opener_texts_0.l1 k y115 (wrap64 (x99 + 1)) t110.2.f0 a2 t3)) else none)) else none) else none) else (some (l97, (⟨x100⟩ : S114))))
end
def impl_opener_texts_0.f (k : Nat) (a0 : S114) (a1 : S100) (a2 : Int) : Option ((List ByteArray) × S114) := ((impl_opener_list_0.f a0 a1 (-1)).bind fun t3 => (if t3.1.1 = true then (impl_opener_texts_0.l0 k [] 0 t3.2.f0 a1 a2) else (impl_opener_texts_0.l1 k [] 0 t3.2.f0 a2 t3)))
set_option maxHeartbeats 16000000 in
theorem impl_opener_texts_0.calls {k : Nat} {a0 : S114} {a1 : S100} {a2 : Int} {A : FP} {p0 : Nat} {Ap1 : Option Addr} {np1 cp1 : Nat} {wv : World} {r1 : (List ByteArray)} {r2 : S114} {w : World} (h : impl_opener_texts_0.f k a0 a1 a2 = some (r1, r2)) (gp1 : k100.C wv Ap1 np1 a1.f2) (lp1 : np1 ≤ cp1) (hV : View A w wv) (HS : Hp A w w [.box p0 [.bool a0.f0] 114]) :
    Calls Try.prog 62 #[.pointer (some ⟨p0, 0, none⟩), .agg #[.int .i64 a1.f0, .string a1.f1, .slice Ap1 np1 cp1], .int .i64 a2] w (fun e w' => ∃ v0_ : Value, e = .returned (v0_) ∧ Hp A w w' [.box p0 [.bool r2.f0] 114, .own (Zd.slice 9 Zd.string) r1 [v0_]]) := by
 obtain rfl := C_len gp1
 have H := Aside0.mk h
 clear h
 unfold impl_opener_texts_0.f at H
 go_enter Try.func62, Try.ntmps62
 replace H := zbind H; obtain ⟨t3, ht3, H⟩ := H
 by_cases c6 : t3.1.1 = true
 · replace H := zpos c6 H
   go_wp2_with (first | ((with_reducible refine gate_dst (N := 4) rfl ?_); refine ev_box rfl HS (by first | (go_simp; done) | (go_simp; rfl)) rfl ?_; clear HS; (try clear F); intro g4 w4 HS; (try simp only [hpn, hpm] at HS); have F := HS.boxes; simp only [boxFacts, and_true] at F) | ((with_reducible refine gate_dst (N := 12) rfl ?_); refine HS.lend [0] (by decide) [.box p0 [.bool a0.f0] 114] rfl (fun A' HL HD HA HB => ?_); refine ev_call rfl Try.func59 (by kernel_rfl) rfl #[.pointer (some ⟨p0, 0, none⟩), .agg #[.int .i64 a1.f0, .string a1.f1, .slice Ap1 a1.f2.length cp1], .int .i64 (-1)] rfl (by simp only [List.map_toArray, List.map_cons, List.map_nil]; rfl) ?_; refine (impl_opener_list_0.calls ht3.out gp1 lp1 (hV.lend HS HL) HA).mono ?_; rintro _ wt3 ⟨v4, rfl, HQ⟩; refine ⟨_, rfl, ?_⟩; replace HS := HB _ _ HQ (Nat.le_of_ble_eq_true rfl); clear HQ HA HB HL HD; (try simp only [hpn, hpm] at HS); (try clear F); obtain ⟨B4, d4, rfl, m4⟩ := HS.formn t3.1.2 2 rfl (by first | rfl | simp); (try simp only [cond_true, cond_false]); (try simp only [c6, cond_true, cond_false]); (try simp only [hpn, hpm] at HS); have F := HS.boxes; simp only [boxFacts, and_true] at F))
   replace HS := HS.nil 9 Zd.string
   go_loopg [7, 14] k (fun kq v_7 v_14 w' => ∃ (l42 : List ByteArray) (v43 : Value) (x44 : Int) (x45 : Bool), v_7 = v43 ∧ v_14 = .int .i64 x44 ∧ Aside0 (impl_opener_texts_0.l0 kq l42 x44 x45 a1 a2 = some (r1, r2)) ∧ Aside0 (kq ≤ k) ∧ Hp A w w' [.box p0 [.bool x45] 114, .box g4 [.int .i64 a1.f0, .string a1.f1, .slice Ap1 a1.f2.length cp1] 100, .own (Zd.slice 100 q100) (List.replicate t3.1.2 z100) [.slice B4 t3.1.2 d4], .own (Zd.slice 9 Zd.string) l42 [v43]])
   case atStart => exact ⟨_, _, _, _, rfl, rfl, H, ⟨Nat.le_refl _⟩, HS⟩
   case round =>
    clear HS H; (try clear F)
    obtain ⟨l42, v43, x44, x45, rfl, rfl, H, HKk41, HS⟩ := hrel
    obtain ⟨B43, d43, rfl, m43⟩ := HS.form 3 rfl
    have F := HS.boxes; simp only [boxFacts, and_true] at F
    cases gk with
    | zero => exact absurd H.out (by simp [impl_opener_texts_0.l0])
    | succ k41 =>
     simp only [impl_opener_texts_0.l0] at H
     by_cases c47 : x44 < (a1.f2.length : Int)
     · replace H := zpos c47 H
       replace c47 := eq_true c47
       by_cases c48 : 0 ≤ x44
       case neg => exact zno c48 H
       replace H := zpos c48 H
       replace c48 := eq_true c48
       by_cases c49 : x44 < (a1.f2.length : Int)
       case neg => exact zno c49 H
       replace H := zpos c49 H
       replace c49 := eq_true c49
       obtain ⟨ad50, B50_2, d50_2, rfl, e50_0, e50_1, e50_2, m50_2, y50_2⟩ := at_T100 gp1 x44 (of_eq_true c48) (of_eq_true c49)
       have e50_0_50 := (hV.keepc HS e50_0)
       have e50_1_50 := (hV.keepc HS e50_1)
       have e50_2_50 := (hV.keepc HS e50_2)
       replace H := zbind H; obtain ⟨t55, ht55, H⟩ := H
       by_cases c59 : l42.length + 1 ≤ 8796093022208
       case neg => exact zno c59 H
       replace H := zpos c59 H
       replace c59 := eq_true c59
       replace H := zlets H; obtain ⟨y60, e_y60, H⟩ := H
       go_wp2_with (first | ((with_reducible refine gate_dst (N := 9) rfl ?_); refine ev_box rfl HS (by first | (go_simp; done) | (go_simp; rfl)) rfl ?_; clear HS; (try clear F); intro g9 w9 HS; (try simp only [hpn, hpm] at HS); have F := HS.boxes; simp only [boxFacts, and_true] at F) | ((with_reducible refine gate_store (p := 9) rfl ?_); refine ev_store rfl 4 0 HS (seg := [.int .i64 ((rd_T100 a1.f2 x44).f0), .string ((rd_T100 a1.f2 x44).f1), .slice B50_2 (rd_T100 a1.f2 x44).f2.length d50_2]) rfl rfl rfl rfl rfl rfl (by kernel_rfl) (by simp [wrt]) (by simp [Value.oneCell']) ?_; clear HS; (try clear F); intro w53 HS; (try simp only [hpn, hpm] at HS); have F := HS.boxes; simp only [boxFacts, and_true] at F) | ((with_reducible refine gate_dst (N := 22) rfl ?_); refine HS.lend [0] (by decide) [.box p0 [.bool x45] 114] rfl (fun A' HL HD HA HB => ?_); refine ev_call rfl Try.func60 (by kernel_rfl) rfl #[.pointer (some ⟨p0, 0, none⟩), .agg #[.int .i64 ((rd_T100 a1.f2 x44).f0), .string ((rd_T100 a1.f2 x44).f1), .slice B50_2 (rd_T100 a1.f2 x44).f2.length d50_2], .int .i64 a2] rfl (by simp only [List.map_toArray, List.map_cons, List.map_nil]; rfl) ?_; refine (impl_opener_text_0.calls ht55.out y50_2 m50_2 (hV.lend HS HL) HA).mono ?_; rintro _ wt55 ⟨rfl, HQ⟩; refine ⟨_, rfl, ?_⟩; replace HS := HB _ _ HQ (Nat.le_of_ble_eq_true rfl); clear HQ HA HB HL HD; (try simp only [hpn, hpm] at HS); (try clear F); (try simp only [hpn, hpm] at HS); have F := HS.boxes; simp only [boxFacts, and_true] at F) | ((with_reducible refine gate_dst (N := 23) rfl ?_); refine ev_lit rfl Zd.string [] ([t55.1] : List ByteArray) ([.string t55.1] ++ []) HS (by first | (go_simp; done) | (go_simp; rfl)) rfl rfl (Nat.le_of_ble_eq_true rfl) (MadeL.cons (js1 := []) (c := [.string t55.1]) rfl (made_flat (fun _ => rfl)) MadeL.nil (by decide)) ?_; clear HS; (try clear F); intro v57 w57 HS; obtain ⟨B57, d57, rfl, m57⟩ := HS.formn 1 5 rfl rfl; (try simp only [hpn, hpm] at HS); have F := HS.boxes; simp only [boxFacts, and_true] at F) | ((with_reducible refine gate_dst (N := 24) rfl ?_); refine ev_append rfl Zd.string 3 5 HS rfl rfl (by decide) rfl rfl rfl Try.underlying73 info9 rfl (by decide) (by decide) (by have := of_eq_true c59; first | omega | (simp only [List.length_cons, List.length_nil, List.length_append, Nat.zero_add] at this ⊢; omega)) ?_; clear HS; (try clear F); intro v60 w60 HS; rw [← e_y60.out] at HS; obtain ⟨B60, d60, rfl, m60⟩ := HS.form 6 rfl; (try simp only [hpn, hpm] at HS); have F := HS.boxes; simp only [boxFacts, and_true] at F))
       go_roundg k41
       case measure => have := HKk41.out; omega
       case rel => exact ⟨_, _, _, _, rfl, rfl, H, ⟨by have := HKk41.out; omega⟩, HS.pick [0, 1, 2, 6] (by decide) (by rfl)⟩
     · replace H := zneg c47 H
       replace c47 := eq_false c47
       obtain ⟨rfl, rfl⟩ := zsome2 H
       go_wp2
       exact bodyPost_ret (results_single rfl (.tmp .nil)) rfl ⟨_, rfl, HS.pick [0, 3] (by decide) (by rfl)⟩
 · replace H := zneg c6 H
   replace c6 := eq_false_of_ne_true c6
   go_wp2_with (first | ((with_reducible refine gate_dst (N := 4) rfl ?_); refine ev_box rfl HS (by first | (go_simp; done) | (go_simp; rfl)) rfl ?_; clear HS; (try clear F); intro g4 w4 HS; (try simp only [hpn, hpm] at HS); have F := HS.boxes; simp only [boxFacts, and_true] at F) | ((with_reducible refine gate_dst (N := 12) rfl ?_); refine HS.lend [0] (by decide) [.box p0 [.bool a0.f0] 114] rfl (fun A' HL HD HA HB => ?_); refine ev_call rfl Try.func59 (by kernel_rfl) rfl #[.pointer (some ⟨p0, 0, none⟩), .agg #[.int .i64 a1.f0, .string a1.f1, .slice Ap1 a1.f2.length cp1], .int .i64 (-1)] rfl (by simp only [List.map_toArray, List.map_cons, List.map_nil]; rfl) ?_; refine (impl_opener_list_0.calls ht3.out gp1 lp1 (hV.lend HS HL) HA).mono ?_; rintro _ wt3 ⟨v4, rfl, HQ⟩; refine ⟨_, rfl, ?_⟩; replace HS := HB _ _ HQ (Nat.le_of_ble_eq_true rfl); clear HQ HA HB HL HD; (try simp only [hpn, hpm] at HS); (try clear F); obtain ⟨B4, d4, rfl, m4⟩ := HS.formn t3.1.2 2 rfl (by first | rfl | simp); (try simp only [cond_true, cond_false]); (try simp only [c6, cond_true, cond_false]); (try simp only [hpn, hpm] at HS); have F := HS.boxes; simp only [boxFacts, and_true] at F))
   replace HS := HS.nil 9 Zd.string
   go_loopg [7, 14] k (fun kq v_7 v_14 w' => ∃ (l97 : List ByteArray) (v98 : Value) (x99 : Int) (x100 : Bool), v_7 = v98 ∧ v_14 = .int .i64 x99 ∧ Aside0 (impl_opener_texts_0.l1 kq l97 x99 x100 a2 t3 = some (r1, r2)) ∧ Aside0 (kq ≤ k) ∧ Hp A w w' [.box p0 [.bool x100] 114, .box g4 [.int .i64 a1.f0, .string a1.f1, .slice Ap1 a1.f2.length cp1] 100, .own (Zd.slice 100 q100) (List.replicate t3.1.2 z100) [.slice B4 t3.1.2 d4], .own (Zd.slice 9 Zd.string) l97 [v98]])
   case atStart => exact ⟨_, _, _, _, rfl, rfl, H, ⟨Nat.le_refl _⟩, HS⟩
   case round =>
    clear HS H; (try clear F)
    obtain ⟨l97, v98, x99, x100, rfl, rfl, H, HKk96, HS⟩ := hrel
    obtain ⟨B98, d98, rfl, m98⟩ := HS.form 3 rfl
    have F := HS.boxes; simp only [boxFacts, and_true] at F
    cases gk with
    | zero => exact absurd H.out (by simp [impl_opener_texts_0.l1])
    | succ k96 =>
     simp only [impl_opener_texts_0.l1] at H
     by_cases c102 : x99 < (t3.1.2 : Int)
     · replace H := zpos c102 H
       replace c102 := eq_true c102
       by_cases c103 : 0 ≤ x99
       case neg => exact zno c103 H
       replace H := zpos c103 H
       replace c103 := eq_true c103
       by_cases c104 : x99 < (t3.1.2 : Int)
       case neg => exact zno c104 H
       replace H := zpos c104 H
       replace c104 := eq_true c104
       obtain ⟨ad105, B105_2, d105_2, rfl, e105_0, e105_1, e105_2, m105_2, y105_2⟩ := at_T100 (HS.rd 2 rfl) x99 (of_eq_true c103) (of_eq_true c104)
       simp only [rdrep_T100] at e105_0 e105_1 e105_2; simp only [z100, List.length_nil] at e105_0 e105_1 e105_2
       replace H := zbind H; obtain ⟨t110, ht110, H⟩ := H
       by_cases c114 : l97.length + 1 ≤ 8796093022208
       case neg => exact zno c114 H
       replace H := zpos c114 H
       replace c114 := eq_true c114
       replace H := zlets H; obtain ⟨y115, e_y115, H⟩ := H
       go_wp2_with (first | ((with_reducible refine gate_dst (N := 9) rfl ?_); refine ev_box rfl HS (by first | (go_simp; done) | (go_simp; rfl)) rfl ?_; clear HS; (try clear F); intro g9 w9 HS; (try simp only [hpn, hpm] at HS); have F := HS.boxes; simp only [boxFacts, and_true] at F) | ((with_reducible refine gate_store (p := 9) rfl ?_); refine ev_store rfl 4 0 HS (seg := [.int .i64 0, .string (⟨#[]⟩ : ByteArray), .slice B105_2 0 d105_2]) rfl rfl rfl rfl rfl rfl (by kernel_rfl) (by simp [wrt]) (by simp [Value.oneCell']) ?_; clear HS; (try clear F); intro w108 HS; (try simp only [hpn, hpm] at HS); have F := HS.boxes; simp only [boxFacts, and_true] at F) | ((with_reducible refine gate_dst (N := 22) rfl ?_); refine HS.lend [0] (by decide) [.box p0 [.bool x100] 114] rfl (fun A' HL HD HA HB => ?_); refine ev_call rfl Try.func60 (by kernel_rfl) rfl #[.pointer (some ⟨p0, 0, none⟩), .agg #[.int .i64 0, .string (⟨#[]⟩ : ByteArray), .slice B105_2 0 d105_2], .int .i64 a2] rfl (by simp only [List.map_toArray, List.map_cons, List.map_nil]; rfl) ?_; refine (impl_opener_text_0.calls ht110.out (C_zero _) (Nat.zero_le _) (hV.lend HS HL) HA).mono ?_; rintro _ wt110 ⟨rfl, HQ⟩; refine ⟨_, rfl, ?_⟩; replace HS := HB _ _ HQ (Nat.le_of_ble_eq_true rfl); clear HQ HA HB HL HD; (try simp only [hpn, hpm] at HS); (try clear F); (try simp only [hpn, hpm] at HS); have F := HS.boxes; simp only [boxFacts, and_true] at F) | ((with_reducible refine gate_dst (N := 23) rfl ?_); refine ev_lit rfl Zd.string [] ([t110.1] : List ByteArray) ([.string t110.1] ++ []) HS (by first | (go_simp; done) | (go_simp; rfl)) rfl rfl (Nat.le_of_ble_eq_true rfl) (MadeL.cons (js1 := []) (c := [.string t110.1]) rfl (made_flat (fun _ => rfl)) MadeL.nil (by decide)) ?_; clear HS; (try clear F); intro v112 w112 HS; obtain ⟨B112, d112, rfl, m112⟩ := HS.formn 1 5 rfl rfl; (try simp only [hpn, hpm] at HS); have F := HS.boxes; simp only [boxFacts, and_true] at F) | ((with_reducible refine gate_dst (N := 24) rfl ?_); refine ev_append rfl Zd.string 3 5 HS rfl rfl (by decide) rfl rfl rfl Try.underlying73 info9 rfl (by decide) (by decide) (by have := of_eq_true c114; first | omega | (simp only [List.length_cons, List.length_nil, List.length_append, Nat.zero_add] at this ⊢; omega)) ?_; clear HS; (try clear F); intro v115 w115 HS; rw [← e_y115.out] at HS; obtain ⟨B115, d115, rfl, m115⟩ := HS.form 6 rfl; (try simp only [hpn, hpm] at HS); have F := HS.boxes; simp only [boxFacts, and_true] at F))
       go_roundg k96
       case measure => have := HKk96.out; omega
       case rel => exact ⟨_, _, _, _, rfl, rfl, H, ⟨by have := HKk96.out; omega⟩, HS.pick [0, 1, 2, 6] (by decide) (by rfl)⟩
     · replace H := zneg c102 H
       replace c102 := eq_false c102
       obtain ⟨rfl, rfl⟩ := zsome2 H
       go_wp2
       exact bodyPost_ret (results_single rfl (.tmp .nil)) rfl ⟨_, rfl, HS.pick [0, 3] (by decide) (by rfl)⟩
/-! ### impl_textsOk_1: function 187 -/
def impl_textsOk_1.f (a0 : ByteArray) : Option (Bool) := (some (decide (400 < (a0.size : Int))))
set_option maxHeartbeats 16000000 in
theorem impl_textsOk_1.calls {a0 : ByteArray} {r : Bool} {w : World} (h : impl_textsOk_1.f a0 = some r) :
    Calls Try.prog 187 #[.string a0] w (fun e w' => e = .returned (.bool r) ∧ Hp noFP w w' []) := by
 have HS := Hp.start w
 have H := Aside0.mk h
 clear h
 unfold impl_textsOk_1.f at H
 go_enter Try.func187, Try.ntmps187
 obtain rfl := zsome H
 go_wp2
 go_ret
 exact ⟨rfl, HS.pick [] (by decide) (by rfl)⟩
/-! ### slices_IndexFunc_string_string_0: function 191 -/
def slices_IndexFunc_string_string_0.l0 : Nat → Int → (List ByteArray) → Option (Int)
  | 0, _, _ => none
  | k + 1, x4, a0 => (if x4 < (a0.length : Int) then (if 0 ≤ x4 then (if x4 < (a0.length : Int) then ((impl_textsOk_1.f (rdOf ByteArray.empty a0 x4)).bind fun t10 => (if t10 = true then (some x4) else (slices_IndexFunc_string_string_0.l0 k (wrap64 (x4 + 1)) a0))) else none) else none) else (some (-1)))
def slices_IndexFunc_string_string_0.f (k : Nat) (a0 : (List ByteArray)) : Option (Int) := (slices_IndexFunc_string_string_0.l0 k 0 a0)
set_option maxHeartbeats 16000000 in
theorem slices_IndexFunc_string_string_0.calls {k : Nat} {a0 : (List ByteArray)} {Ap0 : Option Addr} {np0 cp0 : Nat} {r : Int} {w : World} (h : slices_IndexFunc_string_string_0.f k a0 = some r) (gp0 : Kd.string.C w Ap0 np0 a0) (lp0 : np0 ≤ cp0) :
    Calls Try.prog 191 #[.slice Ap0 np0 cp0, .func (.func 187) #[] #[]] w (fun e w' => e = .returned (.int .i64 r) ∧ Hp noFP w w' []) := by
 obtain rfl := C_len gp0
 have HS := Hp.start w
 have H := Aside0.mk h
 clear h
 unfold slices_IndexFunc_string_string_0.f at H
 go_enter Try.func191, Try.ntmps191
 go_wp2
 go_loopg [8] k (fun kq v_8 w' => ∃ (x4 : Int), v_8 = .int .i64 x4 ∧ Aside0 (slices_IndexFunc_string_string_0.l0 kq x4 a0 = some r) ∧ Aside0 (kq ≤ k) ∧ Hp noFP w w' [])
 case atStart => exact ⟨_, rfl, H, ⟨Nat.le_refl _⟩, HS⟩
 case round =>
  clear HS H; (try clear F)
  obtain ⟨x4, rfl, H, HKk3, HS⟩ := hrel
  cases gk with
  | zero => exact absurd H.out (by simp [slices_IndexFunc_string_string_0.l0])
  | succ k3 =>
   simp only [slices_IndexFunc_string_string_0.l0] at H
   by_cases c6 : x4 < (a0.length : Int)
   · replace H := zpos c6 H
     replace c6 := eq_true c6
     by_cases c7 : 0 ≤ x4
     case neg => exact zno c7 H
     replace H := zpos c7 H
     replace c7 := eq_true c7
     by_cases c8 : x4 < (a0.length : Int)
     case neg => exact zno c8 H
     replace H := zpos c8 H
     replace c8 := eq_true c8
     obtain ⟨ad9, rfl, e9_0⟩ := Kd.at_string gp0 x4 (of_eq_true c7) (of_eq_true c8)
     have e9_0_9 := (HS.keepc e9_0)
     replace H := zbind H; obtain ⟨t10, ht10, H⟩ := H
     go_upto_if 16 with (first | ((with_reducible refine gate_dst (N := 16) rfl ?_); refine ev_callv rfl Try.func187 (by kernel_rfl) rfl #[.string (rdOf ByteArray.empty a0 x4)] #[.string (rdOf ByteArray.empty a0 x4)] rfl rfl (by simp only [List.map_toArray, List.map_cons, List.map_nil]; rfl) (by first | rfl | simp) ?_; refine (impl_textsOk_1.calls ht10.out).mono ?_; rintro _ wt10 ⟨rfl, HQ⟩; refine ⟨_, rfl, ?_⟩; replace HS := HS.call HQ; clear HQ; (try clear F); (try simp only [hpn, hpm] at HS)))
     by_cases c12 : t10 = true
     · replace H := zpos c12 H
       subst c12
       (try simp only [dcn, if_true, Bool.false_eq_true, if_false])
       obtain rfl := zsome H
       go_wp2
       go_ret
       exact ⟨rfl, HS.pick [] (by decide) (by rfl)⟩
     · replace H := zneg c12 H
       replace c12 := eq_false_of_ne_true c12
       subst c12
       (try simp only [dcn, if_true, Bool.false_eq_true, if_false])
       go_wp2
       go_roundg k3
       case measure => have := HKk3.out; omega
       case rel => exact ⟨_, rfl, H, ⟨by have := HKk3.out; omega⟩, HS.pick [] (by decide) (by rfl)⟩
   · replace H := zneg c6 H
     replace c6 := eq_false c6
     obtain rfl := zsome H
     go_wp2
     go_ret
     exact ⟨rfl, HS.pick [] (by decide) (by rfl)⟩
/-! ### slices_ContainsFunc_string_string_0: function 186 -/
def slices_ContainsFunc_string_string_0.f (k : Nat) (a0 : (List ByteArray)) : Option (Bool) := ((slices_IndexFunc_string_string_0.f k a0).bind fun t1 => (some (decide (0 ≤ t1))))
set_option maxHeartbeats 16000000 in
theorem slices_ContainsFunc_string_string_0.calls {k : Nat} {a0 : (List ByteArray)} {Ap0 : Option Addr} {np0 cp0 : Nat} {r : Bool} {w : World} (h : slices_ContainsFunc_string_string_0.f k a0 = some r) (gp0 : Kd.string.C w Ap0 np0 a0) (lp0 : np0 ≤ cp0) :
    Calls Try.prog 186 #[.slice Ap0 np0 cp0, .func (.func 187) #[] #[]] w (fun e w' => e = .returned (.bool r) ∧ Hp noFP w w' []) := by
 obtain rfl := C_len gp0
 have HS := Hp.start w
 have H := Aside0.mk h
 clear h
 unfold slices_ContainsFunc_string_string_0.f at H
 go_enter Try.func186, Try.ntmps186
 replace H := zbind H; obtain ⟨t1, ht1, H⟩ := H
 obtain rfl := zsome H
 go_wp2_with (first | ((with_reducible refine gate_dst (N := 7) rfl ?_); refine ev_call rfl Try.func191 (by kernel_rfl) rfl #[.slice Ap0 a0.length cp0, .func (.func 187) #[] #[]] rfl (by simp only [List.map_toArray, List.map_cons, List.map_nil]; rfl) ?_; refine (slices_IndexFunc_string_string_0.calls ht1.out (HS.ro gp0) lp0).mono ?_; rintro _ wt1 ⟨rfl, HQ⟩; refine ⟨_, rfl, ?_⟩; replace HS := HS.call HQ; clear HQ; (try clear F); (try simp only [hpn, hpm] at HS)))
 go_ret
 exact ⟨rfl, HS.pick [] (by decide) (by rfl)⟩
/-! ### impl_textsOk: function 174 -/
def impl_textsOk.f (k : Nat) (a0 : (List ByteArray)) (a1 : Int) : Option (Bool) := (if (a0.length : Int) ≤ a1 then ((slices_ContainsFunc_string_string_0.f k a0).bind fun t2 => (some (!t2))) else (some false))
set_option maxHeartbeats 16000000 in
theorem impl_textsOk.calls {k : Nat} {a0 : (List ByteArray)} {a1 : Int} {Ap0 : Option Addr} {np0 cp0 : Nat} {r : Bool} {w : World} (h : impl_textsOk.f k a0 a1 = some r) (gp0 : Kd.string.C w Ap0 np0 a0) (lp0 : np0 ≤ cp0) :
    Calls Try.prog 174 #[.slice Ap0 np0 cp0, .int .i64 a1] w (fun e w' => e = .returned (.bool r) ∧ Hp noFP w w' []) := by
 obtain rfl := C_len gp0
 have HS := Hp.start w
 have H := Aside0.mk h
 clear h
 unfold impl_textsOk.f at H
 go_enter Try.func174, Try.ntmps174
 by_cases c1 : (a0.length : Int) ≤ a1
 · replace H := zpos c1 H
   replace c1 := eq_true c1
   replace H := zbind H; obtain ⟨t2, ht2, H⟩ := H
   obtain rfl := zsome H
   go_wp2_with (first | ((with_reducible refine gate_dst (N := 11) rfl ?_); refine gate_guard (by rfl) ?_; refine ev_call rfl Try.func186 (by kernel_rfl) rfl #[.slice Ap0 a0.length cp0, .func (.func 187) #[] #[]] rfl (by simp only [List.map_toArray, List.map_cons, List.map_nil]; rfl) ?_; refine (slices_ContainsFunc_string_string_0.calls ht2.out (HS.ro gp0) lp0).mono ?_; rintro _ wt2 ⟨rfl, HQ⟩; refine ⟨_, rfl, ?_⟩; replace HS := HS.call HQ; clear HQ; (try clear F); (try simp only [hpn, hpm] at HS)))
   go_ret
   exact ⟨rfl, HS.pick [] (by decide) (by rfl)⟩
 · replace H := zneg c1 H
   replace c1 := eq_false c1
   obtain rfl := zsome H
   go_wp2
   go_ret
   exact ⟨rfl, HS.pick [] (by decide) (by rfl)⟩
/-! ### impl_answerOk: function 163 -/
def impl_answerOk.f (k : Nat) (a0 : S109) : Option (Bool) := ((impl_within.f a0.f0 0 2).bind fun t3 => (if t3 = true then ((impl_within.f a0.f1 0 12).bind fun t6 => (if t6 = true then ((impl_textsOk.f k a0.f2 5).bind fun t9 => (if t9 = true then ((impl_textsOk.f k a0.f3 8).bind fun t12 => (some t12)) else (some false))) else (some false))) else (some false)))
set_option maxHeartbeats 16000000 in
theorem impl_answerOk.calls {k : Nat} {a0 : S109} {Ap0 : Option Addr} {np0 cp0 : Nat} {Ap1 : Option Addr} {np1 cp1 : Nat} {r : Bool} {w : World} (h : impl_answerOk.f k a0 = some r) (gp0 : Kd.string.C w Ap0 np0 a0.f2) (lp0 : np0 ≤ cp0) (gp1 : Kd.string.C w Ap1 np1 a0.f3) (lp1 : np1 ≤ cp1) :
    Calls Try.prog 163 #[.agg #[.int .i64 a0.f0, .int .i64 a0.f1, .slice Ap0 np0 cp0, .slice Ap1 np1 cp1]] w (fun e w' => e = .returned (.bool r) ∧ Hp noFP w w' []) := by
 obtain rfl := C_len gp0
 obtain rfl := C_len gp1
 have HS := Hp.start w
 have H := Aside0.mk h
 clear h
 unfold impl_answerOk.f at H
 go_enter Try.func163, Try.ntmps163
 replace H := zbind H; obtain ⟨t3, ht3, H⟩ := H
 by_cases c5 : t3 = true
 · replace H := zpos c5 H
   subst c5
   replace H := zbind H; obtain ⟨t6, ht6, H⟩ := H
   by_cases c8 : t6 = true
   · replace H := zpos c8 H
     subst c8
     replace H := zbind H; obtain ⟨t9, ht9, H⟩ := H
     by_cases c11 : t9 = true
     · replace H := zpos c11 H
       subst c11
       replace H := zbind H; obtain ⟨t12, ht12, H⟩ := H
       obtain rfl := zsome H
       go_wp2_with (first | ((with_reducible refine gate_dst (N := 1) rfl ?_); refine ev_box rfl HS (by first | (go_simp; done) | (go_simp; rfl)) rfl ?_; clear HS; (try clear F); intro g1 w1 HS; (try simp only [hpn, hpm] at HS); have F := HS.boxes; simp only [boxFacts, and_true] at F) | ((with_reducible refine gate_dst (N := 5) rfl ?_); refine ev_call rfl Try.func78 (by kernel_rfl) rfl #[.int .i64 a0.f0, .int .i64 0, .int .i64 2] rfl (by simp only [List.map_toArray, List.map_cons, List.map_nil]; rfl) ?_; refine (impl_within.calls ht3.out).mono ?_; rintro _ wt3 ⟨rfl, HQ⟩; refine ⟨_, rfl, ?_⟩; replace HS := HS.call HQ; clear HQ; (try clear F); (try simp only [hpn, hpm] at HS); have F := HS.boxes; simp only [boxFacts, and_true] at F) | ((with_reducible refine gate_dst (N := 9) rfl ?_); refine gate_guard (by rfl) ?_; refine ev_call rfl Try.func78 (by kernel_rfl) rfl #[.int .i64 a0.f1, .int .i64 0, .int .i64 12] rfl (by simp only [List.map_toArray, List.map_cons, List.map_nil]; rfl) ?_; refine (impl_within.calls ht6.out).mono ?_; rintro _ wt6 ⟨rfl, HQ⟩; refine ⟨_, rfl, ?_⟩; replace HS := HS.call HQ; clear HQ; (try clear F); (try simp only [hpn, hpm] at HS); have F := HS.boxes; simp only [boxFacts, and_true] at F) | ((with_reducible refine gate_dst (N := 14) rfl ?_); refine gate_guard (by rfl) ?_; refine ev_call rfl Try.func174 (by kernel_rfl) rfl #[.slice Ap0 a0.f2.length cp0, .int .i64 5] rfl (by simp only [List.map_toArray, List.map_cons, List.map_nil]; rfl) ?_; refine (impl_textsOk.calls ht9.out (HS.ro gp0) lp0).mono ?_; rintro _ wt9 ⟨rfl, HQ⟩; refine ⟨_, rfl, ?_⟩; replace HS := HS.call HQ; clear HQ; (try clear F); (try simp only [hpn, hpm] at HS); have F := HS.boxes; simp only [boxFacts, and_true] at F) | ((with_reducible refine gate_dst (N := 19) rfl ?_); refine gate_guard (by rfl) ?_; refine ev_call rfl Try.func174 (by kernel_rfl) rfl #[.slice Ap1 a0.f3.length cp1, .int .i64 8] rfl (by simp only [List.map_toArray, List.map_cons, List.map_nil]; rfl) ?_; refine (impl_textsOk.calls ht12.out (HS.ro gp1) lp1).mono ?_; rintro _ wt12 ⟨rfl, HQ⟩; refine ⟨_, rfl, ?_⟩; replace HS := HS.call HQ; clear HQ; (try clear F); (try simp only [hpn, hpm] at HS); have F := HS.boxes; simp only [boxFacts, and_true] at F))
       go_ret
       exact ⟨rfl, HS.pick [] (by decide) (by rfl)⟩
     · replace H := zneg c11 H
       replace c11 := eq_false_of_ne_true c11
       subst c11
       obtain rfl := zsome H
       go_wp2_with (first | ((with_reducible refine gate_dst (N := 1) rfl ?_); refine ev_box rfl HS (by first | (go_simp; done) | (go_simp; rfl)) rfl ?_; clear HS; (try clear F); intro g1 w1 HS; (try simp only [hpn, hpm] at HS); have F := HS.boxes; simp only [boxFacts, and_true] at F) | ((with_reducible refine gate_dst (N := 5) rfl ?_); refine ev_call rfl Try.func78 (by kernel_rfl) rfl #[.int .i64 a0.f0, .int .i64 0, .int .i64 2] rfl (by simp only [List.map_toArray, List.map_cons, List.map_nil]; rfl) ?_; refine (impl_within.calls ht3.out).mono ?_; rintro _ wt3 ⟨rfl, HQ⟩; refine ⟨_, rfl, ?_⟩; replace HS := HS.call HQ; clear HQ; (try clear F); (try simp only [hpn, hpm] at HS); have F := HS.boxes; simp only [boxFacts, and_true] at F) | ((with_reducible refine gate_dst (N := 9) rfl ?_); refine gate_guard (by rfl) ?_; refine ev_call rfl Try.func78 (by kernel_rfl) rfl #[.int .i64 a0.f1, .int .i64 0, .int .i64 12] rfl (by simp only [List.map_toArray, List.map_cons, List.map_nil]; rfl) ?_; refine (impl_within.calls ht6.out).mono ?_; rintro _ wt6 ⟨rfl, HQ⟩; refine ⟨_, rfl, ?_⟩; replace HS := HS.call HQ; clear HQ; (try clear F); (try simp only [hpn, hpm] at HS); have F := HS.boxes; simp only [boxFacts, and_true] at F) | ((with_reducible refine gate_dst (N := 14) rfl ?_); refine gate_guard (by rfl) ?_; refine ev_call rfl Try.func174 (by kernel_rfl) rfl #[.slice Ap0 a0.f2.length cp0, .int .i64 5] rfl (by simp only [List.map_toArray, List.map_cons, List.map_nil]; rfl) ?_; refine (impl_textsOk.calls ht9.out (HS.ro gp0) lp0).mono ?_; rintro _ wt9 ⟨rfl, HQ⟩; refine ⟨_, rfl, ?_⟩; replace HS := HS.call HQ; clear HQ; (try clear F); (try simp only [hpn, hpm] at HS); have F := HS.boxes; simp only [boxFacts, and_true] at F))
       go_ret
       exact ⟨rfl, HS.pick [] (by decide) (by rfl)⟩
   · replace H := zneg c8 H
     replace c8 := eq_false_of_ne_true c8
     subst c8
     obtain rfl := zsome H
     go_wp2_with (first | ((with_reducible refine gate_dst (N := 1) rfl ?_); refine ev_box rfl HS (by first | (go_simp; done) | (go_simp; rfl)) rfl ?_; clear HS; (try clear F); intro g1 w1 HS; (try simp only [hpn, hpm] at HS); have F := HS.boxes; simp only [boxFacts, and_true] at F) | ((with_reducible refine gate_dst (N := 5) rfl ?_); refine ev_call rfl Try.func78 (by kernel_rfl) rfl #[.int .i64 a0.f0, .int .i64 0, .int .i64 2] rfl (by simp only [List.map_toArray, List.map_cons, List.map_nil]; rfl) ?_; refine (impl_within.calls ht3.out).mono ?_; rintro _ wt3 ⟨rfl, HQ⟩; refine ⟨_, rfl, ?_⟩; replace HS := HS.call HQ; clear HQ; (try clear F); (try simp only [hpn, hpm] at HS); have F := HS.boxes; simp only [boxFacts, and_true] at F) | ((with_reducible refine gate_dst (N := 9) rfl ?_); refine gate_guard (by rfl) ?_; refine ev_call rfl Try.func78 (by kernel_rfl) rfl #[.int .i64 a0.f1, .int .i64 0, .int .i64 12] rfl (by simp only [List.map_toArray, List.map_cons, List.map_nil]; rfl) ?_; refine (impl_within.calls ht6.out).mono ?_; rintro _ wt6 ⟨rfl, HQ⟩; refine ⟨_, rfl, ?_⟩; replace HS := HS.call HQ; clear HQ; (try clear F); (try simp only [hpn, hpm] at HS); have F := HS.boxes; simp only [boxFacts, and_true] at F))
     go_ret
     exact ⟨rfl, HS.pick [] (by decide) (by rfl)⟩
 · replace H := zneg c5 H
   replace c5 := eq_false_of_ne_true c5
   subst c5
   obtain rfl := zsome H
   go_wp2_with (first | ((with_reducible refine gate_dst (N := 1) rfl ?_); refine ev_box rfl HS (by first | (go_simp; done) | (go_simp; rfl)) rfl ?_; clear HS; (try clear F); intro g1 w1 HS; (try simp only [hpn, hpm] at HS); have F := HS.boxes; simp only [boxFacts, and_true] at F) | ((with_reducible refine gate_dst (N := 5) rfl ?_); refine ev_call rfl Try.func78 (by kernel_rfl) rfl #[.int .i64 a0.f0, .int .i64 0, .int .i64 2] rfl (by simp only [List.map_toArray, List.map_cons, List.map_nil]; rfl) ?_; refine (impl_within.calls ht3.out).mono ?_; rintro _ wt3 ⟨rfl, HQ⟩; refine ⟨_, rfl, ?_⟩; replace HS := HS.call HQ; clear HQ; (try clear F); (try simp only [hpn, hpm] at HS); have F := HS.boxes; simp only [boxFacts, and_true] at F))
   go_ret
   exact ⟨rfl, HS.pick [] (by decide) (by rfl)⟩
end Go.Proofs.Ytoaoncnbimcdgaa.F
