/- Functions of the program and of the law, and that their calls do what is written here. -/
import Derived.Test.YtfeebnbookfpmaaZT
namespace Go.Proofs.Ytfeebnbookfpmaa.F
open Go.RowKit Go.Proofs.YtfeebnbookfpmaaW.PrintWords Go.Proofs.YtfeebnbookfpmaaW.PrintLast Go.Proofs.YtfeebnbookfpmaaW.PrintMore Go.Proofs.Ytfeebnbookfpmaa.Z
attribute [local go_sem] max2_int min2_int max_two min_two max_three min_three max_four min_four
set_option linter.unusedVariables false
set_option linter.unusedSimpArgs false
set_option maxRecDepth 100000
/-! ### laws_szStringS: function 81 -/
def laws_szStringS.l0 : Nat → Int → Int → (List ByteArray) → Option (Int)
  | 0, _, _, _ => none
  | k + 1, x9, x10, a0 => (if x10 < (a0.length : Int) then (if 0 ≤ x10 then (if x10 < (a0.length : Int) then (if (wrap64 (x9 - ((rdOf ByteArray.empty a0 x10).size : Int))) < 0 then (some (-1)) else (laws_szStringS.l0 k (wrap64 (x9 - ((rdOf ByteArray.empty a0 x10).size : Int))) (wrap64 (x10 + 1)) a0)) else none) else none) else (some x9))
def laws_szStringS.f (k : Nat) (a0 : (List ByteArray)) (a1 : Int) : Option (Int) := (if (wrap64 (a1 - (a0.length : Int))) < 0 then (some (-1)) else (laws_szStringS.l0 k (wrap64 (a1 - (a0.length : Int))) 0 a0))
set_option maxHeartbeats 16000000 in
theorem laws_szStringS.calls {k : Nat} {a0 : (List ByteArray)} {a1 : Int} {Ap0 : Option Addr} {np0 cp0 : Nat} {r : Int} {w : World} (h : laws_szStringS.f k a0 a1 = some r) (gp0 : Kd.string.C w Ap0 np0 a0) (lp0 : np0 ≤ cp0) :
    Calls Try.prog 81 #[.slice Ap0 np0 cp0, .int .i64 a1] w (fun e w' => e = .returned (.int .i64 r) ∧ Hp noFP w w' []) := by
 obtain rfl := C_len gp0
 have HS := Hp.start w
 have H := Aside0.mk h
 clear h
 unfold laws_szStringS.f at H
 go_enter Try.func81, Try.ntmps81
 by_cases c1 : (wrap64 (a1 - (a0.length : Int))) < 0
 · replace H := zpos c1 H
   replace c1 := eq_true c1
   obtain rfl := zsome H
   go_wp2
   go_ret
   exact ⟨rfl, HS.pick [] (by decide) (by rfl)⟩
 · replace H := zneg c1 H
   replace c1 := eq_false c1
   go_wp2
   go_loopg [1, 5] k (fun kq v_1 v_5 w' => ∃ (x9 : Int) (x10 : Int), v_1 = .int .i64 x9 ∧ v_5 = .int .i64 x10 ∧ Aside0 (laws_szStringS.l0 kq x9 x10 a0 = some r) ∧ Aside0 (kq ≤ k) ∧ Hp noFP w w' [])
   case atStart => exact ⟨_, _, rfl, rfl, H, ⟨Nat.le_refl _⟩, HS⟩
   case round =>
    clear HS H; (try clear F)
    obtain ⟨x9, x10, rfl, rfl, H, HKk8, HS⟩ := hrel
    cases gk with
    | zero => exact absurd H.out (by simp [laws_szStringS.l0])
    | succ k8 =>
     simp only [laws_szStringS.l0] at H
     by_cases c12 : x10 < (a0.length : Int)
     · replace H := zpos c12 H
       replace c12 := eq_true c12
       by_cases c13 : 0 ≤ x10
       case neg => exact zno c13 H
       replace H := zpos c13 H
       replace c13 := eq_true c13
       by_cases c14 : x10 < (a0.length : Int)
       case neg => exact zno c14 H
       replace H := zpos c14 H
       replace c14 := eq_true c14
       obtain ⟨ad15, rfl, e15_0⟩ := Kd.at_string gp0 x10 (of_eq_true c13) (of_eq_true c14)
       replace e15_0 := HS.keepc e15_0
       by_cases c16 : (wrap64 (x9 - ((rdOf ByteArray.empty a0 x10).size : Int))) < 0
       · replace H := zpos c16 H
         replace c16 := eq_true c16
         obtain rfl := zsome H
         go_wp2
         go_ret
         exact ⟨rfl, HS.pick [] (by decide) (by rfl)⟩
       · replace H := zneg c16 H
         replace c16 := eq_false c16
         go_wp2
         go_roundg k8
         case measure => have := HKk8.out; omega
         case rel => exact ⟨_, _, rfl, rfl, H, ⟨by have := HKk8.out; omega⟩, HS.pick [] (by decide) (by rfl)⟩
     · replace H := zneg c12 H
       replace c12 := eq_false c12
       obtain rfl := zsome H
       go_wp2
       go_ret
       exact ⟨rfl, HS.pick [] (by decide) (by rfl)⟩
/-! ### laws_szAsk: function 24 -/
def laws_szAsk.f (k : Nat) (a0 : S40) (a1 : Int) : Option (Int) := ((laws_szStringS.f k a0.f0 a1).bind fun t3 => (if t3 < 0 then (some (-1)) else (some t3)))
set_option maxHeartbeats 16000000 in
theorem laws_szAsk.calls {k : Nat} {a0 : S40} {a1 : Int} {Ap0 : Option Addr} {np0 cp0 : Nat} {r : Int} {w : World} (h : laws_szAsk.f k a0 a1 = some r) (gp0 : Kd.string.C w Ap0 np0 a0.f0) (lp0 : np0 ≤ cp0) :
    Calls Try.prog 24 #[.agg #[.slice Ap0 np0 cp0, .int .i64 a0.f1, .int .i64 a0.f2, .int .i64 a0.f3, .int .i64 a0.f4, .bool a0.f5], .int .i64 a1] w (fun e w' => e = .returned (.int .i64 r) ∧ Hp noFP w w' []) := by
 obtain rfl := C_len gp0
 have HS := Hp.start w
 have H := Aside0.mk h
 clear h
 unfold laws_szAsk.f at H
 go_enter Try.func24, Try.ntmps24
 obtain ⟨t3, ht3, H⟩ := zbind H
 go_upto_if 10 with (first | ((with_reducible refine gate_dst (N := 2) rfl ?_); refine ev_box rfl HS (by first | (go_simp; done) | (go_simp; rfl)) rfl ?_; clear HS; (try clear F); intro g2 w2 HS; have F := HS.boxes; simp only [boxFacts, wrt, clr0, clr1, List.cons_append, List.nil_append, List.append_nil, List.set_cons_zero, List.set_cons_succ, and_true] at F) | ((with_reducible refine gate_dst (N := 8) rfl ?_); refine ev_call rfl Try.func81 (by kernel_rfl) rfl #[.slice Ap0 a0.f0.length cp0, .int .i64 a1] rfl (by simp only [List.map_toArray, List.map_cons, List.map_nil]; rfl) ?_; refine (laws_szStringS.calls ht3.out (HS.ro gp0) lp0).mono ?_; rintro _ wt3 ⟨rfl, HQ⟩; refine ⟨_, rfl, ?_⟩; replace HS := HS.call HQ; clear HQ; (try clear F); have F := HS.boxes; simp only [boxFacts, wrt, clr0, clr1, List.cons_append, List.nil_append, List.append_nil, List.set_cons_zero, List.set_cons_succ, and_true] at F))
 by_cases c5 : t3 < 0
 · replace H := zpos c5 H
   replace c5 := eq_true c5
   (try simp only [c5, decide_true, decide_false, Bool.not_true, Bool.not_false])
   obtain rfl := zsome H
   go_wp2
   go_ret
   exact ⟨rfl, HS.pick [] (by decide) (by rfl)⟩
 · replace H := zneg c5 H
   replace c5 := eq_false c5
   (try simp only [c5, decide_true, decide_false, Bool.not_true, Bool.not_false])
   obtain rfl := zsome H
   go_wp2
   go_ret
   exact ⟨rfl, HS.pick [] (by decide) (by rfl)⟩
/-! ### laws_toStringS: function 82 -/
def laws_toStringS.l0 : Nat → (List ByteArray) → Int → (List ByteArray) → Option ((List ByteArray))
  | 0, _, _, _ => none
  | k + 1, l18, x20, a0 => (if x20 < (a0.length : Int) then (if 0 ≤ x20 then (if x20 < (a0.length : Int) then (laws_toStringS.l0 k (l18.set (x20).toNat (rdOf ByteArray.empty a0 x20)) (wrap64 (x20 + 1)) a0) else none) else none) else (some l18))
def laws_toStringS.f (k : Nat) (a0 : (List ByteArray)) : Option ((List ByteArray)) := (if 0 ≤ (a0.length : Int) then (if ((a0.length : Int)).toNat ≤ 17592186044416 then (laws_toStringS.l0 k (List.replicate a0.length (⟨#[]⟩ : ByteArray)) 0 a0) else none) else none)
set_option maxHeartbeats 16000000 in
theorem laws_toStringS.calls {k : Nat} {a0 : (List ByteArray)} {Ap0 : Option Addr} {np0 cp0 : Nat} {r : (List ByteArray)} {w : World} (h : laws_toStringS.f k a0 = some r) (gp0 : Kd.string.C w Ap0 np0 a0) (lp0 : np0 ≤ cp0) :
    Calls Try.prog 82 #[.slice Ap0 np0 cp0] w (fun e w' => ∃ v0_ : Value, e = .returned (v0_) ∧ Hp noFP w w' [.own (Zd.slice 9 Zd.string) r [v0_]]) := by
 obtain rfl := C_len gp0
 have HS := Hp.start w
 have H := Aside0.mk h
 clear h
 unfold laws_toStringS.f at H
 go_enter Try.func82, Try.ntmps82
 by_cases c1 : 0 ≤ (a0.length : Int)
 case neg => exact zno c1 H
 replace H := zpos c1 H
 replace c1 := eq_true c1
 by_cases c2 : ((a0.length : Int)).toNat ≤ 17592186044416
 case neg => exact zno c2 H
 replace H := zpos c2 H
 replace c2 := eq_true c2
 go_wp2_with (first | ((with_reducible refine gate_dst (N := 7) rfl ?_); refine ev_make rfl Zd.string (⟨#[]⟩ : ByteArray) HS rfl (a0.length : Int) rfl rfl Try.underlying38 info9 rfl (by decide) (by decide) (fun _ _ => rfl) (of_eq_true c1) (by have := of_eq_true c2; omega) ?_; clear HS; (try clear F); intro v3 w3 HS; obtain ⟨B3, d3, rfl, m3⟩ := HS.formn a0.length 0 rfl (by first | rfl | simp)))
 go_loopg [4] k (fun kq v_4 w' => ∃ (l18 : List ByteArray) (x20 : Int), v_4 = .int .i64 x20 ∧ Aside0 (laws_toStringS.l0 kq l18 x20 a0 = some r) ∧ Aside0 (kq ≤ k) ∧ Hp noFP w w' [.own (Zd.slice 9 Zd.string) l18 [.slice B3 a0.length d3]])
 case atStart => exact ⟨_, _, rfl, H, ⟨Nat.le_refl _⟩, HS⟩
 case round =>
  clear HS H; (try clear F)
  obtain ⟨l18, x20, rfl, H, HKk17, HS⟩ := hrel
  cases gk with
  | zero => exact absurd H.out (by simp [laws_toStringS.l0])
  | succ k17 =>
   simp only [laws_toStringS.l0] at H
   by_cases c22 : x20 < (a0.length : Int)
   · replace H := zpos c22 H
     replace c22 := eq_true c22
     by_cases c23 : 0 ≤ x20
     case neg => exact zno c23 H
     replace H := zpos c23 H
     replace c23 := eq_true c23
     by_cases c24 : x20 < (a0.length : Int)
     case neg => exact zno c24 H
     replace H := zpos c24 H
     replace c24 := eq_true c24
     obtain ⟨ad25, rfl, e25_0⟩ := Kd.at_string gp0 x20 (of_eq_true c23) (of_eq_true c24)
     replace e25_0 := HS.keepc e25_0
     obtain ⟨ad26, rfl, e26_0⟩ := Kd.at_string (HS.rd 0 rfl) x20 (of_eq_true c23) (of_eq_true c24)
     go_wp2_with (first | ((with_reducible refine gate_store (p := 20) rfl ?_); refine ev_set rfl Zd.string 0 [] x20 (rdOf ByteArray.empty a0 x20) HS (seg := [.string (rdOf ByteArray.empty a0 x20)]) rfl (by decide) rfl rfl rfl (by first | rfl | exact (Nat.mul_one _).symm) rfl rfl (by kernel_rfl) (by simp [Value.oneCell']) ⟨of_eq_true c23, of_eq_true c24⟩ rfl (made_flat (fun _ => rfl)) ?_; clear HS; (try clear F); intro w27 HS))
     go_roundg k17
     case measure => have := HKk17.out; omega
     case rel => exact ⟨_, _, rfl, H, ⟨by have := HKk17.out; omega⟩, HS.pick [0] (by decide) (by rfl)⟩
   · replace H := zneg c22 H
     replace c22 := eq_false c22
     obtain rfl := zsome H
     go_wp2
     exact bodyPost_ret (results_single rfl (.tmp .nil)) rfl ⟨_, rfl, HS.pick [0] (by decide) (by rfl)⟩
/-! ### laws_toAsk: function 26 -/
def laws_toAsk.f (k : Nat) (a0 : S40) : Option (S43) := ((laws_toStringS.f k a0.f0).bind fun t7 => (some (⟨t7, a0.f1, a0.f2, a0.f3, a0.f4, a0.f5⟩ : S43)))
set_option maxHeartbeats 16000000 in
theorem laws_toAsk.calls {k : Nat} {a0 : S40} {Ap0 : Option Addr} {np0 cp0 : Nat} {r : S43} {w : World} (h : laws_toAsk.f k a0 = some r) (gp0 : Kd.string.C w Ap0 np0 a0.f0) (lp0 : np0 ≤ cp0) :
    Calls Try.prog 26 #[.agg #[.slice Ap0 np0 cp0, .int .i64 a0.f1, .int .i64 a0.f2, .int .i64 a0.f3, .int .i64 a0.f4, .bool a0.f5]] w (fun e w' => ∃ v0_ : Value, e = .returned (.agg #[v0_, .int .i64 r.f1, .int .i64 r.f2, .int .i64 r.f3, .int .i64 r.f4, .bool r.f5]) ∧ Hp noFP w w' [.own (Zd.slice 9 Zd.string) r.f0 [v0_]]) := by
 obtain rfl := C_len gp0
 have HS := Hp.start w
 have H := Aside0.mk h
 clear h
 unfold laws_toAsk.f at H
 go_enter Try.func26, Try.ntmps26
 obtain ⟨t7, ht7, H⟩ := zbind H
 obtain rfl := zsome H
 go_wp2_with (first | ((with_reducible refine gate_dst (N := 1) rfl ?_); refine ev_box rfl HS (by first | (go_simp; done) | (go_simp; rfl)) rfl ?_; clear HS; (try clear F); intro g1 w1 HS; have F := HS.boxes; simp only [boxFacts, wrt, clr0, clr1, List.cons_append, List.nil_append, List.append_nil, List.set_cons_zero, List.set_cons_succ, and_true] at F) | ((with_reducible refine gate_dst (N := 2) rfl ?_); refine ev_box rfl HS (by first | (go_simp; done) | (go_simp; rfl)) rfl ?_; clear HS; (try clear F); intro g2 w2 HS; have F := HS.boxes; simp only [boxFacts, wrt, clr0, clr1, List.cons_append, List.nil_append, List.append_nil, List.set_cons_zero, List.set_cons_succ, and_true] at F) | ((with_reducible refine gate_dst (N := 3) rfl ?_); refine ev_box rfl HS (by first | (go_simp; done) | (go_simp; rfl)) rfl ?_; clear HS; (try clear F); intro g3 w3 HS; have F := HS.boxes; simp only [boxFacts, wrt, clr0, clr1, List.cons_append, List.nil_append, List.append_nil, List.set_cons_zero, List.set_cons_succ, and_true] at F) | ((with_reducible refine gate_dst (N := 6) rfl ?_); refine ev_call rfl Try.func82 (by kernel_rfl) rfl #[.slice Ap0 a0.f0.length cp0] rfl (by simp only [List.map_toArray, List.map_cons, List.map_nil]; rfl) ?_; refine (laws_toStringS.calls ht7.out (HS.ro gp0) lp0).mono ?_; rintro _ wt7 ⟨v8, rfl, HQ⟩; refine ⟨_, rfl, ?_⟩; replace HS := HS.call HQ; clear HQ; (try clear F); obtain ⟨B8, d8, rfl, m8⟩ := HS.form 3 rfl; have F := HS.boxes; simp only [boxFacts, wrt, clr0, clr1, List.cons_append, List.nil_append, List.append_nil, List.set_cons_zero, List.set_cons_succ, and_true] at F) | ((with_reducible refine gate_store (p := 7) rfl ?_); refine ev_store rfl 2 0 HS (seg := [.slice B8 t7.length d8]) rfl rfl rfl rfl rfl rfl (by kernel_rfl) (by simp [wrt]) (by simp [Value.oneCell']) ?_; clear HS; (try clear F); intro w10 HS; have F := HS.boxes; simp only [boxFacts, wrt, clr0, clr1, List.cons_append, List.nil_append, List.append_nil, List.set_cons_zero, List.set_cons_succ, and_true] at F) | ((with_reducible refine gate_store (p := 10) rfl ?_); refine ev_store rfl 2 1 HS (seg := [.int .i64 a0.f1]) rfl rfl rfl rfl rfl rfl (by kernel_rfl) (by simp [wrt]) (by simp [Value.oneCell']) ?_; clear HS; (try clear F); intro w12 HS; have F := HS.boxes; simp only [boxFacts, wrt, clr0, clr1, List.cons_append, List.nil_append, List.append_nil, List.set_cons_zero, List.set_cons_succ, and_true] at F) | ((with_reducible refine gate_store (p := 13) rfl ?_); refine ev_store rfl 2 2 HS (seg := [.int .i64 a0.f2]) rfl rfl rfl rfl rfl rfl (by kernel_rfl) (by simp [wrt]) (by simp [Value.oneCell']) ?_; clear HS; (try clear F); intro w14 HS; have F := HS.boxes; simp only [boxFacts, wrt, clr0, clr1, List.cons_append, List.nil_append, List.append_nil, List.set_cons_zero, List.set_cons_succ, and_true] at F) | ((with_reducible refine gate_store (p := 16) rfl ?_); refine ev_store rfl 2 3 HS (seg := [.int .i64 a0.f3]) rfl rfl rfl rfl rfl rfl (by kernel_rfl) (by simp [wrt]) (by simp [Value.oneCell']) ?_; clear HS; (try clear F); intro w16 HS; have F := HS.boxes; simp only [boxFacts, wrt, clr0, clr1, List.cons_append, List.nil_append, List.append_nil, List.set_cons_zero, List.set_cons_succ, and_true] at F) | ((with_reducible refine gate_store (p := 19) rfl ?_); refine ev_store rfl 2 4 HS (seg := [.int .i64 a0.f4]) rfl rfl rfl rfl rfl rfl (by kernel_rfl) (by simp [wrt]) (by simp [Value.oneCell']) ?_; clear HS; (try clear F); intro w18 HS; have F := HS.boxes; simp only [boxFacts, wrt, clr0, clr1, List.cons_append, List.nil_append, List.append_nil, List.set_cons_zero, List.set_cons_succ, and_true] at F) | ((with_reducible refine gate_store (p := 22) rfl ?_); refine ev_store rfl 2 5 HS (seg := [.bool a0.f5]) rfl rfl rfl rfl rfl rfl (by kernel_rfl) (by simp [wrt]) (by simp [Value.oneCell']) ?_; clear HS; (try clear F); intro w20 HS; have F := HS.boxes; simp only [boxFacts, wrt, clr0, clr1, List.cons_append, List.nil_append, List.append_nil, List.set_cons_zero, List.set_cons_succ, and_true] at F) | ((with_reducible refine gate_store (p := 2) rfl ?_); refine ev_store rfl 1 0 HS (seg := [.slice B8 t7.length d8, .int .i64 a0.f1, .int .i64 a0.f2, .int .i64 a0.f3, .int .i64 a0.f4, .bool a0.f5]) rfl rfl rfl rfl rfl rfl (by kernel_rfl) (by simp [wrt]) (by simp [Value.oneCell']) ?_; clear HS; (try clear F); intro w22 HS; have F := HS.boxes; simp only [boxFacts, wrt, clr0, clr1, List.cons_append, List.nil_append, List.append_nil, List.set_cons_zero, List.set_cons_succ, and_true] at F))
 exact bodyPost_ret (results_single rfl (.cell _ _ _ _ _ rfl (HS.boxAt (i := 1) rfl) Try.underlying43 rfl (by kernel_rfl) .nil)) rfl ⟨_, rfl, HS.pick [3] (by decide) (by rfl)⟩
/-! ### laws_eqStringS: function 84 -/
def laws_eqStringS.l0 : Nat → Int → (List ByteArray) → (List ByteArray) → Option (Bool)
  | 0, _, _, _ => none
  | k + 1, x5, a0, a1 => (if x5 < (a0.length : Int) then (if 0 ≤ x5 then (if x5 < (a0.length : Int) then (if x5 < (a1.length : Int) then (if (rdOf ByteArray.empty a0 x5).toList = (rdOf ByteArray.empty a1 x5).toList then (laws_eqStringS.l0 k (wrap64 (x5 + 1)) a0 a1) else (some false)) else none) else none) else none) else (some true))
def laws_eqStringS.f (k : Nat) (a0 : (List ByteArray)) (a1 : (List ByteArray)) : Option (Bool) := (if (a0.length : Int) = (a1.length : Int) then (laws_eqStringS.l0 k 0 a0 a1) else (some false))
def laws_eqStringS.T6 : Bool × List (List Nat × List Nat) := (true, [([], []), ([], []), ([0, 1], [0, 1]), ([2], [2]), ([], []), ([], []), ([4, 5], [4, 5]), ([6], [6]), ([3, 7], [3, 7])])
theorem laws_eqStringS.tT6 : rtab .any (opsOf Try.f84 6) = laws_eqStringS.T6 := by kernel_rfl
set_option maxHeartbeats 16000000 in
theorem laws_eqStringS.calls {k : Nat} {a0 : (List ByteArray)} {a1 : (List ByteArray)} {Ap0 : Option Addr} {np0 cp0 : Nat} {Ap1 : Option Addr} {np1 cp1 : Nat} {r : Bool} {w : World} (h : laws_eqStringS.f k a0 a1 = some r) (gp0 : Kd.string.C w Ap0 np0 a0) (lp0 : np0 ≤ cp0) (gp1 : Kd.string.C w Ap1 np1 a1) (lp1 : np1 ≤ cp1) :
    Calls Try.prog 84 #[.slice Ap0 np0 cp0, .slice Ap1 np1 cp1] w (fun e w' => e = .returned (.bool r) ∧ Hp noFP w w' []) := by
 obtain rfl := C_len gp0
 obtain rfl := C_len gp1
 have HS := Hp.start w
 have H := Aside0.mk h
 clear h
 unfold laws_eqStringS.f at H
 go_enter Try.func84, Try.ntmps84
 by_cases c1 : (a0.length : Int) = (a1.length : Int)
 · replace H := zpos c1 H
   have c1a := beq_iff_eq.mpr c1
   have c1b := bne_eq_false_iff_eq.mpr c1
   clear c1
   go_wp2
   go_loopg [5] k (fun kq v_5 w' => ∃ (x5 : Int), v_5 = .int .i64 x5 ∧ Aside0 (laws_eqStringS.l0 kq x5 a0 a1 = some r) ∧ Aside0 (kq ≤ k) ∧ Hp noFP w w' [])
   case atStart => exact ⟨_, rfl, H, ⟨Nat.le_refl _⟩, HS⟩
   case round =>
    clear HS H; (try clear F)
    obtain ⟨x5, rfl, H, HKk4, HS⟩ := hrel
    cases gk with
    | zero => exact absurd H.out (by simp [laws_eqStringS.l0])
    | succ k4 =>
     simp only [laws_eqStringS.l0] at H
     by_cases c7 : x5 < (a0.length : Int)
     · replace H := zpos c7 H
       replace c7 := eq_true c7
       (try go_wp2)
       by_cases c102001 : 0 ≤ x5
       case neg => exact zno c102001 H
       replace H := zpos c102001 H
       replace c102001 := eq_true c102001
       by_cases c102002 : x5 < (a0.length : Int)
       case neg => exact zno c102002 H
       replace H := zpos c102002 H
       replace c102002 := eq_true c102002
       obtain ⟨ad102003, rfl, e102003_0⟩ := Kd.at_string gp0 x5 (of_eq_true c102001) (of_eq_true c102002)
       by_cases c106001 : x5 < (a1.length : Int)
       case neg => exact zno c106001 H
       replace H := zpos c106001 H
       replace c106001 := eq_true c106001
       obtain ⟨ad106002, rfl, e106002_0⟩ := Kd.at_string gp1 x5 (of_eq_true c102001) (of_eq_true c106001)
       refine dr_start [] HS #[false, false, false, false, false, false, false, false, false] (by kernel_rfl) rfl rfl laws_eqStringS.tT6 (fun w9 HT HS HH => ?_)
       (try clear F)
       refine dr_pure 0 (some 17) HT (v := ?_) (a' := ?_) rfl rfl (by kernel_rfl) (fun _ _ _ h => h) (.inl ⟨by rfl, ?_⟩) ?_ ?_
       rotate_left
       · intro w'; go_simp; with_reducible rfl
       rotate_left
       · simp only [Act.put, List.setIfInBounds_toArray, List.set_cons_zero, List.set_cons_succ, i64_w, i32_w]; rfl
       refine dr_pure 1 (some 18) HT (v := ?_) (a' := ?_) rfl rfl (by kernel_rfl) (fun _ _ _ h => h) (.inl ⟨by rfl, ?_⟩) ?_ ?_
       rotate_left
       · intro w'; go_simp; with_reducible rfl
       rotate_left
       · simp only [Act.put, List.setIfInBounds_toArray, List.set_cons_zero, List.set_cons_succ, i64_w, i32_w]; rfl
       refine dr_pure 2 (some 19) HT (v := ?_) (a' := ?_) rfl rfl (by kernel_rfl) (fun _ _ _ h => h) (.inl ⟨by rfl, ?_⟩) ?_ ?_
       rotate_left
       · intro w'; go_simp; with_reducible rfl
       rotate_left
       · simp only [Act.put, List.setIfInBounds_toArray, List.set_cons_zero, List.set_cons_succ, i64_w, i32_w]; rfl
       refine dr_take 3 (some 20) HT HH (v := ?_) (a' := ?_) rfl rfl (by kernel_rfl) (fun _ _ _ h => h) (.inl ⟨by rfl, ?_⟩) ?_ ?_
       rotate_left
       · rintro w' ⟨rs', HS'⟩; have e102003_0 := HS'.keepc e102003_0; go_simp; with_reducible rfl
       rotate_left
       · simp only [Act.put, List.setIfInBounds_toArray, List.set_cons_zero, List.set_cons_succ, i64_w, i32_w]; rfl
       refine dr_pure 4 (some 21) HT (v := ?_) (a' := ?_) rfl rfl (by kernel_rfl) (fun _ _ _ h => h) (.inl ⟨by rfl, ?_⟩) ?_ ?_
       rotate_left
       · intro w'; go_simp; with_reducible rfl
       rotate_left
       · simp only [Act.put, List.setIfInBounds_toArray, List.set_cons_zero, List.set_cons_succ, i64_w, i32_w]; rfl
       refine dr_pure 5 (some 22) HT (v := ?_) (a' := ?_) rfl rfl (by kernel_rfl) (fun _ _ _ h => h) (.inl ⟨by rfl, ?_⟩) ?_ ?_
       rotate_left
       · intro w'; go_simp; with_reducible rfl
       rotate_left
       · simp only [Act.put, List.setIfInBounds_toArray, List.set_cons_zero, List.set_cons_succ, i64_w, i32_w]; rfl
       refine dr_pure 6 (some 23) HT (v := ?_) (a' := ?_) rfl rfl (by kernel_rfl) (fun _ _ _ h => h) (.inl ⟨by rfl, ?_⟩) ?_ ?_
       rotate_left
       · intro w'; go_simp; with_reducible rfl
       rotate_left
       · simp only [Act.put, List.setIfInBounds_toArray, List.set_cons_zero, List.set_cons_succ, i64_w, i32_w]; rfl
       refine dr_take 7 (some 24) HT HH (v := ?_) (a' := ?_) rfl rfl (by kernel_rfl) (fun _ _ _ h => h) (.inl ⟨by rfl, ?_⟩) ?_ ?_
       rotate_left
       · rintro w' ⟨rs', HS'⟩; have e106002_0 := HS'.keepc e106002_0; go_simp; with_reducible rfl
       rotate_left
       · simp only [Act.put, List.setIfInBounds_toArray, List.set_cons_zero, List.set_cons_succ, i64_w, i32_w]; rfl
       refine dr_pure 8 (some 25) HT (v := ?_) (a' := ?_) rfl rfl (by kernel_rfl) (fun _ _ _ h => h) (.inl ⟨by rfl, ?_⟩) ?_ ?_
       rotate_left
       · intro w'; go_simp; with_reducible rfl
       rotate_left
       · simp only [Act.put, List.setIfInBounds_toArray, List.set_cons_zero, List.set_cons_succ, i64_w, i32_w]; rfl
       refine done_ (done_of HT.out (by kernel_rfl)) ?_
       by_cases c11 : (rdOf ByteArray.empty a0 x5).toList = (rdOf ByteArray.empty a1 x5).toList
       · replace H := zpos c11 H
         have c11a := beq_iff_eq.mpr c11
         have c11b := bne_eq_false_iff_eq.mpr c11
         clear c11
         (try simp only [c11a, c11b, decide_true, decide_false, Bool.not_true, Bool.not_false])
         go_wp2
         go_roundg k4
         case measure => have := HKk4.out; omega
         case rel => exact ⟨_, rfl, H, ⟨by have := HKk4.out; omega⟩, HS.pick [] (by decide) (by rfl)⟩
       · replace H := zneg c11 H
         have c11a := beq_eq_false_iff_ne.mpr c11
         have c11b := bne_iff_ne.mpr c11
         clear c11
         (try simp only [c11a, c11b, decide_true, decide_false, Bool.not_true, Bool.not_false])
         obtain rfl := zsome H
         go_wp2
         go_ret
         exact ⟨rfl, HS.pick [] (by decide) (by rfl)⟩
     · replace H := zneg c7 H
       replace c7 := eq_false c7
       obtain rfl := zsome H
       go_wp2
       go_ret
       exact ⟨rfl, HS.pick [] (by decide) (by rfl)⟩
 · replace H := zneg c1 H
   have c1a := beq_eq_false_iff_ne.mpr c1
   have c1b := bne_iff_ne.mpr c1
   clear c1
   obtain rfl := zsome H
   go_wp2
   go_ret
   exact ⟨rfl, HS.pick [] (by decide) (by rfl)⟩
/-! ### laws_eqAsk: function 28 -/
def laws_eqAsk.f (k : Nat) (a0 : S43) (a1 : S43) : Option (Bool) := ((laws_eqStringS.f k a0.f0 a1.f0).bind fun t5 => (if t5 = true then (if a0.f1 = a1.f1 then (if a0.f2 = a1.f2 then (if a0.f3 = a1.f3 then (if a0.f4 = a1.f4 then (if a0.f5 = a1.f5 then (some true) else (some false)) else (some false)) else (some false)) else (some false)) else (some false)) else (some false)))
set_option maxHeartbeats 16000000 in
theorem laws_eqAsk.calls {k : Nat} {a0 : S43} {a1 : S43} {Ap0 : Option Addr} {np0 cp0 : Nat} {Ap1 : Option Addr} {np1 cp1 : Nat} {r : Bool} {w : World} (h : laws_eqAsk.f k a0 a1 = some r) (gp0 : Kd.string.C w Ap0 np0 a0.f0) (lp0 : np0 ≤ cp0) (gp1 : Kd.string.C w Ap1 np1 a1.f0) (lp1 : np1 ≤ cp1) :
    Calls Try.prog 28 #[.agg #[.slice Ap0 np0 cp0, .int .i64 a0.f1, .int .i64 a0.f2, .int .i64 a0.f3, .int .i64 a0.f4, .bool a0.f5], .agg #[.slice Ap1 np1 cp1, .int .i64 a1.f1, .int .i64 a1.f2, .int .i64 a1.f3, .int .i64 a1.f4, .bool a1.f5]] w (fun e w' => e = .returned (.bool r) ∧ Hp noFP w w' []) := by
 obtain rfl := C_len gp0
 obtain rfl := C_len gp1
 have HS := Hp.start w
 have H := Aside0.mk h
 clear h
 unfold laws_eqAsk.f at H
 go_enter Try.func28, Try.ntmps28
 obtain ⟨t5, ht5, H⟩ := zbind H
 go_upto_if 10 with (first | ((with_reducible refine gate_dst (N := 2) rfl ?_); refine ev_box rfl HS (by first | (go_simp; done) | (go_simp; rfl)) rfl ?_; clear HS; (try clear F); intro g2 w2 HS; have F := HS.boxes; simp only [boxFacts, wrt, clr0, clr1, List.cons_append, List.nil_append, List.append_nil, List.set_cons_zero, List.set_cons_succ, and_true] at F) | ((with_reducible refine gate_dst (N := 3) rfl ?_); refine ev_box rfl HS (by first | (go_simp; done) | (go_simp; rfl)) rfl ?_; clear HS; (try clear F); intro g3 w3 HS; have F := HS.boxes; simp only [boxFacts, wrt, clr0, clr1, List.cons_append, List.nil_append, List.append_nil, List.set_cons_zero, List.set_cons_succ, and_true] at F) | ((with_reducible refine gate_dst (N := 9) rfl ?_); refine ev_call rfl Try.func84 (by kernel_rfl) rfl #[.slice Ap0 a0.f0.length cp0, .slice Ap1 a1.f0.length cp1] rfl (by simp only [List.map_toArray, List.map_cons, List.map_nil]; rfl) ?_; refine (laws_eqStringS.calls ht5.out (HS.ro gp0) lp0 (HS.ro gp1) lp1).mono ?_; rintro _ wt5 ⟨rfl, HQ⟩; refine ⟨_, rfl, ?_⟩; replace HS := HS.call HQ; clear HQ; (try clear F); have F := HS.boxes; simp only [boxFacts, wrt, clr0, clr1, List.cons_append, List.nil_append, List.append_nil, List.set_cons_zero, List.set_cons_succ, and_true] at F))
 by_cases c7 : t5 = true
 · replace H := zpos c7 H
   (try simp only [c7, decide_true, decide_false, Bool.not_true, Bool.not_false])
   by_cases c8 : a0.f1 = a1.f1
   · replace H := zpos c8 H
     have c8a := beq_iff_eq.mpr c8
     have c8b := bne_eq_false_iff_eq.mpr c8
     clear c8
     by_cases c9 : a0.f2 = a1.f2
     · replace H := zpos c9 H
       have c9a := beq_iff_eq.mpr c9
       have c9b := bne_eq_false_iff_eq.mpr c9
       clear c9
       by_cases c10 : a0.f3 = a1.f3
       · replace H := zpos c10 H
         have c10a := beq_iff_eq.mpr c10
         have c10b := bne_eq_false_iff_eq.mpr c10
         clear c10
         by_cases c11 : a0.f4 = a1.f4
         · replace H := zpos c11 H
           have c11a := beq_iff_eq.mpr c11
           have c11b := bne_eq_false_iff_eq.mpr c11
           clear c11
           by_cases c12 : a0.f5 = a1.f5
           · replace H := zpos c12 H
             have c12a := beq_iff_eq.mpr c12
             have c12b := bne_eq_false_iff_eq.mpr c12
             clear c12
             obtain rfl := zsome H
             go_wp2
             go_ret
             exact ⟨rfl, HS.pick [] (by decide) (by rfl)⟩
           · replace H := zneg c12 H
             have c12a := beq_eq_false_iff_ne.mpr c12
             have c12b := bne_iff_ne.mpr c12
             clear c12
             obtain rfl := zsome H
             go_wp2
             go_ret
             exact ⟨rfl, HS.pick [] (by decide) (by rfl)⟩
         · replace H := zneg c11 H
           have c11a := beq_eq_false_iff_ne.mpr c11
           have c11b := bne_iff_ne.mpr c11
           clear c11
           obtain rfl := zsome H
           go_wp2
           go_ret
           exact ⟨rfl, HS.pick [] (by decide) (by rfl)⟩
       · replace H := zneg c10 H
         have c10a := beq_eq_false_iff_ne.mpr c10
         have c10b := bne_iff_ne.mpr c10
         clear c10
         obtain rfl := zsome H
         go_wp2
         go_ret
         exact ⟨rfl, HS.pick [] (by decide) (by rfl)⟩
     · replace H := zneg c9 H
       have c9a := beq_eq_false_iff_ne.mpr c9
       have c9b := bne_iff_ne.mpr c9
       clear c9
       obtain rfl := zsome H
       go_wp2
       go_ret
       exact ⟨rfl, HS.pick [] (by decide) (by rfl)⟩
   · replace H := zneg c8 H
     have c8a := beq_eq_false_iff_ne.mpr c8
     have c8b := bne_iff_ne.mpr c8
     clear c8
     obtain rfl := zsome H
     go_wp2
     go_ret
     exact ⟨rfl, HS.pick [] (by decide) (by rfl)⟩
 · replace H := zneg c7 H
   replace c7 := eq_false_of_ne_true c7
   (try simp only [c7, decide_true, decide_false, Bool.not_true, Bool.not_false])
   obtain rfl := zsome H
   go_wp2
   go_ret
   exact ⟨rfl, HS.pick [] (by decide) (by rfl)⟩
/-! ### spec_l01In: function 72 -/
def spec_l01In.f (a0 : Int) (a1 : Int) (a2 : Int) : Option (Bool) := (if a1 ≤ a0 then (some (decide (a0 ≤ a2))) else (some false))
set_option maxHeartbeats 16000000 in
theorem spec_l01In.calls {a0 : Int} {a1 : Int} {a2 : Int} {r : Bool} {w : World} (h : spec_l01In.f a0 a1 a2 = some r) :
    Calls Try.prog 72 #[.int .i64 a0, .int .i64 a1, .int .i64 a2] w (fun e w' => e = .returned (.bool r) ∧ Hp noFP w w' []) := by
 have HS := Hp.start w
 have H := Aside0.mk h
 clear h
 unfold spec_l01In.f at H
 go_enter Try.func72, Try.ntmps72
 by_cases c1 : a1 ≤ a0
 · replace H := zpos c1 H
   replace c1 := eq_true c1
   obtain rfl := zsome H
   go_wp2
   go_ret
   exact ⟨rfl, HS.pick [] (by decide) (by rfl)⟩
 · replace H := zneg c1 H
   replace c1 := eq_false c1
   obtain rfl := zsome H
   go_wp2
   go_ret
   exact ⟨rfl, HS.pick [] (by decide) (by rfl)⟩
/-! ### spec_l07Plain: function 145 -/
def spec_l07Plain.l0 : Nat → Int → S141 → Option (Bool)
  | 0, _, _ => none
  | k + 1, x24, a0 => (if x24 < (a0.f1.size : Int) then (if 0 ≤ x24 then (if x24 < (a0.f1.size : Int) then (if (bt a0.f1 x24) < 32 then (some false) else (if 126 < (bt a0.f1 x24) then (some false) else (spec_l07Plain.l0 k (wrap64 (x24 + 1)) a0))) else none) else none) else (some true))
def spec_l07Plain.f (k : Nat) (a0 : S141) : Option (Bool) := (if a0.f0 = 1 then (if a0.f1.toList = ([0] : List UInt8) then (some true) else (some (a0.f1.toList == ([255] : List UInt8)))) else (if a0.f0 = 2 then ((spec_l01In.f (a0.f1.size : Int) 1 5).bind fun t6 => (if t6 = true then (if 0 < (a0.f1.size : Int) then (if 128 ≤ (bt a0.f1 0) then (some false) else (if (bt a0.f1 0) = 0 then (if (a0.f1.size : Int) = 1 then (some true) else (if 1 < (a0.f1.size : Int) then (some (decide (128 ≤ (bt a0.f1 1)))) else none)) else (some true))) else none) else (some false))) else (if a0.f0 = 12 then (spec_l07Plain.l0 k 0 a0) else (some (a0.f0 == 4)))))
set_option maxHeartbeats 16000000 in
theorem spec_l07Plain.calls {k : Nat} {a0 : S141} {Ap0 : Option Addr} {np0 cp0 : Nat} {r : Bool} {w : World} (h : spec_l07Plain.f k a0 = some r) (gp0 : k141.C w Ap0 np0 a0.f2) (lp0 : np0 ≤ cp0) :
    Calls Try.prog 145 #[.agg #[.int .i64 a0.f0, .string a0.f1, .slice Ap0 np0 cp0]] w (fun e w' => e = .returned (.bool r) ∧ Hp noFP w w' []) := by
 obtain rfl := C_len gp0
 have HS := Hp.start w
 have H := Aside0.mk h
 clear h
 unfold spec_l07Plain.f at H
 go_enter Try.func145, Try.ntmps145
 go_upto_if 6 with (first | ((with_reducible refine gate_dst (N := 1) rfl ?_); refine ev_box rfl HS (by first | (go_simp; done) | (go_simp; rfl)) rfl ?_; clear HS; (try clear F); intro g1 w1 HS; have F := HS.boxes; simp only [boxFacts, wrt, clr0, clr1, List.cons_append, List.nil_append, List.append_nil, List.set_cons_zero, List.set_cons_succ, and_true] at F))
 by_cases c3 : a0.f0 = 1
 · replace H := zpos c3 H
   have c3a := beq_iff_eq.mpr c3
   have c3b := bne_eq_false_iff_eq.mpr c3
   clear c3
   (try simp only [c3a, c3b, decide_true, decide_false, Bool.not_true, Bool.not_false])
   by_cases c4 : a0.f1.toList = ([0] : List UInt8)
   · replace H := zpos c4 H
     have c4a := beq_iff_eq.mpr c4
     have c4b := bne_eq_false_iff_eq.mpr c4
     clear c4
     obtain rfl := zsome H
     go_wp2
     go_ret
     exact ⟨rfl, HS.pick [] (by decide) (by rfl)⟩
   · replace H := zneg c4 H
     have c4a := beq_eq_false_iff_ne.mpr c4
     have c4b := bne_iff_ne.mpr c4
     clear c4
     obtain rfl := zsome H
     go_wp2
     go_ret
     exact ⟨rfl, HS.pick [] (by decide) (by rfl)⟩
 · replace H := zneg c3 H
   have c3a := beq_eq_false_iff_ne.mpr c3
   have c3b := bne_iff_ne.mpr c3
   clear c3
   (try simp only [c3a, c3b, decide_true, decide_false, Bool.not_true, Bool.not_false])
   by_cases c5 : a0.f0 = 2
   · replace H := zpos c5 H
     have c5a := beq_iff_eq.mpr c5
     have c5b := bne_eq_false_iff_eq.mpr c5
     clear c5
     obtain ⟨t6, ht6, H⟩ := zbind H
     by_cases c8 : t6 = true
     · replace H := zpos c8 H
       by_cases c9 : 0 < (a0.f1.size : Int)
       case neg => exact zno c9 H
       replace H := zpos c9 H
       replace c9 := eq_true c9
       have c9n : (0 < a0.f1.size) = True := eq_true (by have := of_eq_true c9; omega)
       go_upto_if 28 with (first | ((with_reducible refine gate_dst (N := 21) rfl ?_); refine ev_call rfl Try.func72 (by kernel_rfl) rfl #[.int .i64 (a0.f1.size : Int), .int .i64 1, .int .i64 5] rfl (by simp only [List.map_toArray, List.map_cons, List.map_nil]; rfl) ?_; refine (spec_l01In.calls ht6.out).mono ?_; rintro _ wt6 ⟨rfl, HQ⟩; refine ⟨_, rfl, ?_⟩; replace HS := HS.call HQ; clear HQ; (try clear F); have F := HS.boxes; simp only [boxFacts, wrt, clr0, clr1, List.cons_append, List.nil_append, List.append_nil, List.set_cons_zero, List.set_cons_succ, and_true] at F; (try simp only [c8]); have hx10 : ∀ h : 0 < a0.f1.size, ((a0.f1[0]'h).toNat : Int) = bt a0.f1 0 := bt_at a0.f1 0; have hz11 : 0 < a0.f1.size := (by have := of_eq_true c9; omega)))
       by_cases c12 : 128 ≤ (bt a0.f1 0)
       · replace H := zpos c12 H
         replace c12 := eq_true c12
         (try simp only [c12, decide_true, decide_false, Bool.not_true, Bool.not_false])
         obtain rfl := zsome H
         go_wp2
         go_ret
         exact ⟨rfl, HS.pick [] (by decide) (by rfl)⟩
       · replace H := zneg c12 H
         replace c12 := eq_false c12
         (try simp only [c12, decide_true, decide_false, Bool.not_true, Bool.not_false])
         have hx13 : ∀ h : 0 < a0.f1.size, ((a0.f1[0]'h).toNat : Int) = bt a0.f1 0 := bt_at a0.f1 0
         have hz14 : 0 < a0.f1.size := (by have := of_eq_true c9; omega)
         by_cases c15 : (bt a0.f1 0) = 0
         · replace H := zpos c15 H
           have c15a := beq_iff_eq.mpr c15
           have c15b := bne_eq_false_iff_eq.mpr c15
           clear c15
           by_cases c16 : (a0.f1.size : Int) = 1
           · replace H := zpos c16 H
             have c16a := beq_iff_eq.mpr c16
             have c16b := bne_eq_false_iff_eq.mpr c16
             clear c16
             obtain rfl := zsome H
             go_wp2
             go_ret
             exact ⟨rfl, HS.pick [] (by decide) (by rfl)⟩
           · replace H := zneg c16 H
             have c16a := beq_eq_false_iff_ne.mpr c16
             have c16b := bne_iff_ne.mpr c16
             clear c16
             by_cases c17 : 1 < (a0.f1.size : Int)
             case neg => exact zno c17 H
             replace H := zpos c17 H
             replace c17 := eq_true c17
             have c17n : (1 < a0.f1.size) = True := eq_true (by have := of_eq_true c17; omega)
             have hx18 : ∀ h : 1 < a0.f1.size, ((a0.f1[1]'h).toNat : Int) = bt a0.f1 1 := bt_at a0.f1 1
             have hz19 : 1 < a0.f1.size := (by have := of_eq_true c17; omega)
             obtain rfl := zsome H
             go_wp2
             go_ret
             exact ⟨rfl, HS.pick [] (by decide) (by rfl)⟩
         · replace H := zneg c15 H
           have c15a := beq_eq_false_iff_ne.mpr c15
           have c15b := bne_iff_ne.mpr c15
           clear c15
           obtain rfl := zsome H
           go_wp2
           go_ret
           exact ⟨rfl, HS.pick [] (by decide) (by rfl)⟩
     · replace H := zneg c8 H
       replace c8 := eq_false_of_ne_true c8
       obtain rfl := zsome H
       go_wp2_with (first | ((with_reducible refine gate_dst (N := 21) rfl ?_); refine ev_call rfl Try.func72 (by kernel_rfl) rfl #[.int .i64 (a0.f1.size : Int), .int .i64 1, .int .i64 5] rfl (by simp only [List.map_toArray, List.map_cons, List.map_nil]; rfl) ?_; refine (spec_l01In.calls ht6.out).mono ?_; rintro _ wt6 ⟨rfl, HQ⟩; refine ⟨_, rfl, ?_⟩; replace HS := HS.call HQ; clear HQ; (try clear F); have F := HS.boxes; simp only [boxFacts, wrt, clr0, clr1, List.cons_append, List.nil_append, List.append_nil, List.set_cons_zero, List.set_cons_succ, and_true] at F; (try simp only [c8])))
       go_ret
       exact ⟨rfl, HS.pick [] (by decide) (by rfl)⟩
   · replace H := zneg c5 H
     have c5a := beq_eq_false_iff_ne.mpr c5
     have c5b := bne_iff_ne.mpr c5
     clear c5
     by_cases c20 : a0.f0 = 12
     · replace H := zpos c20 H
       have c20a := beq_iff_eq.mpr c20
       have c20b := bne_eq_false_iff_eq.mpr c20
       clear c20
       go_wp2
       go_loopg [3] k (fun kq v_3 w' => ∃ (x24 : Int), v_3 = .int .i64 x24 ∧ Aside0 (spec_l07Plain.l0 kq x24 a0 = some r) ∧ Aside0 (kq ≤ k) ∧ Hp noFP w w' [.box g1 [.int .i64 a0.f0, .string a0.f1, .slice Ap0 a0.f2.length cp0] 141])
       case atStart => exact ⟨_, rfl, H, ⟨Nat.le_refl _⟩, HS⟩
       case round =>
        clear HS H; (try clear F)
        obtain ⟨x24, rfl, H, HKk23, HS⟩ := hrel
        have F := HS.boxes; simp only [boxFacts, wrt, clr0, clr1, List.cons_append, List.nil_append, List.append_nil, List.set_cons_zero, List.set_cons_succ, and_true] at F
        cases gk with
        | zero => exact absurd H.out (by simp [spec_l07Plain.l0])
        | succ k23 =>
         simp only [spec_l07Plain.l0] at H
         by_cases c26 : x24 < (a0.f1.size : Int)
         · replace H := zpos c26 H
           replace c26 := eq_true c26
           by_cases c27 : 0 ≤ x24
           case neg => exact zno c27 H
           replace H := zpos c27 H
           replace c27 := eq_true c27
           by_cases c28 : x24 < (a0.f1.size : Int)
           case neg => exact zno c28 H
           replace H := zpos c28 H
           replace c28 := eq_true c28
           have hx29 := bt_at a0.f1 x24
           by_cases c30 : (bt a0.f1 x24) < 32
           · replace H := zpos c30 H
             replace c30 := eq_true c30
             obtain rfl := zsome H
             go_wp2
             go_ret
             exact ⟨rfl, HS.pick [] (by decide) (by rfl)⟩
           · replace H := zneg c30 H
             replace c30 := eq_false c30
             have hx31 := bt_at a0.f1 x24
             by_cases c32 : 126 < (bt a0.f1 x24)
             · replace H := zpos c32 H
               replace c32 := eq_true c32
               obtain rfl := zsome H
               go_wp2
               go_ret
               exact ⟨rfl, HS.pick [] (by decide) (by rfl)⟩
             · replace H := zneg c32 H
               replace c32 := eq_false c32
               go_wp2
               go_roundg k23
               case measure => have := HKk23.out; omega
               case rel => exact ⟨_, rfl, H, ⟨by have := HKk23.out; omega⟩, HS.pick [0] (by decide) (by rfl)⟩
         · replace H := zneg c26 H
           replace c26 := eq_false c26
           obtain rfl := zsome H
           go_wp2
           go_ret
           exact ⟨rfl, HS.pick [] (by decide) (by rfl)⟩
     · replace H := zneg c20 H
       have c20a := beq_eq_false_iff_ne.mpr c20
       have c20b := bne_iff_ne.mpr c20
       clear c20
       obtain rfl := zsome H
       go_wp2
       go_ret
       exact ⟨rfl, HS.pick [] (by decide) (by rfl)⟩
/-! ### spec_l07Right: function 141 -/
mutual
def spec_l07Right.l0 : Nat → Int → S141 → Int → Option (Bool)
  | 0, _, _, _ => none
  | k + 1, x10, a0, a1 => (if x10 < (a0.f2.length : Int) then (if 0 ≤ x10 then (if x10 < (a0.f2.length : Int) then ((spec_l07Right.f k (rd_T141 a0.f2 x10) (wrap64 (a1 + 1))).bind fun t16 => (if t16 = true then (spec_l07Right.l0 k (wrap64 (x10 + 1)) a0 a1) else (some false))) else none) else none) else (some true))
def spec_l07Right.f : Nat → S141 → Int → Option (Bool)
  | 0, _, _ => none
  | k + 1, a0, a1 => (if a0.f0 = 48 then (if a0.f1.toList = ([] : List UInt8) then (if 40 < (a0.f2.length : Int) then (some false) else (if 6 ≤ a1 then (some false) else (spec_l07Right.l0 k 0 a0 a1))) else (some false)) else (if (a0.f2.length : Int) = 0 then ((spec_l07Plain.f k a0).bind fun t20 => (some t20)) else (some false)))
end
set_option maxHeartbeats 16000000 in
theorem spec_l07Right.calls_ (K : Nat) : ∀ {k : Nat} (hK : k ≤ K) {a0 : S141} {a1 : Int} {Ap0 : Option Addr} {np0 cp0 : Nat} {r : Bool} {w : World} (h : spec_l07Right.f k a0 a1 = some r) (gp0 : k141.C w Ap0 np0 a0.f2) (lp0 : np0 ≤ cp0),
    Calls Try.prog 141 #[.agg #[.int .i64 a0.f0, .string a0.f1, .slice Ap0 np0 cp0], .int .i64 a1] w (fun e w' => e = .returned (.bool r) ∧ Hp noFP w w' []) := by
  induction K with
  | zero =>
    intro k hK a0 a1 Ap0 np0 cp0 r w h gp0 lp0
    obtain rfl : k = 0 := by omega
    exact absurd h (by simp [spec_l07Right.f])
  | succ K IH =>
    intro k hK a0 a1 Ap0 np0 cp0 r w h gp0 lp0
    cases k with
    | zero => exact absurd h (by simp [spec_l07Right.f])
    | succ k =>
    have HK0 : Aside0 (k ≤ K) := ⟨by omega⟩
    clear hK
    obtain rfl := C_len gp0
    have HS := Hp.start w
    have H := Aside0.mk h
    clear h
    simp only [spec_l07Right.f] at H
    go_enter Try.func141, Try.ntmps141
    go_upto_if 8 with (first | ((with_reducible refine gate_dst (N := 2) rfl ?_); refine ev_box rfl HS (by first | (go_simp; done) | (go_simp; rfl)) rfl ?_; clear HS; (try clear F); intro g2 w2 HS; have F := HS.boxes; simp only [boxFacts, wrt, clr0, clr1, List.cons_append, List.nil_append, List.append_nil, List.set_cons_zero, List.set_cons_succ, and_true] at F))
    by_cases c3 : a0.f0 = 48
    · replace H := zpos c3 H
      have c3a := beq_iff_eq.mpr c3
      have c3b := bne_eq_false_iff_eq.mpr c3
      clear c3
      (try simp only [c3a, c3b, decide_true, decide_false, Bool.not_true, Bool.not_false])
      by_cases c4 : a0.f1.toList = ([] : List UInt8)
      · replace H := zpos c4 H
        have c4a := beq_iff_eq.mpr c4
        have c4b := bne_eq_false_iff_eq.mpr c4
        clear c4
        by_cases c5 : 40 < (a0.f2.length : Int)
        · replace H := zpos c5 H
          replace c5 := eq_true c5
          obtain rfl := zsome H
          go_wp2
          go_ret
          exact ⟨rfl, HS.pick [] (by decide) (by rfl)⟩
        · replace H := zneg c5 H
          replace c5 := eq_false c5
          by_cases c6 : 6 ≤ a1
          · replace H := zpos c6 H
            replace c6 := eq_true c6
            obtain rfl := zsome H
            go_wp2
            go_ret
            exact ⟨rfl, HS.pick [] (by decide) (by rfl)⟩
          · replace H := zneg c6 H
            replace c6 := eq_false c6
            go_wp2
            go_loopg [5] k (fun kq v_5 w' => ∃ (x10 : Int), v_5 = .int .i64 x10 ∧ Aside0 (spec_l07Right.l0 kq x10 a0 a1 = some r) ∧ Aside0 (kq ≤ k) ∧ Hp noFP w w' [.box g2 [.int .i64 a0.f0, .string a0.f1, .slice Ap0 a0.f2.length cp0] 141])
            case atStart => exact ⟨_, rfl, H, ⟨Nat.le_refl _⟩, HS⟩
            case round =>
             clear HS H; (try clear F)
             obtain ⟨x10, rfl, H, HKk9, HS⟩ := hrel
             have F := HS.boxes; simp only [boxFacts, wrt, clr0, clr1, List.cons_append, List.nil_append, List.append_nil, List.set_cons_zero, List.set_cons_succ, and_true] at F
             cases gk with
             | zero => exact absurd H.out (by simp [spec_l07Right.l0])
             | succ k9 =>
              simp only [spec_l07Right.l0] at H
              by_cases c12 : x10 < (a0.f2.length : Int)
              · replace H := zpos c12 H
                replace c12 := eq_true c12
                by_cases c13 : 0 ≤ x10
                case neg => exact zno c13 H
                replace H := zpos c13 H
                replace c13 := eq_true c13
                by_cases c14 : x10 < (a0.f2.length : Int)
                case neg => exact zno c14 H
                replace H := zpos c14 H
                replace c14 := eq_true c14
                obtain ⟨ad15, B15_2, d15_2, rfl, e15_0, e15_1, e15_2, m15_2, y15_2⟩ := at_T141 gp0 x10 (of_eq_true c13) (of_eq_true c14)
                replace e15_0 := HS.keepc e15_0
                replace e15_1 := HS.keepc e15_1
                replace e15_2 := HS.keepc e15_2
                obtain ⟨t16, ht16, H⟩ := zbind H
                go_upto_if 45 with (first | ((with_reducible refine gate_dst (N := 44) rfl ?_); refine ev_call rfl Try.func141 (by kernel_rfl) rfl #[.agg #[.int .i64 ((rd_T141 a0.f2 x10).f0), .string ((rd_T141 a0.f2 x10).f1), .slice B15_2 (rd_T141 a0.f2 x10).f2.length d15_2], .int .i64 (wrap64 (a1 + 1))] rfl (by simp only [List.map_toArray, List.map_cons, List.map_nil]; rfl) ?_; refine (IH (by have := HK0.out; have := HKk9.out; omega) ht16.out (HS.ro y15_2) m15_2).mono ?_; rintro _ wt16 ⟨rfl, HQ⟩; refine ⟨_, rfl, ?_⟩; replace HS := HS.call HQ; clear HQ; (try clear F); have F := HS.boxes; simp only [boxFacts, wrt, clr0, clr1, List.cons_append, List.nil_append, List.append_nil, List.set_cons_zero, List.set_cons_succ, and_true] at F))
                by_cases c18 : t16 = true
                · replace H := zpos c18 H
                  (try simp only [c18, decide_true, decide_false, Bool.not_true, Bool.not_false])
                  go_wp2
                  go_roundg k9
                  case measure => have := HK0.out; have := HKk9.out; omega
                  case rel => exact ⟨_, rfl, H, ⟨by have := HK0.out; have := HKk9.out; omega⟩, HS.pick [0] (by decide) (by rfl)⟩
                · replace H := zneg c18 H
                  replace c18 := eq_false_of_ne_true c18
                  (try simp only [c18, decide_true, decide_false, Bool.not_true, Bool.not_false])
                  obtain rfl := zsome H
                  go_wp2
                  go_ret
                  exact ⟨rfl, HS.pick [] (by decide) (by rfl)⟩
              · replace H := zneg c12 H
                replace c12 := eq_false c12
                obtain rfl := zsome H
                go_wp2
                go_ret
                exact ⟨rfl, HS.pick [] (by decide) (by rfl)⟩
      · replace H := zneg c4 H
        have c4a := beq_eq_false_iff_ne.mpr c4
        have c4b := bne_iff_ne.mpr c4
        clear c4
        obtain rfl := zsome H
        go_wp2
        go_ret
        exact ⟨rfl, HS.pick [] (by decide) (by rfl)⟩
    · replace H := zneg c3 H
      have c3a := beq_eq_false_iff_ne.mpr c3
      have c3b := bne_iff_ne.mpr c3
      clear c3
      (try simp only [c3a, c3b, decide_true, decide_false, Bool.not_true, Bool.not_false])
      by_cases c19 : (a0.f2.length : Int) = 0
      · replace H := zpos c19 H
        have c19a := beq_iff_eq.mpr c19
        have c19b := bne_eq_false_iff_eq.mpr c19
        clear c19
        obtain ⟨t20, ht20, H⟩ := zbind H
        obtain rfl := zsome H
        go_wp2_with (first | ((with_reducible refine gate_dst (N := 15) rfl ?_); refine gate_guard (by rfl) ?_; refine ev_call rfl Try.func145 (by kernel_rfl) rfl #[.agg #[.int .i64 a0.f0, .string a0.f1, .slice Ap0 a0.f2.length cp0]] rfl (by simp only [List.map_toArray, List.map_cons, List.map_nil]; rfl) ?_; refine (spec_l07Plain.calls ht20.out (HS.ro gp0) lp0).mono ?_; rintro _ wt20 ⟨rfl, HQ⟩; refine ⟨_, rfl, ?_⟩; replace HS := HS.call HQ; clear HQ; (try clear F); have F := HS.boxes; simp only [boxFacts, wrt, clr0, clr1, List.cons_append, List.nil_append, List.append_nil, List.set_cons_zero, List.set_cons_succ, and_true] at F))
        go_ret
        exact ⟨rfl, HS.pick [] (by decide) (by rfl)⟩
      · replace H := zneg c19 H
        have c19a := beq_eq_false_iff_ne.mpr c19
        have c19b := bne_iff_ne.mpr c19
        clear c19
        obtain rfl := zsome H
        go_wp2
        go_ret
        exact ⟨rfl, HS.pick [] (by decide) (by rfl)⟩
theorem spec_l07Right.calls {k : Nat} {a0 : S141} {a1 : Int} {Ap0 : Option Addr} {np0 cp0 : Nat} {r : Bool} {w : World} (h : spec_l07Right.f k a0 a1 = some r) (gp0 : k141.C w Ap0 np0 a0.f2) (lp0 : np0 ≤ cp0) :
    Calls Try.prog 141 #[.agg #[.int .i64 a0.f0, .string a0.f1, .slice Ap0 np0 cp0], .int .i64 a1] w (fun e w' => e = .returned (.bool r) ∧ Hp noFP w w' []) := spec_l07Right.calls_ k (Nat.le_refl k) h gp0 lp0
/-! ### spec_ItemOk: function 129 -/
def spec_ItemOk.f (k : Nat) (a0 : S141) : Option (Bool) := ((spec_l07Right.f k a0 0).bind fun t3 => (some t3))
set_option maxHeartbeats 16000000 in
theorem spec_ItemOk.calls {k : Nat} {a0 : S141} {Ap0 : Option Addr} {np0 cp0 : Nat} {r : Bool} {w : World} (h : spec_ItemOk.f k a0 = some r) (gp0 : k141.C w Ap0 np0 a0.f2) (lp0 : np0 ≤ cp0) :
    Calls Try.prog 129 #[.agg #[.int .i64 a0.f0, .string a0.f1, .slice Ap0 np0 cp0]] w (fun e w' => e = .returned (.bool r) ∧ Hp noFP w w' []) := by
 obtain rfl := C_len gp0
 have HS := Hp.start w
 have H := Aside0.mk h
 clear h
 unfold spec_ItemOk.f at H
 go_enter Try.func129, Try.ntmps129
 obtain ⟨t3, ht3, H⟩ := zbind H
 obtain rfl := zsome H
 go_wp2_with (first | ((with_reducible refine gate_dst (N := 1) rfl ?_); refine ev_box rfl HS (by first | (go_simp; done) | (go_simp; rfl)) rfl ?_; clear HS; (try clear F); intro g1 w1 HS; have F := HS.boxes; simp only [boxFacts, wrt, clr0, clr1, List.cons_append, List.nil_append, List.append_nil, List.set_cons_zero, List.set_cons_succ, and_true] at F) | ((with_reducible refine gate_dst (N := 4) rfl ?_); refine ev_call rfl Try.func141 (by kernel_rfl) rfl #[.agg #[.int .i64 a0.f0, .string a0.f1, .slice Ap0 a0.f2.length cp0], .int .i64 0] rfl (by simp only [List.map_toArray, List.map_cons, List.map_nil]; rfl) ?_; refine (spec_l07Right.calls ht3.out (HS.ro gp0) lp0).mono ?_; rintro _ wt3 ⟨rfl, HQ⟩; refine ⟨_, rfl, ?_⟩; replace HS := HS.call HQ; clear HQ; (try clear F); have F := HS.boxes; simp only [boxFacts, wrt, clr0, clr1, List.cons_append, List.nil_append, List.append_nil, List.set_cons_zero, List.set_cons_succ, and_true] at F))
 go_ret
 exact ⟨rfl, HS.pick [] (by decide) (by rfl)⟩
/-! ### spec_l07Length: function 142 -/
def spec_l07Length.l0 : Nat → Int → ByteArray → Option (ByteArray)
  | 0, _, _ => none
  | k + 1, x13, x14 => (if 0 < x13 then (if (strOfNums ([((Int.tmod x13 256) % 256)] : List Int)).size + x14.size ≤ 9223372036854775807 then (spec_l07Length.l0 k (wrap64 (Int.tdiv x13 256)) ((strOfNums ([((Int.tmod x13 256) % 256)] : List Int)) ++ x14)) else none) else (if (strOfNums ([((wrap64 (128 + (x14.size : Int))) % 256)] : List Int)).size + x14.size ≤ 9223372036854775807 then (some ((strOfNums ([((wrap64 (128 + (x14.size : Int))) % 256)] : List Int)) ++ x14)) else none))
def spec_l07Length.f (k : Nat) (a0 : Int) : Option (ByteArray) := (if a0 < 128 then (some (strOfNums ([(a0 % 256)] : List Int))) else (spec_l07Length.l0 k a0 (⟨#[]⟩ : ByteArray)))
set_option maxHeartbeats 16000000 in
theorem spec_l07Length.calls {k : Nat} {a0 : Int} {r : ByteArray} {w : World} (h : spec_l07Length.f k a0 = some r) :
    Calls Try.prog 142 #[.int .i64 a0] w (fun e w' => e = .returned (.string r) ∧ Hp noFP w w' []) := by
 have HS := Hp.start w
 have H := Aside0.mk h
 clear h
 unfold spec_l07Length.f at H
 go_enter Try.func142, Try.ntmps142
 by_cases c1 : a0 < 128
 · replace H := zpos c1 H
   replace c1 := eq_true c1
   obtain rfl := zsome H
   go_wp2_with (first | ((with_reducible refine gate_dst (N := 8) rfl ?_); refine ev_lit rfl (Zd.int .u8) [] ([(a0 % 256)] : List Int) ([.int .u8 (a0 % 256)] ++ []) HS (by first | (go_simp; done) | (go_simp; rfl)) rfl rfl (Nat.le_of_ble_eq_true rfl) (MadeL.cons (js1 := []) (c := [.int .u8 (a0 % 256)]) rfl (made_flat (fun _ => rfl)) MadeL.nil (by decide)) ?_; clear HS; (try clear F); intro v2 w2 HS; obtain ⟨B2, d2, rfl, m2⟩ := HS.formn 1 0 rfl rfl) | ((with_reducible refine gate_dst (N := 9) rfl ?_); refine ev_val rfl (run_str rfl rfl Try.underlying155 Try.underlying5 Try.underlying9 (HS.rd 0 rfl)) ?_))
   go_ret
   exact ⟨rfl, HS.pick [] (by decide) (by rfl)⟩
 · replace H := zneg c1 H
   replace c1 := eq_false c1
   go_wp2
   go_loopg [0, 3] k (fun kq v_0 v_3 w' => ∃ (x13 : Int) (x14 : ByteArray), v_0 = .int .i64 x13 ∧ v_3 = .string x14 ∧ Aside0 (spec_l07Length.l0 kq x13 x14 = some r) ∧ Aside0 (kq ≤ k) ∧ Hp noFP w w' [])
   case atStart => exact ⟨_, _, rfl, rfl, H, ⟨Nat.le_refl _⟩, HS⟩
   case round =>
    clear HS H; (try clear F)
    obtain ⟨x13, x14, rfl, rfl, H, HKk12, HS⟩ := hrel
    cases gk with
    | zero => exact absurd H.out (by simp [spec_l07Length.l0])
    | succ k12 =>
     simp only [spec_l07Length.l0] at H
     by_cases c16 : 0 < x13
     · replace H := zpos c16 H
       replace c16 := eq_true c16
       by_cases c19 : (strOfNums ([((Int.tmod x13 256) % 256)] : List Int)).size + x14.size ≤ 9223372036854775807
       case neg => exact zno c19 H
       replace H := zpos c19 H
       replace c19 := eq_true c19
       go_wp2_with (first | ((with_reducible refine gate_dst (N := 15) rfl ?_); refine ev_lit rfl (Zd.int .u8) [] ([((Int.tmod x13 256) % 256)] : List Int) ([.int .u8 ((Int.tmod x13 256) % 256)] ++ []) HS (by first | (go_simp; done) | (go_simp; rfl)) rfl rfl (Nat.le_of_ble_eq_true rfl) (MadeL.cons (js1 := []) (c := [.int .u8 ((Int.tmod x13 256) % 256)]) rfl (made_flat (fun _ => rfl)) MadeL.nil (by decide)) ?_; clear HS; (try clear F); intro v17 w17 HS; obtain ⟨B17, d17, rfl, m17⟩ := HS.formn 1 0 rfl rfl) | ((with_reducible refine gate_dst (N := 16) rfl ?_); refine ev_val rfl (run_str rfl rfl Try.underlying155 Try.underlying5 Try.underlying9 (HS.rd 0 rfl)) ?_) | ((with_reducible refine gate_dst (N := 18) rfl ?_); refine ev_val rfl (run_cat rfl rfl rfl (of_eq_true c19)) ?_))
       go_roundg k12
       case measure => have := HKk12.out; omega
       case rel => exact ⟨_, _, rfl, rfl, H, ⟨by have := HKk12.out; omega⟩, HS.pick [] (by decide) (by rfl)⟩
     · replace H := zneg c16 H
       replace c16 := eq_false c16
       by_cases c22 : (strOfNums ([((wrap64 (128 + (x14.size : Int))) % 256)] : List Int)).size + x14.size ≤ 9223372036854775807
       case neg => exact zno c22 H
       replace H := zpos c22 H
       replace c22 := eq_true c22
       obtain rfl := zsome H
       go_wp2_with (first | ((with_reducible refine gate_dst (N := 25) rfl ?_); refine ev_lit rfl (Zd.int .u8) [] ([((wrap64 (128 + (x14.size : Int))) % 256)] : List Int) ([.int .u8 ((wrap64 (128 + (x14.size : Int))) % 256)] ++ []) HS (by first | (go_simp; done) | (go_simp; rfl)) rfl rfl (Nat.le_of_ble_eq_true rfl) (MadeL.cons (js1 := []) (c := [.int .u8 ((wrap64 (128 + (x14.size : Int))) % 256)]) rfl (made_flat (fun _ => rfl)) MadeL.nil (by decide)) ?_; clear HS; (try clear F); intro v20 w20 HS; obtain ⟨B20, d20, rfl, m20⟩ := HS.formn 1 0 rfl rfl) | ((with_reducible refine gate_dst (N := 26) rfl ?_); refine ev_val rfl (run_str rfl rfl Try.underlying155 Try.underlying5 Try.underlying9 (HS.rd 0 rfl)) ?_) | ((with_reducible refine gate_dst (N := 28) rfl ?_); refine ev_val rfl (run_cat rfl rfl rfl (of_eq_true c22)) ?_))
       go_ret
       exact ⟨rfl, HS.pick [] (by decide) (by rfl)⟩
/-! ### spec_l07Text: function 130 -/
mutual
def spec_l07Text.l0 : Nat → ByteArray → Int → S141 → Option (ByteArray)
  | 0, _, _, _ => none
  | k + 1, x11, x12, a0 => (if x12 < (a0.f2.length : Int) then (if 0 ≤ x12 then (if x12 < (a0.f2.length : Int) then ((spec_l07Text.f k (rd_T141 a0.f2 x12)).bind fun t18 => (if x11.size + t18.size ≤ 9223372036854775807 then (spec_l07Text.l0 k (x11 ++ t18) (wrap64 (x12 + 1)) a0) else none)) else none) else none) else ((spec_l07Length.f k (x11.size : Int)).bind fun t107001 => (if (strOfNums ([(a0.f0 % 256)] : List Int)).size + t107001.size ≤ 9223372036854775807 then (if ((strOfNums ([(a0.f0 % 256)] : List Int)) ++ t107001).size + x11.size ≤ 9223372036854775807 then (some (((strOfNums ([(a0.f0 % 256)] : List Int)) ++ t107001) ++ x11)) else none) else none)))
def spec_l07Text.f : Nat → S141 → Option (ByteArray)
  | 0, _ => none
  | k + 1, a0 => (if a0.f0 = 48 then (spec_l07Text.l0 k a0.f1 0 a0) else ((spec_l07Length.f k (a0.f1.size : Int)).bind fun t207001 => (if (strOfNums ([(a0.f0 % 256)] : List Int)).size + t207001.size ≤ 9223372036854775807 then (if ((strOfNums ([(a0.f0 % 256)] : List Int)) ++ t207001).size + a0.f1.size ≤ 9223372036854775807 then (some (((strOfNums ([(a0.f0 % 256)] : List Int)) ++ t207001) ++ a0.f1)) else none) else none)))
end
def spec_l07Text.T7 : Bool × List (List Nat × List Nat) := (true, [([], []), ([0], [0]), ([1], [1]), ([2], [2]), ([3], [3]), ([], []), ([5], [5]), ([6], [6]), ([4, 7], [4, 7]), ([], []), ([8, 9], [8, 9]), ([10, 7, 0, 1, 2, 3, 4, 5, 6, 7, 8, 9, 10], [10])])
theorem spec_l07Text.tT7 : rtab .any (opsOf Try.f130 7) = spec_l07Text.T7 := by kernel_rfl
set_option maxHeartbeats 16000000 in
theorem spec_l07Text.calls_ (K : Nat) : ∀ {k : Nat} (hK : k ≤ K) {a0 : S141} {Ap0 : Option Addr} {np0 cp0 : Nat} {r : ByteArray} {w : World} (h : spec_l07Text.f k a0 = some r) (gp0 : k141.C w Ap0 np0 a0.f2) (lp0 : np0 ≤ cp0),
    Calls Try.prog 130 #[.agg #[.int .i64 a0.f0, .string a0.f1, .slice Ap0 np0 cp0]] w (fun e w' => e = .returned (.string r) ∧ Hp noFP w w' []) := by
  induction K with
  | zero =>
    intro k hK a0 Ap0 np0 cp0 r w h gp0 lp0
    obtain rfl : k = 0 := by omega
    exact absurd h (by simp [spec_l07Text.f])
  | succ K IH =>
    intro k hK a0 Ap0 np0 cp0 r w h gp0 lp0
    cases k with
    | zero => exact absurd h (by simp [spec_l07Text.f])
    | succ k =>
    have HK0 : Aside0 (k ≤ K) := ⟨by omega⟩
    clear hK
    obtain rfl := C_len gp0
    have HS := Hp.start w
    have H := Aside0.mk h
    clear h
    simp only [spec_l07Text.f] at H
    go_enter Try.func130, Try.ntmps130
    go_upto_if 9 with (first | ((with_reducible refine gate_dst (N := 1) rfl ?_); refine ev_box rfl HS (by first | (go_simp; done) | (go_simp; rfl)) rfl ?_; clear HS; (try clear F); intro g1 w1 HS; have F := HS.boxes; simp only [boxFacts, wrt, clr0, clr1, List.cons_append, List.nil_append, List.append_nil, List.set_cons_zero, List.set_cons_succ, and_true] at F))
    by_cases c3 : a0.f0 = 48
    · replace H := zpos c3 H
      have c3a := beq_iff_eq.mpr c3
      have c3b := bne_eq_false_iff_eq.mpr c3
      clear c3
      (try simp only [c3a, c3b, decide_true, decide_false, Bool.not_true, Bool.not_false])
      go_wp2
      go_loopg [3, 4] k (fun kq v_3 v_4 w' => ∃ (x11 : ByteArray) (x12 : Int), v_3 = .string x11 ∧ v_4 = .int .i64 x12 ∧ Aside0 (spec_l07Text.l0 kq x11 x12 a0 = some r) ∧ Aside0 (kq ≤ k) ∧ Hp noFP w w' [.box g1 [.int .i64 a0.f0, .string a0.f1, .slice Ap0 a0.f2.length cp0] 141])
      case atStart => exact ⟨_, _, rfl, rfl, H, ⟨Nat.le_refl _⟩, HS⟩
      case round =>
       clear HS H; (try clear F)
       obtain ⟨x11, x12, rfl, rfl, H, HKk10, HS⟩ := hrel
       have F := HS.boxes; simp only [boxFacts, wrt, clr0, clr1, List.cons_append, List.nil_append, List.append_nil, List.set_cons_zero, List.set_cons_succ, and_true] at F
       cases gk with
       | zero => exact absurd H.out (by simp [spec_l07Text.l0])
       | succ k10 =>
        simp only [spec_l07Text.l0] at H
        by_cases c14 : x12 < (a0.f2.length : Int)
        · replace H := zpos c14 H
          replace c14 := eq_true c14
          by_cases c15 : 0 ≤ x12
          case neg => exact zno c15 H
          replace H := zpos c15 H
          replace c15 := eq_true c15
          by_cases c16 : x12 < (a0.f2.length : Int)
          case neg => exact zno c16 H
          replace H := zpos c16 H
          replace c16 := eq_true c16
          obtain ⟨ad17, B17_2, d17_2, rfl, e17_0, e17_1, e17_2, m17_2, y17_2⟩ := at_T141 gp0 x12 (of_eq_true c15) (of_eq_true c16)
          replace e17_0 := HS.keepc e17_0
          replace e17_1 := HS.keepc e17_1
          replace e17_2 := HS.keepc e17_2
          obtain ⟨t18, ht18, H⟩ := zbind H
          by_cases c20 : x11.size + t18.size ≤ 9223372036854775807
          case neg => exact zno c20 H
          replace H := zpos c20 H
          replace c20 := eq_true c20
          go_wp2_with (first | ((with_reducible refine gate_dst (N := 23) rfl ?_); refine ev_call rfl Try.func130 (by kernel_rfl) rfl #[.agg #[.int .i64 ((rd_T141 a0.f2 x12).f0), .string ((rd_T141 a0.f2 x12).f1), .slice B17_2 (rd_T141 a0.f2 x12).f2.length d17_2]] rfl (by simp only [List.map_toArray, List.map_cons, List.map_nil]; rfl) ?_; refine (IH (by have := HK0.out; have := HKk10.out; omega) ht18.out (HS.ro y17_2) m17_2).mono ?_; rintro _ wt18 ⟨rfl, HQ⟩; refine ⟨_, rfl, ?_⟩; replace HS := HS.call HQ; clear HQ; (try clear F); have F := HS.boxes; simp only [boxFacts, wrt, clr0, clr1, List.cons_append, List.nil_append, List.append_nil, List.set_cons_zero, List.set_cons_succ, and_true] at F) | ((with_reducible refine gate_dst (N := 24) rfl ?_); refine ev_val rfl (run_cat rfl rfl rfl (of_eq_true c20)) ?_))
          go_roundg k10
          case measure => have := HK0.out; have := HKk10.out; omega
          case rel => exact ⟨_, _, rfl, rfl, H, ⟨by have := HK0.out; have := HKk10.out; omega⟩, HS.pick [0] (by decide) (by rfl)⟩
        · replace H := zneg c14 H
          replace c14 := eq_false c14
          (try go_wp2)
          obtain ⟨t107001, ht107001, H⟩ := zbind H
          by_cases c108001 : (strOfNums ([(a0.f0 % 256)] : List Int)).size + t107001.size ≤ 9223372036854775807
          case neg => exact zno c108001 H
          replace H := zpos c108001 H
          replace c108001 := eq_true c108001
          by_cases c110001 : ((strOfNums ([(a0.f0 % 256)] : List Int)) ++ t107001).size + x11.size ≤ 9223372036854775807
          case neg => exact zno c110001 H
          replace H := zpos c110001 H
          replace c110001 := eq_true c110001
          refine dr_start [] HS #[false, false, false, false, false, false, false, false, false, false, false, false] (by kernel_rfl) rfl rfl spec_l07Text.tT7 (fun w22 HT HS HH => ?_)
          (try clear F)
          refine join_ 0 #[true, true, true, true, true, true, true, true, true, true, true, true] (fun (v103001 : Value) => ([(25, .pointer (some ⟨g1, 0, none⟩)), (26, .int .i64 a0.f0), (27, .int .u8 (a0.f0 % 256)), (28, v103001), (29, .string (strOfNums ([(a0.f0 % 256)] : List Int))), (30, .string x11), (31, .int .i64 (x11.size : Int)), (32, .string t107001), (33, .string ((strOfNums ([(a0.f0 % 256)] : List Int)) ++ t107001)), (34, .string x11), (35, .string (((strOfNums ([(a0.f0 % 256)] : List Int)) ++ t107001) ++ x11)), (2, .string (((strOfNums ([(a0.f0 % 256)] : List Int)) ++ t107001) ++ x11))] : List (Tmp × Value))) (fun (v103001 : Value) w' => Hp noFP w w' [.box g1 [.int .i64 a0.f0, .string a0.f1, .slice Ap0 a0.f2.length cp0] 141, .own (Zd.slice 5 (Zd.int .u8)) ([(a0.f0 % 256)] : List Int) [v103001]]) ?_ ?_
          rotate_left
          · intro hJ
            refine dr_pure 0 (some 25) HT (v := ?_) (a' := ?_) rfl rfl (by kernel_rfl) (fun _ _ _ h => h) (.inl ⟨by rfl, ?_⟩) ?_ ?_
            rotate_left
            · intro w'; go_simp; with_reducible rfl
            rotate_left
            · simp only [Act.put, List.setIfInBounds_toArray, List.set_cons_zero, List.set_cons_succ, i64_w, i32_w]; rfl
            refine dr_take 1 (some 26) HT HH (v := ?_) (a' := ?_) rfl rfl (by kernel_rfl) (fun _ _ _ h => h) (.inl ⟨by rfl, ?_⟩) ?_ ?_
            rotate_left
            · rintro w' ⟨rs', HS'⟩; have F := HS'.boxes; simp only [boxFacts, wrt, clr0, clr1, List.cons_append, List.nil_append, List.append_nil, List.set_cons_zero, List.set_cons_succ, and_true] at F; go_simp; with_reducible rfl
            rotate_left
            · simp only [Act.put, List.setIfInBounds_toArray, List.set_cons_zero, List.set_cons_succ, i64_w, i32_w]; rfl
            refine dr_pure 2 (some 27) HT (v := ?_) (a' := ?_) rfl rfl (by kernel_rfl) (fun _ _ _ h => h) (.inl ⟨by rfl, ?_⟩) ?_ ?_
            rotate_left
            · intro w'; go_simp; with_reducible rfl
            rotate_left
            · simp only [Act.put, List.setIfInBounds_toArray, List.set_cons_zero, List.set_cons_succ, i64_w, i32_w]; rfl
            refine dr_pure 5 (some 30) HT (v := ?_) (a' := ?_) rfl rfl (by kernel_rfl) (fun _ _ _ h => h) (.inl ⟨by rfl, ?_⟩) ?_ ?_
            rotate_left
            · intro w'; go_simp; with_reducible rfl
            rotate_left
            · simp only [Act.put, List.setIfInBounds_toArray, List.set_cons_zero, List.set_cons_succ, i64_w, i32_w]; rfl
            refine dr_pure 6 (some 31) HT (v := ?_) (a' := ?_) rfl rfl (by kernel_rfl) (fun _ _ _ h => h) (.inl ⟨by rfl, ?_⟩) ?_ ?_
            rotate_left
            · intro w'; go_simp; with_reducible rfl
            rotate_left
            · simp only [Act.put, List.setIfInBounds_toArray, List.set_cons_zero, List.set_cons_succ, i64_w, i32_w]; rfl
            refine dr_pure 9 (some 34) HT (v := ?_) (a' := ?_) rfl rfl (by kernel_rfl) (fun _ _ _ h => h) (.inl ⟨by rfl, ?_⟩) ?_ ?_
            rotate_left
            · intro w'; go_simp; with_reducible rfl
            rotate_left
            · simp only [Act.put, List.setIfInBounds_toArray, List.set_cons_zero, List.set_cons_succ, i64_w, i32_w]; rfl
            refine dr_any [3, 7] HT (by kernel_rfl) (by decide) (AllReadyL.cons rfl (by decide) (fun K hK => ?_) (AllReadyL.cons rfl (by decide) (fun K hK => ?_) AllReadyL.nil))
            · refine if_wp (by rfl) ?_; refine wp_lit (Zd.int .u8) [] ([(a0.f0 % 256)] : List Int) ([.int .u8 (a0.f0 % 256)] ++ []) HS (by first | (go_simp; done) | (go_simp; rfl)) rfl rfl (Nat.le_of_ble_eq_true rfl) (MadeL.cons (js1 := []) (c := [.int .u8 (a0.f0 % 256)]) rfl (made_flat (fun _ => rfl)) MadeL.nil (by decide)) ?_; clear HS; (try clear F); intro v103001 w103001 HS; obtain ⟨B103001, d103001, rfl, m103001⟩ := HS.formn 1 1 rfl rfl; have F := HS.boxes; simp only [boxFacts, wrt, clr0, clr1, List.cons_append, List.nil_append, List.append_nil, List.set_cons_zero, List.set_cons_succ, and_true] at F
              refine hK.out _ _ ⟨_, HS⟩ (fun HH => ?_)
              clear hK K
              refine norm_ (a' := ?_) ?_ ?_
              rotate_left
              · show Act.put _ (some 28) _ = _; simp only [Act.put, List.setIfInBounds_toArray, List.set_cons_zero, List.set_cons_succ, i64_w, i32_w]; rfl
              refine dr_any [4, 7] HT (by kernel_rfl) (by decide) (AllReadyL.cons rfl (by decide) (fun K hK => ?_) (AllReadyL.cons rfl (by decide) (fun K hK => ?_) AllReadyL.nil))
              · refine if_wp (by rfl) ?_; refine wp_run (run_str rfl rfl Try.underlying155 Try.underlying5 Try.underlying9 (HS.rd 1 rfl)) ?_
                refine hK.out _ _ ⟨_, HS⟩ (fun HH => ?_)
                clear hK K
                refine norm_ (a' := ?_) ?_ ?_
                rotate_left
                · show Act.put _ (some 29) _ = _; simp only [Act.put, List.setIfInBounds_toArray, List.set_cons_zero, List.set_cons_succ, i64_w, i32_w]; rfl
                refine dr_one 7 HT rfl (by kernel_rfl) (by decide) (fun K hK => ?_)
                refine goes_ Try.func142 (by kernel_rfl) rfl #[.int .i64 (x11.size : Int)] (by rfl) rfl rfl (by simp only [List.map_toArray, List.map_cons, List.map_nil]; rfl) ?_; refine (spec_l07Length.calls ht107001.out).mono ?_; rintro _ wt107001 ⟨rfl, HQ⟩; refine ⟨_, rfl, ?_⟩; replace HS := HS.call HQ; clear HQ; (try clear F); have F := HS.boxes; simp only [boxFacts, wrt, clr0, clr1, List.cons_append, List.nil_append, List.append_nil, List.set_cons_zero, List.set_cons_succ, and_true] at F
                refine hK.out _ _ ⟨_, HS⟩ (fun HH => ?_)
                clear hK K
                refine norm_ (a' := ?_) ?_ ?_
                rotate_left
                · show Act.put _ (some 32) _ = _; simp only [Act.put, List.setIfInBounds_toArray, List.set_cons_zero, List.set_cons_succ, i64_w, i32_w]; rfl
                refine dr_pure 8 (some 33) HT (v := .string ((strOfNums ([(a0.f0 % 256)] : List Int)) ++ t107001)) (a' := ?_) rfl rfl (by kernel_rfl) (fun _ _ _ h => h) (.inl ⟨by rfl, fun w' => (run_cat rfl rfl rfl (of_eq_true c108001))⟩) ?_ ?_
                rotate_left
                · simp only [Act.put, List.setIfInBounds_toArray, List.set_cons_zero, List.set_cons_succ, i64_w, i32_w]; rfl
                refine dr_pure 10 (some 35) HT (v := .string (((strOfNums ([(a0.f0 % 256)] : List Int)) ++ t107001) ++ x11)) (a' := ?_) rfl rfl (by kernel_rfl) (fun _ _ _ h => h) (.inl ⟨by rfl, fun w' => (run_cat rfl rfl rfl (of_eq_true c110001))⟩) ?_ ?_
                rotate_left
                · simp only [Act.put, List.setIfInBounds_toArray, List.set_cons_zero, List.set_cons_succ, i64_w, i32_w]; rfl
                refine dr_pure 11 (some 2) HT (v := ?_) (a' := ?_) rfl rfl (by kernel_rfl) (fun _ _ _ h => h) (.inl ⟨by rfl, ?_⟩) ?_ ?_
                rotate_left
                · intro w'; go_simp; with_reducible rfl
                rotate_left
                · simp only [Act.put, List.setIfInBounds_toArray, List.set_cons_zero, List.set_cons_succ, i64_w, i32_w]; rfl
                refine norm_ ?_ (hJ (.slice B103001 1 d103001) _ (HS.arr [some 0, some 1] (by decide)))
                simp only [putAll, Act.put, List.setIfInBounds_toArray, List.set_cons_zero, List.set_cons_succ, i64_w, i32_w]
                (try rfl)
              · refine goes_ Try.func142 (by kernel_rfl) rfl #[.int .i64 (x11.size : Int)] (by rfl) rfl rfl (by simp only [List.map_toArray, List.map_cons, List.map_nil]; rfl) ?_; refine (spec_l07Length.calls ht107001.out).mono ?_; rintro _ wt107001 ⟨rfl, HQ⟩; refine ⟨_, rfl, ?_⟩; replace HS := HS.call HQ; clear HQ; (try clear F); have F := HS.boxes; simp only [boxFacts, wrt, clr0, clr1, List.cons_append, List.nil_append, List.append_nil, List.set_cons_zero, List.set_cons_succ, and_true] at F
                refine hK.out _ _ ⟨_, HS⟩ (fun HH => ?_)
                clear hK K
                refine norm_ (a' := ?_) ?_ ?_
                rotate_left
                · show Act.put _ (some 32) _ = _; simp only [Act.put, List.setIfInBounds_toArray, List.set_cons_zero, List.set_cons_succ, i64_w, i32_w]; rfl
                refine dr_one 4 HT rfl (by kernel_rfl) (by decide) (fun K hK => ?_)
                refine if_wp (by rfl) ?_; refine wp_run (run_str rfl rfl Try.underlying155 Try.underlying5 Try.underlying9 (HS.rd 1 rfl)) ?_
                refine hK.out _ _ ⟨_, HS⟩ (fun HH => ?_)
                clear hK K
                refine norm_ (a' := ?_) ?_ ?_
                rotate_left
                · show Act.put _ (some 29) _ = _; simp only [Act.put, List.setIfInBounds_toArray, List.set_cons_zero, List.set_cons_succ, i64_w, i32_w]; rfl
                refine dr_pure 8 (some 33) HT (v := .string ((strOfNums ([(a0.f0 % 256)] : List Int)) ++ t107001)) (a' := ?_) rfl rfl (by kernel_rfl) (fun _ _ _ h => h) (.inl ⟨by rfl, fun w' => (run_cat rfl rfl rfl (of_eq_true c108001))⟩) ?_ ?_
                rotate_left
                · simp only [Act.put, List.setIfInBounds_toArray, List.set_cons_zero, List.set_cons_succ, i64_w, i32_w]; rfl
                refine dr_pure 10 (some 35) HT (v := .string (((strOfNums ([(a0.f0 % 256)] : List Int)) ++ t107001) ++ x11)) (a' := ?_) rfl rfl (by kernel_rfl) (fun _ _ _ h => h) (.inl ⟨by rfl, fun w' => (run_cat rfl rfl rfl (of_eq_true c110001))⟩) ?_ ?_
                rotate_left
                · simp only [Act.put, List.setIfInBounds_toArray, List.set_cons_zero, List.set_cons_succ, i64_w, i32_w]; rfl
                refine dr_pure 11 (some 2) HT (v := ?_) (a' := ?_) rfl rfl (by kernel_rfl) (fun _ _ _ h => h) (.inl ⟨by rfl, ?_⟩) ?_ ?_
                rotate_left
                · intro w'; go_simp; with_reducible rfl
                rotate_left
                · simp only [Act.put, List.setIfInBounds_toArray, List.set_cons_zero, List.set_cons_succ, i64_w, i32_w]; rfl
                refine norm_ ?_ (hJ (.slice B103001 1 d103001) _ (HS.arr [some 0, some 1] (by decide)))
                simp only [putAll, Act.put, List.setIfInBounds_toArray, List.set_cons_zero, List.set_cons_succ, i64_w, i32_w]
                (try rfl)
            · refine goes_ Try.func142 (by kernel_rfl) rfl #[.int .i64 (x11.size : Int)] (by rfl) rfl rfl (by simp only [List.map_toArray, List.map_cons, List.map_nil]; rfl) ?_; refine (spec_l07Length.calls ht107001.out).mono ?_; rintro _ wt107001 ⟨rfl, HQ⟩; refine ⟨_, rfl, ?_⟩; replace HS := HS.call HQ; clear HQ; (try clear F); have F := HS.boxes; simp only [boxFacts, wrt, clr0, clr1, List.cons_append, List.nil_append, List.append_nil, List.set_cons_zero, List.set_cons_succ, and_true] at F
              refine hK.out _ _ ⟨_, HS⟩ (fun HH => ?_)
              clear hK K
              refine norm_ (a' := ?_) ?_ ?_
              rotate_left
              · show Act.put _ (some 32) _ = _; simp only [Act.put, List.setIfInBounds_toArray, List.set_cons_zero, List.set_cons_succ, i64_w, i32_w]; rfl
              refine dr_one 3 HT rfl (by kernel_rfl) (by decide) (fun K hK => ?_)
              refine if_wp (by rfl) ?_; refine wp_lit (Zd.int .u8) [] ([(a0.f0 % 256)] : List Int) ([.int .u8 (a0.f0 % 256)] ++ []) HS (by first | (go_simp; done) | (go_simp; rfl)) rfl rfl (Nat.le_of_ble_eq_true rfl) (MadeL.cons (js1 := []) (c := [.int .u8 (a0.f0 % 256)]) rfl (made_flat (fun _ => rfl)) MadeL.nil (by decide)) ?_; clear HS; (try clear F); intro v103001 w103001 HS; obtain ⟨B103001, d103001, rfl, m103001⟩ := HS.formn 1 1 rfl rfl; have F := HS.boxes; simp only [boxFacts, wrt, clr0, clr1, List.cons_append, List.nil_append, List.append_nil, List.set_cons_zero, List.set_cons_succ, and_true] at F
              refine hK.out _ _ ⟨_, HS⟩ (fun HH => ?_)
              clear hK K
              refine norm_ (a' := ?_) ?_ ?_
              rotate_left
              · show Act.put _ (some 28) _ = _; simp only [Act.put, List.setIfInBounds_toArray, List.set_cons_zero, List.set_cons_succ, i64_w, i32_w]; rfl
              refine dr_one 4 HT rfl (by kernel_rfl) (by decide) (fun K hK => ?_)
              refine if_wp (by rfl) ?_; refine wp_run (run_str rfl rfl Try.underlying155 Try.underlying5 Try.underlying9 (HS.rd 1 rfl)) ?_
              refine hK.out _ _ ⟨_, HS⟩ (fun HH => ?_)
              clear hK K
              refine norm_ (a' := ?_) ?_ ?_
              rotate_left
              · show Act.put _ (some 29) _ = _; simp only [Act.put, List.setIfInBounds_toArray, List.set_cons_zero, List.set_cons_succ, i64_w, i32_w]; rfl
              refine dr_pure 8 (some 33) HT (v := .string ((strOfNums ([(a0.f0 % 256)] : List Int)) ++ t107001)) (a' := ?_) rfl rfl (by kernel_rfl) (fun _ _ _ h => h) (.inl ⟨by rfl, fun w' => (run_cat rfl rfl rfl (of_eq_true c108001))⟩) ?_ ?_
              rotate_left
              · simp only [Act.put, List.setIfInBounds_toArray, List.set_cons_zero, List.set_cons_succ, i64_w, i32_w]; rfl
              refine dr_pure 10 (some 35) HT (v := .string (((strOfNums ([(a0.f0 % 256)] : List Int)) ++ t107001) ++ x11)) (a' := ?_) rfl rfl (by kernel_rfl) (fun _ _ _ h => h) (.inl ⟨by rfl, fun w' => (run_cat rfl rfl rfl (of_eq_true c110001))⟩) ?_ ?_
              rotate_left
              · simp only [Act.put, List.setIfInBounds_toArray, List.set_cons_zero, List.set_cons_succ, i64_w, i32_w]; rfl
              refine dr_pure 11 (some 2) HT (v := ?_) (a' := ?_) rfl rfl (by kernel_rfl) (fun _ _ _ h => h) (.inl ⟨by rfl, ?_⟩) ?_ ?_
              rotate_left
              · intro w'; go_simp; with_reducible rfl
              rotate_left
              · simp only [Act.put, List.setIfInBounds_toArray, List.set_cons_zero, List.set_cons_succ, i64_w, i32_w]; rfl
              refine norm_ ?_ (hJ (.slice B103001 1 d103001) _ (HS.arr [some 0, some 1] (by decide)))
              simp only [putAll, Act.put, List.setIfInBounds_toArray, List.set_cons_zero, List.set_cons_succ, i64_w, i32_w]
              (try rfl)
          rintro v103001 w199999 HS
          obtain ⟨B103001, d103001, rfl, m103001⟩ := HS.formn 1 1 rfl (by first | rfl | simp)
          have F := HS.boxes; simp only [boxFacts, wrt, clr0, clr1, List.cons_append, List.nil_append, List.append_nil, List.set_cons_zero, List.set_cons_succ, and_true] at F
          refine norm_ (a' := ?_) ?_ ?_
          rotate_left
          · simp only [putAll, Act.put, List.setIfInBounds_toArray, List.set_cons_zero, List.set_cons_succ, i64_w, i32_w]; rfl
          refine done_ (done_of HT.out (by kernel_rfl)) ?_
          obtain rfl := zsome H
          go_wp2
          go_ret
          exact ⟨rfl, HS.pick [] (by decide) (by rfl)⟩
    · replace H := zneg c3 H
      have c3a := beq_eq_false_iff_ne.mpr c3
      have c3b := bne_iff_ne.mpr c3
      clear c3
      (try simp only [c3a, c3b, decide_true, decide_false, Bool.not_true, Bool.not_false])
      (try go_wp2)
      obtain ⟨t207001, ht207001, H⟩ := zbind H
      by_cases c208001 : (strOfNums ([(a0.f0 % 256)] : List Int)).size + t207001.size ≤ 9223372036854775807
      case neg => exact zno c208001 H
      replace H := zpos c208001 H
      replace c208001 := eq_true c208001
      by_cases c210001 : ((strOfNums ([(a0.f0 % 256)] : List Int)) ++ t207001).size + a0.f1.size ≤ 9223372036854775807
      case neg => exact zno c210001 H
      replace H := zpos c210001 H
      replace c210001 := eq_true c210001
      refine dr_start [] HS #[false, false, false, false, false, false, false, false, false, false, false, false] (by kernel_rfl) rfl rfl spec_l07Text.tT7 (fun w25 HT HS HH => ?_)
      (try clear F)
      refine join_ 0 #[true, true, true, true, true, true, true, true, true, true, true, true] (fun (v203001 : Value) => ([(25, .pointer (some ⟨g1, 0, none⟩)), (26, .int .i64 a0.f0), (27, .int .u8 (a0.f0 % 256)), (28, v203001), (29, .string (strOfNums ([(a0.f0 % 256)] : List Int))), (30, .string a0.f1), (31, .int .i64 (a0.f1.size : Int)), (32, .string t207001), (33, .string ((strOfNums ([(a0.f0 % 256)] : List Int)) ++ t207001)), (34, .string a0.f1), (35, .string (((strOfNums ([(a0.f0 % 256)] : List Int)) ++ t207001) ++ a0.f1)), (2, .string (((strOfNums ([(a0.f0 % 256)] : List Int)) ++ t207001) ++ a0.f1))] : List (Tmp × Value))) (fun (v203001 : Value) w' => Hp noFP w w' [.box g1 [.int .i64 a0.f0, .string a0.f1, .slice Ap0 a0.f2.length cp0] 141, .own (Zd.slice 5 (Zd.int .u8)) ([(a0.f0 % 256)] : List Int) [v203001]]) ?_ ?_
      rotate_left
      · intro hJ
        refine dr_pure 0 (some 25) HT (v := ?_) (a' := ?_) rfl rfl (by kernel_rfl) (fun _ _ _ h => h) (.inl ⟨by rfl, ?_⟩) ?_ ?_
        rotate_left
        · intro w'; go_simp; with_reducible rfl
        rotate_left
        · simp only [Act.put, List.setIfInBounds_toArray, List.set_cons_zero, List.set_cons_succ, i64_w, i32_w]; rfl
        refine dr_take 1 (some 26) HT HH (v := ?_) (a' := ?_) rfl rfl (by kernel_rfl) (fun _ _ _ h => h) (.inl ⟨by rfl, ?_⟩) ?_ ?_
        rotate_left
        · rintro w' ⟨rs', HS'⟩; have F := HS'.boxes; simp only [boxFacts, wrt, clr0, clr1, List.cons_append, List.nil_append, List.append_nil, List.set_cons_zero, List.set_cons_succ, and_true] at F; go_simp; with_reducible rfl
        rotate_left
        · simp only [Act.put, List.setIfInBounds_toArray, List.set_cons_zero, List.set_cons_succ, i64_w, i32_w]; rfl
        refine dr_pure 2 (some 27) HT (v := ?_) (a' := ?_) rfl rfl (by kernel_rfl) (fun _ _ _ h => h) (.inl ⟨by rfl, ?_⟩) ?_ ?_
        rotate_left
        · intro w'; go_simp; with_reducible rfl
        rotate_left
        · simp only [Act.put, List.setIfInBounds_toArray, List.set_cons_zero, List.set_cons_succ, i64_w, i32_w]; rfl
        refine dr_pure 5 (some 30) HT (v := ?_) (a' := ?_) rfl rfl (by kernel_rfl) (fun _ _ _ h => h) (.inl ⟨by rfl, ?_⟩) ?_ ?_
        rotate_left
        · intro w'; go_simp; with_reducible rfl
        rotate_left
        · simp only [Act.put, List.setIfInBounds_toArray, List.set_cons_zero, List.set_cons_succ, i64_w, i32_w]; rfl
        refine dr_pure 6 (some 31) HT (v := ?_) (a' := ?_) rfl rfl (by kernel_rfl) (fun _ _ _ h => h) (.inl ⟨by rfl, ?_⟩) ?_ ?_
        rotate_left
        · intro w'; go_simp; with_reducible rfl
        rotate_left
        · simp only [Act.put, List.setIfInBounds_toArray, List.set_cons_zero, List.set_cons_succ, i64_w, i32_w]; rfl
        refine dr_pure 9 (some 34) HT (v := ?_) (a' := ?_) rfl rfl (by kernel_rfl) (fun _ _ _ h => h) (.inl ⟨by rfl, ?_⟩) ?_ ?_
        rotate_left
        · intro w'; go_simp; with_reducible rfl
        rotate_left
        · simp only [Act.put, List.setIfInBounds_toArray, List.set_cons_zero, List.set_cons_succ, i64_w, i32_w]; rfl
        refine dr_any [3, 7] HT (by kernel_rfl) (by decide) (AllReadyL.cons rfl (by decide) (fun K hK => ?_) (AllReadyL.cons rfl (by decide) (fun K hK => ?_) AllReadyL.nil))
        · refine if_wp (by rfl) ?_; refine wp_lit (Zd.int .u8) [] ([(a0.f0 % 256)] : List Int) ([.int .u8 (a0.f0 % 256)] ++ []) HS (by first | (go_simp; done) | (go_simp; rfl)) rfl rfl (Nat.le_of_ble_eq_true rfl) (MadeL.cons (js1 := []) (c := [.int .u8 (a0.f0 % 256)]) rfl (made_flat (fun _ => rfl)) MadeL.nil (by decide)) ?_; clear HS; (try clear F); intro v203001 w203001 HS; obtain ⟨B203001, d203001, rfl, m203001⟩ := HS.formn 1 1 rfl rfl; have F := HS.boxes; simp only [boxFacts, wrt, clr0, clr1, List.cons_append, List.nil_append, List.append_nil, List.set_cons_zero, List.set_cons_succ, and_true] at F
          refine hK.out _ _ ⟨_, HS⟩ (fun HH => ?_)
          clear hK K
          refine norm_ (a' := ?_) ?_ ?_
          rotate_left
          · show Act.put _ (some 28) _ = _; simp only [Act.put, List.setIfInBounds_toArray, List.set_cons_zero, List.set_cons_succ, i64_w, i32_w]; rfl
          refine dr_any [4, 7] HT (by kernel_rfl) (by decide) (AllReadyL.cons rfl (by decide) (fun K hK => ?_) (AllReadyL.cons rfl (by decide) (fun K hK => ?_) AllReadyL.nil))
          · refine if_wp (by rfl) ?_; refine wp_run (run_str rfl rfl Try.underlying155 Try.underlying5 Try.underlying9 (HS.rd 1 rfl)) ?_
            refine hK.out _ _ ⟨_, HS⟩ (fun HH => ?_)
            clear hK K
            refine norm_ (a' := ?_) ?_ ?_
            rotate_left
            · show Act.put _ (some 29) _ = _; simp only [Act.put, List.setIfInBounds_toArray, List.set_cons_zero, List.set_cons_succ, i64_w, i32_w]; rfl
            refine dr_one 7 HT rfl (by kernel_rfl) (by decide) (fun K hK => ?_)
            refine goes_ Try.func142 (by kernel_rfl) rfl #[.int .i64 (a0.f1.size : Int)] (by rfl) rfl rfl (by simp only [List.map_toArray, List.map_cons, List.map_nil]; rfl) ?_; refine (spec_l07Length.calls ht207001.out).mono ?_; rintro _ wt207001 ⟨rfl, HQ⟩; refine ⟨_, rfl, ?_⟩; replace HS := HS.call HQ; clear HQ; (try clear F); have F := HS.boxes; simp only [boxFacts, wrt, clr0, clr1, List.cons_append, List.nil_append, List.append_nil, List.set_cons_zero, List.set_cons_succ, and_true] at F
            refine hK.out _ _ ⟨_, HS⟩ (fun HH => ?_)
            clear hK K
            refine norm_ (a' := ?_) ?_ ?_
            rotate_left
            · show Act.put _ (some 32) _ = _; simp only [Act.put, List.setIfInBounds_toArray, List.set_cons_zero, List.set_cons_succ, i64_w, i32_w]; rfl
            refine dr_pure 8 (some 33) HT (v := .string ((strOfNums ([(a0.f0 % 256)] : List Int)) ++ t207001)) (a' := ?_) rfl rfl (by kernel_rfl) (fun _ _ _ h => h) (.inl ⟨by rfl, fun w' => (run_cat rfl rfl rfl (of_eq_true c208001))⟩) ?_ ?_
            rotate_left
            · simp only [Act.put, List.setIfInBounds_toArray, List.set_cons_zero, List.set_cons_succ, i64_w, i32_w]; rfl
            refine dr_pure 10 (some 35) HT (v := .string (((strOfNums ([(a0.f0 % 256)] : List Int)) ++ t207001) ++ a0.f1)) (a' := ?_) rfl rfl (by kernel_rfl) (fun _ _ _ h => h) (.inl ⟨by rfl, fun w' => (run_cat rfl rfl rfl (of_eq_true c210001))⟩) ?_ ?_
            rotate_left
            · simp only [Act.put, List.setIfInBounds_toArray, List.set_cons_zero, List.set_cons_succ, i64_w, i32_w]; rfl
            refine dr_pure 11 (some 2) HT (v := ?_) (a' := ?_) rfl rfl (by kernel_rfl) (fun _ _ _ h => h) (.inl ⟨by rfl, ?_⟩) ?_ ?_
            rotate_left
            · intro w'; go_simp; with_reducible rfl
            rotate_left
            · simp only [Act.put, List.setIfInBounds_toArray, List.set_cons_zero, List.set_cons_succ, i64_w, i32_w]; rfl
            refine norm_ ?_ (hJ (.slice B203001 1 d203001) _ (HS.arr [some 0, some 1] (by decide)))
            simp only [putAll, Act.put, List.setIfInBounds_toArray, List.set_cons_zero, List.set_cons_succ, i64_w, i32_w]
            (try rfl)
          · refine goes_ Try.func142 (by kernel_rfl) rfl #[.int .i64 (a0.f1.size : Int)] (by rfl) rfl rfl (by simp only [List.map_toArray, List.map_cons, List.map_nil]; rfl) ?_; refine (spec_l07Length.calls ht207001.out).mono ?_; rintro _ wt207001 ⟨rfl, HQ⟩; refine ⟨_, rfl, ?_⟩; replace HS := HS.call HQ; clear HQ; (try clear F); have F := HS.boxes; simp only [boxFacts, wrt, clr0, clr1, List.cons_append, List.nil_append, List.append_nil, List.set_cons_zero, List.set_cons_succ, and_true] at F
            refine hK.out _ _ ⟨_, HS⟩ (fun HH => ?_)
            clear hK K
            refine norm_ (a' := ?_) ?_ ?_
            rotate_left
            · show Act.put _ (some 32) _ = _; simp only [Act.put, List.setIfInBounds_toArray, List.set_cons_zero, List.set_cons_succ, i64_w, i32_w]; rfl
            refine dr_one 4 HT rfl (by kernel_rfl) (by decide) (fun K hK => ?_)
            refine if_wp (by rfl) ?_; refine wp_run (run_str rfl rfl Try.underlying155 Try.underlying5 Try.underlying9 (HS.rd 1 rfl)) ?_
            refine hK.out _ _ ⟨_, HS⟩ (fun HH => ?_)
            clear hK K
            refine norm_ (a' := ?_) ?_ ?_
            rotate_left
            · show Act.put _ (some 29) _ = _; simp only [Act.put, List.setIfInBounds_toArray, List.set_cons_zero, List.set_cons_succ, i64_w, i32_w]; rfl
            refine dr_pure 8 (some 33) HT (v := .string ((strOfNums ([(a0.f0 % 256)] : List Int)) ++ t207001)) (a' := ?_) rfl rfl (by kernel_rfl) (fun _ _ _ h => h) (.inl ⟨by rfl, fun w' => (run_cat rfl rfl rfl (of_eq_true c208001))⟩) ?_ ?_
            rotate_left
            · simp only [Act.put, List.setIfInBounds_toArray, List.set_cons_zero, List.set_cons_succ, i64_w, i32_w]; rfl
            refine dr_pure 10 (some 35) HT (v := .string (((strOfNums ([(a0.f0 % 256)] : List Int)) ++ t207001) ++ a0.f1)) (a' := ?_) rfl rfl (by kernel_rfl) (fun _ _ _ h => h) (.inl ⟨by rfl, fun w' => (run_cat rfl rfl rfl (of_eq_true c210001))⟩) ?_ ?_
            rotate_left
            · simp only [Act.put, List.setIfInBounds_toArray, List.set_cons_zero, List.set_cons_succ, i64_w, i32_w]; rfl
            refine dr_pure 11 (some 2) HT (v := ?_) (a' := ?_) rfl rfl (by kernel_rfl) (fun _ _ _ h => h) (.inl ⟨by rfl, ?_⟩) ?_ ?_
            rotate_left
            · intro w'; go_simp; with_reducible rfl
            rotate_left
            · simp only [Act.put, List.setIfInBounds_toArray, List.set_cons_zero, List.set_cons_succ, i64_w, i32_w]; rfl
            refine norm_ ?_ (hJ (.slice B203001 1 d203001) _ (HS.arr [some 0, some 1] (by decide)))
            simp only [putAll, Act.put, List.setIfInBounds_toArray, List.set_cons_zero, List.set_cons_succ, i64_w, i32_w]
            (try rfl)
        · refine goes_ Try.func142 (by kernel_rfl) rfl #[.int .i64 (a0.f1.size : Int)] (by rfl) rfl rfl (by simp only [List.map_toArray, List.map_cons, List.map_nil]; rfl) ?_; refine (spec_l07Length.calls ht207001.out).mono ?_; rintro _ wt207001 ⟨rfl, HQ⟩; refine ⟨_, rfl, ?_⟩; replace HS := HS.call HQ; clear HQ; (try clear F); have F := HS.boxes; simp only [boxFacts, wrt, clr0, clr1, List.cons_append, List.nil_append, List.append_nil, List.set_cons_zero, List.set_cons_succ, and_true] at F
          refine hK.out _ _ ⟨_, HS⟩ (fun HH => ?_)
          clear hK K
          refine norm_ (a' := ?_) ?_ ?_
          rotate_left
          · show Act.put _ (some 32) _ = _; simp only [Act.put, List.setIfInBounds_toArray, List.set_cons_zero, List.set_cons_succ, i64_w, i32_w]; rfl
          refine dr_one 3 HT rfl (by kernel_rfl) (by decide) (fun K hK => ?_)
          refine if_wp (by rfl) ?_; refine wp_lit (Zd.int .u8) [] ([(a0.f0 % 256)] : List Int) ([.int .u8 (a0.f0 % 256)] ++ []) HS (by first | (go_simp; done) | (go_simp; rfl)) rfl rfl (Nat.le_of_ble_eq_true rfl) (MadeL.cons (js1 := []) (c := [.int .u8 (a0.f0 % 256)]) rfl (made_flat (fun _ => rfl)) MadeL.nil (by decide)) ?_; clear HS; (try clear F); intro v203001 w203001 HS; obtain ⟨B203001, d203001, rfl, m203001⟩ := HS.formn 1 1 rfl rfl; have F := HS.boxes; simp only [boxFacts, wrt, clr0, clr1, List.cons_append, List.nil_append, List.append_nil, List.set_cons_zero, List.set_cons_succ, and_true] at F
          refine hK.out _ _ ⟨_, HS⟩ (fun HH => ?_)
          clear hK K
          refine norm_ (a' := ?_) ?_ ?_
          rotate_left
          · show Act.put _ (some 28) _ = _; simp only [Act.put, List.setIfInBounds_toArray, List.set_cons_zero, List.set_cons_succ, i64_w, i32_w]; rfl
          refine dr_one 4 HT rfl (by kernel_rfl) (by decide) (fun K hK => ?_)
          refine if_wp (by rfl) ?_; refine wp_run (run_str rfl rfl Try.underlying155 Try.underlying5 Try.underlying9 (HS.rd 1 rfl)) ?_
          refine hK.out _ _ ⟨_, HS⟩ (fun HH => ?_)
          clear hK K
          refine norm_ (a' := ?_) ?_ ?_
          rotate_left
          · show Act.put _ (some 29) _ = _; simp only [Act.put, List.setIfInBounds_toArray, List.set_cons_zero, List.set_cons_succ, i64_w, i32_w]; rfl
          refine dr_pure 8 (some 33) HT (v := .string ((strOfNums ([(a0.f0 % 256)] : List Int)) ++ t207001)) (a' := ?_) rfl rfl (by kernel_rfl) (fun _ _ _ h => h) (.inl ⟨by rfl, fun w' => (run_cat rfl rfl rfl (of_eq_true c208001))⟩) ?_ ?_
          rotate_left
          · simp only [Act.put, List.setIfInBounds_toArray, List.set_cons_zero, List.set_cons_succ, i64_w, i32_w]; rfl
          refine dr_pure 10 (some 35) HT (v := .string (((strOfNums ([(a0.f0 % 256)] : List Int)) ++ t207001) ++ a0.f1)) (a' := ?_) rfl rfl (by kernel_rfl) (fun _ _ _ h => h) (.inl ⟨by rfl, fun w' => (run_cat rfl rfl rfl (of_eq_true c210001))⟩) ?_ ?_
          rotate_left
          · simp only [Act.put, List.setIfInBounds_toArray, List.set_cons_zero, List.set_cons_succ, i64_w, i32_w]; rfl
          refine dr_pure 11 (some 2) HT (v := ?_) (a' := ?_) rfl rfl (by kernel_rfl) (fun _ _ _ h => h) (.inl ⟨by rfl, ?_⟩) ?_ ?_
          rotate_left
          · intro w'; go_simp; with_reducible rfl
          rotate_left
          · simp only [Act.put, List.setIfInBounds_toArray, List.set_cons_zero, List.set_cons_succ, i64_w, i32_w]; rfl
          refine norm_ ?_ (hJ (.slice B203001 1 d203001) _ (HS.arr [some 0, some 1] (by decide)))
          simp only [putAll, Act.put, List.setIfInBounds_toArray, List.set_cons_zero, List.set_cons_succ, i64_w, i32_w]
          (try rfl)
      rintro v203001 w299999 HS
      obtain ⟨B203001, d203001, rfl, m203001⟩ := HS.formn 1 1 rfl (by first | rfl | simp)
      have F := HS.boxes; simp only [boxFacts, wrt, clr0, clr1, List.cons_append, List.nil_append, List.append_nil, List.set_cons_zero, List.set_cons_succ, and_true] at F
      refine norm_ (a' := ?_) ?_ ?_
      rotate_left
      · simp only [putAll, Act.put, List.setIfInBounds_toArray, List.set_cons_zero, List.set_cons_succ, i64_w, i32_w]; rfl
      refine done_ (done_of HT.out (by kernel_rfl)) ?_
      obtain rfl := zsome H
      go_wp2
      go_ret
      exact ⟨rfl, HS.pick [] (by decide) (by rfl)⟩
theorem spec_l07Text.calls {k : Nat} {a0 : S141} {Ap0 : Option Addr} {np0 cp0 : Nat} {r : ByteArray} {w : World} (h : spec_l07Text.f k a0 = some r) (gp0 : k141.C w Ap0 np0 a0.f2) (lp0 : np0 ≤ cp0) :
    Calls Try.prog 130 #[.agg #[.int .i64 a0.f0, .string a0.f1, .slice Ap0 np0 cp0]] w (fun e w' => e = .returned (.string r) ∧ Hp noFP w w' []) := spec_l07Text.calls_ k (Nat.le_refl k) h gp0 lp0
/-! ### spec_ItemText: function 110 -/
def spec_ItemText.f (k : Nat) (a0 : S141) : Option (ByteArray × Bool) := ((spec_ItemOk.f k a0).bind fun t3 => (if t3 = true then ((spec_l07Text.f k a0).bind fun t6 => (if 4000 < (t6.size : Int) then (some ((⟨#[]⟩ : ByteArray), false)) else (some (t6, true)))) else (some ((⟨#[]⟩ : ByteArray), false))))
set_option maxHeartbeats 16000000 in
theorem spec_ItemText.calls {k : Nat} {a0 : S141} {Ap0 : Option Addr} {np0 cp0 : Nat} {r1 : ByteArray} {r2 : Bool} {w : World} (h : spec_ItemText.f k a0 = some (r1, r2)) (gp0 : k141.C w Ap0 np0 a0.f2) (lp0 : np0 ≤ cp0) :
    Calls Try.prog 110 #[.agg #[.int .i64 a0.f0, .string a0.f1, .slice Ap0 np0 cp0]] w (fun e w' => e = .returned (.tuple #[.string r1, .bool r2]) ∧ Hp noFP w w' []) := by
 obtain rfl := C_len gp0
 have HS := Hp.start w
 have H := Aside0.mk h
 clear h
 unfold spec_ItemText.f at H
 go_enter Try.func110, Try.ntmps110
 obtain ⟨t3, ht3, H⟩ := zbind H
 go_upto_if 7 with (first | ((with_reducible refine gate_dst (N := 1) rfl ?_); refine ev_box rfl HS (by first | (go_simp; done) | (go_simp; rfl)) rfl ?_; clear HS; (try clear F); intro g1 w1 HS; have F := HS.boxes; simp only [boxFacts, wrt, clr0, clr1, List.cons_append, List.nil_append, List.append_nil, List.set_cons_zero, List.set_cons_succ, and_true] at F) | ((with_reducible refine gate_dst (N := 6) rfl ?_); refine ev_call rfl Try.func129 (by kernel_rfl) rfl #[.agg #[.int .i64 a0.f0, .string a0.f1, .slice Ap0 a0.f2.length cp0]] rfl (by simp only [List.map_toArray, List.map_cons, List.map_nil]; rfl) ?_; refine (spec_ItemOk.calls ht3.out (HS.ro gp0) lp0).mono ?_; rintro _ wt3 ⟨rfl, HQ⟩; refine ⟨_, rfl, ?_⟩; replace HS := HS.call HQ; clear HQ; (try clear F); have F := HS.boxes; simp only [boxFacts, wrt, clr0, clr1, List.cons_append, List.nil_append, List.append_nil, List.set_cons_zero, List.set_cons_succ, and_true] at F))
 by_cases c5 : t3 = true
 · replace H := zpos c5 H
   (try simp only [c5, decide_true, decide_false, Bool.not_true, Bool.not_false])
   obtain ⟨t6, ht6, H⟩ := zbind H
   go_upto_if 12 with (first | ((with_reducible refine gate_dst (N := 9) rfl ?_); refine ev_call rfl Try.func130 (by kernel_rfl) rfl #[.agg #[.int .i64 a0.f0, .string a0.f1, .slice Ap0 a0.f2.length cp0]] rfl (by simp only [List.map_toArray, List.map_cons, List.map_nil]; rfl) ?_; refine (spec_l07Text.calls ht6.out (HS.ro gp0) lp0).mono ?_; rintro _ wt6 ⟨rfl, HQ⟩; refine ⟨_, rfl, ?_⟩; replace HS := HS.call HQ; clear HQ; (try clear F); have F := HS.boxes; simp only [boxFacts, wrt, clr0, clr1, List.cons_append, List.nil_append, List.append_nil, List.set_cons_zero, List.set_cons_succ, and_true] at F))
   by_cases c8 : 4000 < (t6.size : Int)
   · replace H := zpos c8 H
     replace c8 := eq_true c8
     (try simp only [c8, decide_true, decide_false, Bool.not_true, Bool.not_false])
     obtain ⟨rfl, rfl⟩ := zsome2 H
     go_wp2
     exact bodyPost_ret (results_list (rs := [.tmp 2, .tmp 3]) rfl (by simp) (.tmp (.tmp .nil))) rfl ⟨rfl, HS.pick [] (by decide) (by rfl)⟩
   · replace H := zneg c8 H
     replace c8 := eq_false c8
     (try simp only [c8, decide_true, decide_false, Bool.not_true, Bool.not_false])
     obtain ⟨rfl, rfl⟩ := zsome2 H
     go_wp2
     exact bodyPost_ret (results_list (rs := [.tmp 2, .tmp 3]) rfl (by simp) (.tmp (.tmp .nil))) rfl ⟨rfl, HS.pick [] (by decide) (by rfl)⟩
 · replace H := zneg c5 H
   replace c5 := eq_false_of_ne_true c5
   (try simp only [c5, decide_true, decide_false, Bool.not_true, Bool.not_false])
   obtain ⟨rfl, rfl⟩ := zsome2 H
   go_wp2
   exact bodyPost_ret (results_list (rs := [.tmp 2, .tmp 3]) rfl (by simp) (.tmp (.tmp .nil))) rfl ⟨rfl, HS.pick [] (by decide) (by rfl)⟩
/-! ### spec_l09Bytes: function 138 -/
def spec_l09Bytes.f (a0 : ByteArray) : Option (S141) := (some (⟨4, a0, ([] : List S141)⟩ : S141))
set_option maxHeartbeats 16000000 in
theorem spec_l09Bytes.calls {a0 : ByteArray} {r : S141} {w : World} (h : spec_l09Bytes.f a0 = some r) :
    Calls Try.prog 138 #[.string a0] w (fun e w' => ∃ v0_ : Value, e = .returned (.agg #[.int .i64 r.f0, .string r.f1, v0_]) ∧ Hp noFP w w' [.own (Zd.slice 141 q141) r.f2 [v0_]]) := by
 have HS := Hp.start w
 have H := Aside0.mk h
 clear h
 unfold spec_l09Bytes.f at H
 go_enter Try.func138, Try.ntmps138
 obtain rfl := zsome H
 go_wp2_with (first | ((with_reducible refine gate_dst (N := 2) rfl ?_); refine ev_box rfl HS (by first | (go_simp; done) | (go_simp; rfl)) rfl ?_; clear HS; (try clear F); intro g2 w2 HS; have F := HS.boxes; simp only [boxFacts, wrt, clr0, clr1, List.cons_append, List.nil_append, List.append_nil, List.set_cons_zero, List.set_cons_succ, and_true] at F) | ((with_reducible refine gate_store (p := 2) rfl ?_); refine ev_store rfl 0 0 HS (seg := [.int .i64 4, .string a0, .slice none 0 0]) rfl rfl rfl rfl rfl rfl (by kernel_rfl) (by simp [wrt]) (by simp [Value.oneCell']) ?_; clear HS; (try clear F); intro w3 HS; have F := HS.boxes; simp only [boxFacts, wrt, clr0, clr1, List.cons_append, List.nil_append, List.append_nil, List.set_cons_zero, List.set_cons_succ, and_true] at F))
 replace HS := HS.nil 141 q141
 exact bodyPost_ret (results_single rfl (.cell _ _ _ _ _ rfl (HS.boxAt (i := 0) rfl) Try.underlying141 rfl (by kernel_rfl) .nil)) rfl ⟨_, rfl, HS.pick [1] (by decide) (by rfl)⟩
/-! ### spec_l14Texts: function 114 -/
def spec_l14Texts.l0 : Nat → (List S141) → Int → (List ByteArray) → Option (S141)
  | 0, _, _, _ => none
  | k + 1, l19, x21, a0 => (if x21 < (a0.length : Int) then (if 0 ≤ x21 then (if x21 < (a0.length : Int) then ((spec_l09Bytes.f (rdOf ByteArray.empty a0 x21)).bind fun t206001 => (if l19.length + 1 ≤ 2932031007402 then (lets (l19 ++ ([t206001] : List S141)) fun y208002 => (spec_l14Texts.l0 k y208002 (wrap64 (x21 + 1)) a0)) else none)) else none) else none) else (some (⟨48, (⟨#[]⟩ : ByteArray), l19⟩ : S141)))
def spec_l14Texts.f (k : Nat) (a0 : (List ByteArray)) : Option (S141) := (spec_l14Texts.l0 k [] 0 a0)
def spec_l14Texts.T5 : Bool × List (List Nat × List Nat) := (true, [([], []), ([0], [0]), ([], []), ([], []), ([2, 3], [2, 3]), ([4], [4]), ([5], [5]), ([6], [6]), ([1, 7, 6], [1, 7]), ([0, 1, 2, 3, 4, 5, 6, 7, 8], []), ([9, 8, 8, 0, 1, 2, 3, 4, 5, 6, 7, 8], [8, 9])])
theorem spec_l14Texts.tT5 : rtab .any (opsOf Try.f114 5) = spec_l14Texts.T5 := by kernel_rfl
set_option maxHeartbeats 16000000 in
theorem spec_l14Texts.calls {k : Nat} {a0 : (List ByteArray)} {Ap0 : Option Addr} {np0 cp0 : Nat} {r : S141} {w : World} (h : spec_l14Texts.f k a0 = some r) (gp0 : Kd.string.C w Ap0 np0 a0) (lp0 : np0 ≤ cp0) :
    Calls Try.prog 114 #[.slice Ap0 np0 cp0] w (fun e w' => ∃ v0_ : Value, e = .returned (.agg #[.int .i64 r.f0, .string r.f1, v0_]) ∧ Hp noFP w w' [.own (Zd.slice 141 q141) r.f2 [v0_]]) := by
 obtain rfl := C_len gp0
 have HS := Hp.start w
 have H := Aside0.mk h
 clear h
 unfold spec_l14Texts.f at H
 go_enter Try.func114, Try.ntmps114
 go_wp2_with (first | ((with_reducible refine gate_dst (N := 2) rfl ?_); refine ev_box rfl HS (by first | (go_simp; done) | (go_simp; rfl)) rfl ?_; clear HS; (try clear F); intro g2 w2 HS; have F := HS.boxes; simp only [boxFacts, wrt, clr0, clr1, List.cons_append, List.nil_append, List.append_nil, List.set_cons_zero, List.set_cons_succ, and_true] at F) | ((with_reducible refine gate_dst (N := 3) rfl ?_); refine ev_box rfl HS (by first | (go_simp; done) | (go_simp; rfl)) rfl ?_; clear HS; (try clear F); intro g3 w3 HS; have F := HS.boxes; simp only [boxFacts, wrt, clr0, clr1, List.cons_append, List.nil_append, List.append_nil, List.set_cons_zero, List.set_cons_succ, and_true] at F) | ((with_reducible refine gate_store (p := 3) rfl ?_); refine ev_store rfl 1 0 HS (seg := [.int .i64 48, .string (⟨#[]⟩ : ByteArray), .slice none 0 0]) rfl rfl rfl rfl rfl rfl (by kernel_rfl) (by simp [wrt]) (by simp [Value.oneCell']) ?_; clear HS; (try clear F); intro w5 HS; have F := HS.boxes; simp only [boxFacts, wrt, clr0, clr1, List.cons_append, List.nil_append, List.append_nil, List.set_cons_zero, List.set_cons_succ, and_true] at F))
 replace HS := HS.nil 141 q141
 go_loopg [4] k (fun kq v_4 w' => ∃ (l19 : List S141) (v20 : Value) (x21 : Int), v_4 = .int .i64 x21 ∧ Aside0 (spec_l14Texts.l0 kq l19 x21 a0 = some r) ∧ Aside0 (kq ≤ k) ∧ Hp noFP w w' [.box g2 [.int .i64 0, .string (⟨#[]⟩ : ByteArray), .slice none 0 0] 141, .box g3 [.int .i64 48, .string (⟨#[]⟩ : ByteArray), v20] 141, .own (Zd.slice 141 q141) l19 [v20]])
 case atStart => exact ⟨_, _, _, rfl, H, ⟨Nat.le_refl _⟩, HS⟩
 case round =>
  clear HS H; (try clear F)
  obtain ⟨l19, v20, x21, rfl, H, HKk18, HS⟩ := hrel
  obtain ⟨B20, d20, rfl, m20⟩ := HS.form 2 rfl
  have F := HS.boxes; simp only [boxFacts, wrt, clr0, clr1, List.cons_append, List.nil_append, List.append_nil, List.set_cons_zero, List.set_cons_succ, and_true] at F
  cases gk with
  | zero => exact absurd H.out (by simp [spec_l14Texts.l0])
  | succ k18 =>
   simp only [spec_l14Texts.l0] at H
   by_cases c23 : x21 < (a0.length : Int)
   · replace H := zpos c23 H
     replace c23 := eq_true c23
     (try go_wp2)
     by_cases c204001 : 0 ≤ x21
     case neg => exact zno c204001 H
     replace H := zpos c204001 H
     replace c204001 := eq_true c204001
     by_cases c204002 : x21 < (a0.length : Int)
     case neg => exact zno c204002 H
     replace H := zpos c204002 H
     replace c204002 := eq_true c204002
     obtain ⟨ad204003, rfl, e204003_0⟩ := Kd.at_string gp0 x21 (of_eq_true c204001) (of_eq_true c204002)
     obtain ⟨t206001, ht206001, H⟩ := zbind H
     by_cases c208001 : l19.length + 1 ≤ 2932031007402
     case neg => exact zno c208001 H
     replace H := zpos c208001 H
     replace c208001 := eq_true c208001
     obtain ⟨y208002, e_y208002, H⟩ := zlets H
     refine dr_start2 [.box g2 [.int .i64 0, .string (⟨#[]⟩ : ByteArray), .slice none 0 0] 141, .box g3 [.int .i64 48, .string (⟨#[]⟩ : ByteArray), .slice B20 l19.length d20] 141, .emp] [10] HS (HS.arr [some 0, some 1, none] (by decide)) #[false, false, false, false, false, false, false, false, false, false, false] (by kernel_rfl) rfl rfl spec_l14Texts.tT5 (fun w25 HT HS HH => ?_)
     (try clear F)
     refine dr_pure 0 (some 12) HT (v := ?_) (a' := ?_) rfl rfl (by kernel_rfl) (fun _ _ _ h => h) (.inl ⟨by rfl, ?_⟩) ?_ ?_
     rotate_left
     · intro w'; go_simp; with_reducible rfl
     rotate_left
     · simp only [Act.put, List.setIfInBounds_toArray, List.set_cons_zero, List.set_cons_succ, i64_w, i32_w]; rfl
     refine dr_take 1 (some 13) HT HH (v := ?_) (a' := ?_) rfl rfl (by kernel_rfl) (fun _ _ _ h => h) (.inl ⟨by rfl, ?_⟩) ?_ ?_
     rotate_left
     · rintro w' ⟨rs', HS'⟩; have F := HS'.boxes; simp only [boxFacts, wrt, clr0, clr1, List.cons_append, List.nil_append, List.append_nil, List.set_cons_zero, List.set_cons_succ, and_true] at F; go_simp; with_reducible rfl
     rotate_left
     · simp only [Act.put, List.setIfInBounds_toArray, List.set_cons_zero, List.set_cons_succ, i64_w, i32_w]; rfl
     refine dr_pure 2 (some 14) HT (v := ?_) (a' := ?_) rfl rfl (by kernel_rfl) (fun _ _ _ h => h) (.inl ⟨by rfl, ?_⟩) ?_ ?_
     rotate_left
     · intro w'; go_simp; with_reducible rfl
     rotate_left
     · simp only [Act.put, List.setIfInBounds_toArray, List.set_cons_zero, List.set_cons_succ, i64_w, i32_w]; rfl
     refine dr_pure 3 (some 15) HT (v := ?_) (a' := ?_) rfl rfl (by kernel_rfl) (fun _ _ _ h => h) (.inl ⟨by rfl, ?_⟩) ?_ ?_
     rotate_left
     · intro w'; go_simp; with_reducible rfl
     rotate_left
     · simp only [Act.put, List.setIfInBounds_toArray, List.set_cons_zero, List.set_cons_succ, i64_w, i32_w]; rfl
     refine dr_pure 4 (some 16) HT (v := ?_) (a' := ?_) rfl rfl (by kernel_rfl) (fun _ _ _ h => h) (.inl ⟨by rfl, ?_⟩) ?_ ?_
     rotate_left
     · intro w'; go_simp; with_reducible rfl
     rotate_left
     · simp only [Act.put, List.setIfInBounds_toArray, List.set_cons_zero, List.set_cons_succ, i64_w, i32_w]; rfl
     refine dr_take 5 (some 17) HT HH (v := ?_) (a' := ?_) rfl rfl (by kernel_rfl) (fun _ _ _ h => h) (.inl ⟨by rfl, ?_⟩) ?_ ?_
     rotate_left
     · rintro w' ⟨rs', HS'⟩; have e204003_0 := HS'.keepc e204003_0; go_simp; with_reducible rfl
     rotate_left
     · simp only [Act.put, List.setIfInBounds_toArray, List.set_cons_zero, List.set_cons_succ, i64_w, i32_w]; rfl
     refine dr_one 6 HT rfl (by kernel_rfl) (by decide) (fun K hK => ?_)
     refine goes_ Try.func138 (by kernel_rfl) rfl #[.string (rdOf ByteArray.empty a0 x21)] (by rfl) rfl rfl (by simp only [List.map_toArray, List.map_cons, List.map_nil]; rfl) ?_; refine (spec_l09Bytes.calls ht206001.out).mono ?_; rintro _ wt206001 ⟨v206002, rfl, HQ⟩; refine ⟨_, rfl, ?_⟩; replace HS := HS.call HQ; clear HQ; (try clear F); obtain ⟨B206002, d206002, rfl, m206002⟩ := HS.form 3 rfl; have F := HS.boxes; simp only [boxFacts, wrt, clr0, clr1, List.cons_append, List.nil_append, List.append_nil, List.set_cons_zero, List.set_cons_succ, and_true] at F
     refine hK.out _ _ ⟨[], HS.arr [some 0, some 1, none] (by decide)⟩ (fun HH => ?_)
     clear hK K
     refine norm_ (a' := ?_) ?_ ?_
     rotate_left
     · show Act.put _ (some 18) _ = _; simp only [Act.put, List.setIfInBounds_toArray, List.set_cons_zero, List.set_cons_succ, i64_w, i32_w]; rfl
     refine dr_one 7 HT rfl (by kernel_rfl) (by decide) (fun K hK => ?_)
     refine if_wp (by rfl) ?_; refine wp_lit q141 [3] ([t206001] : List S141) ([.int .i64 t206001.f0, .string t206001.f1, .slice B206002 t206001.f2.length d206002] ++ []) HS (by first | (go_simp; done) | (go_simp; rfl)) rfl rfl (Nat.le_of_ble_eq_true rfl) (MadeL.cons (js1 := [3]) (c := [.int .i64 t206001.f0, .string t206001.f1, .slice B206002 t206001.f2.length d206002]) rfl (fun S hd hh => q141_pack hd (hh 3 (.own (Zd.slice 141 q141) t206001.f2 [.slice B206002 t206001.f2.length d206002]) rfl) (by decide)) MadeL.nil (by decide)) ?_; clear HS; (try clear F); intro v207001 w207001 HS; obtain ⟨B207001, d207001, rfl, m207001⟩ := HS.formn 1 4 rfl rfl; have F := HS.boxes; simp only [boxFacts, wrt, clr0, clr1, List.cons_append, List.nil_append, List.append_nil, List.set_cons_zero, List.set_cons_succ, and_true] at F
     refine hK.out _ _ ⟨[], HS.arr [some 0, some 1, none] (by decide)⟩ (fun HH => ?_)
     clear hK K
     refine norm_ (a' := ?_) ?_ ?_
     rotate_left
     · show Act.put _ (some 19) _ = _; simp only [Act.put, List.setIfInBounds_toArray, List.set_cons_zero, List.set_cons_succ, i64_w, i32_w]; rfl
     refine dr_one 8 HT rfl (by kernel_rfl) (by decide) (fun K hK => ?_)
     refine if_wp (by rfl) ?_; refine wp_append q141 2 4 HS rfl rfl (by decide) rfl rfl rfl Try.underlying139 info141 rfl (by decide) (by decide) (by have := of_eq_true c208001; first | omega | (simp only [List.length_cons, List.length_nil, List.length_append, Nat.zero_add] at this ⊢; omega)) ?_; clear HS; (try clear F); intro v208002 w208002 HS; rw [← e_y208002.out] at HS; obtain ⟨B208002, d208002, rfl, m208002⟩ := HS.form 5 rfl; have F := HS.boxes; simp only [boxFacts, wrt, clr0, clr1, List.cons_append, List.nil_append, List.append_nil, List.set_cons_zero, List.set_cons_succ, and_true] at F
     refine hK.out _ _ ⟨[], HS.arr [some 0, some 1, none] (by decide)⟩ (fun HH => ?_)
     clear hK K
     refine norm_ (a' := ?_) ?_ ?_
     rotate_left
     · show Act.put _ (some 20) _ = _; simp only [Act.put, List.setIfInBounds_toArray, List.set_cons_zero, List.set_cons_succ, i64_w, i32_w]; rfl
     refine dr_pure 9 (some 21) HT (v := ?_) (a' := ?_) rfl rfl (by kernel_rfl) (fun _ _ _ h => h) (.inl ⟨by rfl, ?_⟩) ?_ ?_
     rotate_left
     · intro w'; go_simp; with_reducible rfl
     rotate_left
     · simp only [Act.put, List.setIfInBounds_toArray, List.set_cons_zero, List.set_cons_succ, i64_w, i32_w]; rfl
     refine dr_last 10 HT rfl (by kernel_rfl) (by decide) (fun K hK => ?_)
     refine if_wp (by rfl) ?_; refine wp_store 1 2 HS (seg := [.slice B208002 y208002.length d208002]) rfl rfl rfl rfl rfl rfl (by kernel_rfl) (by simp [wrt]) (by simp [Value.oneCell']) ?_; clear HS; (try clear F); intro w210001 HS; have F := HS.boxes; simp only [boxFacts, wrt, clr0, clr1, List.cons_append, List.nil_append, List.append_nil, List.set_cons_zero, List.set_cons_succ, and_true] at F
     refine hK.out _ _ ?_
     clear hK K
     refine done_ (done_of HT.out (by kernel_rfl)) ?_
     go_wp2
     go_roundg k18
     case measure => have := HKk18.out; omega
     case rel => exact ⟨_, _, _, rfl, H, ⟨by have := HKk18.out; omega⟩, HS.pick [0, 1, 5] (by decide) (by rfl)⟩
   · replace H := zneg c23 H
     replace c23 := eq_false c23
     obtain rfl := zsome H
     go_wp2_with (first | ((with_reducible refine gate_store (p := 2) rfl ?_); refine ev_store rfl 0 0 HS (seg := [.int .i64 48, .string (⟨#[]⟩ : ByteArray), .slice B20 l19.length d20]) rfl rfl rfl rfl rfl rfl (by kernel_rfl) (by simp [wrt]) (by simp [Value.oneCell']) ?_; clear HS; (try clear F); intro w27 HS; have F := HS.boxes; simp only [boxFacts, wrt, clr0, clr1, List.cons_append, List.nil_append, List.append_nil, List.set_cons_zero, List.set_cons_succ, and_true] at F))
     exact bodyPost_ret (results_single rfl (.cell _ _ _ _ _ rfl (HS.boxAt (i := 0) rfl) Try.underlying141 rfl (by kernel_rfl) .nil)) rfl ⟨_, rfl, HS.pick [2] (by decide) (by rfl)⟩
end Go.Proofs.Ytfeebnbookfpmaa.F
