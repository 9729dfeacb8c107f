/- Functions of the program and of the law, and that their calls do what is written here. -/
import Derived.Test.YtoaoncnbimcdgaaZgFnExactTickg
namespace Go.Proofs.Ytoaoncnbimcdgaa.F
open Go.RowKit Go.Proofs.YtoaoncnbimcdgaaW.PrintWords Go.Proofs.YtoaoncnbimcdgaaW.PrintLast Go.Proofs.YtoaoncnbimcdgaaW.PrintMore Go.Proofs.Ytoaoncnbimcdgaa.Z
attribute [local go_sem] max2_int min2_int max_two min_two max_three min_three max_four min_four
set_option linter.unusedVariables false
set_option linter.unusedSimpArgs false
set_option maxRecDepth 100000
/-! ### spec_Tick: function 8 -/
def spec_Tick.l0 : Nat → (List Int) → (List S89) → Int → S31 → Int → S31 → Option (S31 × Bool)
  | 0, _, _, _, _, _, _ => none
  | k + 1, l56, l58, x60, a0, a1, t5 => (if x60 < (a0.f2.length : Int) then (if 0 ≤ x60 then (if x60 < (a0.f2.length : Int) then (if (rd_T89 a0.f2 x60).f3 < (wrap64 (a0.f1 + a1)) then (if l56.length + 1 ≤ 17592186044416 then (lets (l56 ++ ([(rd_T89 a0.f2 x60).f0] : List Int)) fun y609999 => (spec_Tick.l0 k y609999 l58 (wrap64 (x60 + 1)) a0 a1 t5)) else none) else (if l58.length + 1 ≤ 3518437208883 then (lets (l58 ++ ([(rd_T89 a0.f2 x60)] : List S89)) fun y74 => (spec_Tick.l0 k l56 y74 (wrap64 (x60 + 1)) a0 a1 t5)) else none)) else none) else none) else (some ((⟨t5.f0, (wrap64 (a0.f1 + a1)), l58, t5.f3, l56⟩ : S31), true)))
def spec_Tick.f (k : Nat) (a0 : S31) (a1 : Int) : Option (S31 × Bool) := ((spec_l18Copy.f k a0).bind fun t5 => (if a1 < 0 then (some ((⟨t5.f0, t5.f1, t5.f2, t5.f3, t5.f4⟩ : S31), false)) else (if (wrap64 (99999 - a1)) < a0.f1 then (some ((⟨t5.f0, t5.f1, t5.f2, t5.f3, t5.f4⟩ : S31), false)) else (spec_Tick.l0 k t5.f4 ([] : List S89) 0 a0 a1 t5))))
def spec_Tick.T9 : Bool × List (List Nat × List Nat) := (true, [([], []), ([0], [0]), ([], []), ([1, 2], [1, 2]), ([3], [3]), ([4], [4]), ([], []), ([6], [6]), ([5, 7], [5, 7])])
theorem spec_Tick.tT9 : rtab .any (opsOf Try.f8 9) = spec_Tick.T9 := by kernel_rfl
def spec_Tick.T10 : Bool × List (List Nat × List Nat) := (true, [([], []), ([0], [0]), ([], []), ([2], [2]), ([], []), ([3, 4], [3, 4]), ([5], [5]), ([6], [6]), ([7], [7]), ([1, 8], [1, 8]), ([0, 1, 2, 3, 4, 5, 6, 7, 8, 9], []), ([10, 9, 9, 0, 1, 2, 3, 4, 5, 6, 7, 8, 9], [9, 10])])
theorem spec_Tick.tT10 : rtab .any (opsOf Try.f8 10) = spec_Tick.T10 := by kernel_rfl
set_option maxHeartbeats 16000000 in
theorem spec_Tick.calls {k : Nat} {a0 : S31} {a1 : Int} {Ap0 : Option Addr} {np0 cp0 : Nat} {Ap1 : Option Addr} {np1 cp1 : Nat} {Ap2 : Option Addr} {np2 cp2 : Nat} {r1 : S31} {r2 : Bool} {w : World} (h : spec_Tick.f k a0 a1 = some (r1, r2)) (gp0 : k89.C w Ap0 np0 a0.f2) (lp0 : np0 ≤ cp0) (gp1 : k150.C w Ap1 np1 a0.f3) (lp1 : np1 ≤ cp1) (gp2 : (Kd.int .i64).C w Ap2 np2 a0.f4) (lp2 : np2 ≤ cp2) :
    Calls Try.prog 8 #[.agg #[.string a0.f0, .int .i64 a0.f1, .slice Ap0 np0 cp0, .slice Ap1 np1 cp1, .slice Ap2 np2 cp2], .int .i64 a1] w (fun e w' => ∃ v0_ v1_ v2_ : Value, e = .returned (.tuple #[.agg #[.string r1.f0, .int .i64 r1.f1, v0_, v1_, v2_], .bool r2]) ∧ Hp noFP w w' [.own (Zd.slice 89 q89) r1.f2 [v0_], .own (Zd.slice 150 q150) r1.f3 [v1_], .own (Zd.slice 3 (Zd.int .i64)) r1.f4 [v2_]]) := by
 obtain rfl := C_len gp0
 obtain rfl := C_len gp1
 obtain rfl := C_len gp2
 have HS := Hp.start w
 have H := Aside0.mk h
 clear h
 unfold spec_Tick.f at H
 go_enter Try.func8, Try.ntmps8
 replace H := zbind H; obtain ⟨t5, ht5, H⟩ := H
 by_cases c14 : a1 < 0
 · replace H := zpos c14 H
   replace c14 := eq_true c14
   obtain ⟨rfl, rfl⟩ := zsome2 H
   go_wp2_with (first | ((with_reducible refine gate_dst (N := 2) rfl ?_); refine ev_box rfl HS (by first | (go_simp; done) | (go_simp; rfl)) rfl ?_; clear HS; (try clear F); intro g2 w2 HS; replace HS : Hp noFP w _ [.box g2 [.string a0.f0, .int .i64 a0.f1, .slice Ap0 a0.f2.length cp0, .slice Ap1 a0.f3.length cp1, .slice Ap2 a0.f4.length cp2] 31] := HS; have F := HS.boxes; simp only [boxFacts, and_true] at F) | ((with_reducible refine gate_dst (N := 4) rfl ?_); refine ev_box rfl HS (by first | (go_simp; done) | (go_simp; rfl)) rfl ?_; clear HS; (try clear F); intro g4 w4 HS; replace HS : Hp noFP w _ [.box g2 [.string a0.f0, .int .i64 a0.f1, .slice Ap0 a0.f2.length cp0, .slice Ap1 a0.f3.length cp1, .slice Ap2 a0.f4.length cp2] 31, .box g4 [.string (⟨#[]⟩ : ByteArray), .int .i64 0, .slice none 0 0, .slice none 0 0, .slice none 0 0] 31] := HS; have F := HS.boxes; simp only [boxFacts, and_true] at F) | ((with_reducible refine gate_dst (N := 10) rfl ?_); refine ev_call rfl Try.func39 (by kernel_rfl) rfl #[.agg #[.string a0.f0, .int .i64 a0.f1, .slice Ap0 a0.f2.length cp0, .slice Ap1 a0.f3.length cp1, .slice Ap2 a0.f4.length cp2]] rfl (by simp only [List.map_toArray, List.map_cons, List.map_nil]; rfl) ?_; refine (spec_l18Copy.calls ht5.out (HS.ro gp0) lp0 (HS.ro gp1) lp1 (HS.ro gp2) lp2).mono ?_; rintro _ wt5 ⟨v6, v7, v8, rfl, HQ⟩; refine ⟨_, rfl, ?_⟩; replace HS := HS.call HQ; clear HQ; (try clear F); obtain ⟨B6, d6, rfl, m6⟩ := HS.form 2 rfl; obtain ⟨B7, d7, rfl, m7⟩ := HS.form 3 rfl; obtain ⟨B8, d8, rfl, m8⟩ := HS.form 4 rfl; replace HS : Hp noFP w _ [.box g2 [.string a0.f0, .int .i64 a0.f1, .slice Ap0 a0.f2.length cp0, .slice Ap1 a0.f3.length cp1, .slice Ap2 a0.f4.length cp2] 31, .box g4 [.string (⟨#[]⟩ : ByteArray), .int .i64 0, .slice none 0 0, .slice none 0 0, .slice none 0 0] 31, .own (Zd.slice 89 q89) t5.f2 [.slice B6 t5.f2.length d6], .own (Zd.slice 150 q150) t5.f3 [.slice B7 t5.f3.length d7], .own (Zd.slice 3 (Zd.int .i64)) t5.f4 [.slice B8 t5.f4.length d8]] := HS; have F := HS.boxes; simp only [boxFacts, and_true] at F) | ((with_reducible refine gate_dst (N := 6) rfl ?_); refine ev_box rfl HS (by first | (go_simp; done) | (go_simp; rfl)) rfl ?_; clear HS; (try clear F); intro g6 w6 HS; replace HS : Hp noFP w _ [.box g2 [.string a0.f0, .int .i64 a0.f1, .slice Ap0 a0.f2.length cp0, .slice Ap1 a0.f3.length cp1, .slice Ap2 a0.f4.length cp2] 31, .box g4 [.string (⟨#[]⟩ : ByteArray), .int .i64 0, .slice none 0 0, .slice none 0 0, .slice none 0 0] 31, .own (Zd.slice 89 q89) t5.f2 [.slice B6 t5.f2.length d6], .own (Zd.slice 150 q150) t5.f3 [.slice B7 t5.f3.length d7], .own (Zd.slice 3 (Zd.int .i64)) t5.f4 [.slice B8 t5.f4.length d8], .box g6 [.string (⟨#[]⟩ : ByteArray), .int .i64 0, .slice none 0 0, .slice none 0 0, .slice none 0 0] 31] := HS; have F := HS.boxes; simp only [boxFacts, and_true] at F) | ((with_reducible refine gate_store (p := 6) rfl ?_); refine ev_store rfl 5 0 HS (seg := [.string t5.f0, .int .i64 t5.f1, .slice B6 t5.f2.length d6, .slice B7 t5.f3.length d7, .slice B8 t5.f4.length d8]) rfl rfl rfl rfl rfl rfl (by kernel_rfl) (by simp [wrt]) (by simp [Value.oneCell']) ?_; clear HS; (try clear F); intro w12 HS; replace HS : Hp noFP w _ [.box g2 [.string a0.f0, .int .i64 a0.f1, .slice Ap0 a0.f2.length cp0, .slice Ap1 a0.f3.length cp1, .slice Ap2 a0.f4.length cp2] 31, .box g4 [.string (⟨#[]⟩ : ByteArray), .int .i64 0, .slice none 0 0, .slice none 0 0, .slice none 0 0] 31, .own (Zd.slice 89 q89) t5.f2 [.slice B6 t5.f2.length d6], .own (Zd.slice 150 q150) t5.f3 [.slice B7 t5.f3.length d7], .own (Zd.slice 3 (Zd.int .i64)) t5.f4 [.slice B8 t5.f4.length d8], .box g6 [.string t5.f0, .int .i64 t5.f1, .slice B6 t5.f2.length d6, .slice B7 t5.f3.length d7, .slice B8 t5.f4.length d8] 31] := HS; have F := HS.boxes; simp only [boxFacts, and_true] at F) | ((with_reducible refine gate_store (p := 4) rfl ?_); refine ev_store rfl 1 0 HS (seg := [.string t5.f0, .int .i64 t5.f1, .slice B6 t5.f2.length d6, .slice B7 t5.f3.length d7, .slice B8 t5.f4.length d8]) rfl rfl rfl rfl rfl rfl (by kernel_rfl) (by simp [wrt]) (by simp [Value.oneCell']) ?_; clear HS; (try clear F); intro w15 HS; replace HS : Hp noFP w _ [.box g2 [.string a0.f0, .int .i64 a0.f1, .slice Ap0 a0.f2.length cp0, .slice Ap1 a0.f3.length cp1, .slice Ap2 a0.f4.length cp2] 31, .box g4 [.string t5.f0, .int .i64 t5.f1, .slice B6 t5.f2.length d6, .slice B7 t5.f3.length d7, .slice B8 t5.f4.length d8] 31, .own (Zd.slice 89 q89) t5.f2 [.slice B6 t5.f2.length d6], .own (Zd.slice 150 q150) t5.f3 [.slice B7 t5.f3.length d7], .own (Zd.slice 3 (Zd.int .i64)) t5.f4 [.slice B8 t5.f4.length d8], .box g6 [.string t5.f0, .int .i64 t5.f1, .slice B6 t5.f2.length d6, .slice B7 t5.f3.length d7, .slice B8 t5.f4.length d8] 31] := HS; have F := HS.boxes; simp only [boxFacts, and_true] at F))
   exact bodyPost_ret (results_list (rs := [.cell 4 31, .tmp 5]) rfl (by simp) (.cell _ _ _ _ _ rfl (HS.boxAt (i := 1) rfl) Try.underlying31 rfl (by kernel_rfl) (.tmp .nil))) rfl ⟨_, _, _, rfl, HS.pick [2, 3, 4] (by decide) (by rfl)⟩
 · replace H := zneg c14 H
   replace c14 := eq_false c14
   go_upto_if 19 with (first | ((with_reducible refine gate_dst (N := 2) rfl ?_); refine ev_box rfl HS (by first | (go_simp; done) | (go_simp; rfl)) rfl ?_; clear HS; (try clear F); intro g2 w2 HS; replace HS : Hp noFP w _ [.box g2 [.string a0.f0, .int .i64 a0.f1, .slice Ap0 a0.f2.length cp0, .slice Ap1 a0.f3.length cp1, .slice Ap2 a0.f4.length cp2] 31] := HS; have F := HS.boxes; simp only [boxFacts, and_true] at F) | ((with_reducible refine gate_dst (N := 4) rfl ?_); refine ev_box rfl HS (by first | (go_simp; done) | (go_simp; rfl)) rfl ?_; clear HS; (try clear F); intro g4 w4 HS; replace HS : Hp noFP w _ [.box g2 [.string a0.f0, .int .i64 a0.f1, .slice Ap0 a0.f2.length cp0, .slice Ap1 a0.f3.length cp1, .slice Ap2 a0.f4.length cp2] 31, .box g4 [.string (⟨#[]⟩ : ByteArray), .int .i64 0, .slice none 0 0, .slice none 0 0, .slice none 0 0] 31] := HS; have F := HS.boxes; simp only [boxFacts, and_true] at F) | ((with_reducible refine gate_dst (N := 10) rfl ?_); refine ev_call rfl Try.func39 (by kernel_rfl) rfl #[.agg #[.string a0.f0, .int .i64 a0.f1, .slice Ap0 a0.f2.length cp0, .slice Ap1 a0.f3.length cp1, .slice Ap2 a0.f4.length cp2]] rfl (by simp only [List.map_toArray, List.map_cons, List.map_nil]; rfl) ?_; refine (spec_l18Copy.calls ht5.out (HS.ro gp0) lp0 (HS.ro gp1) lp1 (HS.ro gp2) lp2).mono ?_; rintro _ wt5 ⟨v6, v7, v8, rfl, HQ⟩; refine ⟨_, rfl, ?_⟩; replace HS := HS.call HQ; clear HQ; (try clear F); obtain ⟨B6, d6, rfl, m6⟩ := HS.form 2 rfl; obtain ⟨B7, d7, rfl, m7⟩ := HS.form 3 rfl; obtain ⟨B8, d8, rfl, m8⟩ := HS.form 4 rfl; replace HS : Hp noFP w _ [.box g2 [.string a0.f0, .int .i64 a0.f1, .slice Ap0 a0.f2.length cp0, .slice Ap1 a0.f3.length cp1, .slice Ap2 a0.f4.length cp2] 31, .box g4 [.string (⟨#[]⟩ : ByteArray), .int .i64 0, .slice none 0 0, .slice none 0 0, .slice none 0 0] 31, .own (Zd.slice 89 q89) t5.f2 [.slice B6 t5.f2.length d6], .own (Zd.slice 150 q150) t5.f3 [.slice B7 t5.f3.length d7], .own (Zd.slice 3 (Zd.int .i64)) t5.f4 [.slice B8 t5.f4.length d8]] := HS; have F := HS.boxes; simp only [boxFacts, and_true] at F) | ((with_reducible refine gate_dst (N := 6) rfl ?_); refine ev_box rfl HS (by first | (go_simp; done) | (go_simp; rfl)) rfl ?_; clear HS; (try clear F); intro g6 w6 HS; replace HS : Hp noFP w _ [.box g2 [.string a0.f0, .int .i64 a0.f1, .slice Ap0 a0.f2.length cp0, .slice Ap1 a0.f3.length cp1, .slice Ap2 a0.f4.length cp2] 31, .box g4 [.string (⟨#[]⟩ : ByteArray), .int .i64 0, .slice none 0 0, .slice none 0 0, .slice none 0 0] 31, .own (Zd.slice 89 q89) t5.f2 [.slice B6 t5.f2.length d6], .own (Zd.slice 150 q150) t5.f3 [.slice B7 t5.f3.length d7], .own (Zd.slice 3 (Zd.int .i64)) t5.f4 [.slice B8 t5.f4.length d8], .box g6 [.string (⟨#[]⟩ : ByteArray), .int .i64 0, .slice none 0 0, .slice none 0 0, .slice none 0 0] 31] := HS; have F := HS.boxes; simp only [boxFacts, and_true] at F) | ((with_reducible refine gate_store (p := 6) rfl ?_); refine ev_store rfl 5 0 HS (seg := [.string t5.f0, .int .i64 t5.f1, .slice B6 t5.f2.length d6, .slice B7 t5.f3.length d7, .slice B8 t5.f4.length d8]) rfl rfl rfl rfl rfl rfl (by kernel_rfl) (by simp [wrt]) (by simp [Value.oneCell']) ?_; clear HS; (try clear F); intro w12 HS; replace HS : Hp noFP w _ [.box g2 [.string a0.f0, .int .i64 a0.f1, .slice Ap0 a0.f2.length cp0, .slice Ap1 a0.f3.length cp1, .slice Ap2 a0.f4.length cp2] 31, .box g4 [.string (⟨#[]⟩ : ByteArray), .int .i64 0, .slice none 0 0, .slice none 0 0, .slice none 0 0] 31, .own (Zd.slice 89 q89) t5.f2 [.slice B6 t5.f2.length d6], .own (Zd.slice 150 q150) t5.f3 [.slice B7 t5.f3.length d7], .own (Zd.slice 3 (Zd.int .i64)) t5.f4 [.slice B8 t5.f4.length d8], .box g6 [.string t5.f0, .int .i64 t5.f1, .slice B6 t5.f2.length d6, .slice B7 t5.f3.length d7, .slice B8 t5.f4.length d8] 31] := HS; have F := HS.boxes; simp only [boxFacts, and_true] at F))
   by_cases c17 : (wrap64 (99999 - a1)) < a0.f1
   · replace H := zpos c17 H
     replace c17 := eq_true c17
     (try simp only [c17, decide_true, decide_false, Bool.not_true, Bool.not_false])
     obtain ⟨rfl, rfl⟩ := zsome2 H
     go_wp2_with (first | ((with_reducible refine gate_store (p := 4) rfl ?_); refine ev_store rfl 1 0 HS (seg := [.string t5.f0, .int .i64 t5.f1, .slice B6 t5.f2.length d6, .slice B7 t5.f3.length d7, .slice B8 t5.f4.length d8]) rfl rfl rfl rfl rfl rfl (by kernel_rfl) (by simp [wrt]) (by simp [Value.oneCell']) ?_; clear HS; (try clear F); intro w18 HS; replace HS : Hp noFP w _ [.box g2 [.string a0.f0, .int .i64 a0.f1, .slice Ap0 a0.f2.length cp0, .slice Ap1 a0.f3.length cp1, .slice Ap2 a0.f4.length cp2] 31, .box g4 [.string t5.f0, .int .i64 t5.f1, .slice B6 t5.f2.length d6, .slice B7 t5.f3.length d7, .slice B8 t5.f4.length d8] 31, .own (Zd.slice 89 q89) t5.f2 [.slice B6 t5.f2.length d6], .own (Zd.slice 150 q150) t5.f3 [.slice B7 t5.f3.length d7], .own (Zd.slice 3 (Zd.int .i64)) t5.f4 [.slice B8 t5.f4.length d8], .box g6 [.string t5.f0, .int .i64 t5.f1, .slice B6 t5.f2.length d6, .slice B7 t5.f3.length d7, .slice B8 t5.f4.length d8] 31] := HS; have F := HS.boxes; simp only [boxFacts, and_true] at F))
     exact bodyPost_ret (results_list (rs := [.cell 4 31, .tmp 5]) rfl (by simp) (.cell _ _ _ _ _ rfl (HS.boxAt (i := 1) rfl) Try.underlying31 rfl (by kernel_rfl) (.tmp .nil))) rfl ⟨_, _, _, rfl, HS.pick [2, 3, 4] (by decide) (by rfl)⟩
   · replace H := zneg c17 H
     replace c17 := eq_false c17
     (try simp only [c17, decide_true, decide_false, Bool.not_true, Bool.not_false])
     go_wp2_with (first | ((with_reducible refine gate_store (p := 25) rfl ?_); refine ev_store rfl 5 1 HS (seg := [.int .i64 (wrap64 (a0.f1 + a1))]) rfl rfl rfl rfl rfl rfl (by kernel_rfl) (by simp [wrt]) (by simp [Value.oneCell']) ?_; clear HS; (try clear F); intro w20 HS; replace HS : Hp noFP w _ [.box g2 [.string a0.f0, .int .i64 a0.f1, .slice Ap0 a0.f2.length cp0, .slice Ap1 a0.f3.length cp1, .slice Ap2 a0.f4.length cp2] 31, .box g4 [.string (⟨#[]⟩ : ByteArray), .int .i64 0, .slice none 0 0, .slice none 0 0, .slice none 0 0] 31, .own (Zd.slice 89 q89) t5.f2 [.slice B6 t5.f2.length d6], .own (Zd.slice 150 q150) t5.f3 [.slice B7 t5.f3.length d7], .own (Zd.slice 3 (Zd.int .i64)) t5.f4 [.slice B8 t5.f4.length d8], .box g6 [.string t5.f0, .int .i64 (wrap64 (a0.f1 + a1)), .slice B6 t5.f2.length d6, .slice B7 t5.f3.length d7, .slice B8 t5.f4.length d8] 31] := HS; have F := HS.boxes; simp only [boxFacts, and_true] at F) | ((with_reducible refine gate_dst (N := 26) rfl ?_); refine ev_lit rfl q89 [] ([] : List S89) [] HS (by first | (go_simp; done) | (go_simp; rfl)) rfl rfl (Nat.le_of_ble_eq_true rfl) MadeL.nil ?_; clear HS; (try clear F); intro v22 w22 HS; obtain ⟨B22, d22, rfl, m22⟩ := HS.formn 0 6 rfl rfl; replace HS : Hp noFP w _ [.box g2 [.string a0.f0, .int .i64 a0.f1, .slice Ap0 a0.f2.length cp0, .slice Ap1 a0.f3.length cp1, .slice Ap2 a0.f4.length cp2] 31, .box g4 [.string (⟨#[]⟩ : ByteArray), .int .i64 0, .slice none 0 0, .slice none 0 0, .slice none 0 0] 31, .own (Zd.slice 89 q89) t5.f2 [.slice B6 t5.f2.length d6], .own (Zd.slice 150 q150) t5.f3 [.slice B7 t5.f3.length d7], .own (Zd.slice 3 (Zd.int .i64)) t5.f4 [.slice B8 t5.f4.length d8], .box g6 [.string t5.f0, .int .i64 (wrap64 (a0.f1 + a1)), .slice B6 t5.f2.length d6, .slice B7 t5.f3.length d7, .slice B8 t5.f4.length d8] 31, .own (Zd.slice 89 q89) ([] : List S89) [.slice B22 0 d22]] := HS; have F := HS.boxes; simp only [boxFacts, and_true] at F))
     go_loopg [7, 8] k (fun kq v_7 v_8 w' => ∃ (l56 : List Int) (v57 : Value) (l58 : List S89) (v59 : Value) (x60 : Int), v_7 = v59 ∧ v_8 = .int .i64 x60 ∧ Aside0 (spec_Tick.l0 kq l56 l58 x60 a0 a1 t5 = some (r1, r2)) ∧ Aside0 (kq ≤ k) ∧ Hp noFP w w' [.box g2 [.string a0.f0, .int .i64 a0.f1, .slice Ap0 a0.f2.length cp0, .slice Ap1 a0.f3.length cp1, .slice Ap2 a0.f4.length cp2] 31, .box g4 [.string (⟨#[]⟩ : ByteArray), .int .i64 0, .slice none 0 0, .slice none 0 0, .slice none 0 0] 31, .own (Zd.slice 89 q89) t5.f2 [.slice B6 t5.f2.length d6], .own (Zd.slice 150 q150) t5.f3 [.slice B7 t5.f3.length d7], .own (Zd.slice 3 (Zd.int .i64)) l56 [v57], .box g6 [.string t5.f0, .int .i64 (wrap64 (a0.f1 + a1)), .slice B6 t5.f2.length d6, .slice B7 t5.f3.length d7, v57] 31, .own (Zd.slice 89 q89) l58 [v59]])
     case atStart => exact ⟨_, _, _, _, _, rfl, rfl, H, ⟨Nat.le_refl _⟩, HS⟩
     case round =>
      clear HS H; (try clear F)
      obtain ⟨l56, v57, l58, v59, x60, rfl, rfl, H, HKk55, HS⟩ := hrel
      obtain ⟨B57, d57, rfl, m57⟩ := HS.form 4 rfl
      obtain ⟨B59, d59, rfl, m59⟩ := HS.form 6 rfl
      have F := HS.boxes; simp only [boxFacts, and_true] at F
      cases gk with
      | zero => exact absurd H.out (by simp [spec_Tick.l0])
      | succ k55 =>
       simp only [spec_Tick.l0] at H
       by_cases c62 : x60 < (a0.f2.length : Int)
       · replace H := zpos c62 H
         replace c62 := eq_true c62
         (try go_wp2)
         by_cases c503001 : 0 ≤ x60
         case neg => exact zno c503001 H
         replace H := zpos c503001 H
         replace c503001 := eq_true c503001
         by_cases c503002 : x60 < (a0.f2.length : Int)
         case neg => exact zno c503002 H
         replace H := zpos c503002 H
         replace c503002 := eq_true c503002
         obtain ⟨ad503999, rfl, e503999_0, e503999_1, e503999_2, e503999_3⟩ := at_T89 gp0 x60 (of_eq_true c503001) (of_eq_true c503002)
         refine dr_start [] HS #[false, false, false, false, false, false, false, false, false] (by kernel_rfl) rfl rfl spec_Tick.tT9 (fun w64 HT HS HH => ?_)
         (try clear F)
         refine drq_of [(0, some 34), (1, some 35), (2, some 36), (3, some 37), (4, some 38)] ?_
         repeat (first | (refine drq_pure HT (v := ?_) (a' := ?_) rfl rfl (by kernel_rfl) (fun _ _ _ h => h) (.inl ⟨by rfl, ?_⟩) ?_ ?_; rotate_left; (intro w'; go_simp; with_reducible rfl); rotate_left; (simp only [Act.put, List.setIfInBounds_toArray, List.set_cons_zero, List.set_cons_succ, i64_w, i32_w]; rfl)) | (refine drq_take HT HH (v := ?_) (a' := ?_) rfl rfl (by kernel_rfl) (fun _ _ _ h => h) (.inl ⟨by rfl, ?_⟩) ?_ ?_; rotate_left; (rintro w' ⟨rs', HS'⟩; have F := HS'.boxes; simp only [boxFacts, List.cons_append, List.nil_append, and_true] at F; go_simp; with_reducible rfl); rotate_left; (simp only [Act.put, List.setIfInBounds_toArray, List.set_cons_zero, List.set_cons_succ, i64_w, i32_w]; rfl)))
         refine drq_end ?_
         refine dr_take 5 (some 39) HT HH (v := ?_) (a' := ?_) rfl rfl (by kernel_rfl) (fun _ _ _ h => h) (.inl ⟨by rfl, ?_⟩) ?_ ?_
         rotate_left
         · rintro w' ⟨rs', HS'⟩; have e503999_0 := (HS'.keepc e503999_0); have e503999_1 := (HS'.keepc e503999_1); have e503999_2 := (HS'.keepc e503999_2); have e503999_3 := (HS'.keepc e503999_3); go_simp; with_reducible rfl
         rotate_left
         · simp only [Act.put, List.setIfInBounds_toArray, List.set_cons_zero, List.set_cons_succ, i64_w, i32_w]; rfl
         refine drq_of [(6, some 40), (7, some 41), (8, some 42)] ?_
         repeat (first | (refine drq_pure HT (v := ?_) (a' := ?_) rfl rfl (by kernel_rfl) (fun _ _ _ h => h) (.inl ⟨by rfl, ?_⟩) ?_ ?_; rotate_left; (intro w'; go_simp; with_reducible rfl); rotate_left; (simp only [Act.put, List.setIfInBounds_toArray, List.set_cons_zero, List.set_cons_succ, i64_w, i32_w]; rfl)) | (refine drq_take HT HH (v := ?_) (a' := ?_) rfl rfl (by kernel_rfl) (fun _ _ _ h => h) (.inl ⟨by rfl, ?_⟩) ?_ ?_; rotate_left; (rintro w' ⟨rs', HS'⟩; have F := HS'.boxes; simp only [boxFacts, List.cons_append, List.nil_append, and_true] at F; go_simp; with_reducible rfl); rotate_left; (simp only [Act.put, List.setIfInBounds_toArray, List.set_cons_zero, List.set_cons_succ, i64_w, i32_w]; rfl)))
         refine drq_end ?_
         refine done_ (done_of HT.out (by kernel_rfl)) ?_
         (try clear F)
         have F := HS.boxes; simp only [boxFacts, and_true] at F
         by_cases c66 : (rd_T89 a0.f2 x60).f3 < (wrap64 (a0.f1 + a1))
         · replace H := zpos c66 H
           replace c66 := eq_true c66
           (try simp only [c66, decide_true, decide_false, Bool.not_true, Bool.not_false])
           (try go_wp2)
           by_cases c609001 : l56.length + 1 ≤ 17592186044416
           case neg => exact zno c609001 H
           replace H := zpos c609001 H
           replace c609001 := eq_true c609001
           replace H := zlets H; obtain ⟨y609999, e_y609999, H⟩ := H
           refine dr_start2 [.box g2 [.string a0.f0, .int .i64 a0.f1, .slice (some ad503999) a0.f2.length cp0, .slice Ap1 a0.f3.length cp1, .slice Ap2 a0.f4.length cp2] 31, .box g4 [.string (⟨#[]⟩ : ByteArray), .int .i64 0, .slice none 0 0, .slice none 0 0, .slice none 0 0] 31, .own (Zd.slice 89 q89) t5.f2 [.slice B6 t5.f2.length d6], .own (Zd.slice 150 q150) t5.f3 [.slice B7 t5.f3.length d7], .emp, .box g6 [.string t5.f0, .int .i64 (wrap64 (a0.f1 + a1)), .slice B6 t5.f2.length d6, .slice B7 t5.f3.length d7, .slice B57 l56.length d57] 31, .own (Zd.slice 89 q89) l58 [.slice B59 l58.length d59]] [11] HS (HS.arr [some 0, some 1, some 2, some 3, none, some 5, some 6] (by decide)) #[false, false, false, false, false, false, false, false, false, false, false, false] (by kernel_rfl) rfl rfl spec_Tick.tT10 (fun w68 HT HS HH => ?_)
           (try clear F)
           refine drq_of [(0, some 43), (1, some 44), (2, some 45), (3, some 46), (4, some 47), (5, some 48), (6, some 49)] ?_
           repeat (first | (refine drq_pure HT (v := ?_) (a' := ?_) rfl rfl (by kernel_rfl) (fun _ _ _ h => h) (.inl ⟨by rfl, ?_⟩) ?_ ?_; rotate_left; (intro w'; go_simp; with_reducible rfl); rotate_left; (simp only [Act.put, List.setIfInBounds_toArray, List.set_cons_zero, List.set_cons_succ, i64_w, i32_w]; rfl)) | (refine drq_take HT HH (v := ?_) (a' := ?_) rfl rfl (by kernel_rfl) (fun _ _ _ h => h) (.inl ⟨by rfl, ?_⟩) ?_ ?_; rotate_left; (rintro w' ⟨rs', HS'⟩; have F := HS'.boxes; simp only [boxFacts, List.cons_append, List.nil_append, and_true] at F; go_simp; with_reducible rfl); rotate_left; (simp only [Act.put, List.setIfInBounds_toArray, List.set_cons_zero, List.set_cons_succ, i64_w, i32_w]; rfl)))
           refine drq_end ?_
           refine dr_take 7 (some 50) HT HH (v := ?_) (a' := ?_) rfl rfl (by kernel_rfl) (fun _ _ _ h => h) (.inl ⟨by rfl, ?_⟩) ?_ ?_
           rotate_left
           · rintro w' ⟨rs', HS'⟩; have e503999_0 := (HS'.keepc e503999_0); have e503999_1 := (HS'.keepc e503999_1); have e503999_2 := (HS'.keepc e503999_2); have e503999_3 := (HS'.keepc e503999_3); go_simp; with_reducible rfl
           rotate_left
           · simp only [Act.put, List.setIfInBounds_toArray, List.set_cons_zero, List.set_cons_succ, i64_w, i32_w]; rfl
           refine dr_one 8 HT rfl (by kernel_rfl) (by decide) (fun K hK => ?_)
           refine if_wp (by rfl) ?_; refine wp_lit (Zd.int .i64) [] ([(rd_T89 a0.f2 x60).f0] : List Int) ([.int .i64 ((rd_T89 a0.f2 x60).f0)] ++ []) HS (by first | (go_simp; done) | (go_simp; rfl)) rfl rfl (Nat.le_of_ble_eq_true rfl) (MadeL.cons (js1 := []) (c := [.int .i64 ((rd_T89 a0.f2 x60).f0)]) rfl (made_flat (fun _ => rfl)) MadeL.nil (by decide)) ?_; clear HS; (try clear F); intro v608001 w608001 HS; obtain ⟨B608001, d608001, rfl, m608001⟩ := HS.formn 1 7 rfl rfl
           replace HS : Hp noFP w _ [.box g2 [.string a0.f0, .int .i64 a0.f1, .slice (some ad503999) a0.f2.length cp0, .slice Ap1 a0.f3.length cp1, .slice Ap2 a0.f4.length cp2] 31, .box g4 [.string (⟨#[]⟩ : ByteArray), .int .i64 0, .slice none 0 0, .slice none 0 0, .slice none 0 0] 31, .own (Zd.slice 89 q89) t5.f2 [.slice B6 t5.f2.length d6], .own (Zd.slice 150 q150) t5.f3 [.slice B7 t5.f3.length d7], .own (Zd.slice 3 (Zd.int .i64)) l56 [.slice B57 l56.length d57], .box g6 [.string t5.f0, .int .i64 (wrap64 (a0.f1 + a1)), .slice B6 t5.f2.length d6, .slice B7 t5.f3.length d7, .slice B57 l56.length d57] 31, .own (Zd.slice 89 q89) l58 [.slice B59 l58.length d59], .own (Zd.slice 3 (Zd.int .i64)) ([(rd_T89 a0.f2 x60).f0] : List Int) [.slice B608001 1 d608001]] := HS
           have F := HS.boxes; simp only [boxFacts, and_true] at F
           refine hK.out _ _ ⟨[], HS.arr [some 0, some 1, some 2, some 3, none, some 5, some 6] (by decide)⟩ (fun HH => ?_)
           clear hK K
           refine norm_ (a' := ?_) ?_ ?_
           rotate_left
           · show Act.put _ (some 51) _ = _; simp only [Act.put, List.setIfInBounds_toArray, List.set_cons_zero, List.set_cons_succ, i64_w, i32_w]; rfl
           refine dr_one 9 HT rfl (by kernel_rfl) (by decide) (fun K hK => ?_)
           refine if_wp (by rfl) ?_; refine wp_append (Zd.int .i64) 4 7 HS rfl rfl (by decide) rfl rfl rfl Try.underlying24 info3 rfl (by decide) (by decide) (by have := of_eq_true c609001; first | omega | (simp only [List.length_cons, List.length_nil, List.length_append, Nat.zero_add] at this ⊢; omega)) ?_; clear HS; (try clear F); intro v609999 w609999 HS; rw [← e_y609999.out] at HS; obtain ⟨B609999, d609999, rfl, m609999⟩ := HS.form 8 rfl
           replace HS : Hp noFP w _ [.box g2 [.string a0.f0, .int .i64 a0.f1, .slice (some ad503999) a0.f2.length cp0, .slice Ap1 a0.f3.length cp1, .slice Ap2 a0.f4.length cp2] 31, .box g4 [.string (⟨#[]⟩ : ByteArray), .int .i64 0, .slice none 0 0, .slice none 0 0, .slice none 0 0] 31, .own (Zd.slice 89 q89) t5.f2 [.slice B6 t5.f2.length d6], .own (Zd.slice 150 q150) t5.f3 [.slice B7 t5.f3.length d7], .emp, .box g6 [.string t5.f0, .int .i64 (wrap64 (a0.f1 + a1)), .slice B6 t5.f2.length d6, .slice B7 t5.f3.length d7, .slice B57 l56.length d57] 31, .own (Zd.slice 89 q89) l58 [.slice B59 l58.length d59], .emp, .own (Zd.slice 3 (Zd.int .i64)) y609999 [.slice B609999 y609999.length d609999]] := HS
           have F := HS.boxes; simp only [boxFacts, and_true] at F
           refine hK.out _ _ ⟨[], HS.arr [some 0, some 1, some 2, some 3, none, some 5, some 6] (by decide)⟩ (fun HH => ?_)
           clear hK K
           refine norm_ (a' := ?_) ?_ ?_
           rotate_left
           · show Act.put _ (some 52) _ = _; simp only [Act.put, List.setIfInBounds_toArray, List.set_cons_zero, List.set_cons_succ, i64_w, i32_w]; rfl
           refine drq_of [(10, some 53)] ?_
           repeat (first | (refine drq_pure HT (v := ?_) (a' := ?_) rfl rfl (by kernel_rfl) (fun _ _ _ h => h) (.inl ⟨by rfl, ?_⟩) ?_ ?_; rotate_left; (intro w'; go_simp; with_reducible rfl); rotate_left; (simp only [Act.put, List.setIfInBounds_toArray, List.set_cons_zero, List.set_cons_succ, i64_w, i32_w]; rfl)))
           refine drq_end ?_
           refine dr_last 11 HT rfl (by kernel_rfl) (by decide) (fun K hK => ?_)
           refine if_wp (by rfl) ?_; refine wp_store 5 4 HS (seg := [.slice B609999 y609999.length d609999]) rfl rfl rfl rfl rfl rfl (by kernel_rfl) (by simp [wrt]) (by simp [Value.oneCell']) ?_; clear HS; (try clear F); intro w611001 HS
           replace HS : Hp noFP w _ [.box g2 [.string a0.f0, .int .i64 a0.f1, .slice (some ad503999) a0.f2.length cp0, .slice Ap1 a0.f3.length cp1, .slice Ap2 a0.f4.length cp2] 31, .box g4 [.string (⟨#[]⟩ : ByteArray), .int .i64 0, .slice none 0 0, .slice none 0 0, .slice none 0 0] 31, .own (Zd.slice 89 q89) t5.f2 [.slice B6 t5.f2.length d6], .own (Zd.slice 150 q150) t5.f3 [.slice B7 t5.f3.length d7], .emp, .box g6 [.string t5.f0, .int .i64 (wrap64 (a0.f1 + a1)), .slice B6 t5.f2.length d6, .slice B7 t5.f3.length d7, .slice B609999 y609999.length d609999] 31, .own (Zd.slice 89 q89) l58 [.slice B59 l58.length d59], .emp, .own (Zd.slice 3 (Zd.int .i64)) y609999 [.slice B609999 y609999.length d609999]] := HS
           have F := HS.boxes; simp only [boxFacts, and_true] at F
           refine hK.out _ _ ?_
           clear hK K
           refine done_ (done_of HT.out (by kernel_rfl)) ?_
           (try clear F)
           have F := HS.boxes; simp only [boxFacts, and_true] at F
           go_wp2
           go_roundg k55
           case measure => have := HKk55.out; omega
           case rel => exact ⟨_, _, _, _, _, rfl, rfl, H, ⟨by have := HKk55.out; omega⟩, HS.pick [0, 1, 2, 3, 8, 5, 6] (by decide) (by rfl)⟩
         · replace H := zneg c66 H
           replace c66 := eq_false c66
           (try simp only [c66, decide_true, decide_false, Bool.not_true, Bool.not_false])
           have e503999_0_70 := (HS.keepc e503999_0)
           have e503999_1_70 := (HS.keepc e503999_1)
           have e503999_2_70 := (HS.keepc e503999_2)
           have e503999_3_70 := (HS.keepc e503999_3)
           by_cases c73 : l58.length + 1 ≤ 3518437208883
           case neg => exact zno c73 H
           replace H := zpos c73 H
           replace c73 := eq_true c73
           replace H := zlets H; obtain ⟨y74, e_y74, H⟩ := H
           go_wp2_with (first | ((with_reducible refine gate_dst (N := 60) rfl ?_); refine ev_lit rfl q89 [] ([(rd_T89 a0.f2 x60)] : List S89) ([.int .i64 ((rd_T89 a0.f2 x60).f0), .int .i64 ((rd_T89 a0.f2 x60).f1), .string ((rd_T89 a0.f2 x60).f2), .int .i64 ((rd_T89 a0.f2 x60).f3)] ++ []) HS (by first | (go_simp; done) | (go_simp; rfl)) rfl rfl (Nat.le_of_ble_eq_true rfl) (MadeL.cons (js1 := []) (c := [.int .i64 ((rd_T89 a0.f2 x60).f0), .int .i64 ((rd_T89 a0.f2 x60).f1), .string ((rd_T89 a0.f2 x60).f2), .int .i64 ((rd_T89 a0.f2 x60).f3)]) rfl (made_flat (fun _ => q89_flat _ _ _)) MadeL.nil (by decide)) ?_; clear HS; (try clear F); intro v71 w71 HS; obtain ⟨B71, d71, rfl, m71⟩ := HS.formn 1 7 rfl rfl; replace HS : Hp noFP w _ [.box g2 [.string a0.f0, .int .i64 a0.f1, .slice (some ad503999) a0.f2.length cp0, .slice Ap1 a0.f3.length cp1, .slice Ap2 a0.f4.length cp2] 31, .box g4 [.string (⟨#[]⟩ : ByteArray), .int .i64 0, .slice none 0 0, .slice none 0 0, .slice none 0 0] 31, .own (Zd.slice 89 q89) t5.f2 [.slice B6 t5.f2.length d6], .own (Zd.slice 150 q150) t5.f3 [.slice B7 t5.f3.length d7], .own (Zd.slice 3 (Zd.int .i64)) l56 [.slice B57 l56.length d57], .box g6 [.string t5.f0, .int .i64 (wrap64 (a0.f1 + a1)), .slice B6 t5.f2.length d6, .slice B7 t5.f3.length d7, .slice B57 l56.length d57] 31, .own (Zd.slice 89 q89) l58 [.slice B59 l58.length d59], .own (Zd.slice 89 q89) ([(rd_T89 a0.f2 x60)] : List S89) [.slice B71 1 d71]] := HS; have F := HS.boxes; simp only [boxFacts, and_true] at F) | ((with_reducible refine gate_dst (N := 61) rfl ?_); refine ev_append rfl q89 6 7 HS rfl rfl (by decide) rfl rfl rfl Try.underlying28 info89 rfl (by decide) (by decide) (by have := of_eq_true c73; first | omega | (simp only [List.length_cons, List.length_nil, List.length_append, Nat.zero_add] at this ⊢; omega)) ?_; clear HS; (try clear F); intro v74 w74 HS; rw [← e_y74.out] at HS; obtain ⟨B74, d74, rfl, m74⟩ := HS.form 8 rfl; replace HS : Hp noFP w _ [.box g2 [.string a0.f0, .int .i64 a0.f1, .slice (some ad503999) a0.f2.length cp0, .slice Ap1 a0.f3.length cp1, .slice Ap2 a0.f4.length cp2] 31, .box g4 [.string (⟨#[]⟩ : ByteArray), .int .i64 0, .slice none 0 0, .slice none 0 0, .slice none 0 0] 31, .own (Zd.slice 89 q89) t5.f2 [.slice B6 t5.f2.length d6], .own (Zd.slice 150 q150) t5.f3 [.slice B7 t5.f3.length d7], .own (Zd.slice 3 (Zd.int .i64)) l56 [.slice B57 l56.length d57], .box g6 [.string t5.f0, .int .i64 (wrap64 (a0.f1 + a1)), .slice B6 t5.f2.length d6, .slice B7 t5.f3.length d7, .slice B57 l56.length d57] 31, .emp, .emp, .own (Zd.slice 89 q89) y74 [.slice B74 y74.length d74]] := HS; have F := HS.boxes; simp only [boxFacts, and_true] at F))
           go_roundg k55
           case measure => have := HKk55.out; omega
           case rel => exact ⟨_, _, _, _, _, rfl, rfl, H, ⟨by have := HKk55.out; omega⟩, HS.pick [0, 1, 2, 3, 4, 5, 8] (by decide) (by rfl)⟩
       · replace H := zneg c62 H
         replace c62 := eq_false c62
         obtain ⟨rfl, rfl⟩ := zsome2 H
         go_wp2_with (first | ((with_reducible refine gate_store (p := 63) rfl ?_); refine ev_store rfl 5 2 HS (seg := [.slice B59 l58.length d59]) rfl rfl rfl rfl rfl rfl (by kernel_rfl) (by simp [wrt]) (by simp [Value.oneCell']) ?_; clear HS; (try clear F); intro w76 HS; replace HS : Hp noFP w _ [.box g2 [.string a0.f0, .int .i64 a0.f1, .slice Ap0 a0.f2.length cp0, .slice Ap1 a0.f3.length cp1, .slice Ap2 a0.f4.length cp2] 31, .box g4 [.string (⟨#[]⟩ : ByteArray), .int .i64 0, .slice none 0 0, .slice none 0 0, .slice none 0 0] 31, .own (Zd.slice 89 q89) t5.f2 [.slice B6 t5.f2.length d6], .own (Zd.slice 150 q150) t5.f3 [.slice B7 t5.f3.length d7], .own (Zd.slice 3 (Zd.int .i64)) l56 [.slice B57 l56.length d57], .box g6 [.string t5.f0, .int .i64 (wrap64 (a0.f1 + a1)), .slice B59 l58.length d59, .slice B7 t5.f3.length d7, .slice B57 l56.length d57] 31, .own (Zd.slice 89 q89) l58 [.slice B59 l58.length d59]] := HS; have F := HS.boxes; simp only [boxFacts, and_true] at F) | ((with_reducible refine gate_store (p := 4) rfl ?_); refine ev_store rfl 1 0 HS (seg := [.string t5.f0, .int .i64 (wrap64 (a0.f1 + a1)), .slice B59 l58.length d59, .slice B7 t5.f3.length d7, .slice B57 l56.length d57]) rfl rfl rfl rfl rfl rfl (by kernel_rfl) (by simp [wrt]) (by simp [Value.oneCell']) ?_; clear HS; (try clear F); intro w78 HS; replace HS : Hp noFP w _ [.box g2 [.string a0.f0, .int .i64 a0.f1, .slice Ap0 a0.f2.length cp0, .slice Ap1 a0.f3.length cp1, .slice Ap2 a0.f4.length cp2] 31, .box g4 [.string t5.f0, .int .i64 (wrap64 (a0.f1 + a1)), .slice B59 l58.length d59, .slice B7 t5.f3.length d7, .slice B57 l56.length d57] 31, .own (Zd.slice 89 q89) t5.f2 [.slice B6 t5.f2.length d6], .own (Zd.slice 150 q150) t5.f3 [.slice B7 t5.f3.length d7], .own (Zd.slice 3 (Zd.int .i64)) l56 [.slice B57 l56.length d57], .box g6 [.string t5.f0, .int .i64 (wrap64 (a0.f1 + a1)), .slice B59 l58.length d59, .slice B7 t5.f3.length d7, .slice B57 l56.length d57] 31, .own (Zd.slice 89 q89) l58 [.slice B59 l58.length d59]] := HS; have F := HS.boxes; simp only [boxFacts, and_true] at F))
         exact bodyPost_ret (results_list (rs := [.cell 4 31, .tmp 5]) rfl (by simp) (.cell _ _ _ _ _ rfl (HS.boxAt (i := 1) rfl) Try.underlying31 rfl (by kernel_rfl) (.tmp .nil))) rfl ⟨_, _, _, rfl, HS.pick [6, 3, 4] (by decide) (by rfl)⟩
/-! ### laws_toWait: function 105 -/
def laws_toWait.f (a0 : S154) : Option (S89) := (some (⟨a0.f0, a0.f1, a0.f2, a0.f3⟩ : S89))
set_option maxHeartbeats 16000000 in
theorem laws_toWait.calls {a0 : S154} {r : S89} {w : World} (h : laws_toWait.f a0 = some r) :
    Calls Try.prog 105 #[.agg #[.int .i64 a0.f0, .int .i64 a0.f1, .string a0.f2, .int .i64 a0.f3]] w (fun e w' => e = .returned (.agg #[.int .i64 r.f0, .int .i64 r.f1, .string r.f2, .int .i64 r.f3]) ∧ Hp noFP w w' []) := by
 have HS := Hp.start w
 have H := Aside0.mk h
 clear h
 unfold laws_toWait.f at H
 go_enter Try.func105, Try.ntmps105
 obtain rfl := zsome H
 go_wp2_with (first | ((with_reducible refine gate_dst (N := 1) rfl ?_); refine ev_box rfl HS (by first | (go_simp; done) | (go_simp; rfl)) rfl ?_; clear HS; (try clear F); intro g1 w1 HS; replace HS : Hp noFP w _ [.box g1 [.int .i64 a0.f0, .int .i64 a0.f1, .string a0.f2, .int .i64 a0.f3] 154] := HS; have F := HS.boxes; simp only [boxFacts, and_true] at F) | ((with_reducible refine gate_dst (N := 2) rfl ?_); refine ev_box rfl HS (by first | (go_simp; done) | (go_simp; rfl)) rfl ?_; clear HS; (try clear F); intro g2 w2 HS; replace HS : Hp noFP w _ [.box g1 [.int .i64 a0.f0, .int .i64 a0.f1, .string a0.f2, .int .i64 a0.f3] 154, .box g2 [.int .i64 0, .int .i64 0, .string (⟨#[]⟩ : ByteArray), .int .i64 0] 89] := HS; have F := HS.boxes; simp only [boxFacts, and_true] at F) | ((with_reducible refine gate_dst (N := 3) rfl ?_); refine ev_box rfl HS (by first | (go_simp; done) | (go_simp; rfl)) rfl ?_; clear HS; (try clear F); intro g3 w3 HS; replace HS : Hp noFP w _ [.box g1 [.int .i64 a0.f0, .int .i64 a0.f1, .string a0.f2, .int .i64 a0.f3] 154, .box g2 [.int .i64 0, .int .i64 0, .string (⟨#[]⟩ : ByteArray), .int .i64 0] 89, .box g3 [.int .i64 0, .int .i64 0, .string (⟨#[]⟩ : ByteArray), .int .i64 0] 89] := HS; have F := HS.boxes; simp only [boxFacts, and_true] at F) | ((with_reducible refine gate_store (p := 6) rfl ?_); refine ev_store rfl 2 0 HS (seg := [.int .i64 a0.f0]) rfl rfl rfl rfl rfl rfl (by kernel_rfl) (by simp [wrt]) (by simp [Value.oneCell']) ?_; clear HS; (try clear F); intro w7 HS; replace HS : Hp noFP w _ [.box g1 [.int .i64 a0.f0, .int .i64 a0.f1, .string a0.f2, .int .i64 a0.f3] 154, .box g2 [.int .i64 0, .int .i64 0, .string (⟨#[]⟩ : ByteArray), .int .i64 0] 89, .box g3 [.int .i64 a0.f0, .int .i64 0, .string (⟨#[]⟩ : ByteArray), .int .i64 0] 89] := HS; have F := HS.boxes; simp only [boxFacts, and_true] at F) | ((with_reducible refine gate_store (p := 9) rfl ?_); refine ev_store rfl 2 1 HS (seg := [.int .i64 a0.f1]) rfl rfl rfl rfl rfl rfl (by kernel_rfl) (by simp [wrt]) (by simp [Value.oneCell']) ?_; clear HS; (try clear F); intro w9 HS; replace HS : Hp noFP w _ [.box g1 [.int .i64 a0.f0, .int .i64 a0.f1, .string a0.f2, .int .i64 a0.f3] 154, .box g2 [.int .i64 0, .int .i64 0, .string (⟨#[]⟩ : ByteArray), .int .i64 0] 89, .box g3 [.int .i64 a0.f0, .int .i64 a0.f1, .string (⟨#[]⟩ : ByteArray), .int .i64 0] 89] := HS; have F := HS.boxes; simp only [boxFacts, and_true] at F) | ((with_reducible refine gate_store (p := 12) rfl ?_); refine ev_store rfl 2 2 HS (seg := [.string a0.f2]) rfl rfl rfl rfl rfl rfl (by kernel_rfl) (by simp [wrt]) (by simp [Value.oneCell']) ?_; clear HS; (try clear F); intro w11 HS; replace HS : Hp noFP w _ [.box g1 [.int .i64 a0.f0, .int .i64 a0.f1, .string a0.f2, .int .i64 a0.f3] 154, .box g2 [.int .i64 0, .int .i64 0, .string (⟨#[]⟩ : ByteArray), .int .i64 0] 89, .box g3 [.int .i64 a0.f0, .int .i64 a0.f1, .string a0.f2, .int .i64 0] 89] := HS; have F := HS.boxes; simp only [boxFacts, and_true] at F) | ((with_reducible refine gate_store (p := 15) rfl ?_); refine ev_store rfl 2 3 HS (seg := [.int .i64 a0.f3]) rfl rfl rfl rfl rfl rfl (by kernel_rfl) (by simp [wrt]) (by simp [Value.oneCell']) ?_; clear HS; (try clear F); intro w13 HS; replace HS : Hp noFP w _ [.box g1 [.int .i64 a0.f0, .int .i64 a0.f1, .string a0.f2, .int .i64 a0.f3] 154, .box g2 [.int .i64 0, .int .i64 0, .string (⟨#[]⟩ : ByteArray), .int .i64 0] 89, .box g3 [.int .i64 a0.f0, .int .i64 a0.f1, .string a0.f2, .int .i64 a0.f3] 89] := HS; have F := HS.boxes; simp only [boxFacts, and_true] at F) | ((with_reducible refine gate_store (p := 2) rfl ?_); refine ev_store rfl 1 0 HS (seg := [.int .i64 a0.f0, .int .i64 a0.f1, .string a0.f2, .int .i64 a0.f3]) rfl rfl rfl rfl rfl rfl (by kernel_rfl) (by simp [wrt]) (by simp [Value.oneCell']) ?_; clear HS; (try clear F); intro w15 HS; replace HS : Hp noFP w _ [.box g1 [.int .i64 a0.f0, .int .i64 a0.f1, .string a0.f2, .int .i64 a0.f3] 154, .box g2 [.int .i64 a0.f0, .int .i64 a0.f1, .string a0.f2, .int .i64 a0.f3] 89, .box g3 [.int .i64 a0.f0, .int .i64 a0.f1, .string a0.f2, .int .i64 a0.f3] 89] := HS; have F := HS.boxes; simp only [boxFacts, and_true] at F))
 exact bodyPost_ret (results_single rfl (.cell _ _ _ _ _ rfl (HS.boxAt (i := 1) rfl) Try.underlying89 rfl (by kernel_rfl) .nil)) rfl ⟨rfl, HS.pick [] (by decide) (by rfl)⟩
/-! ### laws_toWaitS: function 40 -/
def laws_toWaitS.l0 : Nat → (List S89) → Int → (List S154) → Option ((List S89))
  | 0, _, _, _ => none
  | k + 1, l20, x22, a0 => (if x22 < (a0.length : Int) then (if 0 ≤ x22 then (if x22 < (a0.length : Int) then ((laws_toWait.f (rd_T154 a0 x22)).bind fun t28 => (laws_toWaitS.l0 k (l20.set (x22).toNat t28) (wrap64 (x22 + 1)) a0)) else none) else none) else (some l20))
def laws_toWaitS.f (k : Nat) (a0 : (List S154)) : Option ((List S89)) := (if 0 ≤ (a0.length : Int) then (if ((a0.length : Int)).toNat ≤ 7036874417766 then (laws_toWaitS.l0 k (List.replicate a0.length z89) 0 a0) else none) else none)
set_option maxHeartbeats 16000000 in
theorem laws_toWaitS.calls {k : Nat} {a0 : (List S154)} {Ap0 : Option Addr} {np0 cp0 : Nat} {r : (List S89)} {w : World} (h : laws_toWaitS.f k a0 = some r) (gp0 : k154.C w Ap0 np0 a0) (lp0 : np0 ≤ cp0) :
    Calls Try.prog 40 #[.slice Ap0 np0 cp0] w (fun e w' => ∃ v0_ : Value, e = .returned (v0_) ∧ Hp noFP w w' [.own (Zd.slice 89 q89) r [v0_]]) := by
 obtain rfl := C_len gp0
 have HS := Hp.start w
 have H := Aside0.mk h
 clear h
 unfold laws_toWaitS.f at H
 go_enter Try.func40, Try.ntmps40
 by_cases c1 : 0 ≤ (a0.length : Int)
 case neg => exact zno c1 H
 replace H := zpos c1 H
 replace c1 := eq_true c1
 by_cases c2 : ((a0.length : Int)).toNat ≤ 7036874417766
 case neg => exact zno c2 H
 replace H := zpos c2 H
 replace c2 := eq_true c2
 go_wp2_with (first | ((with_reducible refine gate_dst (N := 7) rfl ?_); refine ev_make rfl q89 z89 HS rfl (a0.length : Int) rfl rfl Try.underlying28 info89 rfl (by decide) (by decide) q89_zero (of_eq_true c1) (by have := of_eq_true c2; omega) ?_; clear HS; (try clear F); intro v3 w3 HS; obtain ⟨B3, d3, rfl, m3⟩ := HS.formn a0.length 0 rfl (by first | rfl | simp); replace HS : Hp noFP w _ [.own (Zd.slice 89 q89) (List.replicate a0.length z89) [.slice B3 a0.length d3]] := HS))
 go_loopg [4] k (fun kq v_4 w' => ∃ (l20 : List S89) (x22 : Int), v_4 = .int .i64 x22 ∧ Aside0 (laws_toWaitS.l0 kq l20 x22 a0 = some r) ∧ Aside0 (kq ≤ k) ∧ Hp noFP w w' [.own (Zd.slice 89 q89) l20 [.slice B3 a0.length d3]])
 case atStart => exact ⟨_, _, rfl, H, ⟨Nat.le_refl _⟩, HS⟩
 case round =>
  clear HS H; (try clear F)
  obtain ⟨l20, x22, rfl, H, HKk19, HS⟩ := hrel
  cases gk with
  | zero => exact absurd H.out (by simp [laws_toWaitS.l0])
  | succ k19 =>
   simp only [laws_toWaitS.l0] at H
   by_cases c24 : x22 < (a0.length : Int)
   · replace H := zpos c24 H
     replace c24 := eq_true c24
     by_cases c25 : 0 ≤ x22
     case neg => exact zno c25 H
     replace H := zpos c25 H
     replace c25 := eq_true c25
     by_cases c26 : x22 < (a0.length : Int)
     case neg => exact zno c26 H
     replace H := zpos c26 H
     replace c26 := eq_true c26
     obtain ⟨ad27, rfl, e27_0, e27_1, e27_2, e27_3⟩ := at_T154 gp0 x22 (of_eq_true c25) (of_eq_true c26)
     have e27_0_27 := (HS.keepc e27_0)
     have e27_1_27 := (HS.keepc e27_1)
     have e27_2_27 := (HS.keepc e27_2)
     have e27_3_27 := (HS.keepc e27_3)
     replace H := zbind H; obtain ⟨t28, ht28, H⟩ := H
     go_wp2_with (first | ((with_reducible refine gate_dst (N := 20) rfl ?_); refine ev_call rfl Try.func105 (by kernel_rfl) rfl #[.agg #[.int .i64 ((rd_T154 a0 x22).f0), .int .i64 ((rd_T154 a0 x22).f1), .string ((rd_T154 a0 x22).f2), .int .i64 ((rd_T154 a0 x22).f3)]] rfl (by simp only [List.map_toArray, List.map_cons, List.map_nil]; rfl) ?_; refine (laws_toWait.calls ht28.out).mono ?_; rintro _ wt28 ⟨rfl, HQ⟩; refine ⟨_, rfl, ?_⟩; replace HS := HS.call HQ; clear HQ; (try clear F); replace HS : Hp noFP w _ [.own (Zd.slice 89 q89) l20 [.slice B3 a0.length d3]] := HS; obtain ⟨ad30, rfl, e30_0, e30_1, e30_2, e30_3⟩ := at_T89 (HS.rd 0 rfl) x22 (of_eq_true c25) (of_eq_true c26)) | ((with_reducible refine gate_store (p := 21) rfl ?_); refine ev_set rfl q89 0 [] x22 t28 HS (seg := [.int .i64 t28.f0, .int .i64 t28.f1, .string t28.f2, .int .i64 t28.f3]) rfl (by decide) rfl rfl rfl (by first | rfl | exact (Nat.mul_one _).symm) rfl rfl (by kernel_rfl) (by simp [Value.oneCell']) ⟨of_eq_true c25, of_eq_true c26⟩ rfl (made_flat (fun _ => q89_flat _ _ _)) ?_; clear HS; (try clear F); intro w31 HS; replace HS : Hp noFP w _ [.own (Zd.slice 89 q89) (l20.set (x22).toNat t28) [.slice (some ad30) a0.length d3]] := HS))
     go_roundg k19
     case measure => have := HKk19.out; omega
     case rel => exact ⟨_, _, rfl, H, ⟨by have := HKk19.out; omega⟩, HS.pick [0] (by decide) (by rfl)⟩
   · replace H := zneg c24 H
     replace c24 := eq_false c24
     obtain rfl := zsome H
     go_wp2
     exact bodyPost_ret (results_single rfl (.tmp .nil)) rfl ⟨_, rfl, HS.pick [0] (by decide) (by rfl)⟩
/-! ### laws_toStringS: function 94 -/
def laws_toStringS.l0 : Nat → (List ByteArray) → Int → (List ByteArray) → Option ((List ByteArray))
  | 0, _, _, _ => none
  | k + 1, l18, x20, a0 => (if x20 < (a0.length : Int) then (if 0 ≤ x20 then (if x20 < (a0.length : Int) then (laws_toStringS.l0 k (l18.set (x20).toNat (rdOf ByteArray.empty a0 x20)) (wrap64 (x20 + 1)) a0) else none) else none) else (some l18))
def laws_toStringS.f (k : Nat) (a0 : (List ByteArray)) : Option ((List ByteArray)) := (if 0 ≤ (a0.length : Int) then (if ((a0.length : Int)).toNat ≤ 17592186044416 then (laws_toStringS.l0 k (List.replicate a0.length (⟨#[]⟩ : ByteArray)) 0 a0) else none) else none)
set_option maxHeartbeats 16000000 in
theorem laws_toStringS.calls {k : Nat} {a0 : (List ByteArray)} {Ap0 : Option Addr} {np0 cp0 : Nat} {r : (List ByteArray)} {w : World} (h : laws_toStringS.f k a0 = some r) (gp0 : Kd.string.C w Ap0 np0 a0) (lp0 : np0 ≤ cp0) :
    Calls Try.prog 94 #[.slice Ap0 np0 cp0] w (fun e w' => ∃ v0_ : Value, e = .returned (v0_) ∧ Hp noFP w w' [.own (Zd.slice 9 Zd.string) r [v0_]]) := by
 obtain rfl := C_len gp0
 have HS := Hp.start w
 have H := Aside0.mk h
 clear h
 unfold laws_toStringS.f at H
 go_enter Try.func94, Try.ntmps94
 by_cases c1 : 0 ≤ (a0.length : Int)
 case neg => exact zno c1 H
 replace H := zpos c1 H
 replace c1 := eq_true c1
 by_cases c2 : ((a0.length : Int)).toNat ≤ 17592186044416
 case neg => exact zno c2 H
 replace H := zpos c2 H
 replace c2 := eq_true c2
 go_wp2_with (first | ((with_reducible refine gate_dst (N := 7) rfl ?_); refine ev_make rfl Zd.string (⟨#[]⟩ : ByteArray) HS rfl (a0.length : Int) rfl rfl Try.underlying73 info9 rfl (by decide) (by decide) (fun _ _ => rfl) (of_eq_true c1) (by have := of_eq_true c2; omega) ?_; clear HS; (try clear F); intro v3 w3 HS; obtain ⟨B3, d3, rfl, m3⟩ := HS.formn a0.length 0 rfl (by first | rfl | simp); replace HS : Hp noFP w _ [.own (Zd.slice 9 Zd.string) (List.replicate a0.length (⟨#[]⟩ : ByteArray)) [.slice B3 a0.length d3]] := HS))
 go_loopg [4] k (fun kq v_4 w' => ∃ (l18 : List ByteArray) (x20 : Int), v_4 = .int .i64 x20 ∧ Aside0 (laws_toStringS.l0 kq l18 x20 a0 = some r) ∧ Aside0 (kq ≤ k) ∧ Hp noFP w w' [.own (Zd.slice 9 Zd.string) l18 [.slice B3 a0.length d3]])
 case atStart => exact ⟨_, _, rfl, H, ⟨Nat.le_refl _⟩, HS⟩
 case round =>
  clear HS H; (try clear F)
  obtain ⟨l18, x20, rfl, H, HKk17, HS⟩ := hrel
  cases gk with
  | zero => exact absurd H.out (by simp [laws_toStringS.l0])
  | succ k17 =>
   simp only [laws_toStringS.l0] at H
   by_cases c22 : x20 < (a0.length : Int)
   · replace H := zpos c22 H
     replace c22 := eq_true c22
     by_cases c23 : 0 ≤ x20
     case neg => exact zno c23 H
     replace H := zpos c23 H
     replace c23 := eq_true c23
     by_cases c24 : x20 < (a0.length : Int)
     case neg => exact zno c24 H
     replace H := zpos c24 H
     replace c24 := eq_true c24
     obtain ⟨ad25, rfl, e25_0⟩ := Kd.at_string gp0 x20 (of_eq_true c23) (of_eq_true c24)
     have e25_0_25 := (HS.keepc e25_0)
     obtain ⟨ad26, rfl, e26_0⟩ := Kd.at_string (HS.rd 0 rfl) x20 (of_eq_true c23) (of_eq_true c24)
     go_wp2_with (first | ((with_reducible refine gate_store (p := 20) rfl ?_); refine ev_set rfl Zd.string 0 [] x20 (rdOf ByteArray.empty a0 x20) HS (seg := [.string (rdOf ByteArray.empty a0 x20)]) rfl (by decide) rfl rfl rfl (by first | rfl | exact (Nat.mul_one _).symm) rfl rfl (by kernel_rfl) (by simp [Value.oneCell']) ⟨of_eq_true c23, of_eq_true c24⟩ rfl (made_flat (fun _ => rfl)) ?_; clear HS; (try clear F); intro w27 HS; replace HS : Hp noFP w _ [.own (Zd.slice 9 Zd.string) (l18.set (x20).toNat (rdOf ByteArray.empty a0 x20)) [.slice (some ad26) a0.length d3]] := HS))
     go_roundg k17
     case measure => have := HKk17.out; omega
     case rel => exact ⟨_, _, rfl, H, ⟨by have := HKk17.out; omega⟩, HS.pick [0] (by decide) (by rfl)⟩
   · replace H := zneg c22 H
     replace c22 := eq_false c22
     obtain rfl := zsome H
     go_wp2
     exact bodyPost_ret (results_single rfl (.tmp .nil)) rfl ⟨_, rfl, HS.pick [0] (by decide) (by rfl)⟩
/-! ### laws_toAnswer: function 189 -/
def laws_toAnswer.f (k : Nat) (a0 : S241) : Option (S109) := ((laws_toStringS.f k a0.f2).bind fun t11 => ((laws_toStringS.f k a0.f3).bind fun t16 => (some (⟨a0.f0, a0.f1, t11, t16⟩ : S109))))
set_option maxHeartbeats 16000000 in
theorem laws_toAnswer.calls {k : Nat} {a0 : S241} {Ap0 : Option Addr} {np0 cp0 : Nat} {Ap1 : Option Addr} {np1 cp1 : Nat} {r : S109} {w : World} (h : laws_toAnswer.f k a0 = some r) (gp0 : Kd.string.C w Ap0 np0 a0.f2) (lp0 : np0 ≤ cp0) (gp1 : Kd.string.C w Ap1 np1 a0.f3) (lp1 : np1 ≤ cp1) :
    Calls Try.prog 189 #[.agg #[.int .i64 a0.f0, .int .i64 a0.f1, .slice Ap0 np0 cp0, .slice Ap1 np1 cp1]] w (fun e w' => ∃ v0_ v1_ : Value, e = .returned (.agg #[.int .i64 r.f0, .int .i64 r.f1, v0_, v1_]) ∧ Hp noFP w w' [.own (Zd.slice 9 Zd.string) r.f2 [v0_], .own (Zd.slice 9 Zd.string) r.f3 [v1_]]) := by
 obtain rfl := C_len gp0
 obtain rfl := C_len gp1
 have HS := Hp.start w
 have H := Aside0.mk h
 clear h
 unfold laws_toAnswer.f at H
 go_enter Try.func189, Try.ntmps189
 replace H := zbind H; obtain ⟨t11, ht11, H⟩ := H
 replace H := zbind H; obtain ⟨t16, ht16, H⟩ := H
 obtain rfl := zsome H
 go_wp2_with (first | ((with_reducible refine gate_dst (N := 1) rfl ?_); refine ev_box rfl HS (by first | (go_simp; done) | (go_simp; rfl)) rfl ?_; clear HS; (try clear F); intro g1 w1 HS; replace HS : Hp noFP w _ [.box g1 [.int .i64 a0.f0, .int .i64 a0.f1, .slice Ap0 a0.f2.length cp0, .slice Ap1 a0.f3.length cp1] 241] := HS; have F := HS.boxes; simp only [boxFacts, and_true] at F) | ((with_reducible refine gate_dst (N := 2) rfl ?_); refine ev_box rfl HS (by first | (go_simp; done) | (go_simp; rfl)) rfl ?_; clear HS; (try clear F); intro g2 w2 HS; replace HS : Hp noFP w _ [.box g1 [.int .i64 a0.f0, .int .i64 a0.f1, .slice Ap0 a0.f2.length cp0, .slice Ap1 a0.f3.length cp1] 241, .box g2 [.int .i64 0, .int .i64 0, .slice none 0 0, .slice none 0 0] 109] := HS; have F := HS.boxes; simp only [boxFacts, and_true] at F) | ((with_reducible refine gate_dst (N := 3) rfl ?_); refine ev_box rfl HS (by first | (go_simp; done) | (go_simp; rfl)) rfl ?_; clear HS; (try clear F); intro g3 w3 HS; replace HS : Hp noFP w _ [.box g1 [.int .i64 a0.f0, .int .i64 a0.f1, .slice Ap0 a0.f2.length cp0, .slice Ap1 a0.f3.length cp1] 241, .box g2 [.int .i64 0, .int .i64 0, .slice none 0 0, .slice none 0 0] 109, .box g3 [.int .i64 0, .int .i64 0, .slice none 0 0, .slice none 0 0] 109] := HS; have F := HS.boxes; simp only [boxFacts, and_true] at F) | ((with_reducible refine gate_store (p := 6) rfl ?_); refine ev_store rfl 2 0 HS (seg := [.int .i64 a0.f0]) rfl rfl rfl rfl rfl rfl (by kernel_rfl) (by simp [wrt]) (by simp [Value.oneCell']) ?_; clear HS; (try clear F); intro w7 HS; replace HS : Hp noFP w _ [.box g1 [.int .i64 a0.f0, .int .i64 a0.f1, .slice Ap0 a0.f2.length cp0, .slice Ap1 a0.f3.length cp1] 241, .box g2 [.int .i64 0, .int .i64 0, .slice none 0 0, .slice none 0 0] 109, .box g3 [.int .i64 a0.f0, .int .i64 0, .slice none 0 0, .slice none 0 0] 109] := HS; have F := HS.boxes; simp only [boxFacts, and_true] at F) | ((with_reducible refine gate_store (p := 9) rfl ?_); refine ev_store rfl 2 1 HS (seg := [.int .i64 a0.f1]) rfl rfl rfl rfl rfl rfl (by kernel_rfl) (by simp [wrt]) (by simp [Value.oneCell']) ?_; clear HS; (try clear F); intro w9 HS; replace HS : Hp noFP w _ [.box g1 [.int .i64 a0.f0, .int .i64 a0.f1, .slice Ap0 a0.f2.length cp0, .slice Ap1 a0.f3.length cp1] 241, .box g2 [.int .i64 0, .int .i64 0, .slice none 0 0, .slice none 0 0] 109, .box g3 [.int .i64 a0.f0, .int .i64 a0.f1, .slice none 0 0, .slice none 0 0] 109] := HS; have F := HS.boxes; simp only [boxFacts, and_true] at F) | ((with_reducible refine gate_dst (N := 12) rfl ?_); refine ev_call rfl Try.func94 (by kernel_rfl) rfl #[.slice Ap0 a0.f2.length cp0] rfl (by simp only [List.map_toArray, List.map_cons, List.map_nil]; rfl) ?_; refine (laws_toStringS.calls ht11.out (HS.ro gp0) lp0).mono ?_; rintro _ wt11 ⟨v12, rfl, HQ⟩; refine ⟨_, rfl, ?_⟩; replace HS := HS.call HQ; clear HQ; (try clear F); obtain ⟨B12, d12, rfl, m12⟩ := HS.form 3 rfl; replace HS : Hp noFP w _ [.box g1 [.int .i64 a0.f0, .int .i64 a0.f1, .slice Ap0 a0.f2.length cp0, .slice Ap1 a0.f3.length cp1] 241, .box g2 [.int .i64 0, .int .i64 0, .slice none 0 0, .slice none 0 0] 109, .box g3 [.int .i64 a0.f0, .int .i64 a0.f1, .slice none 0 0, .slice none 0 0] 109, .own (Zd.slice 9 Zd.string) t11 [.slice B12 t11.length d12]] := HS; have F := HS.boxes; simp only [boxFacts, and_true] at F) | ((with_reducible refine gate_store (p := 13) rfl ?_); refine ev_store rfl 2 2 HS (seg := [.slice B12 t11.length d12]) rfl rfl rfl rfl rfl rfl (by kernel_rfl) (by simp [wrt]) (by simp [Value.oneCell']) ?_; clear HS; (try clear F); intro w14 HS; replace HS : Hp noFP w _ [.box g1 [.int .i64 a0.f0, .int .i64 a0.f1, .slice Ap0 a0.f2.length cp0, .slice Ap1 a0.f3.length cp1] 241, .box g2 [.int .i64 0, .int .i64 0, .slice none 0 0, .slice none 0 0] 109, .box g3 [.int .i64 a0.f0, .int .i64 a0.f1, .slice B12 t11.length d12, .slice none 0 0] 109, .own (Zd.slice 9 Zd.string) t11 [.slice B12 t11.length d12]] := HS; have F := HS.boxes; simp only [boxFacts, and_true] at F) | ((with_reducible refine gate_dst (N := 16) rfl ?_); refine ev_call rfl Try.func94 (by kernel_rfl) rfl #[.slice Ap1 a0.f3.length cp1] rfl (by simp only [List.map_toArray, List.map_cons, List.map_nil]; rfl) ?_; refine (laws_toStringS.calls ht16.out (HS.ro gp1) lp1).mono ?_; rintro _ wt16 ⟨v17, rfl, HQ⟩; refine ⟨_, rfl, ?_⟩; replace HS := HS.call HQ; clear HQ; (try clear F); obtain ⟨B17, d17, rfl, m17⟩ := HS.form 4 rfl; replace HS : Hp noFP w _ [.box g1 [.int .i64 a0.f0, .int .i64 a0.f1, .slice Ap0 a0.f2.length cp0, .slice Ap1 a0.f3.length cp1] 241, .box g2 [.int .i64 0, .int .i64 0, .slice none 0 0, .slice none 0 0] 109, .box g3 [.int .i64 a0.f0, .int .i64 a0.f1, .slice B12 t11.length d12, .slice none 0 0] 109, .own (Zd.slice 9 Zd.string) t11 [.slice B12 t11.length d12], .own (Zd.slice 9 Zd.string) t16 [.slice B17 t16.length d17]] := HS; have F := HS.boxes; simp only [boxFacts, and_true] at F) | ((with_reducible refine gate_store (p := 17) rfl ?_); refine ev_store rfl 2 3 HS (seg := [.slice B17 t16.length d17]) rfl rfl rfl rfl rfl rfl (by kernel_rfl) (by simp [wrt]) (by simp [Value.oneCell']) ?_; clear HS; (try clear F); intro w19 HS; replace HS : Hp noFP w _ [.box g1 [.int .i64 a0.f0, .int .i64 a0.f1, .slice Ap0 a0.f2.length cp0, .slice Ap1 a0.f3.length cp1] 241, .box g2 [.int .i64 0, .int .i64 0, .slice none 0 0, .slice none 0 0] 109, .box g3 [.int .i64 a0.f0, .int .i64 a0.f1, .slice B12 t11.length d12, .slice B17 t16.length d17] 109, .own (Zd.slice 9 Zd.string) t11 [.slice B12 t11.length d12], .own (Zd.slice 9 Zd.string) t16 [.slice B17 t16.length d17]] := HS; have F := HS.boxes; simp only [boxFacts, and_true] at F) | ((with_reducible refine gate_store (p := 2) rfl ?_); refine ev_store rfl 1 0 HS (seg := [.int .i64 a0.f0, .int .i64 a0.f1, .slice B12 t11.length d12, .slice B17 t16.length d17]) rfl rfl rfl rfl rfl rfl (by kernel_rfl) (by simp [wrt]) (by simp [Value.oneCell']) ?_; clear HS; (try clear F); intro w21 HS; replace HS : Hp noFP w _ [.box g1 [.int .i64 a0.f0, .int .i64 a0.f1, .slice Ap0 a0.f2.length cp0, .slice Ap1 a0.f3.length cp1] 241, .box g2 [.int .i64 a0.f0, .int .i64 a0.f1, .slice B12 t11.length d12, .slice B17 t16.length d17] 109, .box g3 [.int .i64 a0.f0, .int .i64 a0.f1, .slice B12 t11.length d12, .slice B17 t16.length d17] 109, .own (Zd.slice 9 Zd.string) t11 [.slice B12 t11.length d12], .own (Zd.slice 9 Zd.string) t16 [.slice B17 t16.length d17]] := HS; have F := HS.boxes; simp only [boxFacts, and_true] at F))
 exact bodyPost_ret (results_single rfl (.cell _ _ _ _ _ rfl (HS.boxAt (i := 1) rfl) Try.underlying109 rfl (by kernel_rfl) .nil)) rfl ⟨_, _, rfl, HS.pick [3, 4] (by decide) (by rfl)⟩
end Go.Proofs.Ytoaoncnbimcdgaa.F
