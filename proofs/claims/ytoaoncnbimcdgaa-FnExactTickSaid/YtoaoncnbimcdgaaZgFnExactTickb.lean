/- Functions of the program and of the law, and that their calls do what is written here. -/
import Derived.Test.YtoaoncnbimcdgaaZgFnExactTicka
namespace Go.Proofs.Ytoaoncnbimcdgaa.F
open Go.RowKit Go.Proofs.YtoaoncnbimcdgaaW.PrintWords Go.Proofs.YtoaoncnbimcdgaaW.PrintLast Go.Proofs.YtoaoncnbimcdgaaW.PrintMore Go.Proofs.Ytoaoncnbimcdgaa.Z
attribute [local go_sem] max2_int min2_int max_two min_two max_three min_three max_four min_four
set_option linter.unusedVariables false
set_option linter.unusedSimpArgs false
set_option maxRecDepth 100000
/-! ### impl_Tick: function 10 -/
def impl_Tick.l0 : Nat → (List Int) → (List S89) → Int → S31 → Int → S31 → Option (S31 × Bool)
  | 0, _, _, _, _, _, _ => none
  | k + 1, l98, l100, x102, a0, a1, t5 => (if x102 < (a0.f2.length : Int) then (if 0 ≤ x102 then (if x102 < (a0.f2.length : Int) then (if (rd_T89 a0.f2 x102).f3 < (wrap64 (t5.f1 + a1)) then (if l98.length + 1 ≤ 17592186044416 then (lets (l98 ++ ([(rd_T89 a0.f2 x102).f0] : List Int)) fun y116 => (impl_Tick.l0 k y116 l100 (wrap64 (x102 + 1)) a0 a1 t5)) else none) else (if l100.length + 1 ≤ 3518437208883 then (lets (l100 ++ ([(rd_T89 a0.f2 x102)] : List S89)) fun y123 => (impl_Tick.l0 k l98 y123 (wrap64 (x102 + 1)) a0 a1 t5)) else none)) else none) else none) else (some ((⟨t5.f0, (wrap64 (t5.f1 + a1)), l100, t5.f3, l98⟩ : S31), true)))
def impl_Tick.f (k : Nat) (a0 : S31) (a1 : Int) : Option (S31 × Bool) := ((impl_copyClient.f k a0).bind fun t5 => (if a1 < 0 then ((impl_copyClient.f k a0).bind fun t17 => (some ((⟨t17.f0, t17.f1, t17.f2, t17.f3, t17.f4⟩ : S31), false))) else (if (wrap64 (t5.f1 + a1)) < a0.f1 then ((impl_copyClient.f k a0).bind fun t25 => (some ((⟨t25.f0, t25.f1, t25.f2, t25.f3, t25.f4⟩ : S31), false))) else (if 99999 < (wrap64 (t5.f1 + a1)) then ((impl_copyClient.f k a0).bind fun t33 => (some ((⟨t33.f0, t33.f1, t33.f2, t33.f3, t33.f4⟩ : S31), false))) else (impl_Tick.l0 k t5.f4 [] 0 a0 a1 t5)))))
set_option maxHeartbeats 16000000 in
theorem impl_Tick.calls {k : Nat} {a0 : S31} {a1 : Int} {Ap0 : Option Addr} {np0 cp0 : Nat} {Ap1 : Option Addr} {np1 cp1 : Nat} {Ap2 : Option Addr} {np2 cp2 : Nat} {r1 : S31} {r2 : Bool} {w : World} (h : impl_Tick.f k a0 a1 = some (r1, r2)) (gp0 : k89.C w Ap0 np0 a0.f2) (lp0 : np0 ≤ cp0) (gp1 : k150.C w Ap1 np1 a0.f3) (lp1 : np1 ≤ cp1) (gp2 : (Kd.int .i64).C w Ap2 np2 a0.f4) (lp2 : np2 ≤ cp2) :
    Calls Try.prog 10 #[.agg #[.string a0.f0, .int .i64 a0.f1, .slice Ap0 np0 cp0, .slice Ap1 np1 cp1, .slice Ap2 np2 cp2], .int .i64 a1] w (fun e w' => ∃ v0_ v1_ v2_ : Value, e = .returned (.tuple #[.agg #[.string r1.f0, .int .i64 r1.f1, v0_, v1_, v2_], .bool r2]) ∧ Hp noFP w w' [.own (Zd.slice 89 q89) r1.f2 [v0_], .own (Zd.slice 150 q150) r1.f3 [v1_], .own (Zd.slice 3 (Zd.int .i64)) r1.f4 [v2_]]) := by
 obtain rfl := C_len gp0
 obtain rfl := C_len gp1
 obtain rfl := C_len gp2
 have HS := Hp.start w
 have H := Aside0.mk h
 clear h
 unfold impl_Tick.f at H
 go_enter Try.func10, Try.ntmps10
 replace H := zbind H; obtain ⟨t5, ht5, H⟩ := H
 by_cases c16 : a1 < 0
 · replace H := zpos c16 H
   replace c16 := eq_true c16
   replace H := zbind H; obtain ⟨t17, ht17, H⟩ := H
   obtain ⟨rfl, rfl⟩ := zsome2 H
   go_wp2_with (first | ((with_reducible refine gate_dst (N := 2) rfl ?_); refine ev_box rfl HS (by first | (go_simp; done) | (go_simp; rfl)) rfl ?_; clear HS; (try clear F); intro g2 w2 HS; replace HS : Hp noFP w _ [.box g2 [.string a0.f0, .int .i64 a0.f1, .slice Ap0 a0.f2.length cp0, .slice Ap1 a0.f3.length cp1, .slice Ap2 a0.f4.length cp2] 31] := HS; have F := HS.boxes; simp only [boxFacts, and_true] at F) | ((with_reducible refine gate_dst (N := 4) rfl ?_); refine ev_box rfl HS (by first | (go_simp; done) | (go_simp; rfl)) rfl ?_; clear HS; (try clear F); intro g4 w4 HS; replace HS : Hp noFP w _ [.box g2 [.string a0.f0, .int .i64 a0.f1, .slice Ap0 a0.f2.length cp0, .slice Ap1 a0.f3.length cp1, .slice Ap2 a0.f4.length cp2] 31, .box g4 [.string (⟨#[]⟩ : ByteArray), .int .i64 0, .slice none 0 0, .slice none 0 0, .slice none 0 0] 31] := HS; have F := HS.boxes; simp only [boxFacts, and_true] at F) | ((with_reducible refine gate_dst (N := 10) rfl ?_); refine ev_call rfl Try.func43 (by kernel_rfl) rfl #[.agg #[.string a0.f0, .int .i64 a0.f1, .slice Ap0 a0.f2.length cp0, .slice Ap1 a0.f3.length cp1, .slice Ap2 a0.f4.length cp2]] rfl (by simp only [List.map_toArray, List.map_cons, List.map_nil]; rfl) ?_; refine (impl_copyClient.calls ht5.out (HS.ro gp0) lp0 (HS.ro gp1) lp1 (HS.ro gp2) lp2).mono ?_; rintro _ wt5 ⟨v6, v7, v8, rfl, HQ⟩; refine ⟨_, rfl, ?_⟩; replace HS := HS.call HQ; clear HQ; (try clear F); obtain ⟨B6, d6, rfl, m6⟩ := HS.form 2 rfl; obtain ⟨B7, d7, rfl, m7⟩ := HS.form 3 rfl; obtain ⟨B8, d8, rfl, m8⟩ := HS.form 4 rfl; replace HS : Hp noFP w _ [.box g2 [.string a0.f0, .int .i64 a0.f1, .slice Ap0 a0.f2.length cp0, .slice Ap1 a0.f3.length cp1, .slice Ap2 a0.f4.length cp2] 31, .box g4 [.string (⟨#[]⟩ : ByteArray), .int .i64 0, .slice none 0 0, .slice none 0 0, .slice none 0 0] 31, .own (Zd.slice 89 q89) t5.f2 [.slice B6 t5.f2.length d6], .own (Zd.slice 150 q150) t5.f3 [.slice B7 t5.f3.length d7], .own (Zd.slice 3 (Zd.int .i64)) t5.f4 [.slice B8 t5.f4.length d8]] := HS; have F := HS.boxes; simp only [boxFacts, and_true] at F) | ((with_reducible refine gate_dst (N := 6) rfl ?_); refine ev_box rfl HS (by first | (go_simp; done) | (go_simp; rfl)) rfl ?_; clear HS; (try clear F); intro g6 w6 HS; replace HS : Hp noFP w _ [.box g2 [.string a0.f0, .int .i64 a0.f1, .slice Ap0 a0.f2.length cp0, .slice Ap1 a0.f3.length cp1, .slice Ap2 a0.f4.length cp2] 31, .box g4 [.string (⟨#[]⟩ : ByteArray), .int .i64 0, .slice none 0 0, .slice none 0 0, .slice none 0 0] 31, .own (Zd.slice 89 q89) t5.f2 [.slice B6 t5.f2.length d6], .own (Zd.slice 150 q150) t5.f3 [.slice B7 t5.f3.length d7], .own (Zd.slice 3 (Zd.int .i64)) t5.f4 [.slice B8 t5.f4.length d8], .box g6 [.string (⟨#[]⟩ : ByteArray), .int .i64 0, .slice none 0 0, .slice none 0 0, .slice none 0 0] 31] := HS; have F := HS.boxes; simp only [boxFacts, and_true] at F) | ((with_reducible refine gate_store (p := 6) rfl ?_); refine ev_store rfl 5 0 HS (seg := [.string t5.f0, .int .i64 t5.f1, .slice B6 t5.f2.length d6, .slice B7 t5.f3.length d7, .slice B8 t5.f4.length d8]) rfl rfl rfl rfl rfl rfl (by kernel_rfl) (by simp [wrt]) (by simp [Value.oneCell']) ?_; clear HS; (try clear F); intro w12 HS; replace HS : Hp noFP w _ [.box g2 [.string a0.f0, .int .i64 a0.f1, .slice Ap0 a0.f2.length cp0, .slice Ap1 a0.f3.length cp1, .slice Ap2 a0.f4.length cp2] 31, .box g4 [.string (⟨#[]⟩ : ByteArray), .int .i64 0, .slice none 0 0, .slice none 0 0, .slice none 0 0] 31, .own (Zd.slice 89 q89) t5.f2 [.slice B6 t5.f2.length d6], .own (Zd.slice 150 q150) t5.f3 [.slice B7 t5.f3.length d7], .own (Zd.slice 3 (Zd.int .i64)) t5.f4 [.slice B8 t5.f4.length d8], .box g6 [.string t5.f0, .int .i64 t5.f1, .slice B6 t5.f2.length d6, .slice B7 t5.f3.length d7, .slice B8 t5.f4.length d8] 31] := HS; have F := HS.boxes; simp only [boxFacts, and_true] at F) | ((with_reducible refine gate_store (p := 15) rfl ?_); refine ev_store rfl 5 1 HS (seg := [.int .i64 (wrap64 (t5.f1 + a1))]) rfl rfl rfl rfl rfl rfl (by kernel_rfl) (by simp [wrt]) (by simp [Value.oneCell']) ?_; clear HS; (try clear F); intro w14 HS; replace HS : Hp noFP w _ [.box g2 [.string a0.f0, .int .i64 a0.f1, .slice Ap0 a0.f2.length cp0, .slice Ap1 a0.f3.length cp1, .slice Ap2 a0.f4.length cp2] 31, .box g4 [.string (⟨#[]⟩ : ByteArray), .int .i64 0, .slice none 0 0, .slice none 0 0, .slice none 0 0] 31, .own (Zd.slice 89 q89) t5.f2 [.slice B6 t5.f2.length d6], .own (Zd.slice 150 q150) t5.f3 [.slice B7 t5.f3.length d7], .own (Zd.slice 3 (Zd.int .i64)) t5.f4 [.slice B8 t5.f4.length d8], .box g6 [.string t5.f0, .int .i64 (wrap64 (t5.f1 + a1)), .slice B6 t5.f2.length d6, .slice B7 t5.f3.length d7, .slice B8 t5.f4.length d8] 31] := HS; have F := HS.boxes; simp only [boxFacts, and_true] at F) | ((with_reducible refine gate_dst (N := 31) rfl ?_); refine ev_call rfl Try.func43 (by kernel_rfl) rfl #[.agg #[.string a0.f0, .int .i64 a0.f1, .slice Ap0 a0.f2.length cp0, .slice Ap1 a0.f3.length cp1, .slice Ap2 a0.f4.length cp2]] rfl (by simp only [List.map_toArray, List.map_cons, List.map_nil]; rfl) ?_; refine (impl_copyClient.calls ht17.out (HS.ro gp0) lp0 (HS.ro gp1) lp1 (HS.ro gp2) lp2).mono ?_; rintro _ wt17 ⟨v18, v19, v20, rfl, HQ⟩; refine ⟨_, rfl, ?_⟩; replace HS := HS.call HQ; clear HQ; (try clear F); obtain ⟨B18, d18, rfl, m18⟩ := HS.form 6 rfl; obtain ⟨B19, d19, rfl, m19⟩ := HS.form 7 rfl; obtain ⟨B20, d20, rfl, m20⟩ := HS.form 8 rfl; replace HS : Hp noFP w _ [.box g2 [.string a0.f0, .int .i64 a0.f1, .slice Ap0 a0.f2.length cp0, .slice Ap1 a0.f3.length cp1, .slice Ap2 a0.f4.length cp2] 31, .box g4 [.string (⟨#[]⟩ : ByteArray), .int .i64 0, .slice none 0 0, .slice none 0 0, .slice none 0 0] 31, .own (Zd.slice 89 q89) t5.f2 [.slice B6 t5.f2.length d6], .own (Zd.slice 150 q150) t5.f3 [.slice B7 t5.f3.length d7], .own (Zd.slice 3 (Zd.int .i64)) t5.f4 [.slice B8 t5.f4.length d8], .box g6 [.string t5.f0, .int .i64 (wrap64 (t5.f1 + a1)), .slice B6 t5.f2.length d6, .slice B7 t5.f3.length d7, .slice B8 t5.f4.length d8] 31, .own (Zd.slice 89 q89) t17.f2 [.slice B18 t17.f2.length d18], .own (Zd.slice 150 q150) t17.f3 [.slice B19 t17.f3.length d19], .own (Zd.slice 3 (Zd.int .i64)) t17.f4 [.slice B20 t17.f4.length d20]] := HS; have F := HS.boxes; simp only [boxFacts, and_true] at F) | ((with_reducible refine gate_store (p := 4) rfl ?_); refine ev_store rfl 1 0 HS (seg := [.string t17.f0, .int .i64 t17.f1, .slice B18 t17.f2.length d18, .slice B19 t17.f3.length d19, .slice B20 t17.f4.length d20]) rfl rfl rfl rfl rfl rfl (by kernel_rfl) (by simp [wrt]) (by simp [Value.oneCell']) ?_; clear HS; (try clear F); intro w22 HS; replace HS : Hp noFP w _ [.box g2 [.string a0.f0, .int .i64 a0.f1, .slice Ap0 a0.f2.length cp0, .slice Ap1 a0.f3.length cp1, .slice Ap2 a0.f4.length cp2] 31, .box g4 [.string t17.f0, .int .i64 t17.f1, .slice B18 t17.f2.length d18, .slice B19 t17.f3.length d19, .slice B20 t17.f4.length d20] 31, .own (Zd.slice 89 q89) t5.f2 [.slice B6 t5.f2.length d6], .own (Zd.slice 150 q150) t5.f3 [.slice B7 t5.f3.length d7], .own (Zd.slice 3 (Zd.int .i64)) t5.f4 [.slice B8 t5.f4.length d8], .box g6 [.string t5.f0, .int .i64 (wrap64 (t5.f1 + a1)), .slice B6 t5.f2.length d6, .slice B7 t5.f3.length d7, .slice B8 t5.f4.length d8] 31, .own (Zd.slice 89 q89) t17.f2 [.slice B18 t17.f2.length d18], .own (Zd.slice 150 q150) t17.f3 [.slice B19 t17.f3.length d19], .own (Zd.slice 3 (Zd.int .i64)) t17.f4 [.slice B20 t17.f4.length d20]] := HS; have F := HS.boxes; simp only [boxFacts, and_true] at F))
   exact bodyPost_ret (results_list (rs := [.cell 4 31, .tmp 5]) rfl (by simp) (.cell _ _ _ _ _ rfl (HS.boxAt (i := 1) rfl) Try.underlying31 rfl (by kernel_rfl) (.tmp .nil))) rfl ⟨_, _, _, rfl, HS.pick [6, 7, 8] (by decide) (by rfl)⟩
 · replace H := zneg c16 H
   replace c16 := eq_false c16
   by_cases c24 : (wrap64 (t5.f1 + a1)) < a0.f1
   · replace H := zpos c24 H
     replace c24 := eq_true c24
     replace H := zbind H; obtain ⟨t25, ht25, H⟩ := H
     obtain ⟨rfl, rfl⟩ := zsome2 H
     go_wp2_with (first | ((with_reducible refine gate_dst (N := 2) rfl ?_); refine ev_box rfl HS (by first | (go_simp; done) | (go_simp; rfl)) rfl ?_; clear HS; (try clear F); intro g2 w2 HS; replace HS : Hp noFP w _ [.box g2 [.string a0.f0, .int .i64 a0.f1, .slice Ap0 a0.f2.length cp0, .slice Ap1 a0.f3.length cp1, .slice Ap2 a0.f4.length cp2] 31] := HS; have F := HS.boxes; simp only [boxFacts, and_true] at F) | ((with_reducible refine gate_dst (N := 4) rfl ?_); refine ev_box rfl HS (by first | (go_simp; done) | (go_simp; rfl)) rfl ?_; clear HS; (try clear F); intro g4 w4 HS; replace HS : Hp noFP w _ [.box g2 [.string a0.f0, .int .i64 a0.f1, .slice Ap0 a0.f2.length cp0, .slice Ap1 a0.f3.length cp1, .slice Ap2 a0.f4.length cp2] 31, .box g4 [.string (⟨#[]⟩ : ByteArray), .int .i64 0, .slice none 0 0, .slice none 0 0, .slice none 0 0] 31] := HS; have F := HS.boxes; simp only [boxFacts, and_true] at F) | ((with_reducible refine gate_dst (N := 10) rfl ?_); refine ev_call rfl Try.func43 (by kernel_rfl) rfl #[.agg #[.string a0.f0, .int .i64 a0.f1, .slice Ap0 a0.f2.length cp0, .slice Ap1 a0.f3.length cp1, .slice Ap2 a0.f4.length cp2]] rfl (by simp only [List.map_toArray, List.map_cons, List.map_nil]; rfl) ?_; refine (impl_copyClient.calls ht5.out (HS.ro gp0) lp0 (HS.ro gp1) lp1 (HS.ro gp2) lp2).mono ?_; rintro _ wt5 ⟨v6, v7, v8, rfl, HQ⟩; refine ⟨_, rfl, ?_⟩; replace HS := HS.call HQ; clear HQ; (try clear F); obtain ⟨B6, d6, rfl, m6⟩ := HS.form 2 rfl; obtain ⟨B7, d7, rfl, m7⟩ := HS.form 3 rfl; obtain ⟨B8, d8, rfl, m8⟩ := HS.form 4 rfl; replace HS : Hp noFP w _ [.box g2 [.string a0.f0, .int .i64 a0.f1, .slice Ap0 a0.f2.length cp0, .slice Ap1 a0.f3.length cp1, .slice Ap2 a0.f4.length cp2] 31, .box g4 [.string (⟨#[]⟩ : ByteArray), .int .i64 0, .slice none 0 0, .slice none 0 0, .slice none 0 0] 31, .own (Zd.slice 89 q89) t5.f2 [.slice B6 t5.f2.length d6], .own (Zd.slice 150 q150) t5.f3 [.slice B7 t5.f3.length d7], .own (Zd.slice 3 (Zd.int .i64)) t5.f4 [.slice B8 t5.f4.length d8]] := HS; have F := HS.boxes; simp only [boxFacts, and_true] at F) | ((with_reducible refine gate_dst (N := 6) rfl ?_); refine ev_box rfl HS (by first | (go_simp; done) | (go_simp; rfl)) rfl ?_; clear HS; (try clear F); intro g6 w6 HS; replace HS : Hp noFP w _ [.box g2 [.string a0.f0, .int .i64 a0.f1, .slice Ap0 a0.f2.length cp0, .slice Ap1 a0.f3.length cp1, .slice Ap2 a0.f4.length cp2] 31, .box g4 [.string (⟨#[]⟩ : ByteArray), .int .i64 0, .slice none 0 0, .slice none 0 0, .slice none 0 0] 31, .own (Zd.slice 89 q89) t5.f2 [.slice B6 t5.f2.length d6], .own (Zd.slice 150 q150) t5.f3 [.slice B7 t5.f3.length d7], .own (Zd.slice 3 (Zd.int .i64)) t5.f4 [.slice B8 t5.f4.length d8], .box g6 [.string (⟨#[]⟩ : ByteArray), .int .i64 0, .slice none 0 0, .slice none 0 0, .slice none 0 0] 31] := HS; have F := HS.boxes; simp only [boxFacts, and_true] at F) | ((with_reducible refine gate_store (p := 6) rfl ?_); refine ev_store rfl 5 0 HS (seg := [.string t5.f0, .int .i64 t5.f1, .slice B6 t5.f2.length d6, .slice B7 t5.f3.length d7, .slice B8 t5.f4.length d8]) rfl rfl rfl rfl rfl rfl (by kernel_rfl) (by simp [wrt]) (by simp [Value.oneCell']) ?_; clear HS; (try clear F); intro w12 HS; replace HS : Hp noFP w _ [.box g2 [.string a0.f0, .int .i64 a0.f1, .slice Ap0 a0.f2.length cp0, .slice Ap1 a0.f3.length cp1, .slice Ap2 a0.f4.length cp2] 31, .box g4 [.string (⟨#[]⟩ : ByteArray), .int .i64 0, .slice none 0 0, .slice none 0 0, .slice none 0 0] 31, .own (Zd.slice 89 q89) t5.f2 [.slice B6 t5.f2.length d6], .own (Zd.slice 150 q150) t5.f3 [.slice B7 t5.f3.length d7], .own (Zd.slice 3 (Zd.int .i64)) t5.f4 [.slice B8 t5.f4.length d8], .box g6 [.string t5.f0, .int .i64 t5.f1, .slice B6 t5.f2.length d6, .slice B7 t5.f3.length d7, .slice B8 t5.f4.length d8] 31] := HS; have F := HS.boxes; simp only [boxFacts, and_true] at F) | ((with_reducible refine gate_store (p := 15) rfl ?_); refine ev_store rfl 5 1 HS (seg := [.int .i64 (wrap64 (t5.f1 + a1))]) rfl rfl rfl rfl rfl rfl (by kernel_rfl) (by simp [wrt]) (by simp [Value.oneCell']) ?_; clear HS; (try clear F); intro w14 HS; replace HS : Hp noFP w _ [.box g2 [.string a0.f0, .int .i64 a0.f1, .slice Ap0 a0.f2.length cp0, .slice Ap1 a0.f3.length cp1, .slice Ap2 a0.f4.length cp2] 31, .box g4 [.string (⟨#[]⟩ : ByteArray), .int .i64 0, .slice none 0 0, .slice none 0 0, .slice none 0 0] 31, .own (Zd.slice 89 q89) t5.f2 [.slice B6 t5.f2.length d6], .own (Zd.slice 150 q150) t5.f3 [.slice B7 t5.f3.length d7], .own (Zd.slice 3 (Zd.int .i64)) t5.f4 [.slice B8 t5.f4.length d8], .box g6 [.string t5.f0, .int .i64 (wrap64 (t5.f1 + a1)), .slice B6 t5.f2.length d6, .slice B7 t5.f3.length d7, .slice B8 t5.f4.length d8] 31] := HS; have F := HS.boxes; simp only [boxFacts, and_true] at F) | ((with_reducible refine gate_dst (N := 31) rfl ?_); refine ev_call rfl Try.func43 (by kernel_rfl) rfl #[.agg #[.string a0.f0, .int .i64 a0.f1, .slice Ap0 a0.f2.length cp0, .slice Ap1 a0.f3.length cp1, .slice Ap2 a0.f4.length cp2]] rfl (by simp only [List.map_toArray, List.map_cons, List.map_nil]; rfl) ?_; refine (impl_copyClient.calls ht25.out (HS.ro gp0) lp0 (HS.ro gp1) lp1 (HS.ro gp2) lp2).mono ?_; rintro _ wt25 ⟨v26, v27, v28, rfl, HQ⟩; refine ⟨_, rfl, ?_⟩; replace HS := HS.call HQ; clear HQ; (try clear F); obtain ⟨B26, d26, rfl, m26⟩ := HS.form 6 rfl; obtain ⟨B27, d27, rfl, m27⟩ := HS.form 7 rfl; obtain ⟨B28, d28, rfl, m28⟩ := HS.form 8 rfl; replace HS : Hp noFP w _ [.box g2 [.string a0.f0, .int .i64 a0.f1, .slice Ap0 a0.f2.length cp0, .slice Ap1 a0.f3.length cp1, .slice Ap2 a0.f4.length cp2] 31, .box g4 [.string (⟨#[]⟩ : ByteArray), .int .i64 0, .slice none 0 0, .slice none 0 0, .slice none 0 0] 31, .own (Zd.slice 89 q89) t5.f2 [.slice B6 t5.f2.length d6], .own (Zd.slice 150 q150) t5.f3 [.slice B7 t5.f3.length d7], .own (Zd.slice 3 (Zd.int .i64)) t5.f4 [.slice B8 t5.f4.length d8], .box g6 [.string t5.f0, .int .i64 (wrap64 (t5.f1 + a1)), .slice B6 t5.f2.length d6, .slice B7 t5.f3.length d7, .slice B8 t5.f4.length d8] 31, .own (Zd.slice 89 q89) t25.f2 [.slice B26 t25.f2.length d26], .own (Zd.slice 150 q150) t25.f3 [.slice B27 t25.f3.length d27], .own (Zd.slice 3 (Zd.int .i64)) t25.f4 [.slice B28 t25.f4.length d28]] := HS; have F := HS.boxes; simp only [boxFacts, and_true] at F) | ((with_reducible refine gate_store (p := 4) rfl ?_); refine ev_store rfl 1 0 HS (seg := [.string t25.f0, .int .i64 t25.f1, .slice B26 t25.f2.length d26, .slice B27 t25.f3.length d27, .slice B28 t25.f4.length d28]) rfl rfl rfl rfl rfl rfl (by kernel_rfl) (by simp [wrt]) (by simp [Value.oneCell']) ?_; clear HS; (try clear F); intro w30 HS; replace HS : Hp noFP w _ [.box g2 [.string a0.f0, .int .i64 a0.f1, .slice Ap0 a0.f2.length cp0, .slice Ap1 a0.f3.length cp1, .slice Ap2 a0.f4.length cp2] 31, .box g4 [.string t25.f0, .int .i64 t25.f1, .slice B26 t25.f2.length d26, .slice B27 t25.f3.length d27, .slice B28 t25.f4.length d28] 31, .own (Zd.slice 89 q89) t5.f2 [.slice B6 t5.f2.length d6], .own (Zd.slice 150 q150) t5.f3 [.slice B7 t5.f3.length d7], .own (Zd.slice 3 (Zd.int .i64)) t5.f4 [.slice B8 t5.f4.length d8], .box g6 [.string t5.f0, .int .i64 (wrap64 (t5.f1 + a1)), .slice B6 t5.f2.length d6, .slice B7 t5.f3.length d7, .slice B8 t5.f4.length d8] 31, .own (Zd.slice 89 q89) t25.f2 [.slice B26 t25.f2.length d26], .own (Zd.slice 150 q150) t25.f3 [.slice B27 t25.f3.length d27], .own (Zd.slice 3 (Zd.int .i64)) t25.f4 [.slice B28 t25.f4.length d28]] := HS; have F := HS.boxes; simp only [boxFacts, and_true] at F))
     exact bodyPost_ret (results_list (rs := [.cell 4 31, .tmp 5]) rfl (by simp) (.cell _ _ _ _ _ rfl (HS.boxAt (i := 1) rfl) Try.underlying31 rfl (by kernel_rfl) (.tmp .nil))) rfl ⟨_, _, _, rfl, HS.pick [6, 7, 8] (by decide) (by rfl)⟩
   · replace H := zneg c24 H
     replace c24 := eq_false c24
     go_upto_if 29 with (first | ((with_reducible refine gate_dst (N := 2) rfl ?_); refine ev_box rfl HS (by first | (go_simp; done) | (go_simp; rfl)) rfl ?_; clear HS; (try clear F); intro g2 w2 HS; replace HS : Hp noFP w _ [.box g2 [.string a0.f0, .int .i64 a0.f1, .slice Ap0 a0.f2.length cp0, .slice Ap1 a0.f3.length cp1, .slice Ap2 a0.f4.length cp2] 31] := HS; have F := HS.boxes; simp only [boxFacts, and_true] at F) | ((with_reducible refine gate_dst (N := 4) rfl ?_); refine ev_box rfl HS (by first | (go_simp; done) | (go_simp; rfl)) rfl ?_; clear HS; (try clear F); intro g4 w4 HS; replace HS : Hp noFP w _ [.box g2 [.string a0.f0, .int .i64 a0.f1, .slice Ap0 a0.f2.length cp0, .slice Ap1 a0.f3.length cp1, .slice Ap2 a0.f4.length cp2] 31, .box g4 [.string (⟨#[]⟩ : ByteArray), .int .i64 0, .slice none 0 0, .slice none 0 0, .slice none 0 0] 31] := HS; have F := HS.boxes; simp only [boxFacts, and_true] at F) | ((with_reducible refine gate_dst (N := 10) rfl ?_); refine ev_call rfl Try.func43 (by kernel_rfl) rfl #[.agg #[.string a0.f0, .int .i64 a0.f1, .slice Ap0 a0.f2.length cp0, .slice Ap1 a0.f3.length cp1, .slice Ap2 a0.f4.length cp2]] rfl (by simp only [List.map_toArray, List.map_cons, List.map_nil]; rfl) ?_; refine (impl_copyClient.calls ht5.out (HS.ro gp0) lp0 (HS.ro gp1) lp1 (HS.ro gp2) lp2).mono ?_; rintro _ wt5 ⟨v6, v7, v8, rfl, HQ⟩; refine ⟨_, rfl, ?_⟩; replace HS := HS.call HQ; clear HQ; (try clear F); obtain ⟨B6, d6, rfl, m6⟩ := HS.form 2 rfl; obtain ⟨B7, d7, rfl, m7⟩ := HS.form 3 rfl; obtain ⟨B8, d8, rfl, m8⟩ := HS.form 4 rfl; replace HS : Hp noFP w _ [.box g2 [.string a0.f0, .int .i64 a0.f1, .slice Ap0 a0.f2.length cp0, .slice Ap1 a0.f3.length cp1, .slice Ap2 a0.f4.length cp2] 31, .box g4 [.string (⟨#[]⟩ : ByteArray), .int .i64 0, .slice none 0 0, .slice none 0 0, .slice none 0 0] 31, .own (Zd.slice 89 q89) t5.f2 [.slice B6 t5.f2.length d6], .own (Zd.slice 150 q150) t5.f3 [.slice B7 t5.f3.length d7], .own (Zd.slice 3 (Zd.int .i64)) t5.f4 [.slice B8 t5.f4.length d8]] := HS; have F := HS.boxes; simp only [boxFacts, and_true] at F) | ((with_reducible refine gate_dst (N := 6) rfl ?_); refine ev_box rfl HS (by first | (go_simp; done) | (go_simp; rfl)) rfl ?_; clear HS; (try clear F); intro g6 w6 HS; replace HS : Hp noFP w _ [.box g2 [.string a0.f0, .int .i64 a0.f1, .slice Ap0 a0.f2.length cp0, .slice Ap1 a0.f3.length cp1, .slice Ap2 a0.f4.length cp2] 31, .box g4 [.string (⟨#[]⟩ : ByteArray), .int .i64 0, .slice none 0 0, .slice none 0 0, .slice none 0 0] 31, .own (Zd.slice 89 q89) t5.f2 [.slice B6 t5.f2.length d6], .own (Zd.slice 150 q150) t5.f3 [.slice B7 t5.f3.length d7], .own (Zd.slice 3 (Zd.int .i64)) t5.f4 [.slice B8 t5.f4.length d8], .box g6 [.string (⟨#[]⟩ : ByteArray), .int .i64 0, .slice none 0 0, .slice none 0 0, .slice none 0 0] 31] := HS; have F := HS.boxes; simp only [boxFacts, and_true] at F) | ((with_reducible refine gate_store (p := 6) rfl ?_); refine ev_store rfl 5 0 HS (seg := [.string t5.f0, .int .i64 t5.f1, .slice B6 t5.f2.length d6, .slice B7 t5.f3.length d7, .slice B8 t5.f4.length d8]) rfl rfl rfl rfl rfl rfl (by kernel_rfl) (by simp [wrt]) (by simp [Value.oneCell']) ?_; clear HS; (try clear F); intro w12 HS; replace HS : Hp noFP w _ [.box g2 [.string a0.f0, .int .i64 a0.f1, .slice Ap0 a0.f2.length cp0, .slice Ap1 a0.f3.length cp1, .slice Ap2 a0.f4.length cp2] 31, .box g4 [.string (⟨#[]⟩ : ByteArray), .int .i64 0, .slice none 0 0, .slice none 0 0, .slice none 0 0] 31, .own (Zd.slice 89 q89) t5.f2 [.slice B6 t5.f2.length d6], .own (Zd.slice 150 q150) t5.f3 [.slice B7 t5.f3.length d7], .own (Zd.slice 3 (Zd.int .i64)) t5.f4 [.slice B8 t5.f4.length d8], .box g6 [.string t5.f0, .int .i64 t5.f1, .slice B6 t5.f2.length d6, .slice B7 t5.f3.length d7, .slice B8 t5.f4.length d8] 31] := HS; have F := HS.boxes; simp only [boxFacts, and_true] at F) | ((with_reducible refine gate_store (p := 15) rfl ?_); refine ev_store rfl 5 1 HS (seg := [.int .i64 (wrap64 (t5.f1 + a1))]) rfl rfl rfl rfl rfl rfl (by kernel_rfl) (by simp [wrt]) (by simp [Value.oneCell']) ?_; clear HS; (try clear F); intro w14 HS; replace HS : Hp noFP w _ [.box g2 [.string a0.f0, .int .i64 a0.f1, .slice Ap0 a0.f2.length cp0, .slice Ap1 a0.f3.length cp1, .slice Ap2 a0.f4.length cp2] 31, .box g4 [.string (⟨#[]⟩ : ByteArray), .int .i64 0, .slice none 0 0, .slice none 0 0, .slice none 0 0] 31, .own (Zd.slice 89 q89) t5.f2 [.slice B6 t5.f2.length d6], .own (Zd.slice 150 q150) t5.f3 [.slice B7 t5.f3.length d7], .own (Zd.slice 3 (Zd.int .i64)) t5.f4 [.slice B8 t5.f4.length d8], .box g6 [.string t5.f0, .int .i64 (wrap64 (t5.f1 + a1)), .slice B6 t5.f2.length d6, .slice B7 t5.f3.length d7, .slice B8 t5.f4.length d8] 31] := HS; have F := HS.boxes; simp only [boxFacts, and_true] at F))
     by_cases c32 : 99999 < (wrap64 (t5.f1 + a1))
     · replace H := zpos c32 H
       replace c32 := eq_true c32
       (try simp only [c32, decide_true, decide_false, Bool.not_true, Bool.not_false])
       replace H := zbind H; obtain ⟨t33, ht33, H⟩ := H
       obtain ⟨rfl, rfl⟩ := zsome2 H
       go_wp2_with (first | ((with_reducible refine gate_dst (N := 31) rfl ?_); refine ev_call rfl Try.func43 (by kernel_rfl) rfl #[.agg #[.string a0.f0, .int .i64 a0.f1, .slice Ap0 a0.f2.length cp0, .slice Ap1 a0.f3.length cp1, .slice Ap2 a0.f4.length cp2]] rfl (by simp only [List.map_toArray, List.map_cons, List.map_nil]; rfl) ?_; refine (impl_copyClient.calls ht33.out (HS.ro gp0) lp0 (HS.ro gp1) lp1 (HS.ro gp2) lp2).mono ?_; rintro _ wt33 ⟨v34, v35, v36, rfl, HQ⟩; refine ⟨_, rfl, ?_⟩; replace HS := HS.call HQ; clear HQ; (try clear F); obtain ⟨B34, d34, rfl, m34⟩ := HS.form 6 rfl; obtain ⟨B35, d35, rfl, m35⟩ := HS.form 7 rfl; obtain ⟨B36, d36, rfl, m36⟩ := HS.form 8 rfl; replace HS : Hp noFP w _ [.box g2 [.string a0.f0, .int .i64 a0.f1, .slice Ap0 a0.f2.length cp0, .slice Ap1 a0.f3.length cp1, .slice Ap2 a0.f4.length cp2] 31, .box g4 [.string (⟨#[]⟩ : ByteArray), .int .i64 0, .slice none 0 0, .slice none 0 0, .slice none 0 0] 31, .own (Zd.slice 89 q89) t5.f2 [.slice B6 t5.f2.length d6], .own (Zd.slice 150 q150) t5.f3 [.slice B7 t5.f3.length d7], .own (Zd.slice 3 (Zd.int .i64)) t5.f4 [.slice B8 t5.f4.length d8], .box g6 [.string t5.f0, .int .i64 (wrap64 (t5.f1 + a1)), .slice B6 t5.f2.length d6, .slice B7 t5.f3.length d7, .slice B8 t5.f4.length d8] 31, .own (Zd.slice 89 q89) t33.f2 [.slice B34 t33.f2.length d34], .own (Zd.slice 150 q150) t33.f3 [.slice B35 t33.f3.length d35], .own (Zd.slice 3 (Zd.int .i64)) t33.f4 [.slice B36 t33.f4.length d36]] := HS; have F := HS.boxes; simp only [boxFacts, and_true] at F) | ((with_reducible refine gate_store (p := 4) rfl ?_); refine ev_store rfl 1 0 HS (seg := [.string t33.f0, .int .i64 t33.f1, .slice B34 t33.f2.length d34, .slice B35 t33.f3.length d35, .slice B36 t33.f4.length d36]) rfl rfl rfl rfl rfl rfl (by kernel_rfl) (by simp [wrt]) (by simp [Value.oneCell']) ?_; clear HS; (try clear F); intro w38 HS; replace HS : Hp noFP w _ [.box g2 [.string a0.f0, .int .i64 a0.f1, .slice Ap0 a0.f2.length cp0, .slice Ap1 a0.f3.length cp1, .slice Ap2 a0.f4.length cp2] 31, .box g4 [.string t33.f0, .int .i64 t33.f1, .slice B34 t33.f2.length d34, .slice B35 t33.f3.length d35, .slice B36 t33.f4.length d36] 31, .own (Zd.slice 89 q89) t5.f2 [.slice B6 t5.f2.length d6], .own (Zd.slice 150 q150) t5.f3 [.slice B7 t5.f3.length d7], .own (Zd.slice 3 (Zd.int .i64)) t5.f4 [.slice B8 t5.f4.length d8], .box g6 [.string t5.f0, .int .i64 (wrap64 (t5.f1 + a1)), .slice B6 t5.f2.length d6, .slice B7 t5.f3.length d7, .slice B8 t5.f4.length d8] 31, .own (Zd.slice 89 q89) t33.f2 [.slice B34 t33.f2.length d34], .own (Zd.slice 150 q150) t33.f3 [.slice B35 t33.f3.length d35], .own (Zd.slice 3 (Zd.int .i64)) t33.f4 [.slice B36 t33.f4.length d36]] := HS; have F := HS.boxes; simp only [boxFacts, and_true] at F))
       exact bodyPost_ret (results_list (rs := [.cell 4 31, .tmp 5]) rfl (by simp) (.cell _ _ _ _ _ rfl (HS.boxAt (i := 1) rfl) Try.underlying31 rfl (by kernel_rfl) (.tmp .nil))) rfl ⟨_, _, _, rfl, HS.pick [6, 7, 8] (by decide) (by rfl)⟩
     · replace H := zneg c32 H
       replace c32 := eq_false c32
       (try simp only [c32, decide_true, decide_false, Bool.not_true, Bool.not_false])
       go_wp2_with (first | ((with_reducible refine gate_store (p := 32) rfl ?_); refine ev_store rfl 5 2 HS (seg := [.slice none 0 0]) rfl rfl rfl rfl rfl rfl (by kernel_rfl) (by simp [wrt]) (by simp [Value.oneCell']) ?_; clear HS; (try clear F); intro w40 HS; replace HS : Hp noFP w _ [.box g2 [.string a0.f0, .int .i64 a0.f1, .slice Ap0 a0.f2.length cp0, .slice Ap1 a0.f3.length cp1, .slice Ap2 a0.f4.length cp2] 31, .box g4 [.string (⟨#[]⟩ : ByteArray), .int .i64 0, .slice none 0 0, .slice none 0 0, .slice none 0 0] 31, .own (Zd.slice 89 q89) t5.f2 [.slice B6 t5.f2.length d6], .own (Zd.slice 150 q150) t5.f3 [.slice B7 t5.f3.length d7], .own (Zd.slice 3 (Zd.int .i64)) t5.f4 [.slice B8 t5.f4.length d8], .box g6 [.string t5.f0, .int .i64 (wrap64 (t5.f1 + a1)), .slice none 0 0, .slice B7 t5.f3.length d7, .slice B8 t5.f4.length d8] 31] := HS; have F := HS.boxes; simp only [boxFacts, and_true] at F))
       replace HS := HS.nil 89 q89
       go_loopg [36] k (fun kq v_36 w' => ∃ (l98 : List Int) (v99 : Value) (l100 : List S89) (v101 : Value) (x102 : Int), v_36 = .int .i64 x102 ∧ Aside0 (impl_Tick.l0 kq l98 l100 x102 a0 a1 t5 = some (r1, r2)) ∧ Aside0 (kq ≤ k) ∧ Hp noFP w w' [.box g2 [.string a0.f0, .int .i64 a0.f1, .slice Ap0 a0.f2.length cp0, .slice Ap1 a0.f3.length cp1, .slice Ap2 a0.f4.length cp2] 31, .box g4 [.string (⟨#[]⟩ : ByteArray), .int .i64 0, .slice none 0 0, .slice none 0 0, .slice none 0 0] 31, .own (Zd.slice 89 q89) t5.f2 [.slice B6 t5.f2.length d6], .own (Zd.slice 150 q150) t5.f3 [.slice B7 t5.f3.length d7], .own (Zd.slice 3 (Zd.int .i64)) l98 [v99], .box g6 [.string t5.f0, .int .i64 (wrap64 (t5.f1 + a1)), v101, .slice B7 t5.f3.length d7, v99] 31, .own (Zd.slice 89 q89) l100 [v101]])
       case atStart => exact ⟨_, _, _, _, _, rfl, H, ⟨Nat.le_refl _⟩, HS⟩
       case round =>
        clear HS H; (try clear F)
        obtain ⟨l98, v99, l100, v101, x102, rfl, H, HKk97, HS⟩ := hrel
        obtain ⟨B99, d99, rfl, m99⟩ := HS.form 4 rfl
        obtain ⟨B101, d101, rfl, m101⟩ := HS.form 6 rfl
        have F := HS.boxes; simp only [boxFacts, and_true] at F
        cases gk with
        | zero => exact absurd H.out (by simp [impl_Tick.l0])
        | succ k97 =>
         simp only [impl_Tick.l0] at H
         by_cases c104 : x102 < (a0.f2.length : Int)
         · replace H := zpos c104 H
           replace c104 := eq_true c104
           by_cases c105 : 0 ≤ x102
           case neg => exact zno c105 H
           replace H := zpos c105 H
           replace c105 := eq_true c105
           by_cases c106 : x102 < (a0.f2.length : Int)
           case neg => exact zno c106 H
           replace H := zpos c106 H
           replace c106 := eq_true c106
           obtain ⟨ad107, rfl, e107_0, e107_1, e107_2, e107_3⟩ := at_T89 gp0 x102 (of_eq_true c105) (of_eq_true c106)
           have e107_0_107 := (HS.keepc e107_0)
           have e107_1_107 := (HS.keepc e107_1)
           have e107_2_107 := (HS.keepc e107_2)
           have e107_3_107 := (HS.keepc e107_3)
           go_upto_if 44 with (first | ((with_reducible refine gate_dst (N := 8) rfl ?_); refine ev_box rfl HS (by first | (go_simp; done) | (go_simp; rfl)) rfl ?_; clear HS; (try clear F); intro g8 w8 HS; replace HS : Hp noFP w _ [.box g2 [.string a0.f0, .int .i64 a0.f1, .slice (some ad107) a0.f2.length cp0, .slice Ap1 a0.f3.length cp1, .slice Ap2 a0.f4.length cp2] 31, .box g4 [.string (⟨#[]⟩ : ByteArray), .int .i64 0, .slice none 0 0, .slice none 0 0, .slice none 0 0] 31, .own (Zd.slice 89 q89) t5.f2 [.slice B6 t5.f2.length d6], .own (Zd.slice 150 q150) t5.f3 [.slice B7 t5.f3.length d7], .own (Zd.slice 3 (Zd.int .i64)) l98 [.slice B99 l98.length d99], .box g6 [.string t5.f0, .int .i64 (wrap64 (t5.f1 + a1)), .slice B101 l100.length d101, .slice B7 t5.f3.length d7, .slice B99 l98.length d99] 31, .own (Zd.slice 89 q89) l100 [.slice B101 l100.length d101], .box g8 [.int .i64 0, .int .i64 0, .string (⟨#[]⟩ : ByteArray), .int .i64 0] 89] := HS; have F := HS.boxes; simp only [boxFacts, and_true] at F) | ((with_reducible refine gate_store (p := 8) rfl ?_); refine ev_store rfl 7 0 HS (seg := [.int .i64 ((rd_T89 a0.f2 x102).f0), .int .i64 ((rd_T89 a0.f2 x102).f1), .string ((rd_T89 a0.f2 x102).f2), .int .i64 ((rd_T89 a0.f2 x102).f3)]) rfl rfl rfl rfl rfl rfl (by kernel_rfl) (by simp [wrt]) (by simp [Value.oneCell']) ?_; clear HS; (try clear F); intro w110 HS; replace HS : Hp noFP w _ [.box g2 [.string a0.f0, .int .i64 a0.f1, .slice (some ad107) a0.f2.length cp0, .slice Ap1 a0.f3.length cp1, .slice Ap2 a0.f4.length cp2] 31, .box g4 [.string (⟨#[]⟩ : ByteArray), .int .i64 0, .slice none 0 0, .slice none 0 0, .slice none 0 0] 31, .own (Zd.slice 89 q89) t5.f2 [.slice B6 t5.f2.length d6], .own (Zd.slice 150 q150) t5.f3 [.slice B7 t5.f3.length d7], .own (Zd.slice 3 (Zd.int .i64)) l98 [.slice B99 l98.length d99], .box g6 [.string t5.f0, .int .i64 (wrap64 (t5.f1 + a1)), .slice B101 l100.length d101, .slice B7 t5.f3.length d7, .slice B99 l98.length d99] 31, .own (Zd.slice 89 q89) l100 [.slice B101 l100.length d101], .box g8 [.int .i64 ((rd_T89 a0.f2 x102).f0), .int .i64 ((rd_T89 a0.f2 x102).f1), .string ((rd_T89 a0.f2 x102).f2), .int .i64 ((rd_T89 a0.f2 x102).f3)] 89] := HS; have F := HS.boxes; simp only [boxFacts, and_true] at F))
           by_cases c112 : (rd_T89 a0.f2 x102).f3 < (wrap64 (t5.f1 + a1))
           · replace H := zpos c112 H
             replace c112 := eq_true c112
             (try simp only [c112, decide_true, decide_false, Bool.not_true, Bool.not_false])
             by_cases c115 : l98.length + 1 ≤ 17592186044416
             case neg => exact zno c115 H
             replace H := zpos c115 H
             replace c115 := eq_true c115
             replace H := zlets H; obtain ⟨y116, e_y116, H⟩ := H
             go_wp2_with (first | ((with_reducible refine gate_dst (N := 49) rfl ?_); refine ev_lit rfl (Zd.int .i64) [] ([(rd_T89 a0.f2 x102).f0] : List Int) ([.int .i64 ((rd_T89 a0.f2 x102).f0)] ++ []) HS (by first | (go_simp; done) | (go_simp; rfl)) rfl rfl (Nat.le_of_ble_eq_true rfl) (MadeL.cons (js1 := []) (c := [.int .i64 ((rd_T89 a0.f2 x102).f0)]) rfl (made_flat (fun _ => rfl)) MadeL.nil (by decide)) ?_; clear HS; (try clear F); intro v113 w113 HS; obtain ⟨B113, d113, rfl, m113⟩ := HS.formn 1 8 rfl rfl; replace HS : Hp noFP w _ [.box g2 [.string a0.f0, .int .i64 a0.f1, .slice (some ad107) a0.f2.length cp0, .slice Ap1 a0.f3.length cp1, .slice Ap2 a0.f4.length cp2] 31, .box g4 [.string (⟨#[]⟩ : ByteArray), .int .i64 0, .slice none 0 0, .slice none 0 0, .slice none 0 0] 31, .own (Zd.slice 89 q89) t5.f2 [.slice B6 t5.f2.length d6], .own (Zd.slice 150 q150) t5.f3 [.slice B7 t5.f3.length d7], .own (Zd.slice 3 (Zd.int .i64)) l98 [.slice B99 l98.length d99], .box g6 [.string t5.f0, .int .i64 (wrap64 (t5.f1 + a1)), .slice B101 l100.length d101, .slice B7 t5.f3.length d7, .slice B99 l98.length d99] 31, .own (Zd.slice 89 q89) l100 [.slice B101 l100.length d101], .box g8 [.int .i64 ((rd_T89 a0.f2 x102).f0), .int .i64 ((rd_T89 a0.f2 x102).f1), .string ((rd_T89 a0.f2 x102).f2), .int .i64 ((rd_T89 a0.f2 x102).f3)] 89, .own (Zd.slice 3 (Zd.int .i64)) ([(rd_T89 a0.f2 x102).f0] : List Int) [.slice B113 1 d113]] := HS; have F := HS.boxes; simp only [boxFacts, and_true] at F) | ((with_reducible refine gate_dst (N := 50) rfl ?_); refine ev_append rfl (Zd.int .i64) 4 8 HS rfl rfl (by decide) rfl rfl rfl Try.underlying24 info3 rfl (by decide) (by decide) (by have := of_eq_true c115; first | omega | (simp only [List.length_cons, List.length_nil, List.length_append, Nat.zero_add] at this ⊢; omega)) ?_; clear HS; (try clear F); intro v116 w116 HS; rw [← e_y116.out] at HS; obtain ⟨B116, d116, rfl, m116⟩ := HS.form 9 rfl; replace HS : Hp noFP w _ [.box g2 [.string a0.f0, .int .i64 a0.f1, .slice (some ad107) a0.f2.length cp0, .slice Ap1 a0.f3.length cp1, .slice Ap2 a0.f4.length cp2] 31, .box g4 [.string (⟨#[]⟩ : ByteArray), .int .i64 0, .slice none 0 0, .slice none 0 0, .slice none 0 0] 31, .own (Zd.slice 89 q89) t5.f2 [.slice B6 t5.f2.length d6], .own (Zd.slice 150 q150) t5.f3 [.slice B7 t5.f3.length d7], .emp, .box g6 [.string t5.f0, .int .i64 (wrap64 (t5.f1 + a1)), .slice B101 l100.length d101, .slice B7 t5.f3.length d7, .slice B99 l98.length d99] 31, .own (Zd.slice 89 q89) l100 [.slice B101 l100.length d101], .box g8 [.int .i64 ((rd_T89 a0.f2 x102).f0), .int .i64 ((rd_T89 a0.f2 x102).f1), .string ((rd_T89 a0.f2 x102).f2), .int .i64 ((rd_T89 a0.f2 x102).f3)] 89, .emp, .own (Zd.slice 3 (Zd.int .i64)) y116 [.slice B116 y116.length d116]] := HS; have F := HS.boxes; simp only [boxFacts, and_true] at F) | ((with_reducible refine gate_store (p := 51) rfl ?_); refine ev_store rfl 5 4 HS (seg := [.slice B116 y116.length d116]) rfl rfl rfl rfl rfl rfl (by kernel_rfl) (by simp [wrt]) (by simp [Value.oneCell']) ?_; clear HS; (try clear F); intro w118 HS; replace HS : Hp noFP w _ [.box g2 [.string a0.f0, .int .i64 a0.f1, .slice (some ad107) a0.f2.length cp0, .slice Ap1 a0.f3.length cp1, .slice Ap2 a0.f4.length cp2] 31, .box g4 [.string (⟨#[]⟩ : ByteArray), .int .i64 0, .slice none 0 0, .slice none 0 0, .slice none 0 0] 31, .own (Zd.slice 89 q89) t5.f2 [.slice B6 t5.f2.length d6], .own (Zd.slice 150 q150) t5.f3 [.slice B7 t5.f3.length d7], .emp, .box g6 [.string t5.f0, .int .i64 (wrap64 (t5.f1 + a1)), .slice B101 l100.length d101, .slice B7 t5.f3.length d7, .slice B116 y116.length d116] 31, .own (Zd.slice 89 q89) l100 [.slice B101 l100.length d101], .box g8 [.int .i64 ((rd_T89 a0.f2 x102).f0), .int .i64 ((rd_T89 a0.f2 x102).f1), .string ((rd_T89 a0.f2 x102).f2), .int .i64 ((rd_T89 a0.f2 x102).f3)] 89, .emp, .own (Zd.slice 3 (Zd.int .i64)) y116 [.slice B116 y116.length d116]] := HS; have F := HS.boxes; simp only [boxFacts, and_true] at F))
             go_roundg k97
             case measure => have := HKk97.out; omega
             case rel => exact ⟨_, _, _, _, _, rfl, H, ⟨by have := HKk97.out; omega⟩, HS.pick [0, 1, 2, 3, 9, 5, 6] (by decide) (by rfl)⟩
           · replace H := zneg c112 H
             replace c112 := eq_false c112
             (try simp only [c112, decide_true, decide_false, Bool.not_true, Bool.not_false])
             by_cases c122 : l100.length + 1 ≤ 3518437208883
             case neg => exact zno c122 H
             replace H := zpos c122 H
             replace c122 := eq_true c122
             replace H := zlets H; obtain ⟨y123, e_y123, H⟩ := H
             go_wp2_with (first | ((with_reducible refine gate_dst (N := 55) rfl ?_); refine ev_lit rfl q89 [] ([(rd_T89 a0.f2 x102)] : List S89) ([.int .i64 ((rd_T89 a0.f2 x102).f0), .int .i64 ((rd_T89 a0.f2 x102).f1), .string ((rd_T89 a0.f2 x102).f2), .int .i64 ((rd_T89 a0.f2 x102).f3)] ++ []) HS (by first | (go_simp; done) | (go_simp; rfl)) rfl rfl (Nat.le_of_ble_eq_true rfl) (MadeL.cons (js1 := []) (c := [.int .i64 ((rd_T89 a0.f2 x102).f0), .int .i64 ((rd_T89 a0.f2 x102).f1), .string ((rd_T89 a0.f2 x102).f2), .int .i64 ((rd_T89 a0.f2 x102).f3)]) rfl (made_flat (fun _ => q89_flat _ _ _)) MadeL.nil (by decide)) ?_; clear HS; (try clear F); intro v120 w120 HS; obtain ⟨B120, d120, rfl, m120⟩ := HS.formn 1 8 rfl rfl; replace HS : Hp noFP w _ [.box g2 [.string a0.f0, .int .i64 a0.f1, .slice (some ad107) a0.f2.length cp0, .slice Ap1 a0.f3.length cp1, .slice Ap2 a0.f4.length cp2] 31, .box g4 [.string (⟨#[]⟩ : ByteArray), .int .i64 0, .slice none 0 0, .slice none 0 0, .slice none 0 0] 31, .own (Zd.slice 89 q89) t5.f2 [.slice B6 t5.f2.length d6], .own (Zd.slice 150 q150) t5.f3 [.slice B7 t5.f3.length d7], .own (Zd.slice 3 (Zd.int .i64)) l98 [.slice B99 l98.length d99], .box g6 [.string t5.f0, .int .i64 (wrap64 (t5.f1 + a1)), .slice B101 l100.length d101, .slice B7 t5.f3.length d7, .slice B99 l98.length d99] 31, .own (Zd.slice 89 q89) l100 [.slice B101 l100.length d101], .box g8 [.int .i64 ((rd_T89 a0.f2 x102).f0), .int .i64 ((rd_T89 a0.f2 x102).f1), .string ((rd_T89 a0.f2 x102).f2), .int .i64 ((rd_T89 a0.f2 x102).f3)] 89, .own (Zd.slice 89 q89) ([(rd_T89 a0.f2 x102)] : List S89) [.slice B120 1 d120]] := HS; have F := HS.boxes; simp only [boxFacts, and_true] at F) | ((with_reducible refine gate_dst (N := 56) rfl ?_); refine ev_append rfl q89 6 8 HS rfl rfl (by decide) rfl rfl rfl Try.underlying28 info89 rfl (by decide) (by decide) (by have := of_eq_true c122; first | omega | (simp only [List.length_cons, List.length_nil, List.length_append, Nat.zero_add] at this ⊢; omega)) ?_; clear HS; (try clear F); intro v123 w123 HS; rw [← e_y123.out] at HS; obtain ⟨B123, d123, rfl, m123⟩ := HS.form 9 rfl; replace HS : Hp noFP w _ [.box g2 [.string a0.f0, .int .i64 a0.f1, .slice (some ad107) a0.f2.length cp0, .slice Ap1 a0.f3.length cp1, .slice Ap2 a0.f4.length cp2] 31, .box g4 [.string (⟨#[]⟩ : ByteArray), .int .i64 0, .slice none 0 0, .slice none 0 0, .slice none 0 0] 31, .own (Zd.slice 89 q89) t5.f2 [.slice B6 t5.f2.length d6], .own (Zd.slice 150 q150) t5.f3 [.slice B7 t5.f3.length d7], .own (Zd.slice 3 (Zd.int .i64)) l98 [.slice B99 l98.length d99], .box g6 [.string t5.f0, .int .i64 (wrap64 (t5.f1 + a1)), .slice B101 l100.length d101, .slice B7 t5.f3.length d7, .slice B99 l98.length d99] 31, .emp, .box g8 [.int .i64 ((rd_T89 a0.f2 x102).f0), .int .i64 ((rd_T89 a0.f2 x102).f1), .string ((rd_T89 a0.f2 x102).f2), .int .i64 ((rd_T89 a0.f2 x102).f3)] 89, .emp, .own (Zd.slice 89 q89) y123 [.slice B123 y123.length d123]] := HS; have F := HS.boxes; simp only [boxFacts, and_true] at F) | ((with_reducible refine gate_store (p := 57) rfl ?_); refine ev_store rfl 5 2 HS (seg := [.slice B123 y123.length d123]) rfl rfl rfl rfl rfl rfl (by kernel_rfl) (by simp [wrt]) (by simp [Value.oneCell']) ?_; clear HS; (try clear F); intro w125 HS; replace HS : Hp noFP w _ [.box g2 [.string a0.f0, .int .i64 a0.f1, .slice (some ad107) a0.f2.length cp0, .slice Ap1 a0.f3.length cp1, .slice Ap2 a0.f4.length cp2] 31, .box g4 [.string (⟨#[]⟩ : ByteArray), .int .i64 0, .slice none 0 0, .slice none 0 0, .slice none 0 0] 31, .own (Zd.slice 89 q89) t5.f2 [.slice B6 t5.f2.length d6], .own (Zd.slice 150 q150) t5.f3 [.slice B7 t5.f3.length d7], .own (Zd.slice 3 (Zd.int .i64)) l98 [.slice B99 l98.length d99], .box g6 [.string t5.f0, .int .i64 (wrap64 (t5.f1 + a1)), .slice B123 y123.length d123, .slice B7 t5.f3.length d7, .slice B99 l98.length d99] 31, .emp, .box g8 [.int .i64 ((rd_T89 a0.f2 x102).f0), .int .i64 ((rd_T89 a0.f2 x102).f1), .string ((rd_T89 a0.f2 x102).f2), .int .i64 ((rd_T89 a0.f2 x102).f3)] 89, .emp, .own (Zd.slice 89 q89) y123 [.slice B123 y123.length d123]] := HS; have F := HS.boxes; simp only [boxFacts, and_true] at F))
             go_roundg k97
             case measure => have := HKk97.out; omega
             case rel => exact ⟨_, _, _, _, _, rfl, H, ⟨by have := HKk97.out; omega⟩, HS.pick [0, 1, 2, 3, 4, 5, 9] (by decide) (by rfl)⟩
         · replace H := zneg c104 H
           replace c104 := eq_false c104
           obtain ⟨rfl, rfl⟩ := zsome2 H
           go_wp2_with (first | ((with_reducible refine gate_store (p := 4) rfl ?_); refine ev_store rfl 1 0 HS (seg := [.string t5.f0, .int .i64 (wrap64 (t5.f1 + a1)), .slice B101 l100.length d101, .slice B7 t5.f3.length d7, .slice B99 l98.length d99]) rfl rfl rfl rfl rfl rfl (by kernel_rfl) (by simp [wrt]) (by simp [Value.oneCell']) ?_; clear HS; (try clear F); intro w127 HS; replace HS : Hp noFP w _ [.box g2 [.string a0.f0, .int .i64 a0.f1, .slice Ap0 a0.f2.length cp0, .slice Ap1 a0.f3.length cp1, .slice Ap2 a0.f4.length cp2] 31, .box g4 [.string t5.f0, .int .i64 (wrap64 (t5.f1 + a1)), .slice B101 l100.length d101, .slice B7 t5.f3.length d7, .slice B99 l98.length d99] 31, .own (Zd.slice 89 q89) t5.f2 [.slice B6 t5.f2.length d6], .own (Zd.slice 150 q150) t5.f3 [.slice B7 t5.f3.length d7], .own (Zd.slice 3 (Zd.int .i64)) l98 [.slice B99 l98.length d99], .box g6 [.string t5.f0, .int .i64 (wrap64 (t5.f1 + a1)), .slice B101 l100.length d101, .slice B7 t5.f3.length d7, .slice B99 l98.length d99] 31, .own (Zd.slice 89 q89) l100 [.slice B101 l100.length d101]] := HS; have F := HS.boxes; simp only [boxFacts, and_true] at F))
           exact bodyPost_ret (results_list (rs := [.cell 4 31, .tmp 5]) rfl (by simp) (.cell _ _ _ _ _ rfl (HS.boxAt (i := 1) rfl) Try.underlying31 rfl (by kernel_rfl) (.tmp .nil))) rfl ⟨_, _, _, rfl, HS.pick [6, 3, 4] (by decide) (by rfl)⟩
/-! ### laws_eqWait: function 108 -/
def laws_eqWait.f (a0 : S89) (a1 : S89) : Option (Bool) := (if a0.f0 = a1.f0 then (if a0.f1 = a1.f1 then (if a0.f2.toList = a1.f2.toList then (if a0.f3 = a1.f3 then (some true) else (some false)) else (some false)) else (some false)) else (some false))
set_option maxHeartbeats 16000000 in
theorem laws_eqWait.calls {a0 : S89} {a1 : S89} {r : Bool} {w : World} (h : laws_eqWait.f a0 a1 = some r) :
    Calls Try.prog 108 #[.agg #[.int .i64 a0.f0, .int .i64 a0.f1, .string a0.f2, .int .i64 a0.f3], .agg #[.int .i64 a1.f0, .int .i64 a1.f1, .string a1.f2, .int .i64 a1.f3]] w (fun e w' => e = .returned (.bool r) ∧ Hp noFP w w' []) := by
 have HS := Hp.start w
 have H := Aside0.mk h
 clear h
 unfold laws_eqWait.f at H
 go_enter Try.func108, Try.ntmps108
 go_upto_if 9 with (first | ((with_reducible refine gate_dst (N := 2) rfl ?_); refine ev_box rfl HS (by first | (go_simp; done) | (go_simp; rfl)) rfl ?_; clear HS; (try clear F); intro g2 w2 HS; replace HS : Hp noFP w _ [.box g2 [.int .i64 a0.f0, .int .i64 a0.f1, .string a0.f2, .int .i64 a0.f3] 89] := HS; have F := HS.boxes; simp only [boxFacts, and_true] at F) | ((with_reducible refine gate_dst (N := 3) rfl ?_); refine ev_box rfl HS (by first | (go_simp; done) | (go_simp; rfl)) rfl ?_; clear HS; (try clear F); intro g3 w3 HS; replace HS : Hp noFP w _ [.box g2 [.int .i64 a0.f0, .int .i64 a0.f1, .string a0.f2, .int .i64 a0.f3] 89, .box g3 [.int .i64 a1.f0, .int .i64 a1.f1, .string a1.f2, .int .i64 a1.f3] 89] := HS; have F := HS.boxes; simp only [boxFacts, and_true] at F))
 by_cases c5 : a0.f0 = a1.f0
 · replace H := zpos c5 H
   have c5a := beq_iff_eq.mpr c5
   have c5b := bne_eq_false_iff_eq.mpr c5
   clear c5
   (try simp only [c5a, c5b, decide_true, decide_false, Bool.not_true, Bool.not_false])
   by_cases c6 : a0.f1 = a1.f1
   · replace H := zpos c6 H
     have c6a := beq_iff_eq.mpr c6
     have c6b := bne_eq_false_iff_eq.mpr c6
     clear c6
     by_cases c7 : a0.f2.toList = a1.f2.toList
     · replace H := zpos c7 H
       have c7a := beq_iff_eq.mpr c7
       have c7b := bne_eq_false_iff_eq.mpr c7
       clear c7
       by_cases c8 : a0.f3 = a1.f3
       · replace H := zpos c8 H
         have c8a := beq_iff_eq.mpr c8
         have c8b := bne_eq_false_iff_eq.mpr c8
         clear c8
         obtain rfl := zsome H
         go_wp2
         go_ret
         exact ⟨rfl, HS.pick [] (by decide) (by rfl)⟩
       · replace H := zneg c8 H
         have c8a := beq_eq_false_iff_ne.mpr c8
         have c8b := bne_iff_ne.mpr c8
         clear c8
         obtain rfl := zsome H
         go_wp2
         go_ret
         exact ⟨rfl, HS.pick [] (by decide) (by rfl)⟩
     · replace H := zneg c7 H
       have c7a := beq_eq_false_iff_ne.mpr c7
       have c7b := bne_iff_ne.mpr c7
       clear c7
       obtain rfl := zsome H
       go_wp2
       go_ret
       exact ⟨rfl, HS.pick [] (by decide) (by rfl)⟩
   · replace H := zneg c6 H
     have c6a := beq_eq_false_iff_ne.mpr c6
     have c6b := bne_iff_ne.mpr c6
     clear c6
     obtain rfl := zsome H
     go_wp2
     go_ret
     exact ⟨rfl, HS.pick [] (by decide) (by rfl)⟩
 · replace H := zneg c5 H
   have c5a := beq_eq_false_iff_ne.mpr c5
   have c5b := bne_iff_ne.mpr c5
   clear c5
   (try simp only [c5a, c5b, decide_true, decide_false, Bool.not_true, Bool.not_false])
   obtain rfl := zsome H
   go_wp2
   go_ret
   exact ⟨rfl, HS.pick [] (by decide) (by rfl)⟩
/-! ### laws_eqWaitS: function 44 -/
def laws_eqWaitS.l0 : Nat → Int → (List S89) → (List S89) → Option (Bool)
  | 0, _, _, _ => none
  | k + 1, x5, a0, a1 => (if x5 < (a0.length : Int) then (if 0 ≤ x5 then (if x5 < (a0.length : Int) then (if x5 < (a1.length : Int) then ((laws_eqWait.f (rd_T89 a0 x5) (rd_T89 a1 x5)).bind fun t108001 => (if t108001 = true then (laws_eqWaitS.l0 k (wrap64 (x5 + 1)) a0 a1) else (some false))) else none) else none) else none) else (some true))
def laws_eqWaitS.f (k : Nat) (a0 : (List S89)) (a1 : (List S89)) : Option (Bool) := (if (a0.length : Int) = (a1.length : Int) then (laws_eqWaitS.l0 k 0 a0 a1) else (some false))
def laws_eqWaitS.T6 : Bool × List (List Nat × List Nat) := (true, [([], []), ([], []), ([0, 1], [0, 1]), ([2], [2]), ([], []), ([], []), ([4, 5], [4, 5]), ([6], [6]), ([3, 7], [3, 7]), ([8], [8])])
theorem laws_eqWaitS.tT6 : rtab .any (opsOf Try.f44 6) = laws_eqWaitS.T6 := by kernel_rfl
set_option maxHeartbeats 16000000 in
theorem laws_eqWaitS.calls {k : Nat} {a0 : (List S89)} {a1 : (List S89)} {Ap0 : Option Addr} {np0 cp0 : Nat} {Ap1 : Option Addr} {np1 cp1 : Nat} {r : Bool} {w : World} (h : laws_eqWaitS.f k a0 a1 = some r) (gp0 : k89.C w Ap0 np0 a0) (lp0 : np0 ≤ cp0) (gp1 : k89.C w Ap1 np1 a1) (lp1 : np1 ≤ cp1) :
    Calls Try.prog 44 #[.slice Ap0 np0 cp0, .slice Ap1 np1 cp1] w (fun e w' => e = .returned (.bool r) ∧ Hp noFP w w' []) := by
 obtain rfl := C_len gp0
 obtain rfl := C_len gp1
 have HS := Hp.start w
 have H := Aside0.mk h
 clear h
 unfold laws_eqWaitS.f at H
 go_enter Try.func44, Try.ntmps44
 by_cases c1 : (a0.length : Int) = (a1.length : Int)
 · replace H := zpos c1 H
   have c1a := beq_iff_eq.mpr c1
   have c1b := bne_eq_false_iff_eq.mpr c1
   clear c1
   go_wp2
   go_loopg [5] k (fun kq v_5 w' => ∃ (x5 : Int), v_5 = .int .i64 x5 ∧ Aside0 (laws_eqWaitS.l0 kq x5 a0 a1 = some r) ∧ Aside0 (kq ≤ k) ∧ Hp noFP w w' [])
   case atStart => exact ⟨_, rfl, H, ⟨Nat.le_refl _⟩, HS⟩
   case round =>
    clear HS H; (try clear F)
    obtain ⟨x5, rfl, H, HKk4, HS⟩ := hrel
    cases gk with
    | zero => exact absurd H.out (by simp [laws_eqWaitS.l0])
    | succ k4 =>
     simp only [laws_eqWaitS.l0] at H
     by_cases c7 : x5 < (a0.length : Int)
     · replace H := zpos c7 H
       replace c7 := eq_true c7
       (try go_wp2)
       by_cases c102001 : 0 ≤ x5
       case neg => exact zno c102001 H
       replace H := zpos c102001 H
       replace c102001 := eq_true c102001
       by_cases c102002 : x5 < (a0.length : Int)
       case neg => exact zno c102002 H
       replace H := zpos c102002 H
       replace c102002 := eq_true c102002
       obtain ⟨ad102999, rfl, e102999_0, e102999_1, e102999_2, e102999_3⟩ := at_T89 gp0 x5 (of_eq_true c102001) (of_eq_true c102002)
       by_cases c106001 : x5 < (a1.length : Int)
       case neg => exact zno c106001 H
       replace H := zpos c106001 H
       replace c106001 := eq_true c106001
       obtain ⟨ad106999, rfl, e106999_0, e106999_1, e106999_2, e106999_3⟩ := at_T89 gp1 x5 (of_eq_true c102001) (of_eq_true c106001)
       replace H := zbind H; obtain ⟨t108001, ht108001, H⟩ := H
       refine dr_start [] HS #[false, false, false, false, false, false, false, false, false, false] (by kernel_rfl) rfl rfl laws_eqWaitS.tT6 (fun w9 HT HS HH => ?_)
       (try clear F)
       refine drq_of [(0, some 17), (1, some 18), (2, some 19)] ?_
       repeat (first | (refine drq_pure HT (v := ?_) (a' := ?_) rfl rfl (by kernel_rfl) (fun _ _ _ h => h) (.inl ⟨by rfl, ?_⟩) ?_ ?_; rotate_left; (intro w'; go_simp; with_reducible rfl); rotate_left; (simp only [Act.put, List.setIfInBounds_toArray, List.set_cons_zero, List.set_cons_succ, i64_w, i32_w]; rfl)))
       refine drq_end ?_
       refine dr_take 3 (some 20) HT HH (v := ?_) (a' := ?_) rfl rfl (by kernel_rfl) (fun _ _ _ h => h) (.inl ⟨by rfl, ?_⟩) ?_ ?_
       rotate_left
       · rintro w' ⟨rs', HS'⟩; have e102999_0 := (HS'.keepc e102999_0); have e102999_1 := (HS'.keepc e102999_1); have e102999_2 := (HS'.keepc e102999_2); have e102999_3 := (HS'.keepc e102999_3); go_simp; with_reducible rfl
       rotate_left
       · simp only [Act.put, List.setIfInBounds_toArray, List.set_cons_zero, List.set_cons_succ, i64_w, i32_w]; rfl
       refine drq_of [(4, some 21), (5, some 22), (6, some 23)] ?_
       repeat (first | (refine drq_pure HT (v := ?_) (a' := ?_) rfl rfl (by kernel_rfl) (fun _ _ _ h => h) (.inl ⟨by rfl, ?_⟩) ?_ ?_; rotate_left; (intro w'; go_simp; with_reducible rfl); rotate_left; (simp only [Act.put, List.setIfInBounds_toArray, List.set_cons_zero, List.set_cons_succ, i64_w, i32_w]; rfl)))
       refine drq_end ?_
       refine dr_take 7 (some 24) HT HH (v := ?_) (a' := ?_) rfl rfl (by kernel_rfl) (fun _ _ _ h => h) (.inl ⟨by rfl, ?_⟩) ?_ ?_
       rotate_left
       · rintro w' ⟨rs', HS'⟩; have e106999_0 := (HS'.keepc e106999_0); have e106999_1 := (HS'.keepc e106999_1); have e106999_2 := (HS'.keepc e106999_2); have e106999_3 := (HS'.keepc e106999_3); go_simp; with_reducible rfl
       rotate_left
       · simp only [Act.put, List.setIfInBounds_toArray, List.set_cons_zero, List.set_cons_succ, i64_w, i32_w]; rfl
       refine dr_one 8 HT rfl (by kernel_rfl) (by decide) (fun K hK => ?_)
       refine goes_ Try.func108 (by kernel_rfl) rfl #[.agg #[.int .i64 ((rd_T89 a0 x5).f0), .int .i64 ((rd_T89 a0 x5).f1), .string ((rd_T89 a0 x5).f2), .int .i64 ((rd_T89 a0 x5).f3)], .agg #[.int .i64 ((rd_T89 a1 x5).f0), .int .i64 ((rd_T89 a1 x5).f1), .string ((rd_T89 a1 x5).f2), .int .i64 ((rd_T89 a1 x5).f3)]] (by rfl) rfl rfl (by simp only [List.map_toArray, List.map_cons, List.map_nil]; rfl) ?_; refine (laws_eqWait.calls ht108001.out).mono ?_; rintro _ wt108001 ⟨rfl, HQ⟩; refine ⟨_, rfl, ?_⟩; replace HS := HS.call HQ; clear HQ; (try clear F)
       replace HS : Hp noFP w _ [] := HS
       refine hK.out _ _ ⟨_, HS⟩ (fun HH => ?_)
       clear hK K
       refine norm_ (a' := ?_) ?_ ?_
       rotate_left
       · show Act.put _ (some 25) _ = _; simp only [Act.put, List.setIfInBounds_toArray, List.set_cons_zero, List.set_cons_succ, i64_w, i32_w]; rfl
       refine drq_of [(9, some 26)] ?_
       repeat (first | (refine drq_pure HT (v := ?_) (a' := ?_) rfl rfl (by kernel_rfl) (fun _ _ _ h => h) (.inl ⟨by rfl, ?_⟩) ?_ ?_; rotate_left; (intro w'; go_simp; with_reducible rfl); rotate_left; (simp only [Act.put, List.setIfInBounds_toArray, List.set_cons_zero, List.set_cons_succ, i64_w, i32_w]; rfl)))
       refine drq_end ?_
       refine done_ (done_of HT.out (by kernel_rfl)) ?_
       by_cases c11 : t108001 = true
       · replace H := zpos c11 H
         subst c11
         (try simp only [decide_true, decide_false, Bool.not_true, Bool.not_false, if_true, Bool.false_eq_true, if_false])
         go_wp2
         go_roundg k4
         case measure => have := HKk4.out; omega
         case rel => exact ⟨_, rfl, H, ⟨by have := HKk4.out; omega⟩, HS.pick [] (by decide) (by rfl)⟩
       · replace H := zneg c11 H
         replace c11 := eq_false_of_ne_true c11
         subst c11
         (try simp only [decide_true, decide_false, Bool.not_true, Bool.not_false, if_true, Bool.false_eq_true, if_false])
         obtain rfl := zsome H
         go_wp2
         go_ret
         exact ⟨rfl, HS.pick [] (by decide) (by rfl)⟩
     · replace H := zneg c7 H
       replace c7 := eq_false c7
       obtain rfl := zsome H
       go_wp2
       go_ret
       exact ⟨rfl, HS.pick [] (by decide) (by rfl)⟩
 · replace H := zneg c1 H
   have c1a := beq_eq_false_iff_ne.mpr c1
   have c1b := bne_iff_ne.mpr c1
   clear c1
   obtain rfl := zsome H
   go_wp2
   go_ret
   exact ⟨rfl, HS.pick [] (by decide) (by rfl)⟩
end Go.Proofs.Ytoaoncnbimcdgaa.F
