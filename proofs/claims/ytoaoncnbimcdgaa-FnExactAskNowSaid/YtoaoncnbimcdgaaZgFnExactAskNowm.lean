/- Functions of the program and of the law, and that their calls do what is written here. -/
import Derived.Test.YtoaoncnbimcdgaaZgFnExactAskNowa
import Derived.Test.YtoaoncnbimcdgaaZgFnExactAskNowb
import Derived.Test.YtoaoncnbimcdgaaZgFnExactAskNowh
import Derived.Test.YtoaoncnbimcdgaaZgFnExactAskNowl
namespace Go.Proofs.Ytoaoncnbimcdgaa.F
open Go.RowKit Go.Proofs.YtoaoncnbimcdgaaW.PrintWords Go.Proofs.YtoaoncnbimcdgaaW.PrintLast Go.Proofs.YtoaoncnbimcdgaaW.PrintMore Go.Proofs.Ytoaoncnbimcdgaa.Z
attribute [local go_sem] max2_int min2_int max_two min_two max_three min_three max_four min_four
set_option linter.unusedVariables false
set_option linter.unusedSimpArgs false
set_option maxRecDepth 100000
/-! ### impl_AskNow: function 33 -/
def impl_AskNow.f (k : Nat) (a0 : S31) (a1 : S79) (a2 : Int) (a3 : Int) : Option (S31 × ByteArray × Bool) := ((impl_copyClient.f k a0).bind fun t9 => ((impl_Wait_95_0.f k a0.f2 a2).bind fun t18 => ((impl_Got_97_0.f k a0.f3 a2).bind fun t20 => ((impl_within.f a2 1 1000000000).bind fun t22 => (if t22 = true then (if t18 = true then (some ((⟨t9.f0, t9.f1, t9.f2, t9.f3, t9.f4⟩ : S31), (⟨#[]⟩ : ByteArray), false)) else (if t20 = true then (some ((⟨t9.f0, t9.f1, t9.f2, t9.f3, t9.f4⟩ : S31), (⟨#[]⟩ : ByteArray), false)) else (if 4 ≤ (a0.f2.length : Int) then (some ((⟨t9.f0, t9.f1, t9.f2, t9.f3, t9.f4⟩ : S31), (⟨#[]⟩ : ByteArray), false)) else ((impl_within.f a3 1 999).bind fun t34 => (if t34 = true then ((impl_within.f a0.f1 0 99999).bind fun t37 => (if t37 = true then (if a1.f5 = true then ((impl_AskText.f k (⟨a1.f0, a1.f1, a1.f2, 0, a1.f4, true⟩ : S79)).bind fun t45 => (if t45.2 = true then (if t9.f2.length + 1 ≤ 3518437208883 then (lets (t9.f2 ++ ([(⟨a2, 0, t45.1, (wrap64 (a0.f1 + a3))⟩ : S89)] : List S89)) fun y51 => (some ((⟨t9.f0, t9.f1, y51, t9.f3, t9.f4⟩ : S31), t45.1, true))) else none) else (some ((⟨t9.f0, t9.f1, t9.f2, t9.f3, t9.f4⟩ : S31), (⟨#[]⟩ : ByteArray), false)))) else ((impl_AskText.f k (⟨a1.f0, a1.f1, a1.f2, a2, a1.f4, false⟩ : S79)).bind fun t59 => (if t59.2 = true then (if t9.f2.length + 1 ≤ 3518437208883 then (lets (t9.f2 ++ ([(⟨a2, a2, t59.1, (wrap64 (a0.f1 + a3))⟩ : S89)] : List S89)) fun y65 => (some ((⟨t9.f0, t9.f1, y65, t9.f3, t9.f4⟩ : S31), t59.1, true))) else none) else (some ((⟨t9.f0, t9.f1, t9.f2, t9.f3, t9.f4⟩ : S31), (⟨#[]⟩ : ByteArray), false))))) else (some ((⟨t9.f0, t9.f1, t9.f2, t9.f3, t9.f4⟩ : S31), (⟨#[]⟩ : ByteArray), false)))) else (some ((⟨t9.f0, t9.f1, t9.f2, t9.f3, t9.f4⟩ : S31), (⟨#[]⟩ : ByteArray), false))))))) else (some ((⟨t9.f0, t9.f1, t9.f2, t9.f3, t9.f4⟩ : S31), (⟨#[]⟩ : ByteArray), false)))))))
set_option maxHeartbeats 16000000 in
theorem impl_AskNow.calls {k : Nat} {a0 : S31} {a1 : S79} {a2 : Int} {a3 : Int} {Ap0 : Option Addr} {np0 cp0 : Nat} {Ap1 : Option Addr} {np1 cp1 : Nat} {Ap2 : Option Addr} {np2 cp2 : Nat} {Ap3 : Option Addr} {np3 cp3 : Nat} {r1 : S31} {r2 : ByteArray} {r3 : Bool} {w : World} (h : impl_AskNow.f k a0 a1 a2 a3 = some (r1, r2, r3)) (gp0 : k89.C w Ap0 np0 a0.f2) (lp0 : np0 ≤ cp0) (gp1 : k150.C w Ap1 np1 a0.f3) (lp1 : np1 ≤ cp1) (gp2 : (Kd.int .i64).C w Ap2 np2 a0.f4) (lp2 : np2 ≤ cp2) (gp3 : Kd.string.C w Ap3 np3 a1.f0) (lp3 : np3 ≤ cp3) :
    Calls Try.prog 33 #[.agg #[.string a0.f0, .int .i64 a0.f1, .slice Ap0 np0 cp0, .slice Ap1 np1 cp1, .slice Ap2 np2 cp2], .agg #[.slice Ap3 np3 cp3, .int .i64 a1.f1, .int .i64 a1.f2, .int .i64 a1.f3, .int .i64 a1.f4, .bool a1.f5], .int .i64 a2, .int .i64 a3] w (fun e w' => ∃ v0_ v1_ v2_ : Value, e = .returned (.tuple #[.agg #[.string r1.f0, .int .i64 r1.f1, v0_, v1_, v2_], .string r2, .bool r3]) ∧ Hp noFP w w' [.own (Zd.slice 89 q89) r1.f2 [v0_], .own (Zd.slice 150 q150) r1.f3 [v1_], .own (Zd.slice 3 (Zd.int .i64)) r1.f4 [v2_]]) := by
 obtain rfl := C_len gp0
 obtain rfl := C_len gp1
 obtain rfl := C_len gp2
 obtain rfl := C_len gp3
 have HS := Hp.start w
 have H := Aside0.mk h
 clear h
 unfold impl_AskNow.f at H
 go_enter Try.func33, Try.ntmps33
 replace H := zbind H; obtain ⟨t9, ht9, H⟩ := H
 replace H := zbind H; obtain ⟨t18, ht18, H⟩ := H
 replace H := zbind H; obtain ⟨t20, ht20, H⟩ := H
 replace H := zbind H; obtain ⟨t22, ht22, H⟩ := H
 by_cases c24 : t22 = true
 · replace H := zpos c24 H
   subst c24
   by_cases c25 : t18 = true
   · replace H := zpos c25 H
     subst c25
     obtain ⟨rfl, rfl, rfl⟩ := zsome3 H
     go_wp2_with (first | ((with_reducible refine gate_dst (N := 4) rfl ?_); refine ev_box rfl HS (by first | (go_simp; done) | (go_simp; rfl)) rfl ?_; clear HS; (try clear F); intro g4 w4 HS; (try simp only [hpn, hpm] at HS); have F := HS.boxes; simp only [boxFacts, and_true] at F) | ((with_reducible refine gate_dst (N := 5) rfl ?_); refine ev_box rfl HS (by first | (go_simp; done) | (go_simp; rfl)) rfl ?_; clear HS; (try clear F); intro g5 w5 HS; (try simp only [hpn, hpm] at HS); have F := HS.boxes; simp only [boxFacts, and_true] at F) | ((with_reducible refine gate_dst (N := 6) rfl ?_); refine ev_box rfl HS (by first | (go_simp; done) | (go_simp; rfl)) rfl ?_; clear HS; (try clear F); intro g6 w6 HS; (try simp only [hpn, hpm] at HS); have F := HS.boxes; simp only [boxFacts, and_true] at F) | ((with_reducible refine gate_dst (N := 8) rfl ?_); refine ev_box rfl HS (by first | (go_simp; done) | (go_simp; rfl)) rfl ?_; clear HS; (try clear F); intro g8 w8 HS; (try simp only [hpn, hpm] at HS); have F := HS.boxes; simp only [boxFacts, and_true] at F) | ((with_reducible refine gate_dst (N := 17) rfl ?_); refine ev_call rfl Try.func43 (by kernel_rfl) rfl #[.agg #[.string a0.f0, .int .i64 a0.f1, .slice Ap0 a0.f2.length cp0, .slice Ap1 a0.f3.length cp1, .slice Ap2 a0.f4.length cp2]] rfl (by simp only [List.map_toArray, List.map_cons, List.map_nil]; rfl) ?_; refine (impl_copyClient.calls ht9.out (HS.ro gp0) lp0 (HS.ro gp1) lp1 (HS.ro gp2) lp2).mono ?_; rintro _ wt9 ⟨v10, v11, v12, rfl, HQ⟩; refine ⟨_, rfl, ?_⟩; replace HS := HS.call HQ; clear HQ; (try clear F); obtain ⟨B10, d10, rfl, m10⟩ := HS.form 4 rfl; obtain ⟨B11, d11, rfl, m11⟩ := HS.form 5 rfl; obtain ⟨B12, d12, rfl, m12⟩ := HS.form 6 rfl; (try simp only [hpn, hpm] at HS); have F := HS.boxes; simp only [boxFacts, and_true] at F) | ((with_reducible refine gate_dst (N := 11) rfl ?_); refine ev_box rfl HS (by first | (go_simp; done) | (go_simp; rfl)) rfl ?_; clear HS; (try clear F); intro g11 w11 HS; (try simp only [hpn, hpm] at HS); have F := HS.boxes; simp only [boxFacts, and_true] at F) | ((with_reducible refine gate_store (p := 11) rfl ?_); refine ev_store rfl 7 0 HS (seg := [.string t9.f0, .int .i64 t9.f1, .slice B10 t9.f2.length d10, .slice B11 t9.f3.length d11, .slice B12 t9.f4.length d12]) rfl rfl rfl rfl rfl rfl (by kernel_rfl) (by simp [wrt]) (by simp [Value.oneCell']) ?_; clear HS; (try clear F); intro w16 HS; (try simp only [hpn, hpm] at HS); have F := HS.boxes; simp only [boxFacts, and_true] at F) | ((with_reducible refine gate_dst (N := 21) rfl ?_); refine ev_call rfl Try.func95 (by kernel_rfl) rfl #[.slice Ap0 a0.f2.length cp0, .func (.func 96) #[] #[.pointer (some ⟨g6, 0, none⟩)]] rfl (by simp only [List.map_toArray, List.map_cons, List.map_nil]; rfl) ?_; refine (impl_Wait_95_0.calls ht18.out (HS.ro gp0) lp0 (HS.cellAt 2 rfl (j := 0) rfl)).mono ?_; rintro _ wt18 ⟨rfl, HQ⟩; refine ⟨_, rfl, ?_⟩; replace HS := HS.call HQ; clear HQ; (try clear F); (try simp only [hpn, hpm] at HS); have F := HS.boxes; simp only [boxFacts, and_true] at F) | ((with_reducible refine gate_dst (N := 25) rfl ?_); refine ev_call rfl Try.func97 (by kernel_rfl) rfl #[.slice Ap1 a0.f3.length cp1, .func (.func 98) #[] #[.pointer (some ⟨g6, 0, none⟩)]] rfl (by simp only [List.map_toArray, List.map_cons, List.map_nil]; rfl) ?_; refine (impl_Got_97_0.calls ht20.out (HS.ro gp1) lp1 (HS.cellAt 2 rfl (j := 0) rfl)).mono ?_; rintro _ wt20 ⟨rfl, HQ⟩; refine ⟨_, rfl, ?_⟩; replace HS := HS.call HQ; clear HQ; (try clear F); (try simp only [hpn, hpm] at HS); have F := HS.boxes; simp only [boxFacts, and_true] at F) | ((with_reducible refine gate_dst (N := 27) rfl ?_); refine ev_call rfl Try.func78 (by kernel_rfl) rfl #[.int .i64 a2, .int .i64 1, .int .i64 1000000000] rfl (by simp only [List.map_toArray, List.map_cons, List.map_nil]; rfl) ?_; refine (impl_within.calls ht22.out).mono ?_; rintro _ wt22 ⟨rfl, HQ⟩; refine ⟨_, rfl, ?_⟩; replace HS := HS.call HQ; clear HQ; (try clear F); (try simp only [hpn, hpm] at HS); have F := HS.boxes; simp only [boxFacts, and_true] at F) | ((with_reducible refine gate_store (p := 8) rfl ?_); refine ev_store rfl 3 0 HS (seg := [.string t9.f0, .int .i64 t9.f1, .slice B10 t9.f2.length d10, .slice B11 t9.f3.length d11, .slice B12 t9.f4.length d12]) rfl rfl rfl rfl rfl rfl (by kernel_rfl) (by simp [wrt]) (by simp [Value.oneCell']) ?_; clear HS; (try clear F); intro w26 HS; (try simp only [hpn, hpm] at HS); have F := HS.boxes; simp only [boxFacts, and_true] at F))
     exact bodyPost_ret (results_list (rs := [.cell 8 31, .tmp 9, .tmp 10]) rfl (by simp) (.cell _ _ _ _ _ rfl (HS.boxAt (i := 3) rfl) Try.underlying31 rfl (by kernel_rfl) (.tmp (.tmp .nil)))) rfl ⟨_, _, _, rfl, HS.pick [4, 5, 6] (by decide) (by rfl)⟩
   · replace H := zneg c25 H
     replace c25 := eq_false_of_ne_true c25
     subst c25
     by_cases c28 : t20 = true
     · replace H := zpos c28 H
       subst c28
       obtain ⟨rfl, rfl, rfl⟩ := zsome3 H
       go_wp2_with (first | ((with_reducible refine gate_dst (N := 4) rfl ?_); refine ev_box rfl HS (by first | (go_simp; done) | (go_simp; rfl)) rfl ?_; clear HS; (try clear F); intro g4 w4 HS; (try simp only [hpn, hpm] at HS); have F := HS.boxes; simp only [boxFacts, and_true] at F) | ((with_reducible refine gate_dst (N := 5) rfl ?_); refine ev_box rfl HS (by first | (go_simp; done) | (go_simp; rfl)) rfl ?_; clear HS; (try clear F); intro g5 w5 HS; (try simp only [hpn, hpm] at HS); have F := HS.boxes; simp only [boxFacts, and_true] at F) | ((with_reducible refine gate_dst (N := 6) rfl ?_); refine ev_box rfl HS (by first | (go_simp; done) | (go_simp; rfl)) rfl ?_; clear HS; (try clear F); intro g6 w6 HS; (try simp only [hpn, hpm] at HS); have F := HS.boxes; simp only [boxFacts, and_true] at F) | ((with_reducible refine gate_dst (N := 8) rfl ?_); refine ev_box rfl HS (by first | (go_simp; done) | (go_simp; rfl)) rfl ?_; clear HS; (try clear F); intro g8 w8 HS; (try simp only [hpn, hpm] at HS); have F := HS.boxes; simp only [boxFacts, and_true] at F) | ((with_reducible refine gate_dst (N := 17) rfl ?_); refine ev_call rfl Try.func43 (by kernel_rfl) rfl #[.agg #[.string a0.f0, .int .i64 a0.f1, .slice Ap0 a0.f2.length cp0, .slice Ap1 a0.f3.length cp1, .slice Ap2 a0.f4.length cp2]] rfl (by simp only [List.map_toArray, List.map_cons, List.map_nil]; rfl) ?_; refine (impl_copyClient.calls ht9.out (HS.ro gp0) lp0 (HS.ro gp1) lp1 (HS.ro gp2) lp2).mono ?_; rintro _ wt9 ⟨v10, v11, v12, rfl, HQ⟩; refine ⟨_, rfl, ?_⟩; replace HS := HS.call HQ; clear HQ; (try clear F); obtain ⟨B10, d10, rfl, m10⟩ := HS.form 4 rfl; obtain ⟨B11, d11, rfl, m11⟩ := HS.form 5 rfl; obtain ⟨B12, d12, rfl, m12⟩ := HS.form 6 rfl; (try simp only [hpn, hpm] at HS); have F := HS.boxes; simp only [boxFacts, and_true] at F) | ((with_reducible refine gate_dst (N := 11) rfl ?_); refine ev_box rfl HS (by first | (go_simp; done) | (go_simp; rfl)) rfl ?_; clear HS; (try clear F); intro g11 w11 HS; (try simp only [hpn, hpm] at HS); have F := HS.boxes; simp only [boxFacts, and_true] at F) | ((with_reducible refine gate_store (p := 11) rfl ?_); refine ev_store rfl 7 0 HS (seg := [.string t9.f0, .int .i64 t9.f1, .slice B10 t9.f2.length d10, .slice B11 t9.f3.length d11, .slice B12 t9.f4.length d12]) rfl rfl rfl rfl rfl rfl (by kernel_rfl) (by simp [wrt]) (by simp [Value.oneCell']) ?_; clear HS; (try clear F); intro w16 HS; (try simp only [hpn, hpm] at HS); have F := HS.boxes; simp only [boxFacts, and_true] at F) | ((with_reducible refine gate_dst (N := 21) rfl ?_); refine ev_call rfl Try.func95 (by kernel_rfl) rfl #[.slice Ap0 a0.f2.length cp0, .func (.func 96) #[] #[.pointer (some ⟨g6, 0, none⟩)]] rfl (by simp only [List.map_toArray, List.map_cons, List.map_nil]; rfl) ?_; refine (impl_Wait_95_0.calls ht18.out (HS.ro gp0) lp0 (HS.cellAt 2 rfl (j := 0) rfl)).mono ?_; rintro _ wt18 ⟨rfl, HQ⟩; refine ⟨_, rfl, ?_⟩; replace HS := HS.call HQ; clear HQ; (try clear F); (try simp only [hpn, hpm] at HS); have F := HS.boxes; simp only [boxFacts, and_true] at F) | ((with_reducible refine gate_dst (N := 25) rfl ?_); refine ev_call rfl Try.func97 (by kernel_rfl) rfl #[.slice Ap1 a0.f3.length cp1, .func (.func 98) #[] #[.pointer (some ⟨g6, 0, none⟩)]] rfl (by simp only [List.map_toArray, List.map_cons, List.map_nil]; rfl) ?_; refine (impl_Got_97_0.calls ht20.out (HS.ro gp1) lp1 (HS.cellAt 2 rfl (j := 0) rfl)).mono ?_; rintro _ wt20 ⟨rfl, HQ⟩; refine ⟨_, rfl, ?_⟩; replace HS := HS.call HQ; clear HQ; (try clear F); (try simp only [hpn, hpm] at HS); have F := HS.boxes; simp only [boxFacts, and_true] at F) | ((with_reducible refine gate_dst (N := 27) rfl ?_); refine ev_call rfl Try.func78 (by kernel_rfl) rfl #[.int .i64 a2, .int .i64 1, .int .i64 1000000000] rfl (by simp only [List.map_toArray, List.map_cons, List.map_nil]; rfl) ?_; refine (impl_within.calls ht22.out).mono ?_; rintro _ wt22 ⟨rfl, HQ⟩; refine ⟨_, rfl, ?_⟩; replace HS := HS.call HQ; clear HQ; (try clear F); (try simp only [hpn, hpm] at HS); have F := HS.boxes; simp only [boxFacts, and_true] at F) | ((with_reducible refine gate_store (p := 8) rfl ?_); refine ev_store rfl 3 0 HS (seg := [.string t9.f0, .int .i64 t9.f1, .slice B10 t9.f2.length d10, .slice B11 t9.f3.length d11, .slice B12 t9.f4.length d12]) rfl rfl rfl rfl rfl rfl (by kernel_rfl) (by simp [wrt]) (by simp [Value.oneCell']) ?_; clear HS; (try clear F); intro w29 HS; (try simp only [hpn, hpm] at HS); have F := HS.boxes; simp only [boxFacts, and_true] at F))
       exact bodyPost_ret (results_list (rs := [.cell 8 31, .tmp 9, .tmp 10]) rfl (by simp) (.cell _ _ _ _ _ rfl (HS.boxAt (i := 3) rfl) Try.underlying31 rfl (by kernel_rfl) (.tmp (.tmp .nil)))) rfl ⟨_, _, _, rfl, HS.pick [4, 5, 6] (by decide) (by rfl)⟩
     · replace H := zneg c28 H
       replace c28 := eq_false_of_ne_true c28
       subst c28
       by_cases c31 : 4 ≤ (a0.f2.length : Int)
       · replace H := zpos c31 H
         replace c31 := eq_true c31
         obtain ⟨rfl, rfl, rfl⟩ := zsome3 H
         go_wp2_with (first | ((with_reducible refine gate_dst (N := 4) rfl ?_); refine ev_box rfl HS (by first | (go_simp; done) | (go_simp; rfl)) rfl ?_; clear HS; (try clear F); intro g4 w4 HS; (try simp only [hpn, hpm] at HS); have F := HS.boxes; simp only [boxFacts, and_true] at F) | ((with_reducible refine gate_dst (N := 5) rfl ?_); refine ev_box rfl HS (by first | (go_simp; done) | (go_simp; rfl)) rfl ?_; clear HS; (try clear F); intro g5 w5 HS; (try simp only [hpn, hpm] at HS); have F := HS.boxes; simp only [boxFacts, and_true] at F) | ((with_reducible refine gate_dst (N := 6) rfl ?_); refine ev_box rfl HS (by first | (go_simp; done) | (go_simp; rfl)) rfl ?_; clear HS; (try clear F); intro g6 w6 HS; (try simp only [hpn, hpm] at HS); have F := HS.boxes; simp only [boxFacts, and_true] at F) | ((with_reducible refine gate_dst (N := 8) rfl ?_); refine ev_box rfl HS (by first | (go_simp; done) | (go_simp; rfl)) rfl ?_; clear HS; (try clear F); intro g8 w8 HS; (try simp only [hpn, hpm] at HS); have F := HS.boxes; simp only [boxFacts, and_true] at F) | ((with_reducible refine gate_dst (N := 17) rfl ?_); refine ev_call rfl Try.func43 (by kernel_rfl) rfl #[.agg #[.string a0.f0, .int .i64 a0.f1, .slice Ap0 a0.f2.length cp0, .slice Ap1 a0.f3.length cp1, .slice Ap2 a0.f4.length cp2]] rfl (by simp only [List.map_toArray, List.map_cons, List.map_nil]; rfl) ?_; refine (impl_copyClient.calls ht9.out (HS.ro gp0) lp0 (HS.ro gp1) lp1 (HS.ro gp2) lp2).mono ?_; rintro _ wt9 ⟨v10, v11, v12, rfl, HQ⟩; refine ⟨_, rfl, ?_⟩; replace HS := HS.call HQ; clear HQ; (try clear F); obtain ⟨B10, d10, rfl, m10⟩ := HS.form 4 rfl; obtain ⟨B11, d11, rfl, m11⟩ := HS.form 5 rfl; obtain ⟨B12, d12, rfl, m12⟩ := HS.form 6 rfl; (try simp only [hpn, hpm] at HS); have F := HS.boxes; simp only [boxFacts, and_true] at F) | ((with_reducible refine gate_dst (N := 11) rfl ?_); refine ev_box rfl HS (by first | (go_simp; done) | (go_simp; rfl)) rfl ?_; clear HS; (try clear F); intro g11 w11 HS; (try simp only [hpn, hpm] at HS); have F := HS.boxes; simp only [boxFacts, and_true] at F) | ((with_reducible refine gate_store (p := 11) rfl ?_); refine ev_store rfl 7 0 HS (seg := [.string t9.f0, .int .i64 t9.f1, .slice B10 t9.f2.length d10, .slice B11 t9.f3.length d11, .slice B12 t9.f4.length d12]) rfl rfl rfl rfl rfl rfl (by kernel_rfl) (by simp [wrt]) (by simp [Value.oneCell']) ?_; clear HS; (try clear F); intro w16 HS; (try simp only [hpn, hpm] at HS); have F := HS.boxes; simp only [boxFacts, and_true] at F) | ((with_reducible refine gate_dst (N := 21) rfl ?_); refine ev_call rfl Try.func95 (by kernel_rfl) rfl #[.slice Ap0 a0.f2.length cp0, .func (.func 96) #[] #[.pointer (some ⟨g6, 0, none⟩)]] rfl (by simp only [List.map_toArray, List.map_cons, List.map_nil]; rfl) ?_; refine (impl_Wait_95_0.calls ht18.out (HS.ro gp0) lp0 (HS.cellAt 2 rfl (j := 0) rfl)).mono ?_; rintro _ wt18 ⟨rfl, HQ⟩; refine ⟨_, rfl, ?_⟩; replace HS := HS.call HQ; clear HQ; (try clear F); (try simp only [hpn, hpm] at HS); have F := HS.boxes; simp only [boxFacts, and_true] at F) | ((with_reducible refine gate_dst (N := 25) rfl ?_); refine ev_call rfl Try.func97 (by kernel_rfl) rfl #[.slice Ap1 a0.f3.length cp1, .func (.func 98) #[] #[.pointer (some ⟨g6, 0, none⟩)]] rfl (by simp only [List.map_toArray, List.map_cons, List.map_nil]; rfl) ?_; refine (impl_Got_97_0.calls ht20.out (HS.ro gp1) lp1 (HS.cellAt 2 rfl (j := 0) rfl)).mono ?_; rintro _ wt20 ⟨rfl, HQ⟩; refine ⟨_, rfl, ?_⟩; replace HS := HS.call HQ; clear HQ; (try clear F); (try simp only [hpn, hpm] at HS); have F := HS.boxes; simp only [boxFacts, and_true] at F) | ((with_reducible refine gate_dst (N := 27) rfl ?_); refine ev_call rfl Try.func78 (by kernel_rfl) rfl #[.int .i64 a2, .int .i64 1, .int .i64 1000000000] rfl (by simp only [List.map_toArray, List.map_cons, List.map_nil]; rfl) ?_; refine (impl_within.calls ht22.out).mono ?_; rintro _ wt22 ⟨rfl, HQ⟩; refine ⟨_, rfl, ?_⟩; replace HS := HS.call HQ; clear HQ; (try clear F); (try simp only [hpn, hpm] at HS); have F := HS.boxes; simp only [boxFacts, and_true] at F) | ((with_reducible refine gate_store (p := 8) rfl ?_); refine ev_store rfl 3 0 HS (seg := [.string t9.f0, .int .i64 t9.f1, .slice B10 t9.f2.length d10, .slice B11 t9.f3.length d11, .slice B12 t9.f4.length d12]) rfl rfl rfl rfl rfl rfl (by kernel_rfl) (by simp [wrt]) (by simp [Value.oneCell']) ?_; clear HS; (try clear F); intro w32 HS; (try simp only [hpn, hpm] at HS); have F := HS.boxes; simp only [boxFacts, and_true] at F))
         exact bodyPost_ret (results_list (rs := [.cell 8 31, .tmp 9, .tmp 10]) rfl (by simp) (.cell _ _ _ _ _ rfl (HS.boxAt (i := 3) rfl) Try.underlying31 rfl (by kernel_rfl) (.tmp (.tmp .nil)))) rfl ⟨_, _, _, rfl, HS.pick [4, 5, 6] (by decide) (by rfl)⟩
       · replace H := zneg c31 H
         replace c31 := eq_false c31
         replace H := zbind H; obtain ⟨t34, ht34, H⟩ := H
         by_cases c36 : t34 = true
         · replace H := zpos c36 H
           subst c36
           replace H := zbind H; obtain ⟨t37, ht37, H⟩ := H
           go_upto_if 51 with (first | ((with_reducible refine gate_dst (N := 4) rfl ?_); refine ev_box rfl HS (by first | (go_simp; done) | (go_simp; rfl)) rfl ?_; clear HS; (try clear F); intro g4 w4 HS; (try simp only [hpn, hpm] at HS); have F := HS.boxes; simp only [boxFacts, and_true] at F) | ((with_reducible refine gate_dst (N := 5) rfl ?_); refine ev_box rfl HS (by first | (go_simp; done) | (go_simp; rfl)) rfl ?_; clear HS; (try clear F); intro g5 w5 HS; (try simp only [hpn, hpm] at HS); have F := HS.boxes; simp only [boxFacts, and_true] at F) | ((with_reducible refine gate_dst (N := 6) rfl ?_); refine ev_box rfl HS (by first | (go_simp; done) | (go_simp; rfl)) rfl ?_; clear HS; (try clear F); intro g6 w6 HS; (try simp only [hpn, hpm] at HS); have F := HS.boxes; simp only [boxFacts, and_true] at F) | ((with_reducible refine gate_dst (N := 8) rfl ?_); refine ev_box rfl HS (by first | (go_simp; done) | (go_simp; rfl)) rfl ?_; clear HS; (try clear F); intro g8 w8 HS; (try simp only [hpn, hpm] at HS); have F := HS.boxes; simp only [boxFacts, and_true] at F) | ((with_reducible refine gate_dst (N := 17) rfl ?_); refine ev_call rfl Try.func43 (by kernel_rfl) rfl #[.agg #[.string a0.f0, .int .i64 a0.f1, .slice Ap0 a0.f2.length cp0, .slice Ap1 a0.f3.length cp1, .slice Ap2 a0.f4.length cp2]] rfl (by simp only [List.map_toArray, List.map_cons, List.map_nil]; rfl) ?_; refine (impl_copyClient.calls ht9.out (HS.ro gp0) lp0 (HS.ro gp1) lp1 (HS.ro gp2) lp2).mono ?_; rintro _ wt9 ⟨v10, v11, v12, rfl, HQ⟩; refine ⟨_, rfl, ?_⟩; replace HS := HS.call HQ; clear HQ; (try clear F); obtain ⟨B10, d10, rfl, m10⟩ := HS.form 4 rfl; obtain ⟨B11, d11, rfl, m11⟩ := HS.form 5 rfl; obtain ⟨B12, d12, rfl, m12⟩ := HS.form 6 rfl; (try simp only [hpn, hpm] at HS); have F := HS.boxes; simp only [boxFacts, and_true] at F) | ((with_reducible refine gate_dst (N := 11) rfl ?_); refine ev_box rfl HS (by first | (go_simp; done) | (go_simp; rfl)) rfl ?_; clear HS; (try clear F); intro g11 w11 HS; (try simp only [hpn, hpm] at HS); have F := HS.boxes; simp only [boxFacts, and_true] at F) | ((with_reducible refine gate_store (p := 11) rfl ?_); refine ev_store rfl 7 0 HS (seg := [.string t9.f0, .int .i64 t9.f1, .slice B10 t9.f2.length d10, .slice B11 t9.f3.length d11, .slice B12 t9.f4.length d12]) rfl rfl rfl rfl rfl rfl (by kernel_rfl) (by simp [wrt]) (by simp [Value.oneCell']) ?_; clear HS; (try clear F); intro w16 HS; (try simp only [hpn, hpm] at HS); have F := HS.boxes; simp only [boxFacts, and_true] at F) | ((with_reducible refine gate_dst (N := 21) rfl ?_); refine ev_call rfl Try.func95 (by kernel_rfl) rfl #[.slice Ap0 a0.f2.length cp0, .func (.func 96) #[] #[.pointer (some ⟨g6, 0, none⟩)]] rfl (by simp only [List.map_toArray, List.map_cons, List.map_nil]; rfl) ?_; refine (impl_Wait_95_0.calls ht18.out (HS.ro gp0) lp0 (HS.cellAt 2 rfl (j := 0) rfl)).mono ?_; rintro _ wt18 ⟨rfl, HQ⟩; refine ⟨_, rfl, ?_⟩; replace HS := HS.call HQ; clear HQ; (try clear F); (try simp only [hpn, hpm] at HS); have F := HS.boxes; simp only [boxFacts, and_true] at F) | ((with_reducible refine gate_dst (N := 25) rfl ?_); refine ev_call rfl Try.func97 (by kernel_rfl) rfl #[.slice Ap1 a0.f3.length cp1, .func (.func 98) #[] #[.pointer (some ⟨g6, 0, none⟩)]] rfl (by simp only [List.map_toArray, List.map_cons, List.map_nil]; rfl) ?_; refine (impl_Got_97_0.calls ht20.out (HS.ro gp1) lp1 (HS.cellAt 2 rfl (j := 0) rfl)).mono ?_; rintro _ wt20 ⟨rfl, HQ⟩; refine ⟨_, rfl, ?_⟩; replace HS := HS.call HQ; clear HQ; (try clear F); (try simp only [hpn, hpm] at HS); have F := HS.boxes; simp only [boxFacts, and_true] at F) | ((with_reducible refine gate_dst (N := 27) rfl ?_); refine ev_call rfl Try.func78 (by kernel_rfl) rfl #[.int .i64 a2, .int .i64 1, .int .i64 1000000000] rfl (by simp only [List.map_toArray, List.map_cons, List.map_nil]; rfl) ?_; refine (impl_within.calls ht22.out).mono ?_; rintro _ wt22 ⟨rfl, HQ⟩; refine ⟨_, rfl, ?_⟩; replace HS := HS.call HQ; clear HQ; (try clear F); (try simp only [hpn, hpm] at HS); have F := HS.boxes; simp only [boxFacts, and_true] at F) | ((with_reducible refine gate_dst (N := 43) rfl ?_); refine gate_guard (by rfl) ?_; refine ev_call rfl Try.func78 (by kernel_rfl) rfl #[.int .i64 a3, .int .i64 1, .int .i64 999] rfl (by simp only [List.map_toArray, List.map_cons, List.map_nil]; rfl) ?_; refine (impl_within.calls ht34.out).mono ?_; rintro _ wt34 ⟨rfl, HQ⟩; refine ⟨_, rfl, ?_⟩; replace HS := HS.call HQ; clear HQ; (try clear F); (try simp only [hpn, hpm] at HS); have F := HS.boxes; simp only [boxFacts, and_true] at F) | ((with_reducible refine gate_dst (N := 49) rfl ?_); refine gate_guard (by rfl) ?_; refine ev_call rfl Try.func78 (by kernel_rfl) rfl #[.int .i64 a0.f1, .int .i64 0, .int .i64 99999] rfl (by simp only [List.map_toArray, List.map_cons, List.map_nil]; rfl) ?_; refine (impl_within.calls ht37.out).mono ?_; rintro _ wt37 ⟨rfl, HQ⟩; refine ⟨_, rfl, ?_⟩; replace HS := HS.call HQ; clear HQ; (try clear F); (try simp only [hpn, hpm] at HS); have F := HS.boxes; simp only [boxFacts, and_true] at F))
           by_cases c39 : t37 = true
           · replace H := zpos c39 H
             subst c39
             (try simp only [dcn, if_true, Bool.false_eq_true, if_false])
             go_upto_if 56 with (first | ((with_reducible refine gate_store (p := 54) rfl ?_); refine ev_store rfl 1 3 HS (seg := [.int .i64 a2]) rfl rfl rfl rfl rfl rfl (by kernel_rfl) (by simp [wrt]) (by simp [Value.oneCell']) ?_; clear HS; (try clear F); intro w40 HS; (try simp only [hpn, hpm] at HS); have F := HS.boxes; simp only [boxFacts, and_true] at F))
             by_cases c42 : a1.f5 = true
             · replace H := zpos c42 H
               (try simp only [c42, dcn])
               replace H := zbind H; obtain ⟨t45, ht45, H⟩ := H
               go_upto_if 64 with (first | ((with_reducible refine gate_store (p := 57) rfl ?_); refine ev_store rfl 1 3 HS (seg := [.int .i64 0]) rfl rfl rfl rfl rfl rfl (by kernel_rfl) (by simp [wrt]) (by simp [Value.oneCell']) ?_; clear HS; (try clear F); intro w43 HS; (try simp only [hpn, hpm] at HS); have F := HS.boxes; simp only [boxFacts, and_true] at F) | ((with_reducible refine gate_dst (N := 60) rfl ?_); refine ev_call rfl Try.func99 (by kernel_rfl) rfl #[.agg #[.slice Ap3 a1.f0.length cp3, .int .i64 a1.f1, .int .i64 a1.f2, .int .i64 0, .int .i64 a1.f4, .bool true]] rfl (by simp only [List.map_toArray, List.map_cons, List.map_nil]; rfl) ?_; refine (impl_AskText.calls ht45.out (HS.ro gp3) lp3).mono ?_; rintro _ wt45 ⟨rfl, HQ⟩; refine ⟨_, rfl, ?_⟩; replace HS := HS.call HQ; clear HQ; (try clear F); (try simp only [hpn, hpm] at HS); have F := HS.boxes; simp only [boxFacts, and_true] at F))
               by_cases c47 : t45.2 = true
               · replace H := zpos c47 H
                 (try simp only [c47, dcn])
                 by_cases c50 : t9.f2.length + 1 ≤ 3518437208883
                 case neg => exact zno c50 H
                 replace H := zpos c50 H
                 replace c50 := eq_true c50
                 replace H := zlets H; obtain ⟨y51, e_y51, H⟩ := H
                 obtain ⟨rfl, rfl, rfl⟩ := zsome3 H
                 go_wp2_with (first | ((with_reducible refine gate_dst (N := 77) rfl ?_); refine ev_lit rfl q89 [] ([(⟨a2, 0, t45.1, (wrap64 (a0.f1 + a3))⟩ : S89)] : List S89) ([.int .i64 a2, .int .i64 0, .string t45.1, .int .i64 (wrap64 (a0.f1 + a3))] ++ []) HS (by first | (go_simp; done) | (go_simp; rfl)) rfl rfl (Nat.le_of_ble_eq_true rfl) (MadeL.cons (js1 := []) (c := [.int .i64 a2, .int .i64 0, .string t45.1, .int .i64 (wrap64 (a0.f1 + a3))]) rfl (made_flat (fun _ => q89_flat _ _ _)) MadeL.nil (by decide)) ?_; clear HS; (try clear F); intro v48 w48 HS; obtain ⟨B48, d48, rfl, m48⟩ := HS.formn 1 8 rfl rfl; (try simp only [hpn, hpm] at HS); have F := HS.boxes; simp only [boxFacts, and_true] at F) | ((with_reducible refine gate_dst (N := 78) rfl ?_); refine ev_append rfl q89 4 8 HS rfl rfl (by decide) rfl rfl rfl Try.underlying28 info89 rfl (by decide) (by decide) (by have := of_eq_true c50; first | omega | (simp only [List.length_cons, List.length_nil, List.length_append, Nat.zero_add] at this ⊢; omega)) ?_; clear HS; (try clear F); intro v51 w51 HS; rw [← e_y51.out] at HS; obtain ⟨B51, d51, rfl, m51⟩ := HS.form 9 rfl; (try simp only [hpn, hpm] at HS); have F := HS.boxes; simp only [boxFacts, and_true] at F) | ((with_reducible refine gate_store (p := 79) rfl ?_); refine ev_store rfl 7 2 HS (seg := [.slice B51 y51.length d51]) rfl rfl rfl rfl rfl rfl (by kernel_rfl) (by simp [wrt]) (by simp [Value.oneCell']) ?_; clear HS; (try clear F); intro w53 HS; (try simp only [hpn, hpm] at HS); have F := HS.boxes; simp only [boxFacts, and_true] at F) | ((with_reducible refine gate_store (p := 8) rfl ?_); refine ev_store rfl 3 0 HS (seg := [.string t9.f0, .int .i64 t9.f1, .slice B51 y51.length d51, .slice B11 t9.f3.length d11, .slice B12 t9.f4.length d12]) rfl rfl rfl rfl rfl rfl (by kernel_rfl) (by simp [wrt]) (by simp [Value.oneCell']) ?_; clear HS; (try clear F); intro w55 HS; (try simp only [hpn, hpm] at HS); have F := HS.boxes; simp only [boxFacts, and_true] at F))
                 exact bodyPost_ret (results_list (rs := [.cell 8 31, .tmp 9, .tmp 10]) rfl (by simp) (.cell _ _ _ _ _ rfl (HS.boxAt (i := 3) rfl) Try.underlying31 rfl (by kernel_rfl) (.tmp (.tmp .nil)))) rfl ⟨_, _, _, rfl, HS.pick [9, 5, 6] (by decide) (by rfl)⟩
               · replace H := zneg c47 H
                 replace c47 := eq_false_of_ne_true c47
                 (try simp only [c47, dcn])
                 obtain ⟨rfl, rfl, rfl⟩ := zsome3 H
                 go_wp2_with (first | ((with_reducible refine gate_store (p := 8) rfl ?_); refine ev_store rfl 3 0 HS (seg := [.string t9.f0, .int .i64 t9.f1, .slice B10 t9.f2.length d10, .slice B11 t9.f3.length d11, .slice B12 t9.f4.length d12]) rfl rfl rfl rfl rfl rfl (by kernel_rfl) (by simp [wrt]) (by simp [Value.oneCell']) ?_; clear HS; (try clear F); intro w57 HS; (try simp only [hpn, hpm] at HS); have F := HS.boxes; simp only [boxFacts, and_true] at F))
                 exact bodyPost_ret (results_list (rs := [.cell 8 31, .tmp 9, .tmp 10]) rfl (by simp) (.cell _ _ _ _ _ rfl (HS.boxAt (i := 3) rfl) Try.underlying31 rfl (by kernel_rfl) (.tmp (.tmp .nil)))) rfl ⟨_, _, _, rfl, HS.pick [4, 5, 6] (by decide) (by rfl)⟩
             · replace H := zneg c42 H
               replace c42 := eq_false_of_ne_true c42
               (try simp only [c42, dcn])
               replace H := zbind H; obtain ⟨t59, ht59, H⟩ := H
               go_upto_if 64 with (first | ((with_reducible refine gate_dst (N := 60) rfl ?_); refine ev_call rfl Try.func99 (by kernel_rfl) rfl #[.agg #[.slice Ap3 a1.f0.length cp3, .int .i64 a1.f1, .int .i64 a1.f2, .int .i64 a2, .int .i64 a1.f4, .bool false]] rfl (by simp only [List.map_toArray, List.map_cons, List.map_nil]; rfl) ?_; refine (impl_AskText.calls ht59.out (HS.ro gp3) lp3).mono ?_; rintro _ wt59 ⟨rfl, HQ⟩; refine ⟨_, rfl, ?_⟩; replace HS := HS.call HQ; clear HQ; (try clear F); (try simp only [hpn, hpm] at HS); have F := HS.boxes; simp only [boxFacts, and_true] at F))
               by_cases c61 : t59.2 = true
               · replace H := zpos c61 H
                 (try simp only [c61, dcn])
                 by_cases c64 : t9.f2.length + 1 ≤ 3518437208883
                 case neg => exact zno c64 H
                 replace H := zpos c64 H
                 replace c64 := eq_true c64
                 replace H := zlets H; obtain ⟨y65, e_y65, H⟩ := H
                 obtain ⟨rfl, rfl, rfl⟩ := zsome3 H
                 go_wp2_with (first | ((with_reducible refine gate_dst (N := 77) rfl ?_); refine ev_lit rfl q89 [] ([(⟨a2, a2, t59.1, (wrap64 (a0.f1 + a3))⟩ : S89)] : List S89) ([.int .i64 a2, .int .i64 a2, .string t59.1, .int .i64 (wrap64 (a0.f1 + a3))] ++ []) HS (by first | (go_simp; done) | (go_simp; rfl)) rfl rfl (Nat.le_of_ble_eq_true rfl) (MadeL.cons (js1 := []) (c := [.int .i64 a2, .int .i64 a2, .string t59.1, .int .i64 (wrap64 (a0.f1 + a3))]) rfl (made_flat (fun _ => q89_flat _ _ _)) MadeL.nil (by decide)) ?_; clear HS; (try clear F); intro v62 w62 HS; obtain ⟨B62, d62, rfl, m62⟩ := HS.formn 1 8 rfl rfl; (try simp only [hpn, hpm] at HS); have F := HS.boxes; simp only [boxFacts, and_true] at F) | ((with_reducible refine gate_dst (N := 78) rfl ?_); refine ev_append rfl q89 4 8 HS rfl rfl (by decide) rfl rfl rfl Try.underlying28 info89 rfl (by decide) (by decide) (by have := of_eq_true c64; first | omega | (simp only [List.length_cons, List.length_nil, List.length_append, Nat.zero_add] at this ⊢; omega)) ?_; clear HS; (try clear F); intro v65 w65 HS; rw [← e_y65.out] at HS; obtain ⟨B65, d65, rfl, m65⟩ := HS.form 9 rfl; (try simp only [hpn, hpm] at HS); have F := HS.boxes; simp only [boxFacts, and_true] at F) | ((with_reducible refine gate_store (p := 79) rfl ?_); refine ev_store rfl 7 2 HS (seg := [.slice B65 y65.length d65]) rfl rfl rfl rfl rfl rfl (by kernel_rfl) (by simp [wrt]) (by simp [Value.oneCell']) ?_; clear HS; (try clear F); intro w67 HS; (try simp only [hpn, hpm] at HS); have F := HS.boxes; simp only [boxFacts, and_true] at F) | ((with_reducible refine gate_store (p := 8) rfl ?_); refine ev_store rfl 3 0 HS (seg := [.string t9.f0, .int .i64 t9.f1, .slice B65 y65.length d65, .slice B11 t9.f3.length d11, .slice B12 t9.f4.length d12]) rfl rfl rfl rfl rfl rfl (by kernel_rfl) (by simp [wrt]) (by simp [Value.oneCell']) ?_; clear HS; (try clear F); intro w69 HS; (try simp only [hpn, hpm] at HS); have F := HS.boxes; simp only [boxFacts, and_true] at F))
                 exact bodyPost_ret (results_list (rs := [.cell 8 31, .tmp 9, .tmp 10]) rfl (by simp) (.cell _ _ _ _ _ rfl (HS.boxAt (i := 3) rfl) Try.underlying31 rfl (by kernel_rfl) (.tmp (.tmp .nil)))) rfl ⟨_, _, _, rfl, HS.pick [9, 5, 6] (by decide) (by rfl)⟩
               · replace H := zneg c61 H
                 replace c61 := eq_false_of_ne_true c61
                 (try simp only [c61, dcn])
                 obtain ⟨rfl, rfl, rfl⟩ := zsome3 H
                 go_wp2_with (first | ((with_reducible refine gate_store (p := 8) rfl ?_); refine ev_store rfl 3 0 HS (seg := [.string t9.f0, .int .i64 t9.f1, .slice B10 t9.f2.length d10, .slice B11 t9.f3.length d11, .slice B12 t9.f4.length d12]) rfl rfl rfl rfl rfl rfl (by kernel_rfl) (by simp [wrt]) (by simp [Value.oneCell']) ?_; clear HS; (try clear F); intro w71 HS; (try simp only [hpn, hpm] at HS); have F := HS.boxes; simp only [boxFacts, and_true] at F))
                 exact bodyPost_ret (results_list (rs := [.cell 8 31, .tmp 9, .tmp 10]) rfl (by simp) (.cell _ _ _ _ _ rfl (HS.boxAt (i := 3) rfl) Try.underlying31 rfl (by kernel_rfl) (.tmp (.tmp .nil)))) rfl ⟨_, _, _, rfl, HS.pick [4, 5, 6] (by decide) (by rfl)⟩
           · replace H := zneg c39 H
             replace c39 := eq_false_of_ne_true c39
             subst c39
             (try simp only [dcn, if_true, Bool.false_eq_true, if_false])
             obtain ⟨rfl, rfl, rfl⟩ := zsome3 H
             go_wp2_with (first | ((with_reducible refine gate_store (p := 8) rfl ?_); refine ev_store rfl 3 0 HS (seg := [.string t9.f0, .int .i64 t9.f1, .slice B10 t9.f2.length d10, .slice B11 t9.f3.length d11, .slice B12 t9.f4.length d12]) rfl rfl rfl rfl rfl rfl (by kernel_rfl) (by simp [wrt]) (by simp [Value.oneCell']) ?_; clear HS; (try clear F); intro w73 HS; (try simp only [hpn, hpm] at HS); have F := HS.boxes; simp only [boxFacts, and_true] at F))
             exact bodyPost_ret (results_list (rs := [.cell 8 31, .tmp 9, .tmp 10]) rfl (by simp) (.cell _ _ _ _ _ rfl (HS.boxAt (i := 3) rfl) Try.underlying31 rfl (by kernel_rfl) (.tmp (.tmp .nil)))) rfl ⟨_, _, _, rfl, HS.pick [4, 5, 6] (by decide) (by rfl)⟩
         · replace H := zneg c36 H
           replace c36 := eq_false_of_ne_true c36
           subst c36
           obtain ⟨rfl, rfl, rfl⟩ := zsome3 H
           go_wp2_with (first | ((with_reducible refine gate_dst (N := 4) rfl ?_); refine ev_box rfl HS (by first | (go_simp; done) | (go_simp; rfl)) rfl ?_; clear HS; (try clear F); intro g4 w4 HS; (try simp only [hpn, hpm] at HS); have F := HS.boxes; simp only [boxFacts, and_true] at F) | ((with_reducible refine gate_dst (N := 5) rfl ?_); refine ev_box rfl HS (by first | (go_simp; done) | (go_simp; rfl)) rfl ?_; clear HS; (try clear F); intro g5 w5 HS; (try simp only [hpn, hpm] at HS); have F := HS.boxes; simp only [boxFacts, and_true] at F) | ((with_reducible refine gate_dst (N := 6) rfl ?_); refine ev_box rfl HS (by first | (go_simp; done) | (go_simp; rfl)) rfl ?_; clear HS; (try clear F); intro g6 w6 HS; (try simp only [hpn, hpm] at HS); have F := HS.boxes; simp only [boxFacts, and_true] at F) | ((with_reducible refine gate_dst (N := 8) rfl ?_); refine ev_box rfl HS (by first | (go_simp; done) | (go_simp; rfl)) rfl ?_; clear HS; (try clear F); intro g8 w8 HS; (try simp only [hpn, hpm] at HS); have F := HS.boxes; simp only [boxFacts, and_true] at F) | ((with_reducible refine gate_dst (N := 17) rfl ?_); refine ev_call rfl Try.func43 (by kernel_rfl) rfl #[.agg #[.string a0.f0, .int .i64 a0.f1, .slice Ap0 a0.f2.length cp0, .slice Ap1 a0.f3.length cp1, .slice Ap2 a0.f4.length cp2]] rfl (by simp only [List.map_toArray, List.map_cons, List.map_nil]; rfl) ?_; refine (impl_copyClient.calls ht9.out (HS.ro gp0) lp0 (HS.ro gp1) lp1 (HS.ro gp2) lp2).mono ?_; rintro _ wt9 ⟨v10, v11, v12, rfl, HQ⟩; refine ⟨_, rfl, ?_⟩; replace HS := HS.call HQ; clear HQ; (try clear F); obtain ⟨B10, d10, rfl, m10⟩ := HS.form 4 rfl; obtain ⟨B11, d11, rfl, m11⟩ := HS.form 5 rfl; obtain ⟨B12, d12, rfl, m12⟩ := HS.form 6 rfl; (try simp only [hpn, hpm] at HS); have F := HS.boxes; simp only [boxFacts, and_true] at F) | ((with_reducible refine gate_dst (N := 11) rfl ?_); refine ev_box rfl HS (by first | (go_simp; done) | (go_simp; rfl)) rfl ?_; clear HS; (try clear F); intro g11 w11 HS; (try simp only [hpn, hpm] at HS); have F := HS.boxes; simp only [boxFacts, and_true] at F) | ((with_reducible refine gate_store (p := 11) rfl ?_); refine ev_store rfl 7 0 HS (seg := [.string t9.f0, .int .i64 t9.f1, .slice B10 t9.f2.length d10, .slice B11 t9.f3.length d11, .slice B12 t9.f4.length d12]) rfl rfl rfl rfl rfl rfl (by kernel_rfl) (by simp [wrt]) (by simp [Value.oneCell']) ?_; clear HS; (try clear F); intro w16 HS; (try simp only [hpn, hpm] at HS); have F := HS.boxes; simp only [boxFacts, and_true] at F) | ((with_reducible refine gate_dst (N := 21) rfl ?_); refine ev_call rfl Try.func95 (by kernel_rfl) rfl #[.slice Ap0 a0.f2.length cp0, .func (.func 96) #[] #[.pointer (some ⟨g6, 0, none⟩)]] rfl (by simp only [List.map_toArray, List.map_cons, List.map_nil]; rfl) ?_; refine (impl_Wait_95_0.calls ht18.out (HS.ro gp0) lp0 (HS.cellAt 2 rfl (j := 0) rfl)).mono ?_; rintro _ wt18 ⟨rfl, HQ⟩; refine ⟨_, rfl, ?_⟩; replace HS := HS.call HQ; clear HQ; (try clear F); (try simp only [hpn, hpm] at HS); have F := HS.boxes; simp only [boxFacts, and_true] at F) | ((with_reducible refine gate_dst (N := 25) rfl ?_); refine ev_call rfl Try.func97 (by kernel_rfl) rfl #[.slice Ap1 a0.f3.length cp1, .func (.func 98) #[] #[.pointer (some ⟨g6, 0, none⟩)]] rfl (by simp only [List.map_toArray, List.map_cons, List.map_nil]; rfl) ?_; refine (impl_Got_97_0.calls ht20.out (HS.ro gp1) lp1 (HS.cellAt 2 rfl (j := 0) rfl)).mono ?_; rintro _ wt20 ⟨rfl, HQ⟩; refine ⟨_, rfl, ?_⟩; replace HS := HS.call HQ; clear HQ; (try clear F); (try simp only [hpn, hpm] at HS); have F := HS.boxes; simp only [boxFacts, and_true] at F) | ((with_reducible refine gate_dst (N := 27) rfl ?_); refine ev_call rfl Try.func78 (by kernel_rfl) rfl #[.int .i64 a2, .int .i64 1, .int .i64 1000000000] rfl (by simp only [List.map_toArray, List.map_cons, List.map_nil]; rfl) ?_; refine (impl_within.calls ht22.out).mono ?_; rintro _ wt22 ⟨rfl, HQ⟩; refine ⟨_, rfl, ?_⟩; replace HS := HS.call HQ; clear HQ; (try clear F); (try simp only [hpn, hpm] at HS); have F := HS.boxes; simp only [boxFacts, and_true] at F) | ((with_reducible refine gate_dst (N := 43) rfl ?_); refine gate_guard (by rfl) ?_; refine ev_call rfl Try.func78 (by kernel_rfl) rfl #[.int .i64 a3, .int .i64 1, .int .i64 999] rfl (by simp only [List.map_toArray, List.map_cons, List.map_nil]; rfl) ?_; refine (impl_within.calls ht34.out).mono ?_; rintro _ wt34 ⟨rfl, HQ⟩; refine ⟨_, rfl, ?_⟩; replace HS := HS.call HQ; clear HQ; (try clear F); (try simp only [hpn, hpm] at HS); have F := HS.boxes; simp only [boxFacts, and_true] at F) | ((with_reducible refine gate_store (p := 8) rfl ?_); refine ev_store rfl 3 0 HS (seg := [.string t9.f0, .int .i64 t9.f1, .slice B10 t9.f2.length d10, .slice B11 t9.f3.length d11, .slice B12 t9.f4.length d12]) rfl rfl rfl rfl rfl rfl (by kernel_rfl) (by simp [wrt]) (by simp [Value.oneCell']) ?_; clear HS; (try clear F); intro w75 HS; (try simp only [hpn, hpm] at HS); have F := HS.boxes; simp only [boxFacts, and_true] at F))
           exact bodyPost_ret (results_list (rs := [.cell 8 31, .tmp 9, .tmp 10]) rfl (by simp) (.cell _ _ _ _ _ rfl (HS.boxAt (i := 3) rfl) Try.underlying31 rfl (by kernel_rfl) (.tmp (.tmp .nil)))) rfl ⟨_, _, _, rfl, HS.pick [4, 5, 6] (by decide) (by rfl)⟩
 · replace H := zneg c24 H
   replace c24 := eq_false_of_ne_true c24
   subst c24
   obtain ⟨rfl, rfl, rfl⟩ := zsome3 H
   go_wp2_with (first | ((with_reducible refine gate_dst (N := 4) rfl ?_); refine ev_box rfl HS (by first | (go_simp; done) | (go_simp; rfl)) rfl ?_; clear HS; (try clear F); intro g4 w4 HS; (try simp only [hpn, hpm] at HS); have F := HS.boxes; simp only [boxFacts, and_true] at F) | ((with_reducible refine gate_dst (N := 5) rfl ?_); refine ev_box rfl HS (by first | (go_simp; done) | (go_simp; rfl)) rfl ?_; clear HS; (try clear F); intro g5 w5 HS; (try simp only [hpn, hpm] at HS); have F := HS.boxes; simp only [boxFacts, and_true] at F) | ((with_reducible refine gate_dst (N := 6) rfl ?_); refine ev_box rfl HS (by first | (go_simp; done) | (go_simp; rfl)) rfl ?_; clear HS; (try clear F); intro g6 w6 HS; (try simp only [hpn, hpm] at HS); have F := HS.boxes; simp only [boxFacts, and_true] at F) | ((with_reducible refine gate_dst (N := 8) rfl ?_); refine ev_box rfl HS (by first | (go_simp; done) | (go_simp; rfl)) rfl ?_; clear HS; (try clear F); intro g8 w8 HS; (try simp only [hpn, hpm] at HS); have F := HS.boxes; simp only [boxFacts, and_true] at F) | ((with_reducible refine gate_dst (N := 17) rfl ?_); refine ev_call rfl Try.func43 (by kernel_rfl) rfl #[.agg #[.string a0.f0, .int .i64 a0.f1, .slice Ap0 a0.f2.length cp0, .slice Ap1 a0.f3.length cp1, .slice Ap2 a0.f4.length cp2]] rfl (by simp only [List.map_toArray, List.map_cons, List.map_nil]; rfl) ?_; refine (impl_copyClient.calls ht9.out (HS.ro gp0) lp0 (HS.ro gp1) lp1 (HS.ro gp2) lp2).mono ?_; rintro _ wt9 ⟨v10, v11, v12, rfl, HQ⟩; refine ⟨_, rfl, ?_⟩; replace HS := HS.call HQ; clear HQ; (try clear F); obtain ⟨B10, d10, rfl, m10⟩ := HS.form 4 rfl; obtain ⟨B11, d11, rfl, m11⟩ := HS.form 5 rfl; obtain ⟨B12, d12, rfl, m12⟩ := HS.form 6 rfl; (try simp only [hpn, hpm] at HS); have F := HS.boxes; simp only [boxFacts, and_true] at F) | ((with_reducible refine gate_dst (N := 11) rfl ?_); refine ev_box rfl HS (by first | (go_simp; done) | (go_simp; rfl)) rfl ?_; clear HS; (try clear F); intro g11 w11 HS; (try simp only [hpn, hpm] at HS); have F := HS.boxes; simp only [boxFacts, and_true] at F) | ((with_reducible refine gate_store (p := 11) rfl ?_); refine ev_store rfl 7 0 HS (seg := [.string t9.f0, .int .i64 t9.f1, .slice B10 t9.f2.length d10, .slice B11 t9.f3.length d11, .slice B12 t9.f4.length d12]) rfl rfl rfl rfl rfl rfl (by kernel_rfl) (by simp [wrt]) (by simp [Value.oneCell']) ?_; clear HS; (try clear F); intro w16 HS; (try simp only [hpn, hpm] at HS); have F := HS.boxes; simp only [boxFacts, and_true] at F) | ((with_reducible refine gate_dst (N := 21) rfl ?_); refine ev_call rfl Try.func95 (by kernel_rfl) rfl #[.slice Ap0 a0.f2.length cp0, .func (.func 96) #[] #[.pointer (some ⟨g6, 0, none⟩)]] rfl (by simp only [List.map_toArray, List.map_cons, List.map_nil]; rfl) ?_; refine (impl_Wait_95_0.calls ht18.out (HS.ro gp0) lp0 (HS.cellAt 2 rfl (j := 0) rfl)).mono ?_; rintro _ wt18 ⟨rfl, HQ⟩; refine ⟨_, rfl, ?_⟩; replace HS := HS.call HQ; clear HQ; (try clear F); (try simp only [hpn, hpm] at HS); have F := HS.boxes; simp only [boxFacts, and_true] at F) | ((with_reducible refine gate_dst (N := 25) rfl ?_); refine ev_call rfl Try.func97 (by kernel_rfl) rfl #[.slice Ap1 a0.f3.length cp1, .func (.func 98) #[] #[.pointer (some ⟨g6, 0, none⟩)]] rfl (by simp only [List.map_toArray, List.map_cons, List.map_nil]; rfl) ?_; refine (impl_Got_97_0.calls ht20.out (HS.ro gp1) lp1 (HS.cellAt 2 rfl (j := 0) rfl)).mono ?_; rintro _ wt20 ⟨rfl, HQ⟩; refine ⟨_, rfl, ?_⟩; replace HS := HS.call HQ; clear HQ; (try clear F); (try simp only [hpn, hpm] at HS); have F := HS.boxes; simp only [boxFacts, and_true] at F) | ((with_reducible refine gate_dst (N := 27) rfl ?_); refine ev_call rfl Try.func78 (by kernel_rfl) rfl #[.int .i64 a2, .int .i64 1, .int .i64 1000000000] rfl (by simp only [List.map_toArray, List.map_cons, List.map_nil]; rfl) ?_; refine (impl_within.calls ht22.out).mono ?_; rintro _ wt22 ⟨rfl, HQ⟩; refine ⟨_, rfl, ?_⟩; replace HS := HS.call HQ; clear HQ; (try clear F); (try simp only [hpn, hpm] at HS); have F := HS.boxes; simp only [boxFacts, and_true] at F) | ((with_reducible refine gate_store (p := 8) rfl ?_); refine ev_store rfl 3 0 HS (seg := [.string t9.f0, .int .i64 t9.f1, .slice B10 t9.f2.length d10, .slice B11 t9.f3.length d11, .slice B12 t9.f4.length d12]) rfl rfl rfl rfl rfl rfl (by kernel_rfl) (by simp [wrt]) (by simp [Value.oneCell']) ?_; clear HS; (try clear F); intro w77 HS; (try simp only [hpn, hpm] at HS); have F := HS.boxes; simp only [boxFacts, and_true] at F))
   exact bodyPost_ret (results_list (rs := [.cell 8 31, .tmp 9, .tmp 10]) rfl (by simp) (.cell _ _ _ _ _ rfl (HS.boxAt (i := 3) rfl) Try.underlying31 rfl (by kernel_rfl) (.tmp (.tmp .nil)))) rfl ⟨_, _, _, rfl, HS.pick [4, 5, 6] (by decide) (by rfl)⟩
/-! ### laws_eqAsk: function 34 -/
def laws_eqAsk.f (k : Nat) (a0 : S79) (a1 : S79) : Option (Bool) := ((laws_eqStringS.f k a0.f0 a1.f0).bind fun t5 => (if t5 = true then (if a0.f1 = a1.f1 then (if a0.f2 = a1.f2 then (if a0.f3 = a1.f3 then (if a0.f4 = a1.f4 then (if a0.f5 = a1.f5 then (some true) else (some false)) else (some false)) else (some false)) else (some false)) else (some false)) else (some false)))
set_option maxHeartbeats 16000000 in
theorem laws_eqAsk.calls {k : Nat} {a0 : S79} {a1 : S79} {Ap0 : Option Addr} {np0 cp0 : Nat} {Ap1 : Option Addr} {np1 cp1 : Nat} {r : Bool} {w : World} (h : laws_eqAsk.f k a0 a1 = some r) (gp0 : Kd.string.C w Ap0 np0 a0.f0) (lp0 : np0 ≤ cp0) (gp1 : Kd.string.C w Ap1 np1 a1.f0) (lp1 : np1 ≤ cp1) :
    Calls Try.prog 34 #[.agg #[.slice Ap0 np0 cp0, .int .i64 a0.f1, .int .i64 a0.f2, .int .i64 a0.f3, .int .i64 a0.f4, .bool a0.f5], .agg #[.slice Ap1 np1 cp1, .int .i64 a1.f1, .int .i64 a1.f2, .int .i64 a1.f3, .int .i64 a1.f4, .bool a1.f5]] w (fun e w' => e = .returned (.bool r) ∧ Hp noFP w w' []) := by
 obtain rfl := C_len gp0
 obtain rfl := C_len gp1
 have HS := Hp.start w
 have H := Aside0.mk h
 clear h
 unfold laws_eqAsk.f at H
 go_enter Try.func34, Try.ntmps34
 replace H := zbind H; obtain ⟨t5, ht5, H⟩ := H
 go_upto_if 10 with (first | ((with_reducible refine gate_dst (N := 2) rfl ?_); refine ev_box rfl HS (by first | (go_simp; done) | (go_simp; rfl)) rfl ?_; clear HS; (try clear F); intro g2 w2 HS; (try simp only [hpn, hpm] at HS); have F := HS.boxes; simp only [boxFacts, and_true] at F) | ((with_reducible refine gate_dst (N := 3) rfl ?_); refine ev_box rfl HS (by first | (go_simp; done) | (go_simp; rfl)) rfl ?_; clear HS; (try clear F); intro g3 w3 HS; (try simp only [hpn, hpm] at HS); have F := HS.boxes; simp only [boxFacts, and_true] at F) | ((with_reducible refine gate_dst (N := 9) rfl ?_); refine ev_call rfl Try.func100 (by kernel_rfl) rfl #[.slice Ap0 a0.f0.length cp0, .slice Ap1 a1.f0.length cp1] rfl (by simp only [List.map_toArray, List.map_cons, List.map_nil]; rfl) ?_; refine (laws_eqStringS.calls ht5.out (HS.ro gp0) lp0 (HS.ro gp1) lp1).mono ?_; rintro _ wt5 ⟨rfl, HQ⟩; refine ⟨_, rfl, ?_⟩; replace HS := HS.call HQ; clear HQ; (try clear F); (try simp only [hpn, hpm] at HS); have F := HS.boxes; simp only [boxFacts, and_true] at F))
 by_cases c7 : t5 = true
 · replace H := zpos c7 H
   subst c7
   (try simp only [dcn, if_true, Bool.false_eq_true, if_false])
   by_cases c8 : a0.f1 = a1.f1
   · replace H := zpos c8 H
     have c8a := beq_iff_eq.mpr c8
     have c8b := bne_eq_false_iff_eq.mpr c8
     clear c8
     by_cases c9 : a0.f2 = a1.f2
     · replace H := zpos c9 H
       have c9a := beq_iff_eq.mpr c9
       have c9b := bne_eq_false_iff_eq.mpr c9
       clear c9
       by_cases c10 : a0.f3 = a1.f3
       · replace H := zpos c10 H
         have c10a := beq_iff_eq.mpr c10
         have c10b := bne_eq_false_iff_eq.mpr c10
         clear c10
         by_cases c11 : a0.f4 = a1.f4
         · replace H := zpos c11 H
           have c11a := beq_iff_eq.mpr c11
           have c11b := bne_eq_false_iff_eq.mpr c11
           clear c11
           by_cases c12 : a0.f5 = a1.f5
           · replace H := zpos c12 H
             have c12a := beq_iff_eq.mpr c12
             have c12b := bne_eq_false_iff_eq.mpr c12
             clear c12
             obtain rfl := zsome H
             go_wp2
             go_ret
             exact ⟨rfl, HS.pick [] (by decide) (by rfl)⟩
           · replace H := zneg c12 H
             have c12a := beq_eq_false_iff_ne.mpr c12
             have c12b := bne_iff_ne.mpr c12
             clear c12
             obtain rfl := zsome H
             go_wp2
             go_ret
             exact ⟨rfl, HS.pick [] (by decide) (by rfl)⟩
         · replace H := zneg c11 H
           have c11a := beq_eq_false_iff_ne.mpr c11
           have c11b := bne_iff_ne.mpr c11
           clear c11
           obtain rfl := zsome H
           go_wp2
           go_ret
           exact ⟨rfl, HS.pick [] (by decide) (by rfl)⟩
       · replace H := zneg c10 H
         have c10a := beq_eq_false_iff_ne.mpr c10
         have c10b := bne_iff_ne.mpr c10
         clear c10
         obtain rfl := zsome H
         go_wp2
         go_ret
         exact ⟨rfl, HS.pick [] (by decide) (by rfl)⟩
     · replace H := zneg c9 H
       have c9a := beq_eq_false_iff_ne.mpr c9
       have c9b := bne_iff_ne.mpr c9
       clear c9
       obtain rfl := zsome H
       go_wp2
       go_ret
       exact ⟨rfl, HS.pick [] (by decide) (by rfl)⟩
   · replace H := zneg c8 H
     have c8a := beq_eq_false_iff_ne.mpr c8
     have c8b := bne_iff_ne.mpr c8
     clear c8
     obtain rfl := zsome H
     go_wp2
     go_ret
     exact ⟨rfl, HS.pick [] (by decide) (by rfl)⟩
 · replace H := zneg c7 H
   replace c7 := eq_false_of_ne_true c7
   subst c7
   (try simp only [dcn, if_true, Bool.false_eq_true, if_false])
   obtain rfl := zsome H
   go_wp2
   go_ret
   exact ⟨rfl, HS.pick [] (by decide) (by rfl)⟩
/-! ### laws_markAsk: function 35 -/
def laws_markAsk.f (k : Nat) (a0 : S79) (a1 : Int) : Option (Int × (List ByteArray)) := ((laws_markStringS.f k a0.f0 a1).bind fun t4 => (some (t4.1, t4.2)))
set_option maxHeartbeats 16000000 in
theorem laws_markAsk.calls {k : Nat} {a0 : S79} {a1 : Int} {A : FP} {vp0 : Value} {r1 : Int} {r2 : (List ByteArray)} {w : World} (h : laws_markAsk.f k a0 a1 = some (r1, r2)) (HS : Hp A w w [.own (Zd.slice 9 Zd.string) a0.f0 [vp0]]) :
    Calls Try.prog 35 #[.agg #[vp0, .int .i64 a0.f1, .int .i64 a0.f2, .int .i64 a0.f3, .int .i64 a0.f4, .bool a0.f5], .int .i64 a1] w (fun e w' => e = .returned (.int .i64 r1) ∧ Hp A w w' [.own (Zd.slice 9 Zd.string) r2 [vp0]]) := by
 obtain ⟨B1, d1, rfl, m1⟩ := HS.form 0 rfl
 have H := Aside0.mk h
 clear h
 unfold laws_markAsk.f at H
 go_enter Try.func35, Try.ntmps35
 replace H := zbind H; obtain ⟨t4, ht4, H⟩ := H
 obtain ⟨rfl, rfl⟩ := zsome2 H
 go_wp2_with (first | ((with_reducible refine gate_dst (N := 2) rfl ?_); refine ev_box rfl HS (by first | (go_simp; done) | (go_simp; rfl)) rfl ?_; clear HS; (try clear F); intro g2 w2 HS; (try simp only [hpn, hpm] at HS); have F := HS.boxes; simp only [boxFacts, and_true] at F) | ((with_reducible refine gate_dst (N := 8) rfl ?_); refine HS.lend [0] (by decide) [.own (Zd.slice 9 Zd.string) a0.f0 [.slice B1 a0.f0.length d1]] rfl (fun A' HL HD HA HB => ?_); refine ev_call rfl Try.func101 (by kernel_rfl) rfl #[.slice B1 a0.f0.length d1, .int .i64 a1] rfl (by simp only [List.map_toArray, List.map_cons, List.map_nil]; rfl) ?_; refine (laws_markStringS.calls ht4.out HA).mono ?_; rintro _ wt4 ⟨rfl, HQ⟩; refine ⟨_, rfl, ?_⟩; replace HS := HB _ _ HQ (Nat.le_of_ble_eq_true rfl); clear HQ HA HB HL HD; (try simp only [hpn, hpm] at HS); (try clear F); (try simp only [hpn, hpm] at HS); have F := HS.boxes; simp only [boxFacts, and_true] at F))
 go_ret
 exact ⟨rfl, HS.pick [0] (by decide) (by rfl)⟩
/-! ### laws_szWait: function 102 -/
def laws_szWait.f (a0 : S154) (a1 : Int) : Option (Int) := (if (wrap64 (a1 - (a0.f2.size : Int))) < 0 then (some (-1)) else (some (wrap64 (a1 - (a0.f2.size : Int)))))
set_option maxHeartbeats 16000000 in
theorem laws_szWait.calls {a0 : S154} {a1 : Int} {r : Int} {w : World} (h : laws_szWait.f a0 a1 = some r) :
    Calls Try.prog 102 #[.agg #[.int .i64 a0.f0, .int .i64 a0.f1, .string a0.f2, .int .i64 a0.f3], .int .i64 a1] w (fun e w' => e = .returned (.int .i64 r) ∧ Hp noFP w w' []) := by
 have HS := Hp.start w
 have H := Aside0.mk h
 clear h
 unfold laws_szWait.f at H
 go_enter Try.func102, Try.ntmps102
 go_upto_if 11 with (first | ((with_reducible refine gate_dst (N := 2) rfl ?_); refine ev_box rfl HS (by first | (go_simp; done) | (go_simp; rfl)) rfl ?_; clear HS; (try clear F); intro g2 w2 HS; (try simp only [hpn, hpm] at HS); have F := HS.boxes; simp only [boxFacts, and_true] at F))
 by_cases c3 : (wrap64 (a1 - (a0.f2.size : Int))) < 0
 · replace H := zpos c3 H
   replace c3 := eq_true c3
   (try simp only [c3, dcn])
   obtain rfl := zsome H
   go_wp2
   go_ret
   exact ⟨rfl, HS.pick [] (by decide) (by rfl)⟩
 · replace H := zneg c3 H
   replace c3 := eq_false c3
   (try simp only [c3, dcn])
   obtain rfl := zsome H
   go_wp2
   go_ret
   exact ⟨rfl, HS.pick [] (by decide) (by rfl)⟩
/-! ### laws_szWaitS: function 36 -/
def laws_szWaitS.l0 : Nat → Int → Int → (List S154) → Option (Int)
  | 0, _, _, _ => none
  | k + 1, x12, x13, a0 => (if x13 < (a0.length : Int) then (if 0 ≤ x13 then (if x13 < (a0.length : Int) then ((laws_szWait.f (rd_T154 a0 x13) x12).bind fun t19 => (if t19 < 0 then (some (-1)) else (laws_szWaitS.l0 k t19 (wrap64 (x13 + 1)) a0))) else none) else none) else (some x12))
def laws_szWaitS.f (k : Nat) (a0 : (List S154)) (a1 : Int) : Option (Int) := (if (wrap64 (a1 - (a0.length : Int))) < 0 then (some (-1)) else (laws_szWaitS.l0 k (wrap64 (a1 - (a0.length : Int))) 0 a0))
set_option maxHeartbeats 16000000 in
theorem laws_szWaitS.calls {k : Nat} {a0 : (List S154)} {a1 : Int} {Ap0 : Option Addr} {np0 cp0 : Nat} {r : Int} {w : World} (h : laws_szWaitS.f k a0 a1 = some r) (gp0 : k154.C w Ap0 np0 a0) (lp0 : np0 ≤ cp0) :
    Calls Try.prog 36 #[.slice Ap0 np0 cp0, .int .i64 a1] w (fun e w' => e = .returned (.int .i64 r) ∧ Hp noFP w w' []) := by
 obtain rfl := C_len gp0
 have HS := Hp.start w
 have H := Aside0.mk h
 clear h
 unfold laws_szWaitS.f at H
 go_enter Try.func36, Try.ntmps36
 by_cases c1 : (wrap64 (a1 - (a0.length : Int))) < 0
 · replace H := zpos c1 H
   replace c1 := eq_true c1
   obtain rfl := zsome H
   go_wp2
   go_ret
   exact ⟨rfl, HS.pick [] (by decide) (by rfl)⟩
 · replace H := zneg c1 H
   replace c1 := eq_false c1
   go_wp2
   go_loopg [1, 5] k (fun kq v_1 v_5 w' => ∃ (x12 : Int) (x13 : Int), v_1 = .int .i64 x12 ∧ v_5 = .int .i64 x13 ∧ Aside0 (laws_szWaitS.l0 kq x12 x13 a0 = some r) ∧ Aside0 (kq ≤ k) ∧ Hp noFP w w' [])
   case atStart => exact ⟨_, _, rfl, rfl, H, ⟨Nat.le_refl _⟩, HS⟩
   case round =>
    clear HS H; (try clear F)
    obtain ⟨x12, x13, rfl, rfl, H, HKk11, HS⟩ := hrel
    cases gk with
    | zero => exact absurd H.out (by simp [laws_szWaitS.l0])
    | succ k11 =>
     simp only [laws_szWaitS.l0] at H
     by_cases c15 : x13 < (a0.length : Int)
     · replace H := zpos c15 H
       replace c15 := eq_true c15
       by_cases c16 : 0 ≤ x13
       case neg => exact zno c16 H
       replace H := zpos c16 H
       replace c16 := eq_true c16
       by_cases c17 : x13 < (a0.length : Int)
       case neg => exact zno c17 H
       replace H := zpos c17 H
       replace c17 := eq_true c17
       obtain ⟨ad18, rfl, e18_0, e18_1, e18_2, e18_3⟩ := at_T154 gp0 x13 (of_eq_true c16) (of_eq_true c17)
       have e18_0_18 := (HS.keepc e18_0)
       have e18_1_18 := (HS.keepc e18_1)
       have e18_2_18 := (HS.keepc e18_2)
       have e18_3_18 := (HS.keepc e18_3)
       replace H := zbind H; obtain ⟨t19, ht19, H⟩ := H
       go_upto_if 25 with (first | ((with_reducible refine gate_dst (N := 23) rfl ?_); refine ev_call rfl Try.func102 (by kernel_rfl) rfl #[.agg #[.int .i64 ((rd_T154 a0 x13).f0), .int .i64 ((rd_T154 a0 x13).f1), .string ((rd_T154 a0 x13).f2), .int .i64 ((rd_T154 a0 x13).f3)], .int .i64 x12] rfl (by simp only [List.map_toArray, List.map_cons, List.map_nil]; rfl) ?_; refine (laws_szWait.calls ht19.out).mono ?_; rintro _ wt19 ⟨rfl, HQ⟩; refine ⟨_, rfl, ?_⟩; replace HS := HS.call HQ; clear HQ; (try clear F); (try simp only [hpn, hpm] at HS)))
       by_cases c21 : t19 < 0
       · replace H := zpos c21 H
         replace c21 := eq_true c21
         (try simp only [c21, dcn])
         obtain rfl := zsome H
         go_wp2
         go_ret
         exact ⟨rfl, HS.pick [] (by decide) (by rfl)⟩
       · replace H := zneg c21 H
         replace c21 := eq_false c21
         (try simp only [c21, dcn])
         go_wp2
         go_roundg k11
         case measure => have := HKk11.out; omega
         case rel => exact ⟨_, _, rfl, rfl, H, ⟨by have := HKk11.out; omega⟩, HS.pick [] (by decide) (by rfl)⟩
     · replace H := zneg c15 H
       replace c15 := eq_false c15
       obtain rfl := zsome H
       go_wp2
       go_ret
       exact ⟨rfl, HS.pick [] (by decide) (by rfl)⟩
end Go.Proofs.Ytoaoncnbimcdgaa.F
