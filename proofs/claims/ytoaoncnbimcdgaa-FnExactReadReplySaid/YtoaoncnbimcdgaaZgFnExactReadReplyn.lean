/- Functions of the program and of the law, and that their calls do what is written here. -/
import Derived.Test.YtoaoncnbimcdgaaZgFnExactReadReplye
import Derived.Test.YtoaoncnbimcdgaaZgFnExactReadReplyl
import Derived.Test.YtoaoncnbimcdgaaZgFnExactReadReplym
namespace Go.Proofs.Ytoaoncnbimcdgaa.F
open Go.RowKit Go.Proofs.YtoaoncnbimcdgaaW.PrintWords Go.Proofs.YtoaoncnbimcdgaaW.PrintLast Go.Proofs.YtoaoncnbimcdgaaW.PrintMore Go.Proofs.Ytoaoncnbimcdgaa.Z
attribute [local go_sem] max2_int min2_int max_two min_two max_three min_three max_four min_four
set_option linter.unusedVariables false
set_option linter.unusedSimpArgs false
set_option maxRecDepth 100000
/-! ### laws_FnExactReadReply: function 4 -/
def laws_FnExactReadReply.f (k : Nat) (a0 : ByteArray) : Option (Bool) := (if 1048576 < (a0.size : Int) then (some true) else ((spec_ReadReply.f k a0).bind fun t2 => ((impl_ReadReply.f k a0).bind fun t9 => ((laws_eqReply.f k t9.1 t2.1).bind fun t16 => (if t16 = true then (if t9.2 = t2.2 then ((laws_markReply.f k t9.1 1).bind fun t20 => ((laws_heldReply.f k (⟨t9.1.f0, t9.1.f1, t9.1.f2, t9.1.f3, t9.1.f4, t9.1.f5, t20.2, t9.1.f7⟩ : S40) 1).bind fun t22 => (if t22 < 0 then (some false) else (if t22 = t20.1 then ((impl_ReadReply.f k a0).bind fun t26 => ((laws_eqReply.f k t26.1 t2.1).bind fun t33 => (if t33 = true then (if t26.2 = t2.2 then ((laws_heldReply.f k (⟨t9.1.f0, t9.1.f1, t9.1.f2, t9.1.f3, t9.1.f4, t9.1.f5, t20.2, t9.1.f7⟩ : S40) 1).bind fun t37 => (if t37 < 0 then (some false) else (if t37 = t20.1 then (some true) else (some false)))) else (some false)) else (some false)))) else (some false))))) else (some false)) else (some false))))))
set_option maxHeartbeats 16000000 in
theorem laws_FnExactReadReply.calls {k : Nat} {a0 : ByteArray} {r : Bool} {w : World} (h : laws_FnExactReadReply.f k a0 = some r) :
    Calls Try.prog 4 #[.string a0] w (fun e w' => e = .returned (.bool r) ∧ Hp noFP w w' []) := by
 have HS := Hp.start w
 have H := Aside0.mk h
 clear h
 unfold laws_FnExactReadReply.f at H
 go_enter Try.func4, Try.ntmps4
 by_cases c1 : 1048576 < (a0.size : Int)
 · replace H := zpos c1 H
   replace c1 := eq_true c1
   obtain rfl := zsome H
   go_wp2
   go_ret
   exact ⟨rfl, HS.pick [] (by decide) (by rfl)⟩
 · replace H := zneg c1 H
   replace c1 := eq_false c1
   replace H := zbind H; obtain ⟨t2, ht2, H⟩ := H
   replace H := zbind H; obtain ⟨t9, ht9, H⟩ := H
   replace H := zbind H; obtain ⟨t16, ht16, H⟩ := H
   by_cases c18 : t16 = true
   · replace H := zpos c18 H
     subst c18
     go_upto_if 32 with (first | ((with_reducible refine gate_dst (N := 16) rfl ?_); refine ev_call rfl Try.func14 (by kernel_rfl) rfl #[.string a0] rfl (by simp only [List.map_toArray, List.map_cons, List.map_nil]; rfl) ?_; refine (spec_ReadReply.calls ht2.out).mono ?_; rintro _ wt2 ⟨v3, rfl, HQ⟩; refine ⟨_, rfl, ?_⟩; replace HS := HS.call HQ; clear HQ; (try clear F); obtain ⟨B3, d3, rfl, m3⟩ := HS.form 0 rfl; (try simp only [hpn, hpm] at HS)) | ((with_reducible refine gate_dst (N := 3) rfl ?_); refine ev_box rfl HS (by first | (go_simp; done) | (go_simp; rfl)) rfl ?_; clear HS; (try clear F); intro g3 w3 HS; (try simp only [hpn, hpm] at HS); have F := HS.boxes; simp only [boxFacts, and_true] at F) | ((with_reducible refine gate_store (p := 3) rfl ?_); refine ev_store rfl 1 0 HS (seg := [.string t2.1.f0, .int .i64 t2.1.f1, .int .i64 t2.1.f2, .int .i64 t2.1.f3, .int .i64 t2.1.f4, .int .i64 t2.1.f5, .slice B3 t2.1.f6.length d3, .string t2.1.f7]) rfl rfl rfl rfl rfl rfl (by kernel_rfl) (by simp [wrt]) (by simp [Value.oneCell']) ?_; clear HS; (try clear F); intro w7 HS; (try simp only [hpn, hpm] at HS); have F := HS.boxes; simp only [boxFacts, and_true] at F) | ((with_reducible refine gate_dst (N := 21) rfl ?_); refine ev_call rfl Try.func15 (by kernel_rfl) rfl #[.string a0] rfl (by simp only [List.map_toArray, List.map_cons, List.map_nil]; rfl) ?_; refine (impl_ReadReply.calls ht9.out).mono ?_; rintro _ wt9 ⟨v10, rfl, HQ⟩; refine ⟨_, rfl, ?_⟩; replace HS := HS.call HQ; clear HQ; (try clear F); obtain ⟨B10, d10, rfl, m10⟩ := HS.form 2 rfl; (try simp only [hpn, hpm] at HS); have F := HS.boxes; simp only [boxFacts, and_true] at F) | ((with_reducible refine gate_dst (N := 5) rfl ?_); refine ev_box rfl HS (by first | (go_simp; done) | (go_simp; rfl)) rfl ?_; clear HS; (try clear F); intro g5 w5 HS; (try simp only [hpn, hpm] at HS); have F := HS.boxes; simp only [boxFacts, and_true] at F) | ((with_reducible refine gate_store (p := 5) rfl ?_); refine ev_store rfl 3 0 HS (seg := [.string t9.1.f0, .int .i64 t9.1.f1, .int .i64 t9.1.f2, .int .i64 t9.1.f3, .int .i64 t9.1.f4, .int .i64 t9.1.f5, .slice B10 t9.1.f6.length d10, .string t9.1.f7]) rfl rfl rfl rfl rfl rfl (by kernel_rfl) (by simp [wrt]) (by simp [Value.oneCell']) ?_; clear HS; (try clear F); intro w14 HS; (try simp only [hpn, hpm] at HS); have F := HS.boxes; simp only [boxFacts, and_true] at F) | ((with_reducible refine gate_dst (N := 26) rfl ?_); refine ev_call rfl Try.func16 (by kernel_rfl) rfl #[.agg #[.string t9.1.f0, .int .i64 t9.1.f1, .int .i64 t9.1.f2, .int .i64 t9.1.f3, .int .i64 t9.1.f4, .int .i64 t9.1.f5, .slice B10 t9.1.f6.length d10, .string t9.1.f7], .agg #[.string t2.1.f0, .int .i64 t2.1.f1, .int .i64 t2.1.f2, .int .i64 t2.1.f3, .int .i64 t2.1.f4, .int .i64 t2.1.f5, .slice B3 t2.1.f6.length d3, .string t2.1.f7]] rfl (by simp only [List.map_toArray, List.map_cons, List.map_nil]; rfl) ?_; refine (laws_eqReply.calls ht16.out (HS.rd 2 rfl) m10 (HS.rd 0 rfl) m3).mono ?_; rintro _ wt16 ⟨rfl, HQ⟩; refine ⟨_, rfl, ?_⟩; replace HS := HS.call HQ; clear HQ; (try clear F); (try simp only [hpn, hpm] at HS); have F := HS.boxes; simp only [boxFacts, and_true] at F))
     by_cases c19 : t9.2 = t2.2
     · replace H := zpos c19 H
       have c19a := beq_iff_eq.mpr c19
       have c19b := bne_eq_false_iff_eq.mpr c19
       clear c19
       (try simp only [c19a, c19b, dcn])
       replace H := zbind H; obtain ⟨t20, ht20, H⟩ := H
       replace H := zbind H; obtain ⟨t22, ht22, H⟩ := H
       go_upto_if 40 with (first | ((with_reducible refine gate_dst (N := 35) rfl ?_); refine HS.lend [2] (by decide) [.own (Zd.slice 109 q109) t9.1.f6 [.slice B10 t9.1.f6.length d10]] rfl (fun A' HL HD HA HB => ?_); refine ev_call rfl Try.func17 (by kernel_rfl) rfl #[.agg #[.string t9.1.f0, .int .i64 t9.1.f1, .int .i64 t9.1.f2, .int .i64 t9.1.f3, .int .i64 t9.1.f4, .int .i64 t9.1.f5, .slice B10 t9.1.f6.length d10, .string t9.1.f7], .int .i64 1] rfl (by simp only [List.map_toArray, List.map_cons, List.map_nil]; rfl) ?_; refine (laws_markReply.calls ht20.out HA).mono ?_; rintro _ wt20 ⟨rfl, HQ⟩; refine ⟨_, rfl, ?_⟩; replace HS := HB _ _ HQ (Nat.le_of_ble_eq_true rfl); clear HQ HA HB HL HD; (try simp only [hpn, hpm] at HS); (try clear F); (try simp only [hpn, hpm] at HS); have F := HS.boxes; simp only [boxFacts, and_true] at F) | ((with_reducible refine gate_dst (N := 38) rfl ?_); refine ev_call rfl Try.func18 (by kernel_rfl) rfl #[.agg #[.string t9.1.f0, .int .i64 t9.1.f1, .int .i64 t9.1.f2, .int .i64 t9.1.f3, .int .i64 t9.1.f4, .int .i64 t9.1.f5, .slice B10 t9.1.f6.length d10, .string t9.1.f7], .int .i64 1] rfl (by simp only [List.map_toArray, List.map_cons, List.map_nil]; rfl) ?_; refine (laws_heldReply.calls ht22.out (HS.rd 2 rfl) m10).mono ?_; rintro _ wt22 ⟨rfl, HQ⟩; refine ⟨_, rfl, ?_⟩; replace HS := HS.call HQ; clear HQ; (try clear F); (try simp only [hpn, hpm] at HS); have F := HS.boxes; simp only [boxFacts, and_true] at F))
       by_cases c24 : t22 < 0
       · replace H := zpos c24 H
         replace c24 := eq_true c24
         (try simp only [c24, dcn])
         obtain rfl := zsome H
         go_wp2
         go_ret
         exact ⟨rfl, HS.pick [] (by decide) (by rfl)⟩
       · replace H := zneg c24 H
         replace c24 := eq_false c24
         (try simp only [c24, dcn])
         by_cases c25 : t22 = t20.1
         · replace H := zpos c25 H
           have c25a := beq_iff_eq.mpr c25
           have c25b := bne_eq_false_iff_eq.mpr c25
           clear c25
           replace H := zbind H; obtain ⟨t26, ht26, H⟩ := H
           replace H := zbind H; obtain ⟨t33, ht33, H⟩ := H
           by_cases c35 : t33 = true
           · replace H := zpos c35 H
             subst c35
             go_upto_if 57 with (first | ((with_reducible refine gate_dst (N := 46) rfl ?_); refine ev_call rfl Try.func15 (by kernel_rfl) rfl #[.string a0] rfl (by simp only [List.map_toArray, List.map_cons, List.map_nil]; rfl) ?_; refine (impl_ReadReply.calls ht26.out).mono ?_; rintro _ wt26 ⟨v27, rfl, HQ⟩; refine ⟨_, rfl, ?_⟩; replace HS := HS.call HQ; clear HQ; (try clear F); obtain ⟨B27, d27, rfl, m27⟩ := HS.form 4 rfl; (try simp only [hpn, hpm] at HS); have F := HS.boxes; simp only [boxFacts, and_true] at F) | ((with_reducible refine gate_dst (N := 9) rfl ?_); refine ev_box rfl HS (by first | (go_simp; done) | (go_simp; rfl)) rfl ?_; clear HS; (try clear F); intro g9 w9 HS; (try simp only [hpn, hpm] at HS); have F := HS.boxes; simp only [boxFacts, and_true] at F) | ((with_reducible refine gate_store (p := 9) rfl ?_); refine ev_store rfl 5 0 HS (seg := [.string t26.1.f0, .int .i64 t26.1.f1, .int .i64 t26.1.f2, .int .i64 t26.1.f3, .int .i64 t26.1.f4, .int .i64 t26.1.f5, .slice B27 t26.1.f6.length d27, .string t26.1.f7]) rfl rfl rfl rfl rfl rfl (by kernel_rfl) (by simp [wrt]) (by simp [Value.oneCell']) ?_; clear HS; (try clear F); intro w31 HS; (try simp only [hpn, hpm] at HS); have F := HS.boxes; simp only [boxFacts, and_true] at F) | ((with_reducible refine gate_dst (N := 51) rfl ?_); refine ev_call rfl Try.func16 (by kernel_rfl) rfl #[.agg #[.string t26.1.f0, .int .i64 t26.1.f1, .int .i64 t26.1.f2, .int .i64 t26.1.f3, .int .i64 t26.1.f4, .int .i64 t26.1.f5, .slice B27 t26.1.f6.length d27, .string t26.1.f7], .agg #[.string t2.1.f0, .int .i64 t2.1.f1, .int .i64 t2.1.f2, .int .i64 t2.1.f3, .int .i64 t2.1.f4, .int .i64 t2.1.f5, .slice B3 t2.1.f6.length d3, .string t2.1.f7]] rfl (by simp only [List.map_toArray, List.map_cons, List.map_nil]; rfl) ?_; refine (laws_eqReply.calls ht33.out (HS.rd 4 rfl) m27 (HS.rd 0 rfl) m3).mono ?_; rintro _ wt33 ⟨rfl, HQ⟩; refine ⟨_, rfl, ?_⟩; replace HS := HS.call HQ; clear HQ; (try clear F); (try simp only [hpn, hpm] at HS); have F := HS.boxes; simp only [boxFacts, and_true] at F))
             by_cases c36 : t26.2 = t2.2
             · replace H := zpos c36 H
               have c36a := beq_iff_eq.mpr c36
               have c36b := bne_eq_false_iff_eq.mpr c36
               clear c36
               (try simp only [c36a, c36b, dcn])
               replace H := zbind H; obtain ⟨t37, ht37, H⟩ := H
               go_upto_if 62 with (first | ((with_reducible refine gate_dst (N := 60) rfl ?_); refine ev_call rfl Try.func18 (by kernel_rfl) rfl #[.agg #[.string t9.1.f0, .int .i64 t9.1.f1, .int .i64 t9.1.f2, .int .i64 t9.1.f3, .int .i64 t9.1.f4, .int .i64 t9.1.f5, .slice B10 t9.1.f6.length d10, .string t9.1.f7], .int .i64 1] rfl (by simp only [List.map_toArray, List.map_cons, List.map_nil]; rfl) ?_; refine (laws_heldReply.calls ht37.out (HS.rd 2 rfl) m10).mono ?_; rintro _ wt37 ⟨rfl, HQ⟩; refine ⟨_, rfl, ?_⟩; replace HS := HS.call HQ; clear HQ; (try clear F); (try simp only [hpn, hpm] at HS); have F := HS.boxes; simp only [boxFacts, and_true] at F))
               by_cases c39 : t37 < 0
               · replace H := zpos c39 H
                 replace c39 := eq_true c39
                 (try simp only [c39, dcn])
                 obtain rfl := zsome H
                 go_wp2
                 go_ret
                 exact ⟨rfl, HS.pick [] (by decide) (by rfl)⟩
               · replace H := zneg c39 H
                 replace c39 := eq_false c39
                 (try simp only [c39, dcn])
                 by_cases c40 : t37 = t20.1
                 · replace H := zpos c40 H
                   have c40a := beq_iff_eq.mpr c40
                   have c40b := bne_eq_false_iff_eq.mpr c40
                   clear c40
                   obtain rfl := zsome H
                   go_wp2
                   go_ret
                   exact ⟨rfl, HS.pick [] (by decide) (by rfl)⟩
                 · replace H := zneg c40 H
                   have c40a := beq_eq_false_iff_ne.mpr c40
                   have c40b := bne_iff_ne.mpr c40
                   clear c40
                   obtain rfl := zsome H
                   go_wp2
                   go_ret
                   exact ⟨rfl, HS.pick [] (by decide) (by rfl)⟩
             · replace H := zneg c36 H
               have c36a := beq_eq_false_iff_ne.mpr c36
               have c36b := bne_iff_ne.mpr c36
               clear c36
               (try simp only [c36a, c36b, dcn])
               obtain rfl := zsome H
               go_wp2
               go_ret
               exact ⟨rfl, HS.pick [] (by decide) (by rfl)⟩
           · replace H := zneg c35 H
             replace c35 := eq_false_of_ne_true c35
             subst c35
             obtain rfl := zsome H
             go_wp2_with (first | ((with_reducible refine gate_dst (N := 46) rfl ?_); refine ev_call rfl Try.func15 (by kernel_rfl) rfl #[.string a0] rfl (by simp only [List.map_toArray, List.map_cons, List.map_nil]; rfl) ?_; refine (impl_ReadReply.calls ht26.out).mono ?_; rintro _ wt26 ⟨v27, rfl, HQ⟩; refine ⟨_, rfl, ?_⟩; replace HS := HS.call HQ; clear HQ; (try clear F); obtain ⟨B27, d27, rfl, m27⟩ := HS.form 4 rfl; (try simp only [hpn, hpm] at HS); have F := HS.boxes; simp only [boxFacts, and_true] at F) | ((with_reducible refine gate_dst (N := 9) rfl ?_); refine ev_box rfl HS (by first | (go_simp; done) | (go_simp; rfl)) rfl ?_; clear HS; (try clear F); intro g9 w9 HS; (try simp only [hpn, hpm] at HS); have F := HS.boxes; simp only [boxFacts, and_true] at F) | ((with_reducible refine gate_store (p := 9) rfl ?_); refine ev_store rfl 5 0 HS (seg := [.string t26.1.f0, .int .i64 t26.1.f1, .int .i64 t26.1.f2, .int .i64 t26.1.f3, .int .i64 t26.1.f4, .int .i64 t26.1.f5, .slice B27 t26.1.f6.length d27, .string t26.1.f7]) rfl rfl rfl rfl rfl rfl (by kernel_rfl) (by simp [wrt]) (by simp [Value.oneCell']) ?_; clear HS; (try clear F); intro w31 HS; (try simp only [hpn, hpm] at HS); have F := HS.boxes; simp only [boxFacts, and_true] at F) | ((with_reducible refine gate_dst (N := 51) rfl ?_); refine ev_call rfl Try.func16 (by kernel_rfl) rfl #[.agg #[.string t26.1.f0, .int .i64 t26.1.f1, .int .i64 t26.1.f2, .int .i64 t26.1.f3, .int .i64 t26.1.f4, .int .i64 t26.1.f5, .slice B27 t26.1.f6.length d27, .string t26.1.f7], .agg #[.string t2.1.f0, .int .i64 t2.1.f1, .int .i64 t2.1.f2, .int .i64 t2.1.f3, .int .i64 t2.1.f4, .int .i64 t2.1.f5, .slice B3 t2.1.f6.length d3, .string t2.1.f7]] rfl (by simp only [List.map_toArray, List.map_cons, List.map_nil]; rfl) ?_; refine (laws_eqReply.calls ht33.out (HS.rd 4 rfl) m27 (HS.rd 0 rfl) m3).mono ?_; rintro _ wt33 ⟨rfl, HQ⟩; refine ⟨_, rfl, ?_⟩; replace HS := HS.call HQ; clear HQ; (try clear F); (try simp only [hpn, hpm] at HS); have F := HS.boxes; simp only [boxFacts, and_true] at F))
             go_ret
             exact ⟨rfl, HS.pick [] (by decide) (by rfl)⟩
         · replace H := zneg c25 H
           have c25a := beq_eq_false_iff_ne.mpr c25
           have c25b := bne_iff_ne.mpr c25
           clear c25
           obtain rfl := zsome H
           go_wp2
           go_ret
           exact ⟨rfl, HS.pick [] (by decide) (by rfl)⟩
     · replace H := zneg c19 H
       have c19a := beq_eq_false_iff_ne.mpr c19
       have c19b := bne_iff_ne.mpr c19
       clear c19
       (try simp only [c19a, c19b, dcn])
       obtain rfl := zsome H
       go_wp2
       go_ret
       exact ⟨rfl, HS.pick [] (by decide) (by rfl)⟩
   · replace H := zneg c18 H
     replace c18 := eq_false_of_ne_true c18
     subst c18
     obtain rfl := zsome H
     go_wp2_with (first | ((with_reducible refine gate_dst (N := 16) rfl ?_); refine ev_call rfl Try.func14 (by kernel_rfl) rfl #[.string a0] rfl (by simp only [List.map_toArray, List.map_cons, List.map_nil]; rfl) ?_; refine (spec_ReadReply.calls ht2.out).mono ?_; rintro _ wt2 ⟨v3, rfl, HQ⟩; refine ⟨_, rfl, ?_⟩; replace HS := HS.call HQ; clear HQ; (try clear F); obtain ⟨B3, d3, rfl, m3⟩ := HS.form 0 rfl; (try simp only [hpn, hpm] at HS)) | ((with_reducible refine gate_dst (N := 3) rfl ?_); refine ev_box rfl HS (by first | (go_simp; done) | (go_simp; rfl)) rfl ?_; clear HS; (try clear F); intro g3 w3 HS; (try simp only [hpn, hpm] at HS); have F := HS.boxes; simp only [boxFacts, and_true] at F) | ((with_reducible refine gate_store (p := 3) rfl ?_); refine ev_store rfl 1 0 HS (seg := [.string t2.1.f0, .int .i64 t2.1.f1, .int .i64 t2.1.f2, .int .i64 t2.1.f3, .int .i64 t2.1.f4, .int .i64 t2.1.f5, .slice B3 t2.1.f6.length d3, .string t2.1.f7]) rfl rfl rfl rfl rfl rfl (by kernel_rfl) (by simp [wrt]) (by simp [Value.oneCell']) ?_; clear HS; (try clear F); intro w7 HS; (try simp only [hpn, hpm] at HS); have F := HS.boxes; simp only [boxFacts, and_true] at F) | ((with_reducible refine gate_dst (N := 21) rfl ?_); refine ev_call rfl Try.func15 (by kernel_rfl) rfl #[.string a0] rfl (by simp only [List.map_toArray, List.map_cons, List.map_nil]; rfl) ?_; refine (impl_ReadReply.calls ht9.out).mono ?_; rintro _ wt9 ⟨v10, rfl, HQ⟩; refine ⟨_, rfl, ?_⟩; replace HS := HS.call HQ; clear HQ; (try clear F); obtain ⟨B10, d10, rfl, m10⟩ := HS.form 2 rfl; (try simp only [hpn, hpm] at HS); have F := HS.boxes; simp only [boxFacts, and_true] at F) | ((with_reducible refine gate_dst (N := 5) rfl ?_); refine ev_box rfl HS (by first | (go_simp; done) | (go_simp; rfl)) rfl ?_; clear HS; (try clear F); intro g5 w5 HS; (try simp only [hpn, hpm] at HS); have F := HS.boxes; simp only [boxFacts, and_true] at F) | ((with_reducible refine gate_store (p := 5) rfl ?_); refine ev_store rfl 3 0 HS (seg := [.string t9.1.f0, .int .i64 t9.1.f1, .int .i64 t9.1.f2, .int .i64 t9.1.f3, .int .i64 t9.1.f4, .int .i64 t9.1.f5, .slice B10 t9.1.f6.length d10, .string t9.1.f7]) rfl rfl rfl rfl rfl rfl (by kernel_rfl) (by simp [wrt]) (by simp [Value.oneCell']) ?_; clear HS; (try clear F); intro w14 HS; (try simp only [hpn, hpm] at HS); have F := HS.boxes; simp only [boxFacts, and_true] at F) | ((with_reducible refine gate_dst (N := 26) rfl ?_); refine ev_call rfl Try.func16 (by kernel_rfl) rfl #[.agg #[.string t9.1.f0, .int .i64 t9.1.f1, .int .i64 t9.1.f2, .int .i64 t9.1.f3, .int .i64 t9.1.f4, .int .i64 t9.1.f5, .slice B10 t9.1.f6.length d10, .string t9.1.f7], .agg #[.string t2.1.f0, .int .i64 t2.1.f1, .int .i64 t2.1.f2, .int .i64 t2.1.f3, .int .i64 t2.1.f4, .int .i64 t2.1.f5, .slice B3 t2.1.f6.length d3, .string t2.1.f7]] rfl (by simp only [List.map_toArray, List.map_cons, List.map_nil]; rfl) ?_; refine (laws_eqReply.calls ht16.out (HS.rd 2 rfl) m10 (HS.rd 0 rfl) m3).mono ?_; rintro _ wt16 ⟨rfl, HQ⟩; refine ⟨_, rfl, ?_⟩; replace HS := HS.call HQ; clear HQ; (try clear F); (try simp only [hpn, hpm] at HS); have F := HS.boxes; simp only [boxFacts, and_true] at F))
     go_ret
     exact ⟨rfl, HS.pick [] (by decide) (by rfl)⟩
end Go.Proofs.Ytoaoncnbimcdgaa.F
