/- Functions of the program and of the law, and that their calls do what is written here. -/
import Derived.Test.YtnpokacipeobdaaDoorZgFnExactCrlOka
import Derived.Test.YtnpokacipeobdaaDoorZgFnExactCrlOkb
import Derived.Test.YtnpokacipeobdaaDoorZgFnExactCrlOkc
import Derived.Test.YtnpokacipeobdaaDoorZgFnExactCrlTextb
import Derived.Test.YtnpokacipeobdaaDoorZgFnExactCrlTextc
import Derived.Test.YtnpokacipeobdaaDoorZgFnExactCrlTextd
namespace Go.Proofs.YtnpokacipeobdaaDoor.F
open Go.RowKit Go.Proofs.YtnpokacipeobdaaDoorW.PrintWords Go.Proofs.YtnpokacipeobdaaDoorW.PrintLast Go.Proofs.YtnpokacipeobdaaDoorW.PrintMore Go.Proofs.YtnpokacipeobdaaDoor.Z
attribute [local go_sem] max2_int min2_int max_two min_two max_three min_three max_four min_four
set_option linter.unusedVariables false
set_option linter.unusedSimpArgs false
set_option maxRecDepth 100000
/-! ### impl_crlItem: function 61 -/
def impl_crlItem.f (k : Nat) (a0 : S29) : Option (S94) := ((impl_TextItem.f a0.f0).bind fun t102001 => ((impl_IntItem.f k a0.f1).bind fun t105001 => ((impl_IntItem.f k a0.f2).bind fun t108001 => ((impl_IntItem.f k a0.f3).bind fun t111001 => ((impl_IntItem.f k a0.f4).bind fun t114001 => ((impl_Rev_0.f k a0.f5).bind fun t118001 => ((impl_ListItem.f k ([t102001, t105001, t108001, t111001, t114001, t118001] : List S94)).bind fun t120001 => (some (⟨t120001.f0, t120001.f1, t120001.f2⟩ : S94)))))))))
def impl_crlItem.T2 : Bool × List (List Nat × List Nat) := (true, [([], []), ([0], [0]), ([1], [1]), ([], []), ([3], [3]), ([4, 2], [4]), ([], []), ([6], [6]), ([7, 5], [7]), ([], []), ([9], [9]), ([10, 8], [10]), ([], []), ([12], [12]), ([13, 11], [13]), ([], []), ([15], [15]), ([], []), ([16, 17, 14], [16, 17]), ([2, 5, 8, 11, 14, 18], [2, 5, 8, 11, 14, 18]), ([19, 18], [19]), ([20, 20, 0, 1, 2, 3, 4, 5, 6, 7, 8, 9, 10, 11, 12, 13, 14, 15, 16, 17, 18, 19, 20], [20])])
theorem impl_crlItem.tT2 : rtab .any (opsOf Tryd.f61 2) = impl_crlItem.T2 := by kernel_rfl
set_option maxHeartbeats 16000000 in
theorem impl_crlItem.calls {k : Nat} {a0 : S29} {Ap0 : Option Addr} {np0 cp0 : Nat} {r : S94} {w : World} (h : impl_crlItem.f k a0 = some r) (gp0 : k74.C w Ap0 np0 a0.f5) (lp0 : np0 ≤ cp0) :
    Calls Tryd.prog 61 #[.agg #[.string a0.f0, .int .i64 a0.f1, .int .i64 a0.f2, .int .i64 a0.f3, .int .i64 a0.f4, .slice Ap0 np0 cp0, .string a0.f6]] w (fun e w' => ∃ v0_ : Value, e = .returned (.agg #[.int .i64 r.f0, .string r.f1, v0_]) ∧ Hp noFP w w' [.own (Zd.slice 94 q94) r.f2 [v0_]]) := by
 obtain rfl := C_len gp0
 have HS := Hp.start w
 have H := Aside0.mk h
 clear h
 unfold impl_crlItem.f at H
 go_enter Tryd.func61, Tryd.ntmps61
 go_wp2_with (first | ((with_reducible refine gate_dst (N := 1) rfl ?_); refine ev_box rfl HS (by first | (go_simp; done) | (go_simp; rfl)) rfl ?_; clear HS; (try clear F); intro g1 w1 HS; (try simp only [hpn, hpm] at HS); have F := HS.boxes; simp only [bxn] at F) | ((with_reducible refine gate_dst (N := 2) rfl ?_); refine ev_box rfl HS (by first | (go_simp; done) | (go_simp; rfl)) rfl ?_; clear HS; (try clear F); intro g2 w2 HS; (try simp only [hpn, hpm] at HS); have F := HS.boxes; simp only [bxn] at F))
 replace H := zbind H; obtain ⟨t102001, ht102001, H⟩ := H
 replace H := zbind H; obtain ⟨t105001, ht105001, H⟩ := H
 replace H := zbind H; obtain ⟨t108001, ht108001, H⟩ := H
 replace H := zbind H; obtain ⟨t111001, ht111001, H⟩ := H
 replace H := zbind H; obtain ⟨t114001, ht114001, H⟩ := H
 replace H := zbind H; obtain ⟨t118001, ht118001, H⟩ := H
 replace H := zbind H; obtain ⟨t120001, ht120001, H⟩ := H
 refine dr_start [21] HS #[false, false, false, false, false, false, false, false, false, false, false, false, false, false, false, false, false, false, false, false, false, false] (by kernel_rfl) rfl rfl impl_crlItem.tT2 (fun w6 HT HS HH => ?_)
 (try clear F)
 refine drq_of [(0, some 4), (1, some 5), (3, some 7), (4, some 8), (6, some 10), (7, some 11), (9, some 13), (10, some 14), (12, some 16), (13, some 17), (15, some 19), (16, some 20), (17, some 21)] ?_
 repeat (first | (refine drq_pure HT (v := ?_) (a' := ?_) rfl rfl (by kernel_rfl) (fun _ _ _ h => h) (.inl ⟨by rfl, ?_⟩) ?_ ?_; rotate_left; (intro w'; go_simp; with_reducible rfl); rotate_left; (simp only [Act.put, ptn]; rfl)) | (refine drq_take HT HH (v := ?_) (a' := ?_) rfl rfl (by kernel_rfl) (fun _ _ _ h => h) (.inl ⟨by rfl, ?_⟩) ?_ ?_; rotate_left; (rintro w' ⟨rs', HS'⟩; have F := HS'.boxes; simp only [bxn, List.cons_append, List.nil_append] at F; go_simp; with_reducible rfl); rotate_left; (simp only [Act.put, ptn]; rfl)))
 refine drq_end ?_
 refine dr_one 2 HT rfl (by kernel_rfl) (by decide) (fun K hK => ?_)
 refine goes_ Tryd.func88 (by kernel_rfl) rfl #[.string a0.f0] (by rfl) rfl rfl (by simp only [mpn]; rfl) ?_; refine (impl_TextItem.calls ht102001.out).mono ?_; rintro _ wt102001 ⟨v102002, rfl, HQ⟩; refine ⟨_, rfl, ?_⟩; replace HS := HS.call HQ; clear HQ; (try clear F); obtain ⟨B102002, d102002, rfl, m102002⟩ := HS.form 2 rfl
 (try simp only [hpn, hpm] at HS)
 have F := HS.boxes; simp only [bxn] at F
 refine hK.out _ _ ⟨_, HS⟩ (fun HH => ?_)
 clear hK K
 refine norm_ (a' := ?_) ?_ ?_
 rotate_left
 · show Act.put _ (some 6) _ = _; simp only [Act.put, ptn]; rfl
 refine dr_one 5 HT rfl (by kernel_rfl) (by decide) (fun K hK => ?_)
 refine goes_ Tryd.func87 (by kernel_rfl) rfl #[.int .i64 a0.f1] (by rfl) rfl rfl (by simp only [mpn]; rfl) ?_; refine (impl_IntItem.calls ht105001.out).mono ?_; rintro _ wt105001 ⟨v105002, rfl, HQ⟩; refine ⟨_, rfl, ?_⟩; replace HS := HS.call HQ; clear HQ; (try clear F); obtain ⟨B105002, d105002, rfl, m105002⟩ := HS.form 3 rfl
 (try simp only [hpn, hpm] at HS)
 have F := HS.boxes; simp only [bxn] at F
 refine hK.out _ _ ⟨_, HS⟩ (fun HH => ?_)
 clear hK K
 refine norm_ (a' := ?_) ?_ ?_
 rotate_left
 · show Act.put _ (some 9) _ = _; simp only [Act.put, ptn]; rfl
 refine dr_one 8 HT rfl (by kernel_rfl) (by decide) (fun K hK => ?_)
 refine goes_ Tryd.func87 (by kernel_rfl) rfl #[.int .i64 a0.f2] (by rfl) rfl rfl (by simp only [mpn]; rfl) ?_; refine (impl_IntItem.calls ht108001.out).mono ?_; rintro _ wt108001 ⟨v108002, rfl, HQ⟩; refine ⟨_, rfl, ?_⟩; replace HS := HS.call HQ; clear HQ; (try clear F); obtain ⟨B108002, d108002, rfl, m108002⟩ := HS.form 4 rfl
 (try simp only [hpn, hpm] at HS)
 have F := HS.boxes; simp only [bxn] at F
 refine hK.out _ _ ⟨_, HS⟩ (fun HH => ?_)
 clear hK K
 refine norm_ (a' := ?_) ?_ ?_
 rotate_left
 · show Act.put _ (some 12) _ = _; simp only [Act.put, ptn]; rfl
 refine dr_one 11 HT rfl (by kernel_rfl) (by decide) (fun K hK => ?_)
 refine goes_ Tryd.func87 (by kernel_rfl) rfl #[.int .i64 a0.f3] (by rfl) rfl rfl (by simp only [mpn]; rfl) ?_; refine (impl_IntItem.calls ht111001.out).mono ?_; rintro _ wt111001 ⟨v111002, rfl, HQ⟩; refine ⟨_, rfl, ?_⟩; replace HS := HS.call HQ; clear HQ; (try clear F); obtain ⟨B111002, d111002, rfl, m111002⟩ := HS.form 5 rfl
 (try simp only [hpn, hpm] at HS)
 have F := HS.boxes; simp only [bxn] at F
 refine hK.out _ _ ⟨_, HS⟩ (fun HH => ?_)
 clear hK K
 refine norm_ (a' := ?_) ?_ ?_
 rotate_left
 · show Act.put _ (some 15) _ = _; simp only [Act.put, ptn]; rfl
 refine dr_one 14 HT rfl (by kernel_rfl) (by decide) (fun K hK => ?_)
 refine goes_ Tryd.func87 (by kernel_rfl) rfl #[.int .i64 a0.f4] (by rfl) rfl rfl (by simp only [mpn]; rfl) ?_; refine (impl_IntItem.calls ht114001.out).mono ?_; rintro _ wt114001 ⟨v114002, rfl, HQ⟩; refine ⟨_, rfl, ?_⟩; replace HS := HS.call HQ; clear HQ; (try clear F); obtain ⟨B114002, d114002, rfl, m114002⟩ := HS.form 6 rfl
 (try simp only [hpn, hpm] at HS)
 have F := HS.boxes; simp only [bxn] at F
 refine hK.out _ _ ⟨_, HS⟩ (fun HH => ?_)
 clear hK K
 refine norm_ (a' := ?_) ?_ ?_
 rotate_left
 · show Act.put _ (some 18) _ = _; simp only [Act.put, ptn]; rfl
 refine dr_one 18 HT rfl (by kernel_rfl) (by decide) (fun K hK => ?_)
 refine goes_ Tryd.func89 (by kernel_rfl) rfl #[.slice Ap0 a0.f5.length cp0, .func (.func 86) #[] #[]] (by rfl) rfl rfl (by simp only [mpn]; rfl) ?_; refine (impl_Rev_0.calls ht118001.out (HS.ro gp0) lp0).mono ?_; rintro _ wt118001 ⟨v118002, rfl, HQ⟩; refine ⟨_, rfl, ?_⟩; replace HS := HS.call HQ; clear HQ; (try clear F); obtain ⟨B118002, d118002, rfl, m118002⟩ := HS.form 7 rfl
 (try simp only [hpn, hpm] at HS)
 have F := HS.boxes; simp only [bxn] at F
 refine hK.out _ _ ⟨_, HS⟩ (fun HH => ?_)
 clear hK K
 refine norm_ (a' := ?_) ?_ ?_
 rotate_left
 · show Act.put _ (some 22) _ = _; simp only [Act.put, ptn]; rfl
 refine dr_one 19 HT rfl (by kernel_rfl) (by decide) (fun K hK => ?_)
 refine if_wp (by rfl) ?_; refine wp_lit q94 [2, 3, 4, 5, 6, 7] ([t102001, t105001, t108001, t111001, t114001, t118001] : List S94) ([.int .i64 t102001.f0, .string t102001.f1, .slice B102002 t102001.f2.length d102002] ++ ([.int .i64 t105001.f0, .string t105001.f1, .slice B105002 t105001.f2.length d105002] ++ ([.int .i64 t108001.f0, .string t108001.f1, .slice B108002 t108001.f2.length d108002] ++ ([.int .i64 t111001.f0, .string t111001.f1, .slice B111002 t111001.f2.length d111002] ++ ([.int .i64 t114001.f0, .string t114001.f1, .slice B114002 t114001.f2.length d114002] ++ ([.int .i64 t118001.f0, .string t118001.f1, .slice B118002 t118001.f2.length d118002] ++ [])))))) HS (by first | (go_simp; done) | (go_simp; rfl)) rfl rfl (Nat.le_of_ble_eq_true rfl) (MadeL.cons (js1 := [2]) (c := [.int .i64 t102001.f0, .string t102001.f1, .slice B102002 t102001.f2.length d102002]) rfl (fun S hd hh => q94_pack (x := t102001) hd (hh 2 (.own (Zd.slice 94 q94) t102001.f2 [.slice B102002 t102001.f2.length d102002]) rfl) (by decide)) (MadeL.cons (js1 := [3]) (c := [.int .i64 t105001.f0, .string t105001.f1, .slice B105002 t105001.f2.length d105002]) rfl (fun S hd hh => q94_pack (x := t105001) hd (hh 3 (.own (Zd.slice 94 q94) t105001.f2 [.slice B105002 t105001.f2.length d105002]) rfl) (by decide)) (MadeL.cons (js1 := [4]) (c := [.int .i64 t108001.f0, .string t108001.f1, .slice B108002 t108001.f2.length d108002]) rfl (fun S hd hh => q94_pack (x := t108001) hd (hh 4 (.own (Zd.slice 94 q94) t108001.f2 [.slice B108002 t108001.f2.length d108002]) rfl) (by decide)) (MadeL.cons (js1 := [5]) (c := [.int .i64 t111001.f0, .string t111001.f1, .slice B111002 t111001.f2.length d111002]) rfl (fun S hd hh => q94_pack (x := t111001) hd (hh 5 (.own (Zd.slice 94 q94) t111001.f2 [.slice B111002 t111001.f2.length d111002]) rfl) (by decide)) (MadeL.cons (js1 := [6]) (c := [.int .i64 t114001.f0, .string t114001.f1, .slice B114002 t114001.f2.length d114002]) rfl (fun S hd hh => q94_pack (x := t114001) hd (hh 6 (.own (Zd.slice 94 q94) t114001.f2 [.slice B114002 t114001.f2.length d114002]) rfl) (by decide)) (MadeL.cons (js1 := [7]) (c := [.int .i64 t118001.f0, .string t118001.f1, .slice B118002 t118001.f2.length d118002]) rfl (fun S hd hh => q94_pack (x := t118001) hd (hh 7 (.own (Zd.slice 94 q94) t118001.f2 [.slice B118002 t118001.f2.length d118002]) rfl) (by decide)) MadeL.nil (by decide)) (by decide)) (by decide)) (by decide)) (by decide)) (by decide)) ?_; clear HS; (try clear F); intro v119001 w119001 HS; obtain ⟨B119001, d119001, rfl, m119001⟩ := HS.formn 6 8 rfl rfl
 (try simp only [hpn, hpm] at HS)
 have F := HS.boxes; simp only [bxn] at F
 refine hK.out _ _ ⟨_, HS⟩ (fun HH => ?_)
 clear hK K
 refine norm_ (a' := ?_) ?_ ?_
 rotate_left
 · show Act.put _ (some 23) _ = _; simp only [Act.put, ptn]; rfl
 refine dr_one 20 HT rfl (by kernel_rfl) (by decide) (fun K hK => ?_)
 refine goes_ Tryd.func60 (by kernel_rfl) rfl #[.slice B119001 6 d119001] (by rfl) rfl rfl (by simp only [mpn]; rfl) ?_; refine (impl_ListItem.calls ht120001.out (HS.rd 8 rfl) m119001).mono ?_; rintro _ wt120001 ⟨v120002, rfl, HQ⟩; refine ⟨_, rfl, ?_⟩; replace HS := HS.call HQ; clear HQ; (try clear F); obtain ⟨B120002, d120002, rfl, m120002⟩ := HS.form 9 rfl
 (try simp only [hpn, hpm] at HS)
 have F := HS.boxes; simp only [bxn] at F
 refine hK.out _ _ ⟨_, HS⟩ (fun HH => ?_)
 clear hK K
 refine norm_ (a' := ?_) ?_ ?_
 rotate_left
 · show Act.put _ (some 24) _ = _; simp only [Act.put, ptn]; rfl
 refine dr_last 21 HT rfl (by kernel_rfl) (by decide) (fun K hK => ?_)
 refine if_wp (by rfl) ?_; refine wp_store 1 0 HS (seg := [.int .i64 t120001.f0, .string t120001.f1, .slice B120002 t120001.f2.length d120002]) rfl rfl rfl rfl rfl rfl (by kernel_rfl) (by simp [wrt]) (by simp [Value.oneCell']) ?_; clear HS; (try clear F); intro w121001 HS
 (try simp only [hpn, hpm] at HS)
 have F := HS.boxes; simp only [bxn] at F
 refine hK.out _ _ ?_
 clear hK K
 refine done_ (done_of HT.out (by kernel_rfl)) ?_
 (try clear F)
 have F := HS.boxes; simp only [bxn] at F
 obtain rfl := zsome H
 go_wp2
 exact bodyPost_ret (results_single rfl (.cell _ _ _ _ _ rfl (HS.boxAt (i := 1) rfl) Tryd.underlying94 rfl (by kernel_rfl) .nil)) rfl ⟨_, rfl, HS.pick [9] (by decide) (by rfl)⟩
/-! ### impl_bytesItem: function 62 -/
def impl_bytesItem.f (a0 : ByteArray) : Option (S94) := (some (⟨4, a0, ([] : List S94)⟩ : S94))
set_option maxHeartbeats 16000000 in
theorem impl_bytesItem.calls {a0 : ByteArray} {r : S94} {w : World} (h : impl_bytesItem.f a0 = some r) :
    Calls Tryd.prog 62 #[.string a0] w (fun e w' => ∃ v0_ : Value, e = .returned (.agg #[.int .i64 r.f0, .string r.f1, v0_]) ∧ Hp noFP w w' [.own (Zd.slice 94 q94) r.f2 [v0_]]) := by
 have HS := Hp.start w
 have H := Aside0.mk h
 clear h
 unfold impl_bytesItem.f at H
 go_enter Tryd.func62, Tryd.ntmps62
 obtain rfl := zsome H
 go_wp2_with (first | ((with_reducible refine gate_dst (N := 2) rfl ?_); refine ev_box rfl HS (by first | (go_simp; done) | (go_simp; rfl)) rfl ?_; clear HS; (try clear F); intro g2 w2 HS; (try simp only [hpn, hpm] at HS); have F := HS.boxes; simp only [bxn] at F) | ((with_reducible refine gate_store (p := 2) rfl ?_); refine ev_store rfl 0 0 HS (seg := [.int .i64 4, .string a0, .slice none 0 0]) rfl rfl rfl rfl rfl rfl (by kernel_rfl) (by simp [wrt]) (by simp [Value.oneCell']) ?_; clear HS; (try clear F); intro w3 HS; (try simp only [hpn, hpm] at HS); have F := HS.boxes; simp only [bxn] at F))
 replace HS := HS.nil 94 q94
 exact bodyPost_ret (results_single rfl (.cell _ _ _ _ _ rfl (HS.boxAt (i := 0) rfl) Tryd.underlying94 rfl (by kernel_rfl) .nil)) rfl ⟨_, rfl, HS.pick [1] (by decide) (by rfl)⟩
/-! ### impl_CrlText: function 24 -/
def impl_CrlText.f (k : Nat) (a0 : S29) : Option (ByteArray × Bool) := ((impl_CrlOk.f k a0).bind fun t3 => (if t3 = true then ((impl_crlItem.f k a0).bind fun t101001 => ((impl_bytesItem.f a0.f6).bind fun t104001 => ((impl_ListItem.f k ([t101001, t104001] : List S94)).bind fun t106001 => ((impl_ItemText.f k t106001).bind fun t107001 => (some (t107001.1, t107001.2)))))) else (some ((⟨#[]⟩ : ByteArray), false))))
def impl_CrlText.T3 : Bool × List (List Nat × List Nat) := (true, [([], []), ([0], [0]), ([], []), ([2], [2]), ([3, 1], [3]), ([1, 4], [1, 4]), ([5, 4], [5]), ([6, 6], [6]), ([7], [7]), ([7], [7]), ([8, 7, 0, 1, 2, 3, 4, 5, 6, 7, 8, 9], [8]), ([9, 10, 0, 1, 2, 3, 4, 5, 6, 7, 8, 9, 10], [9])])
theorem impl_CrlText.tT3 : rtab .any (opsOf Tryd.f24 3) = impl_CrlText.T3 := by kernel_rfl
set_option maxHeartbeats 16000000 in
theorem impl_CrlText.calls {k : Nat} {a0 : S29} {Ap0 : Option Addr} {np0 cp0 : Nat} {mG : Int} {r1 : ByteArray} {r2 : Bool} {w : World} (h : impl_CrlText.f k a0 = some (r1, r2)) (gp0 : k74.C w Ap0 np0 a0.f5) (lp0 : np0 ≤ cp0) (hgM : w.cell? ⟨0, 0, none⟩ = some (.int .i64 mG)) :
    Calls Tryd.prog 24 #[.agg #[.string a0.f0, .int .i64 a0.f1, .int .i64 a0.f2, .int .i64 a0.f3, .int .i64 a0.f4, .slice Ap0 np0 cp0, .string a0.f6]] w (fun e w' => e = .returned (.tuple #[.string r1, .bool r2]) ∧ Hp noFP w w' []) := by
 obtain rfl := C_len gp0
 have HS := Hp.start w
 have H := Aside0.mk h
 clear h
 unfold impl_CrlText.f at H
 go_enter Tryd.func24, Tryd.ntmps24
 replace H := zbind H; obtain ⟨t3, ht3, H⟩ := H
 go_upto_if 6 with (first | ((with_reducible refine gate_dst (N := 1) rfl ?_); refine ev_box rfl HS (by first | (go_simp; done) | (go_simp; rfl)) rfl ?_; clear HS; (try clear F); intro g1 w1 HS; (try simp only [hpn, hpm] at HS); have F := HS.boxes; simp only [bxn] at F) | ((with_reducible refine gate_dst (N := 5) rfl ?_); refine ev_call rfl Tryd.func11 (by kernel_rfl) rfl #[.agg #[.string a0.f0, .int .i64 a0.f1, .int .i64 a0.f2, .int .i64 a0.f3, .int .i64 a0.f4, .slice Ap0 a0.f5.length cp0, .string a0.f6]] rfl (by simp only [mpn]; rfl) ?_; refine (impl_CrlOk.calls ht3.out (HS.ro gp0) lp0 (HS.keepc hgM)).mono ?_; rintro _ wt3 ⟨rfl, HQ⟩; refine ⟨_, rfl, ?_⟩; replace HS := HS.call HQ; clear HQ; (try clear F); (try simp only [hpn, hpm] at HS); have F := HS.boxes; simp only [bxn] at F))
 by_cases c5 : t3 = true
 case neg =>
  replace H := zneg c5 H
  replace c5 := eq_false_of_ne_true c5
  subst c5
  (try simp only [dcn, if_true, Bool.false_eq_true, if_false])
  obtain ⟨rfl, rfl⟩ := zsome2 H
  go_wp2
  exact bodyPost_ret (results_list (rs := [.tmp 2, .tmp 3]) rfl (by simp) (.tmp (.tmp .nil))) rfl ⟨rfl, HS.pick [] (by decide) (by rfl)⟩
 replace H := zpos c5 H
 subst c5
 (try simp only [dcn, if_true, Bool.false_eq_true, if_false])
 (try go_wp2)
 replace H := zbind H; obtain ⟨t101001, ht101001, H⟩ := H
 replace H := zbind H; obtain ⟨t104001, ht104001, H⟩ := H
 replace H := zbind H; obtain ⟨t106001, ht106001, H⟩ := H
 replace H := zbind H; obtain ⟨t107001, ht107001, H⟩ := H
 refine dr_start [] HS #[false, false, false, false, false, false, false, false, false, false, false, false] (by kernel_rfl) rfl rfl impl_CrlText.tT3 (fun w7 HT HS HH => ?_)
 (try clear F)
 refine drq_of [(0, some 7), (2, some 9), (3, some 10)] ?_
 repeat (first | (refine drq_pure HT (v := ?_) (a' := ?_) rfl rfl (by kernel_rfl) (fun _ _ _ h => h) (.inl ⟨by rfl, ?_⟩) ?_ ?_; rotate_left; (intro w'; go_simp; with_reducible rfl); rotate_left; (simp only [Act.put, ptn]; rfl)) | (refine drq_take HT HH (v := ?_) (a' := ?_) rfl rfl (by kernel_rfl) (fun _ _ _ h => h) (.inl ⟨by rfl, ?_⟩) ?_ ?_; rotate_left; (rintro w' ⟨rs', HS'⟩; have F := HS'.boxes; simp only [bxn, List.cons_append, List.nil_append] at F; go_simp; with_reducible rfl); rotate_left; (simp only [Act.put, ptn]; rfl)))
 refine drq_end ?_
 refine dr_one 1 HT rfl (by kernel_rfl) (by decide) (fun K hK => ?_)
 refine goes_ Tryd.func61 (by kernel_rfl) rfl #[.agg #[.string a0.f0, .int .i64 a0.f1, .int .i64 a0.f2, .int .i64 a0.f3, .int .i64 a0.f4, .slice Ap0 a0.f5.length cp0, .string a0.f6]] (by rfl) rfl rfl (by simp only [mpn]; rfl) ?_; refine (impl_crlItem.calls ht101001.out (HS.ro gp0) lp0).mono ?_; rintro _ wt101001 ⟨v101002, rfl, HQ⟩; refine ⟨_, rfl, ?_⟩; replace HS := HS.call HQ; clear HQ; (try clear F); obtain ⟨B101002, d101002, rfl, m101002⟩ := HS.form 1 rfl
 (try simp only [hpn, hpm] at HS)
 have F := HS.boxes; simp only [bxn] at F
 refine hK.out _ _ ⟨_, HS⟩ (fun HH => ?_)
 clear hK K
 refine norm_ (a' := ?_) ?_ ?_
 rotate_left
 · show Act.put _ (some 8) _ = _; simp only [Act.put, ptn]; rfl
 refine dr_one 4 HT rfl (by kernel_rfl) (by decide) (fun K hK => ?_)
 refine goes_ Tryd.func62 (by kernel_rfl) rfl #[.string a0.f6] (by rfl) rfl rfl (by simp only [mpn]; rfl) ?_; refine (impl_bytesItem.calls ht104001.out).mono ?_; rintro _ wt104001 ⟨v104002, rfl, HQ⟩; refine ⟨_, rfl, ?_⟩; replace HS := HS.call HQ; clear HQ; (try clear F); obtain ⟨B104002, d104002, rfl, m104002⟩ := HS.form 2 rfl
 (try simp only [hpn, hpm] at HS)
 have F := HS.boxes; simp only [bxn] at F
 refine hK.out _ _ ⟨_, HS⟩ (fun HH => ?_)
 clear hK K
 refine norm_ (a' := ?_) ?_ ?_
 rotate_left
 · show Act.put _ (some 11) _ = _; simp only [Act.put, ptn]; rfl
 refine dr_one 5 HT rfl (by kernel_rfl) (by decide) (fun K hK => ?_)
 refine if_wp (by rfl) ?_; refine wp_lit q94 [1, 2] ([t101001, t104001] : List S94) ([.int .i64 t101001.f0, .string t101001.f1, .slice B101002 t101001.f2.length d101002] ++ ([.int .i64 t104001.f0, .string t104001.f1, .slice B104002 t104001.f2.length d104002] ++ [])) HS (by first | (go_simp; done) | (go_simp; rfl)) rfl rfl (Nat.le_of_ble_eq_true rfl) (MadeL.cons (js1 := [1]) (c := [.int .i64 t101001.f0, .string t101001.f1, .slice B101002 t101001.f2.length d101002]) rfl (fun S hd hh => q94_pack (x := t101001) hd (hh 1 (.own (Zd.slice 94 q94) t101001.f2 [.slice B101002 t101001.f2.length d101002]) rfl) (by decide)) (MadeL.cons (js1 := [2]) (c := [.int .i64 t104001.f0, .string t104001.f1, .slice B104002 t104001.f2.length d104002]) rfl (fun S hd hh => q94_pack (x := t104001) hd (hh 2 (.own (Zd.slice 94 q94) t104001.f2 [.slice B104002 t104001.f2.length d104002]) rfl) (by decide)) MadeL.nil (by decide)) (by decide)) ?_; clear HS; (try clear F); intro v105001 w105001 HS; obtain ⟨B105001, d105001, rfl, m105001⟩ := HS.formn 2 3 rfl rfl
 (try simp only [hpn, hpm] at HS)
 have F := HS.boxes; simp only [bxn] at F
 refine hK.out _ _ ⟨_, HS⟩ (fun HH => ?_)
 clear hK K
 refine norm_ (a' := ?_) ?_ ?_
 rotate_left
 · show Act.put _ (some 12) _ = _; simp only [Act.put, ptn]; rfl
 refine dr_one 6 HT rfl (by kernel_rfl) (by decide) (fun K hK => ?_)
 refine goes_ Tryd.func60 (by kernel_rfl) rfl #[.slice B105001 2 d105001] (by rfl) rfl rfl (by simp only [mpn]; rfl) ?_; refine (impl_ListItem.calls ht106001.out (HS.rd 3 rfl) m105001).mono ?_; rintro _ wt106001 ⟨v106002, rfl, HQ⟩; refine ⟨_, rfl, ?_⟩; replace HS := HS.call HQ; clear HQ; (try clear F); obtain ⟨B106002, d106002, rfl, m106002⟩ := HS.form 4 rfl
 (try simp only [hpn, hpm] at HS)
 have F := HS.boxes; simp only [bxn] at F
 refine hK.out _ _ ⟨_, HS⟩ (fun HH => ?_)
 clear hK K
 refine norm_ (a' := ?_) ?_ ?_
 rotate_left
 · show Act.put _ (some 13) _ = _; simp only [Act.put, ptn]; rfl
 refine dr_one 7 HT rfl (by kernel_rfl) (by decide) (fun K hK => ?_)
 refine goes_ Tryd.func59 (by kernel_rfl) rfl #[.agg #[.int .i64 t106001.f0, .string t106001.f1, .slice B106002 t106001.f2.length d106002]] (by rfl) rfl rfl (by simp only [mpn]; rfl) ?_; refine (impl_ItemText.calls ht107001.out (HS.rd 4 rfl) m106002).mono ?_; rintro _ wt107001 ⟨rfl, HQ⟩; refine ⟨_, rfl, ?_⟩; replace HS := HS.call HQ; clear HQ; (try clear F)
 (try simp only [hpn, hpm] at HS)
 have F := HS.boxes; simp only [bxn] at F
 refine hK.out _ _ ⟨_, HS⟩ (fun HH => ?_)
 clear hK K
 refine norm_ (a' := ?_) ?_ ?_
 rotate_left
 · show Act.put _ (some 14) _ = _; simp only [Act.put, ptn]; rfl
 refine drq_of [(8, some 15), (9, some 16), (10, some 2), (11, some 3)] ?_
 repeat (first | (refine drq_pure HT (v := ?_) (a' := ?_) rfl rfl (by kernel_rfl) (fun _ _ _ h => h) (.inl ⟨by rfl, ?_⟩) ?_ ?_; rotate_left; (intro w'; go_simp; with_reducible rfl); rotate_left; (simp only [Act.put, ptn]; rfl)))
 refine drq_end ?_
 refine done_ (done_of HT.out (by kernel_rfl)) ?_
 (try clear F)
 have F := HS.boxes; simp only [bxn] at F
 obtain ⟨rfl, rfl⟩ := zsome2 H
 go_wp2
 exact bodyPost_ret (results_list (rs := [.tmp 2, .tmp 3]) rfl (by simp) (.tmp (.tmp .nil))) rfl ⟨rfl, HS.pick [] (by decide) (by rfl)⟩
/-! ### laws_FnExactCrlText: function 6 -/
def laws_FnExactCrlText.f (k : Nat) (a0 : S24) : Option (Bool) := ((laws_szCrl.f a0 1048576).bind fun t3 => (if t3 < 0 then (some true) else ((laws_toCrl.f k a0).bind fun t6 => ((spec_CrlText.f k t6).bind fun t9 => ((laws_toCrl.f k a0).bind fun t11 => ((impl_CrlText.f k t11).bind fun t18 => (if t18.1.toList = t9.1.toList then (if t18.2 = t9.2 then ((laws_toCrl.f k a0).bind fun t102001 => ((laws_eqCrl.f k t11 t102001).bind fun t103001 => (if t103001 = true then (some true) else (some false)))) else (some false)) else (some false))))))))
def laws_FnExactCrlText.T10 : Bool × List (List Nat × List Nat) := (true, [([], []), ([], []), ([1], [1]), ([0, 2, 2], [0, 2]), ([3], [3])])
theorem laws_FnExactCrlText.tT10 : rtab .any (opsOf Tryd.f6 10) = laws_FnExactCrlText.T10 := by kernel_rfl
set_option maxHeartbeats 16000000 in
theorem laws_FnExactCrlText.calls {k : Nat} {a0 : S24} {Ap0 : Option Addr} {np0 cp0 : Nat} {mG : Int} {r : Bool} {w : World} (h : laws_FnExactCrlText.f k a0 = some r) (gp0 : k107.C w Ap0 np0 a0.f5) (lp0 : np0 ≤ cp0) (hgM : w.cell? ⟨0, 0, none⟩ = some (.int .i64 mG)) :
    Calls Tryd.prog 6 #[.agg #[.string a0.f0, .int .i64 a0.f1, .int .i64 a0.f2, .int .i64 a0.f3, .int .i64 a0.f4, .slice Ap0 np0 cp0, .string a0.f6]] w (fun e w' => e = .returned (.bool r) ∧ Hp noFP w w' []) := by
 obtain rfl := C_len gp0
 have HS := Hp.start w
 have H := Aside0.mk h
 clear h
 unfold laws_FnExactCrlText.f at H
 go_enter Tryd.func6, Tryd.ntmps6
 replace H := zbind H; obtain ⟨t3, ht3, H⟩ := H
 go_upto_if 13 with (first | ((with_reducible refine gate_dst (N := 1) rfl ?_); refine ev_box rfl HS (by first | (go_simp; done) | (go_simp; rfl)) rfl ?_; clear HS; (try clear F); intro g1 w1 HS; (try simp only [hpn, hpm] at HS); have F := HS.boxes; simp only [bxn] at F) | ((with_reducible refine gate_dst (N := 11) rfl ?_); refine ev_call rfl Tryd.func8 (by kernel_rfl) rfl #[.agg #[.string a0.f0, .int .i64 a0.f1, .int .i64 a0.f2, .int .i64 a0.f3, .int .i64 a0.f4, .slice Ap0 a0.f5.length cp0, .string a0.f6], .int .i64 1048576] rfl (by simp only [mpn]; rfl) ?_; refine (laws_szCrl.calls ht3.out (HS.ro gp0) lp0).mono ?_; rintro _ wt3 ⟨rfl, HQ⟩; refine ⟨_, rfl, ?_⟩; replace HS := HS.call HQ; clear HQ; (try clear F); (try simp only [hpn, hpm] at HS); have F := HS.boxes; simp only [bxn] at F))
 by_cases c5 : t3 < 0
 case pos =>
  replace H := zpos c5 H
  replace c5 := eq_true c5
  (try simp only [c5, dcn])
  obtain rfl := zsome H
  go_wp2
  go_ret
  exact ⟨rfl, HS.pick [] (by decide) (by rfl)⟩
 replace H := zneg c5 H
 replace c5 := eq_false c5
 (try simp only [c5, dcn])
 replace H := zbind H; obtain ⟨t6, ht6, H⟩ := H
 replace H := zbind H; obtain ⟨t9, ht9, H⟩ := H
 replace H := zbind H; obtain ⟨t11, ht11, H⟩ := H
 replace H := zbind H; obtain ⟨t18, ht18, H⟩ := H
 by_cases c20 : t18.1.toList = t9.1.toList
 case neg =>
  replace H := zneg c20 H
  have c20a := beq_eq_false_iff_ne.mpr c20
  have c20b := bne_iff_ne.mpr c20
  clear c20
  obtain rfl := zsome H
  go_wp2_with (first | ((with_reducible refine gate_dst (N := 16) rfl ?_); refine ev_call rfl Tryd.func10 (by kernel_rfl) rfl #[.agg #[.string a0.f0, .int .i64 a0.f1, .int .i64 a0.f2, .int .i64 a0.f3, .int .i64 a0.f4, .slice Ap0 a0.f5.length cp0, .string a0.f6]] rfl (by simp only [mpn]; rfl) ?_; refine (laws_toCrl.calls ht6.out (HS.ro gp0) lp0).mono ?_; rintro _ wt6 ⟨v7, rfl, HQ⟩; refine ⟨_, rfl, ?_⟩; replace HS := HS.call HQ; clear HQ; (try clear F); obtain ⟨B7, d7, rfl, m7⟩ := HS.form 1 rfl; (try simp only [hpn, hpm] at HS); have F := HS.boxes; simp only [bxn] at F) | ((with_reducible refine gate_dst (N := 17) rfl ?_); refine ev_call rfl Tryd.func23 (by kernel_rfl) rfl #[.agg #[.string t6.f0, .int .i64 t6.f1, .int .i64 t6.f2, .int .i64 t6.f3, .int .i64 t6.f4, .slice B7 t6.f5.length d7, .string t6.f6]] rfl (by simp only [mpn]; rfl) ?_; refine (spec_CrlText.calls ht9.out (HS.rd 1 rfl) m7).mono ?_; rintro _ wt9 ⟨rfl, HQ⟩; refine ⟨_, rfl, ?_⟩; replace HS := HS.call HQ; clear HQ; (try clear F); (try simp only [hpn, hpm] at HS); have F := HS.boxes; simp only [bxn] at F) | ((with_reducible refine gate_dst (N := 21) rfl ?_); refine ev_call rfl Tryd.func10 (by kernel_rfl) rfl #[.agg #[.string a0.f0, .int .i64 a0.f1, .int .i64 a0.f2, .int .i64 a0.f3, .int .i64 a0.f4, .slice Ap0 a0.f5.length cp0, .string a0.f6]] rfl (by simp only [mpn]; rfl) ?_; refine (laws_toCrl.calls ht11.out (HS.ro gp0) lp0).mono ?_; rintro _ wt11 ⟨v12, rfl, HQ⟩; refine ⟨_, rfl, ?_⟩; replace HS := HS.call HQ; clear HQ; (try clear F); obtain ⟨B12, d12, rfl, m12⟩ := HS.form 2 rfl; (try simp only [hpn, hpm] at HS); have F := HS.boxes; simp only [bxn] at F) | ((with_reducible refine gate_dst (N := 6) rfl ?_); refine ev_box rfl HS (by first | (go_simp; done) | (go_simp; rfl)) rfl ?_; clear HS; (try clear F); intro g6 w6 HS; (try simp only [hpn, hpm] at HS); have F := HS.boxes; simp only [bxn] at F) | ((with_reducible refine gate_store (p := 6) rfl ?_); refine ev_store rfl 3 0 HS (seg := [.string t11.f0, .int .i64 t11.f1, .int .i64 t11.f2, .int .i64 t11.f3, .int .i64 t11.f4, .slice B12 t11.f5.length d12, .string t11.f6]) rfl rfl rfl rfl rfl rfl (by kernel_rfl) (by simp [wrt]) (by simp [Value.oneCell']) ?_; clear HS; (try clear F); intro w16 HS; (try simp only [hpn, hpm] at HS); have F := HS.boxes; simp only [bxn] at F) | ((with_reducible refine gate_dst (N := 24) rfl ?_); refine ev_call rfl Tryd.func24 (by kernel_rfl) rfl #[.agg #[.string t11.f0, .int .i64 t11.f1, .int .i64 t11.f2, .int .i64 t11.f3, .int .i64 t11.f4, .slice B12 t11.f5.length d12, .string t11.f6]] rfl (by simp only [mpn]; rfl) ?_; refine (impl_CrlText.calls ht18.out (HS.rd 2 rfl) m12 (HS.keepc hgM)).mono ?_; rintro _ wt18 ⟨rfl, HQ⟩; refine ⟨_, rfl, ?_⟩; replace HS := HS.call HQ; clear HQ; (try clear F); (try simp only [hpn, hpm] at HS); have F := HS.boxes; simp only [bxn] at F))
  go_ret
  exact ⟨rfl, HS.pick [] (by decide) (by rfl)⟩
 replace H := zpos c20 H
 have c20a := beq_iff_eq.mpr c20
 have c20b := bne_eq_false_iff_eq.mpr c20
 clear c20
 go_upto_if 34 with (first | ((with_reducible refine gate_dst (N := 16) rfl ?_); refine ev_call rfl Tryd.func10 (by kernel_rfl) rfl #[.agg #[.string a0.f0, .int .i64 a0.f1, .int .i64 a0.f2, .int .i64 a0.f3, .int .i64 a0.f4, .slice Ap0 a0.f5.length cp0, .string a0.f6]] rfl (by simp only [mpn]; rfl) ?_; refine (laws_toCrl.calls ht6.out (HS.ro gp0) lp0).mono ?_; rintro _ wt6 ⟨v7, rfl, HQ⟩; refine ⟨_, rfl, ?_⟩; replace HS := HS.call HQ; clear HQ; (try clear F); obtain ⟨B7, d7, rfl, m7⟩ := HS.form 1 rfl; (try simp only [hpn, hpm] at HS); have F := HS.boxes; simp only [bxn] at F) | ((with_reducible refine gate_dst (N := 17) rfl ?_); refine ev_call rfl Tryd.func23 (by kernel_rfl) rfl #[.agg #[.string t6.f0, .int .i64 t6.f1, .int .i64 t6.f2, .int .i64 t6.f3, .int .i64 t6.f4, .slice B7 t6.f5.length d7, .string t6.f6]] rfl (by simp only [mpn]; rfl) ?_; refine (spec_CrlText.calls ht9.out (HS.rd 1 rfl) m7).mono ?_; rintro _ wt9 ⟨rfl, HQ⟩; refine ⟨_, rfl, ?_⟩; replace HS := HS.call HQ; clear HQ; (try clear F); (try simp only [hpn, hpm] at HS); have F := HS.boxes; simp only [bxn] at F) | ((with_reducible refine gate_dst (N := 21) rfl ?_); refine ev_call rfl Tryd.func10 (by kernel_rfl) rfl #[.agg #[.string a0.f0, .int .i64 a0.f1, .int .i64 a0.f2, .int .i64 a0.f3, .int .i64 a0.f4, .slice Ap0 a0.f5.length cp0, .string a0.f6]] rfl (by simp only [mpn]; rfl) ?_; refine (laws_toCrl.calls ht11.out (HS.ro gp0) lp0).mono ?_; rintro _ wt11 ⟨v12, rfl, HQ⟩; refine ⟨_, rfl, ?_⟩; replace HS := HS.call HQ; clear HQ; (try clear F); obtain ⟨B12, d12, rfl, m12⟩ := HS.form 2 rfl; (try simp only [hpn, hpm] at HS); have F := HS.boxes; simp only [bxn] at F) | ((with_reducible refine gate_dst (N := 6) rfl ?_); refine ev_box rfl HS (by first | (go_simp; done) | (go_simp; rfl)) rfl ?_; clear HS; (try clear F); intro g6 w6 HS; (try simp only [hpn, hpm] at HS); have F := HS.boxes; simp only [bxn] at F) | ((with_reducible refine gate_store (p := 6) rfl ?_); refine ev_store rfl 3 0 HS (seg := [.string t11.f0, .int .i64 t11.f1, .int .i64 t11.f2, .int .i64 t11.f3, .int .i64 t11.f4, .slice B12 t11.f5.length d12, .string t11.f6]) rfl rfl rfl rfl rfl rfl (by kernel_rfl) (by simp [wrt]) (by simp [Value.oneCell']) ?_; clear HS; (try clear F); intro w16 HS; (try simp only [hpn, hpm] at HS); have F := HS.boxes; simp only [bxn] at F) | ((with_reducible refine gate_dst (N := 24) rfl ?_); refine ev_call rfl Tryd.func24 (by kernel_rfl) rfl #[.agg #[.string t11.f0, .int .i64 t11.f1, .int .i64 t11.f2, .int .i64 t11.f3, .int .i64 t11.f4, .slice B12 t11.f5.length d12, .string t11.f6]] rfl (by simp only [mpn]; rfl) ?_; refine (impl_CrlText.calls ht18.out (HS.rd 2 rfl) m12 (HS.keepc hgM)).mono ?_; rintro _ wt18 ⟨rfl, HQ⟩; refine ⟨_, rfl, ?_⟩; replace HS := HS.call HQ; clear HQ; (try clear F); (try simp only [hpn, hpm] at HS); have F := HS.boxes; simp only [bxn] at F))
 by_cases c21 : t18.2 = t9.2
 case neg =>
  replace H := zneg c21 H
  have c21a := beq_eq_false_iff_ne.mpr c21
  have c21b := bne_iff_ne.mpr c21
  clear c21
  (try simp only [c21a, c21b, dcn])
  obtain rfl := zsome H
  go_wp2
  go_ret
  exact ⟨rfl, HS.pick [] (by decide) (by rfl)⟩
 replace H := zpos c21 H
 have c21a := beq_iff_eq.mpr c21
 have c21b := bne_eq_false_iff_eq.mpr c21
 clear c21
 (try simp only [c21a, c21b, dcn])
 (try go_wp2)
 replace H := zbind H; obtain ⟨t102001, ht102001, H⟩ := H
 replace H := zbind H; obtain ⟨t103001, ht103001, H⟩ := H
 refine dr_start [] HS #[false, false, false, false, false] (by kernel_rfl) rfl rfl laws_FnExactCrlText.tT10 (fun w23 HT HS HH => ?_)
 (try clear F)
 refine drq_of [(0, some 35), (1, some 36)] ?_
 repeat (first | (refine drq_take HT HH (v := ?_) (a' := ?_) rfl rfl (by kernel_rfl) (fun _ _ _ h => h) (.inl ⟨by rfl, ?_⟩) ?_ ?_; rotate_left; (rintro w' ⟨rs', HS'⟩; have F := HS'.boxes; simp only [bxn, List.cons_append, List.nil_append] at F; go_simp; with_reducible rfl); rotate_left; (simp only [Act.put, ptn]; rfl)))
 refine drq_end ?_
 refine dr_one 2 HT rfl (by kernel_rfl) (by decide) (fun K hK => ?_)
 refine goes_ Tryd.func10 (by kernel_rfl) rfl #[.agg #[.string a0.f0, .int .i64 a0.f1, .int .i64 a0.f2, .int .i64 a0.f3, .int .i64 a0.f4, .slice Ap0 a0.f5.length cp0, .string a0.f6]] (by rfl) rfl rfl (by simp only [mpn]; rfl) ?_; refine (laws_toCrl.calls ht102001.out (HS.ro gp0) lp0).mono ?_; rintro _ wt102001 ⟨v102002, rfl, HQ⟩; refine ⟨_, rfl, ?_⟩; replace HS := HS.call HQ; clear HQ; (try clear F); obtain ⟨B102002, d102002, rfl, m102002⟩ := HS.form 4 rfl
 (try simp only [hpn, hpm] at HS)
 have F := HS.boxes; simp only [bxn] at F
 refine hK.out _ _ ⟨_, HS⟩ (fun HH => ?_)
 clear hK K
 refine norm_ (a' := ?_) ?_ ?_
 rotate_left
 · show Act.put _ (some 37) _ = _; simp only [Act.put, ptn]; rfl
 refine dr_one 3 HT rfl (by kernel_rfl) (by decide) (fun K hK => ?_)
 refine goes_ Tryd.func12 (by kernel_rfl) rfl #[.agg #[.string t11.f0, .int .i64 t11.f1, .int .i64 t11.f2, .int .i64 t11.f3, .int .i64 t11.f4, .slice B12 t11.f5.length d12, .string t11.f6], .agg #[.string t102001.f0, .int .i64 t102001.f1, .int .i64 t102001.f2, .int .i64 t102001.f3, .int .i64 t102001.f4, .slice B102002 t102001.f5.length d102002, .string t102001.f6]] (by rfl) rfl rfl (by simp only [mpn]; rfl) ?_; refine (laws_eqCrl.calls ht103001.out (HS.rd 2 rfl) m12 (HS.rd 4 rfl) m102002).mono ?_; rintro _ wt103001 ⟨rfl, HQ⟩; refine ⟨_, rfl, ?_⟩; replace HS := HS.call HQ; clear HQ; (try clear F)
 (try simp only [hpn, hpm] at HS)
 have F := HS.boxes; simp only [bxn] at F
 refine hK.out _ _ ⟨_, HS⟩ (fun HH => ?_)
 clear hK K
 refine norm_ (a' := ?_) ?_ ?_
 rotate_left
 · show Act.put _ (some 38) _ = _; simp only [Act.put, ptn]; rfl
 refine drq_of [(4, some 39)] ?_
 repeat (first | (refine drq_pure HT (v := ?_) (a' := ?_) rfl rfl (by kernel_rfl) (fun _ _ _ h => h) (.inl ⟨by rfl, ?_⟩) ?_ ?_; rotate_left; (intro w'; go_simp; with_reducible rfl); rotate_left; (simp only [Act.put, ptn]; rfl)))
 refine drq_end ?_
 refine done_ (done_of HT.out (by kernel_rfl)) ?_
 (try clear F)
 have F := HS.boxes; simp only [bxn] at F
 by_cases c25 : t103001 = true
 case pos =>
  replace H := zpos c25 H
  subst c25
  (try simp only [dcn, if_true, Bool.false_eq_true, if_false])
  obtain rfl := zsome H
  go_wp2
  go_ret
  exact ⟨rfl, HS.pick [] (by decide) (by rfl)⟩
 replace H := zneg c25 H
 replace c25 := eq_false_of_ne_true c25
 subst c25
 (try simp only [dcn, if_true, Bool.false_eq_true, if_false])
 obtain rfl := zsome H
 go_wp2
 go_ret
 exact ⟨rfl, HS.pick [] (by decide) (by rfl)⟩
end Go.Proofs.YtnpokacipeobdaaDoor.F
