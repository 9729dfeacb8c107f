/- Functions of the program and of the law, and that their calls do what is written here. -/
import Derived.Test.YtoaoncnbimcdgaaZT
namespace Go.Proofs.Ytoaoncnbimcdgaa.F
open Go.RowKit Go.Proofs.YtoaoncnbimcdgaaW.PrintWords Go.Proofs.YtoaoncnbimcdgaaW.PrintLast Go.Proofs.YtoaoncnbimcdgaaW.PrintMore Go.Proofs.Ytoaoncnbimcdgaa.Z
attribute [local go_sem] max2_int min2_int max_two min_two max_three min_three max_four min_four
set_option linter.unusedVariables false
set_option linter.unusedSimpArgs false
set_option maxRecDepth 100000
/-! ### impl_copyReply: function 107 -/
def impl_copyReply.l0 : Nat → (List S109) → Int → S40 → Option (S40)
  | 0, _, _, _ => none
  | k + 1, l40, x42, a0 => (if x42 < (a0.f6.length : Int) then (if 0 ≤ x42 then (if x42 < (a0.f6.length : Int) then (if 0 + (rd_T109 a0.f6 x42).f2.length ≤ 8796093022208 then (lets (([] : List ByteArray) ++ ((rd_T109 a0.f6 x42).f2)) fun y53 => (if 0 + (rd_T109 a0.f6 x42).f3.length ≤ 8796093022208 then (lets (([] : List ByteArray) ++ ((rd_T109 a0.f6 x42).f3)) fun y58 => (if l40.length + 1 ≤ 2199023255552 then (lets (l40 ++ ([(⟨(rd_T109 a0.f6 x42).f0, (rd_T109 a0.f6 x42).f1, y53, y58⟩ : S109)] : List S109)) fun y65 => (impl_copyReply.l0 k y65 (wrap64 (x42 + 1)) a0)) else none)) else none)) else none) else none) else none) else (some (⟨a0.f0, a0.f1, a0.f2, a0.f3, a0.f4, a0.f5, l40, a0.f7⟩ : S40)))
def impl_copyReply.f (k : Nat) (a0 : S40) : Option (S40) := (impl_copyReply.l0 k [] 0 a0)
set_option maxHeartbeats 16000000 in
theorem impl_copyReply.calls {k : Nat} {a0 : S40} {Ap0 : Option Addr} {np0 cp0 : Nat} {r : S40} {w : World} (h : impl_copyReply.f k a0 = some r) (gp0 : k109.C w Ap0 np0 a0.f6) (lp0 : np0 ≤ cp0) :
    Calls Try.prog 107 #[.agg #[.string a0.f0, .int .i64 a0.f1, .int .i64 a0.f2, .int .i64 a0.f3, .int .i64 a0.f4, .int .i64 a0.f5, .slice Ap0 np0 cp0, .string a0.f7]] w (fun e w' => ∃ v0_ : Value, e = .returned (.agg #[.string r.f0, .int .i64 r.f1, .int .i64 r.f2, .int .i64 r.f3, .int .i64 r.f4, .int .i64 r.f5, v0_, .string r.f7]) ∧ Hp noFP w w' [.own (Zd.slice 109 q109) r.f6 [v0_]]) := by
 obtain rfl := C_len gp0
 have HS := Hp.start w
 have H := Aside0.mk h
 clear h
 unfold impl_copyReply.f at H
 go_enter Try.func107, Try.ntmps107
 go_wp2_with (first | ((with_reducible refine gate_dst (N := 1) rfl ?_); refine ev_box rfl HS (by first | (go_simp; done) | (go_simp; rfl)) rfl ?_; clear HS; (try clear F); intro g1 w1 HS; (try simp only [hpn, hpm] at HS); have F := HS.boxes; simp only [boxFacts, and_true] at F) | ((with_reducible refine gate_dst (N := 2) rfl ?_); refine ev_box rfl HS (by first | (go_simp; done) | (go_simp; rfl)) rfl ?_; clear HS; (try clear F); intro g2 w2 HS; (try simp only [hpn, hpm] at HS); have F := HS.boxes; simp only [boxFacts, and_true] at F) | ((with_reducible refine gate_store (p := 8) rfl ?_); refine ev_store rfl 0 6 HS (seg := [.slice none 0 0]) rfl rfl rfl rfl rfl rfl (by kernel_rfl) (by simp [wrt]) (by simp [Value.oneCell']) ?_; clear HS; (try clear F); intro w5 HS; (try simp only [hpn, hpm] at HS); have F := HS.boxes; simp only [boxFacts, and_true] at F))
 replace HS := HS.nil 109 q109
 go_loopg [11] k (fun kq v_11 w' => ∃ (l40 : List S109) (v41 : Value) (x42 : Int), v_11 = .int .i64 x42 ∧ Aside0 (impl_copyReply.l0 kq l40 x42 a0 = some r) ∧ Aside0 (kq ≤ k) ∧ Hp noFP w w' [.box g1 [.string a0.f0, .int .i64 a0.f1, .int .i64 a0.f2, .int .i64 a0.f3, .int .i64 a0.f4, .int .i64 a0.f5, v41, .string a0.f7] 40, .box g2 [.string (⟨#[]⟩ : ByteArray), .int .i64 0, .int .i64 0, .int .i64 0, .int .i64 0, .int .i64 0, .slice none 0 0, .string (⟨#[]⟩ : ByteArray)] 40, .own (Zd.slice 109 q109) l40 [v41]])
 case atStart => exact ⟨_, _, _, rfl, H, ⟨Nat.le_refl _⟩, HS⟩
 case round =>
  clear HS H; (try clear F)
  obtain ⟨l40, v41, x42, rfl, H, HKk39, HS⟩ := hrel
  obtain ⟨B41, d41, rfl, m41⟩ := HS.form 2 rfl
  have F := HS.boxes; simp only [boxFacts, and_true] at F
  cases gk with
  | zero => exact absurd H.out (by simp [impl_copyReply.l0])
  | succ k39 =>
   simp only [impl_copyReply.l0] at H
   by_cases c44 : x42 < (a0.f6.length : Int)
   · replace H := zpos c44 H
     replace c44 := eq_true c44
     by_cases c45 : 0 ≤ x42
     case neg => exact zno c45 H
     replace H := zpos c45 H
     replace c45 := eq_true c45
     by_cases c46 : x42 < (a0.f6.length : Int)
     case neg => exact zno c46 H
     replace H := zpos c46 H
     replace c46 := eq_true c46
     obtain ⟨ad47, B47_2, d47_2, B47_3, d47_3, rfl, e47_0, e47_1, e47_2, e47_3, m47_2, y47_2, m47_3, y47_3⟩ := at_T109 gp0 x42 (of_eq_true c45) (of_eq_true c46)
     have e47_0_47 := (HS.keepc e47_0)
     have e47_1_47 := (HS.keepc e47_1)
     have e47_2_47 := (HS.keepc e47_2)
     have e47_3_47 := (HS.keepc e47_3)
     by_cases c52 : 0 + (rd_T109 a0.f6 x42).f2.length ≤ 8796093022208
     case neg => exact zno c52 H
     replace H := zpos c52 H
     replace c52 := eq_true c52
     replace H := zlets H; obtain ⟨y53, e_y53, H⟩ := H
     by_cases c57 : 0 + (rd_T109 a0.f6 x42).f3.length ≤ 8796093022208
     case neg => exact zno c57 H
     replace H := zpos c57 H
     replace c57 := eq_true c57
     replace H := zlets H; obtain ⟨y58, e_y58, H⟩ := H
     by_cases c64 : l40.length + 1 ≤ 2199023255552
     case neg => exact zno c64 H
     replace H := zpos c64 H
     replace c64 := eq_true c64
     replace H := zlets H; obtain ⟨y65, e_y65, H⟩ := H
     go_wp2_with (first | ((with_reducible refine gate_dst (N := 5) rfl ?_); refine ev_box rfl HS (by first | (go_simp; done) | (go_simp; rfl)) rfl ?_; clear HS; (try clear F); intro g5 w5 HS; (try simp only [hpn, hpm] at HS); have F := HS.boxes; simp only [boxFacts, and_true] at F) | ((with_reducible refine gate_store (p := 5) rfl ?_); refine ev_store rfl 3 0 HS (seg := [.int .i64 ((rd_T109 a0.f6 x42).f0), .int .i64 ((rd_T109 a0.f6 x42).f1), .slice B47_2 (rd_T109 a0.f6 x42).f2.length d47_2, .slice B47_3 (rd_T109 a0.f6 x42).f3.length d47_3]) rfl rfl rfl rfl rfl rfl (by kernel_rfl) (by simp [wrt]) (by simp [Value.oneCell']) ?_; clear HS; (try clear F); intro w50 HS; (try simp only [hpn, hpm] at HS); have F := HS.boxes; simp only [boxFacts, and_true] at F) | ((with_reducible refine gate_dst (N := 17) rfl ?_); replace HS := HS.nil 9 Zd.string; refine ev_appendr rfl Zd.string flat_string 4 HS rfl (HS.ro y47_2) rfl rfl rfl Try.underlying73 info9 rfl (by decide) (by decide) (by have := of_eq_true c52; first | omega | (simp only [List.length_cons, List.length_nil, List.length_append, Nat.zero_add] at this ⊢; omega)) ?_; clear HS; (try clear F); intro v53 w53 HS; rw [← e_y53.out] at HS; obtain ⟨B53, d53, rfl, m53⟩ := HS.form 5 rfl; (try simp only [hpn, hpm] at HS); have F := HS.boxes; simp only [boxFacts, and_true] at F) | ((with_reducible refine gate_store (p := 18) rfl ?_); refine ev_store rfl 3 2 HS (seg := [.slice B53 y53.length d53]) rfl rfl rfl rfl rfl rfl (by kernel_rfl) (by simp [wrt]) (by simp [Value.oneCell']) ?_; clear HS; (try clear F); intro w55 HS; (try simp only [hpn, hpm] at HS); have F := HS.boxes; simp only [boxFacts, and_true] at F) | ((with_reducible refine gate_dst (N := 21) rfl ?_); replace HS := HS.nil 9 Zd.string; refine ev_appendr rfl Zd.string flat_string 6 HS rfl (HS.ro y47_3) rfl rfl rfl Try.underlying73 info9 rfl (by decide) (by decide) (by have := of_eq_true c57; first | omega | (simp only [List.length_cons, List.length_nil, List.length_append, Nat.zero_add] at this ⊢; omega)) ?_; clear HS; (try clear F); intro v58 w58 HS; rw [← e_y58.out] at HS; obtain ⟨B58, d58, rfl, m58⟩ := HS.form 7 rfl; (try simp only [hpn, hpm] at HS); have F := HS.boxes; simp only [boxFacts, and_true] at F) | ((with_reducible refine gate_store (p := 22) rfl ?_); refine ev_store rfl 3 3 HS (seg := [.slice B58 y58.length d58]) rfl rfl rfl rfl rfl rfl (by kernel_rfl) (by simp [wrt]) (by simp [Value.oneCell']) ?_; clear HS; (try clear F); intro w60 HS; (try simp only [hpn, hpm] at HS); have F := HS.boxes; simp only [boxFacts, and_true] at F) | ((with_reducible refine gate_dst (N := 26) rfl ?_); refine ev_lit rfl q109 [5, 7] ([(⟨(rd_T109 a0.f6 x42).f0, (rd_T109 a0.f6 x42).f1, y53, y58⟩ : S109)] : List S109) ([.int .i64 ((rd_T109 a0.f6 x42).f0), .int .i64 ((rd_T109 a0.f6 x42).f1), .slice B53 y53.length d53, .slice B58 y58.length d58] ++ []) HS (by first | (go_simp; done) | (go_simp; rfl)) rfl rfl (Nat.le_of_ble_eq_true rfl) (MadeL.cons (js1 := [5, 7]) (c := [.int .i64 ((rd_T109 a0.f6 x42).f0), .int .i64 ((rd_T109 a0.f6 x42).f1), .slice B53 y53.length d53, .slice B58 y58.length d58]) rfl (fun S hd hh => q109_pack (x := (⟨(rd_T109 a0.f6 x42).f0, (rd_T109 a0.f6 x42).f1, y53, y58⟩ : S109)) hd (hh 5 (.own (Zd.slice 9 Zd.string) y53 [.slice B53 y53.length d53]) rfl) (hh 7 (.own (Zd.slice 9 Zd.string) y58 [.slice B58 y58.length d58]) rfl) (by decide)) MadeL.nil (by decide)) ?_; clear HS; (try clear F); intro v62 w62 HS; obtain ⟨B62, d62, rfl, m62⟩ := HS.formn 1 8 rfl rfl; (try simp only [hpn, hpm] at HS); have F := HS.boxes; simp only [boxFacts, and_true] at F) | ((with_reducible refine gate_dst (N := 27) rfl ?_); refine ev_append rfl q109 2 8 HS rfl rfl (by decide) rfl rfl rfl Try.underlying38 info109 rfl (by decide) (by decide) (by have := of_eq_true c64; first | omega | (simp only [List.length_cons, List.length_nil, List.length_append, Nat.zero_add] at this ⊢; omega)) ?_; clear HS; (try clear F); intro v65 w65 HS; rw [← e_y65.out] at HS; obtain ⟨B65, d65, rfl, m65⟩ := HS.form 9 rfl; (try simp only [hpn, hpm] at HS); have F := HS.boxes; simp only [boxFacts, and_true] at F) | ((with_reducible refine gate_store (p := 28) rfl ?_); refine ev_store rfl 0 6 HS (seg := [.slice B65 y65.length d65]) rfl rfl rfl rfl rfl rfl (by kernel_rfl) (by simp [wrt]) (by simp [Value.oneCell']) ?_; clear HS; (try clear F); intro w67 HS; (try simp only [hpn, hpm] at HS); have F := HS.boxes; simp only [boxFacts, and_true] at F))
     go_roundg k39
     case measure => have := HKk39.out; omega
     case rel => exact ⟨_, _, _, rfl, H, ⟨by have := HKk39.out; omega⟩, HS.pick [0, 1, 9] (by decide) (by rfl)⟩
   · replace H := zneg c44 H
     replace c44 := eq_false c44
     obtain rfl := zsome H
     go_wp2_with (first | ((with_reducible refine gate_store (p := 2) rfl ?_); refine ev_store rfl 1 0 HS (seg := [.string a0.f0, .int .i64 a0.f1, .int .i64 a0.f2, .int .i64 a0.f3, .int .i64 a0.f4, .int .i64 a0.f5, .slice B41 l40.length d41, .string a0.f7]) rfl rfl rfl rfl rfl rfl (by kernel_rfl) (by simp [wrt]) (by simp [Value.oneCell']) ?_; clear HS; (try clear F); intro w69 HS; (try simp only [hpn, hpm] at HS); have F := HS.boxes; simp only [boxFacts, and_true] at F))
     exact bodyPost_ret (results_single rfl (.cell _ _ _ _ _ rfl (HS.boxAt (i := 1) rfl) Try.underlying40 rfl (by kernel_rfl) .nil)) rfl ⟨_, rfl, HS.pick [2] (by decide) (by rfl)⟩
/-! ### impl_copyClient: function 43 -/
def impl_copyClient.l0 : Nat → (List S150) → Int → S31 → (List S89) → (List Int) → Option (S31)
  | 0, _, _, _, _, _ => none
  | k + 1, l36, x38, a0, y6, y11 => (if x38 < (a0.f3.length : Int) then (if 0 ≤ x38 then (if x38 < (a0.f3.length : Int) then ((impl_copyReply.f k (⟨(rd_T150 a0.f3 x38).f1.f0, (rd_T150 a0.f3 x38).f1.f1, (rd_T150 a0.f3 x38).f1.f2, (rd_T150 a0.f3 x38).f1.f3, (rd_T150 a0.f3 x38).f1.f4, (rd_T150 a0.f3 x38).f1.f5, (rd_T150 a0.f3 x38).f1.f6, (rd_T150 a0.f3 x38).f1.f7⟩ : S40)).bind fun t206001 => (if l36.length + 1 ≤ 1353245080339 then (lets (l36 ++ ([(⟨(rd_T150 a0.f3 x38).f0, (⟨t206001.f0, t206001.f1, t206001.f2, t206001.f3, t206001.f4, t206001.f5, t206001.f6, t206001.f7⟩ : S40)⟩ : S150)] : List S150)) fun y209999 => (impl_copyClient.l0 k y209999 (wrap64 (x38 + 1)) a0 y6 y11)) else none)) else none) else none) else (some (⟨a0.f0, a0.f1, y6, l36, y11⟩ : S31)))
def impl_copyClient.f (k : Nat) (a0 : S31) : Option (S31) := (if 0 + a0.f2.length ≤ 3518437208883 then (lets (([] : List S89) ++ a0.f2) fun y6 => (if 0 + a0.f4.length ≤ 17592186044416 then (lets (([] : List Int) ++ a0.f4) fun y11 => (impl_copyClient.l0 k [] 0 a0 y6 y11)) else none)) else none)
def impl_copyClient.T8 : Bool × List (List Nat × List Nat) := (true, [([], []), ([0], [0]), ([], []), ([2], [2]), ([], []), ([4], [4]), ([5], [5]), ([3, 6], [3, 6]), ([7], [7]), ([1, 8, 6], [1, 8]), ([0, 1, 2, 3, 4, 5, 6, 7, 8, 9], []), ([10, 9, 9, 0, 1, 2, 3, 4, 5, 6, 7, 8, 9], [9, 10])])
theorem impl_copyClient.tT8 : rtab .any (opsOf Try.f43 8) = impl_copyClient.T8 := by kernel_rfl
set_option maxHeartbeats 16000000 in
theorem impl_copyClient.calls {k : Nat} {a0 : S31} {Ap0 : Option Addr} {np0 cp0 : Nat} {Ap1 : Option Addr} {np1 cp1 : Nat} {Ap2 : Option Addr} {np2 cp2 : Nat} {r : S31} {w : World} (h : impl_copyClient.f k a0 = some r) (gp0 : k89.C w Ap0 np0 a0.f2) (lp0 : np0 ≤ cp0) (gp1 : k150.C w Ap1 np1 a0.f3) (lp1 : np1 ≤ cp1) (gp2 : (Kd.int .i64).C w Ap2 np2 a0.f4) (lp2 : np2 ≤ cp2) :
    Calls Try.prog 43 #[.agg #[.string a0.f0, .int .i64 a0.f1, .slice Ap0 np0 cp0, .slice Ap1 np1 cp1, .slice Ap2 np2 cp2]] w (fun e w' => ∃ v0_ v1_ v2_ : Value, e = .returned (.agg #[.string r.f0, .int .i64 r.f1, v0_, v1_, v2_]) ∧ Hp noFP w w' [.own (Zd.slice 89 q89) r.f2 [v0_], .own (Zd.slice 150 q150) r.f3 [v1_], .own (Zd.slice 3 (Zd.int .i64)) r.f4 [v2_]]) := by
 obtain rfl := C_len gp0
 obtain rfl := C_len gp1
 obtain rfl := C_len gp2
 have HS := Hp.start w
 have H := Aside0.mk h
 clear h
 unfold impl_copyClient.f at H
 go_enter Try.func43, Try.ntmps43
 by_cases c5 : 0 + a0.f2.length ≤ 3518437208883
 case neg => exact zno c5 H
 replace H := zpos c5 H
 replace c5 := eq_true c5
 replace H := zlets H; obtain ⟨y6, e_y6, H⟩ := H
 by_cases c10 : 0 + a0.f4.length ≤ 17592186044416
 case neg => exact zno c10 H
 replace H := zpos c10 H
 replace c10 := eq_true c10
 replace H := zlets H; obtain ⟨y11, e_y11, H⟩ := H
 go_wp2_with (first | ((with_reducible refine gate_dst (N := 1) rfl ?_); refine ev_box rfl HS (by first | (go_simp; done) | (go_simp; rfl)) rfl ?_; clear HS; (try clear F); intro g1 w1 HS; (try simp only [hpn, hpm] at HS); have F := HS.boxes; simp only [boxFacts, and_true] at F) | ((with_reducible refine gate_dst (N := 2) rfl ?_); refine ev_box rfl HS (by first | (go_simp; done) | (go_simp; rfl)) rfl ?_; clear HS; (try clear F); intro g2 w2 HS; (try simp only [hpn, hpm] at HS); have F := HS.boxes; simp only [boxFacts, and_true] at F) | ((with_reducible refine gate_dst (N := 10) rfl ?_); replace HS := HS.nil 89 q89; refine ev_appendr rfl q89 fl89 2 HS rfl (HS.ro gp0) rfl rfl rfl Try.underlying28 info89 rfl (by decide) (by decide) (by have := of_eq_true c5; first | omega | (simp only [List.length_cons, List.length_nil, List.length_append, Nat.zero_add] at this ⊢; omega)) ?_; clear HS; (try clear F); intro v6 w6 HS; rw [← e_y6.out] at HS; obtain ⟨B6, d6, rfl, m6⟩ := HS.form 3 rfl; (try simp only [hpn, hpm] at HS); have F := HS.boxes; simp only [boxFacts, and_true] at F) | ((with_reducible refine gate_store (p := 11) rfl ?_); refine ev_store rfl 0 2 HS (seg := [.slice B6 y6.length d6]) rfl rfl rfl rfl rfl rfl (by kernel_rfl) (by simp [wrt]) (by simp [Value.oneCell']) ?_; clear HS; (try clear F); intro w8 HS; (try simp only [hpn, hpm] at HS); have F := HS.boxes; simp only [boxFacts, and_true] at F) | ((with_reducible refine gate_dst (N := 14) rfl ?_); replace HS := HS.nil 3 (Zd.int .i64); refine ev_appendr rfl (Zd.int .i64) (flat_int _) 4 HS rfl (HS.ro gp2) rfl rfl rfl Try.underlying24 info3 rfl (by decide) (by decide) (by have := of_eq_true c10; first | omega | (simp only [List.length_cons, List.length_nil, List.length_append, Nat.zero_add] at this ⊢; omega)) ?_; clear HS; (try clear F); intro v11 w11 HS; rw [← e_y11.out] at HS; obtain ⟨B11, d11, rfl, m11⟩ := HS.form 5 rfl; (try simp only [hpn, hpm] at HS); have F := HS.boxes; simp only [boxFacts, and_true] at F) | ((with_reducible refine gate_store (p := 15) rfl ?_); refine ev_store rfl 0 4 HS (seg := [.slice B11 y11.length d11]) rfl rfl rfl rfl rfl rfl (by kernel_rfl) (by simp [wrt]) (by simp [Value.oneCell']) ?_; clear HS; (try clear F); intro w13 HS; (try simp only [hpn, hpm] at HS); have F := HS.boxes; simp only [boxFacts, and_true] at F) | ((with_reducible refine gate_store (p := 16) rfl ?_); refine ev_store rfl 0 3 HS (seg := [.slice none 0 0]) rfl rfl rfl rfl rfl rfl (by kernel_rfl) (by simp [wrt]) (by simp [Value.oneCell']) ?_; clear HS; (try clear F); intro w15 HS; (try simp only [hpn, hpm] at HS); have F := HS.boxes; simp only [boxFacts, and_true] at F))
 replace HS := HS.nil 150 q150
 go_loopg [19] k (fun kq v_19 w' => ∃ (l36 : List S150) (v37 : Value) (x38 : Int), v_19 = .int .i64 x38 ∧ Aside0 (impl_copyClient.l0 kq l36 x38 a0 y6 y11 = some r) ∧ Aside0 (kq ≤ k) ∧ Hp noFP w w' [.box g1 [.string a0.f0, .int .i64 a0.f1, .slice B6 y6.length d6, v37, .slice B11 y11.length d11] 31, .box g2 [.string (⟨#[]⟩ : ByteArray), .int .i64 0, .slice none 0 0, .slice none 0 0, .slice none 0 0] 31, .emp, .own (Zd.slice 89 q89) y6 [.slice B6 y6.length d6], .emp, .own (Zd.slice 3 (Zd.int .i64)) y11 [.slice B11 y11.length d11], .own (Zd.slice 150 q150) l36 [v37]])
 case atStart => exact ⟨_, _, _, rfl, H, ⟨Nat.le_refl _⟩, HS⟩
 case round =>
  clear HS H; (try clear F)
  obtain ⟨l36, v37, x38, rfl, H, HKk35, HS⟩ := hrel
  obtain ⟨B37, d37, rfl, m37⟩ := HS.form 6 rfl
  have F := HS.boxes; simp only [boxFacts, and_true] at F
  cases gk with
  | zero => exact absurd H.out (by simp [impl_copyClient.l0])
  | succ k35 =>
   simp only [impl_copyClient.l0] at H
   by_cases c40 : x38 < (a0.f3.length : Int)
   · replace H := zpos c40 H
     replace c40 := eq_true c40
     by_cases c41 : 0 ≤ x38
     case neg => exact zno c41 H
     replace H := zpos c41 H
     replace c41 := eq_true c41
     by_cases c42 : x38 < (a0.f3.length : Int)
     case neg => exact zno c42 H
     replace H := zpos c42 H
     replace c42 := eq_true c42
     obtain ⟨ad43, B43_7, d43_7, rfl, e43_0, e43_1, e43_2, e43_3, e43_4, e43_5, e43_6, e43_7, e43_8, m43_7, y43_7⟩ := at_T150 gp1 x38 (of_eq_true c41) (of_eq_true c42)
     have e43_0_43 := (HS.keepc e43_0)
     have e43_1_43 := (HS.keepc e43_1)
     have e43_2_43 := (HS.keepc e43_2)
     have e43_3_43 := (HS.keepc e43_3)
     have e43_4_43 := (HS.keepc e43_4)
     have e43_5_43 := (HS.keepc e43_5)
     have e43_6_43 := (HS.keepc e43_6)
     have e43_7_43 := (HS.keepc e43_7)
     have e43_8_43 := (HS.keepc e43_8)
     go_wp2_with (first | ((with_reducible refine gate_dst (N := 5) rfl ?_); refine ev_box rfl HS (by first | (go_simp; done) | (go_simp; rfl)) rfl ?_; clear HS; (try clear F); intro g5 w5 HS; (try simp only [hpn, hpm] at HS); have F := HS.boxes; simp only [boxFacts, and_true] at F) | ((with_reducible refine gate_store (p := 5) rfl ?_); refine ev_store rfl 7 0 HS (seg := [.int .i64 ((rd_T150 a0.f3 x38).f0), .string ((rd_T150 a0.f3 x38).f1.f0), .int .i64 ((rd_T150 a0.f3 x38).f1.f1), .int .i64 ((rd_T150 a0.f3 x38).f1.f2), .int .i64 ((rd_T150 a0.f3 x38).f1.f3), .int .i64 ((rd_T150 a0.f3 x38).f1.f4), .int .i64 ((rd_T150 a0.f3 x38).f1.f5), .slice B43_7 (rd_T150 a0.f3 x38).f1.f6.length d43_7, .string ((rd_T150 a0.f3 x38).f1.f7)]) rfl rfl rfl rfl rfl rfl (by kernel_rfl) (by simp [wrt]) (by simp [Value.oneCell']) ?_; clear HS; (try clear F); intro w46 HS; (try simp only [hpn, hpm] at HS); have F := HS.boxes; simp only [boxFacts, and_true] at F))
     replace H := zbind H; obtain ⟨t206001, ht206001, H⟩ := H
     by_cases c209001 : l36.length + 1 ≤ 1353245080339
     case neg => exact zno c209001 H
     replace H := zpos c209001 H
     replace c209001 := eq_true c209001
     replace H := zlets H; obtain ⟨y209999, e_y209999, H⟩ := H
     refine dr_start2 [.box g1 [.string a0.f0, .int .i64 a0.f1, .slice B6 y6.length d6, .slice B37 l36.length d37, .slice B11 y11.length d11] 31, .box g2 [.string (⟨#[]⟩ : ByteArray), .int .i64 0, .slice none 0 0, .slice none 0 0, .slice none 0 0] 31, .emp, .own (Zd.slice 89 q89) y6 [.slice B6 y6.length d6], .emp, .own (Zd.slice 3 (Zd.int .i64)) y11 [.slice B11 y11.length d11], .emp, .box g5 [.int .i64 ((rd_T150 a0.f3 x38).f0), .string ((rd_T150 a0.f3 x38).f1.f0), .int .i64 ((rd_T150 a0.f3 x38).f1.f1), .int .i64 ((rd_T150 a0.f3 x38).f1.f2), .int .i64 ((rd_T150 a0.f3 x38).f1.f3), .int .i64 ((rd_T150 a0.f3 x38).f1.f4), .int .i64 ((rd_T150 a0.f3 x38).f1.f5), .slice B43_7 (rd_T150 a0.f3 x38).f1.f6.length d43_7, .string ((rd_T150 a0.f3 x38).f1.f7)] 150] [11] HS (HS.arr [some 0, some 1, none, some 3, none, some 5, none, some 7] (by decide)) #[false, false, false, false, false, false, false, false, false, false, false, false] (by kernel_rfl) rfl rfl impl_copyClient.tT8 (fun w49 HT HS HH => ?_)
     (try clear F)
     refine drq_of [(0, some 23), (1, some 24), (2, some 25), (3, some 26), (4, some 27), (5, some 28)] ?_
     repeat (first | (refine drq_pure HT (v := ?_) (a' := ?_) rfl rfl (by kernel_rfl) (fun _ _ _ h => h) (.inl ⟨by rfl, ?_⟩) ?_ ?_; rotate_left; (intro w'; go_simp; with_reducible rfl); rotate_left; (simp only [Act.put, List.setIfInBounds_toArray, List.set_cons_zero, List.set_cons_succ, i64_w, i32_w]; rfl)) | (refine drq_take HT HH (v := ?_) (a' := ?_) rfl rfl (by kernel_rfl) (fun _ _ _ h => h) (.inl ⟨by rfl, ?_⟩) ?_ ?_; rotate_left; (rintro w' ⟨rs', HS'⟩; have F := HS'.boxes; simp only [boxFacts, List.cons_append, List.nil_append, and_true] at F; go_simp; with_reducible rfl); rotate_left; (simp only [Act.put, List.setIfInBounds_toArray, List.set_cons_zero, List.set_cons_succ, i64_w, i32_w]; rfl)))
     refine drq_end ?_
     refine dr_one 6 HT rfl (by kernel_rfl) (by decide) (fun K hK => ?_)
     refine goes_ Try.func107 (by kernel_rfl) rfl #[.agg #[.string ((rd_T150 a0.f3 x38).f1.f0), .int .i64 ((rd_T150 a0.f3 x38).f1.f1), .int .i64 ((rd_T150 a0.f3 x38).f1.f2), .int .i64 ((rd_T150 a0.f3 x38).f1.f3), .int .i64 ((rd_T150 a0.f3 x38).f1.f4), .int .i64 ((rd_T150 a0.f3 x38).f1.f5), .slice B43_7 (rd_T150 a0.f3 x38).f1.f6.length d43_7, .string ((rd_T150 a0.f3 x38).f1.f7)]] (by rfl) rfl rfl (by simp only [List.map_toArray, List.map_cons, List.map_nil]; rfl) ?_; refine (impl_copyReply.calls ht206001.out (HS.ro y43_7) m43_7).mono ?_; rintro _ wt206001 ⟨v206002, rfl, HQ⟩; refine ⟨_, rfl, ?_⟩; replace HS := HS.call HQ; clear HQ; (try clear F); obtain ⟨B206002, d206002, rfl, m206002⟩ := HS.form 8 rfl
     (try simp only [hpn, hpm] at HS)
     have F := HS.boxes; simp only [boxFacts, and_true] at F
     refine hK.out _ _ ⟨[], HS.arr [some 0, some 1, none, some 3, none, some 5, none, some 7] (by decide)⟩ (fun HH => ?_)
     clear hK K
     refine norm_ (a' := ?_) ?_ ?_
     rotate_left
     · show Act.put _ (some 29) _ = _; simp only [Act.put, List.setIfInBounds_toArray, List.set_cons_zero, List.set_cons_succ, i64_w, i32_w]; rfl
     refine drq_of [(7, some 30)] ?_
     repeat (first | (refine drq_pure HT (v := ?_) (a' := ?_) rfl rfl (by kernel_rfl) (fun _ _ _ h => h) (.inl ⟨by rfl, ?_⟩) ?_ ?_; rotate_left; (intro w'; go_simp; with_reducible rfl); rotate_left; (simp only [Act.put, List.setIfInBounds_toArray, List.set_cons_zero, List.set_cons_succ, i64_w, i32_w]; rfl)))
     refine drq_end ?_
     refine dr_one 8 HT rfl (by kernel_rfl) (by decide) (fun K hK => ?_)
     refine if_wp (by rfl) ?_; refine wp_lit q150 [8] ([(⟨(rd_T150 a0.f3 x38).f0, (⟨t206001.f0, t206001.f1, t206001.f2, t206001.f3, t206001.f4, t206001.f5, t206001.f6, t206001.f7⟩ : S40)⟩ : S150)] : List S150) ([.int .i64 ((rd_T150 a0.f3 x38).f0), .string t206001.f0, .int .i64 t206001.f1, .int .i64 t206001.f2, .int .i64 t206001.f3, .int .i64 t206001.f4, .int .i64 t206001.f5, .slice B206002 t206001.f6.length d206002, .string t206001.f7] ++ []) HS (by first | (go_simp; done) | (go_simp; rfl)) rfl rfl (Nat.le_of_ble_eq_true rfl) (MadeL.cons (js1 := [8]) (c := [.int .i64 ((rd_T150 a0.f3 x38).f0), .string t206001.f0, .int .i64 t206001.f1, .int .i64 t206001.f2, .int .i64 t206001.f3, .int .i64 t206001.f4, .int .i64 t206001.f5, .slice B206002 t206001.f6.length d206002, .string t206001.f7]) rfl (fun S hd hh => q150_pack (x := (⟨(rd_T150 a0.f3 x38).f0, (⟨t206001.f0, t206001.f1, t206001.f2, t206001.f3, t206001.f4, t206001.f5, t206001.f6, t206001.f7⟩ : S40)⟩ : S150)) hd (hh 8 (.own (Zd.slice 109 q109) t206001.f6 [.slice B206002 t206001.f6.length d206002]) rfl) (by decide)) MadeL.nil (by decide)) ?_; clear HS; (try clear F); intro v208001 w208001 HS; obtain ⟨B208001, d208001, rfl, m208001⟩ := HS.formn 1 9 rfl rfl
     (try simp only [hpn, hpm] at HS)
     have F := HS.boxes; simp only [boxFacts, and_true] at F
     refine hK.out _ _ ⟨[], HS.arr [some 0, some 1, none, some 3, none, some 5, none, some 7] (by decide)⟩ (fun HH => ?_)
     clear hK K
     refine norm_ (a' := ?_) ?_ ?_
     rotate_left
     · show Act.put _ (some 31) _ = _; simp only [Act.put, List.setIfInBounds_toArray, List.set_cons_zero, List.set_cons_succ, i64_w, i32_w]; rfl
     refine dr_one 9 HT rfl (by kernel_rfl) (by decide) (fun K hK => ?_)
     refine if_wp (by rfl) ?_; refine wp_append q150 6 9 HS rfl rfl (by decide) rfl rfl rfl Try.underlying29 info150 rfl (by decide) (by decide) (by have := of_eq_true c209001; first | omega | (simp only [List.length_cons, List.length_nil, List.length_append, Nat.zero_add] at this ⊢; omega)) ?_; clear HS; (try clear F); intro v209999 w209999 HS; rw [← e_y209999.out] at HS; obtain ⟨B209999, d209999, rfl, m209999⟩ := HS.form 10 rfl
     (try simp only [hpn, hpm] at HS)
     have F := HS.boxes; simp only [boxFacts, and_true] at F
     refine hK.out _ _ ⟨[], HS.arr [some 0, some 1, none, some 3, none, some 5, none, some 7] (by decide)⟩ (fun HH => ?_)
     clear hK K
     refine norm_ (a' := ?_) ?_ ?_
     rotate_left
     · show Act.put _ (some 32) _ = _; simp only [Act.put, List.setIfInBounds_toArray, List.set_cons_zero, List.set_cons_succ, i64_w, i32_w]; rfl
     refine drq_of [(10, some 33)] ?_
     repeat (first | (refine drq_pure HT (v := ?_) (a' := ?_) rfl rfl (by kernel_rfl) (fun _ _ _ h => h) (.inl ⟨by rfl, ?_⟩) ?_ ?_; rotate_left; (intro w'; go_simp; with_reducible rfl); rotate_left; (simp only [Act.put, List.setIfInBounds_toArray, List.set_cons_zero, List.set_cons_succ, i64_w, i32_w]; rfl)))
     refine drq_end ?_
     refine dr_last 11 HT rfl (by kernel_rfl) (by decide) (fun K hK => ?_)
     refine if_wp (by rfl) ?_; refine wp_store 0 3 HS (seg := [.slice B209999 y209999.length d209999]) rfl rfl rfl rfl rfl rfl (by kernel_rfl) (by simp [wrt]) (by simp [Value.oneCell']) ?_; clear HS; (try clear F); intro w211001 HS
     (try simp only [hpn, hpm] at HS)
     have F := HS.boxes; simp only [boxFacts, and_true] at F
     refine hK.out _ _ ?_
     clear hK K
     refine done_ (done_of HT.out (by kernel_rfl)) ?_
     (try clear F)
     have F := HS.boxes; simp only [boxFacts, and_true] at F
     go_wp2
     go_roundg k35
     case measure => have := HKk35.out; omega
     case rel => exact ⟨_, _, _, rfl, H, ⟨by have := HKk35.out; omega⟩, HS.pick [0, 1, 2, 3, 4, 5, 10] (by decide) (by rfl)⟩
   · replace H := zneg c40 H
     replace c40 := eq_false c40
     obtain rfl := zsome H
     go_wp2_with (first | ((with_reducible refine gate_store (p := 2) rfl ?_); refine ev_store rfl 1 0 HS (seg := [.string a0.f0, .int .i64 a0.f1, .slice B6 y6.length d6, .slice B37 l36.length d37, .slice B11 y11.length d11]) rfl rfl rfl rfl rfl rfl (by kernel_rfl) (by simp [wrt]) (by simp [Value.oneCell']) ?_; clear HS; (try clear F); intro w51 HS; (try simp only [hpn, hpm] at HS); have F := HS.boxes; simp only [boxFacts, and_true] at F))
     exact bodyPost_ret (results_single rfl (.cell _ _ _ _ _ rfl (HS.boxAt (i := 1) rfl) Try.underlying31 rfl (by kernel_rfl) .nil)) rfl ⟨_, _, _, rfl, HS.pick [3, 6, 5] (by decide) (by rfl)⟩
/-! ### impl_within: function 78 -/
def impl_within.f (a0 : Int) (a1 : Int) (a2 : Int) : Option (Bool) := (if a1 ≤ a0 then (some (decide (a0 ≤ a2))) else (some false))
set_option maxHeartbeats 16000000 in
theorem impl_within.calls {a0 : Int} {a1 : Int} {a2 : Int} {r : Bool} {w : World} (h : impl_within.f a0 a1 a2 = some r) :
    Calls Try.prog 78 #[.int .i64 a0, .int .i64 a1, .int .i64 a2] w (fun e w' => e = .returned (.bool r) ∧ Hp noFP w w' []) := by
 have HS := Hp.start w
 have H := Aside0.mk h
 clear h
 unfold impl_within.f at H
 go_enter Try.func78, Try.ntmps78
 by_cases c1 : a1 ≤ a0
 · replace H := zpos c1 H
   replace c1 := eq_true c1
   obtain rfl := zsome H
   go_wp2
   go_ret
   exact ⟨rfl, HS.pick [] (by decide) (by rfl)⟩
 · replace H := zneg c1 H
   replace c1 := eq_false c1
   obtain rfl := zsome H
   go_wp2
   go_ret
   exact ⟨rfl, HS.pick [] (by decide) (by rfl)⟩
/-! ### impl_AskNow_1_0: function 96 -/
def impl_AskNow_1_0.f (a0 : S89) (a1 : Int) : Option (Bool) := (some (a0.f0 == a1))
set_option maxHeartbeats 16000000 in
theorem impl_AskNow_1_0.calls {a0 : S89} {a1 : Int} {p0 : Nat} {r : Bool} {w : World} (h : impl_AskNow_1_0.f a0 a1 = some r) (zp0_0 : w.cell? ⟨p0, 0, none⟩ = some (.int .i64 a1)) :
    Calls Try.prog 96 #[.agg #[.int .i64 a0.f0, .int .i64 a0.f1, .string a0.f2, .int .i64 a0.f3], .pointer (some ⟨p0, 0, none⟩)] w (fun e w' => e = .returned (.bool r) ∧ Hp noFP w w' []) := by
 have HS := Hp.start w
 have H := Aside0.mk h
 clear h
 unfold impl_AskNow_1_0.f at H
 go_enter Try.func96, Try.ntmps96
 obtain rfl := zsome H
 go_wp2_with (first | ((with_reducible refine gate_dst (N := 2) rfl ?_); refine ev_box rfl HS (by first | (go_simp; done) | (go_simp; rfl)) rfl ?_; clear HS; (try clear F); intro g2 w2 HS; (try simp only [hpn, hpm] at HS); have F := HS.boxes; simp only [boxFacts, and_true] at F; have zp0_0_ := (HS.keepc zp0_0)))
 go_ret
 exact ⟨rfl, HS.pick [] (by decide) (by rfl)⟩
/-! ### impl_Wait_145_0: function 145 -/
def impl_Wait_145_0.l0 : Nat → Int → (List S89) → Int → Option (Int)
  | 0, _, _, _ => none
  | k + 1, x4, a0, a1 => (if x4 < (a0.length : Int) then (if 0 ≤ x4 then (if x4 < (a0.length : Int) then ((impl_AskNow_1_0.f (rd_T89 a0 x4) a1).bind fun t10 => (if t10 = true then (some x4) else (impl_Wait_145_0.l0 k (wrap64 (x4 + 1)) a0 a1))) else none) else none) else (some (-1)))
def impl_Wait_145_0.f (k : Nat) (a0 : (List S89)) (a1 : Int) : Option (Int) := (impl_Wait_145_0.l0 k 0 a0 a1)
set_option maxHeartbeats 16000000 in
theorem impl_Wait_145_0.calls {k : Nat} {a0 : (List S89)} {a1 : Int} {Ap0 : Option Addr} {np0 cp0 : Nat} {p1 : Nat} {r : Int} {w : World} (h : impl_Wait_145_0.f k a0 a1 = some r) (gp0 : k89.C w Ap0 np0 a0) (lp0 : np0 ≤ cp0) (zp1_0 : w.cell? ⟨p1, 0, none⟩ = some (.int .i64 a1)) :
    Calls Try.prog 145 #[.slice Ap0 np0 cp0, .func (.func 96) #[] #[.pointer (some ⟨p1, 0, none⟩)]] w (fun e w' => e = .returned (.int .i64 r) ∧ Hp noFP w w' []) := by
 obtain rfl := C_len gp0
 have HS := Hp.start w
 have H := Aside0.mk h
 clear h
 unfold impl_Wait_145_0.f at H
 go_enter Try.func145, Try.ntmps145
 go_wp2
 go_loopg [8] k (fun kq v_8 w' => ∃ (x4 : Int), v_8 = .int .i64 x4 ∧ Aside0 (impl_Wait_145_0.l0 kq x4 a0 a1 = some r) ∧ Aside0 (kq ≤ k) ∧ Hp noFP w w' [])
 case atStart => exact ⟨_, rfl, H, ⟨Nat.le_refl _⟩, HS⟩
 case round =>
  clear HS H; (try clear F)
  obtain ⟨x4, rfl, H, HKk3, HS⟩ := hrel
  cases gk with
  | zero => exact absurd H.out (by simp [impl_Wait_145_0.l0])
  | succ k3 =>
   simp only [impl_Wait_145_0.l0] at H
   by_cases c6 : x4 < (a0.length : Int)
   · replace H := zpos c6 H
     replace c6 := eq_true c6
     by_cases c7 : 0 ≤ x4
     case neg => exact zno c7 H
     replace H := zpos c7 H
     replace c7 := eq_true c7
     by_cases c8 : x4 < (a0.length : Int)
     case neg => exact zno c8 H
     replace H := zpos c8 H
     replace c8 := eq_true c8
     obtain ⟨ad9, rfl, e9_0, e9_1, e9_2, e9_3⟩ := at_T89 gp0 x4 (of_eq_true c7) (of_eq_true c8)
     have e9_0_9 := (HS.keepc e9_0)
     have e9_1_9 := (HS.keepc e9_1)
     have e9_2_9 := (HS.keepc e9_2)
     have e9_3_9 := (HS.keepc e9_3)
     replace H := zbind H; obtain ⟨t10, ht10, H⟩ := H
     go_upto_if 16 with (first | ((with_reducible refine gate_dst (N := 16) rfl ?_); refine ev_callv rfl Try.func96 (by kernel_rfl) rfl #[.agg #[.int .i64 ((rd_T89 a0 x4).f0), .int .i64 ((rd_T89 a0 x4).f1), .string ((rd_T89 a0 x4).f2), .int .i64 ((rd_T89 a0 x4).f3)]] #[.agg #[.int .i64 ((rd_T89 a0 x4).f0), .int .i64 ((rd_T89 a0 x4).f1), .string ((rd_T89 a0 x4).f2), .int .i64 ((rd_T89 a0 x4).f3)], .pointer (some ⟨p1, 0, none⟩)] rfl rfl (by simp only [List.map_toArray, List.map_cons, List.map_nil]; rfl) (by first | rfl | simp) ?_; refine (impl_AskNow_1_0.calls ht10.out (HS.keepc zp1_0)).mono ?_; rintro _ wt10 ⟨rfl, HQ⟩; refine ⟨_, rfl, ?_⟩; replace HS := HS.call HQ; clear HQ; (try clear F); (try simp only [hpn, hpm] at HS)))
     by_cases c12 : t10 = true
     · replace H := zpos c12 H
       subst c12
       (try simp only [dcn, if_true, Bool.false_eq_true, if_false])
       obtain rfl := zsome H
       go_wp2
       go_ret
       exact ⟨rfl, HS.pick [] (by decide) (by rfl)⟩
     · replace H := zneg c12 H
       replace c12 := eq_false_of_ne_true c12
       subst c12
       (try simp only [dcn, if_true, Bool.false_eq_true, if_false])
       go_wp2
       go_roundg k3
       case measure => have := HKk3.out; omega
       case rel => exact ⟨_, rfl, H, ⟨by have := HKk3.out; omega⟩, HS.pick [] (by decide) (by rfl)⟩
   · replace H := zneg c6 H
     replace c6 := eq_false c6
     obtain rfl := zsome H
     go_wp2
     go_ret
     exact ⟨rfl, HS.pick [] (by decide) (by rfl)⟩
/-! ### impl_Wait_95_0: function 95 -/
def impl_Wait_95_0.f (k : Nat) (a0 : (List S89)) (a1 : Int) : Option (Bool) := ((impl_Wait_145_0.f k a0 a1).bind fun t1 => (some (decide (0 ≤ t1))))
set_option maxHeartbeats 16000000 in
theorem impl_Wait_95_0.calls {k : Nat} {a0 : (List S89)} {a1 : Int} {Ap0 : Option Addr} {np0 cp0 : Nat} {p1 : Nat} {r : Bool} {w : World} (h : impl_Wait_95_0.f k a0 a1 = some r) (gp0 : k89.C w Ap0 np0 a0) (lp0 : np0 ≤ cp0) (zp1_0 : w.cell? ⟨p1, 0, none⟩ = some (.int .i64 a1)) :
    Calls Try.prog 95 #[.slice Ap0 np0 cp0, .func (.func 96) #[] #[.pointer (some ⟨p1, 0, none⟩)]] w (fun e w' => e = .returned (.bool r) ∧ Hp noFP w w' []) := by
 obtain rfl := C_len gp0
 have HS := Hp.start w
 have H := Aside0.mk h
 clear h
 unfold impl_Wait_95_0.f at H
 go_enter Try.func95, Try.ntmps95
 replace H := zbind H; obtain ⟨t1, ht1, H⟩ := H
 obtain rfl := zsome H
 go_wp2_with (first | ((with_reducible refine gate_dst (N := 7) rfl ?_); refine ev_call rfl Try.func145 (by kernel_rfl) rfl #[.slice Ap0 a0.length cp0, .func (.func 96) #[] #[.pointer (some ⟨p1, 0, none⟩)]] rfl (by simp only [List.map_toArray, List.map_cons, List.map_nil]; rfl) ?_; refine (impl_Wait_145_0.calls ht1.out (HS.ro gp0) lp0 (HS.keepc zp1_0)).mono ?_; rintro _ wt1 ⟨rfl, HQ⟩; refine ⟨_, rfl, ?_⟩; replace HS := HS.call HQ; clear HQ; (try clear F); (try simp only [hpn, hpm] at HS)))
 go_ret
 exact ⟨rfl, HS.pick [] (by decide) (by rfl)⟩
/-! ### impl_AskNow_2_0: function 98 -/
def impl_AskNow_2_0.f (a0 : S150) (a1 : Int) : Option (Bool) := (some (a0.f0 == a1))
set_option maxHeartbeats 16000000 in
theorem impl_AskNow_2_0.calls {a0 : S150} {a1 : Int} {Ap0 : Option Addr} {np0 cp0 : Nat} {p1 : Nat} {r : Bool} {w : World} (h : impl_AskNow_2_0.f a0 a1 = some r) (gp0 : k109.C w Ap0 np0 a0.f1.f6) (lp0 : np0 ≤ cp0) (zp1_0 : w.cell? ⟨p1, 0, none⟩ = some (.int .i64 a1)) :
    Calls Try.prog 98 #[.agg #[.int .i64 a0.f0, .string a0.f1.f0, .int .i64 a0.f1.f1, .int .i64 a0.f1.f2, .int .i64 a0.f1.f3, .int .i64 a0.f1.f4, .int .i64 a0.f1.f5, .slice Ap0 np0 cp0, .string a0.f1.f7], .pointer (some ⟨p1, 0, none⟩)] w (fun e w' => e = .returned (.bool r) ∧ Hp noFP w w' []) := by
 obtain rfl := C_len gp0
 have HS := Hp.start w
 have H := Aside0.mk h
 clear h
 unfold impl_AskNow_2_0.f at H
 go_enter Try.func98, Try.ntmps98
 obtain rfl := zsome H
 go_wp2_with (first | ((with_reducible refine gate_dst (N := 2) rfl ?_); refine ev_box rfl HS (by first | (go_simp; done) | (go_simp; rfl)) rfl ?_; clear HS; (try clear F); intro g2 w2 HS; (try simp only [hpn, hpm] at HS); have F := HS.boxes; simp only [boxFacts, and_true] at F; have zp1_0_ := (HS.keepc zp1_0)))
 go_ret
 exact ⟨rfl, HS.pick [] (by decide) (by rfl)⟩
/-! ### impl_Got_146_0: function 146 -/
def impl_Got_146_0.l0 : Nat → Int → (List S150) → Int → Option (Int)
  | 0, _, _, _ => none
  | k + 1, x4, a0, a1 => (if x4 < (a0.length : Int) then (if 0 ≤ x4 then (if x4 < (a0.length : Int) then ((impl_AskNow_2_0.f (rd_T150 a0 x4) a1).bind fun t10 => (if t10 = true then (some x4) else (impl_Got_146_0.l0 k (wrap64 (x4 + 1)) a0 a1))) else none) else none) else (some (-1)))
def impl_Got_146_0.f (k : Nat) (a0 : (List S150)) (a1 : Int) : Option (Int) := (impl_Got_146_0.l0 k 0 a0 a1)
set_option maxHeartbeats 16000000 in
theorem impl_Got_146_0.calls {k : Nat} {a0 : (List S150)} {a1 : Int} {Ap0 : Option Addr} {np0 cp0 : Nat} {p1 : Nat} {r : Int} {w : World} (h : impl_Got_146_0.f k a0 a1 = some r) (gp0 : k150.C w Ap0 np0 a0) (lp0 : np0 ≤ cp0) (zp1_0 : w.cell? ⟨p1, 0, none⟩ = some (.int .i64 a1)) :
    Calls Try.prog 146 #[.slice Ap0 np0 cp0, .func (.func 98) #[] #[.pointer (some ⟨p1, 0, none⟩)]] w (fun e w' => e = .returned (.int .i64 r) ∧ Hp noFP w w' []) := by
 obtain rfl := C_len gp0
 have HS := Hp.start w
 have H := Aside0.mk h
 clear h
 unfold impl_Got_146_0.f at H
 go_enter Try.func146, Try.ntmps146
 go_wp2
 go_loopg [8] k (fun kq v_8 w' => ∃ (x4 : Int), v_8 = .int .i64 x4 ∧ Aside0 (impl_Got_146_0.l0 kq x4 a0 a1 = some r) ∧ Aside0 (kq ≤ k) ∧ Hp noFP w w' [])
 case atStart => exact ⟨_, rfl, H, ⟨Nat.le_refl _⟩, HS⟩
 case round =>
  clear HS H; (try clear F)
  obtain ⟨x4, rfl, H, HKk3, HS⟩ := hrel
  cases gk with
  | zero => exact absurd H.out (by simp [impl_Got_146_0.l0])
  | succ k3 =>
   simp only [impl_Got_146_0.l0] at H
   by_cases c6 : x4 < (a0.length : Int)
   · replace H := zpos c6 H
     replace c6 := eq_true c6
     by_cases c7 : 0 ≤ x4
     case neg => exact zno c7 H
     replace H := zpos c7 H
     replace c7 := eq_true c7
     by_cases c8 : x4 < (a0.length : Int)
     case neg => exact zno c8 H
     replace H := zpos c8 H
     replace c8 := eq_true c8
     obtain ⟨ad9, B9_7, d9_7, rfl, e9_0, e9_1, e9_2, e9_3, e9_4, e9_5, e9_6, e9_7, e9_8, m9_7, y9_7⟩ := at_T150 gp0 x4 (of_eq_true c7) (of_eq_true c8)
     have e9_0_9 := (HS.keepc e9_0)
     have e9_1_9 := (HS.keepc e9_1)
     have e9_2_9 := (HS.keepc e9_2)
     have e9_3_9 := (HS.keepc e9_3)
     have e9_4_9 := (HS.keepc e9_4)
     have e9_5_9 := (HS.keepc e9_5)
     have e9_6_9 := (HS.keepc e9_6)
     have e9_7_9 := (HS.keepc e9_7)
     have e9_8_9 := (HS.keepc e9_8)
     replace H := zbind H; obtain ⟨t10, ht10, H⟩ := H
     go_upto_if 16 with (first | ((with_reducible refine gate_dst (N := 16) rfl ?_); refine ev_callv rfl Try.func98 (by kernel_rfl) rfl #[.agg #[.int .i64 ((rd_T150 a0 x4).f0), .string ((rd_T150 a0 x4).f1.f0), .int .i64 ((rd_T150 a0 x4).f1.f1), .int .i64 ((rd_T150 a0 x4).f1.f2), .int .i64 ((rd_T150 a0 x4).f1.f3), .int .i64 ((rd_T150 a0 x4).f1.f4), .int .i64 ((rd_T150 a0 x4).f1.f5), .slice B9_7 (rd_T150 a0 x4).f1.f6.length d9_7, .string ((rd_T150 a0 x4).f1.f7)]] #[.agg #[.int .i64 ((rd_T150 a0 x4).f0), .string ((rd_T150 a0 x4).f1.f0), .int .i64 ((rd_T150 a0 x4).f1.f1), .int .i64 ((rd_T150 a0 x4).f1.f2), .int .i64 ((rd_T150 a0 x4).f1.f3), .int .i64 ((rd_T150 a0 x4).f1.f4), .int .i64 ((rd_T150 a0 x4).f1.f5), .slice B9_7 (rd_T150 a0 x4).f1.f6.length d9_7, .string ((rd_T150 a0 x4).f1.f7)], .pointer (some ⟨p1, 0, none⟩)] rfl rfl (by simp only [List.map_toArray, List.map_cons, List.map_nil]; rfl) (by first | rfl | simp) ?_; refine (impl_AskNow_2_0.calls ht10.out (HS.ro y9_7) m9_7 (HS.keepc zp1_0)).mono ?_; rintro _ wt10 ⟨rfl, HQ⟩; refine ⟨_, rfl, ?_⟩; replace HS := HS.call HQ; clear HQ; (try clear F); (try simp only [hpn, hpm] at HS)))
     by_cases c12 : t10 = true
     · replace H := zpos c12 H
       subst c12
       (try simp only [dcn, if_true, Bool.false_eq_true, if_false])
       obtain rfl := zsome H
       go_wp2
       go_ret
       exact ⟨rfl, HS.pick [] (by decide) (by rfl)⟩
     · replace H := zneg c12 H
       replace c12 := eq_false_of_ne_true c12
       subst c12
       (try simp only [dcn, if_true, Bool.false_eq_true, if_false])
       go_wp2
       go_roundg k3
       case measure => have := HKk3.out; omega
       case rel => exact ⟨_, rfl, H, ⟨by have := HKk3.out; omega⟩, HS.pick [] (by decide) (by rfl)⟩
   · replace H := zneg c6 H
     replace c6 := eq_false c6
     obtain rfl := zsome H
     go_wp2
     go_ret
     exact ⟨rfl, HS.pick [] (by decide) (by rfl)⟩
/-! ### impl_Got_97_0: function 97 -/
def impl_Got_97_0.f (k : Nat) (a0 : (List S150)) (a1 : Int) : Option (Bool) := ((impl_Got_146_0.f k a0 a1).bind fun t1 => (some (decide (0 ≤ t1))))
set_option maxHeartbeats 16000000 in
theorem impl_Got_97_0.calls {k : Nat} {a0 : (List S150)} {a1 : Int} {Ap0 : Option Addr} {np0 cp0 : Nat} {p1 : Nat} {r : Bool} {w : World} (h : impl_Got_97_0.f k a0 a1 = some r) (gp0 : k150.C w Ap0 np0 a0) (lp0 : np0 ≤ cp0) (zp1_0 : w.cell? ⟨p1, 0, none⟩ = some (.int .i64 a1)) :
    Calls Try.prog 97 #[.slice Ap0 np0 cp0, .func (.func 98) #[] #[.pointer (some ⟨p1, 0, none⟩)]] w (fun e w' => e = .returned (.bool r) ∧ Hp noFP w w' []) := by
 obtain rfl := C_len gp0
 have HS := Hp.start w
 have H := Aside0.mk h
 clear h
 unfold impl_Got_97_0.f at H
 go_enter Try.func97, Try.ntmps97
 replace H := zbind H; obtain ⟨t1, ht1, H⟩ := H
 obtain rfl := zsome H
 go_wp2_with (first | ((with_reducible refine gate_dst (N := 7) rfl ?_); refine ev_call rfl Try.func146 (by kernel_rfl) rfl #[.slice Ap0 a0.length cp0, .func (.func 98) #[] #[.pointer (some ⟨p1, 0, none⟩)]] rfl (by simp only [List.map_toArray, List.map_cons, List.map_nil]; rfl) ?_; refine (impl_Got_146_0.calls ht1.out (HS.ro gp0) lp0 (HS.keepc zp1_0)).mono ?_; rintro _ wt1 ⟨rfl, HQ⟩; refine ⟨_, rfl, ?_⟩; replace HS := HS.call HQ; clear HQ; (try clear F); (try simp only [hpn, hpm] at HS)))
 go_ret
 exact ⟨rfl, HS.pick [] (by decide) (by rfl)⟩
/-! ### impl_bytesIn: function 190 -/
def impl_bytesIn.l0 : Nat → Int → ByteArray → Int → Int → Option (Bool)
  | 0, _, _, _, _ => none
  | k + 1, x4, a0, a1, a2 => (if x4 < (a0.size : Int) then (if 0 ≤ x4 then (if x4 < (a0.size : Int) then ((impl_within.f (wrap64 (bt a0 x4)) a1 a2).bind fun t10 => (if t10 = true then (impl_bytesIn.l0 k (wrap64 (x4 + 1)) a0 a1 a2) else (some false))) else none) else none) else (some true))
def impl_bytesIn.f (k : Nat) (a0 : ByteArray) (a1 : Int) (a2 : Int) : Option (Bool) := (impl_bytesIn.l0 k 0 a0 a1 a2)
set_option maxHeartbeats 16000000 in
theorem impl_bytesIn.calls {k : Nat} {a0 : ByteArray} {a1 : Int} {a2 : Int} {r : Bool} {w : World} (h : impl_bytesIn.f k a0 a1 a2 = some r) :
    Calls Try.prog 190 #[.string a0, .int .i64 a1, .int .i64 a2] w (fun e w' => e = .returned (.bool r) ∧ Hp noFP w w' []) := by
 have HS := Hp.start w
 have H := Aside0.mk h
 clear h
 unfold impl_bytesIn.f at H
 go_enter Try.func190, Try.ntmps190
 go_wp2
 go_loopg [7] k (fun kq v_7 w' => ∃ (x4 : Int), v_7 = .int .i64 x4 ∧ Aside0 (impl_bytesIn.l0 kq x4 a0 a1 a2 = some r) ∧ Aside0 (kq ≤ k) ∧ Hp noFP w w' [])
 case atStart => exact ⟨_, rfl, H, ⟨Nat.le_refl _⟩, HS⟩
 case round =>
  clear HS H; (try clear F)
  obtain ⟨x4, rfl, H, HKk3, HS⟩ := hrel
  cases gk with
  | zero => exact absurd H.out (by simp [impl_bytesIn.l0])
  | succ k3 =>
   simp only [impl_bytesIn.l0] at H
   by_cases c6 : x4 < (a0.size : Int)
   · replace H := zpos c6 H
     replace c6 := eq_true c6
     by_cases c7 : 0 ≤ x4
     case neg => exact zno c7 H
     replace H := zpos c7 H
     replace c7 := eq_true c7
     by_cases c8 : x4 < (a0.size : Int)
     case neg => exact zno c8 H
     replace H := zpos c8 H
     replace c8 := eq_true c8
     have hx9 := bt_at a0 x4
     replace H := zbind H; obtain ⟨t10, ht10, H⟩ := H
     go_upto_if 21 with (first | ((with_reducible refine gate_dst (N := 20) rfl ?_); refine ev_call rfl Try.func78 (by kernel_rfl) rfl #[.int .i64 (wrap64 (bt a0 x4)), .int .i64 a1, .int .i64 a2] rfl (by simp only [List.map_toArray, List.map_cons, List.map_nil]; rfl) ?_; refine (impl_within.calls ht10.out).mono ?_; rintro _ wt10 ⟨rfl, HQ⟩; refine ⟨_, rfl, ?_⟩; replace HS := HS.call HQ; clear HQ; (try clear F); (try simp only [hpn, hpm] at HS)))
     by_cases c12 : t10 = true
     · replace H := zpos c12 H
       subst c12
       (try simp only [dcn, if_true, Bool.false_eq_true, if_false])
       go_wp2
       go_roundg k3
       case measure => have := HKk3.out; omega
       case rel => exact ⟨_, rfl, H, ⟨by have := HKk3.out; omega⟩, HS.pick [] (by decide) (by rfl)⟩
     · replace H := zneg c12 H
       replace c12 := eq_false_of_ne_true c12
       subst c12
       (try simp only [dcn, if_true, Bool.false_eq_true, if_false])
       obtain rfl := zsome H
       go_wp2
       go_ret
       exact ⟨rfl, HS.pick [] (by decide) (by rfl)⟩
   · replace H := zneg c6 H
     replace c6 := eq_false c6
     obtain rfl := zsome H
     go_wp2
     go_ret
     exact ⟨rfl, HS.pick [] (by decide) (by rfl)⟩
end Go.Proofs.Ytoaoncnbimcdgaa.F
