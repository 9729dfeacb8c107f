/- What the law's own helpers do: they measure, copy, compare, mark. Plain lemmas, no condition. -/
import Derived.Test.YtdcjcanobiohnaaSaidFnExactPlansOk
import Derived.Test.YtdcjcanobiohnaaZMark
namespace Go.Proofs.Ytdcjcanobiohnaa.FamFnExactPlansOk
open Go.RowKit Go.Proofs.YtdcjcanobiohnaaW.PrintWords Go.Proofs.YtdcjcanobiohnaaW.PrintLast Go.Proofs.Ytdcjcanobiohnaa.ZOpen Go.Proofs.Ytdcjcanobiohnaa.Z Go.Proofs.Ytdcjcanobiohnaa.F
open Go.Proofs.Ytdcjcanobiohnaa.SaidFnExactPlansOk Go.Proofs.Ytdcjcanobiohnaa.ZP
set_option linter.unusedVariables false
set_option linter.unusedSimpArgs false
set_option maxRecDepth 100000

theorem rdI (x : List Int) (i : Nat) (h : i < x.length) : rd x (i : Int) = x[i] := by simp [rd, h]
theorem szw_77 (l : (List Int)) (hl : okList (okInt .i64) l) (b : Int) (h0 : 0 ≤ b) (h1 : b ≤ 1048576) (k : Nat) (hk : 0 ≤ k) : ∃ n, laws_szIntS.f l b = some n ∧ n ≤ b ∧ (0 ≤ n → (l.length ≤ 1048576 ∧ ∀ e ∈ l, True) ∧ n + (((l.length : Nat) : Int) : Int) = b) := by
  have hll : l.length ≤ maxLen := hl.1
  have hm : maxLen = 9223372036854775807 := rfl
  have e : wrap64 (b - (l.length : Int)) = b - (l.length : Int) := by unfold wrap64; omega
  unfold laws_szIntS.f
  rw [e]
  by_cases c : b - (l.length : Int) < 0
  · rw [if_pos c]; exact ⟨-1, rfl, by omega, fun h => by omega⟩
  rw [if_neg c]
  exact ⟨_, rfl, by omega, fun h => ⟨⟨by omega, fun e he => trivial⟩, by omega⟩⟩
theorem sz_77 (l : (List Int)) (hl : okList (okInt .i64) l) (b : Int) (h0 : 0 ≤ b) (h1 : b ≤ 1048576) (k : Nat) (hk : 0 ≤ k) : ∃ n, laws_szIntS.f l b = some n ∧ n ≤ b ∧ (0 ≤ n → (l.length ≤ 1048576 ∧ ∀ e ∈ l, True)) := by
  obtain ⟨n, g1, g2, g3⟩ := szw_77 l hl b h0 h1 k hk
  exact ⟨n, g1, g2, fun h => (g3 h).1⟩
def sm141 (x : S141) : Prop := True ∧ (x.f1.length ≤ 1048576 ∧ ∀ e ∈ x.f1, True) ∧ True ∧ True ∧ True ∧ True
def wt141 (x : S141) : Nat := x.f1.length
theorem szw_149 (x : S141) (hx : ok141 x) (b : Int) (h0 : 0 ≤ b) (h1 : b ≤ 1048576) (k : Nat) (hk : 0 ≤ k) : ∃ n, laws_szRules.f x b = some n ∧ n ≤ b ∧ (0 ≤ n → sm141 x ∧ n + (wt141 x : Int) = b) := by
  have hm : maxLen = 9223372036854775807 := rfl
  unfold laws_szRules.f
  obtain ⟨n1, e1, b1, p1⟩ := szw_77 x.f1 (hx.2.1) b (by omega) (by omega) k (by omega)
  rw [e1, Option.bind_some]
  by_cases c1 : n1 < 0
  · rw [if_pos c1]; exact ⟨-1, rfl, by omega, fun h => by omega⟩
  rw [if_neg c1]
  exact ⟨n1, rfl, by omega, fun h => ⟨⟨trivial, (p1 (by omega)).1, trivial, trivial, trivial, trivial⟩, by have w1 := (p1 (by omega)).2; unfold wt141; omega⟩⟩
theorem sz_149 (x : S141) (hx : ok141 x) (b : Int) (h0 : 0 ≤ b) (h1 : b ≤ 1048576) (k : Nat) (hk : 0 ≤ k) : ∃ n, laws_szRules.f x b = some n ∧ n ≤ b ∧ (0 ≤ n → sm141 x) := by
  obtain ⟨n, g1, g2, g3⟩ := szw_149 x hx b h0 h1 k hk
  exact ⟨n, g1, g2, fun h => (g3 h).1⟩
def sm143 (x : S143) : Prop := True ∧ (x.f1.length ≤ 1048576 ∧ ∀ e ∈ x.f1, True) ∧ sm141 x.f2 ∧ True
def wt143 (x : S143) : Nat := x.f1.length + wt141 x.f2
theorem szw_98 (x : S143) (hx : ok143 x) (b : Int) (h0 : 0 ≤ b) (h1 : b ≤ 1048576) (k : Nat) (hk : 0 ≤ k) : ∃ n, laws_szPlan.f x b = some n ∧ n ≤ b ∧ (0 ≤ n → sm143 x ∧ n + (wt143 x : Int) = b) := by
  have hm : maxLen = 9223372036854775807 := rfl
  unfold laws_szPlan.f
  obtain ⟨n1, e1, b1, p1⟩ := szw_77 x.f1 (hx.2.1) b (by omega) (by omega) k (by omega)
  rw [e1, Option.bind_some]
  by_cases c1 : n1 < 0
  · rw [if_pos c1]; exact ⟨-1, rfl, by omega, fun h => by omega⟩
  rw [if_neg c1]
  obtain ⟨n2, e2, b2, p2⟩ := szw_149 x.f2 (hx.2.2) n1 (by omega) (by omega) k (by omega)
  rw [e2, Option.bind_some]
  by_cases c2 : n2 < 0
  · rw [if_pos c2]; exact ⟨-1, rfl, by omega, fun h => by omega⟩
  rw [if_neg c2]
  exact ⟨n2, rfl, by omega, fun h => ⟨⟨trivial, (p1 (by omega)).1, (p2 (by omega)).1, trivial⟩, by have w1 := (p1 (by omega)).2; have w2 := (p2 (by omega)).2; unfold wt143; omega⟩⟩
theorem sz_98 (x : S143) (hx : ok143 x) (b : Int) (h0 : 0 ≤ b) (h1 : b ≤ 1048576) (k : Nat) (hk : 0 ≤ k) : ∃ n, laws_szPlan.f x b = some n ∧ n ≤ b ∧ (0 ≤ n → sm143 x) := by
  obtain ⟨n, g1, g2, g3⟩ := szw_98 x hx b h0 h1 k hk
  exact ⟨n, g1, g2, fun h => (g3 h).1⟩
theorem rd143 (x : List S143) (i : Nat) (h : i < x.length) : rd_T143 x (i : Int) = x[i] := by simp [rd_T143, h]
theorem szw_42 (l : (List S143)) (hl : okList ok143 l) (b : Int) (h0 : 0 ≤ b) (h1 : b ≤ 1048576) (k : Nat) (hk : 1048577 ≤ k) : ∃ n, laws_szPlanS.f k l b = some n ∧ n ≤ b ∧ (0 ≤ n → (l.length ≤ 1048576 ∧ ∀ e ∈ l, sm143 e) ∧ n + ((((l.length + (l.map wt143).sum) : Nat) : Int) : Int) = b) := by
  have hll : l.length ≤ maxLen := hl.1
  have hm : maxLen = 9223372036854775807 := rfl
  have e : wrap64 (b - (l.length : Int)) = b - (l.length : Int) := by unfold wrap64; omega
  unfold laws_szPlanS.f
  rw [e]
  by_cases c : b - (l.length : Int) < 0
  · rw [if_pos c]; exact ⟨-1, rfl, by omega, fun h => by omega⟩
  rw [if_neg c]
  obtain ⟨n, n1, n2, n3⟩ := sz_loop_w laws_szPlanS.l0 rd_T143 (fun k e b => laws_szPlan.f e b) sm143 wt143 l 0 (by omega) (rd143 l) (fun k b i => by rw [laws_szPlanS.l0]) (fun k e b hk he g0 g1 => szw_98 e (hl.2 e he) b g0 g1 k (by omega)) k (b - (l.length : Int)) 0 (by omega) (by omega) (by omega) (by omega)
  refine ⟨n, n1, by omega, fun h => ⟨⟨by omega, fun a ha => ?_⟩, ?_⟩⟩
  · obtain ⟨j, hj, rfl⟩ := List.getElem_of_mem ha
    exact (n3 h).1 j hj (by omega)
  · have w := (n3 h).2
    rw [List.drop_zero] at w
    omega
theorem sz_42 (l : (List S143)) (hl : okList ok143 l) (b : Int) (h0 : 0 ≤ b) (h1 : b ≤ 1048576) (k : Nat) (hk : 1048577 ≤ k) : ∃ n, laws_szPlanS.f k l b = some n ∧ n ≤ b ∧ (0 ≤ n → (l.length ≤ 1048576 ∧ ∀ e ∈ l, sm143 e)) := by
  obtain ⟨n, g1, g2, g3⟩ := szw_42 l hl b h0 h1 k hk
  exact ⟨n, g1, g2, fun h => (g3 h).1⟩
theorem rdS (x : List ByteArray) (i : Nat) (h : i < x.length) : rdOf ByteArray.empty x (i : Int) = x[i] := by simp [rdOf, h]
theorem szw_110 (l : (List ByteArray)) (hl : okList okStr l) (b : Int) (h0 : 0 ≤ b) (h1 : b ≤ 1048576) (k : Nat) (hk : 1048577 ≤ k) : ∃ n, laws_szStringS.f k l b = some n ∧ n ≤ b ∧ (0 ≤ n → (l.length ≤ 1048576 ∧ ∀ e ∈ l, e.size ≤ 1048576) ∧ n + ((((l.length + (l.map ByteArray.size).sum) : Nat) : Int) : Int) = b) := by
  have hll : l.length ≤ maxLen := hl.1
  have hm : maxLen = 9223372036854775807 := rfl
  have e : wrap64 (b - (l.length : Int)) = b - (l.length : Int) := by unfold wrap64; omega
  unfold laws_szStringS.f
  rw [e]
  by_cases c : b - (l.length : Int) < 0
  · rw [if_pos c]; exact ⟨-1, rfl, by omega, fun h => by omega⟩
  rw [if_neg c]
  obtain ⟨n, n1, n2, n3⟩ := sz_loop_w laws_szStringS.l0 (rdOf ByteArray.empty) (fun _ e b => some (wrap64 (b - (e.size : Int)))) (fun e => e.size ≤ 1048576) ByteArray.size l 0 (by omega) (rdS l) (fun k b i => by rw [laws_szStringS.l0]; rfl) (fun k e b _ he g0 g1 => by
      have h2 : e.size ≤ maxLen := hl.2 e he
      exact ⟨_, rfl, by unfold wrap64; omega, fun h => ⟨by unfold wrap64 at h; omega, by unfold wrap64; omega⟩⟩) k (b - (l.length : Int)) 0 (by omega) (by omega) (by omega) (by omega)
  refine ⟨n, n1, by omega, fun h => ⟨⟨by omega, fun a ha => ?_⟩, ?_⟩⟩
  · obtain ⟨j, hj, rfl⟩ := List.getElem_of_mem ha
    exact (n3 h).1 j hj (by omega)
  · have w := (n3 h).2
    rw [List.drop_zero] at w
    omega
theorem sz_110 (l : (List ByteArray)) (hl : okList okStr l) (b : Int) (h0 : 0 ≤ b) (h1 : b ≤ 1048576) (k : Nat) (hk : 1048577 ≤ k) : ∃ n, laws_szStringS.f k l b = some n ∧ n ≤ b ∧ (0 ≤ n → (l.length ≤ 1048576 ∧ ∀ e ∈ l, e.size ≤ 1048576)) := by
  obtain ⟨n, g1, g2, g3⟩ := szw_110 l hl b h0 h1 k hk
  exact ⟨n, g1, g2, fun h => (g3 h).1⟩
def sm92 (x : S92) : Prop := True ∧ x.f1.size ≤ 1048576 ∧ x.f2.size ≤ 1048576 ∧ True ∧ True ∧ x.f5.size ≤ 1048576 ∧ True ∧ True ∧ True ∧ (x.f9.length ≤ 1048576 ∧ ∀ e ∈ x.f9, True) ∧ (x.f10.length ≤ 1048576 ∧ ∀ e ∈ x.f10, e.size ≤ 1048576) ∧ (x.f11.length ≤ 1048576 ∧ ∀ e ∈ x.f11, e.size ≤ 1048576) ∧ x.f12.size ≤ 1048576 ∧ True
def wt92 (x : S92) : Nat := x.f1.size + x.f2.size + x.f5.size + x.f9.length + (x.f10.length + (x.f10.map ByteArray.size).sum) + (x.f11.length + (x.f11.map ByteArray.size).sum) + x.f12.size
theorem szw_50 (x : S92) (hx : ok92 x) (b : Int) (h0 : 0 ≤ b) (h1 : b ≤ 1048576) (k : Nat) (hk : 1048577 ≤ k) : ∃ n, laws_szCert.f k x b = some n ∧ n ≤ b ∧ (0 ≤ n → sm92 x ∧ n + (wt92 x : Int) = b) := by
  have hm : maxLen = 9223372036854775807 := rfl
  unfold laws_szCert.f
  have s1 : x.f1.size ≤ maxLen := hx.2.1
  have e1 : wrap64 (b - (x.f1.size : Int)) = b - (x.f1.size : Int) := by unfold wrap64; omega
  rw [e1]
  by_cases c1 : b - (x.f1.size : Int) < 0
  · rw [if_pos c1]; exact ⟨-1, rfl, by omega, fun h => by omega⟩
  rw [if_neg c1]
  have s2 : x.f2.size ≤ maxLen := hx.2.2.1
  have e2 : wrap64 ((b - (x.f1.size : Int)) - (x.f2.size : Int)) = (b - (x.f1.size : Int)) - (x.f2.size : Int) := by unfold wrap64; omega
  rw [e2]
  by_cases c2 : (b - (x.f1.size : Int)) - (x.f2.size : Int) < 0
  · rw [if_pos c2]; exact ⟨-1, rfl, by omega, fun h => by omega⟩
  rw [if_neg c2]
  have s5 : x.f5.size ≤ maxLen := hx.2.2.2.2.2.1
  have e5 : wrap64 (((b - (x.f1.size : Int)) - (x.f2.size : Int)) - (x.f5.size : Int)) = ((b - (x.f1.size : Int)) - (x.f2.size : Int)) - (x.f5.size : Int) := by unfold wrap64; omega
  rw [e5]
  by_cases c5 : ((b - (x.f1.size : Int)) - (x.f2.size : Int)) - (x.f5.size : Int) < 0
  · rw [if_pos c5]; exact ⟨-1, rfl, by omega, fun h => by omega⟩
  rw [if_neg c5]
  obtain ⟨n9, e9, b9, p9⟩ := szw_77 x.f9 (hx.2.2.2.2.2.2.2.2.2.1) (((b - (x.f1.size : Int)) - (x.f2.size : Int)) - (x.f5.size : Int)) (by omega) (by omega) k (by omega)
  rw [e9, Option.bind_some]
  by_cases c9 : n9 < 0
  · rw [if_pos c9]; exact ⟨-1, rfl, by omega, fun h => by omega⟩
  rw [if_neg c9]
  obtain ⟨n10, e10, b10, p10⟩ := szw_110 x.f10 (hx.2.2.2.2.2.2.2.2.2.2.1) n9 (by omega) (by omega) k (by omega)
  rw [e10, Option.bind_some]
  by_cases c10 : n10 < 0
  · rw [if_pos c10]; exact ⟨-1, rfl, by omega, fun h => by omega⟩
  rw [if_neg c10]
  obtain ⟨n11, e11, b11, p11⟩ := szw_110 x.f11 (hx.2.2.2.2.2.2.2.2.2.2.2.1) n10 (by omega) (by omega) k (by omega)
  rw [e11, Option.bind_some]
  by_cases c11 : n11 < 0
  · rw [if_pos c11]; exact ⟨-1, rfl, by omega, fun h => by omega⟩
  rw [if_neg c11]
  have s12 : x.f12.size ≤ maxLen := hx.2.2.2.2.2.2.2.2.2.2.2.2
  have e12 : wrap64 (n11 - (x.f12.size : Int)) = n11 - (x.f12.size : Int) := by unfold wrap64; omega
  rw [e12]
  by_cases c12 : n11 - (x.f12.size : Int) < 0
  · rw [if_pos c12]; exact ⟨-1, rfl, by omega, fun h => by omega⟩
  rw [if_neg c12]
  exact ⟨(n11 - (x.f12.size : Int)), rfl, by omega, fun h => ⟨⟨trivial, (by omega), (by omega), trivial, trivial, (by omega), trivial, trivial, trivial, (p9 (by omega)).1, (p10 (by omega)).1, (p11 (by omega)).1, (by omega), trivial⟩, by have w9 := (p9 (by omega)).2; have w10 := (p10 (by omega)).2; have w11 := (p11 (by omega)).2; unfold wt92; omega⟩⟩
theorem sz_50 (x : S92) (hx : ok92 x) (b : Int) (h0 : 0 ≤ b) (h1 : b ≤ 1048576) (k : Nat) (hk : 1048577 ≤ k) : ∃ n, laws_szCert.f k x b = some n ∧ n ≤ b ∧ (0 ≤ n → sm92 x) := by
  obtain ⟨n, g1, g2, g3⟩ := szw_50 x hx b h0 h1 k hk
  exact ⟨n, g1, g2, fun h => (g3 h).1⟩
theorem rd92 (x : List S92) (i : Nat) (h : i < x.length) : rd_T92 x (i : Int) = x[i] := by simp [rd_T92, h]
theorem szw_10 (l : (List S92)) (hl : okList ok92 l) (b : Int) (h0 : 0 ≤ b) (h1 : b ≤ 1048576) (k : Nat) (hk : 2097154 ≤ k) : ∃ n, laws_szCertS.f k l b = some n ∧ n ≤ b ∧ (0 ≤ n → (l.length ≤ 1048576 ∧ ∀ e ∈ l, sm92 e) ∧ n + ((((l.length + (l.map wt92).sum) : Nat) : Int) : Int) = b) := by
  have hll : l.length ≤ maxLen := hl.1
  have hm : maxLen = 9223372036854775807 := rfl
  have e : wrap64 (b - (l.length : Int)) = b - (l.length : Int) := by unfold wrap64; omega
  unfold laws_szCertS.f
  rw [e]
  by_cases c : b - (l.length : Int) < 0
  · rw [if_pos c]; exact ⟨-1, rfl, by omega, fun h => by omega⟩
  rw [if_neg c]
  obtain ⟨n, n1, n2, n3⟩ := sz_loop_w laws_szCertS.l0 rd_T92 (fun k e b => laws_szCert.f k e b) sm92 wt92 l 1048577 (by omega) (rd92 l) (fun k b i => by rw [laws_szCertS.l0]) (fun k e b hk he g0 g1 => szw_50 e (hl.2 e he) b g0 g1 k (by omega)) k (b - (l.length : Int)) 0 (by omega) (by omega) (by omega) (by omega)
  refine ⟨n, n1, by omega, fun h => ⟨⟨by omega, fun a ha => ?_⟩, ?_⟩⟩
  · obtain ⟨j, hj, rfl⟩ := List.getElem_of_mem ha
    exact (n3 h).1 j hj (by omega)
  · have w := (n3 h).2
    rw [List.drop_zero] at w
    omega
theorem sz_10 (l : (List S92)) (hl : okList ok92 l) (b : Int) (h0 : 0 ≤ b) (h1 : b ≤ 1048576) (k : Nat) (hk : 2097154 ≤ k) : ∃ n, laws_szCertS.f k l b = some n ∧ n ≤ b ∧ (0 ≤ n → (l.length ≤ 1048576 ∧ ∀ e ∈ l, sm92 e)) := by
  obtain ⟨n, g1, g2, g3⟩ := szw_10 l hl b h0 h1 k hk
  exact ⟨n, g1, g2, fun h => (g3 h).1⟩
def sm234 (x : S234) : Prop := True ∧ True ∧ True
theorem rd234 (x : List S234) (i : Nat) (h : i < x.length) : rd_T234 x (i : Int) = x[i] := by simp [rd_T234, h]
theorem szw_173 (l : (List S234)) (hl : okList ok234 l) (b : Int) (h0 : 0 ≤ b) (h1 : b ≤ 1048576) (k : Nat) (hk : 0 ≤ k) : ∃ n, laws_szRevS.f l b = some n ∧ n ≤ b ∧ (0 ≤ n → (l.length ≤ 1048576 ∧ ∀ e ∈ l, sm234 e) ∧ n + (((l.length : Nat) : Int) : Int) = b) := by
  have hll : l.length ≤ maxLen := hl.1
  have hm : maxLen = 9223372036854775807 := rfl
  have e : wrap64 (b - (l.length : Int)) = b - (l.length : Int) := by unfold wrap64; omega
  unfold laws_szRevS.f
  rw [e]
  by_cases c : b - (l.length : Int) < 0
  · rw [if_pos c]; exact ⟨-1, rfl, by omega, fun h => by omega⟩
  rw [if_neg c]
  exact ⟨_, rfl, by omega, fun h => ⟨⟨by omega, fun e he => by simp [sm141, sm143, sm92, sm234]⟩, by omega⟩⟩
theorem sz_173 (l : (List S234)) (hl : okList ok234 l) (b : Int) (h0 : 0 ≤ b) (h1 : b ≤ 1048576) (k : Nat) (hk : 0 ≤ k) : ∃ n, laws_szRevS.f l b = some n ∧ n ≤ b ∧ (0 ≤ n → (l.length ≤ 1048576 ∧ ∀ e ∈ l, sm234 e)) := by
  obtain ⟨n, g1, g2, g3⟩ := szw_173 l hl b h0 h1 k hk
  exact ⟨n, g1, g2, fun h => (g3 h).1⟩
def sm201 (x : S201) : Prop := x.f0.size ≤ 1048576 ∧ True ∧ True ∧ True ∧ True ∧ (x.f5.length ≤ 1048576 ∧ ∀ e ∈ x.f5, sm234 e) ∧ x.f6.size ≤ 1048576 ∧ True
def wt201 (x : S201) : Nat := x.f0.size + x.f5.length + x.f6.size
theorem szw_150 (x : S201) (hx : ok201 x) (b : Int) (h0 : 0 ≤ b) (h1 : b ≤ 1048576) (k : Nat) (hk : 0 ≤ k) : ∃ n, laws_szCrl.f x b = some n ∧ n ≤ b ∧ (0 ≤ n → sm201 x ∧ n + (wt201 x : Int) = b) := by
  have hm : maxLen = 9223372036854775807 := rfl
  unfold laws_szCrl.f
  have s0 : x.f0.size ≤ maxLen := hx.1
  have e0 : wrap64 (b - (x.f0.size : Int)) = b - (x.f0.size : Int) := by unfold wrap64; omega
  rw [e0]
  by_cases c0 : b - (x.f0.size : Int) < 0
  · rw [if_pos c0]; exact ⟨-1, rfl, by omega, fun h => by omega⟩
  rw [if_neg c0]
  obtain ⟨n5, e5, b5, p5⟩ := szw_173 x.f5 (hx.2.2.2.2.2.1) (b - (x.f0.size : Int)) (by omega) (by omega) k (by omega)
  rw [e5, Option.bind_some]
  by_cases c5 : n5 < 0
  · rw [if_pos c5]; exact ⟨-1, rfl, by omega, fun h => by omega⟩
  rw [if_neg c5]
  have s6 : x.f6.size ≤ maxLen := hx.2.2.2.2.2.2
  have e6 : wrap64 (n5 - (x.f6.size : Int)) = n5 - (x.f6.size : Int) := by unfold wrap64; omega
  rw [e6]
  by_cases c6 : n5 - (x.f6.size : Int) < 0
  · rw [if_pos c6]; exact ⟨-1, rfl, by omega, fun h => by omega⟩
  rw [if_neg c6]
  exact ⟨(n5 - (x.f6.size : Int)), rfl, by omega, fun h => ⟨⟨(by omega), trivial, trivial, trivial, trivial, (p5 (by omega)).1, (by omega), trivial⟩, by have w5 := (p5 (by omega)).2; unfold wt201; omega⟩⟩
theorem sz_150 (x : S201) (hx : ok201 x) (b : Int) (h0 : 0 ≤ b) (h1 : b ≤ 1048576) (k : Nat) (hk : 0 ≤ k) : ∃ n, laws_szCrl.f x b = some n ∧ n ≤ b ∧ (0 ≤ n → sm201 x) := by
  obtain ⟨n, g1, g2, g3⟩ := szw_150 x hx b h0 h1 k hk
  exact ⟨n, g1, g2, fun h => (g3 h).1⟩
theorem rd201 (x : List S201) (i : Nat) (h : i < x.length) : rd_T201 x (i : Int) = x[i] := by simp [rd_T201, h]
theorem szw_99 (l : (List S201)) (hl : okList ok201 l) (b : Int) (h0 : 0 ≤ b) (h1 : b ≤ 1048576) (k : Nat) (hk : 1048577 ≤ k) : ∃ n, laws_szCrlS.f k l b = some n ∧ n ≤ b ∧ (0 ≤ n → (l.length ≤ 1048576 ∧ ∀ e ∈ l, sm201 e) ∧ n + ((((l.length + (l.map wt201).sum) : Nat) : Int) : Int) = b) := by
  have hll : l.length ≤ maxLen := hl.1
  have hm : maxLen = 9223372036854775807 := rfl
  have e : wrap64 (b - (l.length : Int)) = b - (l.length : Int) := by unfold wrap64; omega
  unfold laws_szCrlS.f
  rw [e]
  by_cases c : b - (l.length : Int) < 0
  · rw [if_pos c]; exact ⟨-1, rfl, by omega, fun h => by omega⟩
  rw [if_neg c]
  obtain ⟨n, n1, n2, n3⟩ := sz_loop_w laws_szCrlS.l0 rd_T201 (fun k e b => laws_szCrl.f e b) sm201 wt201 l 0 (by omega) (rd201 l) (fun k b i => by rw [laws_szCrlS.l0]) (fun k e b hk he g0 g1 => szw_150 e (hl.2 e he) b g0 g1 k (by omega)) k (b - (l.length : Int)) 0 (by omega) (by omega) (by omega) (by omega)
  refine ⟨n, n1, by omega, fun h => ⟨⟨by omega, fun a ha => ?_⟩, ?_⟩⟩
  · obtain ⟨j, hj, rfl⟩ := List.getElem_of_mem ha
    exact (n3 h).1 j hj (by omega)
  · have w := (n3 h).2
    rw [List.drop_zero] at w
    omega
theorem sz_99 (l : (List S201)) (hl : okList ok201 l) (b : Int) (h0 : 0 ≤ b) (h1 : b ≤ 1048576) (k : Nat) (hk : 1048577 ≤ k) : ∃ n, laws_szCrlS.f k l b = some n ∧ n ≤ b ∧ (0 ≤ n → (l.length ≤ 1048576 ∧ ∀ e ∈ l, sm201 e)) := by
  obtain ⟨n, g1, g2, g3⟩ := szw_99 l hl b h0 h1 k hk
  exact ⟨n, g1, g2, fun h => (g3 h).1⟩
def sm204 (x : S204) : Prop := x.f0.size ≤ 1048576 ∧ x.f1.size ≤ 1048576 ∧ True
def wt204 (x : S204) : Nat := x.f0.size + x.f1.size
theorem szw_151 (x : S204) (hx : ok204 x) (b : Int) (h0 : 0 ≤ b) (h1 : b ≤ 1048576) (k : Nat) (hk : 0 ≤ k) : ∃ n, laws_szAnchor.f x b = some n ∧ n ≤ b ∧ (0 ≤ n → sm204 x ∧ n + (wt204 x : Int) = b) := by
  have hm : maxLen = 9223372036854775807 := rfl
  unfold laws_szAnchor.f
  have s0 : x.f0.size ≤ maxLen := hx.1
  have e0 : wrap64 (b - (x.f0.size : Int)) = b - (x.f0.size : Int) := by unfold wrap64; omega
  rw [e0]
  by_cases c0 : b - (x.f0.size : Int) < 0
  · rw [if_pos c0]; exact ⟨-1, rfl, by omega, fun h => by omega⟩
  rw [if_neg c0]
  have s1 : x.f1.size ≤ maxLen := hx.2
  have e1 : wrap64 ((b - (x.f0.size : Int)) - (x.f1.size : Int)) = (b - (x.f0.size : Int)) - (x.f1.size : Int) := by unfold wrap64; omega
  rw [e1]
  by_cases c1 : (b - (x.f0.size : Int)) - (x.f1.size : Int) < 0
  · rw [if_pos c1]; exact ⟨-1, rfl, by omega, fun h => by omega⟩
  rw [if_neg c1]
  exact ⟨((b - (x.f0.size : Int)) - (x.f1.size : Int)), rfl, by omega, fun h => ⟨⟨(by omega), (by omega), trivial⟩, by unfold wt204; omega⟩⟩
theorem sz_151 (x : S204) (hx : ok204 x) (b : Int) (h0 : 0 ≤ b) (h1 : b ≤ 1048576) (k : Nat) (hk : 0 ≤ k) : ∃ n, laws_szAnchor.f x b = some n ∧ n ≤ b ∧ (0 ≤ n → sm204 x) := by
  obtain ⟨n, g1, g2, g3⟩ := szw_151 x hx b h0 h1 k hk
  exact ⟨n, g1, g2, fun h => (g3 h).1⟩
theorem rd204 (x : List S204) (i : Nat) (h : i < x.length) : rd_T204 x (i : Int) = x[i] := by simp [rd_T204, h]
theorem szw_100 (l : (List S204)) (hl : okList ok204 l) (b : Int) (h0 : 0 ≤ b) (h1 : b ≤ 1048576) (k : Nat) (hk : 1048577 ≤ k) : ∃ n, laws_szAnchorS.f k l b = some n ∧ n ≤ b ∧ (0 ≤ n → (l.length ≤ 1048576 ∧ ∀ e ∈ l, sm204 e) ∧ n + ((((l.length + (l.map wt204).sum) : Nat) : Int) : Int) = b) := by
  have hll : l.length ≤ maxLen := hl.1
  have hm : maxLen = 9223372036854775807 := rfl
  have e : wrap64 (b - (l.length : Int)) = b - (l.length : Int) := by unfold wrap64; omega
  unfold laws_szAnchorS.f
  rw [e]
  by_cases c : b - (l.length : Int) < 0
  · rw [if_pos c]; exact ⟨-1, rfl, by omega, fun h => by omega⟩
  rw [if_neg c]
  obtain ⟨n, n1, n2, n3⟩ := sz_loop_w laws_szAnchorS.l0 rd_T204 (fun k e b => laws_szAnchor.f e b) sm204 wt204 l 0 (by omega) (rd204 l) (fun k b i => by rw [laws_szAnchorS.l0]) (fun k e b hk he g0 g1 => szw_151 e (hl.2 e he) b g0 g1 k (by omega)) k (b - (l.length : Int)) 0 (by omega) (by omega) (by omega) (by omega)
  refine ⟨n, n1, by omega, fun h => ⟨⟨by omega, fun a ha => ?_⟩, ?_⟩⟩
  · obtain ⟨j, hj, rfl⟩ := List.getElem_of_mem ha
    exact (n3 h).1 j hj (by omega)
  · have w := (n3 h).2
    rw [List.drop_zero] at w
    omega
theorem sz_100 (l : (List S204)) (hl : okList ok204 l) (b : Int) (h0 : 0 ≤ b) (h1 : b ≤ 1048576) (k : Nat) (hk : 1048577 ≤ k) : ∃ n, laws_szAnchorS.f k l b = some n ∧ n ≤ b ∧ (0 ≤ n → (l.length ≤ 1048576 ∧ ∀ e ∈ l, sm204 e)) := by
  obtain ⟨n, g1, g2, g3⟩ := szw_100 l hl b h0 h1 k hk
  exact ⟨n, g1, g2, fun h => (g3 h).1⟩
def sm76 (x : S76) : Prop := (x.f0.length ≤ 1048576 ∧ ∀ e ∈ x.f0, sm92 e) ∧ (x.f1.length ≤ 1048576 ∧ ∀ e ∈ x.f1, sm201 e) ∧ (x.f2.length ≤ 1048576 ∧ ∀ e ∈ x.f2, sm204 e) ∧ True
def wt76 (x : S76) : Nat := (x.f0.length + (x.f0.map wt92).sum) + (x.f1.length + (x.f1.map wt201).sum) + (x.f2.length + (x.f2.map wt204).sum)
theorem szw_43 (x : S76) (hx : ok76 x) (b : Int) (h0 : 0 ≤ b) (h1 : b ≤ 1048576) (k : Nat) (hk : 2097154 ≤ k) : ∃ n, laws_szStore.f k x b = some n ∧ n ≤ b ∧ (0 ≤ n → sm76 x ∧ n + (wt76 x : Int) = b) := by
  have hm : maxLen = 9223372036854775807 := rfl
  unfold laws_szStore.f
  obtain ⟨n0, e0, b0, p0⟩ := szw_10 x.f0 (hx.1) b (by omega) (by omega) k (by omega)
  rw [e0, Option.bind_some]
  by_cases c0 : n0 < 0
  · rw [if_pos c0]; exact ⟨-1, rfl, by omega, fun h => by omega⟩
  rw [if_neg c0]
  obtain ⟨n1, e1, b1, p1⟩ := szw_99 x.f1 (hx.2.1) n0 (by omega) (by omega) k (by omega)
  rw [e1, Option.bind_some]
  by_cases c1 : n1 < 0
  · rw [if_pos c1]; exact ⟨-1, rfl, by omega, fun h => by omega⟩
  rw [if_neg c1]
  obtain ⟨n2, e2, b2, p2⟩ := szw_100 x.f2 (hx.2.2) n1 (by omega) (by omega) k (by omega)
  rw [e2, Option.bind_some]
  by_cases c2 : n2 < 0
  · rw [if_pos c2]; exact ⟨-1, rfl, by omega, fun h => by omega⟩
  rw [if_neg c2]
  exact ⟨n2, rfl, by omega, fun h => ⟨⟨(p0 (by omega)).1, (p1 (by omega)).1, (p2 (by omega)).1, trivial⟩, by have w0 := (p0 (by omega)).2; have w1 := (p1 (by omega)).2; have w2 := (p2 (by omega)).2; unfold wt76; omega⟩⟩
theorem sz_43 (x : S76) (hx : ok76 x) (b : Int) (h0 : 0 ≤ b) (h1 : b ≤ 1048576) (k : Nat) (hk : 2097154 ≤ k) : ∃ n, laws_szStore.f k x b = some n ∧ n ≤ b ∧ (0 ≤ n → sm76 x) := by
  obtain ⟨n, g1, g2, g3⟩ := szw_43 x hx b h0 h1 k hk
  exact ⟨n, g1, g2, fun h => (g3 h).1⟩
theorem to_81 (x : (List Int)) (h : (x.length ≤ 1048576 ∧ ∀ e ∈ x, True)) (k : Nat) (hk : 1048577 ≤ k) : laws_toIntS.f k x = some x := by
  have hx := h.1
  unfold laws_toIntS.f
  rw [if_pos (by omega), if_pos (by omega)]
  have := to_loop laws_toIntS.l0 rd (fun _ e => some e) id x 0 hx (rdI x) (fun k y i => by rw [laws_toIntS.l0]; rfl) (fun _ _ _ _ => rfl) k (List.replicate x.length (0 : Int)) 0 (by omega) (by simp) rfl (by omega)
  simpa using this
def cv141 (x : S141) : S146 := ⟨x.f0, x.f1, x.f2, x.f3, x.f4⟩
def sm146 (x : S146) : Prop := True ∧ (x.f1.length ≤ 1048576 ∧ ∀ e ∈ x.f1, True) ∧ True ∧ True ∧ True ∧ True
theorem to_154 (x : S141) (h : sm141 x) (k : Nat) (hk : 1048577 ≤ k) : laws_toRules.f k x = some (cv141 x) := by
  unfold laws_toRules.f
  simp only [to_81 x.f1 h.2.1 k (by omega), Option.bind_some]
  rfl
theorem smcv141 (x : S141) (h : sm141 x) : sm146 (cv141 x) := ⟨h.1, h.2.1, h.2.2.1, h.2.2.2.1, h.2.2.2.2.1, trivial⟩
def cv143 (x : S143) : S148 := ⟨x.f0, x.f1, (cv141 x.f2)⟩
def sm148 (x : S148) : Prop := True ∧ (x.f1.length ≤ 1048576 ∧ ∀ e ∈ x.f1, True) ∧ sm146 x.f2 ∧ True
theorem to_103 (x : S143) (h : sm143 x) (k : Nat) (hk : 1048577 ≤ k) : laws_toPlan.f k x = some (cv143 x) := by
  unfold laws_toPlan.f
  simp only [to_81 x.f1 h.2.1 k (by omega), to_154 x.f2 h.2.2.1 k (by omega), Option.bind_some]
  rfl
theorem smcv143 (x : S143) (h : sm143 x) : sm148 (cv143 x) := ⟨h.1, h.2.1, smcv141 _ h.2.2.1, trivial⟩
theorem to_45 (x : (List S143)) (h : (x.length ≤ 1048576 ∧ ∀ e ∈ x, sm143 e)) (k : Nat) (hk : 2097154 ≤ k) : laws_toPlanS.f k x = some (x.map cv143) := by
  have hx := h.1
  unfold laws_toPlanS.f
  rw [if_pos (by omega), if_pos (by omega)]
  have := to_loop laws_toPlanS.l0 rd_T143 (fun k e => laws_toPlan.f k e) cv143 x 1048577 hx (rd143 x) (fun k y i => by rw [laws_toPlanS.l0]) (fun k e hk he => to_103 e (h.2 e he) k (by omega)) k (List.replicate x.length z148) 0 (by omega) (by simp) rfl (by omega)
  simpa using this
theorem to_112 (x : (List ByteArray)) (h : (x.length ≤ 1048576 ∧ ∀ e ∈ x, e.size ≤ 1048576)) (k : Nat) (hk : 1048577 ≤ k) : laws_toStringS.f k x = some x := by
  have hx := h.1
  unfold laws_toStringS.f
  rw [if_pos (by omega), if_pos (by omega)]
  have := to_loop laws_toStringS.l0 (rdOf ByteArray.empty) (fun _ e => some e) id x 0 hx (rdS x) (fun k y i => by rw [laws_toStringS.l0]; rfl) (fun _ _ _ _ => rfl) k (List.replicate x.length (⟨#[]⟩ : ByteArray)) 0 (by omega) (by simp) rfl (by omega)
  simpa using this
def cv92 (x : S92) : S94 := ⟨x.f0, x.f1, x.f2, x.f3, x.f4, x.f5, x.f6, x.f7, x.f8, x.f9, x.f10, x.f11, x.f12⟩
def sm94 (x : S94) : Prop := True ∧ x.f1.size ≤ 1048576 ∧ x.f2.size ≤ 1048576 ∧ True ∧ True ∧ x.f5.size ≤ 1048576 ∧ True ∧ True ∧ True ∧ (x.f9.length ≤ 1048576 ∧ ∀ e ∈ x.f9, True) ∧ (x.f10.length ≤ 1048576 ∧ ∀ e ∈ x.f10, e.size ≤ 1048576) ∧ (x.f11.length ≤ 1048576 ∧ ∀ e ∈ x.f11, e.size ≤ 1048576) ∧ x.f12.size ≤ 1048576 ∧ True
theorem to_52 (x : S92) (h : sm92 x) (k : Nat) (hk : 1048577 ≤ k) : laws_toCert.f k x = some (cv92 x) := by
  unfold laws_toCert.f
  simp only [to_81 x.f9 h.2.2.2.2.2.2.2.2.2.1 k (by omega), to_112 x.f10 h.2.2.2.2.2.2.2.2.2.2.1 k (by omega), to_112 x.f11 h.2.2.2.2.2.2.2.2.2.2.2.1 k (by omega), Option.bind_some]
  rfl
theorem smcv92 (x : S92) (h : sm92 x) : sm94 (cv92 x) := ⟨h.1, h.2.1, h.2.2.1, h.2.2.2.1, h.2.2.2.2.1, h.2.2.2.2.2.1, h.2.2.2.2.2.2.1, h.2.2.2.2.2.2.2.1, h.2.2.2.2.2.2.2.2.1, h.2.2.2.2.2.2.2.2.2.1, h.2.2.2.2.2.2.2.2.2.2.1, h.2.2.2.2.2.2.2.2.2.2.2.1, h.2.2.2.2.2.2.2.2.2.2.2.2.1, trivial⟩
theorem to_12 (x : (List S92)) (h : (x.length ≤ 1048576 ∧ ∀ e ∈ x, sm92 e)) (k : Nat) (hk : 2097154 ≤ k) : laws_toCertS.f k x = some (x.map cv92) := by
  have hx := h.1
  unfold laws_toCertS.f
  rw [if_pos (by omega), if_pos (by omega)]
  have := to_loop laws_toCertS.l0 rd_T92 (fun k e => laws_toCert.f k e) cv92 x 1048577 hx (rd92 x) (fun k y i => by rw [laws_toCertS.l0]) (fun k e hk he => to_52 e (h.2 e he) k (by omega)) k (List.replicate x.length z94) 0 (by omega) (by simp) rfl (by omega)
  simpa using this
def cv234 (x : S234) : S232 := ⟨x.f0, x.f1⟩
def sm232 (x : S232) : Prop := True ∧ True ∧ True
theorem to_182 (x : S234) (h : sm234 x) (k : Nat) (hk : 0 ≤ k) : laws_toRev.f x = some (cv234 x) := by
  unfold laws_toRev.f
  rfl
theorem smcv234 (x : S234) (h : sm234 x) : sm232 (cv234 x) := ⟨h.1, h.2.1, trivial⟩
theorem to_174 (x : (List S234)) (h : (x.length ≤ 1048576 ∧ ∀ e ∈ x, sm234 e)) (k : Nat) (hk : 1048577 ≤ k) : laws_toRevS.f k x = some (x.map cv234) := by
  have hx := h.1
  unfold laws_toRevS.f
  rw [if_pos (by omega), if_pos (by omega)]
  have := to_loop laws_toRevS.l0 rd_T234 (fun k e => laws_toRev.f e) cv234 x 0 hx (rd234 x) (fun k y i => by rw [laws_toRevS.l0]) (fun k e hk he => to_182 e (h.2 e he) k (by omega)) k (List.replicate x.length z232) 0 (by omega) (by simp) rfl (by omega)
  simpa using this
def cv201 (x : S201) : S209 := ⟨x.f0, x.f1, x.f2, x.f3, x.f4, (x.f5.map cv234), x.f6⟩
def sm209 (x : S209) : Prop := x.f0.size ≤ 1048576 ∧ True ∧ True ∧ True ∧ True ∧ (x.f5.length ≤ 1048576 ∧ ∀ e ∈ x.f5, sm232 e) ∧ x.f6.size ≤ 1048576 ∧ True
theorem to_155 (x : S201) (h : sm201 x) (k : Nat) (hk : 1048577 ≤ k) : laws_toCrl.f k x = some (cv201 x) := by
  unfold laws_toCrl.f
  simp only [to_174 x.f5 h.2.2.2.2.2.1 k (by omega), Option.bind_some]
  rfl
theorem smcv201 (x : S201) (h : sm201 x) : sm209 (cv201 x) := ⟨h.1, h.2.1, h.2.2.1, h.2.2.2.1, h.2.2.2.2.1, ⟨by show (List.map cv234 _).length ≤ _; rw [List.length_map]; exact h.2.2.2.2.2.1.1, fun e he => by
  obtain ⟨a, ha, rfl⟩ := List.mem_map.1 he
  exact smcv234 a (h.2.2.2.2.2.1.2 a ha)⟩, h.2.2.2.2.2.2.1, trivial⟩
theorem to_104 (x : (List S201)) (h : (x.length ≤ 1048576 ∧ ∀ e ∈ x, sm201 e)) (k : Nat) (hk : 2097154 ≤ k) : laws_toCrlS.f k x = some (x.map cv201) := by
  have hx := h.1
  unfold laws_toCrlS.f
  rw [if_pos (by omega), if_pos (by omega)]
  have := to_loop laws_toCrlS.l0 rd_T201 (fun k e => laws_toCrl.f k e) cv201 x 1048577 hx (rd201 x) (fun k y i => by rw [laws_toCrlS.l0]) (fun k e hk he => to_155 e (h.2 e he) k (by omega)) k (List.replicate x.length z209) 0 (by omega) (by simp) rfl (by omega)
  simpa using this
def cv204 (x : S204) : S211 := ⟨x.f0, x.f1⟩
def sm211 (x : S211) : Prop := x.f0.size ≤ 1048576 ∧ x.f1.size ≤ 1048576 ∧ True
theorem to_156 (x : S204) (h : sm204 x) (k : Nat) (hk : 0 ≤ k) : laws_toAnchor.f x = some (cv204 x) := by
  unfold laws_toAnchor.f
  rfl
theorem smcv204 (x : S204) (h : sm204 x) : sm211 (cv204 x) := ⟨h.1, h.2.1, trivial⟩
theorem to_105 (x : (List S204)) (h : (x.length ≤ 1048576 ∧ ∀ e ∈ x, sm204 e)) (k : Nat) (hk : 1048577 ≤ k) : laws_toAnchorS.f k x = some (x.map cv204) := by
  have hx := h.1
  unfold laws_toAnchorS.f
  rw [if_pos (by omega), if_pos (by omega)]
  have := to_loop laws_toAnchorS.l0 rd_T204 (fun k e => laws_toAnchor.f e) cv204 x 0 hx (rd204 x) (fun k y i => by rw [laws_toAnchorS.l0]) (fun k e hk he => to_156 e (h.2 e he) k (by omega)) k (List.replicate x.length z211) 0 (by omega) (by simp) rfl (by omega)
  simpa using this
def cv76 (x : S76) : S85 := ⟨(x.f0.map cv92), (x.f1.map cv201), (x.f2.map cv204)⟩
def sm85 (x : S85) : Prop := (x.f0.length ≤ 1048576 ∧ ∀ e ∈ x.f0, sm94 e) ∧ (x.f1.length ≤ 1048576 ∧ ∀ e ∈ x.f1, sm209 e) ∧ (x.f2.length ≤ 1048576 ∧ ∀ e ∈ x.f2, sm211 e) ∧ True
theorem to_46 (x : S76) (h : sm76 x) (k : Nat) (hk : 2097154 ≤ k) : laws_toStore.f k x = some (cv76 x) := by
  unfold laws_toStore.f
  simp only [to_12 x.f0 h.1 k (by omega), to_104 x.f1 h.2.1 k (by omega), to_105 x.f2 h.2.2.1 k (by omega), Option.bind_some]
  rfl
theorem smcv76 (x : S76) (h : sm76 x) : sm85 (cv76 x) := ⟨⟨by show (List.map cv92 _).length ≤ _; rw [List.length_map]; exact h.1.1, fun e he => by
  obtain ⟨a, ha, rfl⟩ := List.mem_map.1 he
  exact smcv92 a (h.1.2 a ha)⟩, ⟨by show (List.map cv201 _).length ≤ _; rw [List.length_map]; exact h.2.1.1, fun e he => by
  obtain ⟨a, ha, rfl⟩ := List.mem_map.1 he
  exact smcv201 a (h.2.1.2 a ha)⟩, ⟨by show (List.map cv204 _).length ≤ _; rw [List.length_map]; exact h.2.2.1.1, fun e he => by
  obtain ⟨a, ha, rfl⟩ := List.mem_map.1 he
  exact smcv204 a (h.2.2.1.2 a ha)⟩, trivial⟩
theorem eq_14 (x : (List Int)) (h : (x.length ≤ 1048576 ∧ ∀ e ∈ x, True)) (k : Nat) (hk : 1048577 ≤ k) : laws_eqIntS.f k x x = some true := by
  have hx := h.1
  unfold laws_eqIntS.f
  rw [if_pos rfl]
  exact eq_loop laws_eqIntS.l0 rd (fun _ _ => some true) x 0 hx (rdI x) (fun k i => by rw [laws_eqIntS.l0]; simp) (fun _ _ _ _ => rfl) k 0 (by omega) (by omega)
theorem eq_158 (x : S146) (h : sm146 x) (k : Nat) (hk : 1048577 ≤ k) : laws_eqRules.f k x x = some true := by
  unfold laws_eqRules.f
  simp [eq_14 x.f1 h.2.1 k (by omega)]
theorem eq_107 (x : S148) (h : sm148 x) (k : Nat) (hk : 1048577 ≤ k) : laws_eqPlan.f k x x = some true := by
  unfold laws_eqPlan.f
  simp [eq_14 x.f1 h.2.1 k (by omega), eq_158 x.f2 h.2.2.1 k (by omega)]
theorem rd148 (x : List S148) (i : Nat) (h : i < x.length) : rd_T148 x (i : Int) = x[i] := by simp [rd_T148, h]
theorem eq_48 (x : (List S148)) (h : (x.length ≤ 1048576 ∧ ∀ e ∈ x, sm148 e)) (k : Nat) (hk : 2097154 ≤ k) : laws_eqPlanS.f k x x = some true := by
  have hx := h.1
  unfold laws_eqPlanS.f
  rw [if_pos rfl]
  exact eq_loop laws_eqPlanS.l0 rd_T148 (fun k e => laws_eqPlan.f k e e) x 1048577 hx (rd148 x) (fun k i => by rw [laws_eqPlanS.l0]) (fun k e hk he => eq_107 e (h.2 e he) k (by omega)) k 0 (by omega) (by omega)
theorem eq_96 (x : (List ByteArray)) (h : (x.length ≤ 1048576 ∧ ∀ e ∈ x, e.size ≤ 1048576)) (k : Nat) (hk : 1048577 ≤ k) : laws_eqStringS.f k x x = some true := by
  have hx := h.1
  unfold laws_eqStringS.f
  rw [if_pos rfl]
  exact eq_loop laws_eqStringS.l0 (rdOf ByteArray.empty) (fun _ _ => some true) x 0 hx (rdS x) (fun k i => by rw [laws_eqStringS.l0]; simp) (fun _ _ _ _ => rfl) k 0 (by omega) (by omega)
theorem eq_54 (x : S94) (h : sm94 x) (k : Nat) (hk : 1048577 ≤ k) : laws_eqCert.f k x x = some true := by
  unfold laws_eqCert.f
  simp [eq_14 x.f9 h.2.2.2.2.2.2.2.2.2.1 k (by omega), eq_96 x.f10 h.2.2.2.2.2.2.2.2.2.2.1 k (by omega), eq_96 x.f11 h.2.2.2.2.2.2.2.2.2.2.2.1 k (by omega)]
theorem rd94 (x : List S94) (i : Nat) (h : i < x.length) : rd_T94 x (i : Int) = x[i] := by simp [rd_T94, h]
theorem eq_15 (x : (List S94)) (h : (x.length ≤ 1048576 ∧ ∀ e ∈ x, sm94 e)) (k : Nat) (hk : 2097154 ≤ k) : laws_eqCertS.f k x x = some true := by
  have hx := h.1
  unfold laws_eqCertS.f
  rw [if_pos rfl]
  exact eq_loop laws_eqCertS.l0 rd_T94 (fun k e => laws_eqCert.f k e e) x 1048577 hx (rd94 x) (fun k i => by rw [laws_eqCertS.l0]) (fun k e hk he => eq_54 e (h.2 e he) k (by omega)) k 0 (by omega) (by omega)
theorem eq_183 (x : S232) (h : sm232 x) (k : Nat) (hk : 0 ≤ k) : laws_eqRev.f x x = some true := by
  unfold laws_eqRev.f
  simp []
theorem rd232 (x : List S232) (i : Nat) (h : i < x.length) : rd_T232 x (i : Int) = x[i] := by simp [rd_T232, h]
theorem eq_176 (x : (List S232)) (h : (x.length ≤ 1048576 ∧ ∀ e ∈ x, sm232 e)) (k : Nat) (hk : 1048577 ≤ k) : laws_eqRevS.f k x x = some true := by
  have hx := h.1
  unfold laws_eqRevS.f
  rw [if_pos rfl]
  exact eq_loop laws_eqRevS.l0 rd_T232 (fun k e => laws_eqRev.f e e) x 0 hx (rd232 x) (fun k i => by rw [laws_eqRevS.l0]) (fun k e hk he => eq_183 e (h.2 e he) k (by omega)) k 0 (by omega) (by omega)
theorem eq_159 (x : S209) (h : sm209 x) (k : Nat) (hk : 1048577 ≤ k) : laws_eqCrl.f k x x = some true := by
  unfold laws_eqCrl.f
  simp [eq_176 x.f5 h.2.2.2.2.2.1 k (by omega)]
theorem rd209 (x : List S209) (i : Nat) (h : i < x.length) : rd_T209 x (i : Int) = x[i] := by simp [rd_T209, h]
theorem eq_108 (x : (List S209)) (h : (x.length ≤ 1048576 ∧ ∀ e ∈ x, sm209 e)) (k : Nat) (hk : 2097154 ≤ k) : laws_eqCrlS.f k x x = some true := by
  have hx := h.1
  unfold laws_eqCrlS.f
  rw [if_pos rfl]
  exact eq_loop laws_eqCrlS.l0 rd_T209 (fun k e => laws_eqCrl.f k e e) x 1048577 hx (rd209 x) (fun k i => by rw [laws_eqCrlS.l0]) (fun k e hk he => eq_159 e (h.2 e he) k (by omega)) k 0 (by omega) (by omega)
theorem eq_160 (x : S211) (h : sm211 x) (k : Nat) (hk : 0 ≤ k) : laws_eqAnchor.f x x = some true := by
  unfold laws_eqAnchor.f
  simp []
theorem rd211 (x : List S211) (i : Nat) (h : i < x.length) : rd_T211 x (i : Int) = x[i] := by simp [rd_T211, h]
theorem eq_109 (x : (List S211)) (h : (x.length ≤ 1048576 ∧ ∀ e ∈ x, sm211 e)) (k : Nat) (hk : 1048577 ≤ k) : laws_eqAnchorS.f k x x = some true := by
  have hx := h.1
  unfold laws_eqAnchorS.f
  rw [if_pos rfl]
  exact eq_loop laws_eqAnchorS.l0 rd_T211 (fun k e => laws_eqAnchor.f e e) x 0 hx (rd211 x) (fun k i => by rw [laws_eqAnchorS.l0]) (fun k e hk he => eq_160 e (h.2 e he) k (by omega)) k 0 (by omega) (by omega)
theorem eq_49 (x : S85) (h : sm85 x) (k : Nat) (hk : 2097154 ≤ k) : laws_eqStore.f k x x = some true := by
  unfold laws_eqStore.f
  simp [eq_15 x.f0 h.1 k (by omega), eq_108 x.f1 h.2.1 k (by omega), eq_109 x.f2 h.2.2.1 k (by omega)]
end Go.Proofs.Ytdcjcanobiohnaa.FamFnExactPlansOk
