/- What the law's own helpers do: they measure, copy, compare, mark. Plain lemmas, no condition. -/
import Derived.Test.YtacocpknielofaaGreatDoorSaidFnExactLearnCrl
import Derived.Test.YtacocpknielofaaGreatDoorZMark
namespace Go.Proofs.YtacocpknielofaaGreatDoor.FamFnExactLearnCrl
open Go.RowKit YtacocpknielofaaGreatDoorW.PrintWords YtacocpknielofaaGreatDoorW.PrintLast ZOpen Z F
open SaidFnExactLearnCrl ZP
set_option linter.unusedVariables false
set_option linter.unusedSimpArgs false
set_option maxRecDepth 100000
theorem rdI (x : List Int) (i : Nat) (h : i < x.length) : rd x (i : Int) = x[i] := by simp [rd, h]
theorem szw_85 (l : (List Int)) (hl : okList (okInt .i64) l) (b : Int) (h0 : 0 ≤ b) (h1 : b ≤ 1048576) (k : Nat) (hk : 0 ≤ k) : ∃ n, laws_szIntS.f l b = some n ∧ n ≤ b ∧ (0 ≤ n → (l.length ≤ 1048576 ∧ ∀ e ∈ l, True) ∧ n + (((l.length : Nat) : Int) : Int) = b) := by
  have hll : l.length ≤ maxLen := hl.1
  have hm : maxLen = 9223372036854775807 := rfl
  have e : wrap64 (b - (l.length : Int)) = b - (l.length : Int) := by unfold wrap64; omega
  unfold laws_szIntS.f
  rw [e]
  by_cases c : b - (l.length : Int) < 0
  · rw [if_pos c]; exact ⟨-1, rfl, by omega, fun h => by omega⟩
  rw [if_neg c]
  exact ⟨_, rfl, by omega, fun h => ⟨⟨by omega, fun e he => trivial⟩, by omega⟩⟩
theorem rdS (x : List ByteArray) (i : Nat) (h : i < x.length) : rdOf ByteArray.empty x (i : Int) = x[i] := by simp [rdOf, h]
theorem szw_87 (l : (List ByteArray)) (hl : okList okStr l) (b : Int) (h0 : 0 ≤ b) (h1 : b ≤ 1048576) (k : Nat) (hk : 1048577 ≤ k) : ∃ n, laws_szStringS.f k l b = some n ∧ n ≤ b ∧ (0 ≤ n → (l.length ≤ 1048576 ∧ ∀ e ∈ l, e.size ≤ 1048576) ∧ n + ((((l.length + (l.map ByteArray.size).sum) : Nat) : Int) : Int) = b) := by
  have hll : l.length ≤ maxLen := hl.1
  have hm : maxLen = 9223372036854775807 := rfl
  have e : wrap64 (b - (l.length : Int)) = b - (l.length : Int) := by unfold wrap64; omega
  unfold laws_szStringS.f
  rw [e]
  by_cases c : b - (l.length : Int) < 0
  · rw [if_pos c]; exact ⟨-1, rfl, by omega, fun h => by omega⟩
  rw [if_neg c]
  obtain ⟨n, n1, n2, n3⟩ := sz_loop_w laws_szStringS.l0 (rdOf ByteArray.empty) (fun _ e b => some (wrap64 (b - (e.size : Int)))) (fun e => e.size ≤ 1048576) ByteArray.size l 0 (by omega) (rdS l) (fun k b i => by rw [laws_szStringS.l0]; rfl) (fun k e b _ he g0 g1 => by
      have h2 : e.size ≤ maxLen := hl.2 e he
      exact ⟨_, rfl, by unfold wrap64; omega, fun h => ⟨by unfold wrap64 at h; omega, by unfold wrap64; omega⟩⟩) k (b - (l.length : Int)) 0 (by omega) (by omega) (by omega) (by omega)
  refine ⟨n, n1, by omega, fun h => ⟨⟨by omega, fun a ha => ?_⟩, ?_⟩⟩
  · obtain ⟨j, hj, rfl⟩ := List.getElem_of_mem ha
    exact (n3 h).1 j hj (by omega)
  · have w := (n3 h).2
    rw [List.drop_zero] at w
    omega
def sm88 (x : S88) : Prop := True ∧ x.f1.size ≤ 1048576 ∧ x.f2.size ≤ 1048576 ∧ True ∧ True ∧ x.f5.size ≤ 1048576 ∧ True ∧ True ∧ True ∧ (x.f9.length ≤ 1048576 ∧ ∀ e ∈ x.f9, True) ∧ (x.f10.length ≤ 1048576 ∧ ∀ e ∈ x.f10, e.size ≤ 1048576) ∧ (x.f11.length ≤ 1048576 ∧ ∀ e ∈ x.f11, e.size ≤ 1048576) ∧ x.f12.size ≤ 1048576 ∧ True
def wt88 (x : S88) : Nat := x.f1.size + x.f2.size + x.f5.size + x.f9.length + (x.f10.length + (x.f10.map ByteArray.size).sum) + (x.f11.length + (x.f11.map ByteArray.size).sum) + x.f12.size
theorem szw_34 (x : S88) (hx : ok88 x) (b : Int) (h0 : 0 ≤ b) (h1 : b ≤ 1048576) (k : Nat) (hk : 1048577 ≤ k) : ∃ n, laws_szCert.f k x b = some n ∧ n ≤ b ∧ (0 ≤ n → sm88 x ∧ n + (wt88 x : Int) = b) := by
  have hm : maxLen = 9223372036854775807 := rfl
  unfold laws_szCert.f
  have s1 : x.f1.size ≤ maxLen := hx.2.1
  have e1 : wrap64 (b - (x.f1.size : Int)) = b - (x.f1.size : Int) := by unfold wrap64; omega
  rw [e1]
  by_cases c1 : b - (x.f1.size : Int) < 0
  · rw [if_pos c1]; exact ⟨-1, rfl, by omega, fun h => by omega⟩
  rw [if_neg c1]
  have s2 : x.f2.size ≤ maxLen := hx.2.2.1
  have e2 : wrap64 ((b - (x.f1.size : Int)) - (x.f2.size : Int)) = (b - (x.f1.size : Int)) - (x.f2.size : Int) := by unfold wrap64; omega
  rw [e2]
  by_cases c2 : (b - (x.f1.size : Int)) - (x.f2.size : Int) < 0
  · rw [if_pos c2]; exact ⟨-1, rfl, by omega, fun h => by omega⟩
  rw [if_neg c2]
  have s5 : x.f5.size ≤ maxLen := hx.2.2.2.2.2.1
  have e5 : wrap64 (((b - (x.f1.size : Int)) - (x.f2.size : Int)) - (x.f5.size : Int)) = ((b - (x.f1.size : Int)) - (x.f2.size : Int)) - (x.f5.size : Int) := by unfold wrap64; omega
  rw [e5]
  by_cases c5 : ((b - (x.f1.size : Int)) - (x.f2.size : Int)) - (x.f5.size : Int) < 0
  · rw [if_pos c5]; exact ⟨-1, rfl, by omega, fun h => by omega⟩
  rw [if_neg c5]
  obtain ⟨n9, e9, b9, p9⟩ := szw_85 x.f9 (hx.2.2.2.2.2.2.2.2.2.1) (((b - (x.f1.size : Int)) - (x.f2.size : Int)) - (x.f5.size : Int)) (by omega) (by omega) k (by omega)
  rw [e9, Option.bind_some]
  by_cases c9 : n9 < 0
  · rw [if_pos c9]; exact ⟨-1, rfl, by omega, fun h => by omega⟩
  rw [if_neg c9]
  obtain ⟨n10, e10, b10, p10⟩ := szw_87 x.f10 (hx.2.2.2.2.2.2.2.2.2.2.1) n9 (by omega) (by omega) k (by omega)
  rw [e10, Option.bind_some]
  by_cases c10 : n10 < 0
  · rw [if_pos c10]; exact ⟨-1, rfl, by omega, fun h => by omega⟩
  rw [if_neg c10]
  obtain ⟨n11, e11, b11, p11⟩ := szw_87 x.f11 (hx.2.2.2.2.2.2.2.2.2.2.2.1) n10 (by omega) (by omega) k (by omega)
  rw [e11, Option.bind_some]
  by_cases c11 : n11 < 0
  · rw [if_pos c11]; exact ⟨-1, rfl, by omega, fun h => by omega⟩
  rw [if_neg c11]
  have s12 : x.f12.size ≤ maxLen := hx.2.2.2.2.2.2.2.2.2.2.2.2
  have e12 : wrap64 (n11 - (x.f12.size : Int)) = n11 - (x.f12.size : Int) := by unfold wrap64; omega
  rw [e12]
  by_cases c12 : n11 - (x.f12.size : Int) < 0
  · rw [if_pos c12]; exact ⟨-1, rfl, by omega, fun h => by omega⟩
  rw [if_neg c12]
  exact ⟨(n11 - (x.f12.size : Int)), rfl, by omega, fun h => ⟨⟨trivial, (by omega), (by omega), trivial, trivial, (by omega), trivial, trivial, trivial, (p9 (by omega)).1, (p10 (by omega)).1, (p11 (by omega)).1, (by omega), trivial⟩, by have w9 := (p9 (by omega)).2; have w10 := (p10 (by omega)).2; have w11 := (p11 (by omega)).2; unfold wt88; omega⟩⟩
theorem rd88 (x : List S88) (i : Nat) (h : i < x.length) : rd_T88 x (i : Int) = x[i] := by simp [rd_T88, h]
theorem szw_51 (l : (List S88)) (hl : okList ok88 l) (b : Int) (h0 : 0 ≤ b) (h1 : b ≤ 1048576) (k : Nat) (hk : 2097154 ≤ k) : ∃ n, laws_szCertS.f k l b = some n ∧ n ≤ b ∧ (0 ≤ n → (l.length ≤ 1048576 ∧ ∀ e ∈ l, sm88 e) ∧ n + ((((l.length + (l.map wt88).sum) : Nat) : Int) : Int) = b) := by
  have hll : l.length ≤ maxLen := hl.1
  have hm : maxLen = 9223372036854775807 := rfl
  have e : wrap64 (b - (l.length : Int)) = b - (l.length : Int) := by unfold wrap64; omega
  unfold laws_szCertS.f
  rw [e]
  by_cases c : b - (l.length : Int) < 0
  · rw [if_pos c]; exact ⟨-1, rfl, by omega, fun h => by omega⟩
  rw [if_neg c]
  obtain ⟨n, n1, n2, n3⟩ := sz_loop_w laws_szCertS.l0 rd_T88 (fun k e b => laws_szCert.f k e b) sm88 wt88 l 1048577 (by omega) (rd88 l) (fun k b i => by rw [laws_szCertS.l0]) (fun k e b hk he g0 g1 => szw_34 e (hl.2 e he) b g0 g1 k (by omega)) k (b - (l.length : Int)) 0 (by omega) (by omega) (by omega) (by omega)
  refine ⟨n, n1, by omega, fun h => ⟨⟨by omega, fun a ha => ?_⟩, ?_⟩⟩
  · obtain ⟨j, hj, rfl⟩ := List.getElem_of_mem ha
    exact (n3 h).1 j hj (by omega)
  · have w := (n3 h).2
    rw [List.drop_zero] at w
    omega
def sm240 (x : S240) : Prop := True ∧ True ∧ True
theorem rd240 (x : List S240) (i : Nat) (h : i < x.length) : rd_T240 x (i : Int) = x[i] := by simp [rd_T240, h]
theorem szw_104 (l : (List S240)) (hl : okList ok240 l) (b : Int) (h0 : 0 ≤ b) (h1 : b ≤ 1048576) (k : Nat) (hk : 0 ≤ k) : ∃ n, laws_szRevS.f l b = some n ∧ n ≤ b ∧ (0 ≤ n → (l.length ≤ 1048576 ∧ ∀ e ∈ l, sm240 e) ∧ n + (((l.length : Nat) : Int) : Int) = b) := by
  have hll : l.length ≤ maxLen := hl.1
  have hm : maxLen = 9223372036854775807 := rfl
  have e : wrap64 (b - (l.length : Int)) = b - (l.length : Int) := by unfold wrap64; omega
  unfold laws_szRevS.f
  rw [e]
  by_cases c : b - (l.length : Int) < 0
  · rw [if_pos c]; exact ⟨-1, rfl, by omega, fun h => by omega⟩
  rw [if_neg c]
  exact ⟨_, rfl, by omega, fun h => ⟨⟨by omega, fun e he => by simp [sm88, sm240]⟩, by omega⟩⟩
def sm75 (x : S75) : Prop := x.f0.size ≤ 1048576 ∧ True ∧ True ∧ True ∧ True ∧ (x.f5.length ≤ 1048576 ∧ ∀ e ∈ x.f5, sm240 e) ∧ x.f6.size ≤ 1048576 ∧ True
def wt75 (x : S75) : Nat := x.f0.size + x.f5.length + x.f6.size
theorem szw_26 (x : S75) (hx : ok75 x) (b : Int) (h0 : 0 ≤ b) (h1 : b ≤ 1048576) (k : Nat) (hk : 0 ≤ k) : ∃ n, laws_szCrl.f x b = some n ∧ n ≤ b ∧ (0 ≤ n → sm75 x ∧ n + (wt75 x : Int) = b) := by
  have hm : maxLen = 9223372036854775807 := rfl
  unfold laws_szCrl.f
  have s0 : x.f0.size ≤ maxLen := hx.1
  have e0 : wrap64 (b - (x.f0.size : Int)) = b - (x.f0.size : Int) := by unfold wrap64; omega
  rw [e0]
  by_cases c0 : b - (x.f0.size : Int) < 0
  · rw [if_pos c0]; exact ⟨-1, rfl, by omega, fun h => by omega⟩
  rw [if_neg c0]
  obtain ⟨n5, e5, b5, p5⟩ := szw_104 x.f5 (hx.2.2.2.2.2.1) (b - (x.f0.size : Int)) (by omega) (by omega) k (by omega)
  rw [e5, Option.bind_some]
  by_cases c5 : n5 < 0
  · rw [if_pos c5]; exact ⟨-1, rfl, by omega, fun h => by omega⟩
  rw [if_neg c5]
  have s6 : x.f6.size ≤ maxLen := hx.2.2.2.2.2.2
  have e6 : wrap64 (n5 - (x.f6.size : Int)) = n5 - (x.f6.size : Int) := by unfold wrap64; omega
  rw [e6]
  by_cases c6 : n5 - (x.f6.size : Int) < 0
  · rw [if_pos c6]; exact ⟨-1, rfl, by omega, fun h => by omega⟩
  rw [if_neg c6]
  exact ⟨(n5 - (x.f6.size : Int)), rfl, by omega, fun h => ⟨⟨(by omega), trivial, trivial, trivial, trivial, (p5 (by omega)).1, (by omega), trivial⟩, by have w5 := (p5 (by omega)).2; unfold wt75; omega⟩⟩
theorem sz_26 (x : S75) (hx : ok75 x) (b : Int) (h0 : 0 ≤ b) (h1 : b ≤ 1048576) (k : Nat) (hk : 0 ≤ k) : ∃ n, laws_szCrl.f x b = some n ∧ n ≤ b ∧ (0 ≤ n → sm75 x) := by
  obtain ⟨n, g1, g2, g3⟩ := szw_26 x hx b h0 h1 k hk
  exact ⟨n, g1, g2, fun h => (g3 h).1⟩
theorem rd75 (x : List S75) (i : Nat) (h : i < x.length) : rd_T75 x (i : Int) = x[i] := by simp [rd_T75, h]
theorem szw_52 (l : (List S75)) (hl : okList ok75 l) (b : Int) (h0 : 0 ≤ b) (h1 : b ≤ 1048576) (k : Nat) (hk : 1048577 ≤ k) : ∃ n, laws_szCrlS.f k l b = some n ∧ n ≤ b ∧ (0 ≤ n → (l.length ≤ 1048576 ∧ ∀ e ∈ l, sm75 e) ∧ n + ((((l.length + (l.map wt75).sum) : Nat) : Int) : Int) = b) := by
  have hll : l.length ≤ maxLen := hl.1
  have hm : maxLen = 9223372036854775807 := rfl
  have e : wrap64 (b - (l.length : Int)) = b - (l.length : Int) := by unfold wrap64; omega
  unfold laws_szCrlS.f
  rw [e]
  by_cases c : b - (l.length : Int) < 0
  · rw [if_pos c]; exact ⟨-1, rfl, by omega, fun h => by omega⟩
  rw [if_neg c]
  obtain ⟨n, n1, n2, n3⟩ := sz_loop_w laws_szCrlS.l0 rd_T75 (fun k e b => laws_szCrl.f e b) sm75 wt75 l 0 (by omega) (rd75 l) (fun k b i => by rw [laws_szCrlS.l0]) (fun k e b hk he g0 g1 => szw_26 e (hl.2 e he) b g0 g1 k (by omega)) k (b - (l.length : Int)) 0 (by omega) (by omega) (by omega) (by omega)
  refine ⟨n, n1, by omega, fun h => ⟨⟨by omega, fun a ha => ?_⟩, ?_⟩⟩
  · obtain ⟨j, hj, rfl⟩ := List.getElem_of_mem ha
    exact (n3 h).1 j hj (by omega)
  · have w := (n3 h).2
    rw [List.drop_zero] at w
    omega
def sm178 (x : S178) : Prop := x.f0.size ≤ 1048576 ∧ x.f1.size ≤ 1048576 ∧ True
def wt178 (x : S178) : Nat := x.f0.size + x.f1.size
theorem szw_133 (x : S178) (hx : ok178 x) (b : Int) (h0 : 0 ≤ b) (h1 : b ≤ 1048576) (k : Nat) (hk : 0 ≤ k) : ∃ n, laws_szAnchor.f x b = some n ∧ n ≤ b ∧ (0 ≤ n → sm178 x ∧ n + (wt178 x : Int) = b) := by
  have hm : maxLen = 9223372036854775807 := rfl
  unfold laws_szAnchor.f
  have s0 : x.f0.size ≤ maxLen := hx.1
  have e0 : wrap64 (b - (x.f0.size : Int)) = b - (x.f0.size : Int) := by unfold wrap64; omega
  rw [e0]
  by_cases c0 : b - (x.f0.size : Int) < 0
  · rw [if_pos c0]; exact ⟨-1, rfl, by omega, fun h => by omega⟩
  rw [if_neg c0]
  have s1 : x.f1.size ≤ maxLen := hx.2
  have e1 : wrap64 ((b - (x.f0.size : Int)) - (x.f1.size : Int)) = (b - (x.f0.size : Int)) - (x.f1.size : Int) := by unfold wrap64; omega
  rw [e1]
  by_cases c1 : (b - (x.f0.size : Int)) - (x.f1.size : Int) < 0
  · rw [if_pos c1]; exact ⟨-1, rfl, by omega, fun h => by omega⟩
  rw [if_neg c1]
  exact ⟨((b - (x.f0.size : Int)) - (x.f1.size : Int)), rfl, by omega, fun h => ⟨⟨(by omega), (by omega), trivial⟩, by unfold wt178; omega⟩⟩
theorem rd178 (x : List S178) (i : Nat) (h : i < x.length) : rd_T178 x (i : Int) = x[i] := by simp [rd_T178, h]
theorem szw_53 (l : (List S178)) (hl : okList ok178 l) (b : Int) (h0 : 0 ≤ b) (h1 : b ≤ 1048576) (k : Nat) (hk : 1048577 ≤ k) : ∃ n, laws_szAnchorS.f k l b = some n ∧ n ≤ b ∧ (0 ≤ n → (l.length ≤ 1048576 ∧ ∀ e ∈ l, sm178 e) ∧ n + ((((l.length + (l.map wt178).sum) : Nat) : Int) : Int) = b) := by
  have hll : l.length ≤ maxLen := hl.1
  have hm : maxLen = 9223372036854775807 := rfl
  have e : wrap64 (b - (l.length : Int)) = b - (l.length : Int) := by unfold wrap64; omega
  unfold laws_szAnchorS.f
  rw [e]
  by_cases c : b - (l.length : Int) < 0
  · rw [if_pos c]; exact ⟨-1, rfl, by omega, fun h => by omega⟩
  rw [if_neg c]
  obtain ⟨n, n1, n2, n3⟩ := sz_loop_w laws_szAnchorS.l0 rd_T178 (fun k e b => laws_szAnchor.f e b) sm178 wt178 l 0 (by omega) (rd178 l) (fun k b i => by rw [laws_szAnchorS.l0]) (fun k e b hk he g0 g1 => szw_133 e (hl.2 e he) b g0 g1 k (by omega)) k (b - (l.length : Int)) 0 (by omega) (by omega) (by omega) (by omega)
  refine ⟨n, n1, by omega, fun h => ⟨⟨by omega, fun a ha => ?_⟩, ?_⟩⟩
  · obtain ⟨j, hj, rfl⟩ := List.getElem_of_mem ha
    exact (n3 h).1 j hj (by omega)
  · have w := (n3 h).2
    rw [List.drop_zero] at w
    omega
def sm26 (x : S26) : Prop := (x.f0.length ≤ 1048576 ∧ ∀ e ∈ x.f0, sm88 e) ∧ (x.f1.length ≤ 1048576 ∧ ∀ e ∈ x.f1, sm75 e) ∧ (x.f2.length ≤ 1048576 ∧ ∀ e ∈ x.f2, sm178 e) ∧ True
def wt26 (x : S26) : Nat := (x.f0.length + (x.f0.map wt88).sum) + (x.f1.length + (x.f1.map wt75).sum) + (x.f2.length + (x.f2.map wt178).sum)
theorem szw_11 (x : S26) (hx : ok26 x) (b : Int) (h0 : 0 ≤ b) (h1 : b ≤ 1048576) (k : Nat) (hk : 2097154 ≤ k) : ∃ n, laws_szStore.f k x b = some n ∧ n ≤ b ∧ (0 ≤ n → sm26 x ∧ n + (wt26 x : Int) = b) := by
  have hm : maxLen = 9223372036854775807 := rfl
  unfold laws_szStore.f
  obtain ⟨n0, e0, b0, p0⟩ := szw_51 x.f0 (hx.1) b (by omega) (by omega) k (by omega)
  rw [e0, Option.bind_some]
  by_cases c0 : n0 < 0
  · rw [if_pos c0]; exact ⟨-1, rfl, by omega, fun h => by omega⟩
  rw [if_neg c0]
  obtain ⟨n1, e1, b1, p1⟩ := szw_52 x.f1 (hx.2.1) n0 (by omega) (by omega) k (by omega)
  rw [e1, Option.bind_some]
  by_cases c1 : n1 < 0
  · rw [if_pos c1]; exact ⟨-1, rfl, by omega, fun h => by omega⟩
  rw [if_neg c1]
  obtain ⟨n2, e2, b2, p2⟩ := szw_53 x.f2 (hx.2.2) n1 (by omega) (by omega) k (by omega)
  rw [e2, Option.bind_some]
  by_cases c2 : n2 < 0
  · rw [if_pos c2]; exact ⟨-1, rfl, by omega, fun h => by omega⟩
  rw [if_neg c2]
  exact ⟨n2, rfl, by omega, fun h => ⟨⟨(p0 (by omega)).1, (p1 (by omega)).1, (p2 (by omega)).1, trivial⟩, by have w0 := (p0 (by omega)).2; have w1 := (p1 (by omega)).2; have w2 := (p2 (by omega)).2; unfold wt26; omega⟩⟩
def sm194 (x : S194) : Prop := True ∧ (x.f1.length ≤ 1048576 ∧ ∀ e ∈ x.f1, True) ∧ True ∧ True ∧ True ∧ True
def wt194 (x : S194) : Nat := x.f1.length
theorem szw_209 (x : S194) (hx : ok194 x) (b : Int) (h0 : 0 ≤ b) (h1 : b ≤ 1048576) (k : Nat) (hk : 0 ≤ k) : ∃ n, laws_szRules.f x b = some n ∧ n ≤ b ∧ (0 ≤ n → sm194 x ∧ n + (wt194 x : Int) = b) := by
  have hm : maxLen = 9223372036854775807 := rfl
  unfold laws_szRules.f
  obtain ⟨n1, e1, b1, p1⟩ := szw_85 x.f1 (hx.2.1) b (by omega) (by omega) k (by omega)
  rw [e1, Option.bind_some]
  by_cases c1 : n1 < 0
  · rw [if_pos c1]; exact ⟨-1, rfl, by omega, fun h => by omega⟩
  rw [if_neg c1]
  exact ⟨n1, rfl, by omega, fun h => ⟨⟨trivial, (p1 (by omega)).1, trivial, trivial, trivial, trivial⟩, by have w1 := (p1 (by omega)).2; unfold wt194; omega⟩⟩
def sm196 (x : S196) : Prop := True ∧ (x.f1.length ≤ 1048576 ∧ ∀ e ∈ x.f1, True) ∧ sm194 x.f2 ∧ True
def wt196 (x : S196) : Nat := x.f1.length + wt194 x.f2
theorem szw_151 (x : S196) (hx : ok196 x) (b : Int) (h0 : 0 ≤ b) (h1 : b ≤ 1048576) (k : Nat) (hk : 0 ≤ k) : ∃ n, laws_szPlan.f x b = some n ∧ n ≤ b ∧ (0 ≤ n → sm196 x ∧ n + (wt196 x : Int) = b) := by
  have hm : maxLen = 9223372036854775807 := rfl
  unfold laws_szPlan.f
  obtain ⟨n1, e1, b1, p1⟩ := szw_85 x.f1 (hx.2.1) b (by omega) (by omega) k (by omega)
  rw [e1, Option.bind_some]
  by_cases c1 : n1 < 0
  · rw [if_pos c1]; exact ⟨-1, rfl, by omega, fun h => by omega⟩
  rw [if_neg c1]
  obtain ⟨n2, e2, b2, p2⟩ := szw_209 x.f2 (hx.2.2) n1 (by omega) (by omega) k (by omega)
  rw [e2, Option.bind_some]
  by_cases c2 : n2 < 0
  · rw [if_pos c2]; exact ⟨-1, rfl, by omega, fun h => by omega⟩
  rw [if_neg c2]
  exact ⟨n2, rfl, by omega, fun h => ⟨⟨trivial, (p1 (by omega)).1, (p2 (by omega)).1, trivial⟩, by have w1 := (p1 (by omega)).2; have w2 := (p2 (by omega)).2; unfold wt196; omega⟩⟩
theorem rd196 (x : List S196) (i : Nat) (h : i < x.length) : rd_T196 x (i : Int) = x[i] := by simp [rd_T196, h]
theorem szw_71 (l : (List S196)) (hl : okList ok196 l) (b : Int) (h0 : 0 ≤ b) (h1 : b ≤ 1048576) (k : Nat) (hk : 1048577 ≤ k) : ∃ n, laws_szPlanS.f k l b = some n ∧ n ≤ b ∧ (0 ≤ n → (l.length ≤ 1048576 ∧ ∀ e ∈ l, sm196 e) ∧ n + ((((l.length + (l.map wt196).sum) : Nat) : Int) : Int) = b) := by
  have hll : l.length ≤ maxLen := hl.1
  have hm : maxLen = 9223372036854775807 := rfl
  have e : wrap64 (b - (l.length : Int)) = b - (l.length : Int) := by unfold wrap64; omega
  unfold laws_szPlanS.f
  rw [e]
  by_cases c : b - (l.length : Int) < 0
  · rw [if_pos c]; exact ⟨-1, rfl, by omega, fun h => by omega⟩
  rw [if_neg c]
  obtain ⟨n, n1, n2, n3⟩ := sz_loop_w laws_szPlanS.l0 rd_T196 (fun k e b => laws_szPlan.f e b) sm196 wt196 l 0 (by omega) (rd196 l) (fun k b i => by rw [laws_szPlanS.l0]) (fun k e b hk he g0 g1 => szw_151 e (hl.2 e he) b g0 g1 k (by omega)) k (b - (l.length : Int)) 0 (by omega) (by omega) (by omega) (by omega)
  refine ⟨n, n1, by omega, fun h => ⟨⟨by omega, fun a ha => ?_⟩, ?_⟩⟩
  · obtain ⟨j, hj, rfl⟩ := List.getElem_of_mem ha
    exact (n3 h).1 j hj (by omega)
  · have w := (n3 h).2
    rw [List.drop_zero] at w
    omega
def sm199 (x : S199) : Prop := x.f0.size ≤ 1048576 ∧ x.f1.size ≤ 1048576 ∧ True ∧ True
def wt199 (x : S199) : Nat := x.f0.size + x.f1.size
theorem szw_152 (x : S199) (hx : ok199 x) (b : Int) (h0 : 0 ≤ b) (h1 : b ≤ 1048576) (k : Nat) (hk : 0 ≤ k) : ∃ n, laws_szKept.f x b = some n ∧ n ≤ b ∧ (0 ≤ n → sm199 x ∧ n + (wt199 x : Int) = b) := by
  have hm : maxLen = 9223372036854775807 := rfl
  unfold laws_szKept.f
  have s0 : x.f0.size ≤ maxLen := hx.1
  have e0 : wrap64 (b - (x.f0.size : Int)) = b - (x.f0.size : Int) := by unfold wrap64; omega
  rw [e0]
  by_cases c0 : b - (x.f0.size : Int) < 0
  · rw [if_pos c0]; exact ⟨-1, rfl, by omega, fun h => by omega⟩
  rw [if_neg c0]
  have s1 : x.f1.size ≤ maxLen := hx.2.1
  have e1 : wrap64 ((b - (x.f0.size : Int)) - (x.f1.size : Int)) = (b - (x.f0.size : Int)) - (x.f1.size : Int) := by unfold wrap64; omega
  rw [e1]
  by_cases c1 : (b - (x.f0.size : Int)) - (x.f1.size : Int) < 0
  · rw [if_pos c1]; exact ⟨-1, rfl, by omega, fun h => by omega⟩
  rw [if_neg c1]
  exact ⟨((b - (x.f0.size : Int)) - (x.f1.size : Int)), rfl, by omega, fun h => ⟨⟨(by omega), (by omega), trivial, trivial⟩, by unfold wt199; omega⟩⟩
theorem rd199 (x : List S199) (i : Nat) (h : i < x.length) : rd_T199 x (i : Int) = x[i] := by simp [rd_T199, h]
theorem szw_72 (l : (List S199)) (hl : okList ok199 l) (b : Int) (h0 : 0 ≤ b) (h1 : b ≤ 1048576) (k : Nat) (hk : 1048577 ≤ k) : ∃ n, laws_szKeptS.f k l b = some n ∧ n ≤ b ∧ (0 ≤ n → (l.length ≤ 1048576 ∧ ∀ e ∈ l, sm199 e) ∧ n + ((((l.length + (l.map wt199).sum) : Nat) : Int) : Int) = b) := by
  have hll : l.length ≤ maxLen := hl.1
  have hm : maxLen = 9223372036854775807 := rfl
  have e : wrap64 (b - (l.length : Int)) = b - (l.length : Int) := by unfold wrap64; omega
  unfold laws_szKeptS.f
  rw [e]
  by_cases c : b - (l.length : Int) < 0
  · rw [if_pos c]; exact ⟨-1, rfl, by omega, fun h => by omega⟩
  rw [if_neg c]
  obtain ⟨n, n1, n2, n3⟩ := sz_loop_w laws_szKeptS.l0 rd_T199 (fun k e b => laws_szKept.f e b) sm199 wt199 l 0 (by omega) (rd199 l) (fun k b i => by rw [laws_szKeptS.l0]) (fun k e b hk he g0 g1 => szw_152 e (hl.2 e he) b g0 g1 k (by omega)) k (b - (l.length : Int)) 0 (by omega) (by omega) (by omega) (by omega)
  refine ⟨n, n1, by omega, fun h => ⟨⟨by omega, fun a ha => ?_⟩, ?_⟩⟩
  · obtain ⟨j, hj, rfl⟩ := List.getElem_of_mem ha
    exact (n3 h).1 j hj (by omega)
  · have w := (n3 h).2
    rw [List.drop_zero] at w
    omega
def sm40 (x : S40) : Prop := sm26 x.f0 ∧ (x.f1.length ≤ 1048576 ∧ ∀ e ∈ x.f1, sm196 e) ∧ True ∧ True ∧ True ∧ (x.f5.length ≤ 1048576 ∧ ∀ e ∈ x.f5, sm199 e) ∧ True
def wt40 (x : S40) : Nat := wt26 x.f0 + (x.f1.length + (x.f1.map wt196).sum) + (x.f5.length + (x.f5.map wt199).sum)
theorem szw_16 (x : S40) (hx : ok40 x) (b : Int) (h0 : 0 ≤ b) (h1 : b ≤ 1048576) (k : Nat) (hk : 2097154 ≤ k) : ∃ n, laws_szServer.f k x b = some n ∧ n ≤ b ∧ (0 ≤ n → sm40 x ∧ n + (wt40 x : Int) = b) := by
  have hm : maxLen = 9223372036854775807 := rfl
  unfold laws_szServer.f
  obtain ⟨n0, e0, b0, p0⟩ := szw_11 x.f0 (hx.1) b (by omega) (by omega) k (by omega)
  rw [e0, Option.bind_some]
  by_cases c0 : n0 < 0
  · rw [if_pos c0]; exact ⟨-1, rfl, by omega, fun h => by omega⟩
  rw [if_neg c0]
  obtain ⟨n1, e1, b1, p1⟩ := szw_71 x.f1 (hx.2.1) n0 (by omega) (by omega) k (by omega)
  rw [e1, Option.bind_some]
  by_cases c1 : n1 < 0
  · rw [if_pos c1]; exact ⟨-1, rfl, by omega, fun h => by omega⟩
  rw [if_neg c1]
  obtain ⟨n5, e5, b5, p5⟩ := szw_72 x.f5 (hx.2.2.2.2.2) n1 (by omega) (by omega) k (by omega)
  rw [e5, Option.bind_some]
  by_cases c5 : n5 < 0
  · rw [if_pos c5]; exact ⟨-1, rfl, by omega, fun h => by omega⟩
  rw [if_neg c5]
  exact ⟨n5, rfl, by omega, fun h => ⟨⟨(p0 (by omega)).1, (p1 (by omega)).1, trivial, trivial, trivial, (p5 (by omega)).1, trivial⟩, by have w0 := (p0 (by omega)).2; have w1 := (p1 (by omega)).2; have w5 := (p5 (by omega)).2; unfold wt40; omega⟩⟩
theorem sz_16 (x : S40) (hx : ok40 x) (b : Int) (h0 : 0 ≤ b) (h1 : b ≤ 1048576) (k : Nat) (hk : 2097154 ≤ k) : ∃ n, laws_szServer.f k x b = some n ∧ n ≤ b ∧ (0 ≤ n → sm40 x) := by
  obtain ⟨n, g1, g2, g3⟩ := szw_16 x hx b h0 h1 k hk
  exact ⟨n, g1, g2, fun h => (g3 h).1⟩
theorem to_93 (x : (List Int)) (h : (x.length ≤ 1048576 ∧ ∀ e ∈ x, True)) (k : Nat) (hk : 1048577 ≤ k) : laws_toIntS.f k x = some x := by
  have hx := h.1
  unfold laws_toIntS.f
  rw [if_pos (by omega), if_pos (by omega)]
  have := to_loop laws_toIntS.l0 rd (fun _ e => some e) id x 0 hx (rdI x) (fun k y i => by rw [laws_toIntS.l0]; rfl) (fun _ _ _ _ => rfl) k (List.replicate x.length (0 : Int)) 0 (by omega) (by simp) rfl (by omega)
  simpa using this
theorem to_95 (x : (List ByteArray)) (h : (x.length ≤ 1048576 ∧ ∀ e ∈ x, e.size ≤ 1048576)) (k : Nat) (hk : 1048577 ≤ k) : laws_toStringS.f k x = some x := by
  have hx := h.1
  unfold laws_toStringS.f
  rw [if_pos (by omega), if_pos (by omega)]
  have := to_loop laws_toStringS.l0 (rdOf ByteArray.empty) (fun _ e => some e) id x 0 hx (rdS x) (fun k y i => by rw [laws_toStringS.l0]; rfl) (fun _ _ _ _ => rfl) k (List.replicate x.length (⟨#[]⟩ : ByteArray)) 0 (by omega) (by simp) rfl (by omega)
  simpa using this
def cv88 (x : S88) : S91 := ⟨x.f0, x.f1, x.f2, x.f3, x.f4, x.f5, x.f6, x.f7, x.f8, x.f9, x.f10, x.f11, x.f12⟩
def sm91 (x : S91) : Prop := True ∧ x.f1.size ≤ 1048576 ∧ x.f2.size ≤ 1048576 ∧ True ∧ True ∧ x.f5.size ≤ 1048576 ∧ True ∧ True ∧ True ∧ (x.f9.length ≤ 1048576 ∧ ∀ e ∈ x.f9, True) ∧ (x.f10.length ≤ 1048576 ∧ ∀ e ∈ x.f10, e.size ≤ 1048576) ∧ (x.f11.length ≤ 1048576 ∧ ∀ e ∈ x.f11, e.size ≤ 1048576) ∧ x.f12.size ≤ 1048576 ∧ True
theorem to_36 (x : S88) (h : sm88 x) (k : Nat) (hk : 1048577 ≤ k) : laws_toCert.f k x = some (cv88 x) := by
  unfold laws_toCert.f
  simp only [to_93 x.f9 h.2.2.2.2.2.2.2.2.2.1 k (by omega), to_95 x.f10 h.2.2.2.2.2.2.2.2.2.2.1 k (by omega), to_95 x.f11 h.2.2.2.2.2.2.2.2.2.2.2.1 k (by omega), Option.bind_some]
  rfl
theorem smcv88 (x : S88) (h : sm88 x) : sm91 (cv88 x) := ⟨h.1, h.2.1, h.2.2.1, h.2.2.2.1, h.2.2.2.2.1, h.2.2.2.2.2.1, h.2.2.2.2.2.2.1, h.2.2.2.2.2.2.2.1, h.2.2.2.2.2.2.2.2.1, h.2.2.2.2.2.2.2.2.2.1, h.2.2.2.2.2.2.2.2.2.2.1, h.2.2.2.2.2.2.2.2.2.2.2.1, h.2.2.2.2.2.2.2.2.2.2.2.2.1, trivial⟩
theorem to_58 (x : (List S88)) (h : (x.length ≤ 1048576 ∧ ∀ e ∈ x, sm88 e)) (k : Nat) (hk : 2097154 ≤ k) : laws_toCertS.f k x = some (x.map cv88) := by
  have hx := h.1
  unfold laws_toCertS.f
  rw [if_pos (by omega), if_pos (by omega)]
  have := to_loop laws_toCertS.l0 rd_T88 (fun k e => laws_toCert.f k e) cv88 x 1048577 hx (rd88 x) (fun k y i => by rw [laws_toCertS.l0]) (fun k e hk he => to_36 e (h.2 e he) k (by omega)) k (List.replicate x.length z91) 0 (by omega) (by simp) rfl (by omega)
  simpa using this
def cv240 (x : S240) : S238 := ⟨x.f0, x.f1⟩
def sm238 (x : S238) : Prop := True ∧ True ∧ True
theorem to_176 (x : S240) (h : sm240 x) (k : Nat) (hk : 0 ≤ k) : laws_toRev.f x = some (cv240 x) := by
  unfold laws_toRev.f
  rfl
theorem smcv240 (x : S240) (h : sm240 x) : sm238 (cv240 x) := ⟨h.1, h.2.1, trivial⟩
theorem to_107 (x : (List S240)) (h : (x.length ≤ 1048576 ∧ ∀ e ∈ x, sm240 e)) (k : Nat) (hk : 1048577 ≤ k) : laws_toRevS.f k x = some (x.map cv240) := by
  have hx := h.1
  unfold laws_toRevS.f
  rw [if_pos (by omega), if_pos (by omega)]
  have := to_loop laws_toRevS.l0 rd_T240 (fun k e => laws_toRev.f e) cv240 x 0 hx (rd240 x) (fun k y i => by rw [laws_toRevS.l0]) (fun k e hk he => to_176 e (h.2 e he) k (by omega)) k (List.replicate x.length z238) 0 (by omega) (by simp) rfl (by omega)
  simpa using this
def cv75 (x : S75) : S81 := ⟨x.f0, x.f1, x.f2, x.f3, x.f4, (x.f5.map cv240), x.f6⟩
def sm81 (x : S81) : Prop := x.f0.size ≤ 1048576 ∧ True ∧ True ∧ True ∧ True ∧ (x.f5.length ≤ 1048576 ∧ ∀ e ∈ x.f5, sm238 e) ∧ x.f6.size ≤ 1048576 ∧ True
theorem to_28 (x : S75) (h : sm75 x) (k : Nat) (hk : 1048577 ≤ k) : laws_toCrl.f k x = some (cv75 x) := by
  unfold laws_toCrl.f
  simp only [to_107 x.f5 h.2.2.2.2.2.1 k (by omega), Option.bind_some]
  rfl
theorem smcv75 (x : S75) (h : sm75 x) : sm81 (cv75 x) := ⟨h.1, h.2.1, h.2.2.1, h.2.2.2.1, h.2.2.2.2.1, ⟨by show (List.map cv240 _).length ≤ _; rw [List.length_map]; exact h.2.2.2.2.2.1.1, fun e he => by
  obtain ⟨a, ha, rfl⟩ := List.mem_map.1 he
  exact smcv240 a (h.2.2.2.2.2.1.2 a ha)⟩, h.2.2.2.2.2.2.1, trivial⟩
theorem to_59 (x : (List S75)) (h : (x.length ≤ 1048576 ∧ ∀ e ∈ x, sm75 e)) (k : Nat) (hk : 2097154 ≤ k) : laws_toCrlS.f k x = some (x.map cv75) := by
  have hx := h.1
  unfold laws_toCrlS.f
  rw [if_pos (by omega), if_pos (by omega)]
  have := to_loop laws_toCrlS.l0 rd_T75 (fun k e => laws_toCrl.f k e) cv75 x 1048577 hx (rd75 x) (fun k y i => by rw [laws_toCrlS.l0]) (fun k e hk he => to_28 e (h.2 e he) k (by omega)) k (List.replicate x.length z81) 0 (by omega) (by simp) rfl (by omega)
  simpa using this
def cv178 (x : S178) : S115 := ⟨x.f0, x.f1⟩
def sm115 (x : S115) : Prop := x.f0.size ≤ 1048576 ∧ x.f1.size ≤ 1048576 ∧ True
theorem to_140 (x : S178) (h : sm178 x) (k : Nat) (hk : 0 ≤ k) : laws_toAnchor.f x = some (cv178 x) := by
  unfold laws_toAnchor.f
  rfl
theorem smcv178 (x : S178) (h : sm178 x) : sm115 (cv178 x) := ⟨h.1, h.2.1, trivial⟩
theorem to_60 (x : (List S178)) (h : (x.length ≤ 1048576 ∧ ∀ e ∈ x, sm178 e)) (k : Nat) (hk : 1048577 ≤ k) : laws_toAnchorS.f k x = some (x.map cv178) := by
  have hx := h.1
  unfold laws_toAnchorS.f
  rw [if_pos (by omega), if_pos (by omega)]
  have := to_loop laws_toAnchorS.l0 rd_T178 (fun k e => laws_toAnchor.f e) cv178 x 0 hx (rd178 x) (fun k y i => by rw [laws_toAnchorS.l0]) (fun k e hk he => to_140 e (h.2 e he) k (by omega)) k (List.replicate x.length z115) 0 (by omega) (by simp) rfl (by omega)
  simpa using this
def cv26 (x : S26) : S33 := ⟨(x.f0.map cv88), (x.f1.map cv75), (x.f2.map cv178)⟩
def sm33 (x : S33) : Prop := (x.f0.length ≤ 1048576 ∧ ∀ e ∈ x.f0, sm91 e) ∧ (x.f1.length ≤ 1048576 ∧ ∀ e ∈ x.f1, sm81 e) ∧ (x.f2.length ≤ 1048576 ∧ ∀ e ∈ x.f2, sm115 e) ∧ True
theorem to_13 (x : S26) (h : sm26 x) (k : Nat) (hk : 2097154 ≤ k) : laws_toStore.f k x = some (cv26 x) := by
  unfold laws_toStore.f
  simp only [to_58 x.f0 h.1 k (by omega), to_59 x.f1 h.2.1 k (by omega), to_60 x.f2 h.2.2.1 k (by omega), Option.bind_some]
  rfl
theorem smcv26 (x : S26) (h : sm26 x) : sm33 (cv26 x) := ⟨⟨by show (List.map cv88 _).length ≤ _; rw [List.length_map]; exact h.1.1, fun e he => by
  obtain ⟨a, ha, rfl⟩ := List.mem_map.1 he
  exact smcv88 a (h.1.2 a ha)⟩, ⟨by show (List.map cv75 _).length ≤ _; rw [List.length_map]; exact h.2.1.1, fun e he => by
  obtain ⟨a, ha, rfl⟩ := List.mem_map.1 he
  exact smcv75 a (h.2.1.2 a ha)⟩, ⟨by show (List.map cv178 _).length ≤ _; rw [List.length_map]; exact h.2.2.1.1, fun e he => by
  obtain ⟨a, ha, rfl⟩ := List.mem_map.1 he
  exact smcv178 a (h.2.2.1.2 a ha)⟩, trivial⟩
def cv194 (x : S194) : S200 := ⟨x.f0, x.f1, x.f2, x.f3, x.f4⟩
def sm200 (x : S200) : Prop := True ∧ (x.f1.length ≤ 1048576 ∧ ∀ e ∈ x.f1, True) ∧ True ∧ True ∧ True ∧ True
theorem to_210 (x : S194) (h : sm194 x) (k : Nat) (hk : 1048577 ≤ k) : laws_toRules.f k x = some (cv194 x) := by
  unfold laws_toRules.f
  simp only [to_93 x.f1 h.2.1 k (by omega), Option.bind_some]
  rfl
theorem smcv194 (x : S194) (h : sm194 x) : sm200 (cv194 x) := ⟨h.1, h.2.1, h.2.2.1, h.2.2.2.1, h.2.2.2.2.1, trivial⟩
def cv196 (x : S196) : S202 := ⟨x.f0, x.f1, (cv194 x.f2)⟩
def sm202 (x : S202) : Prop := True ∧ (x.f1.length ≤ 1048576 ∧ ∀ e ∈ x.f1, True) ∧ sm200 x.f2 ∧ True
theorem to_154 (x : S196) (h : sm196 x) (k : Nat) (hk : 1048577 ≤ k) : laws_toPlan.f k x = some (cv196 x) := by
  unfold laws_toPlan.f
  simp only [to_93 x.f1 h.2.1 k (by omega), to_210 x.f2 h.2.2.1 k (by omega), Option.bind_some]
  rfl
theorem smcv196 (x : S196) (h : sm196 x) : sm202 (cv196 x) := ⟨h.1, h.2.1, smcv194 _ h.2.2.1, trivial⟩
theorem to_76 (x : (List S196)) (h : (x.length ≤ 1048576 ∧ ∀ e ∈ x, sm196 e)) (k : Nat) (hk : 2097154 ≤ k) : laws_toPlanS.f k x = some (x.map cv196) := by
  have hx := h.1
  unfold laws_toPlanS.f
  rw [if_pos (by omega), if_pos (by omega)]
  have := to_loop laws_toPlanS.l0 rd_T196 (fun k e => laws_toPlan.f k e) cv196 x 1048577 hx (rd196 x) (fun k y i => by rw [laws_toPlanS.l0]) (fun k e hk he => to_154 e (h.2 e he) k (by omega)) k (List.replicate x.length z202) 0 (by omega) (by simp) rfl (by omega)
  simpa using this
def cv199 (x : S199) : S205 := ⟨x.f0, x.f1, x.f2⟩
def sm205 (x : S205) : Prop := x.f0.size ≤ 1048576 ∧ x.f1.size ≤ 1048576 ∧ True ∧ True
theorem to_155 (x : S199) (h : sm199 x) (k : Nat) (hk : 0 ≤ k) : laws_toKept.f x = some (cv199 x) := by
  unfold laws_toKept.f
  rfl
theorem smcv199 (x : S199) (h : sm199 x) : sm205 (cv199 x) := ⟨h.1, h.2.1, h.2.2.1, trivial⟩
theorem to_77 (x : (List S199)) (h : (x.length ≤ 1048576 ∧ ∀ e ∈ x, sm199 e)) (k : Nat) (hk : 1048577 ≤ k) : laws_toKeptS.f k x = some (x.map cv199) := by
  have hx := h.1
  unfold laws_toKeptS.f
  rw [if_pos (by omega), if_pos (by omega)]
  have := to_loop laws_toKeptS.l0 rd_T199 (fun k e => laws_toKept.f e) cv199 x 0 hx (rd199 x) (fun k y i => by rw [laws_toKeptS.l0]) (fun k e hk he => to_155 e (h.2 e he) k (by omega)) k (List.replicate x.length z205) 0 (by omega) (by simp) rfl (by omega)
  simpa using this
def cv40 (x : S40) : S46 := ⟨(cv26 x.f0), (x.f1.map cv196), x.f2, x.f3, x.f4, (x.f5.map cv199)⟩
def sm46 (x : S46) : Prop := sm33 x.f0 ∧ (x.f1.length ≤ 1048576 ∧ ∀ e ∈ x.f1, sm202 e) ∧ True ∧ True ∧ True ∧ (x.f5.length ≤ 1048576 ∧ ∀ e ∈ x.f5, sm205 e) ∧ True
theorem to_18 (x : S40) (h : sm40 x) (k : Nat) (hk : 2097154 ≤ k) : laws_toServer.f k x = some (cv40 x) := by
  unfold laws_toServer.f
  simp only [to_13 x.f0 h.1 k (by omega), to_76 x.f1 h.2.1 k (by omega), to_77 x.f5 h.2.2.2.2.2.1 k (by omega), Option.bind_some]
  rfl
theorem smcv40 (x : S40) (h : sm40 x) : sm46 (cv40 x) := ⟨smcv26 _ h.1, ⟨by show (List.map cv196 _).length ≤ _; rw [List.length_map]; exact h.2.1.1, fun e he => by
  obtain ⟨a, ha, rfl⟩ := List.mem_map.1 he
  exact smcv196 a (h.2.1.2 a ha)⟩, h.2.2.1, h.2.2.2.1, h.2.2.2.2.1, ⟨by show (List.map cv199 _).length ≤ _; rw [List.length_map]; exact h.2.2.2.2.2.1.1, fun e he => by
  obtain ⟨a, ha, rfl⟩ := List.mem_map.1 he
  exact smcv199 a (h.2.2.2.2.2.1.2 a ha)⟩, trivial⟩
theorem eq_101 (x : (List Int)) (h : (x.length ≤ 1048576 ∧ ∀ e ∈ x, True)) (k : Nat) (hk : 1048577 ≤ k) : laws_eqIntS.f k x x = some true := by
  have hx := h.1
  unfold laws_eqIntS.f
  rw [if_pos rfl]
  exact eq_loop laws_eqIntS.l0 rd (fun _ _ => some true) x 0 hx (rdI x) (fun k i => by rw [laws_eqIntS.l0]; simp) (fun _ _ _ _ => rfl) k 0 (by omega) (by omega)
theorem eq_103 (x : (List ByteArray)) (h : (x.length ≤ 1048576 ∧ ∀ e ∈ x, e.size ≤ 1048576)) (k : Nat) (hk : 1048577 ≤ k) : laws_eqStringS.f k x x = some true := by
  have hx := h.1
  unfold laws_eqStringS.f
  rw [if_pos rfl]
  exact eq_loop laws_eqStringS.l0 (rdOf ByteArray.empty) (fun _ _ => some true) x 0 hx (rdS x) (fun k i => by rw [laws_eqStringS.l0]; simp) (fun _ _ _ _ => rfl) k 0 (by omega) (by omega)
theorem eq_38 (x : S91) (h : sm91 x) (k : Nat) (hk : 1048577 ≤ k) : laws_eqCert.f k x x = some true := by
  unfold laws_eqCert.f
  simp [eq_101 x.f9 h.2.2.2.2.2.2.2.2.2.1 k (by omega), eq_103 x.f10 h.2.2.2.2.2.2.2.2.2.2.1 k (by omega), eq_103 x.f11 h.2.2.2.2.2.2.2.2.2.2.2.1 k (by omega)]
theorem rd91 (x : List S91) (i : Nat) (h : i < x.length) : rd_T91 x (i : Int) = x[i] := by simp [rd_T91, h]
theorem eq_68 (x : (List S91)) (h : (x.length ≤ 1048576 ∧ ∀ e ∈ x, sm91 e)) (k : Nat) (hk : 2097154 ≤ k) : laws_eqCertS.f k x x = some true := by
  have hx := h.1
  unfold laws_eqCertS.f
  rw [if_pos rfl]
  exact eq_loop laws_eqCertS.l0 rd_T91 (fun k e => laws_eqCert.f k e e) x 1048577 hx (rd91 x) (fun k i => by rw [laws_eqCertS.l0]) (fun k e hk he => eq_38 e (h.2 e he) k (by omega)) k 0 (by omega) (by omega)
theorem eq_179 (x : S238) (h : sm238 x) (k : Nat) (hk : 0 ≤ k) : laws_eqRev.f x x = some true := by
  unfold laws_eqRev.f
  simp []
theorem rd238 (x : List S238) (i : Nat) (h : i < x.length) : rd_T238 x (i : Int) = x[i] := by simp [rd_T238, h]
theorem eq_110 (x : (List S238)) (h : (x.length ≤ 1048576 ∧ ∀ e ∈ x, sm238 e)) (k : Nat) (hk : 1048577 ≤ k) : laws_eqRevS.f k x x = some true := by
  have hx := h.1
  unfold laws_eqRevS.f
  rw [if_pos rfl]
  exact eq_loop laws_eqRevS.l0 rd_T238 (fun k e => laws_eqRev.f e e) x 0 hx (rd238 x) (fun k i => by rw [laws_eqRevS.l0]) (fun k e hk he => eq_179 e (h.2 e he) k (by omega)) k 0 (by omega) (by omega)
theorem eq_30 (x : S81) (h : sm81 x) (k : Nat) (hk : 1048577 ≤ k) : laws_eqCrl.f k x x = some true := by
  unfold laws_eqCrl.f
  simp [eq_110 x.f5 h.2.2.2.2.2.1 k (by omega)]
theorem rd81 (x : List S81) (i : Nat) (h : i < x.length) : rd_T81 x (i : Int) = x[i] := by simp [rd_T81, h]
theorem eq_69 (x : (List S81)) (h : (x.length ≤ 1048576 ∧ ∀ e ∈ x, sm81 e)) (k : Nat) (hk : 2097154 ≤ k) : laws_eqCrlS.f k x x = some true := by
  have hx := h.1
  unfold laws_eqCrlS.f
  rw [if_pos rfl]
  exact eq_loop laws_eqCrlS.l0 rd_T81 (fun k e => laws_eqCrl.f k e e) x 1048577 hx (rd81 x) (fun k i => by rw [laws_eqCrlS.l0]) (fun k e hk he => eq_30 e (h.2 e he) k (by omega)) k 0 (by omega) (by omega)
theorem eq_150 (x : S115) (h : sm115 x) (k : Nat) (hk : 0 ≤ k) : laws_eqAnchor.f x x = some true := by
  unfold laws_eqAnchor.f
  simp []
theorem rd115 (x : List S115) (i : Nat) (h : i < x.length) : rd_T115 x (i : Int) = x[i] := by simp [rd_T115, h]
theorem eq_70 (x : (List S115)) (h : (x.length ≤ 1048576 ∧ ∀ e ∈ x, sm115 e)) (k : Nat) (hk : 1048577 ≤ k) : laws_eqAnchorS.f k x x = some true := by
  have hx := h.1
  unfold laws_eqAnchorS.f
  rw [if_pos rfl]
  exact eq_loop laws_eqAnchorS.l0 rd_T115 (fun k e => laws_eqAnchor.f e e) x 0 hx (rd115 x) (fun k i => by rw [laws_eqAnchorS.l0]) (fun k e hk he => eq_150 e (h.2 e he) k (by omega)) k 0 (by omega) (by omega)
theorem eq_15 (x : S33) (h : sm33 x) (k : Nat) (hk : 2097154 ≤ k) : laws_eqStore.f k x x = some true := by
  unfold laws_eqStore.f
  simp [eq_68 x.f0 h.1 k (by omega), eq_69 x.f1 h.2.1 k (by omega), eq_70 x.f2 h.2.2.1 k (by omega)]
theorem eq_212 (x : S200) (h : sm200 x) (k : Nat) (hk : 1048577 ≤ k) : laws_eqRules.f k x x = some true := by
  unfold laws_eqRules.f
  simp [eq_101 x.f1 h.2.1 k (by omega)]
theorem eq_157 (x : S202) (h : sm202 x) (k : Nat) (hk : 1048577 ≤ k) : laws_eqPlan.f k x x = some true := by
  unfold laws_eqPlan.f
  simp [eq_101 x.f1 h.2.1 k (by omega), eq_212 x.f2 h.2.2.1 k (by omega)]
theorem rd202 (x : List S202) (i : Nat) (h : i < x.length) : rd_T202 x (i : Int) = x[i] := by simp [rd_T202, h]
theorem eq_81 (x : (List S202)) (h : (x.length ≤ 1048576 ∧ ∀ e ∈ x, sm202 e)) (k : Nat) (hk : 2097154 ≤ k) : laws_eqPlanS.f k x x = some true := by
  have hx := h.1
  unfold laws_eqPlanS.f
  rw [if_pos rfl]
  exact eq_loop laws_eqPlanS.l0 rd_T202 (fun k e => laws_eqPlan.f k e e) x 1048577 hx (rd202 x) (fun k i => by rw [laws_eqPlanS.l0]) (fun k e hk he => eq_157 e (h.2 e he) k (by omega)) k 0 (by omega) (by omega)
theorem eq_158 (x : S205) (h : sm205 x) (k : Nat) (hk : 0 ≤ k) : laws_eqKept.f x x = some true := by
  unfold laws_eqKept.f
  simp []
theorem rd205 (x : List S205) (i : Nat) (h : i < x.length) : rd_T205 x (i : Int) = x[i] := by simp [rd_T205, h]
theorem eq_82 (x : (List S205)) (h : (x.length ≤ 1048576 ∧ ∀ e ∈ x, sm205 e)) (k : Nat) (hk : 1048577 ≤ k) : laws_eqKeptS.f k x x = some true := by
  have hx := h.1
  unfold laws_eqKeptS.f
  rw [if_pos rfl]
  exact eq_loop laws_eqKeptS.l0 rd_T205 (fun k e => laws_eqKept.f e e) x 0 hx (rd205 x) (fun k i => by rw [laws_eqKeptS.l0]) (fun k e hk he => eq_158 e (h.2 e he) k (by omega)) k 0 (by omega) (by omega)
theorem eq_20 (x : S46) (h : sm46 x) (k : Nat) (hk : 2097154 ≤ k) : laws_eqServer.f k x x = some true := by
  unfold laws_eqServer.f
  simp [eq_15 x.f0 h.1 k (by omega), eq_81 x.f1 h.2.1 k (by omega), eq_82 x.f5 h.2.2.2.2.2.1 k (by omega)]
theorem mk_114 (x : (List S238)) (h : (x.length ≤ 1048576 ∧ ∀ e ∈ x, sm238 e)) (m : Int) (h0 : 0 < m) (h1 : m + 2097154 ≤ 4611686018427387904) (k : Nat) (hk : 1048577 ≤ k) : ∃ m2 r, laws_markRevS.f k x m = some (m2, r) ∧ m ≤ m2 ∧ m2 ≤ m + 2097154 ∧ (∀ k, 1048577 ≤ k → laws_heldRevS.f k r m = some m2) := by
  have hx := h.1
  have hw : (2 : Int) * ((x.length - 0 : Nat) : Int) ≤ 2097152 := by omega
  refine Exists.elim (mark_loop True laws_markRevS.l0 laws_heldRevS.l0 x sm238 0 2 4611686018427387902 hx (fun k l m i e hK hi hl hle hp hm0 hm1 => ?_) (fun k l m => ?_) ?_ x.length k x m 0 rfl (Nat.zero_le _) rfl (fun j e _ he => h.2 e (List.mem_of_getElem? he)) h0 (by omega) (by omega)) (fun m2 HM => ?_)
  · have c1 : (i : Int) < (x.length : Int) := by omega
    have c0 : 0 ≤ (i : Int) := by omega
    have ew : wrap64 ((i : Int) + 1) = ((i + 1 : Nat) : Int) := by rw [w64 (by omega) (by omega)]; rfl
    have re : rd_T238 l (i : Int) = e := by rw [rd238 l i (by omega)]; exact Option.some.inj ((List.getElem?_eq_getElem (by omega)).symm.trans hle)
    have rs : ∀ y, rd_T238 (l.set i y) (i : Int) = y := fun y => by rw [rd238 _ i (by rw [List.length_set]; omega), List.getElem_set_self]
    refine ⟨(⟨m, m + 1⟩ : S238), m + 1 + 1, ?_, by omega, by omega, fun _ k' l2 hK' hl2 he2 => ?_⟩
    · rw [laws_markRevS.l0]
      simp only [lets, c1, c0, ew, re, rs, Int.toNat_natCast, List.set_set, if_true, Option.bind_some, u238_0_3, u238_1_3, show wrap64 (m + 1) = m + 1 from w64 (by omega) (by omega), show wrap64 (m + 1 + 1) = m + 1 + 1 from w64 (by omega) (by omega)]
    · have c2 : (i : Int) < (l2.length : Int) := by omega
      have re2 : rd_T238 l2 (i : Int) = (⟨m, m + 1⟩ : S238) := by rw [rd238 l2 i (by omega)]; exact Option.some.inj ((List.getElem?_eq_getElem (by omega)).symm.trans he2)
      rw [laws_heldRevS.l0]
      simp only [c2, c0, ew, re2, if_true, if_false, Option.bind_some, show wrap64 (m + 1) = m + 1 from w64 (by omega) (by omega), show wrap64 (m + 1 + 1) = m + 1 + 1 from w64 (by omega) (by omega)]
  · rw [laws_markRevS.l0, if_neg (by omega)]
  · intro _ k l2 m hl2
    rw [laws_heldRevS.l0, if_neg (by omega)]
  · obtain ⟨r, g1, g2, g3, g4, _, g6⟩ := HM
    refine ⟨m2, r, by unfold laws_markRevS.f; exact g1, g2, by omega, fun k' hk' => by unfold laws_heldRevS.f; exact g6 trivial k' (by omega)⟩
theorem mk_32 (x : S81) (h : sm81 x) (m : Int) (h0 : 0 < m) (h1 : m + 2097154 ≤ 4611686018427387904) (k : Nat) (hk : 1048577 ≤ k) : ∃ m2 r0, laws_markCrl.f k x m = some (m2, r0) ∧ m ≤ m2 ∧ m2 ≤ m + 2097154 ∧ True := by
  obtain ⟨m0, r0_0, e0, a0, b0, c0⟩ := mk_114 x.f5 h.2.2.2.2.2.1 m (by omega) (by omega) k (by omega)
  refine ⟨m0, r0_0, ?_, by omega, by omega, trivial⟩
  · unfold laws_markCrl.f
    simp only [e0, Option.bind_some]
theorem mk_120 (x : (List Int)) (h : (x.length ≤ 1048576 ∧ ∀ e ∈ x, True)) (m : Int) (h0 : 0 < m) (h1 : m + 1048577 ≤ 4611686018427387904) (k : Nat) (hk : 1048577 ≤ k) : ∃ m2 r, laws_markIntS.f k x m = some (m2, r) ∧ m ≤ m2 ∧ m2 ≤ m + 1048577 ∧ (∀ k, 1048577 ≤ k → laws_heldIntS.f k r m = some m2) := by
  have hx := h.1
  have hw : (1 : Int) * ((x.length - 0 : Nat) : Int) ≤ 1048576 := by omega
  refine Exists.elim (mark_loop True laws_markIntS.l0 laws_heldIntS.l0 x (fun e => True) 0 1 4611686018427387903 hx (fun k l m i e hK hi hl hle hp hm0 hm1 => ?_) (fun k l m => ?_) ?_ x.length k x m 0 rfl (Nat.zero_le _) rfl (fun j e _ he => h.2 e (List.mem_of_getElem? he)) h0 (by omega) (by omega)) (fun m2 HM => ?_)
  · have c1 : (i : Int) < (x.length : Int) := by omega
    have c0 : 0 ≤ (i : Int) := by omega
    have ew : wrap64 ((i : Int) + 1) = ((i + 1 : Nat) : Int) := by rw [w64 (by omega) (by omega)]; rfl
    have re : rd l (i : Int) = e := by rw [rdI l i (by omega)]; exact Option.some.inj ((List.getElem?_eq_getElem (by omega)).symm.trans hle)
    have rs : ∀ y, rd (l.set i y) (i : Int) = y := fun y => by rw [rdI _ i (by rw [List.length_set]; omega), List.getElem_set_self]
    refine ⟨m, m + 1, ?_, by omega, by omega, fun _ k' l2 hK' hl2 he2 => ?_⟩
    · rw [laws_markIntS.l0]
      simp only [lets, c1, c0, ew, re, rs, Int.toNat_natCast, List.set_set, if_true, Option.bind_some, show wrap64 (m + 1) = m + 1 from w64 (by omega) (by omega)]
    · have c2 : (i : Int) < (l2.length : Int) := by omega
      have re2 : rd l2 (i : Int) = m := by rw [rdI l2 i (by omega)]; exact Option.some.inj ((List.getElem?_eq_getElem (by omega)).symm.trans he2)
      rw [laws_heldIntS.l0]
      simp only [c2, c0, ew, re2, if_true, if_false, Option.bind_some, show wrap64 (m + 1) = m + 1 from w64 (by omega) (by omega)]
  · rw [laws_markIntS.l0, if_neg (by omega)]
  · intro _ k l2 m hl2
    rw [laws_heldIntS.l0, if_neg (by omega)]
  · obtain ⟨r, g1, g2, g3, g4, _, g6⟩ := HM
    refine ⟨m2, r, by unfold laws_markIntS.f; exact g1, g2, by omega, fun k' hk' => by unfold laws_heldIntS.f; exact g6 trivial k' (by omega)⟩
def txt (m : Int) : ByteArray := (laws_markText.f 64 m).getD ByteArray.empty
theorem text_loop : ∀ (n : Nat) (m : Int) (s : ByteArray), 0 ≤ m → m ≤ 4611686018427387904 → m < 10 ^ n → s.size + n ≤ 4611686018427387904 → ∃ t, ∀ k, n < k → laws_markText.l0 k m s = some t
  | 0, m, s, h0, hB, h1, hs => by
    obtain rfl : m = 0 := by omega
    have e1 : (⟨#[109]⟩ : ByteArray).size = 1 := rfl
    refine ⟨(⟨#[109]⟩ : ByteArray) ++ s, fun k hk => ?_⟩
    obtain ⟨k, rfl⟩ : ∃ q, k = q + 1 := ⟨k - 1, by omega⟩
    rw [laws_markText.l0, if_neg (by omega), if_pos (by omega)]
  | n + 1, m, s, h0, hB, h1, hs => by
    by_cases c : 0 < m
    · have e2 : (strOfNums ([((wrap64 (48 + (Int.tmod m 10))) % 256)] : List Int)).size = 1 := strOfNums_size _
      have e3 : Int.tdiv m 10 = m / 10 := Int.tdiv_eq_ediv_of_nonneg h0
      have e5 : m / 10 < 10 ^ n := by
        have : (10 : Int) ^ (n + 1) = 10 ^ n * 10 := Int.pow_succ 10 n
        omega
      have hw : wrap64 (Int.tdiv m 10) = m / 10 := by rw [e3]; unfold wrap64; omega
      · obtain ⟨t, ht⟩ := text_loop n (m / 10) ((strOfNums ([((wrap64 (48 + (Int.tmod m 10))) % 256)] : List Int)) ++ s) (by omega) (by omega) e5 (by rw [ByteArray.size_append, e2]; omega)
        refine ⟨t, fun k hk => ?_⟩
        obtain ⟨k, rfl⟩ : ∃ q, k = q + 1 := ⟨k - 1, by omega⟩
        rw [laws_markText.l0, if_pos c, if_pos (by omega), hw]
        exact ht k (by omega)
    · obtain rfl : m = 0 := by omega
      have e1 : (⟨#[109]⟩ : ByteArray).size = 1 := rfl
      refine ⟨(⟨#[109]⟩ : ByteArray) ++ s, fun k hk => ?_⟩
      obtain ⟨k, rfl⟩ : ∃ q, k = q + 1 := ⟨k - 1, by omega⟩
      rw [laws_markText.l0, if_neg (by omega), if_pos (by omega)]
theorem text (m : Int) (h0 : 0 < m) (h1 : m ≤ 4611686018427387904) (k : Nat) (hk : 64 ≤ k) : laws_markText.f k m = some (txt m) := by
  obtain ⟨t, ht⟩ := text_loop 19 m (⟨#[]⟩ : ByteArray) (by omega) h1 (by omega) (by show 0 + 19 ≤ _; omega)
  have e : ∀ k, 64 ≤ k → laws_markText.f k m = some t := fun k hk => by
    unfold laws_markText.f
    rw [if_neg (by omega)]
    exact ht k (by omega)
  rw [e k hk]
  unfold txt
  rw [e 64 (by omega)]
  rfl
theorem mk_121 (x : (List ByteArray)) (h : (x.length ≤ 1048576 ∧ ∀ e ∈ x, e.size ≤ 1048576)) (m : Int) (h0 : 0 < m) (h1 : m + 1048577 ≤ 4611686018427387904) (k : Nat) (hk : 1048641 ≤ k) : ∃ m2 r, laws_markStringS.f k x m = some (m2, r) ∧ m ≤ m2 ∧ m2 ≤ m + 1048577 ∧ (∀ k, 1048641 ≤ k → laws_heldStringS.f k r m = some m2) := by
  have hx := h.1
  have hw : (1 : Int) * ((x.length - 0 : Nat) : Int) ≤ 1048576 := by omega
  refine Exists.elim (mark_loop True laws_markStringS.l0 laws_heldStringS.l0 x (fun e => e.size ≤ 1048576) 64 1 4611686018427387903 hx (fun k l m i e hK hi hl hle hp hm0 hm1 => ?_) (fun k l m => ?_) ?_ x.length k x m 0 rfl (Nat.zero_le _) rfl (fun j e _ he => h.2 e (List.mem_of_getElem? he)) h0 (by omega) (by omega)) (fun m2 HM => ?_)
  · have c1 : (i : Int) < (x.length : Int) := by omega
    have c0 : 0 ≤ (i : Int) := by omega
    have ew : wrap64 ((i : Int) + 1) = ((i + 1 : Nat) : Int) := by rw [w64 (by omega) (by omega)]; rfl
    have re : (rdOf ByteArray.empty) l (i : Int) = e := by rw [rdS l i (by omega)]; exact Option.some.inj ((List.getElem?_eq_getElem (by omega)).symm.trans hle)
    have rs : ∀ y, (rdOf ByteArray.empty) (l.set i y) (i : Int) = y := fun y => by rw [rdS _ i (by rw [List.length_set]; omega), List.getElem_set_self]
    refine ⟨(txt (m)), m + 1, ?_, by omega, by omega, fun _ k' l2 hK' hl2 he2 => ?_⟩
    · rw [laws_markStringS.l0]
      simp only [lets, c1, c0, ew, re, rs, Int.toNat_natCast, List.set_set, if_true, Option.bind_some, text (m) (by omega) (by omega) k (by omega), show wrap64 (m + 1) = m + 1 from w64 (by omega) (by omega)]
    · have c2 : (i : Int) < (l2.length : Int) := by omega
      have re2 : (rdOf ByteArray.empty) l2 (i : Int) = (txt (m)) := by rw [rdS l2 i (by omega)]; exact Option.some.inj ((List.getElem?_eq_getElem (by omega)).symm.trans he2)
      rw [laws_heldStringS.l0]
      simp only [c2, c0, ew, re2, if_true, if_false, Option.bind_some, text (m) (by omega) (by omega) k' (by omega), show wrap64 (m + 1) = m + 1 from w64 (by omega) (by omega)]
  · rw [laws_markStringS.l0, if_neg (by omega)]
  · intro _ k l2 m hl2
    rw [laws_heldStringS.l0, if_neg (by omega)]
  · obtain ⟨r, g1, g2, g3, g4, _, g6⟩ := HM
    refine ⟨m2, r, by unfold laws_markStringS.f; exact g1, g2, by omega, fun k' hk' => by unfold laws_heldStringS.f; exact g6 trivial k' (by omega)⟩
theorem mk_111 (x : (List S91)) (h : (x.length ≤ 1048576 ∧ ∀ e ∈ x, sm91 e)) (m : Int) (h0 : 0 < m) (h1 : m + 3298551660557 ≤ 4611686018427387904) (k : Nat) (hk : 2097218 ≤ k) : ∃ m2 r, laws_markCertS.f k x m = some (m2, r) ∧ m ≤ m2 ∧ m2 ≤ m + 3298551660557 ∧ (∀ k, 2097218 ≤ k → laws_heldCertS.f k r m = some m2) := by
  have hx := h.1
  have hw : (3145741 : Int) * ((x.length - 0 : Nat) : Int) ≤ 3298548514816 := by omega
  refine Exists.elim (mark_loop True laws_markCertS.l0 laws_heldCertS.l0 x sm91 1048641 3145741 4611686018424242163 hx (fun k l m i e hK hi hl hle hp hm0 hm1 => ?_) (fun k l m => ?_) ?_ x.length k x m 0 rfl (Nat.zero_le _) rfl (fun j e _ he => h.2 e (List.mem_of_getElem? he)) h0 (by omega) (by omega)) (fun m2 HM => ?_)
  · have c1 : (i : Int) < (x.length : Int) := by omega
    have c0 : 0 ≤ (i : Int) := by omega
    have ew : wrap64 ((i : Int) + 1) = ((i + 1 : Nat) : Int) := by rw [w64 (by omega) (by omega)]; rfl
    have re : rd_T91 l (i : Int) = e := by rw [rd91 l i (by omega)]; exact Option.some.inj ((List.getElem?_eq_getElem (by omega)).symm.trans hle)
    obtain ⟨m0, r0, e0, a0, b0, d0⟩ := mk_120 e.f9 hp.2.2.2.2.2.2.2.2.2.1 (m + 1 + 1 + 1 + 1 + 1 + 1 + 1 + 1 + 1) (by omega) (by omega) k (by omega)
    obtain ⟨m1, r1, e1, a1, b1, d1⟩ := mk_121 e.f10 hp.2.2.2.2.2.2.2.2.2.2.1 (m0) (by omega) (by omega) k (by omega)
    obtain ⟨m2, r2, e2, a2, b2, d2⟩ := mk_121 e.f11 hp.2.2.2.2.2.2.2.2.2.2.2.1 (m1) (by omega) (by omega) k (by omega)
    have rs : ∀ y, rd_T91 (l.set i y) (i : Int) = y := fun y => by rw [rd91 _ i (by rw [List.length_set]; omega), List.getElem_set_self]
    refine ⟨(⟨m, (txt (m + 1)), (txt (m + 1 + 1)), m + 1 + 1 + 1, m + 1 + 1 + 1 + 1, (txt (m + 1 + 1 + 1 + 1 + 1)), (Int.tmod (m + 1 + 1 + 1 + 1 + 1 + 1) 3 == 0), m + 1 + 1 + 1 + 1 + 1 + 1 + 1, m + 1 + 1 + 1 + 1 + 1 + 1 + 1 + 1, r0, r1, r2, (txt (m2))⟩ : S91), m2 + 1, ?_, by omega, by omega, fun _ k' l2 hK' hl2 he2 => ?_⟩
    · rw [laws_markCertS.l0]
      simp only [lets, c1, c0, ew, re, rs, Int.toNat_natCast, List.set_set, if_true, Option.bind_some, u91_0_3, u91_10_57, u91_11_57, u91_12_9, u91_1_9, u91_2_9, u91_3_3, u91_4_3, u91_5_9, u91_6_4, u91_7_3, u91_8_3, u91_9_52, show wrap64 (m + 1) = m + 1 from w64 (by omega) (by omega), text (m + 1) (by omega) (by omega) k (by omega), show wrap64 (m + 1 + 1) = m + 1 + 1 from w64 (by omega) (by omega), text (m + 1 + 1) (by omega) (by omega) k (by omega), show wrap64 (m + 1 + 1 + 1) = m + 1 + 1 + 1 from w64 (by omega) (by omega), show wrap64 (m + 1 + 1 + 1 + 1) = m + 1 + 1 + 1 + 1 from w64 (by omega) (by omega), show wrap64 (m + 1 + 1 + 1 + 1 + 1) = m + 1 + 1 + 1 + 1 + 1 from w64 (by omega) (by omega), text (m + 1 + 1 + 1 + 1 + 1) (by omega) (by omega) k (by omega), show wrap64 (m + 1 + 1 + 1 + 1 + 1 + 1) = m + 1 + 1 + 1 + 1 + 1 + 1 from w64 (by omega) (by omega), show wrap64 (m + 1 + 1 + 1 + 1 + 1 + 1 + 1) = m + 1 + 1 + 1 + 1 + 1 + 1 + 1 from w64 (by omega) (by omega), show wrap64 (m + 1 + 1 + 1 + 1 + 1 + 1 + 1 + 1) = m + 1 + 1 + 1 + 1 + 1 + 1 + 1 + 1 from w64 (by omega) (by omega), show wrap64 (m + 1 + 1 + 1 + 1 + 1 + 1 + 1 + 1 + 1) = m + 1 + 1 + 1 + 1 + 1 + 1 + 1 + 1 + 1 from w64 (by omega) (by omega), e0, e1, e2, text (m2) (by omega) (by omega) k (by omega), show wrap64 (m2 + 1) = m2 + 1 from w64 (by omega) (by omega)]
    · have c2 : (i : Int) < (l2.length : Int) := by omega
      have re2 : rd_T91 l2 (i : Int) = (⟨m, (txt (m + 1)), (txt (m + 1 + 1)), m + 1 + 1 + 1, m + 1 + 1 + 1 + 1, (txt (m + 1 + 1 + 1 + 1 + 1)), (Int.tmod (m + 1 + 1 + 1 + 1 + 1 + 1) 3 == 0), m + 1 + 1 + 1 + 1 + 1 + 1 + 1, m + 1 + 1 + 1 + 1 + 1 + 1 + 1 + 1, r0, r1, r2, (txt (m2))⟩ : S91) := by rw [rd91 l2 i (by omega)]; exact Option.some.inj ((List.getElem?_eq_getElem (by omega)).symm.trans he2)
      rw [laws_heldCertS.l0]
      simp only [c2, c0, ew, re2, if_true, if_false, Option.bind_some, show wrap64 (m + 1) = m + 1 from w64 (by omega) (by omega), text (m + 1) (by omega) (by omega) k' (by omega), show wrap64 (m + 1 + 1) = m + 1 + 1 from w64 (by omega) (by omega), text (m + 1 + 1) (by omega) (by omega) k' (by omega), show wrap64 (m + 1 + 1 + 1) = m + 1 + 1 + 1 from w64 (by omega) (by omega), show wrap64 (m + 1 + 1 + 1 + 1) = m + 1 + 1 + 1 + 1 from w64 (by omega) (by omega), show wrap64 (m + 1 + 1 + 1 + 1 + 1) = m + 1 + 1 + 1 + 1 + 1 from w64 (by omega) (by omega), text (m + 1 + 1 + 1 + 1 + 1) (by omega) (by omega) k' (by omega), show wrap64 (m + 1 + 1 + 1 + 1 + 1 + 1) = m + 1 + 1 + 1 + 1 + 1 + 1 from w64 (by omega) (by omega), show wrap64 (m + 1 + 1 + 1 + 1 + 1 + 1 + 1) = m + 1 + 1 + 1 + 1 + 1 + 1 + 1 from w64 (by omega) (by omega), show wrap64 (m + 1 + 1 + 1 + 1 + 1 + 1 + 1 + 1) = m + 1 + 1 + 1 + 1 + 1 + 1 + 1 + 1 from w64 (by omega) (by omega), show wrap64 (m + 1 + 1 + 1 + 1 + 1 + 1 + 1 + 1 + 1) = m + 1 + 1 + 1 + 1 + 1 + 1 + 1 + 1 + 1 from w64 (by omega) (by omega), d0 k' (by omega), show ¬ m0 < 0 by omega, d1 k' (by omega), show ¬ m1 < 0 by omega, d2 k' (by omega), show ¬ m2 < 0 by omega, text (m2) (by omega) (by omega) k' (by omega), show wrap64 (m2 + 1) = m2 + 1 from w64 (by omega) (by omega)]
  · rw [laws_markCertS.l0, if_neg (by omega)]
  · intro _ k l2 m hl2
    rw [laws_heldCertS.l0, if_neg (by omega)]
  · obtain ⟨r, g1, g2, g3, g4, _, g6⟩ := HM
    refine ⟨m2, r, by unfold laws_markCertS.f; exact g1, g2, by omega, fun k' hk' => by unfold laws_heldCertS.f; exact g6 trivial k' (by omega)⟩
theorem mk_112 (x : (List S81)) (h : (x.length ≤ 1048576 ∧ ∀ e ∈ x, sm81 e)) (m : Int) (h0 : 0 < m) (h1 : m + 2199033741320 ≤ 4611686018427387904) (k : Nat) (hk : 2097154 ≤ k) : ∃ m2 r, laws_markCrlS.f k x m = some (m2, r) ∧ m ≤ m2 ∧ m2 ≤ m + 2199033741320 ∧ (∀ k, 2097154 ≤ k → laws_heldCrlS.f k r m = some m2) := by
  have hx := h.1
  have hw : (2097160 : Int) * ((x.length - 0 : Nat) : Int) ≤ 2199031644160 := by omega
  refine Exists.elim (mark_loop True laws_markCrlS.l0 laws_heldCrlS.l0 x sm81 1048577 2097160 4611686018425290744 hx (fun k l m i e hK hi hl hle hp hm0 hm1 => ?_) (fun k l m => ?_) ?_ x.length k x m 0 rfl (Nat.zero_le _) rfl (fun j e _ he => h.2 e (List.mem_of_getElem? he)) h0 (by omega) (by omega)) (fun m2 HM => ?_)
  · have c1 : (i : Int) < (x.length : Int) := by omega
    have c0 : 0 ≤ (i : Int) := by omega
    have ew : wrap64 ((i : Int) + 1) = ((i + 1 : Nat) : Int) := by rw [w64 (by omega) (by omega)]; rfl
    have re : rd_T81 l (i : Int) = e := by rw [rd81 l i (by omega)]; exact Option.some.inj ((List.getElem?_eq_getElem (by omega)).symm.trans hle)
    obtain ⟨m0, r0, e0, a0, b0, d0⟩ := mk_114 e.f5 hp.2.2.2.2.2.1 (m + 1 + 1 + 1 + 1 + 1) (by omega) (by omega) k (by omega)
    have rs : ∀ y, rd_T81 (l.set i y) (i : Int) = y := fun y => by rw [rd81 _ i (by rw [List.length_set]; omega), List.getElem_set_self]
    refine ⟨(⟨(txt (m)), m + 1, m + 1 + 1, m + 1 + 1 + 1, m + 1 + 1 + 1 + 1, r0, (txt (m0))⟩ : S81), m0 + 1, ?_, by omega, by omega, fun _ k' l2 hK' hl2 he2 => ?_⟩
    · rw [laws_markCrlS.l0]
      simp only [lets, c1, c0, ew, re, rs, Int.toNat_natCast, List.set_set, if_true, Option.bind_some, u81_0_9, u81_1_3, u81_2_3, u81_3_3, u81_4_3, u81_5_79, u81_6_9, text (m) (by omega) (by omega) k (by omega), show wrap64 (m + 1) = m + 1 from w64 (by omega) (by omega), show wrap64 (m + 1 + 1) = m + 1 + 1 from w64 (by omega) (by omega), show wrap64 (m + 1 + 1 + 1) = m + 1 + 1 + 1 from w64 (by omega) (by omega), show wrap64 (m + 1 + 1 + 1 + 1) = m + 1 + 1 + 1 + 1 from w64 (by omega) (by omega), show wrap64 (m + 1 + 1 + 1 + 1 + 1) = m + 1 + 1 + 1 + 1 + 1 from w64 (by omega) (by omega), e0, text (m0) (by omega) (by omega) k (by omega), show wrap64 (m0 + 1) = m0 + 1 from w64 (by omega) (by omega)]
    · have c2 : (i : Int) < (l2.length : Int) := by omega
      have re2 : rd_T81 l2 (i : Int) = (⟨(txt (m)), m + 1, m + 1 + 1, m + 1 + 1 + 1, m + 1 + 1 + 1 + 1, r0, (txt (m0))⟩ : S81) := by rw [rd81 l2 i (by omega)]; exact Option.some.inj ((List.getElem?_eq_getElem (by omega)).symm.trans he2)
      rw [laws_heldCrlS.l0]
      simp only [c2, c0, ew, re2, if_true, if_false, Option.bind_some, text (m) (by omega) (by omega) k' (by omega), show wrap64 (m + 1) = m + 1 from w64 (by omega) (by omega), show wrap64 (m + 1 + 1) = m + 1 + 1 from w64 (by omega) (by omega), show wrap64 (m + 1 + 1 + 1) = m + 1 + 1 + 1 from w64 (by omega) (by omega), show wrap64 (m + 1 + 1 + 1 + 1) = m + 1 + 1 + 1 + 1 from w64 (by omega) (by omega), show wrap64 (m + 1 + 1 + 1 + 1 + 1) = m + 1 + 1 + 1 + 1 + 1 from w64 (by omega) (by omega), d0 k' (by omega), show ¬ m0 < 0 by omega, text (m0) (by omega) (by omega) k' (by omega), show wrap64 (m0 + 1) = m0 + 1 from w64 (by omega) (by omega)]
  · rw [laws_markCrlS.l0, if_neg (by omega)]
  · intro _ k l2 m hl2
    rw [laws_heldCrlS.l0, if_neg (by omega)]
  · obtain ⟨r, g1, g2, g3, g4, _, g6⟩ := HM
    refine ⟨m2, r, by unfold laws_markCrlS.f; exact g1, g2, by omega, fun k' hk' => by unfold laws_heldCrlS.f; exact g6 trivial k' (by omega)⟩
theorem mk_113 (x : (List S115)) (h : (x.length ≤ 1048576 ∧ ∀ e ∈ x, sm115 e)) (m : Int) (h0 : 0 < m) (h1 : m + 2097154 ≤ 4611686018427387904) (k : Nat) (hk : 1048641 ≤ k) : ∃ m2 r, laws_markAnchorS.f k x m = some (m2, r) ∧ m ≤ m2 ∧ m2 ≤ m + 2097154 ∧ (∀ k, 1048641 ≤ k → laws_heldAnchorS.f k r m = some m2) := by
  have hx := h.1
  have hw : (2 : Int) * ((x.length - 0 : Nat) : Int) ≤ 2097152 := by omega
  refine Exists.elim (mark_loop True laws_markAnchorS.l0 laws_heldAnchorS.l0 x sm115 64 2 4611686018427387902 hx (fun k l m i e hK hi hl hle hp hm0 hm1 => ?_) (fun k l m => ?_) ?_ x.length k x m 0 rfl (Nat.zero_le _) rfl (fun j e _ he => h.2 e (List.mem_of_getElem? he)) h0 (by omega) (by omega)) (fun m2 HM => ?_)
  · have c1 : (i : Int) < (x.length : Int) := by omega
    have c0 : 0 ≤ (i : Int) := by omega
    have ew : wrap64 ((i : Int) + 1) = ((i + 1 : Nat) : Int) := by rw [w64 (by omega) (by omega)]; rfl
    have re : rd_T115 l (i : Int) = e := by rw [rd115 l i (by omega)]; exact Option.some.inj ((List.getElem?_eq_getElem (by omega)).symm.trans hle)
    have rs : ∀ y, rd_T115 (l.set i y) (i : Int) = y := fun y => by rw [rd115 _ i (by rw [List.length_set]; omega), List.getElem_set_self]
    refine ⟨(⟨(txt (m)), (txt (m + 1))⟩ : S115), m + 1 + 1, ?_, by omega, by omega, fun _ k' l2 hK' hl2 he2 => ?_⟩
    · rw [laws_markAnchorS.l0]
      simp only [lets, c1, c0, ew, re, rs, Int.toNat_natCast, List.set_set, if_true, Option.bind_some, u115_0_9, u115_1_9, text (m) (by omega) (by omega) k (by omega), show wrap64 (m + 1) = m + 1 from w64 (by omega) (by omega), text (m + 1) (by omega) (by omega) k (by omega), show wrap64 (m + 1 + 1) = m + 1 + 1 from w64 (by omega) (by omega)]
    · have c2 : (i : Int) < (l2.length : Int) := by omega
      have re2 : rd_T115 l2 (i : Int) = (⟨(txt (m)), (txt (m + 1))⟩ : S115) := by rw [rd115 l2 i (by omega)]; exact Option.some.inj ((List.getElem?_eq_getElem (by omega)).symm.trans he2)
      rw [laws_heldAnchorS.l0]
      simp only [c2, c0, ew, re2, if_true, if_false, Option.bind_some, text (m) (by omega) (by omega) k' (by omega), show wrap64 (m + 1) = m + 1 from w64 (by omega) (by omega), text (m + 1) (by omega) (by omega) k' (by omega), show wrap64 (m + 1 + 1) = m + 1 + 1 from w64 (by omega) (by omega)]
  · rw [laws_markAnchorS.l0, if_neg (by omega)]
  · intro _ k l2 m hl2
    rw [laws_heldAnchorS.l0, if_neg (by omega)]
  · obtain ⟨r, g1, g2, g3, g4, _, g6⟩ := HM
    refine ⟨m2, r, by unfold laws_markAnchorS.f; exact g1, g2, by omega, fun k' hk' => by unfold laws_heldAnchorS.f; exact g6 trivial k' (by omega)⟩
theorem mk_31 (x : S33) (h : sm33 x) (m : Int) (h0 : 0 < m) (h1 : m + 5497587499031 ≤ 4611686018427387904) (k : Nat) (hk : 2097218 ≤ k) : ∃ m2 r0 r1 r2, laws_markStore.f k x m = some (m2, r0, r1, r2) ∧ m ≤ m2 ∧ m2 ≤ m + 5497587499031 ∧ (∀ k, 2097218 ≤ k → laws_heldStore.f k (⟨r0, r1, r2⟩ : S33) m = some m2) := by
  obtain ⟨m0, r0_0, e0, a0, b0, c0⟩ := mk_111 x.f0 h.1 m (by omega) (by omega) k (by omega)
  obtain ⟨m1, r1_0, e1, a1, b1, c1⟩ := mk_112 x.f1 h.2.1 m0 (by omega) (by omega) k (by omega)
  obtain ⟨m2, r2_0, e2, a2, b2, c2⟩ := mk_113 x.f2 h.2.2.1 m1 (by omega) (by omega) k (by omega)
  refine ⟨m2, r0_0, r1_0, r2_0, ?_, by omega, by omega, fun k hk => ?_⟩
  · unfold laws_markStore.f
    simp only [e0, e1, e2, Option.bind_some]
  · unfold laws_heldStore.f
    simp only [c0 k (by omega), c1 k (by omega), c2 k (by omega), show ¬ m0 < 0 by omega, show ¬ m1 < 0 by omega, show ¬ m2 < 0 by omega, if_false, Option.bind_some]
theorem mk_129 (x : (List S202)) (h : (x.length ≤ 1048576 ∧ ∀ e ∈ x, sm202 e)) (m : Int) (h0 : 0 < m) (h1 : m + 2199032692743 ≤ 4611686018427387904) (k : Nat) (hk : 2097154 ≤ k) : ∃ m2 r, laws_markPlanS.f k x m = some (m2, r) ∧ m ≤ m2 ∧ m2 ≤ m + 2199032692743 ∧ (∀ k, 2097154 ≤ k → laws_heldPlanS.f k r m = some m2) := by
  have hx := h.1
  have hw : (2097159 : Int) * ((x.length - 0 : Nat) : Int) ≤ 2199030595584 := by omega
  refine Exists.elim (mark_loop True laws_markPlanS.l0 laws_heldPlanS.l0 x sm202 1048577 2097159 4611686018425290745 hx (fun k l m i e hK hi hl hle hp hm0 hm1 => ?_) (fun k l m => ?_) ?_ x.length k x m 0 rfl (Nat.zero_le _) rfl (fun j e _ he => h.2 e (List.mem_of_getElem? he)) h0 (by omega) (by omega)) (fun m2 HM => ?_)
  · have c1 : (i : Int) < (x.length : Int) := by omega
    have c0 : 0 ≤ (i : Int) := by omega
    have ew : wrap64 ((i : Int) + 1) = ((i + 1 : Nat) : Int) := by rw [w64 (by omega) (by omega)]; rfl
    have re : rd_T202 l (i : Int) = e := by rw [rd202 l i (by omega)]; exact Option.some.inj ((List.getElem?_eq_getElem (by omega)).symm.trans hle)
    obtain ⟨m0, r0, e0, a0, b0, d0⟩ := mk_120 e.f1 hp.2.1 (m + 1) (by omega) (by omega) k (by omega)
    obtain ⟨m1, r1, e1, a1, b1, d1⟩ := mk_120 e.f2.f1 hp.2.2.1.2.1 (m0 + 1) (by omega) (by omega) k (by omega)
    have rs : ∀ y, rd_T202 (l.set i y) (i : Int) = y := fun y => by rw [rd202 _ i (by rw [List.length_set]; omega), List.getElem_set_self]
    refine ⟨(⟨m, r0, (⟨m0, r1, (Int.tmod (m1) 3 == 0), (Int.tmod (m1 + 1) 3 == 0), m1 + 1 + 1⟩ : S200)⟩ : S202), m1 + 1 + 1 + 1, ?_, by omega, by omega, fun _ k' l2 hK' hl2 he2 => ?_⟩
    · rw [laws_markPlanS.l0]
      simp only [lets, c1, c0, ew, re, rs, Int.toNat_natCast, List.set_set, if_true, Option.bind_some, u202_0_3, u202_1_52, u202_2_3, u202_3_52, u202_4_4, u202_5_4, u202_6_3, show wrap64 (m + 1) = m + 1 from w64 (by omega) (by omega), e0, show wrap64 (m0 + 1) = m0 + 1 from w64 (by omega) (by omega), e1, show wrap64 (m1 + 1) = m1 + 1 from w64 (by omega) (by omega), show wrap64 (m1 + 1 + 1) = m1 + 1 + 1 from w64 (by omega) (by omega), show wrap64 (m1 + 1 + 1 + 1) = m1 + 1 + 1 + 1 from w64 (by omega) (by omega)]
    · have c2 : (i : Int) < (l2.length : Int) := by omega
      have re2 : rd_T202 l2 (i : Int) = (⟨m, r0, (⟨m0, r1, (Int.tmod (m1) 3 == 0), (Int.tmod (m1 + 1) 3 == 0), m1 + 1 + 1⟩ : S200)⟩ : S202) := by rw [rd202 l2 i (by omega)]; exact Option.some.inj ((List.getElem?_eq_getElem (by omega)).symm.trans he2)
      rw [laws_heldPlanS.l0]
      simp only [c2, c0, ew, re2, if_true, if_false, Option.bind_some, show wrap64 (m + 1) = m + 1 from w64 (by omega) (by omega), d0 k' (by omega), show ¬ m0 < 0 by omega, show wrap64 (m0 + 1) = m0 + 1 from w64 (by omega) (by omega), d1 k' (by omega), show ¬ m1 < 0 by omega, show wrap64 (m1 + 1) = m1 + 1 from w64 (by omega) (by omega), show wrap64 (m1 + 1 + 1) = m1 + 1 + 1 from w64 (by omega) (by omega), show wrap64 (m1 + 1 + 1 + 1) = m1 + 1 + 1 + 1 from w64 (by omega) (by omega)]
  · rw [laws_markPlanS.l0, if_neg (by omega)]
  · intro _ k l2 m hl2
    rw [laws_heldPlanS.l0, if_neg (by omega)]
  · obtain ⟨r, g1, g2, g3, g4, _, g6⟩ := HM
    refine ⟨m2, r, by unfold laws_markPlanS.f; exact g1, g2, by omega, fun k' hk' => by unfold laws_heldPlanS.f; exact g6 trivial k' (by omega)⟩
theorem mk_130 (x : (List S205)) (h : (x.length ≤ 1048576 ∧ ∀ e ∈ x, sm205 e)) (m : Int) (h0 : 0 < m) (h1 : m + 3145731 ≤ 4611686018427387904) (k : Nat) (hk : 1048641 ≤ k) : ∃ m2 r, laws_markKeptS.f k x m = some (m2, r) ∧ m ≤ m2 ∧ m2 ≤ m + 3145731 ∧ (∀ k, 1048641 ≤ k → laws_heldKeptS.f k r m = some m2) := by
  have hx := h.1
  have hw : (3 : Int) * ((x.length - 0 : Nat) : Int) ≤ 3145728 := by omega
  refine Exists.elim (mark_loop True laws_markKeptS.l0 laws_heldKeptS.l0 x sm205 64 3 4611686018427387901 hx (fun k l m i e hK hi hl hle hp hm0 hm1 => ?_) (fun k l m => ?_) ?_ x.length k x m 0 rfl (Nat.zero_le _) rfl (fun j e _ he => h.2 e (List.mem_of_getElem? he)) h0 (by omega) (by omega)) (fun m2 HM => ?_)
  · have c1 : (i : Int) < (x.length : Int) := by omega
    have c0 : 0 ≤ (i : Int) := by omega
    have ew : wrap64 ((i : Int) + 1) = ((i + 1 : Nat) : Int) := by rw [w64 (by omega) (by omega)]; rfl
    have re : rd_T205 l (i : Int) = e := by rw [rd205 l i (by omega)]; exact Option.some.inj ((List.getElem?_eq_getElem (by omega)).symm.trans hle)
    have rs : ∀ y, rd_T205 (l.set i y) (i : Int) = y := fun y => by rw [rd205 _ i (by rw [List.length_set]; omega), List.getElem_set_self]
    refine ⟨(⟨(txt (m)), (txt (m + 1)), m + 1 + 1⟩ : S205), m + 1 + 1 + 1, ?_, by omega, by omega, fun _ k' l2 hK' hl2 he2 => ?_⟩
    · rw [laws_markKeptS.l0]
      simp only [lets, c1, c0, ew, re, rs, Int.toNat_natCast, List.set_set, if_true, Option.bind_some, u205_0_9, u205_1_9, u205_2_3, text (m) (by omega) (by omega) k (by omega), show wrap64 (m + 1) = m + 1 from w64 (by omega) (by omega), text (m + 1) (by omega) (by omega) k (by omega), show wrap64 (m + 1 + 1) = m + 1 + 1 from w64 (by omega) (by omega), show wrap64 (m + 1 + 1 + 1) = m + 1 + 1 + 1 from w64 (by omega) (by omega)]
    · have c2 : (i : Int) < (l2.length : Int) := by omega
      have re2 : rd_T205 l2 (i : Int) = (⟨(txt (m)), (txt (m + 1)), m + 1 + 1⟩ : S205) := by rw [rd205 l2 i (by omega)]; exact Option.some.inj ((List.getElem?_eq_getElem (by omega)).symm.trans he2)
      rw [laws_heldKeptS.l0]
      simp only [c2, c0, ew, re2, if_true, if_false, Option.bind_some, text (m) (by omega) (by omega) k' (by omega), show wrap64 (m + 1) = m + 1 from w64 (by omega) (by omega), text (m + 1) (by omega) (by omega) k' (by omega), show wrap64 (m + 1 + 1) = m + 1 + 1 from w64 (by omega) (by omega), show wrap64 (m + 1 + 1 + 1) = m + 1 + 1 + 1 from w64 (by omega) (by omega)]
  · rw [laws_markKeptS.l0, if_neg (by omega)]
  · intro _ k l2 m hl2
    rw [laws_heldKeptS.l0, if_neg (by omega)]
  · obtain ⟨r, g1, g2, g3, g4, _, g6⟩ := HM
    refine ⟨m2, r, by unfold laws_markKeptS.f; exact g1, g2, by omega, fun k' hk' => by unfold laws_heldKeptS.f; exact g6 trivial k' (by omega)⟩
theorem mk_47 (x : S46) (h : sm46 x) (m : Int) (h0 : 0 < m) (h1 : m + 7696623337505 ≤ 4611686018427387904) (k : Nat) (hk : 2097218 ≤ k) : ∃ m2 r0 r1 r2 r3 r4, laws_markServer.f k x m = some (m2, r0, r1, r2, r3, r4) ∧ m ≤ m2 ∧ m2 ≤ m + 7696623337505 ∧ (∀ k, 2097218 ≤ k → laws_heldServer.f k (⟨(⟨r0, r1, r2⟩ : S33), r3, x.f2, x.f3, x.f4, r4⟩ : S46) m = some m2) := by
  obtain ⟨m0, r0_0, r0_1, r0_2, e0, a0, b0, c0⟩ := mk_31 x.f0 h.1 m (by omega) (by omega) k (by omega)
  obtain ⟨m1, r1_0, e1, a1, b1, c1⟩ := mk_129 x.f1 h.2.1 m0 (by omega) (by omega) k (by omega)
  obtain ⟨m2, r2_0, e2, a2, b2, c2⟩ := mk_130 x.f5 h.2.2.2.2.2.1 m1 (by omega) (by omega) k (by omega)
  refine ⟨m2, r0_0, r0_1, r0_2, r1_0, r2_0, ?_, by omega, by omega, fun k hk => ?_⟩
  · unfold laws_markServer.f
    simp only [e0, e1, e2, Option.bind_some]
  · unfold laws_heldServer.f
    simp only [c0 k (by omega), c1 k (by omega), c2 k (by omega), show ¬ m0 < 0 by omega, show ¬ m1 < 0 by omega, show ¬ m2 < 0 by omega, if_false, Option.bind_some]
end Go.Proofs.YtacocpknielofaaGreatDoor.FamFnExactLearnCrl
