/- What the law's own helpers do: they measure, copy, compare, mark. Plain lemmas, no condition. -/
import Derived.Test.YtacocpknielofaaGreatDoorSaidFnExactShowWorld
import Derived.Test.YtacocpknielofaaGreatDoorZMark
namespace Go.Proofs.YtacocpknielofaaGreatDoor.FamFnExactShowWorld
open Go.RowKit Go.Proofs.YtacocpknielofaaGreatDoorW.PrintWords Go.Proofs.YtacocpknielofaaGreatDoorW.PrintLast Go.Proofs.YtacocpknielofaaGreatDoor.ZOpen Go.Proofs.YtacocpknielofaaGreatDoor.Z Go.Proofs.YtacocpknielofaaGreatDoor.F
open Go.Proofs.YtacocpknielofaaGreatDoor.SaidFnExactShowWorld Go.Proofs.YtacocpknielofaaGreatDoor.ZP
set_option linter.unusedVariables false
set_option linter.unusedSimpArgs false
set_option maxRecDepth 100000

theorem rdI (x : List Int) (i : Nat) (h : i < x.length) : rd x (i : Int) = x[i] := by simp [rd, h]
theorem szw_85 (l : (List Int)) (hl : okList (okInt .i64) l) (b : Int) (h0 : 0 ≤ b) (h1 : b ≤ 1048576) (k : Nat) (hk : 0 ≤ k) : ∃ n, laws_szIntS.f l b = some n ∧ n ≤ b ∧ (0 ≤ n → (l.length ≤ 1048576 ∧ ∀ e ∈ l, True) ∧ n + (((l.length : Nat) : Int) : Int) = b) := by
  have hll : l.length ≤ maxLen := hl.1
  have hm : maxLen = 9223372036854775807 := rfl
  have e : wrap64 (b - (l.length : Int)) = b - (l.length : Int) := by unfold wrap64; omega
  unfold laws_szIntS.f
  rw [e]
  by_cases c : b - (l.length : Int) < 0
  · rw [if_pos c]; exact ⟨-1, rfl, by omega, fun h => by omega⟩
  rw [if_neg c]
  exact ⟨_, rfl, by omega, fun h => ⟨⟨by omega, fun e he => trivial⟩, by omega⟩⟩
theorem sz_85 (l : (List Int)) (hl : okList (okInt .i64) l) (b : Int) (h0 : 0 ≤ b) (h1 : b ≤ 1048576) (k : Nat) (hk : 0 ≤ k) : ∃ n, laws_szIntS.f l b = some n ∧ n ≤ b ∧ (0 ≤ n → (l.length ≤ 1048576 ∧ ∀ e ∈ l, True)) := by
  obtain ⟨n, g1, g2, g3⟩ := szw_85 l hl b h0 h1 k hk
  exact ⟨n, g1, g2, fun h => (g3 h).1⟩
theorem rdS (x : List ByteArray) (i : Nat) (h : i < x.length) : rdOf ByteArray.empty x (i : Int) = x[i] := by simp [rdOf, h]
theorem szw_87 (l : (List ByteArray)) (hl : okList okStr l) (b : Int) (h0 : 0 ≤ b) (h1 : b ≤ 1048576) (k : Nat) (hk : 1048577 ≤ k) : ∃ n, laws_szStringS.f k l b = some n ∧ n ≤ b ∧ (0 ≤ n → (l.length ≤ 1048576 ∧ ∀ e ∈ l, e.size ≤ 1048576) ∧ n + ((((l.length + (l.map ByteArray.size).sum) : Nat) : Int) : Int) = b) := by
  have hll : l.length ≤ maxLen := hl.1
  have hm : maxLen = 9223372036854775807 := rfl
  have e : wrap64 (b - (l.length : Int)) = b - (l.length : Int) := by unfold wrap64; omega
  unfold laws_szStringS.f
  rw [e]
  by_cases c : b - (l.length : Int) < 0
  · rw [if_pos c]; exact ⟨-1, rfl, by omega, fun h => by omega⟩
  rw [if_neg c]
  obtain ⟨n, n1, n2, n3⟩ := sz_loop_w laws_szStringS.l0 (rdOf ByteArray.empty) (fun _ e b => some (wrap64 (b - (e.size : Int)))) (fun e => e.size ≤ 1048576) ByteArray.size l 0 (by omega) (rdS l) (fun k b i => by rw [laws_szStringS.l0]; rfl) (fun k e b _ he g0 g1 => by
      have h2 : e.size ≤ maxLen := hl.2 e he
      exact ⟨_, rfl, by unfold wrap64; omega, fun h => ⟨by unfold wrap64 at h; omega, by unfold wrap64; omega⟩⟩) k (b - (l.length : Int)) 0 (by omega) (by omega) (by omega) (by omega)
  refine ⟨n, n1, by omega, fun h => ⟨⟨by omega, fun a ha => ?_⟩, ?_⟩⟩
  · obtain ⟨j, hj, rfl⟩ := List.getElem_of_mem ha
    exact (n3 h).1 j hj (by omega)
  · have w := (n3 h).2
    rw [List.drop_zero] at w
    omega
theorem sz_87 (l : (List ByteArray)) (hl : okList okStr l) (b : Int) (h0 : 0 ≤ b) (h1 : b ≤ 1048576) (k : Nat) (hk : 1048577 ≤ k) : ∃ n, laws_szStringS.f k l b = some n ∧ n ≤ b ∧ (0 ≤ n → (l.length ≤ 1048576 ∧ ∀ e ∈ l, e.size ≤ 1048576)) := by
  obtain ⟨n, g1, g2, g3⟩ := szw_87 l hl b h0 h1 k hk
  exact ⟨n, g1, g2, fun h => (g3 h).1⟩
def sm88 (x : S88) : Prop := True ∧ x.f1.size ≤ 1048576 ∧ x.f2.size ≤ 1048576 ∧ True ∧ True ∧ x.f5.size ≤ 1048576 ∧ True ∧ True ∧ True ∧ (x.f9.length ≤ 1048576 ∧ ∀ e ∈ x.f9, True) ∧ (x.f10.length ≤ 1048576 ∧ ∀ e ∈ x.f10, e.size ≤ 1048576) ∧ (x.f11.length ≤ 1048576 ∧ ∀ e ∈ x.f11, e.size ≤ 1048576) ∧ x.f12.size ≤ 1048576 ∧ True
def wt88 (x : S88) : Nat := x.f1.size + x.f2.size + x.f5.size + x.f9.length + (x.f10.length + (x.f10.map ByteArray.size).sum) + (x.f11.length + (x.f11.map ByteArray.size).sum) + x.f12.size
theorem szw_34 (x : S88) (hx : ok88 x) (b : Int) (h0 : 0 ≤ b) (h1 : b ≤ 1048576) (k : Nat) (hk : 1048577 ≤ k) : ∃ n, laws_szCert.f k x b = some n ∧ n ≤ b ∧ (0 ≤ n → sm88 x ∧ n + (wt88 x : Int) = b) := by
  have hm : maxLen = 9223372036854775807 := rfl
  unfold laws_szCert.f
  have s1 : x.f1.size ≤ maxLen := hx.2.1
  have e1 : wrap64 (b - (x.f1.size : Int)) = b - (x.f1.size : Int) := by unfold wrap64; omega
  rw [e1]
  by_cases c1 : b - (x.f1.size : Int) < 0
  · rw [if_pos c1]; exact ⟨-1, rfl, by omega, fun h => by omega⟩
  rw [if_neg c1]
  have s2 : x.f2.size ≤ maxLen := hx.2.2.1
  have e2 : wrap64 ((b - (x.f1.size : Int)) - (x.f2.size : Int)) = (b - (x.f1.size : Int)) - (x.f2.size : Int) := by unfold wrap64; omega
  rw [e2]
  by_cases c2 : (b - (x.f1.size : Int)) - (x.f2.size : Int) < 0
  · rw [if_pos c2]; exact ⟨-1, rfl, by omega, fun h => by omega⟩
  rw [if_neg c2]
  have s5 : x.f5.size ≤ maxLen := hx.2.2.2.2.2.1
  have e5 : wrap64 (((b - (x.f1.size : Int)) - (x.f2.size : Int)) - (x.f5.size : Int)) = ((b - (x.f1.size : Int)) - (x.f2.size : Int)) - (x.f5.size : Int) := by unfold wrap64; omega
  rw [e5]
  by_cases c5 : ((b - (x.f1.size : Int)) - (x.f2.size : Int)) - (x.f5.size : Int) < 0
  · rw [if_pos c5]; exact ⟨-1, rfl, by omega, fun h => by omega⟩
  rw [if_neg c5]
  obtain ⟨n9, e9, b9, p9⟩ := szw_85 x.f9 (hx.2.2.2.2.2.2.2.2.2.1) (((b - (x.f1.size : Int)) - (x.f2.size : Int)) - (x.f5.size : Int)) (by omega) (by omega) k (by omega)
  rw [e9, Option.bind_some]
  by_cases c9 : n9 < 0
  · rw [if_pos c9]; exact ⟨-1, rfl, by omega, fun h => by omega⟩
  rw [if_neg c9]
  obtain ⟨n10, e10, b10, p10⟩ := szw_87 x.f10 (hx.2.2.2.2.2.2.2.2.2.2.1) n9 (by omega) (by omega) k (by omega)
  rw [e10, Option.bind_some]
  by_cases c10 : n10 < 0
  · rw [if_pos c10]; exact ⟨-1, rfl, by omega, fun h => by omega⟩
  rw [if_neg c10]
  obtain ⟨n11, e11, b11, p11⟩ := szw_87 x.f11 (hx.2.2.2.2.2.2.2.2.2.2.2.1) n10 (by omega) (by omega) k (by omega)
  rw [e11, Option.bind_some]
  by_cases c11 : n11 < 0
  · rw [if_pos c11]; exact ⟨-1, rfl, by omega, fun h => by omega⟩
  rw [if_neg c11]
  have s12 : x.f12.size ≤ maxLen := hx.2.2.2.2.2.2.2.2.2.2.2.2
  have e12 : wrap64 (n11 - (x.f12.size : Int)) = n11 - (x.f12.size : Int) := by unfold wrap64; omega
  rw [e12]
  by_cases c12 : n11 - (x.f12.size : Int) < 0
  · rw [if_pos c12]; exact ⟨-1, rfl, by omega, fun h => by omega⟩
  rw [if_neg c12]
  exact ⟨(n11 - (x.f12.size : Int)), rfl, by omega, fun h => ⟨⟨trivial, (by omega), (by omega), trivial, trivial, (by omega), trivial, trivial, trivial, (p9 (by omega)).1, (p10 (by omega)).1, (p11 (by omega)).1, (by omega), trivial⟩, by have w9 := (p9 (by omega)).2; have w10 := (p10 (by omega)).2; have w11 := (p11 (by omega)).2; unfold wt88; omega⟩⟩
theorem sz_34 (x : S88) (hx : ok88 x) (b : Int) (h0 : 0 ≤ b) (h1 : b ≤ 1048576) (k : Nat) (hk : 1048577 ≤ k) : ∃ n, laws_szCert.f k x b = some n ∧ n ≤ b ∧ (0 ≤ n → sm88 x) := by
  obtain ⟨n, g1, g2, g3⟩ := szw_34 x hx b h0 h1 k hk
  exact ⟨n, g1, g2, fun h => (g3 h).1⟩
theorem rd88 (x : List S88) (i : Nat) (h : i < x.length) : rd_T88 x (i : Int) = x[i] := by simp [rd_T88, h]
theorem szw_51 (l : (List S88)) (hl : okList ok88 l) (b : Int) (h0 : 0 ≤ b) (h1 : b ≤ 1048576) (k : Nat) (hk : 2097154 ≤ k) : ∃ n, laws_szCertS.f k l b = some n ∧ n ≤ b ∧ (0 ≤ n → (l.length ≤ 1048576 ∧ ∀ e ∈ l, sm88 e) ∧ n + ((((l.length + (l.map wt88).sum) : Nat) : Int) : Int) = b) := by
  have hll : l.length ≤ maxLen := hl.1
  have hm : maxLen = 9223372036854775807 := rfl
  have e : wrap64 (b - (l.length : Int)) = b - (l.length : Int) := by unfold wrap64; omega
  unfold laws_szCertS.f
  rw [e]
  by_cases c : b - (l.length : Int) < 0
  · rw [if_pos c]; exact ⟨-1, rfl, by omega, fun h => by omega⟩
  rw [if_neg c]
  obtain ⟨n, n1, n2, n3⟩ := sz_loop_w laws_szCertS.l0 rd_T88 (fun k e b => laws_szCert.f k e b) sm88 wt88 l 1048577 (by omega) (rd88 l) (fun k b i => by rw [laws_szCertS.l0]) (fun k e b hk he g0 g1 => szw_34 e (hl.2 e he) b g0 g1 k (by omega)) k (b - (l.length : Int)) 0 (by omega) (by omega) (by omega) (by omega)
  refine ⟨n, n1, by omega, fun h => ⟨⟨by omega, fun a ha => ?_⟩, ?_⟩⟩
  · obtain ⟨j, hj, rfl⟩ := List.getElem_of_mem ha
    exact (n3 h).1 j hj (by omega)
  · have w := (n3 h).2
    rw [List.drop_zero] at w
    omega
theorem sz_51 (l : (List S88)) (hl : okList ok88 l) (b : Int) (h0 : 0 ≤ b) (h1 : b ≤ 1048576) (k : Nat) (hk : 2097154 ≤ k) : ∃ n, laws_szCertS.f k l b = some n ∧ n ≤ b ∧ (0 ≤ n → (l.length ≤ 1048576 ∧ ∀ e ∈ l, sm88 e)) := by
  obtain ⟨n, g1, g2, g3⟩ := szw_51 l hl b h0 h1 k hk
  exact ⟨n, g1, g2, fun h => (g3 h).1⟩
def sm240 (x : S240) : Prop := True ∧ True ∧ True
theorem rd240 (x : List S240) (i : Nat) (h : i < x.length) : rd_T240 x (i : Int) = x[i] := by simp [rd_T240, h]
theorem szw_104 (l : (List S240)) (hl : okList ok240 l) (b : Int) (h0 : 0 ≤ b) (h1 : b ≤ 1048576) (k : Nat) (hk : 0 ≤ k) : ∃ n, laws_szRevS.f l b = some n ∧ n ≤ b ∧ (0 ≤ n → (l.length ≤ 1048576 ∧ ∀ e ∈ l, sm240 e) ∧ n + (((l.length : Nat) : Int) : Int) = b) := by
  have hll : l.length ≤ maxLen := hl.1
  have hm : maxLen = 9223372036854775807 := rfl
  have e : wrap64 (b - (l.length : Int)) = b - (l.length : Int) := by unfold wrap64; omega
  unfold laws_szRevS.f
  rw [e]
  by_cases c : b - (l.length : Int) < 0
  · rw [if_pos c]; exact ⟨-1, rfl, by omega, fun h => by omega⟩
  rw [if_neg c]
  exact ⟨_, rfl, by omega, fun h => ⟨⟨by omega, fun e he => by simp [sm88, sm240]⟩, by omega⟩⟩
theorem sz_104 (l : (List S240)) (hl : okList ok240 l) (b : Int) (h0 : 0 ≤ b) (h1 : b ≤ 1048576) (k : Nat) (hk : 0 ≤ k) : ∃ n, laws_szRevS.f l b = some n ∧ n ≤ b ∧ (0 ≤ n → (l.length ≤ 1048576 ∧ ∀ e ∈ l, sm240 e)) := by
  obtain ⟨n, g1, g2, g3⟩ := szw_104 l hl b h0 h1 k hk
  exact ⟨n, g1, g2, fun h => (g3 h).1⟩
def sm75 (x : S75) : Prop := x.f0.size ≤ 1048576 ∧ True ∧ True ∧ True ∧ True ∧ (x.f5.length ≤ 1048576 ∧ ∀ e ∈ x.f5, sm240 e) ∧ x.f6.size ≤ 1048576 ∧ True
def wt75 (x : S75) : Nat := x.f0.size + x.f5.length + x.f6.size
theorem szw_26 (x : S75) (hx : ok75 x) (b : Int) (h0 : 0 ≤ b) (h1 : b ≤ 1048576) (k : Nat) (hk : 0 ≤ k) : ∃ n, laws_szCrl.f x b = some n ∧ n ≤ b ∧ (0 ≤ n → sm75 x ∧ n + (wt75 x : Int) = b) := by
  have hm : maxLen = 9223372036854775807 := rfl
  unfold laws_szCrl.f
  have s0 : x.f0.size ≤ maxLen := hx.1
  have e0 : wrap64 (b - (x.f0.size : Int)) = b - (x.f0.size : Int) := by unfold wrap64; omega
  rw [e0]
  by_cases c0 : b - (x.f0.size : Int) < 0
  · rw [if_pos c0]; exact ⟨-1, rfl, by omega, fun h => by omega⟩
  rw [if_neg c0]
  obtain ⟨n5, e5, b5, p5⟩ := szw_104 x.f5 (hx.2.2.2.2.2.1) (b - (x.f0.size : Int)) (by omega) (by omega) k (by omega)
  rw [e5, Option.bind_some]
  by_cases c5 : n5 < 0
  · rw [if_pos c5]; exact ⟨-1, rfl, by omega, fun h => by omega⟩
  rw [if_neg c5]
  have s6 : x.f6.size ≤ maxLen := hx.2.2.2.2.2.2
  have e6 : wrap64 (n5 - (x.f6.size : Int)) = n5 - (x.f6.size : Int) := by unfold wrap64; omega
  rw [e6]
  by_cases c6 : n5 - (x.f6.size : Int) < 0
  · rw [if_pos c6]; exact ⟨-1, rfl, by omega, fun h => by omega⟩
  rw [if_neg c6]
  exact ⟨(n5 - (x.f6.size : Int)), rfl, by omega, fun h => ⟨⟨(by omega), trivial, trivial, trivial, trivial, (p5 (by omega)).1, (by omega), trivial⟩, by have w5 := (p5 (by omega)).2; unfold wt75; omega⟩⟩
theorem sz_26 (x : S75) (hx : ok75 x) (b : Int) (h0 : 0 ≤ b) (h1 : b ≤ 1048576) (k : Nat) (hk : 0 ≤ k) : ∃ n, laws_szCrl.f x b = some n ∧ n ≤ b ∧ (0 ≤ n → sm75 x) := by
  obtain ⟨n, g1, g2, g3⟩ := szw_26 x hx b h0 h1 k hk
  exact ⟨n, g1, g2, fun h => (g3 h).1⟩
theorem rd75 (x : List S75) (i : Nat) (h : i < x.length) : rd_T75 x (i : Int) = x[i] := by simp [rd_T75, h]
theorem szw_52 (l : (List S75)) (hl : okList ok75 l) (b : Int) (h0 : 0 ≤ b) (h1 : b ≤ 1048576) (k : Nat) (hk : 1048577 ≤ k) : ∃ n, laws_szCrlS.f k l b = some n ∧ n ≤ b ∧ (0 ≤ n → (l.length ≤ 1048576 ∧ ∀ e ∈ l, sm75 e) ∧ n + ((((l.length + (l.map wt75).sum) : Nat) : Int) : Int) = b) := by
  have hll : l.length ≤ maxLen := hl.1
  have hm : maxLen = 9223372036854775807 := rfl
  have e : wrap64 (b - (l.length : Int)) = b - (l.length : Int) := by unfold wrap64; omega
  unfold laws_szCrlS.f
  rw [e]
  by_cases c : b - (l.length : Int) < 0
  · rw [if_pos c]; exact ⟨-1, rfl, by omega, fun h => by omega⟩
  rw [if_neg c]
  obtain ⟨n, n1, n2, n3⟩ := sz_loop_w laws_szCrlS.l0 rd_T75 (fun k e b => laws_szCrl.f e b) sm75 wt75 l 0 (by omega) (rd75 l) (fun k b i => by rw [laws_szCrlS.l0]) (fun k e b hk he g0 g1 => szw_26 e (hl.2 e he) b g0 g1 k (by omega)) k (b - (l.length : Int)) 0 (by omega) (by omega) (by omega) (by omega)
  refine ⟨n, n1, by omega, fun h => ⟨⟨by omega, fun a ha => ?_⟩, ?_⟩⟩
  · obtain ⟨j, hj, rfl⟩ := List.getElem_of_mem ha
    exact (n3 h).1 j hj (by omega)
  · have w := (n3 h).2
    rw [List.drop_zero] at w
    omega
theorem sz_52 (l : (List S75)) (hl : okList ok75 l) (b : Int) (h0 : 0 ≤ b) (h1 : b ≤ 1048576) (k : Nat) (hk : 1048577 ≤ k) : ∃ n, laws_szCrlS.f k l b = some n ∧ n ≤ b ∧ (0 ≤ n → (l.length ≤ 1048576 ∧ ∀ e ∈ l, sm75 e)) := by
  obtain ⟨n, g1, g2, g3⟩ := szw_52 l hl b h0 h1 k hk
  exact ⟨n, g1, g2, fun h => (g3 h).1⟩
def sm178 (x : S178) : Prop := x.f0.size ≤ 1048576 ∧ x.f1.size ≤ 1048576 ∧ True
def wt178 (x : S178) : Nat := x.f0.size + x.f1.size
theorem szw_133 (x : S178) (hx : ok178 x) (b : Int) (h0 : 0 ≤ b) (h1 : b ≤ 1048576) (k : Nat) (hk : 0 ≤ k) : ∃ n, laws_szAnchor.f x b = some n ∧ n ≤ b ∧ (0 ≤ n → sm178 x ∧ n + (wt178 x : Int) = b) := by
  have hm : maxLen = 9223372036854775807 := rfl
  unfold laws_szAnchor.f
  have s0 : x.f0.size ≤ maxLen := hx.1
  have e0 : wrap64 (b - (x.f0.size : Int)) = b - (x.f0.size : Int) := by unfold wrap64; omega
  rw [e0]
  by_cases c0 : b - (x.f0.size : Int) < 0
  · rw [if_pos c0]; exact ⟨-1, rfl, by omega, fun h => by omega⟩
  rw [if_neg c0]
  have s1 : x.f1.size ≤ maxLen := hx.2
  have e1 : wrap64 ((b - (x.f0.size : Int)) - (x.f1.size : Int)) = (b - (x.f0.size : Int)) - (x.f1.size : Int) := by unfold wrap64; omega
  rw [e1]
  by_cases c1 : (b - (x.f0.size : Int)) - (x.f1.size : Int) < 0
  · rw [if_pos c1]; exact ⟨-1, rfl, by omega, fun h => by omega⟩
  rw [if_neg c1]
  exact ⟨((b - (x.f0.size : Int)) - (x.f1.size : Int)), rfl, by omega, fun h => ⟨⟨(by omega), (by omega), trivial⟩, by unfold wt178; omega⟩⟩
theorem sz_133 (x : S178) (hx : ok178 x) (b : Int) (h0 : 0 ≤ b) (h1 : b ≤ 1048576) (k : Nat) (hk : 0 ≤ k) : ∃ n, laws_szAnchor.f x b = some n ∧ n ≤ b ∧ (0 ≤ n → sm178 x) := by
  obtain ⟨n, g1, g2, g3⟩ := szw_133 x hx b h0 h1 k hk
  exact ⟨n, g1, g2, fun h => (g3 h).1⟩
theorem rd178 (x : List S178) (i : Nat) (h : i < x.length) : rd_T178 x (i : Int) = x[i] := by simp [rd_T178, h]
theorem szw_53 (l : (List S178)) (hl : okList ok178 l) (b : Int) (h0 : 0 ≤ b) (h1 : b ≤ 1048576) (k : Nat) (hk : 1048577 ≤ k) : ∃ n, laws_szAnchorS.f k l b = some n ∧ n ≤ b ∧ (0 ≤ n → (l.length ≤ 1048576 ∧ ∀ e ∈ l, sm178 e) ∧ n + ((((l.length + (l.map wt178).sum) : Nat) : Int) : Int) = b) := by
  have hll : l.length ≤ maxLen := hl.1
  have hm : maxLen = 9223372036854775807 := rfl
  have e : wrap64 (b - (l.length : Int)) = b - (l.length : Int) := by unfold wrap64; omega
  unfold laws_szAnchorS.f
  rw [e]
  by_cases c : b - (l.length : Int) < 0
  · rw [if_pos c]; exact ⟨-1, rfl, by omega, fun h => by omega⟩
  rw [if_neg c]
  obtain ⟨n, n1, n2, n3⟩ := sz_loop_w laws_szAnchorS.l0 rd_T178 (fun k e b => laws_szAnchor.f e b) sm178 wt178 l 0 (by omega) (rd178 l) (fun k b i => by rw [laws_szAnchorS.l0]) (fun k e b hk he g0 g1 => szw_133 e (hl.2 e he) b g0 g1 k (by omega)) k (b - (l.length : Int)) 0 (by omega) (by omega) (by omega) (by omega)
  refine ⟨n, n1, by omega, fun h => ⟨⟨by omega, fun a ha => ?_⟩, ?_⟩⟩
  · obtain ⟨j, hj, rfl⟩ := List.getElem_of_mem ha
    exact (n3 h).1 j hj (by omega)
  · have w := (n3 h).2
    rw [List.drop_zero] at w
    omega
theorem sz_53 (l : (List S178)) (hl : okList ok178 l) (b : Int) (h0 : 0 ≤ b) (h1 : b ≤ 1048576) (k : Nat) (hk : 1048577 ≤ k) : ∃ n, laws_szAnchorS.f k l b = some n ∧ n ≤ b ∧ (0 ≤ n → (l.length ≤ 1048576 ∧ ∀ e ∈ l, sm178 e)) := by
  obtain ⟨n, g1, g2, g3⟩ := szw_53 l hl b h0 h1 k hk
  exact ⟨n, g1, g2, fun h => (g3 h).1⟩
def sm26 (x : S26) : Prop := (x.f0.length ≤ 1048576 ∧ ∀ e ∈ x.f0, sm88 e) ∧ (x.f1.length ≤ 1048576 ∧ ∀ e ∈ x.f1, sm75 e) ∧ (x.f2.length ≤ 1048576 ∧ ∀ e ∈ x.f2, sm178 e) ∧ True
def wt26 (x : S26) : Nat := (x.f0.length + (x.f0.map wt88).sum) + (x.f1.length + (x.f1.map wt75).sum) + (x.f2.length + (x.f2.map wt178).sum)
theorem szw_11 (x : S26) (hx : ok26 x) (b : Int) (h0 : 0 ≤ b) (h1 : b ≤ 1048576) (k : Nat) (hk : 2097154 ≤ k) : ∃ n, laws_szStore.f k x b = some n ∧ n ≤ b ∧ (0 ≤ n → sm26 x ∧ n + (wt26 x : Int) = b) := by
  have hm : maxLen = 9223372036854775807 := rfl
  unfold laws_szStore.f
  obtain ⟨n0, e0, b0, p0⟩ := szw_51 x.f0 (hx.1) b (by omega) (by omega) k (by omega)
  rw [e0, Option.bind_some]
  by_cases c0 : n0 < 0
  · rw [if_pos c0]; exact ⟨-1, rfl, by omega, fun h => by omega⟩
  rw [if_neg c0]
  obtain ⟨n1, e1, b1, p1⟩ := szw_52 x.f1 (hx.2.1) n0 (by omega) (by omega) k (by omega)
  rw [e1, Option.bind_some]
  by_cases c1 : n1 < 0
  · rw [if_pos c1]; exact ⟨-1, rfl, by omega, fun h => by omega⟩
  rw [if_neg c1]
  obtain ⟨n2, e2, b2, p2⟩ := szw_53 x.f2 (hx.2.2) n1 (by omega) (by omega) k (by omega)
  rw [e2, Option.bind_some]
  by_cases c2 : n2 < 0
  · rw [if_pos c2]; exact ⟨-1, rfl, by omega, fun h => by omega⟩
  rw [if_neg c2]
  exact ⟨n2, rfl, by omega, fun h => ⟨⟨(p0 (by omega)).1, (p1 (by omega)).1, (p2 (by omega)).1, trivial⟩, by have w0 := (p0 (by omega)).2; have w1 := (p1 (by omega)).2; have w2 := (p2 (by omega)).2; unfold wt26; omega⟩⟩
theorem sz_11 (x : S26) (hx : ok26 x) (b : Int) (h0 : 0 ≤ b) (h1 : b ≤ 1048576) (k : Nat) (hk : 2097154 ≤ k) : ∃ n, laws_szStore.f k x b = some n ∧ n ≤ b ∧ (0 ≤ n → sm26 x) := by
  obtain ⟨n, g1, g2, g3⟩ := szw_11 x hx b h0 h1 k hk
  exact ⟨n, g1, g2, fun h => (g3 h).1⟩
def sm194 (x : S194) : Prop := True ∧ (x.f1.length ≤ 1048576 ∧ ∀ e ∈ x.f1, True) ∧ True ∧ True ∧ True ∧ True
def wt194 (x : S194) : Nat := x.f1.length
theorem szw_209 (x : S194) (hx : ok194 x) (b : Int) (h0 : 0 ≤ b) (h1 : b ≤ 1048576) (k : Nat) (hk : 0 ≤ k) : ∃ n, laws_szRules.f x b = some n ∧ n ≤ b ∧ (0 ≤ n → sm194 x ∧ n + (wt194 x : Int) = b) := by
  have hm : maxLen = 9223372036854775807 := rfl
  unfold laws_szRules.f
  obtain ⟨n1, e1, b1, p1⟩ := szw_85 x.f1 (hx.2.1) b (by omega) (by omega) k (by omega)
  rw [e1, Option.bind_some]
  by_cases c1 : n1 < 0
  · rw [if_pos c1]; exact ⟨-1, rfl, by omega, fun h => by omega⟩
  rw [if_neg c1]
  exact ⟨n1, rfl, by omega, fun h => ⟨⟨trivial, (p1 (by omega)).1, trivial, trivial, trivial, trivial⟩, by have w1 := (p1 (by omega)).2; unfold wt194; omega⟩⟩
theorem sz_209 (x : S194) (hx : ok194 x) (b : Int) (h0 : 0 ≤ b) (h1 : b ≤ 1048576) (k : Nat) (hk : 0 ≤ k) : ∃ n, laws_szRules.f x b = some n ∧ n ≤ b ∧ (0 ≤ n → sm194 x) := by
  obtain ⟨n, g1, g2, g3⟩ := szw_209 x hx b h0 h1 k hk
  exact ⟨n, g1, g2, fun h => (g3 h).1⟩
def sm196 (x : S196) : Prop := True ∧ (x.f1.length ≤ 1048576 ∧ ∀ e ∈ x.f1, True) ∧ sm194 x.f2 ∧ True
def wt196 (x : S196) : Nat := x.f1.length + wt194 x.f2
theorem szw_151 (x : S196) (hx : ok196 x) (b : Int) (h0 : 0 ≤ b) (h1 : b ≤ 1048576) (k : Nat) (hk : 0 ≤ k) : ∃ n, laws_szPlan.f x b = some n ∧ n ≤ b ∧ (0 ≤ n → sm196 x ∧ n + (wt196 x : Int) = b) := by
  have hm : maxLen = 9223372036854775807 := rfl
  unfold laws_szPlan.f
  obtain ⟨n1, e1, b1, p1⟩ := szw_85 x.f1 (hx.2.1) b (by omega) (by omega) k (by omega)
  rw [e1, Option.bind_some]
  by_cases c1 : n1 < 0
  · rw [if_pos c1]; exact ⟨-1, rfl, by omega, fun h => by omega⟩
  rw [if_neg c1]
  obtain ⟨n2, e2, b2, p2⟩ := szw_209 x.f2 (hx.2.2) n1 (by omega) (by omega) k (by omega)
  rw [e2, Option.bind_some]
  by_cases c2 : n2 < 0
  · rw [if_pos c2]; exact ⟨-1, rfl, by omega, fun h => by omega⟩
  rw [if_neg c2]
  exact ⟨n2, rfl, by omega, fun h => ⟨⟨trivial, (p1 (by omega)).1, (p2 (by omega)).1, trivial⟩, by have w1 := (p1 (by omega)).2; have w2 := (p2 (by omega)).2; unfold wt196; omega⟩⟩
theorem sz_151 (x : S196) (hx : ok196 x) (b : Int) (h0 : 0 ≤ b) (h1 : b ≤ 1048576) (k : Nat) (hk : 0 ≤ k) : ∃ n, laws_szPlan.f x b = some n ∧ n ≤ b ∧ (0 ≤ n → sm196 x) := by
  obtain ⟨n, g1, g2, g3⟩ := szw_151 x hx b h0 h1 k hk
  exact ⟨n, g1, g2, fun h => (g3 h).1⟩
theorem rd196 (x : List S196) (i : Nat) (h : i < x.length) : rd_T196 x (i : Int) = x[i] := by simp [rd_T196, h]
theorem szw_71 (l : (List S196)) (hl : okList ok196 l) (b : Int) (h0 : 0 ≤ b) (h1 : b ≤ 1048576) (k : Nat) (hk : 1048577 ≤ k) : ∃ n, laws_szPlanS.f k l b = some n ∧ n ≤ b ∧ (0 ≤ n → (l.length ≤ 1048576 ∧ ∀ e ∈ l, sm196 e) ∧ n + ((((l.length + (l.map wt196).sum) : Nat) : Int) : Int) = b) := by
  have hll : l.length ≤ maxLen := hl.1
  have hm : maxLen = 9223372036854775807 := rfl
  have e : wrap64 (b - (l.length : Int)) = b - (l.length : Int) := by unfold wrap64; omega
  unfold laws_szPlanS.f
  rw [e]
  by_cases c : b - (l.length : Int) < 0
  · rw [if_pos c]; exact ⟨-1, rfl, by omega, fun h => by omega⟩
  rw [if_neg c]
  obtain ⟨n, n1, n2, n3⟩ := sz_loop_w laws_szPlanS.l0 rd_T196 (fun k e b => laws_szPlan.f e b) sm196 wt196 l 0 (by omega) (rd196 l) (fun k b i => by rw [laws_szPlanS.l0]) (fun k e b hk he g0 g1 => szw_151 e (hl.2 e he) b g0 g1 k (by omega)) k (b - (l.length : Int)) 0 (by omega) (by omega) (by omega) (by omega)
  refine ⟨n, n1, by omega, fun h => ⟨⟨by omega, fun a ha => ?_⟩, ?_⟩⟩
  · obtain ⟨j, hj, rfl⟩ := List.getElem_of_mem ha
    exact (n3 h).1 j hj (by omega)
  · have w := (n3 h).2
    rw [List.drop_zero] at w
    omega
theorem sz_71 (l : (List S196)) (hl : okList ok196 l) (b : Int) (h0 : 0 ≤ b) (h1 : b ≤ 1048576) (k : Nat) (hk : 1048577 ≤ k) : ∃ n, laws_szPlanS.f k l b = some n ∧ n ≤ b ∧ (0 ≤ n → (l.length ≤ 1048576 ∧ ∀ e ∈ l, sm196 e)) := by
  obtain ⟨n, g1, g2, g3⟩ := szw_71 l hl b h0 h1 k hk
  exact ⟨n, g1, g2, fun h => (g3 h).1⟩
def sm199 (x : S199) : Prop := x.f0.size ≤ 1048576 ∧ x.f1.size ≤ 1048576 ∧ True ∧ True
def wt199 (x : S199) : Nat := x.f0.size + x.f1.size
theorem szw_152 (x : S199) (hx : ok199 x) (b : Int) (h0 : 0 ≤ b) (h1 : b ≤ 1048576) (k : Nat) (hk : 0 ≤ k) : ∃ n, laws_szKept.f x b = some n ∧ n ≤ b ∧ (0 ≤ n → sm199 x ∧ n + (wt199 x : Int) = b) := by
  have hm : maxLen = 9223372036854775807 := rfl
  unfold laws_szKept.f
  have s0 : x.f0.size ≤ maxLen := hx.1
  have e0 : wrap64 (b - (x.f0.size : Int)) = b - (x.f0.size : Int) := by unfold wrap64; omega
  rw [e0]
  by_cases c0 : b - (x.f0.size : Int) < 0
  · rw [if_pos c0]; exact ⟨-1, rfl, by omega, fun h => by omega⟩
  rw [if_neg c0]
  have s1 : x.f1.size ≤ maxLen := hx.2.1
  have e1 : wrap64 ((b - (x.f0.size : Int)) - (x.f1.size : Int)) = (b - (x.f0.size : Int)) - (x.f1.size : Int) := by unfold wrap64; omega
  rw [e1]
  by_cases c1 : (b - (x.f0.size : Int)) - (x.f1.size : Int) < 0
  · rw [if_pos c1]; exact ⟨-1, rfl, by omega, fun h => by omega⟩
  rw [if_neg c1]
  exact ⟨((b - (x.f0.size : Int)) - (x.f1.size : Int)), rfl, by omega, fun h => ⟨⟨(by omega), (by omega), trivial, trivial⟩, by unfold wt199; omega⟩⟩
theorem sz_152 (x : S199) (hx : ok199 x) (b : Int) (h0 : 0 ≤ b) (h1 : b ≤ 1048576) (k : Nat) (hk : 0 ≤ k) : ∃ n, laws_szKept.f x b = some n ∧ n ≤ b ∧ (0 ≤ n → sm199 x) := by
  obtain ⟨n, g1, g2, g3⟩ := szw_152 x hx b h0 h1 k hk
  exact ⟨n, g1, g2, fun h => (g3 h).1⟩
theorem rd199 (x : List S199) (i : Nat) (h : i < x.length) : rd_T199 x (i : Int) = x[i] := by simp [rd_T199, h]
theorem szw_72 (l : (List S199)) (hl : okList ok199 l) (b : Int) (h0 : 0 ≤ b) (h1 : b ≤ 1048576) (k : Nat) (hk : 1048577 ≤ k) : ∃ n, laws_szKeptS.f k l b = some n ∧ n ≤ b ∧ (0 ≤ n → (l.length ≤ 1048576 ∧ ∀ e ∈ l, sm199 e) ∧ n + ((((l.length + (l.map wt199).sum) : Nat) : Int) : Int) = b) := by
  have hll : l.length ≤ maxLen := hl.1
  have hm : maxLen = 9223372036854775807 := rfl
  have e : wrap64 (b - (l.length : Int)) = b - (l.length : Int) := by unfold wrap64; omega
  unfold laws_szKeptS.f
  rw [e]
  by_cases c : b - (l.length : Int) < 0
  · rw [if_pos c]; exact ⟨-1, rfl, by omega, fun h => by omega⟩
  rw [if_neg c]
  obtain ⟨n, n1, n2, n3⟩ := sz_loop_w laws_szKeptS.l0 rd_T199 (fun k e b => laws_szKept.f e b) sm199 wt199 l 0 (by omega) (rd199 l) (fun k b i => by rw [laws_szKeptS.l0]) (fun k e b hk he g0 g1 => szw_152 e (hl.2 e he) b g0 g1 k (by omega)) k (b - (l.length : Int)) 0 (by omega) (by omega) (by omega) (by omega)
  refine ⟨n, n1, by omega, fun h => ⟨⟨by omega, fun a ha => ?_⟩, ?_⟩⟩
  · obtain ⟨j, hj, rfl⟩ := List.getElem_of_mem ha
    exact (n3 h).1 j hj (by omega)
  · have w := (n3 h).2
    rw [List.drop_zero] at w
    omega
theorem sz_72 (l : (List S199)) (hl : okList ok199 l) (b : Int) (h0 : 0 ≤ b) (h1 : b ≤ 1048576) (k : Nat) (hk : 1048577 ≤ k) : ∃ n, laws_szKeptS.f k l b = some n ∧ n ≤ b ∧ (0 ≤ n → (l.length ≤ 1048576 ∧ ∀ e ∈ l, sm199 e)) := by
  obtain ⟨n, g1, g2, g3⟩ := szw_72 l hl b h0 h1 k hk
  exact ⟨n, g1, g2, fun h => (g3 h).1⟩
def sm40 (x : S40) : Prop := sm26 x.f0 ∧ (x.f1.length ≤ 1048576 ∧ ∀ e ∈ x.f1, sm196 e) ∧ True ∧ True ∧ True ∧ (x.f5.length ≤ 1048576 ∧ ∀ e ∈ x.f5, sm199 e) ∧ True
def wt40 (x : S40) : Nat := wt26 x.f0 + (x.f1.length + (x.f1.map wt196).sum) + (x.f5.length + (x.f5.map wt199).sum)
theorem szw_16 (x : S40) (hx : ok40 x) (b : Int) (h0 : 0 ≤ b) (h1 : b ≤ 1048576) (k : Nat) (hk : 2097154 ≤ k) : ∃ n, laws_szServer.f k x b = some n ∧ n ≤ b ∧ (0 ≤ n → sm40 x ∧ n + (wt40 x : Int) = b) := by
  have hm : maxLen = 9223372036854775807 := rfl
  unfold laws_szServer.f
  obtain ⟨n0, e0, b0, p0⟩ := szw_11 x.f0 (hx.1) b (by omega) (by omega) k (by omega)
  rw [e0, Option.bind_some]
  by_cases c0 : n0 < 0
  · rw [if_pos c0]; exact ⟨-1, rfl, by omega, fun h => by omega⟩
  rw [if_neg c0]
  obtain ⟨n1, e1, b1, p1⟩ := szw_71 x.f1 (hx.2.1) n0 (by omega) (by omega) k (by omega)
  rw [e1, Option.bind_some]
  by_cases c1 : n1 < 0
  · rw [if_pos c1]; exact ⟨-1, rfl, by omega, fun h => by omega⟩
  rw [if_neg c1]
  obtain ⟨n5, e5, b5, p5⟩ := szw_72 x.f5 (hx.2.2.2.2.2) n1 (by omega) (by omega) k (by omega)
  rw [e5, Option.bind_some]
  by_cases c5 : n5 < 0
  · rw [if_pos c5]; exact ⟨-1, rfl, by omega, fun h => by omega⟩
  rw [if_neg c5]
  exact ⟨n5, rfl, by omega, fun h => ⟨⟨(p0 (by omega)).1, (p1 (by omega)).1, trivial, trivial, trivial, (p5 (by omega)).1, trivial⟩, by have w0 := (p0 (by omega)).2; have w1 := (p1 (by omega)).2; have w5 := (p5 (by omega)).2; unfold wt40; omega⟩⟩
theorem sz_16 (x : S40) (hx : ok40 x) (b : Int) (h0 : 0 ≤ b) (h1 : b ≤ 1048576) (k : Nat) (hk : 2097154 ≤ k) : ∃ n, laws_szServer.f k x b = some n ∧ n ≤ b ∧ (0 ≤ n → sm40 x) := by
  obtain ⟨n, g1, g2, g3⟩ := szw_16 x hx b h0 h1 k hk
  exact ⟨n, g1, g2, fun h => (g3 h).1⟩
def sm265 (x : S265) : Prop := True ∧ True ∧ x.f2.size ≤ 1048576 ∧ True ∧ True
def wt265 (x : S265) : Nat := x.f2.size
theorem szw_213 (x : S265) (hx : ok265 x) (b : Int) (h0 : 0 ≤ b) (h1 : b ≤ 1048576) (k : Nat) (hk : 0 ≤ k) : ∃ n, laws_szWait.f x b = some n ∧ n ≤ b ∧ (0 ≤ n → sm265 x ∧ n + (wt265 x : Int) = b) := by
  have hm : maxLen = 9223372036854775807 := rfl
  unfold laws_szWait.f
  have s2 : x.f2.size ≤ maxLen := hx.2.2.1
  have e2 : wrap64 (b - (x.f2.size : Int)) = b - (x.f2.size : Int) := by unfold wrap64; omega
  rw [e2]
  by_cases c2 : b - (x.f2.size : Int) < 0
  · rw [if_pos c2]; exact ⟨-1, rfl, by omega, fun h => by omega⟩
  rw [if_neg c2]
  exact ⟨(b - (x.f2.size : Int)), rfl, by omega, fun h => ⟨⟨trivial, trivial, (by omega), trivial, trivial⟩, by unfold wt265; omega⟩⟩
theorem sz_213 (x : S265) (hx : ok265 x) (b : Int) (h0 : 0 ≤ b) (h1 : b ≤ 1048576) (k : Nat) (hk : 0 ≤ k) : ∃ n, laws_szWait.f x b = some n ∧ n ≤ b ∧ (0 ≤ n → sm265 x) := by
  obtain ⟨n, g1, g2, g3⟩ := szw_213 x hx b h0 h1 k hk
  exact ⟨n, g1, g2, fun h => (g3 h).1⟩
theorem rd265 (x : List S265) (i : Nat) (h : i < x.length) : rd_T265 x (i : Int) = x[i] := by simp [rd_T265, h]
theorem szw_159 (l : (List S265)) (hl : okList ok265 l) (b : Int) (h0 : 0 ≤ b) (h1 : b ≤ 1048576) (k : Nat) (hk : 1048577 ≤ k) : ∃ n, laws_szWaitS.f k l b = some n ∧ n ≤ b ∧ (0 ≤ n → (l.length ≤ 1048576 ∧ ∀ e ∈ l, sm265 e) ∧ n + ((((l.length + (l.map wt265).sum) : Nat) : Int) : Int) = b) := by
  have hll : l.length ≤ maxLen := hl.1
  have hm : maxLen = 9223372036854775807 := rfl
  have e : wrap64 (b - (l.length : Int)) = b - (l.length : Int) := by unfold wrap64; omega
  unfold laws_szWaitS.f
  rw [e]
  by_cases c : b - (l.length : Int) < 0
  · rw [if_pos c]; exact ⟨-1, rfl, by omega, fun h => by omega⟩
  rw [if_neg c]
  obtain ⟨n, n1, n2, n3⟩ := sz_loop_w laws_szWaitS.l0 rd_T265 (fun k e b => laws_szWait.f e b) sm265 wt265 l 0 (by omega) (rd265 l) (fun k b i => by rw [laws_szWaitS.l0]) (fun k e b hk he g0 g1 => szw_213 e (hl.2 e he) b g0 g1 k (by omega)) k (b - (l.length : Int)) 0 (by omega) (by omega) (by omega) (by omega)
  refine ⟨n, n1, by omega, fun h => ⟨⟨by omega, fun a ha => ?_⟩, ?_⟩⟩
  · obtain ⟨j, hj, rfl⟩ := List.getElem_of_mem ha
    exact (n3 h).1 j hj (by omega)
  · have w := (n3 h).2
    rw [List.drop_zero] at w
    omega
theorem sz_159 (l : (List S265)) (hl : okList ok265 l) (b : Int) (h0 : 0 ≤ b) (h1 : b ≤ 1048576) (k : Nat) (hk : 1048577 ≤ k) : ∃ n, laws_szWaitS.f k l b = some n ∧ n ≤ b ∧ (0 ≤ n → (l.length ≤ 1048576 ∧ ∀ e ∈ l, sm265 e)) := by
  obtain ⟨n, g1, g2, g3⟩ := szw_159 l hl b h0 h1 k hk
  exact ⟨n, g1, g2, fun h => (g3 h).1⟩
def sm304 (x : S304) : Prop := True ∧ True ∧ (x.f2.length ≤ 1048576 ∧ ∀ e ∈ x.f2, e.size ≤ 1048576) ∧ (x.f3.length ≤ 1048576 ∧ ∀ e ∈ x.f3, e.size ≤ 1048576) ∧ True
def wt304 (x : S304) : Nat := (x.f2.length + (x.f2.map ByteArray.size).sum) + (x.f3.length + (x.f3.map ByteArray.size).sum)
theorem szw_251 (x : S304) (hx : ok304 x) (b : Int) (h0 : 0 ≤ b) (h1 : b ≤ 1048576) (k : Nat) (hk : 1048577 ≤ k) : ∃ n, laws_szAnswer.f k x b = some n ∧ n ≤ b ∧ (0 ≤ n → sm304 x ∧ n + (wt304 x : Int) = b) := by
  have hm : maxLen = 9223372036854775807 := rfl
  unfold laws_szAnswer.f
  obtain ⟨n2, e2, b2, p2⟩ := szw_87 x.f2 (hx.2.2.1) b (by omega) (by omega) k (by omega)
  rw [e2, Option.bind_some]
  by_cases c2 : n2 < 0
  · rw [if_pos c2]; exact ⟨-1, rfl, by omega, fun h => by omega⟩
  rw [if_neg c2]
  obtain ⟨n3, e3, b3, p3⟩ := szw_87 x.f3 (hx.2.2.2) n2 (by omega) (by omega) k (by omega)
  rw [e3, Option.bind_some]
  by_cases c3 : n3 < 0
  · rw [if_pos c3]; exact ⟨-1, rfl, by omega, fun h => by omega⟩
  rw [if_neg c3]
  exact ⟨n3, rfl, by omega, fun h => ⟨⟨trivial, trivial, (p2 (by omega)).1, (p3 (by omega)).1, trivial⟩, by have w2 := (p2 (by omega)).2; have w3 := (p3 (by omega)).2; unfold wt304; omega⟩⟩
theorem sz_251 (x : S304) (hx : ok304 x) (b : Int) (h0 : 0 ≤ b) (h1 : b ≤ 1048576) (k : Nat) (hk : 1048577 ≤ k) : ∃ n, laws_szAnswer.f k x b = some n ∧ n ≤ b ∧ (0 ≤ n → sm304 x) := by
  obtain ⟨n, g1, g2, g3⟩ := szw_251 x hx b h0 h1 k hk
  exact ⟨n, g1, g2, fun h => (g3 h).1⟩
theorem rd304 (x : List S304) (i : Nat) (h : i < x.length) : rd_T304 x (i : Int) = x[i] := by simp [rd_T304, h]
theorem szw_239 (l : (List S304)) (hl : okList ok304 l) (b : Int) (h0 : 0 ≤ b) (h1 : b ≤ 1048576) (k : Nat) (hk : 2097154 ≤ k) : ∃ n, laws_szAnswerS.f k l b = some n ∧ n ≤ b ∧ (0 ≤ n → (l.length ≤ 1048576 ∧ ∀ e ∈ l, sm304 e) ∧ n + ((((l.length + (l.map wt304).sum) : Nat) : Int) : Int) = b) := by
  have hll : l.length ≤ maxLen := hl.1
  have hm : maxLen = 9223372036854775807 := rfl
  have e : wrap64 (b - (l.length : Int)) = b - (l.length : Int) := by unfold wrap64; omega
  unfold laws_szAnswerS.f
  rw [e]
  by_cases c : b - (l.length : Int) < 0
  · rw [if_pos c]; exact ⟨-1, rfl, by omega, fun h => by omega⟩
  rw [if_neg c]
  obtain ⟨n, n1, n2, n3⟩ := sz_loop_w laws_szAnswerS.l0 rd_T304 (fun k e b => laws_szAnswer.f k e b) sm304 wt304 l 1048577 (by omega) (rd304 l) (fun k b i => by rw [laws_szAnswerS.l0]) (fun k e b hk he g0 g1 => szw_251 e (hl.2 e he) b g0 g1 k (by omega)) k (b - (l.length : Int)) 0 (by omega) (by omega) (by omega) (by omega)
  refine ⟨n, n1, by omega, fun h => ⟨⟨by omega, fun a ha => ?_⟩, ?_⟩⟩
  · obtain ⟨j, hj, rfl⟩ := List.getElem_of_mem ha
    exact (n3 h).1 j hj (by omega)
  · have w := (n3 h).2
    rw [List.drop_zero] at w
    omega
theorem sz_239 (l : (List S304)) (hl : okList ok304 l) (b : Int) (h0 : 0 ≤ b) (h1 : b ≤ 1048576) (k : Nat) (hk : 2097154 ≤ k) : ∃ n, laws_szAnswerS.f k l b = some n ∧ n ≤ b ∧ (0 ≤ n → (l.length ≤ 1048576 ∧ ∀ e ∈ l, sm304 e)) := by
  obtain ⟨n, g1, g2, g3⟩ := szw_239 l hl b h0 h1 k hk
  exact ⟨n, g1, g2, fun h => (g3 h).1⟩
def sm269 (x : S269) : Prop := x.f0.size ≤ 1048576 ∧ True ∧ True ∧ True ∧ True ∧ True ∧ (x.f6.length ≤ 1048576 ∧ ∀ e ∈ x.f6, sm304 e) ∧ x.f7.size ≤ 1048576 ∧ True
def wt269 (x : S269) : Nat := x.f0.size + (x.f6.length + (x.f6.map wt304).sum) + x.f7.size
theorem szw_229 (x : S269) (hx : ok269 x) (b : Int) (h0 : 0 ≤ b) (h1 : b ≤ 1048576) (k : Nat) (hk : 2097154 ≤ k) : ∃ n, laws_szReply.f k x b = some n ∧ n ≤ b ∧ (0 ≤ n → sm269 x ∧ n + (wt269 x : Int) = b) := by
  have hm : maxLen = 9223372036854775807 := rfl
  unfold laws_szReply.f
  have s0 : x.f0.size ≤ maxLen := hx.1
  have e0 : wrap64 (b - (x.f0.size : Int)) = b - (x.f0.size : Int) := by unfold wrap64; omega
  rw [e0]
  by_cases c0 : b - (x.f0.size : Int) < 0
  · rw [if_pos c0]; exact ⟨-1, rfl, by omega, fun h => by omega⟩
  rw [if_neg c0]
  obtain ⟨n6, e6, b6, p6⟩ := szw_239 x.f6 (hx.2.2.2.2.2.2.1) (b - (x.f0.size : Int)) (by omega) (by omega) k (by omega)
  rw [e6, Option.bind_some]
  by_cases c6 : n6 < 0
  · rw [if_pos c6]; exact ⟨-1, rfl, by omega, fun h => by omega⟩
  rw [if_neg c6]
  have s7 : x.f7.size ≤ maxLen := hx.2.2.2.2.2.2.2
  have e7 : wrap64 (n6 - (x.f7.size : Int)) = n6 - (x.f7.size : Int) := by unfold wrap64; omega
  rw [e7]
  by_cases c7 : n6 - (x.f7.size : Int) < 0
  · rw [if_pos c7]; exact ⟨-1, rfl, by omega, fun h => by omega⟩
  rw [if_neg c7]
  exact ⟨(n6 - (x.f7.size : Int)), rfl, by omega, fun h => ⟨⟨(by omega), trivial, trivial, trivial, trivial, trivial, (p6 (by omega)).1, (by omega), trivial⟩, by have w6 := (p6 (by omega)).2; unfold wt269; omega⟩⟩
theorem sz_229 (x : S269) (hx : ok269 x) (b : Int) (h0 : 0 ≤ b) (h1 : b ≤ 1048576) (k : Nat) (hk : 2097154 ≤ k) : ∃ n, laws_szReply.f k x b = some n ∧ n ≤ b ∧ (0 ≤ n → sm269 x) := by
  obtain ⟨n, g1, g2, g3⟩ := szw_229 x hx b h0 h1 k hk
  exact ⟨n, g1, g2, fun h => (g3 h).1⟩
def sm271 (x : S271) : Prop := True ∧ sm269 x.f1 ∧ True
def wt271 (x : S271) : Nat := wt269 x.f1
theorem szw_214 (x : S271) (hx : ok271 x) (b : Int) (h0 : 0 ≤ b) (h1 : b ≤ 1048576) (k : Nat) (hk : 2097154 ≤ k) : ∃ n, laws_szGot.f k x b = some n ∧ n ≤ b ∧ (0 ≤ n → sm271 x ∧ n + (wt271 x : Int) = b) := by
  have hm : maxLen = 9223372036854775807 := rfl
  unfold laws_szGot.f
  obtain ⟨n1, e1, b1, p1⟩ := szw_229 x.f1 (hx.2) b (by omega) (by omega) k (by omega)
  rw [e1, Option.bind_some]
  by_cases c1 : n1 < 0
  · rw [if_pos c1]; exact ⟨-1, rfl, by omega, fun h => by omega⟩
  rw [if_neg c1]
  exact ⟨n1, rfl, by omega, fun h => ⟨⟨trivial, (p1 (by omega)).1, trivial⟩, by have w1 := (p1 (by omega)).2; unfold wt271; omega⟩⟩
theorem sz_214 (x : S271) (hx : ok271 x) (b : Int) (h0 : 0 ≤ b) (h1 : b ≤ 1048576) (k : Nat) (hk : 2097154 ≤ k) : ∃ n, laws_szGot.f k x b = some n ∧ n ≤ b ∧ (0 ≤ n → sm271 x) := by
  obtain ⟨n, g1, g2, g3⟩ := szw_214 x hx b h0 h1 k hk
  exact ⟨n, g1, g2, fun h => (g3 h).1⟩
theorem rd271 (x : List S271) (i : Nat) (h : i < x.length) : rd_T271 x (i : Int) = x[i] := by simp [rd_T271, h]
theorem szw_160 (l : (List S271)) (hl : okList ok271 l) (b : Int) (h0 : 0 ≤ b) (h1 : b ≤ 1048576) (k : Nat) (hk : 3145731 ≤ k) : ∃ n, laws_szGotS.f k l b = some n ∧ n ≤ b ∧ (0 ≤ n → (l.length ≤ 1048576 ∧ ∀ e ∈ l, sm271 e) ∧ n + ((((l.length + (l.map wt271).sum) : Nat) : Int) : Int) = b) := by
  have hll : l.length ≤ maxLen := hl.1
  have hm : maxLen = 9223372036854775807 := rfl
  have e : wrap64 (b - (l.length : Int)) = b - (l.length : Int) := by unfold wrap64; omega
  unfold laws_szGotS.f
  rw [e]
  by_cases c : b - (l.length : Int) < 0
  · rw [if_pos c]; exact ⟨-1, rfl, by omega, fun h => by omega⟩
  rw [if_neg c]
  obtain ⟨n, n1, n2, n3⟩ := sz_loop_w laws_szGotS.l0 rd_T271 (fun k e b => laws_szGot.f k e b) sm271 wt271 l 2097154 (by omega) (rd271 l) (fun k b i => by rw [laws_szGotS.l0]) (fun k e b hk he g0 g1 => szw_214 e (hl.2 e he) b g0 g1 k (by omega)) k (b - (l.length : Int)) 0 (by omega) (by omega) (by omega) (by omega)
  refine ⟨n, n1, by omega, fun h => ⟨⟨by omega, fun a ha => ?_⟩, ?_⟩⟩
  · obtain ⟨j, hj, rfl⟩ := List.getElem_of_mem ha
    exact (n3 h).1 j hj (by omega)
  · have w := (n3 h).2
    rw [List.drop_zero] at w
    omega
theorem sz_160 (l : (List S271)) (hl : okList ok271 l) (b : Int) (h0 : 0 ≤ b) (h1 : b ≤ 1048576) (k : Nat) (hk : 3145731 ≤ k) : ∃ n, laws_szGotS.f k l b = some n ∧ n ≤ b ∧ (0 ≤ n → (l.length ≤ 1048576 ∧ ∀ e ∈ l, sm271 e)) := by
  obtain ⟨n, g1, g2, g3⟩ := szw_160 l hl b h0 h1 k hk
  exact ⟨n, g1, g2, fun h => (g3 h).1⟩
def sm54 (x : S54) : Prop := x.f0.size ≤ 1048576 ∧ True ∧ (x.f2.length ≤ 1048576 ∧ ∀ e ∈ x.f2, sm265 e) ∧ (x.f3.length ≤ 1048576 ∧ ∀ e ∈ x.f3, sm271 e) ∧ (x.f4.length ≤ 1048576 ∧ ∀ e ∈ x.f4, True) ∧ True
def wt54 (x : S54) : Nat := x.f0.size + (x.f2.length + (x.f2.map wt265).sum) + (x.f3.length + (x.f3.map wt271).sum) + x.f4.length
theorem szw_83 (x : S54) (hx : ok54 x) (b : Int) (h0 : 0 ≤ b) (h1 : b ≤ 1048576) (k : Nat) (hk : 3145731 ≤ k) : ∃ n, laws_szClient.f k x b = some n ∧ n ≤ b ∧ (0 ≤ n → sm54 x ∧ n + (wt54 x : Int) = b) := by
  have hm : maxLen = 9223372036854775807 := rfl
  unfold laws_szClient.f
  have s0 : x.f0.size ≤ maxLen := hx.1
  have e0 : wrap64 (b - (x.f0.size : Int)) = b - (x.f0.size : Int) := by unfold wrap64; omega
  rw [e0]
  by_cases c0 : b - (x.f0.size : Int) < 0
  · rw [if_pos c0]; exact ⟨-1, rfl, by omega, fun h => by omega⟩
  rw [if_neg c0]
  obtain ⟨n2, e2, b2, p2⟩ := szw_159 x.f2 (hx.2.2.1) (b - (x.f0.size : Int)) (by omega) (by omega) k (by omega)
  rw [e2, Option.bind_some]
  by_cases c2 : n2 < 0
  · rw [if_pos c2]; exact ⟨-1, rfl, by omega, fun h => by omega⟩
  rw [if_neg c2]
  obtain ⟨n3, e3, b3, p3⟩ := szw_160 x.f3 (hx.2.2.2.1) n2 (by omega) (by omega) k (by omega)
  rw [e3, Option.bind_some]
  by_cases c3 : n3 < 0
  · rw [if_pos c3]; exact ⟨-1, rfl, by omega, fun h => by omega⟩
  rw [if_neg c3]
  obtain ⟨n4, e4, b4, p4⟩ := szw_85 x.f4 (hx.2.2.2.2) n3 (by omega) (by omega) k (by omega)
  rw [e4, Option.bind_some]
  by_cases c4 : n4 < 0
  · rw [if_pos c4]; exact ⟨-1, rfl, by omega, fun h => by omega⟩
  rw [if_neg c4]
  exact ⟨n4, rfl, by omega, fun h => ⟨⟨(by omega), trivial, (p2 (by omega)).1, (p3 (by omega)).1, (p4 (by omega)).1, trivial⟩, by have w2 := (p2 (by omega)).2; have w3 := (p3 (by omega)).2; have w4 := (p4 (by omega)).2; unfold wt54; omega⟩⟩
theorem sz_83 (x : S54) (hx : ok54 x) (b : Int) (h0 : 0 ≤ b) (h1 : b ≤ 1048576) (k : Nat) (hk : 3145731 ≤ k) : ∃ n, laws_szClient.f k x b = some n ∧ n ≤ b ∧ (0 ≤ n → sm54 x) := by
  obtain ⟨n, g1, g2, g3⟩ := szw_83 x hx b h0 h1 k hk
  exact ⟨n, g1, g2, fun h => (g3 h).1⟩
def sm214 (x : S214) : Prop := True ∧ x.f1.size ≤ 1048576 ∧ True
def wt214 (x : S214) : Nat := x.f1.size
theorem szw_161 (x : S214) (hx : ok214 x) (b : Int) (h0 : 0 ≤ b) (h1 : b ≤ 1048576) (k : Nat) (hk : 0 ≤ k) : ∃ n, laws_szLetter.f x b = some n ∧ n ≤ b ∧ (0 ≤ n → sm214 x ∧ n + (wt214 x : Int) = b) := by
  have hm : maxLen = 9223372036854775807 := rfl
  unfold laws_szLetter.f
  have s1 : x.f1.size ≤ maxLen := hx.2
  have e1 : wrap64 (b - (x.f1.size : Int)) = b - (x.f1.size : Int) := by unfold wrap64; omega
  rw [e1]
  by_cases c1 : b - (x.f1.size : Int) < 0
  · rw [if_pos c1]; exact ⟨-1, rfl, by omega, fun h => by omega⟩
  rw [if_neg c1]
  exact ⟨(b - (x.f1.size : Int)), rfl, by omega, fun h => ⟨⟨trivial, (by omega), trivial⟩, by unfold wt214; omega⟩⟩
theorem sz_161 (x : S214) (hx : ok214 x) (b : Int) (h0 : 0 ≤ b) (h1 : b ≤ 1048576) (k : Nat) (hk : 0 ≤ k) : ∃ n, laws_szLetter.f x b = some n ∧ n ≤ b ∧ (0 ≤ n → sm214 x) := by
  obtain ⟨n, g1, g2, g3⟩ := szw_161 x hx b h0 h1 k hk
  exact ⟨n, g1, g2, fun h => (g3 h).1⟩
theorem rd214 (x : List S214) (i : Nat) (h : i < x.length) : rd_T214 x (i : Int) = x[i] := by simp [rd_T214, h]
theorem szw_84 (l : (List S214)) (hl : okList ok214 l) (b : Int) (h0 : 0 ≤ b) (h1 : b ≤ 1048576) (k : Nat) (hk : 1048577 ≤ k) : ∃ n, laws_szLetterS.f k l b = some n ∧ n ≤ b ∧ (0 ≤ n → (l.length ≤ 1048576 ∧ ∀ e ∈ l, sm214 e) ∧ n + ((((l.length + (l.map wt214).sum) : Nat) : Int) : Int) = b) := by
  have hll : l.length ≤ maxLen := hl.1
  have hm : maxLen = 9223372036854775807 := rfl
  have e : wrap64 (b - (l.length : Int)) = b - (l.length : Int) := by unfold wrap64; omega
  unfold laws_szLetterS.f
  rw [e]
  by_cases c : b - (l.length : Int) < 0
  · rw [if_pos c]; exact ⟨-1, rfl, by omega, fun h => by omega⟩
  rw [if_neg c]
  obtain ⟨n, n1, n2, n3⟩ := sz_loop_w laws_szLetterS.l0 rd_T214 (fun k e b => laws_szLetter.f e b) sm214 wt214 l 0 (by omega) (rd214 l) (fun k b i => by rw [laws_szLetterS.l0]) (fun k e b hk he g0 g1 => szw_161 e (hl.2 e he) b g0 g1 k (by omega)) k (b - (l.length : Int)) 0 (by omega) (by omega) (by omega) (by omega)
  refine ⟨n, n1, by omega, fun h => ⟨⟨by omega, fun a ha => ?_⟩, ?_⟩⟩
  · obtain ⟨j, hj, rfl⟩ := List.getElem_of_mem ha
    exact (n3 h).1 j hj (by omega)
  · have w := (n3 h).2
    rw [List.drop_zero] at w
    omega
theorem sz_84 (l : (List S214)) (hl : okList ok214 l) (b : Int) (h0 : 0 ≤ b) (h1 : b ≤ 1048576) (k : Nat) (hk : 1048577 ≤ k) : ∃ n, laws_szLetterS.f k l b = some n ∧ n ≤ b ∧ (0 ≤ n → (l.length ≤ 1048576 ∧ ∀ e ∈ l, sm214 e)) := by
  obtain ⟨n, g1, g2, g3⟩ := szw_84 l hl b h0 h1 k hk
  exact ⟨n, g1, g2, fun h => (g3 h).1⟩
def sm217 (x : S217) : Prop := True ∧ x.f1.size ≤ 1048576 ∧ True
def wt217 (x : S217) : Nat := x.f1.size
theorem szw_162 (x : S217) (hx : ok217 x) (b : Int) (h0 : 0 ≤ b) (h1 : b ≤ 1048576) (k : Nat) (hk : 0 ≤ k) : ∃ n, laws_szPose.f x b = some n ∧ n ≤ b ∧ (0 ≤ n → sm217 x ∧ n + (wt217 x : Int) = b) := by
  have hm : maxLen = 9223372036854775807 := rfl
  unfold laws_szPose.f
  have s1 : x.f1.size ≤ maxLen := hx.2
  have e1 : wrap64 (b - (x.f1.size : Int)) = b - (x.f1.size : Int) := by unfold wrap64; omega
  rw [e1]
  by_cases c1 : b - (x.f1.size : Int) < 0
  · rw [if_pos c1]; exact ⟨-1, rfl, by omega, fun h => by omega⟩
  rw [if_neg c1]
  exact ⟨(b - (x.f1.size : Int)), rfl, by omega, fun h => ⟨⟨trivial, (by omega), trivial⟩, by unfold wt217; omega⟩⟩
theorem sz_162 (x : S217) (hx : ok217 x) (b : Int) (h0 : 0 ≤ b) (h1 : b ≤ 1048576) (k : Nat) (hk : 0 ≤ k) : ∃ n, laws_szPose.f x b = some n ∧ n ≤ b ∧ (0 ≤ n → sm217 x) := by
  obtain ⟨n, g1, g2, g3⟩ := szw_162 x hx b h0 h1 k hk
  exact ⟨n, g1, g2, fun h => (g3 h).1⟩
theorem rd217 (x : List S217) (i : Nat) (h : i < x.length) : rd_T217 x (i : Int) = x[i] := by simp [rd_T217, h]
theorem szw_86 (l : (List S217)) (hl : okList ok217 l) (b : Int) (h0 : 0 ≤ b) (h1 : b ≤ 1048576) (k : Nat) (hk : 1048577 ≤ k) : ∃ n, laws_szPoseS.f k l b = some n ∧ n ≤ b ∧ (0 ≤ n → (l.length ≤ 1048576 ∧ ∀ e ∈ l, sm217 e) ∧ n + ((((l.length + (l.map wt217).sum) : Nat) : Int) : Int) = b) := by
  have hll : l.length ≤ maxLen := hl.1
  have hm : maxLen = 9223372036854775807 := rfl
  have e : wrap64 (b - (l.length : Int)) = b - (l.length : Int) := by unfold wrap64; omega
  unfold laws_szPoseS.f
  rw [e]
  by_cases c : b - (l.length : Int) < 0
  · rw [if_pos c]; exact ⟨-1, rfl, by omega, fun h => by omega⟩
  rw [if_neg c]
  obtain ⟨n, n1, n2, n3⟩ := sz_loop_w laws_szPoseS.l0 rd_T217 (fun k e b => laws_szPose.f e b) sm217 wt217 l 0 (by omega) (rd217 l) (fun k b i => by rw [laws_szPoseS.l0]) (fun k e b hk he g0 g1 => szw_162 e (hl.2 e he) b g0 g1 k (by omega)) k (b - (l.length : Int)) 0 (by omega) (by omega) (by omega) (by omega)
  refine ⟨n, n1, by omega, fun h => ⟨⟨by omega, fun a ha => ?_⟩, ?_⟩⟩
  · obtain ⟨j, hj, rfl⟩ := List.getElem_of_mem ha
    exact (n3 h).1 j hj (by omega)
  · have w := (n3 h).2
    rw [List.drop_zero] at w
    omega
theorem sz_86 (l : (List S217)) (hl : okList ok217 l) (b : Int) (h0 : 0 ≤ b) (h1 : b ≤ 1048576) (k : Nat) (hk : 1048577 ≤ k) : ∃ n, laws_szPoseS.f k l b = some n ∧ n ≤ b ∧ (0 ≤ n → (l.length ≤ 1048576 ∧ ∀ e ∈ l, sm217 e)) := by
  obtain ⟨n, g1, g2, g3⟩ := szw_86 l hl b h0 h1 k hk
  exact ⟨n, g1, g2, fun h => (g3 h).1⟩
def sm59 (x : S59) : Prop := sm40 x.f0 ∧ sm54 x.f1 ∧ (x.f2.length ≤ 1048576 ∧ ∀ e ∈ x.f2, sm88 e) ∧ (x.f3.length ≤ 1048576 ∧ ∀ e ∈ x.f3, sm214 e) ∧ (x.f4.length ≤ 1048576 ∧ ∀ e ∈ x.f4, True) ∧ (x.f5.length ≤ 1048576 ∧ ∀ e ∈ x.f5, sm217 e) ∧ (x.f6.length ≤ 1048576 ∧ ∀ e ∈ x.f6, e.size ≤ 1048576) ∧ (x.f7.length ≤ 1048576 ∧ ∀ e ∈ x.f7, e.size ≤ 1048576) ∧ True
def wt59 (x : S59) : Nat := wt40 x.f0 + wt54 x.f1 + (x.f2.length + (x.f2.map wt88).sum) + (x.f3.length + (x.f3.map wt214).sum) + x.f4.length + (x.f5.length + (x.f5.map wt217).sum) + (x.f6.length + (x.f6.map ByteArray.size).sum) + (x.f7.length + (x.f7.map ByteArray.size).sum)
theorem szw_21 (x : S59) (hx : ok59 x) (b : Int) (h0 : 0 ≤ b) (h1 : b ≤ 1048576) (k : Nat) (hk : 3145731 ≤ k) : ∃ n, laws_szWorld.f k x b = some n ∧ n ≤ b ∧ (0 ≤ n → sm59 x ∧ n + (wt59 x : Int) = b) := by
  have hm : maxLen = 9223372036854775807 := rfl
  unfold laws_szWorld.f
  obtain ⟨n0, e0, b0, p0⟩ := szw_16 x.f0 (hx.1) b (by omega) (by omega) k (by omega)
  rw [e0, Option.bind_some]
  by_cases c0 : n0 < 0
  · rw [if_pos c0]; exact ⟨-1, rfl, by omega, fun h => by omega⟩
  rw [if_neg c0]
  obtain ⟨n1, e1, b1, p1⟩ := szw_83 x.f1 (hx.2.1) n0 (by omega) (by omega) k (by omega)
  rw [e1, Option.bind_some]
  by_cases c1 : n1 < 0
  · rw [if_pos c1]; exact ⟨-1, rfl, by omega, fun h => by omega⟩
  rw [if_neg c1]
  obtain ⟨n2, e2, b2, p2⟩ := szw_51 x.f2 (hx.2.2.1) n1 (by omega) (by omega) k (by omega)
  rw [e2, Option.bind_some]
  by_cases c2 : n2 < 0
  · rw [if_pos c2]; exact ⟨-1, rfl, by omega, fun h => by omega⟩
  rw [if_neg c2]
  obtain ⟨n3, e3, b3, p3⟩ := szw_84 x.f3 (hx.2.2.2.1) n2 (by omega) (by omega) k (by omega)
  rw [e3, Option.bind_some]
  by_cases c3 : n3 < 0
  · rw [if_pos c3]; exact ⟨-1, rfl, by omega, fun h => by omega⟩
  rw [if_neg c3]
  obtain ⟨n4, e4, b4, p4⟩ := szw_85 x.f4 (hx.2.2.2.2.1) n3 (by omega) (by omega) k (by omega)
  rw [e4, Option.bind_some]
  by_cases c4 : n4 < 0
  · rw [if_pos c4]; exact ⟨-1, rfl, by omega, fun h => by omega⟩
  rw [if_neg c4]
  obtain ⟨n5, e5, b5, p5⟩ := szw_86 x.f5 (hx.2.2.2.2.2.1) n4 (by omega) (by omega) k (by omega)
  rw [e5, Option.bind_some]
  by_cases c5 : n5 < 0
  · rw [if_pos c5]; exact ⟨-1, rfl, by omega, fun h => by omega⟩
  rw [if_neg c5]
  obtain ⟨n6, e6, b6, p6⟩ := szw_87 x.f6 (hx.2.2.2.2.2.2.1) n5 (by omega) (by omega) k (by omega)
  rw [e6, Option.bind_some]
  by_cases c6 : n6 < 0
  · rw [if_pos c6]; exact ⟨-1, rfl, by omega, fun h => by omega⟩
  rw [if_neg c6]
  obtain ⟨n7, e7, b7, p7⟩ := szw_87 x.f7 (hx.2.2.2.2.2.2.2) n6 (by omega) (by omega) k (by omega)
  rw [e7, Option.bind_some]
  by_cases c7 : n7 < 0
  · rw [if_pos c7]; exact ⟨-1, rfl, by omega, fun h => by omega⟩
  rw [if_neg c7]
  exact ⟨n7, rfl, by omega, fun h => ⟨⟨(p0 (by omega)).1, (p1 (by omega)).1, (p2 (by omega)).1, (p3 (by omega)).1, (p4 (by omega)).1, (p5 (by omega)).1, (p6 (by omega)).1, (p7 (by omega)).1, trivial⟩, by have w0 := (p0 (by omega)).2; have w1 := (p1 (by omega)).2; have w2 := (p2 (by omega)).2; have w3 := (p3 (by omega)).2; have w4 := (p4 (by omega)).2; have w5 := (p5 (by omega)).2; have w6 := (p6 (by omega)).2; have w7 := (p7 (by omega)).2; unfold wt59; omega⟩⟩
theorem sz_21 (x : S59) (hx : ok59 x) (b : Int) (h0 : 0 ≤ b) (h1 : b ≤ 1048576) (k : Nat) (hk : 3145731 ≤ k) : ∃ n, laws_szWorld.f k x b = some n ∧ n ≤ b ∧ (0 ≤ n → sm59 x) := by
  obtain ⟨n, g1, g2, g3⟩ := szw_21 x hx b h0 h1 k hk
  exact ⟨n, g1, g2, fun h => (g3 h).1⟩
theorem to_93 (x : (List Int)) (h : (x.length ≤ 1048576 ∧ ∀ e ∈ x, True)) (k : Nat) (hk : 1048577 ≤ k) : laws_toIntS.f k x = some x := by
  have hx := h.1
  unfold laws_toIntS.f
  rw [if_pos (by omega), if_pos (by omega)]
  have := to_loop laws_toIntS.l0 rd (fun _ e => some e) id x 0 hx (rdI x) (fun k y i => by rw [laws_toIntS.l0]; rfl) (fun _ _ _ _ => rfl) k (List.replicate x.length (0 : Int)) 0 (by omega) (by simp) rfl (by omega)
  simpa using this
theorem to_95 (x : (List ByteArray)) (h : (x.length ≤ 1048576 ∧ ∀ e ∈ x, e.size ≤ 1048576)) (k : Nat) (hk : 1048577 ≤ k) : laws_toStringS.f k x = some x := by
  have hx := h.1
  unfold laws_toStringS.f
  rw [if_pos (by omega), if_pos (by omega)]
  have := to_loop laws_toStringS.l0 (rdOf ByteArray.empty) (fun _ e => some e) id x 0 hx (rdS x) (fun k y i => by rw [laws_toStringS.l0]; rfl) (fun _ _ _ _ => rfl) k (List.replicate x.length (⟨#[]⟩ : ByteArray)) 0 (by omega) (by simp) rfl (by omega)
  simpa using this
def cv88 (x : S88) : S91 := ⟨x.f0, x.f1, x.f2, x.f3, x.f4, x.f5, x.f6, x.f7, x.f8, x.f9, x.f10, x.f11, x.f12⟩
def sm91 (x : S91) : Prop := True ∧ x.f1.size ≤ 1048576 ∧ x.f2.size ≤ 1048576 ∧ True ∧ True ∧ x.f5.size ≤ 1048576 ∧ True ∧ True ∧ True ∧ (x.f9.length ≤ 1048576 ∧ ∀ e ∈ x.f9, True) ∧ (x.f10.length ≤ 1048576 ∧ ∀ e ∈ x.f10, e.size ≤ 1048576) ∧ (x.f11.length ≤ 1048576 ∧ ∀ e ∈ x.f11, e.size ≤ 1048576) ∧ x.f12.size ≤ 1048576 ∧ True
theorem to_36 (x : S88) (h : sm88 x) (k : Nat) (hk : 1048577 ≤ k) : laws_toCert.f k x = some (cv88 x) := by
  unfold laws_toCert.f
  simp only [to_93 x.f9 h.2.2.2.2.2.2.2.2.2.1 k (by omega), to_95 x.f10 h.2.2.2.2.2.2.2.2.2.2.1 k (by omega), to_95 x.f11 h.2.2.2.2.2.2.2.2.2.2.2.1 k (by omega), Option.bind_some]
  rfl
theorem smcv88 (x : S88) (h : sm88 x) : sm91 (cv88 x) := ⟨h.1, h.2.1, h.2.2.1, h.2.2.2.1, h.2.2.2.2.1, h.2.2.2.2.2.1, h.2.2.2.2.2.2.1, h.2.2.2.2.2.2.2.1, h.2.2.2.2.2.2.2.2.1, h.2.2.2.2.2.2.2.2.2.1, h.2.2.2.2.2.2.2.2.2.2.1, h.2.2.2.2.2.2.2.2.2.2.2.1, h.2.2.2.2.2.2.2.2.2.2.2.2.1, trivial⟩
theorem to_58 (x : (List S88)) (h : (x.length ≤ 1048576 ∧ ∀ e ∈ x, sm88 e)) (k : Nat) (hk : 2097154 ≤ k) : laws_toCertS.f k x = some (x.map cv88) := by
  have hx := h.1
  unfold laws_toCertS.f
  rw [if_pos (by omega), if_pos (by omega)]
  have := to_loop laws_toCertS.l0 rd_T88 (fun k e => laws_toCert.f k e) cv88 x 1048577 hx (rd88 x) (fun k y i => by rw [laws_toCertS.l0]) (fun k e hk he => to_36 e (h.2 e he) k (by omega)) k (List.replicate x.length z91) 0 (by omega) (by simp) rfl (by omega)
  simpa using this
def cv240 (x : S240) : S238 := ⟨x.f0, x.f1⟩
def sm238 (x : S238) : Prop := True ∧ True ∧ True
theorem to_176 (x : S240) (h : sm240 x) (k : Nat) (hk : 0 ≤ k) : laws_toRev.f x = some (cv240 x) := by
  unfold laws_toRev.f
  rfl
theorem smcv240 (x : S240) (h : sm240 x) : sm238 (cv240 x) := ⟨h.1, h.2.1, trivial⟩
theorem to_107 (x : (List S240)) (h : (x.length ≤ 1048576 ∧ ∀ e ∈ x, sm240 e)) (k : Nat) (hk : 1048577 ≤ k) : laws_toRevS.f k x = some (x.map cv240) := by
  have hx := h.1
  unfold laws_toRevS.f
  rw [if_pos (by omega), if_pos (by omega)]
  have := to_loop laws_toRevS.l0 rd_T240 (fun k e => laws_toRev.f e) cv240 x 0 hx (rd240 x) (fun k y i => by rw [laws_toRevS.l0]) (fun k e hk he => to_176 e (h.2 e he) k (by omega)) k (List.replicate x.length z238) 0 (by omega) (by simp) rfl (by omega)
  simpa using this
def cv75 (x : S75) : S81 := ⟨x.f0, x.f1, x.f2, x.f3, x.f4, (x.f5.map cv240), x.f6⟩
def sm81 (x : S81) : Prop := x.f0.size ≤ 1048576 ∧ True ∧ True ∧ True ∧ True ∧ (x.f5.length ≤ 1048576 ∧ ∀ e ∈ x.f5, sm238 e) ∧ x.f6.size ≤ 1048576 ∧ True
theorem to_28 (x : S75) (h : sm75 x) (k : Nat) (hk : 1048577 ≤ k) : laws_toCrl.f k x = some (cv75 x) := by
  unfold laws_toCrl.f
  simp only [to_107 x.f5 h.2.2.2.2.2.1 k (by omega), Option.bind_some]
  rfl
theorem smcv75 (x : S75) (h : sm75 x) : sm81 (cv75 x) := ⟨h.1, h.2.1, h.2.2.1, h.2.2.2.1, h.2.2.2.2.1, ⟨by show (List.map cv240 _).length ≤ _; rw [List.length_map]; exact h.2.2.2.2.2.1.1, fun e he => by
  obtain ⟨a, ha, rfl⟩ := List.mem_map.1 he
  exact smcv240 a (h.2.2.2.2.2.1.2 a ha)⟩, h.2.2.2.2.2.2.1, trivial⟩
theorem to_59 (x : (List S75)) (h : (x.length ≤ 1048576 ∧ ∀ e ∈ x, sm75 e)) (k : Nat) (hk : 2097154 ≤ k) : laws_toCrlS.f k x = some (x.map cv75) := by
  have hx := h.1
  unfold laws_toCrlS.f
  rw [if_pos (by omega), if_pos (by omega)]
  have := to_loop laws_toCrlS.l0 rd_T75 (fun k e => laws_toCrl.f k e) cv75 x 1048577 hx (rd75 x) (fun k y i => by rw [laws_toCrlS.l0]) (fun k e hk he => to_28 e (h.2 e he) k (by omega)) k (List.replicate x.length z81) 0 (by omega) (by simp) rfl (by omega)
  simpa using this
def cv178 (x : S178) : S115 := ⟨x.f0, x.f1⟩
def sm115 (x : S115) : Prop := x.f0.size ≤ 1048576 ∧ x.f1.size ≤ 1048576 ∧ True
theorem to_140 (x : S178) (h : sm178 x) (k : Nat) (hk : 0 ≤ k) : laws_toAnchor.f x = some (cv178 x) := by
  unfold laws_toAnchor.f
  rfl
theorem smcv178 (x : S178) (h : sm178 x) : sm115 (cv178 x) := ⟨h.1, h.2.1, trivial⟩
theorem to_60 (x : (List S178)) (h : (x.length ≤ 1048576 ∧ ∀ e ∈ x, sm178 e)) (k : Nat) (hk : 1048577 ≤ k) : laws_toAnchorS.f k x = some (x.map cv178) := by
  have hx := h.1
  unfold laws_toAnchorS.f
  rw [if_pos (by omega), if_pos (by omega)]
  have := to_loop laws_toAnchorS.l0 rd_T178 (fun k e => laws_toAnchor.f e) cv178 x 0 hx (rd178 x) (fun k y i => by rw [laws_toAnchorS.l0]) (fun k e hk he => to_140 e (h.2 e he) k (by omega)) k (List.replicate x.length z115) 0 (by omega) (by simp) rfl (by omega)
  simpa using this
def cv26 (x : S26) : S33 := ⟨(x.f0.map cv88), (x.f1.map cv75), (x.f2.map cv178)⟩
def sm33 (x : S33) : Prop := (x.f0.length ≤ 1048576 ∧ ∀ e ∈ x.f0, sm91 e) ∧ (x.f1.length ≤ 1048576 ∧ ∀ e ∈ x.f1, sm81 e) ∧ (x.f2.length ≤ 1048576 ∧ ∀ e ∈ x.f2, sm115 e) ∧ True
theorem to_13 (x : S26) (h : sm26 x) (k : Nat) (hk : 2097154 ≤ k) : laws_toStore.f k x = some (cv26 x) := by
  unfold laws_toStore.f
  simp only [to_58 x.f0 h.1 k (by omega), to_59 x.f1 h.2.1 k (by omega), to_60 x.f2 h.2.2.1 k (by omega), Option.bind_some]
  rfl
theorem smcv26 (x : S26) (h : sm26 x) : sm33 (cv26 x) := ⟨⟨by show (List.map cv88 _).length ≤ _; rw [List.length_map]; exact h.1.1, fun e he => by
  obtain ⟨a, ha, rfl⟩ := List.mem_map.1 he
  exact smcv88 a (h.1.2 a ha)⟩, ⟨by show (List.map cv75 _).length ≤ _; rw [List.length_map]; exact h.2.1.1, fun e he => by
  obtain ⟨a, ha, rfl⟩ := List.mem_map.1 he
  exact smcv75 a (h.2.1.2 a ha)⟩, ⟨by show (List.map cv178 _).length ≤ _; rw [List.length_map]; exact h.2.2.1.1, fun e he => by
  obtain ⟨a, ha, rfl⟩ := List.mem_map.1 he
  exact smcv178 a (h.2.2.1.2 a ha)⟩, trivial⟩
def cv194 (x : S194) : S200 := ⟨x.f0, x.f1, x.f2, x.f3, x.f4⟩
def sm200 (x : S200) : Prop := True ∧ (x.f1.length ≤ 1048576 ∧ ∀ e ∈ x.f1, True) ∧ True ∧ True ∧ True ∧ True
theorem to_210 (x : S194) (h : sm194 x) (k : Nat) (hk : 1048577 ≤ k) : laws_toRules.f k x = some (cv194 x) := by
  unfold laws_toRules.f
  simp only [to_93 x.f1 h.2.1 k (by omega), Option.bind_some]
  rfl
theorem smcv194 (x : S194) (h : sm194 x) : sm200 (cv194 x) := ⟨h.1, h.2.1, h.2.2.1, h.2.2.2.1, h.2.2.2.2.1, trivial⟩
def cv196 (x : S196) : S202 := ⟨x.f0, x.f1, (cv194 x.f2)⟩
def sm202 (x : S202) : Prop := True ∧ (x.f1.length ≤ 1048576 ∧ ∀ e ∈ x.f1, True) ∧ sm200 x.f2 ∧ True
theorem to_154 (x : S196) (h : sm196 x) (k : Nat) (hk : 1048577 ≤ k) : laws_toPlan.f k x = some (cv196 x) := by
  unfold laws_toPlan.f
  simp only [to_93 x.f1 h.2.1 k (by omega), to_210 x.f2 h.2.2.1 k (by omega), Option.bind_some]
  rfl
theorem smcv196 (x : S196) (h : sm196 x) : sm202 (cv196 x) := ⟨h.1, h.2.1, smcv194 _ h.2.2.1, trivial⟩
theorem to_76 (x : (List S196)) (h : (x.length ≤ 1048576 ∧ ∀ e ∈ x, sm196 e)) (k : Nat) (hk : 2097154 ≤ k) : laws_toPlanS.f k x = some (x.map cv196) := by
  have hx := h.1
  unfold laws_toPlanS.f
  rw [if_pos (by omega), if_pos (by omega)]
  have := to_loop laws_toPlanS.l0 rd_T196 (fun k e => laws_toPlan.f k e) cv196 x 1048577 hx (rd196 x) (fun k y i => by rw [laws_toPlanS.l0]) (fun k e hk he => to_154 e (h.2 e he) k (by omega)) k (List.replicate x.length z202) 0 (by omega) (by simp) rfl (by omega)
  simpa using this
def cv199 (x : S199) : S205 := ⟨x.f0, x.f1, x.f2⟩
def sm205 (x : S205) : Prop := x.f0.size ≤ 1048576 ∧ x.f1.size ≤ 1048576 ∧ True ∧ True
theorem to_155 (x : S199) (h : sm199 x) (k : Nat) (hk : 0 ≤ k) : laws_toKept.f x = some (cv199 x) := by
  unfold laws_toKept.f
  rfl
theorem smcv199 (x : S199) (h : sm199 x) : sm205 (cv199 x) := ⟨h.1, h.2.1, h.2.2.1, trivial⟩
theorem to_77 (x : (List S199)) (h : (x.length ≤ 1048576 ∧ ∀ e ∈ x, sm199 e)) (k : Nat) (hk : 1048577 ≤ k) : laws_toKeptS.f k x = some (x.map cv199) := by
  have hx := h.1
  unfold laws_toKeptS.f
  rw [if_pos (by omega), if_pos (by omega)]
  have := to_loop laws_toKeptS.l0 rd_T199 (fun k e => laws_toKept.f e) cv199 x 0 hx (rd199 x) (fun k y i => by rw [laws_toKeptS.l0]) (fun k e hk he => to_155 e (h.2 e he) k (by omega)) k (List.replicate x.length z205) 0 (by omega) (by simp) rfl (by omega)
  simpa using this
def cv40 (x : S40) : S46 := ⟨(cv26 x.f0), (x.f1.map cv196), x.f2, x.f3, x.f4, (x.f5.map cv199)⟩
def sm46 (x : S46) : Prop := sm33 x.f0 ∧ (x.f1.length ≤ 1048576 ∧ ∀ e ∈ x.f1, sm202 e) ∧ True ∧ True ∧ True ∧ (x.f5.length ≤ 1048576 ∧ ∀ e ∈ x.f5, sm205 e) ∧ True
theorem to_18 (x : S40) (h : sm40 x) (k : Nat) (hk : 2097154 ≤ k) : laws_toServer.f k x = some (cv40 x) := by
  unfold laws_toServer.f
  simp only [to_13 x.f0 h.1 k (by omega), to_76 x.f1 h.2.1 k (by omega), to_77 x.f5 h.2.2.2.2.2.1 k (by omega), Option.bind_some]
  rfl
theorem smcv40 (x : S40) (h : sm40 x) : sm46 (cv40 x) := ⟨smcv26 _ h.1, ⟨by show (List.map cv196 _).length ≤ _; rw [List.length_map]; exact h.2.1.1, fun e he => by
  obtain ⟨a, ha, rfl⟩ := List.mem_map.1 he
  exact smcv196 a (h.2.1.2 a ha)⟩, h.2.2.1, h.2.2.2.1, h.2.2.2.2.1, ⟨by show (List.map cv199 _).length ≤ _; rw [List.length_map]; exact h.2.2.2.2.2.1.1, fun e he => by
  obtain ⟨a, ha, rfl⟩ := List.mem_map.1 he
  exact smcv199 a (h.2.2.2.2.2.1.2 a ha)⟩, trivial⟩
def cv265 (x : S265) : S274 := ⟨x.f0, x.f1, x.f2, x.f3⟩
def sm274 (x : S274) : Prop := True ∧ True ∧ x.f2.size ≤ 1048576 ∧ True ∧ True
theorem to_215 (x : S265) (h : sm265 x) (k : Nat) (hk : 0 ≤ k) : laws_toWait.f x = some (cv265 x) := by
  unfold laws_toWait.f
  rfl
theorem smcv265 (x : S265) (h : sm265 x) : sm274 (cv265 x) := ⟨h.1, h.2.1, h.2.2.1, h.2.2.2.1, trivial⟩
theorem to_165 (x : (List S265)) (h : (x.length ≤ 1048576 ∧ ∀ e ∈ x, sm265 e)) (k : Nat) (hk : 1048577 ≤ k) : laws_toWaitS.f k x = some (x.map cv265) := by
  have hx := h.1
  unfold laws_toWaitS.f
  rw [if_pos (by omega), if_pos (by omega)]
  have := to_loop laws_toWaitS.l0 rd_T265 (fun k e => laws_toWait.f e) cv265 x 0 hx (rd265 x) (fun k y i => by rw [laws_toWaitS.l0]) (fun k e hk he => to_215 e (h.2 e he) k (by omega)) k (List.replicate x.length z274) 0 (by omega) (by simp) rfl (by omega)
  simpa using this
def cv304 (x : S304) : S273 := ⟨x.f0, x.f1, x.f2, x.f3⟩
def sm273 (x : S273) : Prop := True ∧ True ∧ (x.f2.length ≤ 1048576 ∧ ∀ e ∈ x.f2, e.size ≤ 1048576) ∧ (x.f3.length ≤ 1048576 ∧ ∀ e ∈ x.f3, e.size ≤ 1048576) ∧ True
theorem to_252 (x : S304) (h : sm304 x) (k : Nat) (hk : 1048577 ≤ k) : laws_toAnswer.f k x = some (cv304 x) := by
  unfold laws_toAnswer.f
  simp only [to_95 x.f2 h.2.2.1 k (by omega), to_95 x.f3 h.2.2.2.1 k (by omega), Option.bind_some]
  rfl
theorem smcv304 (x : S304) (h : sm304 x) : sm273 (cv304 x) := ⟨h.1, h.2.1, h.2.2.1, h.2.2.2.1, trivial⟩
theorem to_240 (x : (List S304)) (h : (x.length ≤ 1048576 ∧ ∀ e ∈ x, sm304 e)) (k : Nat) (hk : 2097154 ≤ k) : laws_toAnswerS.f k x = some (x.map cv304) := by
  have hx := h.1
  unfold laws_toAnswerS.f
  rw [if_pos (by omega), if_pos (by omega)]
  have := to_loop laws_toAnswerS.l0 rd_T304 (fun k e => laws_toAnswer.f k e) cv304 x 1048577 hx (rd304 x) (fun k y i => by rw [laws_toAnswerS.l0]) (fun k e hk he => to_252 e (h.2 e he) k (by omega)) k (List.replicate x.length z273) 0 (by omega) (by simp) rfl (by omega)
  simpa using this
def cv269 (x : S269) : S221 := ⟨x.f0, x.f1, x.f2, x.f3, x.f4, x.f5, (x.f6.map cv304), x.f7⟩
def sm221 (x : S221) : Prop := x.f0.size ≤ 1048576 ∧ True ∧ True ∧ True ∧ True ∧ True ∧ (x.f6.length ≤ 1048576 ∧ ∀ e ∈ x.f6, sm273 e) ∧ x.f7.size ≤ 1048576 ∧ True
theorem to_230 (x : S269) (h : sm269 x) (k : Nat) (hk : 2097154 ≤ k) : laws_toReply.f k x = some (cv269 x) := by
  unfold laws_toReply.f
  simp only [to_240 x.f6 h.2.2.2.2.2.2.1 k (by omega), Option.bind_some]
  rfl
theorem smcv269 (x : S269) (h : sm269 x) : sm221 (cv269 x) := ⟨h.1, h.2.1, h.2.2.1, h.2.2.2.1, h.2.2.2.2.1, h.2.2.2.2.2.1, ⟨by show (List.map cv304 _).length ≤ _; rw [List.length_map]; exact h.2.2.2.2.2.2.1.1, fun e he => by
  obtain ⟨a, ha, rfl⟩ := List.mem_map.1 he
  exact smcv304 a (h.2.2.2.2.2.2.1.2 a ha)⟩, h.2.2.2.2.2.2.2.1, trivial⟩
def cv271 (x : S271) : S223 := ⟨x.f0, (cv269 x.f1)⟩
def sm223 (x : S223) : Prop := True ∧ sm221 x.f1 ∧ True
theorem to_216 (x : S271) (h : sm271 x) (k : Nat) (hk : 2097154 ≤ k) : laws_toGot.f k x = some (cv271 x) := by
  unfold laws_toGot.f
  simp only [to_230 x.f1 h.2.1 k (by omega), Option.bind_some]
  rfl
theorem smcv271 (x : S271) (h : sm271 x) : sm223 (cv271 x) := ⟨h.1, smcv269 _ h.2.1, trivial⟩
theorem to_166 (x : (List S271)) (h : (x.length ≤ 1048576 ∧ ∀ e ∈ x, sm271 e)) (k : Nat) (hk : 3145731 ≤ k) : laws_toGotS.f k x = some (x.map cv271) := by
  have hx := h.1
  unfold laws_toGotS.f
  rw [if_pos (by omega), if_pos (by omega)]
  have := to_loop laws_toGotS.l0 rd_T271 (fun k e => laws_toGot.f k e) cv271 x 2097154 hx (rd271 x) (fun k y i => by rw [laws_toGotS.l0]) (fun k e hk he => to_216 e (h.2 e he) k (by omega)) k (List.replicate x.length z223) 0 (by omega) (by simp) rfl (by omega)
  simpa using this
def cv54 (x : S54) : S65 := ⟨x.f0, x.f1, (x.f2.map cv265), (x.f3.map cv271), x.f4⟩
def sm65 (x : S65) : Prop := x.f0.size ≤ 1048576 ∧ True ∧ (x.f2.length ≤ 1048576 ∧ ∀ e ∈ x.f2, sm274 e) ∧ (x.f3.length ≤ 1048576 ∧ ∀ e ∈ x.f3, sm223 e) ∧ (x.f4.length ≤ 1048576 ∧ ∀ e ∈ x.f4, True) ∧ True
theorem to_91 (x : S54) (h : sm54 x) (k : Nat) (hk : 3145731 ≤ k) : laws_toClient.f k x = some (cv54 x) := by
  unfold laws_toClient.f
  simp only [to_165 x.f2 h.2.2.1 k (by omega), to_166 x.f3 h.2.2.2.1 k (by omega), to_93 x.f4 h.2.2.2.2.1 k (by omega), Option.bind_some]
  rfl
theorem smcv54 (x : S54) (h : sm54 x) : sm65 (cv54 x) := ⟨h.1, h.2.1, ⟨by show (List.map cv265 _).length ≤ _; rw [List.length_map]; exact h.2.2.1.1, fun e he => by
  obtain ⟨a, ha, rfl⟩ := List.mem_map.1 he
  exact smcv265 a (h.2.2.1.2 a ha)⟩, ⟨by show (List.map cv271 _).length ≤ _; rw [List.length_map]; exact h.2.2.2.1.1, fun e he => by
  obtain ⟨a, ha, rfl⟩ := List.mem_map.1 he
  exact smcv271 a (h.2.2.2.1.2 a ha)⟩, h.2.2.2.2.1, trivial⟩
def cv214 (x : S214) : S228 := ⟨x.f0, x.f1⟩
def sm228 (x : S228) : Prop := True ∧ x.f1.size ≤ 1048576 ∧ True
theorem to_167 (x : S214) (h : sm214 x) (k : Nat) (hk : 0 ≤ k) : laws_toLetter.f x = some (cv214 x) := by
  unfold laws_toLetter.f
  rfl
theorem smcv214 (x : S214) (h : sm214 x) : sm228 (cv214 x) := ⟨h.1, h.2.1, trivial⟩
theorem to_92 (x : (List S214)) (h : (x.length ≤ 1048576 ∧ ∀ e ∈ x, sm214 e)) (k : Nat) (hk : 1048577 ≤ k) : laws_toLetterS.f k x = some (x.map cv214) := by
  have hx := h.1
  unfold laws_toLetterS.f
  rw [if_pos (by omega), if_pos (by omega)]
  have := to_loop laws_toLetterS.l0 rd_T214 (fun k e => laws_toLetter.f e) cv214 x 0 hx (rd214 x) (fun k y i => by rw [laws_toLetterS.l0]) (fun k e hk he => to_167 e (h.2 e he) k (by omega)) k (List.replicate x.length z228) 0 (by omega) (by simp) rfl (by omega)
  simpa using this
def cv217 (x : S217) : S230 := ⟨x.f0, x.f1⟩
def sm230 (x : S230) : Prop := True ∧ x.f1.size ≤ 1048576 ∧ True
theorem to_168 (x : S217) (h : sm217 x) (k : Nat) (hk : 0 ≤ k) : laws_toPose.f x = some (cv217 x) := by
  unfold laws_toPose.f
  rfl
theorem smcv217 (x : S217) (h : sm217 x) : sm230 (cv217 x) := ⟨h.1, h.2.1, trivial⟩
theorem to_94 (x : (List S217)) (h : (x.length ≤ 1048576 ∧ ∀ e ∈ x, sm217 e)) (k : Nat) (hk : 1048577 ≤ k) : laws_toPoseS.f k x = some (x.map cv217) := by
  have hx := h.1
  unfold laws_toPoseS.f
  rw [if_pos (by omega), if_pos (by omega)]
  have := to_loop laws_toPoseS.l0 rd_T217 (fun k e => laws_toPose.f e) cv217 x 0 hx (rd217 x) (fun k y i => by rw [laws_toPoseS.l0]) (fun k e hk he => to_168 e (h.2 e he) k (by omega)) k (List.replicate x.length z230) 0 (by omega) (by simp) rfl (by omega)
  simpa using this
def cv59 (x : S59) : S69 := ⟨(cv40 x.f0), (cv54 x.f1), (x.f2.map cv88), (x.f3.map cv214), x.f4, (x.f5.map cv217), x.f6, x.f7⟩
def sm69 (x : S69) : Prop := sm46 x.f0 ∧ sm65 x.f1 ∧ (x.f2.length ≤ 1048576 ∧ ∀ e ∈ x.f2, sm91 e) ∧ (x.f3.length ≤ 1048576 ∧ ∀ e ∈ x.f3, sm228 e) ∧ (x.f4.length ≤ 1048576 ∧ ∀ e ∈ x.f4, True) ∧ (x.f5.length ≤ 1048576 ∧ ∀ e ∈ x.f5, sm230 e) ∧ (x.f6.length ≤ 1048576 ∧ ∀ e ∈ x.f6, e.size ≤ 1048576) ∧ (x.f7.length ≤ 1048576 ∧ ∀ e ∈ x.f7, e.size ≤ 1048576) ∧ True
theorem to_23 (x : S59) (h : sm59 x) (k : Nat) (hk : 3145731 ≤ k) : laws_toWorld.f k x = some (cv59 x) := by
  unfold laws_toWorld.f
  simp only [to_18 x.f0 h.1 k (by omega), to_91 x.f1 h.2.1 k (by omega), to_58 x.f2 h.2.2.1 k (by omega), to_92 x.f3 h.2.2.2.1 k (by omega), to_93 x.f4 h.2.2.2.2.1 k (by omega), to_94 x.f5 h.2.2.2.2.2.1 k (by omega), to_95 x.f6 h.2.2.2.2.2.2.1 k (by omega), to_95 x.f7 h.2.2.2.2.2.2.2.1 k (by omega), Option.bind_some]
  rfl
theorem smcv59 (x : S59) (h : sm59 x) : sm69 (cv59 x) := ⟨smcv40 _ h.1, smcv54 _ h.2.1, ⟨by show (List.map cv88 _).length ≤ _; rw [List.length_map]; exact h.2.2.1.1, fun e he => by
  obtain ⟨a, ha, rfl⟩ := List.mem_map.1 he
  exact smcv88 a (h.2.2.1.2 a ha)⟩, ⟨by show (List.map cv214 _).length ≤ _; rw [List.length_map]; exact h.2.2.2.1.1, fun e he => by
  obtain ⟨a, ha, rfl⟩ := List.mem_map.1 he
  exact smcv214 a (h.2.2.2.1.2 a ha)⟩, h.2.2.2.2.1, ⟨by show (List.map cv217 _).length ≤ _; rw [List.length_map]; exact h.2.2.2.2.2.1.1, fun e he => by
  obtain ⟨a, ha, rfl⟩ := List.mem_map.1 he
  exact smcv217 a (h.2.2.2.2.2.1.2 a ha)⟩, h.2.2.2.2.2.2.1, h.2.2.2.2.2.2.2.1, trivial⟩
theorem eq_101 (x : (List Int)) (h : (x.length ≤ 1048576 ∧ ∀ e ∈ x, True)) (k : Nat) (hk : 1048577 ≤ k) : laws_eqIntS.f k x x = some true := by
  have hx := h.1
  unfold laws_eqIntS.f
  rw [if_pos rfl]
  exact eq_loop laws_eqIntS.l0 rd (fun _ _ => some true) x 0 hx (rdI x) (fun k i => by rw [laws_eqIntS.l0]; simp) (fun _ _ _ _ => rfl) k 0 (by omega) (by omega)
theorem eq_103 (x : (List ByteArray)) (h : (x.length ≤ 1048576 ∧ ∀ e ∈ x, e.size ≤ 1048576)) (k : Nat) (hk : 1048577 ≤ k) : laws_eqStringS.f k x x = some true := by
  have hx := h.1
  unfold laws_eqStringS.f
  rw [if_pos rfl]
  exact eq_loop laws_eqStringS.l0 (rdOf ByteArray.empty) (fun _ _ => some true) x 0 hx (rdS x) (fun k i => by rw [laws_eqStringS.l0]; simp) (fun _ _ _ _ => rfl) k 0 (by omega) (by omega)
theorem eq_38 (x : S91) (h : sm91 x) (k : Nat) (hk : 1048577 ≤ k) : laws_eqCert.f k x x = some true := by
  unfold laws_eqCert.f
  simp [eq_101 x.f9 h.2.2.2.2.2.2.2.2.2.1 k (by omega), eq_103 x.f10 h.2.2.2.2.2.2.2.2.2.2.1 k (by omega), eq_103 x.f11 h.2.2.2.2.2.2.2.2.2.2.2.1 k (by omega)]
theorem rd91 (x : List S91) (i : Nat) (h : i < x.length) : rd_T91 x (i : Int) = x[i] := by simp [rd_T91, h]
theorem eq_68 (x : (List S91)) (h : (x.length ≤ 1048576 ∧ ∀ e ∈ x, sm91 e)) (k : Nat) (hk : 2097154 ≤ k) : laws_eqCertS.f k x x = some true := by
  have hx := h.1
  unfold laws_eqCertS.f
  rw [if_pos rfl]
  exact eq_loop laws_eqCertS.l0 rd_T91 (fun k e => laws_eqCert.f k e e) x 1048577 hx (rd91 x) (fun k i => by rw [laws_eqCertS.l0]) (fun k e hk he => eq_38 e (h.2 e he) k (by omega)) k 0 (by omega) (by omega)
theorem eq_179 (x : S238) (h : sm238 x) (k : Nat) (hk : 0 ≤ k) : laws_eqRev.f x x = some true := by
  unfold laws_eqRev.f
  simp []
theorem rd238 (x : List S238) (i : Nat) (h : i < x.length) : rd_T238 x (i : Int) = x[i] := by simp [rd_T238, h]
theorem eq_110 (x : (List S238)) (h : (x.length ≤ 1048576 ∧ ∀ e ∈ x, sm238 e)) (k : Nat) (hk : 1048577 ≤ k) : laws_eqRevS.f k x x = some true := by
  have hx := h.1
  unfold laws_eqRevS.f
  rw [if_pos rfl]
  exact eq_loop laws_eqRevS.l0 rd_T238 (fun k e => laws_eqRev.f e e) x 0 hx (rd238 x) (fun k i => by rw [laws_eqRevS.l0]) (fun k e hk he => eq_179 e (h.2 e he) k (by omega)) k 0 (by omega) (by omega)
theorem eq_30 (x : S81) (h : sm81 x) (k : Nat) (hk : 1048577 ≤ k) : laws_eqCrl.f k x x = some true := by
  unfold laws_eqCrl.f
  simp [eq_110 x.f5 h.2.2.2.2.2.1 k (by omega)]
theorem rd81 (x : List S81) (i : Nat) (h : i < x.length) : rd_T81 x (i : Int) = x[i] := by simp [rd_T81, h]
theorem eq_69 (x : (List S81)) (h : (x.length ≤ 1048576 ∧ ∀ e ∈ x, sm81 e)) (k : Nat) (hk : 2097154 ≤ k) : laws_eqCrlS.f k x x = some true := by
  have hx := h.1
  unfold laws_eqCrlS.f
  rw [if_pos rfl]
  exact eq_loop laws_eqCrlS.l0 rd_T81 (fun k e => laws_eqCrl.f k e e) x 1048577 hx (rd81 x) (fun k i => by rw [laws_eqCrlS.l0]) (fun k e hk he => eq_30 e (h.2 e he) k (by omega)) k 0 (by omega) (by omega)
theorem eq_150 (x : S115) (h : sm115 x) (k : Nat) (hk : 0 ≤ k) : laws_eqAnchor.f x x = some true := by
  unfold laws_eqAnchor.f
  simp []
theorem rd115 (x : List S115) (i : Nat) (h : i < x.length) : rd_T115 x (i : Int) = x[i] := by simp [rd_T115, h]
theorem eq_70 (x : (List S115)) (h : (x.length ≤ 1048576 ∧ ∀ e ∈ x, sm115 e)) (k : Nat) (hk : 1048577 ≤ k) : laws_eqAnchorS.f k x x = some true := by
  have hx := h.1
  unfold laws_eqAnchorS.f
  rw [if_pos rfl]
  exact eq_loop laws_eqAnchorS.l0 rd_T115 (fun k e => laws_eqAnchor.f e e) x 0 hx (rd115 x) (fun k i => by rw [laws_eqAnchorS.l0]) (fun k e hk he => eq_150 e (h.2 e he) k (by omega)) k 0 (by omega) (by omega)
theorem eq_15 (x : S33) (h : sm33 x) (k : Nat) (hk : 2097154 ≤ k) : laws_eqStore.f k x x = some true := by
  unfold laws_eqStore.f
  simp [eq_68 x.f0 h.1 k (by omega), eq_69 x.f1 h.2.1 k (by omega), eq_70 x.f2 h.2.2.1 k (by omega)]
theorem eq_212 (x : S200) (h : sm200 x) (k : Nat) (hk : 1048577 ≤ k) : laws_eqRules.f k x x = some true := by
  unfold laws_eqRules.f
  simp [eq_101 x.f1 h.2.1 k (by omega)]
theorem eq_157 (x : S202) (h : sm202 x) (k : Nat) (hk : 1048577 ≤ k) : laws_eqPlan.f k x x = some true := by
  unfold laws_eqPlan.f
  simp [eq_101 x.f1 h.2.1 k (by omega), eq_212 x.f2 h.2.2.1 k (by omega)]
theorem rd202 (x : List S202) (i : Nat) (h : i < x.length) : rd_T202 x (i : Int) = x[i] := by simp [rd_T202, h]
theorem eq_81 (x : (List S202)) (h : (x.length ≤ 1048576 ∧ ∀ e ∈ x, sm202 e)) (k : Nat) (hk : 2097154 ≤ k) : laws_eqPlanS.f k x x = some true := by
  have hx := h.1
  unfold laws_eqPlanS.f
  rw [if_pos rfl]
  exact eq_loop laws_eqPlanS.l0 rd_T202 (fun k e => laws_eqPlan.f k e e) x 1048577 hx (rd202 x) (fun k i => by rw [laws_eqPlanS.l0]) (fun k e hk he => eq_157 e (h.2 e he) k (by omega)) k 0 (by omega) (by omega)
theorem eq_158 (x : S205) (h : sm205 x) (k : Nat) (hk : 0 ≤ k) : laws_eqKept.f x x = some true := by
  unfold laws_eqKept.f
  simp []
theorem rd205 (x : List S205) (i : Nat) (h : i < x.length) : rd_T205 x (i : Int) = x[i] := by simp [rd_T205, h]
theorem eq_82 (x : (List S205)) (h : (x.length ≤ 1048576 ∧ ∀ e ∈ x, sm205 e)) (k : Nat) (hk : 1048577 ≤ k) : laws_eqKeptS.f k x x = some true := by
  have hx := h.1
  unfold laws_eqKeptS.f
  rw [if_pos rfl]
  exact eq_loop laws_eqKeptS.l0 rd_T205 (fun k e => laws_eqKept.f e e) x 0 hx (rd205 x) (fun k i => by rw [laws_eqKeptS.l0]) (fun k e hk he => eq_158 e (h.2 e he) k (by omega)) k 0 (by omega) (by omega)
theorem eq_20 (x : S46) (h : sm46 x) (k : Nat) (hk : 2097154 ≤ k) : laws_eqServer.f k x x = some true := by
  unfold laws_eqServer.f
  simp [eq_15 x.f0 h.1 k (by omega), eq_81 x.f1 h.2.1 k (by omega), eq_82 x.f5 h.2.2.2.2.2.1 k (by omega)]
theorem eq_218 (x : S274) (h : sm274 x) (k : Nat) (hk : 0 ≤ k) : laws_eqWait.f x x = some true := by
  unfold laws_eqWait.f
  simp []
theorem rd274 (x : List S274) (i : Nat) (h : i < x.length) : rd_T274 x (i : Int) = x[i] := by simp [rd_T274, h]
theorem eq_171 (x : (List S274)) (h : (x.length ≤ 1048576 ∧ ∀ e ∈ x, sm274 e)) (k : Nat) (hk : 1048577 ≤ k) : laws_eqWaitS.f k x x = some true := by
  have hx := h.1
  unfold laws_eqWaitS.f
  rw [if_pos rfl]
  exact eq_loop laws_eqWaitS.l0 rd_T274 (fun k e => laws_eqWait.f e e) x 0 hx (rd274 x) (fun k i => by rw [laws_eqWaitS.l0]) (fun k e hk he => eq_218 e (h.2 e he) k (by omega)) k 0 (by omega) (by omega)
theorem eq_258 (x : S273) (h : sm273 x) (k : Nat) (hk : 1048577 ≤ k) : laws_eqAnswer.f k x x = some true := by
  unfold laws_eqAnswer.f
  simp [eq_103 x.f2 h.2.2.1 k (by omega), eq_103 x.f3 h.2.2.2.1 k (by omega)]
theorem rd273 (x : List S273) (i : Nat) (h : i < x.length) : rd_T273 x (i : Int) = x[i] := by simp [rd_T273, h]
theorem eq_245 (x : (List S273)) (h : (x.length ≤ 1048576 ∧ ∀ e ∈ x, sm273 e)) (k : Nat) (hk : 2097154 ≤ k) : laws_eqAnswerS.f k x x = some true := by
  have hx := h.1
  unfold laws_eqAnswerS.f
  rw [if_pos rfl]
  exact eq_loop laws_eqAnswerS.l0 rd_T273 (fun k e => laws_eqAnswer.f k e e) x 1048577 hx (rd273 x) (fun k i => by rw [laws_eqAnswerS.l0]) (fun k e hk he => eq_258 e (h.2 e he) k (by omega)) k 0 (by omega) (by omega)
theorem eq_232 (x : S221) (h : sm221 x) (k : Nat) (hk : 2097154 ≤ k) : laws_eqReply.f k x x = some true := by
  unfold laws_eqReply.f
  simp [eq_245 x.f6 h.2.2.2.2.2.2.1 k (by omega)]
theorem eq_219 (x : S223) (h : sm223 x) (k : Nat) (hk : 2097154 ≤ k) : laws_eqGot.f k x x = some true := by
  unfold laws_eqGot.f
  simp [eq_232 x.f1 h.2.1 k (by omega)]
theorem rd223 (x : List S223) (i : Nat) (h : i < x.length) : rd_T223 x (i : Int) = x[i] := by simp [rd_T223, h]
theorem eq_172 (x : (List S223)) (h : (x.length ≤ 1048576 ∧ ∀ e ∈ x, sm223 e)) (k : Nat) (hk : 3145731 ≤ k) : laws_eqGotS.f k x x = some true := by
  have hx := h.1
  unfold laws_eqGotS.f
  rw [if_pos rfl]
  exact eq_loop laws_eqGotS.l0 rd_T223 (fun k e => laws_eqGot.f k e e) x 2097154 hx (rd223 x) (fun k i => by rw [laws_eqGotS.l0]) (fun k e hk he => eq_219 e (h.2 e he) k (by omega)) k 0 (by omega) (by omega)
theorem eq_99 (x : S65) (h : sm65 x) (k : Nat) (hk : 3145731 ≤ k) : laws_eqClient.f k x x = some true := by
  unfold laws_eqClient.f
  simp [eq_171 x.f2 h.2.2.1 k (by omega), eq_172 x.f3 h.2.2.2.1 k (by omega), eq_101 x.f4 h.2.2.2.2.1 k (by omega)]
theorem eq_173 (x : S228) (h : sm228 x) (k : Nat) (hk : 0 ≤ k) : laws_eqLetter.f x x = some true := by
  unfold laws_eqLetter.f
  simp []
theorem rd228 (x : List S228) (i : Nat) (h : i < x.length) : rd_T228 x (i : Int) = x[i] := by simp [rd_T228, h]
theorem eq_100 (x : (List S228)) (h : (x.length ≤ 1048576 ∧ ∀ e ∈ x, sm228 e)) (k : Nat) (hk : 1048577 ≤ k) : laws_eqLetterS.f k x x = some true := by
  have hx := h.1
  unfold laws_eqLetterS.f
  rw [if_pos rfl]
  exact eq_loop laws_eqLetterS.l0 rd_T228 (fun k e => laws_eqLetter.f e e) x 0 hx (rd228 x) (fun k i => by rw [laws_eqLetterS.l0]) (fun k e hk he => eq_173 e (h.2 e he) k (by omega)) k 0 (by omega) (by omega)
theorem eq_174 (x : S230) (h : sm230 x) (k : Nat) (hk : 0 ≤ k) : laws_eqPose.f x x = some true := by
  unfold laws_eqPose.f
  simp []
theorem rd230 (x : List S230) (i : Nat) (h : i < x.length) : rd_T230 x (i : Int) = x[i] := by simp [rd_T230, h]
theorem eq_102 (x : (List S230)) (h : (x.length ≤ 1048576 ∧ ∀ e ∈ x, sm230 e)) (k : Nat) (hk : 1048577 ≤ k) : laws_eqPoseS.f k x x = some true := by
  have hx := h.1
  unfold laws_eqPoseS.f
  rw [if_pos rfl]
  exact eq_loop laws_eqPoseS.l0 rd_T230 (fun k e => laws_eqPose.f e e) x 0 hx (rd230 x) (fun k i => by rw [laws_eqPoseS.l0]) (fun k e hk he => eq_174 e (h.2 e he) k (by omega)) k 0 (by omega) (by omega)
theorem eq_25 (x : S69) (h : sm69 x) (k : Nat) (hk : 3145731 ≤ k) : laws_eqWorld.f k x x = some true := by
  unfold laws_eqWorld.f
  simp [eq_20 x.f0 h.1 k (by omega), eq_99 x.f1 h.2.1 k (by omega), eq_68 x.f2 h.2.2.1 k (by omega), eq_100 x.f3 h.2.2.2.1 k (by omega), eq_101 x.f4 h.2.2.2.2.1 k (by omega), eq_102 x.f5 h.2.2.2.2.2.1 k (by omega), eq_103 x.f6 h.2.2.2.2.2.2.1 k (by omega), eq_103 x.f7 h.2.2.2.2.2.2.2.1 k (by omega)]
end Go.Proofs.YtacocpknielofaaGreatDoor.FamFnExactShowWorld
