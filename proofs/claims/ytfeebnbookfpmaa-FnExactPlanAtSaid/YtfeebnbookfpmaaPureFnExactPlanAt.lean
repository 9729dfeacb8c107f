/- The statement FnExactPlanAt, as numbers and lists: the program's PlanAt and the reference's find the same place. -/
import Derived.Test.YtfeebnbookfpmaaSaidFnExactPlanAt
import Derived.Test.YtfeebnbookfpmaaZPure
namespace Go.Proofs.Ytfeebnbookfpmaa.PureFnExactPlanAt
open Go.RowKit Go.Proofs.YtfeebnbookfpmaaW.PrintWords Go.Proofs.YtfeebnbookfpmaaW.PrintLast Go.Proofs.Ytfeebnbookfpmaa.ZOpen Go.Proofs.Ytfeebnbookfpmaa.Z Go.Proofs.Ytfeebnbookfpmaa.F
open Go.Proofs.Ytfeebnbookfpmaa.SaidFnExactPlanAt Go.Proofs.Ytfeebnbookfpmaa.ZP

theorem rdi (x : List Int) (i : Nat) (h : i < x.length) : rd x (i : Int) = x[i] := by simp [rd, h]
theorem rd92 (x : List S92) (i : Nat) (h : i < x.length) : rd_T92 x (i : Int) = x[i] := by simp [rd_T92, h]
theorem rd96 (x : List S96) (i : Nat) (h : i < x.length) : rd_T96 x (i : Int) = x[i] := by simp [rd_T96, h]

theorem toInts (x : List Int) (hx : x.length ≤ 1048576) (k : Nat) (hk : 1048576 < k) : laws_toIntS.f k x = some x := by
  unfold laws_toIntS.f
  rw [if_pos (by omega), if_pos (by omega)]
  have := to_loop laws_toIntS.l0 rd (fun _ e => some e) id x 0 hx (rdi x) (fun k y i => by rw [laws_toIntS.l0]; rfl) (fun _ _ _ _ => rfl) k (List.replicate x.length 0) 0 (by omega) (by simp) rfl (by omega)
  simpa using this
def cvR (a : S31) : S34 := ⟨a.f0, a.f1, a.f2, a.f3, a.f4⟩
def cvP (a : S92) : S96 := ⟨a.f0, a.f1, cvR a.f2⟩
def small (a : S92) : Prop := a.f1.length ≤ 1048576 ∧ a.f2.f1.length ≤ 1048576
theorem toPlan (a : S92) (h : small a) (k : Nat) (hk : 1048577 ≤ k) : laws_toPlan.f k a = some (cvP a) := by
  unfold laws_toPlan.f laws_toRules.f
  simp only [toInts a.f1 h.1 k hk, toInts a.f2.f1 h.2 k hk, Option.bind_some]
  rfl
theorem toPlans (x : List S92) (hx : x.length ≤ 1048576) (hs : ∀ a ∈ x, small a) (k : Nat) (hk : 2097153 < k) : laws_toPlanS.f k x = some (x.map cvP) := by
  unfold laws_toPlanS.f
  rw [if_pos (by omega), if_pos (by omega)]
  exact to_loop laws_toPlanS.l0 rd_T92 laws_toPlan.f cvP x 1048577 hx (rd92 x) (fun k y i => by rw [laws_toPlanS.l0]) (fun k e hk he => toPlan e (hs e he) k hk) k (List.replicate x.length z96) 0 (by omega) (by simp) rfl (by omega)

theorem eqInts (x : List Int) (hx : x.length ≤ 1048576) (k : Nat) (hk : 1048576 < k) : laws_eqIntS.f k x x = some true := by
  unfold laws_eqIntS.f
  rw [if_pos rfl]
  exact eq_loop laws_eqIntS.l0 rd (fun _ _ => some true) x 0 hx (rdi x) (fun k i => by rw [laws_eqIntS.l0]; simp) (fun _ _ _ _ => rfl) k 0 (by omega) (by omega)
theorem eqPlan (a : S92) (h : small a) (k : Nat) (hk : 1048577 ≤ k) : laws_eqPlan.f k (cvP a) (cvP a) = some true := by
  unfold laws_eqPlan.f laws_eqRules.f
  have h1 := eqInts a.f1 h.1 k hk
  have h2 := eqInts a.f2.f1 h.2 k hk
  simp [cvP, cvR, h1, h2]
theorem eqPlans (x : List S92) (hx : x.length ≤ 1048576) (hs : ∀ a ∈ x, small a) (k : Nat) (hk : 2097153 < k) : laws_eqPlanS.f k (x.map cvP) (x.map cvP) = some true := by
  unfold laws_eqPlanS.f
  rw [if_pos rfl]
  have hl : (x.map cvP).length = x.length := List.length_map _
  exact eq_loop laws_eqPlanS.l0 rd_T96 (fun k e => laws_eqPlan.f k e e) (x.map cvP) 1048577 (by omega) (rd96 _) (fun k i => by rw [laws_eqPlanS.l0]) (fun k e hk he => by
    obtain ⟨a, ha, rfl⟩ := List.mem_map.1 he
    exact eqPlan a (hs a ha) k hk) k 0 (by omega) (by omega)

theorem szInts (l : List Int) (hl : l.length ≤ maxLen) (b : Int) (h0 : 0 ≤ b) (h1 : b ≤ 1048576) : ∃ n, laws_szIntS.f l b = some n ∧ n ≤ b ∧ (0 ≤ n → l.length ≤ 1048576) := by
  have hm : maxLen = 9223372036854775807 := rfl
  have e : wrap64 (b - (l.length : Int)) = b - (l.length : Int) := by unfold wrap64; omega
  unfold laws_szIntS.f
  rw [e]
  split
  · exact ⟨-1, rfl, by omega, fun h => by omega⟩
  · exact ⟨_, rfl, by omega, fun h => by omega⟩
theorem szPlan (a : S92) (ha : ok92 a) (b : Int) (h0 : 0 ≤ b) (h1 : b ≤ 1048576) : ∃ n, laws_szPlan.f a b = some n ∧ n ≤ b ∧ (0 ≤ n → small a) := by
  obtain ⟨n, e1, n1, n2⟩ := szInts a.f1 ha.2.1.1 b h0 h1
  unfold laws_szPlan.f laws_szRules.f
  rw [e1, Option.bind_some]
  by_cases c : n < 0
  · rw [if_pos c]; exact ⟨-1, rfl, by omega, fun h => by omega⟩
  · rw [if_neg c]
    obtain ⟨m, e2, m1, m2⟩ := szInts a.f2.f1 ha.2.2.2.1.1 n (by omega) (by omega)
    rw [e2, Option.bind_some]
    by_cases c2 : m < 0
    · rw [if_pos c2, Option.bind_some, if_pos (by decide)]; exact ⟨-1, rfl, by omega, fun h => by omega⟩
    · rw [if_neg c2, Option.bind_some, if_neg c2]; exact ⟨m, rfl, by omega, fun h => ⟨n2 (by omega), m2 h⟩⟩
theorem szPlans (l : List S92) (hl : okList ok92 l) (k : Nat) (hk : 1048577 < k) : ∃ n, laws_szPlanS.f k l 1048576 = some n ∧ (0 ≤ n → l.length ≤ 1048576 ∧ ∀ a ∈ l, small a) := by
  have h1 : l.length ≤ maxLen := hl.1
  have hm : maxLen = 9223372036854775807 := rfl
  have e : wrap64 (1048576 - (l.length : Int)) = 1048576 - (l.length : Int) := by unfold wrap64; omega
  unfold laws_szPlanS.f
  rw [e]
  by_cases c : 1048576 - (l.length : Int) < 0
  · rw [if_pos c]; exact ⟨-1, rfl, fun h => by omega⟩
  · rw [if_neg c]
    obtain ⟨n, n1, n2, n3⟩ := sz_loop laws_szPlanS.l0 rd_T92 (fun _ e b => laws_szPlan.f e b) small l 0 (by omega) (rd92 l) (fun k b i => by rw [laws_szPlanS.l0]) (fun k e b _ he h0 h1 => szPlan e (hl.2 e he) b h0 h1) k (1048576 - (l.length : Int)) 0 (by omega) (by omega) (by omega) (by omega)
    refine ⟨n, n1, fun h => ⟨by omega, fun a ha => ?_⟩⟩
    obtain ⟨j, hj, rfl⟩ := List.getElem_of_mem ha
    exact n3 h j hj (by omega)

theorem same (x : List S96) (d : Int) : ∀ k i, spec_PlanAt.l0 k i x d = impl_Plan_0.l0 k i x d
  | 0, _ => rfl
  | k + 1, i => by
    rw [spec_PlanAt.l0, impl_Plan_0.l0]
    simp only [impl_PlanAt_1_0.f, Option.bind_some, same x d k, beq_iff_eq]
theorem ends (x : List S96) (d : Int) (hx : x.length ≤ 1048576) : ∀ k (i : Int), 0 ≤ i → ((x.length : Int) - i).toNat < k → ∃ v, spec_PlanAt.l0 k i x d = some v
  | 0, _, _, h => absurd h (Nat.not_lt_zero _)
  | k + 1, i, h0, h => by
    rw [spec_PlanAt.l0]
    by_cases c1 : i < (x.length : Int)
    · have e1 : wrap64 (i + 1) = i + 1 := w64 (by omega) (by omega)
      rw [if_pos c1, if_pos h0, if_pos c1, e1]
      split
      · exact ⟨_, rfl⟩
      · exact ends x d hx k (i + 1) (by omega) (by omega)
    · rw [if_neg c1]; exact ⟨_, rfl⟩

theorem pure : Pure := by
  intro l d hl hd
  obtain ⟨k, hk⟩ : ∃ k, k = 4194304 := ⟨_, rfl⟩
  refine ⟨k, ?_⟩
  obtain ⟨n, e1, e2⟩ := szPlans l hl k (by omega)
  unfold laws_FnExactPlanAt.f
  rw [e1, Option.bind_some]
  by_cases c : n < 0
  · rw [if_pos c]
  · rw [if_neg c]
    obtain ⟨hn, hs⟩ := e2 (by omega)
    have hlm : (l.map cvP).length = l.length := List.length_map _
    obtain ⟨v, hv⟩ := ends (l.map cvP) d (by omega) k 0 (by omega) (by omega)
    have hv' := hv
    rw [same] at hv'
    unfold spec_PlanAt.f impl_PlanAt.f impl_Plan_0.f
    simp [toPlans l hn hs k (by omega), hv, hv', eqPlans l hn hs k (by omega)]
end Go.Proofs.Ytfeebnbookfpmaa.PureFnExactPlanAt
