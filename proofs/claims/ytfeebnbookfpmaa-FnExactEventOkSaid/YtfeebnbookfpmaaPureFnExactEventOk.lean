/- The statement FnExactEventOk, as numbers and lists: for every event the program's EventOk and the reference's give the same. No condition. -/
import Derived.Test.YtfeebnbookfpmaaSaidFnExactEventOk
namespace Go.Proofs.Ytfeebnbookfpmaa.PureFnExactEventOk
open Go.RowKit Go.Proofs.YtfeebnbookfpmaaW.PrintWords Go.Proofs.YtfeebnbookfpmaaW.PrintLast Go.Proofs.Ytfeebnbookfpmaa.ZOpen Go.Proofs.Ytfeebnbookfpmaa.PFnExactEventOk
open Go.Proofs.Ytfeebnbookfpmaa.SaidFnExactEventOk

theorem size_nil (s : ByteArray) (h : s.toList = []) : s.size = 0 := by
  have : s.data.toList = [] := by rw [← h]; exact (ByteArray.toList_eq s).symm
  have := congrArg List.length this
  simpa using this

theorem pure : Pure := by
  intro a b c d ha hb hc hd
  refine ⟨1, ?_⟩
  have e : ∀ x : Bool, (spec_EventOk.f 1 a b c d = some x) → impl_EventOk.f a b c d = some x → laws_FnExactEventOk.f 1 a b c d = some true := by
    intro x h1 h2
    unfold laws_FnExactEventOk.f laws_szEvent.f laws_toEvent.f
    simp only [Option.bind_some, h1, h2, bne_self_eq_false]
    split <;> simp
  have hs : (d.toList = []) → (d.size : Int) ≤ 80 := fun h => by rw [size_nil d h]; decide
  refine e (decide (1 ≤ a ∧ a ≤ 10 ∧ 0 ≤ b ∧ 0 ≤ c ∧ (d.size : Int) ≤ 80 ∧ (a = 7 ∨ d.toList = []))) ?_ ?_
  · unfold spec_EventOk.f spec_l01In.f
    by_cases h1 : a ≥ 1
    · rw [if_pos h1]
      simp only [Option.bind_some]
      by_cases h2 : a ≤ 10
      · rw [if_pos (decide_eq_true h2)]
        by_cases h3 : b < 0
        · rw [if_pos h3]
          simp only [spec_EventOk.j0]
          simp
          omega
        · rw [if_neg h3]
          by_cases h4 : c < 0
          · simp only [spec_EventOk.j0, h4, decide_true]
            simp
            omega
          · simp only [spec_EventOk.j0, h4, decide_false]
            rw [if_neg (by decide)]
            by_cases h5 : a = 7
            · rw [if_pos h5]
              exact congrArg some (decide_eq_decide.2 ⟨fun h => ⟨by omega, by omega, by omega, by omega, h, .inl h5⟩, fun h => h.2.2.2.2.1⟩)
            · rw [if_neg h5]
              by_cases h6 : d.toList = []
              · have := hs h6
                simp [h5, h6, this]
                omega
              · simp [h5, h6]
      · rw [if_neg (by simpa using h2)]
        simp only [spec_EventOk.j0]
        simp
        omega
    · rw [if_neg h1]
      simp only [Option.bind_some, spec_EventOk.j0]
      simp
      omega
  · unfold impl_EventOk.f impl_within.f
    by_cases h1 : a ≥ 1
    · rw [if_pos h1]
      simp only [Option.bind_some]
      by_cases h2 : a ≤ 10
      · rw [if_pos (decide_eq_true h2)]
        by_cases h3 : b ≥ 0
        · rw [if_pos h3]
          by_cases h4 : c ≥ 0
          · rw [if_pos h4]
            by_cases h5 : (d.size : Int) ≤ 80
            · rw [if_pos h5]
              by_cases h6 : a = 7
              · rw [if_pos h6]
                simp [h6]
                omega
              · rw [if_neg h6]
                by_cases h7 : d.toList = []
                · simp [h6, h7]
                  omega
                · simp [h6, h7]
            · rw [if_neg h5]
              simp
              omega
          · rw [if_neg h4]
            simp
            omega
        · rw [if_neg h3]
          simp
          omega
      · rw [if_neg (by simpa using h2)]
        simp
        omega
    · rw [if_neg h1]
      simp only [Option.bind_some]
      simp
      omega

end Go.Proofs.Ytfeebnbookfpmaa.PureFnExactEventOk
