import Derived.Test.YtgojaomldkgojaaCm3
namespace Go.Proofs.Ytgojaomldkgojaa.Cm
set_option linter.unusedVariables false
set_option linter.unusedSimpArgs false
open Go.RowKit Go.Maps Go.Proofs.YtgojaomldkgojaaW.PrintWords Go.Proofs.YtgojaomldkgojaaW.PrintLast Go.Proofs.YtgojaomldkgojaaW.PrintMore Go.Proofs.Ytgojaomldkgojaa.PCm Go.Proofs.Ytgojaomldkgojaa.Wire
theorem mem_insert' {H : Type} (a : Lit × DataW H) : ∀ (es : List (Lit × DataW H)) (p : Lit × DataW H), p ∈ DataW.insert a es ↔ p = a ∨ p ∈ es
  | [], p => by simp [DataW.insert]
  | q :: es, p => by
    unfold DataW.insert
    split
    · simp
    · rw [List.mem_cons, mem_insert' a es p, List.mem_cons]
      constructor
      · rintro (h | h | h)
        · exact .inr (.inl h)
        · exact .inl h
        · exact .inr (.inr h)
      · rintro (h | h | h)
        · exact .inr (.inl h)
        · exact .inl h
        · exact .inr (.inr h)
def keyLit (r : Rc) : Lit := .string r.f2.data.toList
/-- the keys that the datum has are the records' -/
theorem dat_keys (l : List Rc) (i : Nat) (hi : i ≤ l.length) : ∃ es, dat l i = .map es ∧ (∀ p ∈ es, ∃ j, j < i ∧ p.1 = keyLit (l.getD j z32) ∧ kL (l.getD j z32) ≠ []) ∧ (∀ j, j < i → kL (l.getD j z32) ≠ [] → ∃ p ∈ es, p.1 = keyLit (l.getD j z32)) := by
  induction i with
  | zero => exact ⟨[], rfl, fun p hp => absurd hp (by simp), fun j hj => absurd hj (Nat.not_lt_zero _)⟩
  | succ i ih =>
    obtain ⟨es, he, h1, h2⟩ := ih (by omega)
    by_cases h0 : (l.getD i z32).f2.toList = []
    · refine ⟨es, ?_, fun p hp => ?_, fun j hj hk => ?_⟩
      · unfold dat
        rw [if_pos h0, he]
      · obtain ⟨j, hj, h⟩ := h1 p hp
        exact ⟨j, by omega, h⟩
      · rcases Nat.lt_or_ge j i with hlt | hge
        · exact h2 j hlt hk
        · obtain rfl : j = i := by omega
          exact absurd h0 hk
    · refine ⟨DataW.insert (keyLit (l.getD i z32), .lit (.int .i64 (i : Int))) (es.filter fun p => !p.1.sameKey (keyLit (l.getD i z32))), ?_, fun p hp => ?_, fun j hj hk => ?_⟩
      · show (if (l.getD i z32).f2.toList = [] then dat l i else (dat l i).put (keyLit (l.getD i z32)) _) = _
        rw [if_neg h0, he]
        rfl
      · rcases (mem_insert' _ _ p).1 hp with rfl | hp
        · exact ⟨i, by omega, rfl, h0⟩
        · obtain ⟨j, hj, h⟩ := h1 p (List.mem_filter.1 hp).1
          exact ⟨j, by omega, h⟩
      · have hone : ∃ p ∈ DataW.insert (keyLit (l.getD i z32), DataW.lit (.int .i64 (i : Int))) (es.filter fun p => !p.1.sameKey (keyLit (l.getD i z32))), p.1 = keyLit (l.getD i z32) := ⟨_, (mem_insert' _ _ _).2 (.inl rfl), rfl⟩
        rcases Nat.lt_or_ge j i with hlt | hge
        · obtain ⟨p, hp, e⟩ := h2 j hlt hk
          by_cases hs : p.1.sameKey (keyLit (l.getD i z32)) = true
          · have e2 : keyLit (l.getD j z32) = keyLit (l.getD i z32) := by
              rw [e] at hs
              exact WideAt.sameKey_eq hs
            rw [e2]
            exact hone
          · exact ⟨p, (mem_insert' _ _ _).2 (.inr (List.mem_filter.2 ⟨hp, by simpa using hs⟩)), e⟩
        · obtain rfl : j = i := by omega
          exact hone
end Go.Proofs.Ytgojaomldkgojaa.Cm
