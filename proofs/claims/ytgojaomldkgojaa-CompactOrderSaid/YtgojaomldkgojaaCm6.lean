import Derived.Test.YtgojaomldkgojaaCm5
namespace Go.Proofs.Ytgojaomldkgojaa.Cm
set_option linter.unusedVariables false
set_option linter.unusedSimpArgs false
open Go.RowKit Go.Maps Go.Sort Go.Proofs.YtgojaomldkgojaaW.PrintWords Go.Proofs.YtgojaomldkgojaaW.PrintLast Go.Proofs.YtgojaomldkgojaaW.PrintMore Go.Proofs.Ytgojaomldkgojaa.PCm Go.Proofs.Ytgojaomldkgojaa.Wire
/-- the last place of a key holds its last record -/
theorem lastOf_ix (l : List Rc) (k : List UInt8) : ∀ n, n ≤ l.length → (∃ j, j < n ∧ (l.getD j z32).f2.toList = k) → lastOf kL (l.take n) k = some (l.getD (lastIx l n k).toNat z32) := by
  intro n
  induction n with
  | zero => rintro _ ⟨j, hj, _⟩; omega
  | succ n ih =>
    rintro hn ⟨j, hj, e⟩
    have hg : l.getD n z32 = l[n] := by rw [List.getD_eq_getElem?_getD, List.getElem?_eq_getElem (by omega)]; rfl
    rw [List.take_succ_eq_append_getElem (by omega), last_append]
    rw [lastIx]
    by_cases hk : (l.getD n z32).f2.toList = k
    · have h1 : lastOf kL [l[n]] k = some l[n] := by
        show (if kL l[n] = k then some l[n] else none) = _
        rw [if_pos (by rw [← hg]; exact hk)]
      rw [h1, if_pos hk, Int.toNat_natCast, hg]
    · have h1 : lastOf kL [l[n]] k = none := by
        show (if kL l[n] = k then some l[n] else none) = _
        rw [if_neg (by rw [← hg]; exact hk)]
      have hjn : j < n := by
        rcases Nat.lt_or_ge j n with h | h
        · exact h
        · obtain rfl : j = n := by omega
          exact absurd e hk
      rw [h1, if_neg hk]
      exact ih (by omega) ⟨j, hjn, e⟩
theorem view_mem (l : List Rc) (S : List (List UInt8)) (hS : ∀ x, x ∈ S ↔ ∃ j, ∃ (hj : j < l.length), kL l[j] = x ∧ x ≠ []) (z : Rc) : z ∈ S.filterMap (pickV l) ↔ z ∈ liveL kL [] (·.f4) l := by
  have hlast : ∀ k, k ∈ S → lastOf kL l k = some (l.getD (lastIx l l.length k).toNat z32) := by
    intro k hk
    obtain ⟨j, hj, e, hne⟩ := (hS k).1 hk
    have := lastOf_ix l k l.length (Nat.le_refl _) ⟨j, hj, by rw [List.getD_eq_getElem?_getD, List.getElem?_eq_getElem hj]; exact e⟩
    rw [List.take_length] at this
    exact this
  rw [List.mem_filterMap, live_mem]
  constructor
  · rintro ⟨k, hk, hp⟩
    have h1 := hlast k hk
    unfold pickV at hp
    split at hp
    · cases hp
    · rename_i hg
      obtain rfl := Option.some.inj hp
      have h2 := (last_key kL l k _ h1).1
      obtain ⟨j, hj, e, hne⟩ := (hS k).1 hk
      exact ⟨by rw [h2]; exact hne, by simpa using hg, by rw [h2]; exact h1⟩
  · rintro ⟨h1, h2, h3⟩
    have hm := (last_key kL l _ z h3).2
    obtain ⟨j, hj, e⟩ := List.getElem_of_mem hm
    have hk : kL z ∈ S := (hS _).2 ⟨j, hj, by rw [e], h1⟩
    refine ⟨kL z, hk, ?_⟩
    have h4 := hlast _ hk
    rw [h3] at h4
    unfold pickV
    rw [← Option.some.inj h4, if_neg (by rw [h2]; decide)]
end Go.Proofs.Ytgojaomldkgojaa.Cm
