import Derived.Test.YtlgihjhlkpmpnaaZWireReq
import Derived.Test.YtlgihjhlkpmpnaaZWireW7
namespace Go.Proofs.Ytlgihjhlkpmpnaa.Wire
set_option linter.unusedVariables false
set_option linter.unusedSimpArgs false
open Go.RowKit Go.Deep Go.ChangeShapes Go.WideShapes Go.Proofs.YtlgihjhlkpmpnaaW.PrintWords Go.Proofs.YtlgihjhlkpmpnaaW.PrintLast Go.Proofs.YtlgihjhlkpmpnaaW.PrintMore Go.Proofs.Ytlgihjhlkpmpnaa.PWire
instance : Inhabited RP := ⟨⟨rq0 0 0, none, 0, []⟩⟩
theorem weights_all {H : Type} {P : Program} {e : TypeId} : ∀ {ds : List (DataW H)} {d : DataW H}, d ∈ ds → ∀ q ∈ d.weights P e, q ∈ DataW.weightsAll P e ds
  | a :: ds, d, h, q, hq => by
    rw [DataW.weightsAll, List.mem_append]
    rcases List.mem_cons.1 h with rfl | h
    · exact .inl hq
    · exact .inr (weights_all h q hq)
/-- requests that come in, opened -/
theorem reqs_open {H : Type} {enc : TypeId × Value → H} {W : World} {base : Nat} {sp : Nat → Bool} {held : Bool} {fuel : Nat} {A : Option Addr} {n k : Nat} {x : DataW H × List MemPlace} (h : DataW.trod enc Try.prog W base sp held fuel 37 [.slice A n k] = some x) (hz : (x.1.weights Try.prog 37).all (· ≤ reachBytes) = true) :
    ∃ rs : List RP, Rqs W A n rs := by
  rcases open_slice Try.underlying37 h with ⟨hcs, _⟩ | ⟨a', len, cap, m, fu, D, Pl, hcs, _, hl, hm, hmm, hx0, hx⟩
  · simp at hcs
    obtain ⟨rfl, rfl, rfl⟩ := hcs
    exact ⟨[], rfl, Nat.zero_le _, fun i h => absurd h (Nat.not_lt_zero _), fun i h => absurd h (Nat.not_lt_zero _)⟩
  · simp at hcs
    obtain ⟨rfl, rfl, rfl⟩ := hcs
    have hml : n ≤ m := by
      rw [hmm]
      split
      · exact hl
      · exact Nat.le_refl _
    have each : ∀ i, i < n → ∃ r : RP, (∀ (j : Nat) (u : Value), r.cs[j]? = some u → W.cell? ((a'.add (i * 20)).add j) = some u) ∧ Prs W r.A r.l.length r.k r.l ∧ r.l.length ≤ r.k := by
      intro i hi
      obtain ⟨cs', h1, h2⟩ := hx i (by omega)
      rw [cRq] at h1
      obtain ⟨_, hlen, hcell⟩ := World.cells?_some h1
      have hzi : ((D i).weights Try.prog 45).all (· ≤ reachBytes) = true := by
        rw [List.all_eq_true] at hz ⊢
        intro q hq
        refine hz q ?_
        rw [hx0]
        simp only [DataW.weights, Try.underlying37]
        refine List.mem_cons_of_mem _ (List.mem_append_left _ (weights_all (d := D i) ?_ q hq))
        exact List.mem_map.2 ⟨i, List.mem_range.2 hi, rfl⟩
      obtain ⟨y, B, m', l, e, hk, hp⟩ := req_open h2 hzi
      refine ⟨⟨y, B, m', l⟩, fun j u hu => ?_, hp, hk⟩
      have hj : j < 20 := (Array.getElem?_eq_some_iff.1 hu).1
      rw [hcell j hj, e]
      rw [← hu]
      exact Array.getElem?_toList
    obtain ⟨r, hr⟩ := choose_lt each
    have hlr : ((List.range n).map r).length = n := by simp
    have hmax : maxLen ≤ 9223372036854775807 := by unfold maxLen; omega
    refine ⟨(List.range n).map r, hlr, by omega, fun i h => ⟨a', rfl, ?_⟩, fun i h => ?_⟩
    · have e : ((List.range n).map r)[i] = r i := by simp
      rw [e]
      exact (hr i (by omega)).1
    · have e : ((List.range n).map r)[i] = r i := by simp
      rw [e]
      exact (hr i (by omega)).2
end Go.Proofs.Ytlgihjhlkpmpnaa.Wire
