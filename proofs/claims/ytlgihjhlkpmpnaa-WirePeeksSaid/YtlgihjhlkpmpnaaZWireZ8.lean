import Derived.Test.YtlgihjhlkpmpnaaZWireZA
namespace Go.Proofs.Ytlgihjhlkpmpnaa.Wire
set_option linter.unusedVariables false
set_option linter.unusedSimpArgs false
open Go.RowKit Go.Proofs.YtlgihjhlkpmpnaaW.PrintWords Go.Proofs.YtlgihjhlkpmpnaaW.PrintLast Go.Proofs.YtlgihjhlkpmpnaaW.PrintMore Go.Proofs.Ytlgihjhlkpmpnaa.Hand Go.Proofs.Ytlgihjhlkpmpnaa.PWire Go.Proofs.Ytlgihjhlkpmpnaa.PureNums
/-- the reference's clean pairs, of any kind -/
theorem cleanV_all {x : Rq} {A : Option Addr} {k : Nat} {l : List S102} {w : World} (hp : Prs w A l.length k l) : ∃ B m, cleanV x (.slice A l.length k) = .slice B (pairsL l (lets (formF x.kind))).length m ∧ Kd.C k102 w B (pairsL l (lets (formF x.kind))).length (pairsL l (lets (formF x.kind))) := by
  by_cases h : 1 ≤ x.kind ∧ x.kind ≤ 12
  · exact cleanV_reads hp h.1 h.2
  · have hne : lets (formF x.kind) = [] := Decidable.byContradiction fun e => h (form_kind _ e)
    have e : pairsL l (lets (formF x.kind)) = [] := by rw [hne]; rfl
    rw [e]
    exact ⟨none, 0, by unfold cleanV; rw [if_neg (by omega)]; rfl, Kd.C_nil _ _⟩
/-- the bytes of what may be are of five more than its fields -/
theorem encS_size (x : Rq) (l : List S102) : (encS x l).size = 5 + (bodyOf x l).size := by
  have h := enc_split x l ⟨#[]⟩
  have e : encS x l ++ (⟨#[]⟩ : ByteArray) = encS x l := ByteArray.append_empty
  rw [e] at h
  rw [h, ByteArray.size_append, ByteArray.size_append, strOfNums_size]
  have z : (⟨#[]⟩ : ByteArray).size = 0 := rfl
  simp only [List.length_cons, List.length_nil, z]
  omega
theorem enc_three (x : Rq) (l : List S102) : (mayB x l = false ∧ encW x l = (⟨#[]⟩, 1)) ∨ (mayB x l = true ∧ 1000 < (encS x l).size ∧ encW x l = (⟨#[]⟩, 2)) ∨ (mayB x l = true ∧ (encS x l).size ≤ 1000 ∧ encW x l = (encS x l, 0)) := by
  have hz := encS_size x l
  unfold encW
  by_cases hm : mayB x l = true
  · rw [if_pos hm]
    by_cases h : 5 + (bodyOf x l).size > 1000
    · rw [if_pos h]; exact .inr (.inl ⟨hm, by omega, rfl⟩)
    · rw [if_neg h]; exact .inr (.inr ⟨hm, by omega, rfl⟩)
  · rw [if_neg hm]; exact .inl ⟨by simpa using hm, rfl⟩
end Go.Proofs.Ytlgihjhlkpmpnaa.Wire
