import Derived.Test.YtlgihjhlkpmpnaaQWirePe
import Derived.Deep.Slices
import Derived.Deep.Fields
import Derived.SizedLaws
import Derived.ChangeSame
-- halved
namespace Go.Proofs.Ytlgihjhlkpmpnaa.Wire
set_option linter.unusedVariables false
set_option linter.unusedSimpArgs false
open Go.RowKit Go.Deep Go.ChangeShapes Go.WideShapes Go.Proofs.YtlgihjhlkpmpnaaW.PrintWords Go.Proofs.YtlgihjhlkpmpnaaW.PrintLast Go.Proofs.YtlgihjhlkpmpnaaW.PrintMore Go.Proofs.Ytlgihjhlkpmpnaa.PWire
instance : Inhabited AP := ⟨⟨⟨#[]⟩, 0⟩⟩
theorem list2a {α : Type} {l : List α} (h : l.length = 2) : ∃ a b, l = [a, b] := by
 match l, h with
 | [a, b], _ => exact ⟨a, b, rfl⟩
/-- calls that come in, opened -/
theorem acts_open {H : Type} {enc : TypeId × Value → H} {W : World} {base : Nat} {sp : Nat → Bool} {held : Bool} {fuel : Nat} {A : Option Addr} {n k : Nat} {x : DataW H × List MemPlace} (h : DataW.trod enc Try.prog W base sp held fuel 22 [.slice A n k] = some x) (hz : (x.1.weights Try.prog 22).all (· ≤ reachBytes) = true) :
  ∃ l : List AP, Acts W A n l := by
 have cAc : Try.prog.cellsOf 30 = 2 := by kernel_rfl
 have cI : Try.prog.cellsOf 3 = 1 := by kernel_rfl
 have cS : Try.prog.cellsOf 9 = 1 := by kernel_rfl
 rcases open_slice Try.underlying22 h with ⟨hcs, _⟩ | ⟨a', len, cap, m, fu, D, Pl, hcs, _, hl, hm, hmm, hx0, hx⟩
 ·simp at hcs
  obtain ⟨rfl, rfl, rfl⟩ := hcs
  exact ⟨[], rfl, Nat.zero_le _, fun i h => absurd h (Nat.not_lt_zero _)⟩
 ·simp at hcs
  obtain ⟨rfl, rfl, rfl⟩ := hcs
  have hml : n ≤ m := by
   rw [hmm]
   split
   ·exact hl
   ·exact Nat.le_refl _
  have each : ∀ i, i < n → ∃ r : AP, ∀ (j : Nat) (u : Value), (#[.string r.s, .int .i64 r.n] : Array Value)[j]? = some u → W.cell? ((a'.add (i * 2)).add j) = some u := by
   intro i hi
   obtain ⟨cs', h1, h2⟩ := hx i (by omega)
   rw [cAc] at h1
   obtain ⟨_, hlen, hcell⟩ := World.cells?_some h1
   obtain ⟨xs, k, hk, hxy, _, hxl, hf⟩ := DataW.trod_struct Try.underlying30 h2
   obtain ⟨v0, v1, rfl⟩ := list2a hlen
   obtain ⟨y0, y1, rfl⟩ := list2a hxl
   have g0 := hf 0 _ rfl
   have g1 := hf 1 _ rfl
   simp [cS, cI] at g0 g1
   obtain ⟨x0, e0, _⟩ := DataW.trod_string Try.underlying9 g0
   obtain ⟨x1, e1, _⟩ := DataW.trod_int Try.underlying3 g1
   simp only [List.cons.injEq, and_true] at e0 e1
   subst e0 e1
   refine ⟨⟨x0, x1⟩, fun j u hu => ?_⟩
   have hj : j < 2 := (Array.getElem?_eq_some_iff.1 hu).1
   rw [hcell j hj, ← hu]
   exact Array.getElem?_toList
  obtain ⟨r, hr⟩ := choose_lt each
  have hlr : ((List.range n).map r).length = n := by simp
  have hmax : maxLen ≤ 9223372036854775807 := by unfold maxLen; omega
  refine ⟨(List.range n).map r, hlr, by omega, fun i h => ⟨a', rfl, ?_⟩⟩
  have e : ((List.range n).map r)[i] = r i := by simp
  rw [e]
  exact hr i (by omega)
end Go.Proofs.Ytlgihjhlkpmpnaa.Wire
