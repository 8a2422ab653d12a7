import Derived.Test.YtlgihjhlkpmpnaaRWireQc
import Derived.Deep.Slices
import Derived.Deep.Fields
import Derived.SizedLaws
import Derived.ChangeSame
namespace Go.Proofs.Ytlgihjhlkpmpnaa.Wire
set_option linter.unusedVariables false
set_option linter.unusedSimpArgs false
open Go.RowKit Go.Deep Go.ChangeShapes Go.WideShapes Go.Proofs.YtlgihjhlkpmpnaaW.PrintWords Go.Proofs.YtlgihjhlkpmpnaaW.PrintLast Go.Proofs.YtlgihjhlkpmpnaaW.PrintMore Go.Proofs.Ytlgihjhlkpmpnaa.PWire
/-- whole numbers that come in, opened -/
theorem ints_open {H : Type} {enc : TypeId × Value → H} {W : World} {base : Nat} {sp : Nat → Bool} {held : Bool} {fuel : Nat} {A : Option Addr} {n k : Nat} {x : DataW H × List MemPlace} (h : DataW.trod enc Try.prog W base sp held fuel 36 [.slice A n k] = some x) (hz : (x.1.weights Try.prog 36).all (· ≤ reachBytes) = true) :
    ∃ l : List Int, Ints W A n l := by
  have cI : Try.prog.cellsOf 3 = 1 := by kernel_rfl
  rcases open_slice Try.underlying36 h with ⟨hcs, _⟩ | ⟨a', len, cap, m, fu, D, Pl, hcs, _, hl, hm, hmm, hx0, hx⟩
  · simp at hcs
    obtain ⟨rfl, rfl, rfl⟩ := hcs
    exact ⟨[], rfl, Nat.zero_le _, fun i h => absurd h (Nat.not_lt_zero _)⟩
  · simp at hcs
    obtain ⟨rfl, rfl, rfl⟩ := hcs
    have hml : n ≤ m := by
      rw [hmm]
      split
      · exact hl
      · exact Nat.le_refl _
    have each : ∀ i, i < n → ∃ r : Int, W.cell? (a'.add i) = some (.int .i64 r) := by
      intro i hi
      obtain ⟨cs', h1, h2⟩ := hx i (by omega)
      rw [cI] at h1
      obtain ⟨_, hlen, hcell⟩ := World.cells?_some h1
      obtain ⟨x0, e0, _⟩ := DataW.trod_int Try.underlying3 h2
      have h3 := hcell 0 (by decide)
      rw [e0, Nat.mul_one, Go.Deep.add_add, Nat.add_zero] at h3
      exact ⟨x0, h3.trans rfl⟩
    obtain ⟨r, hr⟩ := choose_lt each
    have hlr : ((List.range n).map r).length = n := by simp
    have hmax : maxLen ≤ 9223372036854775807 := by unfold maxLen; omega
    refine ⟨(List.range n).map r, hlr, by omega, fun i h => ⟨a', rfl, ?_⟩⟩
    have e : ((List.range n).map r)[i] = r i := by simp
    rw [e]
    exact hr i (by omega)
end Go.Proofs.Ytlgihjhlkpmpnaa.Wire
