import Derived.Test.YtohhlkabejangaaAs12
import Derived.Deep.Slices
import Derived.Deep.Fields
import Derived.SizedLaws
import Derived.ChangeSame
namespace Go.Proofs.Ytohhlkabejangaa.As
set_option linter.unusedVariables false
set_option linter.unusedSimpArgs false
open Go.RowKit Go.Deep Go.ChangeShapes Go.WideShapes Go.Proofs.YtohhlkabejangaaW.PrintWords Go.Proofs.YtohhlkabejangaaW.PrintLast Go.Proofs.YtohhlkabejangaaW.PrintMore Go.Proofs.Ytohhlkabejangaa.PAs
/-- texts that come in, opened -/
theorem strs_open {H : Type} {enc : TypeId × Value → H} {W : World} {base : Nat} {sp : Nat → Bool} {held : Bool} {fuel : Nat} {A : Option Addr} {n k : Nat} {x : DataW H × List MemPlace} (h : DataW.trod enc Try.prog W base sp held fuel 22 [.slice A n k] = some x) (hz : (x.1.weights Try.prog 22).all (· ≤ reachBytes) = true) :
    ∃ l : List ByteArray, Ss k W A n l := by
  have cS : Try.prog.cellsOf 9 = 1 := by kernel_rfl
  rcases open_slice Try.underlying22 h with ⟨hcs, _⟩ | ⟨a', len, cap, m, fu, D, Pl, hcs, _, hl, hm, hmm, hx0, hx⟩
  · simp at hcs
    obtain ⟨rfl, rfl, rfl⟩ := hcs
    exact ⟨[], rfl, Nat.le_refl _, Kd.C_nil _ _⟩
  · simp at hcs
    obtain ⟨rfl, rfl, rfl⟩ := hcs
    have hml : n ≤ m := by
      rw [hmm]
      split
      · exact hl
      · exact Nat.le_refl _
    have each : ∀ i, i < n → ∃ r : ByteArray, W.cell? (a'.add i) = some (.string r) := by
      intro i hi
      obtain ⟨cs', h1, h2⟩ := hx i (by omega)
      rw [cS] at h1
      obtain ⟨_, hlen, hcell⟩ := World.cells?_some h1
      obtain ⟨x0, e0, _⟩ := DataW.trod_string Try.underlying9 h2
      have h3 := hcell 0 (by decide)
      rw [e0, Nat.mul_one, Go.Deep.add_add, Nat.add_zero] at h3
      exact ⟨x0, h3.trans rfl⟩
    obtain ⟨r, hr⟩ := choose_lt each
    have hlr : ((List.range n).map r).length = n := by simp
    have hmax : maxLen ≤ 9223372036854775807 := by unfold maxLen; omega
    refine ⟨(List.range n).map r, hlr, hl, hlr, by omega, fun _ => ⟨a', rfl, fun j p hj => ?_⟩⟩
    have hjn : j < n := by
      have := (List.getElem?_eq_some_iff.1 hj).1
      omega
    have e : p = r j := by
      rw [List.getElem?_map, List.getElem?_range hjn] at hj
      simpa using hj.symm
    refine ⟨[.string p], rfl, rfl, fun i u hu => ?_⟩
    have hi : i < 1 := (List.getElem?_eq_some_iff.1 hu).1
    obtain rfl : i = 0 := by omega
    have hu' : u = .string p := by simpa using hu.symm
    rw [hu', e]
    show W.cell? (a'.add (j * 1 + 0)) = _
    rw [Nat.mul_one, Nat.add_zero]
    exact hr j hjn
end Go.Proofs.Ytohhlkabejangaa.As
