import Derived.Test.YtgojaomldkgojaaPCmx1
import Derived.Deep.Slices
import Derived.Deep.Fields
import Derived.SizedLaws
import Derived.ChangeSame
namespace Go.Proofs.Ytgojaomldkgojaa.Cm
set_option linter.unusedVariables false
set_option linter.unusedSimpArgs false
open Go.RowKit Go.Deep Go.ChangeShapes Go.WideShapes Go.Proofs.YtgojaomldkgojaaW.PrintWords Go.Proofs.YtgojaomldkgojaaW.PrintLast Go.Proofs.YtgojaomldkgojaaW.PrintMore Go.Proofs.Ytgojaomldkgojaa.PCm
instance : Inhabited S32 := ⟨z32⟩
theorem list8 {α : Type} {l : List α} (h : l.length = 8) : ∃ a b c d e f g i, l = [a, b, c, d, e, f, g, i] := by
  match l, h with
  | [a, b, c, d, e, f, g, i], _ => exact ⟨a, b, c, d, e, f, g, i, rfl⟩
/-- records that come in, opened -/
theorem recs_open {H : Type} {enc : TypeId × Value → H} {W : World} {base : Nat} {sp : Nat → Bool} {held : Bool} {fuel : Nat} {A : Option Addr} {n k : Nat} {x : DataW H × List MemPlace} (h : DataW.trod enc Try.prog W base sp held fuel 22 [.slice A n k] = some x) (hz : (x.1.weights Try.prog 22).all (· ≤ reachBytes) = true) :
    ∃ l : List S32, l.length = n ∧ n ≤ k ∧ Kd.C k32 W A n l := by
  have cR : Try.prog.cellsOf 32 = 8 := by kernel_rfl
  have cI : Try.prog.cellsOf 3 = 1 := by kernel_rfl
  have cS : Try.prog.cellsOf 9 = 1 := by kernel_rfl
  have cB : Try.prog.cellsOf 4 = 1 := by kernel_rfl
  rcases open_slice Try.underlying22 h with ⟨hcs, _⟩ | ⟨a', len, cap, m, fu, D, Pl, hcs, _, hl, hm, hmm, hx0, hx⟩
  · simp at hcs
    obtain ⟨rfl, rfl, rfl⟩ := hcs
    exact ⟨[], rfl, Nat.le_refl _, Kd.C_nil _ _⟩
  · simp at hcs
    obtain ⟨rfl, rfl, rfl⟩ := hcs
    have hml : n ≤ m := by
      rw [hmm]
      split
      · exact hl
      · exact Nat.le_refl _
    have each : ∀ i, i < n → ∃ r : S32, ∀ j u, [Value.int .i64 r.f0, .int .i64 r.f1, .string r.f2, .string r.f3, .bool r.f4, .int .i64 r.f5, .int .i64 r.f6, .int .i64 r.f7][j]? = some u → W.cell? (a'.add (i * 8 + j)) = some u := by
      intro i hi
      obtain ⟨cs', h1, h2⟩ := hx i (by omega)
      rw [cR] at h1
      obtain ⟨_, hlen, hcell⟩ := World.cells?_some h1
      obtain ⟨xs, k, hk, hxy, _, hxl, hf⟩ := DataW.trod_struct Try.underlying32 h2
      obtain ⟨v0, v1, v2, v3, v4, v5, v6, v7, rfl⟩ := list8 hlen
      obtain ⟨y0, y1, y2, y3, y4, y5, y6, y7, rfl⟩ := list8 hxl
      have g0 := hf 0 _ rfl
      have g1 := hf 1 _ rfl
      have g2 := hf 2 _ rfl
      have g3 := hf 3 _ rfl
      have g4 := hf 4 _ rfl
      have g5 := hf 5 _ rfl
      have g6 := hf 6 _ rfl
      have g7 := hf 7 _ rfl
      simp [cI, cS, cB] at g0 g1 g2 g3 g4 g5 g6 g7
      obtain ⟨x0, e0, _⟩ := DataW.trod_int Try.underlying3 g0
      obtain rfl := (List.cons.inj e0).1
      obtain ⟨x1, e1, _⟩ := DataW.trod_int Try.underlying3 g1
      obtain rfl := (List.cons.inj e1).1
      obtain ⟨x2, e2, _⟩ := DataW.trod_string Try.underlying9 g2
      obtain rfl := (List.cons.inj e2).1
      obtain ⟨x3, e3, _⟩ := DataW.trod_string Try.underlying9 g3
      obtain rfl := (List.cons.inj e3).1
      obtain ⟨x4, e4, _⟩ := DataW.trod_bool Try.underlying4 g4
      obtain rfl := (List.cons.inj e4).1
      obtain ⟨x5, e5, _⟩ := DataW.trod_int Try.underlying3 g5
      obtain rfl := (List.cons.inj e5).1
      obtain ⟨x6, e6, _⟩ := DataW.trod_int Try.underlying3 g6
      obtain rfl := (List.cons.inj e6).1
      obtain ⟨x7, e7, _⟩ := DataW.trod_int Try.underlying3 g7
      obtain rfl := (List.cons.inj e7).1
      refine ⟨⟨x0, x1, x2, x3, x4, x5, x6, x7⟩, fun j u hu => ?_⟩
      have hj : j < 8 := (List.getElem?_eq_some_iff.1 hu).1
      have h9 := hcell j hj
      rw [Go.Deep.add_add] at h9
      rw [h9]
      exact hu
    obtain ⟨r, hr⟩ := choose_lt each
    have hlr : ((List.range n).map r).length = n := by simp
    have hmax : maxLen ≤ 9223372036854775807 := by unfold maxLen; omega
    refine ⟨(List.range n).map r, hlr, hl, hlr, by omega, fun hn => ⟨a', rfl, fun j p hj => ?_⟩⟩
    have hjl : j < n := by
      have := (List.getElem?_eq_some_iff.1 hj).1
      simpa using this
    obtain rfl : p = r j := by
      rw [List.getElem?_map, List.getElem?_range hjl] at hj
      exact (Option.some.inj hj).symm
    exact ⟨_, rfl, k32_mk _ _, fun i u hu => hr j hjl i u hu⟩
end Go.Proofs.Ytgojaomldkgojaa.Cm
