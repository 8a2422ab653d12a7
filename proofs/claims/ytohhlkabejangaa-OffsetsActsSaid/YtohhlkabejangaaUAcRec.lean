import Derived.Test.YtohhlkabejangaaUOf17
import Derived.Deep.Slices
import Derived.Deep.Fields
import Derived.SizedLaws
import Derived.ChangeSame
-- halved
namespace Go.Proofs.Ytohhlkabejangaa.Of
set_option linter.unusedVariables false
set_option linter.unusedSimpArgs false
open Go.RowKit Go.Deep Go.ChangeShapes Go.WideShapes Go.Proofs.YtohhlkabejangaaW.PrintWords Go.Proofs.YtohhlkabejangaaW.PrintLast Go.Proofs.YtohhlkabejangaaW.PrintMore Go.Proofs.Ytohhlkabejangaa.POf
abbrev Ac := S81
instance : Inhabited Ac := ⟨z81⟩
def i64B (x : Int) : Prop := -9223372036854775808 ≤ x ∧ x ≤ 9223372036854775807
structure Kc where
 f0 : ByteArray
 f1 : ByteArray
 f2 : Int
def okKc (y : Kc) : Prop := i64B y.f2
def okAc (y : Ac) : Prop := i64B y.f2.f1.f1
def Ac.cs (r : Ac) : Array Value := #[.int .i64 r.f0, .int .i64 r.f1, .string r.f2.f0, .string r.f2.f1.f0, .int .i64 r.f2.f1.f1, .int .i64 r.f3.f0, .string r.f3.f1]
theorem wf_rng {n : Int} (h : (Lit.int .i64 n).wf = true) : i64B n := by simpa [Lit.wf, IntKind.min, IntKind.max, IntKind.signed, IntKind.bits, i64B] using h
theorem lst2 {α : Type} {l : List α} (h : l.length = 2) : ∃ a b, l = [a, b] := by
 match l, h with
 | [a, b], _ => exact ⟨a, b, rfl⟩
theorem lst3 {α : Type} {l : List α} (h : l.length = 3) : ∃ a b c, l = [a, b, c] := by
 match l, h with
 | [a, b, c], _ => exact ⟨a, b, c, rfl⟩
theorem lst7 {α : Type} {l : List α} (h : l.length = 7) : ∃ a b c d e f g, l = [a, b, c, d, e, f, g] := by
 match l, h with
 | [a, b, c, d, e, f, g], _ => exact ⟨a, b, c, d, e, f, g, rfl⟩
section
variable {H : Type} {enc : TypeId × Value → H} {W : World} {base : Nat} {sp : Nat → Bool} {held : Bool}
theorem cInt : Try.prog.cellsOf 3 = 1 := by kernel_rfl
theorem cS1 : Try.prog.cellsOf 9 = 1 := by kernel_rfl
theorem cPl : Try.prog.cellsOf 72 = 2 := by kernel_rfl
theorem cKy : Try.prog.cellsOf 74 = 3 := by kernel_rfl
theorem cFr : Try.prog.cellsOf 79 = 2 := by kernel_rfl
theorem cAc : Try.prog.cellsOf 81 = 7 := by kernel_rfl
set_option maxRecDepth 100000 in
theorem key_open {fuel : Nat} {cs : List Value} {x : DataW H × List MemPlace} (h : DataW.trod enc Try.prog W base sp held fuel 74 cs = some x) :
  ∃ y : Kc, cs = (#[.string y.f0, .string y.f1, .int .i64 y.f2] : Array Value).toList ∧ okKc y := by
 obtain ⟨xs, n, _, hx, hlen, hxl, hf⟩ := DataW.trod_struct Try.underlying74 h
 rw [cKy] at hlen
 obtain ⟨v0, v1, v2, rfl⟩ := lst3 hlen
 obtain ⟨y0, y1, rfl⟩ := lst2 hxl
 have g0 := hf 0 _ rfl
 have g1 := hf 1 _ rfl
 simp [cS1, cPl] at g0 g1
 obtain ⟨xs1, m1, _, _, _, hl1, hf1⟩ := DataW.trod_struct Try.underlying72 g1
 obtain ⟨za, zb, rfl⟩ := lst2 hl1
 have g1a := hf1 0 _ rfl
 have g1b := hf1 1 _ rfl
 simp [cS1, cInt] at g1a g1b
 obtain ⟨x0, e0, _⟩ := DataW.trod_string Try.underlying9 g0
 obtain rfl := (List.cons.inj e0).1
 obtain ⟨x1, e1, _⟩ := DataW.trod_string Try.underlying9 g1a
 obtain rfl := (List.cons.inj e1).1
 obtain ⟨x2, e2, _, hw⟩ := DataW.trod_int Try.underlying3 g1b
 obtain rfl := (List.cons.inj e2).1
 exact ⟨⟨x0, x1, x2⟩, rfl, wf_rng hw⟩
set_option maxRecDepth 100000 in
set_option maxHeartbeats 2000000 in
theorem ac_open {fuel : Nat} {cs : List Value} {x : DataW H × List MemPlace} (h : DataW.trod enc Try.prog W base sp held fuel 81 cs = some x) :
  ∃ y : Ac, cs = (#[.int .i64 y.f0, .int .i64 y.f1, .string y.f2.f0, .string y.f2.f1.f0, .int .i64 y.f2.f1.f1, .int .i64 y.f3.f0, .string y.f3.f1] : Array Value).toList ∧ okAc y := by
 obtain ⟨xs, n, _, hx, hlen, hxl, hf⟩ := DataW.trod_struct Try.underlying81 h
 rw [cAc] at hlen
 obtain ⟨v0, v1, v2, v3, v4, v5, v6, rfl⟩ := lst7 hlen
 match xs, hxl, hf with
 | [y0, y1, y2, y3], _, hf =>
  have g0 := hf 0 _ rfl
  have g1 := hf 1 _ rfl
  have g2 := hf 2 _ rfl
  have g3 := hf 3 _ rfl
  simp [cInt, cKy, cFr] at g0 g1 g2 g3
  obtain ⟨⟨k0, k1, k2⟩, ek, hk⟩ := key_open g2
  obtain ⟨xs1, m1, _, _, _, hl1, hf1⟩ := DataW.trod_struct Try.underlying79 g3
  obtain ⟨za, zb, rfl⟩ := lst2 hl1
  have g3a := hf1 0 _ rfl
  have g3b := hf1 1 _ rfl
  simp [cS1, cInt] at g3a g3b
  obtain ⟨x0, e0, _⟩ := DataW.trod_int Try.underlying3 g0
  obtain rfl := (List.cons.inj e0).1
  obtain ⟨x1, e1, _⟩ := DataW.trod_int Try.underlying3 g1
  obtain rfl := (List.cons.inj e1).1
  obtain ⟨x2, e2, _⟩ := DataW.trod_int Try.underlying3 g3a
  obtain rfl := (List.cons.inj e2).1
  obtain ⟨x3, e3, _⟩ := DataW.trod_string Try.underlying9 g3b
  obtain rfl := (List.cons.inj e3).1
  simp at ek
  obtain ⟨rfl, rfl, rfl⟩ := ek
  exact ⟨⟨x0, x1, ⟨k0, ⟨k1, k2⟩⟩, ⟨x2, x3⟩⟩, rfl, hk⟩
def Acs (k : Nat) (W : World) (A : Option Addr) (n : Nat) (l : List Ac) : Prop := l.length = n ∧ n ≤ k ∧ Kd.C k81 W A n l ∧ ∀ r ∈ l, okAc r
theorem acts_open {fuel : Nat} {A : Option Addr} {n k : Nat} {x : DataW H × List MemPlace} (h : DataW.trod enc Try.prog W base sp held fuel 70 [.slice A n k] = some x) (hz : (x.1.weights Try.prog 70).all (· ≤ reachBytes) = true) :
  ∃ l : List Ac, Acs k W A n l := by
 rcases open_slice Try.underlying70 h with ⟨hcs, _⟩ | ⟨a', len, cap, m, fu, D, Pl, hcs, _, hl, hm, hmm, hx0, hx⟩
 ·simp at hcs
  obtain ⟨rfl, rfl, rfl⟩ := hcs
  exact ⟨[], rfl, Nat.le_refl _, Kd.C_nil _ _, fun r h => by cases h⟩
 ·simp at hcs
  obtain ⟨rfl, rfl, rfl⟩ := hcs
  have hml : n ≤ m := by
   rw [hmm]
   split
   ·exact hl
   ·exact Nat.le_refl _
  have each : ∀ i, i < n → ∃ r : Ac, (∀ j u, r.cs.toList[j]? = some u → W.cell? (a'.add (i * 7 + j)) = some u) ∧ okAc r := by
   intro i hi
   obtain ⟨cs', h1, h2⟩ := hx i (by omega)
   rw [cAc] at h1
   obtain ⟨_, hlen, hcell⟩ := World.cells?_some h1
   obtain ⟨y, rfl, hy⟩ := ac_open h2
   refine ⟨y, fun j u hu => ?_, hy⟩
   have hj : j < 7 := by
    have := (List.getElem?_eq_some_iff.1 hu).1
    simpa [Ac.cs] using this
   have h9 := hcell j hj
   rw [Go.Deep.add_add] at h9
   rw [h9]
   exact hu
  obtain ⟨r, hr⟩ := choose_lt each
  have hlr : ((List.range n).map r).length = n := by simp
  have hmax : maxLen ≤ 9223372036854775807 := by unfold maxLen; omega
  refine ⟨(List.range n).map r, hlr, hl, ⟨hlr, by omega, fun hn => ⟨a', rfl, fun j p hj => ?_⟩⟩, fun q hq => ?_⟩
  ·have hjl : j < n := by
    have := (List.getElem?_eq_some_iff.1 hj).1
    simpa using this
   obtain rfl : p = r j := by
    rw [List.getElem?_map, List.getElem?_range hjl] at hj
    exact (Option.some.inj hj).symm
   exact ⟨_, rfl, k81_mk _ _, fun i u hu => (hr j hjl).1 i u hu⟩
  ·obtain ⟨i, hi, rfl⟩ := List.mem_map.1 hq
   exact (hr i (List.mem_range.1 hi)).2
end
end Go.Proofs.Ytohhlkabejangaa.Of
