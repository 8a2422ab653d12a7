import Derived.Test.YteopponjfkeagaaPolM
import Derived.Test.YteopponjfkeagaaPolH
namespace Go.Proofs.Yteopponjfkeagaa.Lat
open Go.RowKit Go.Maps Go.Proofs.YteopponjfkeagaaW.PrintWords Go.Proofs.YteopponjfkeagaaW.PrintLast Go.Proofs.YteopponjfkeagaaW.PrintMore Go.Proofs.Yteopponjfkeagaa.PPol
set_option linter.unusedVariables false

theorem pspend_walk {A A1 : Option Addr} {c n m c1 : Nat} (f : List (List Bool)) (l : List S58) (hn : Aside0 (f.length = n)) (hm : Aside0 (l.length = m)) (w : World) (hC : Kd.C (Kd.slice 4 Kd.bool) w A n f) (hc : n ≤ c) (hC1 : Kd.C k58 w A1 m l) (hc1 : m ≤ c1) (a2 : Option Addr) (len2 cap2 : Nat) (z2 : List Int) (w2 : (a2 = none ∧ len2 = 0 ∧ cap2 = 0 ∧ z2 = []) ∨ ∃ x, a2 = some x ∧ len2 ≤ cap2 ∧ cap2 ≤ maxLen ∧ z2.length = cap2 ∧ (∀ i, i < z2.length → w.cell? (x.add i) = some (.int .i64 (z2.getD i 0))) ∧ ∀ n ∈ z2, (Lit.int .i64 n).wf = true) :
    Calls Try.prog 9 #[.slice A n c, .slice A1 m c1, .slice a2 len2 cap2] w fun e w' => e = .returned (.bool true) ∧ Below w.heap.size w w' := by
  obtain ⟨q, rfl, hr0, hm0, hw0, hc0⟩ := ReadsInt.ofRowC w2
  exact pspend_core f l q hn hm ⟨rfl⟩ ⟨hw0⟩ w hC hc hC1 hc1 (Kd.C_of_reads (d := (0 : Int)) (h1 := fun _ => rfl) hr0) hc0
end Go.Proofs.Yteopponjfkeagaa.Lat
