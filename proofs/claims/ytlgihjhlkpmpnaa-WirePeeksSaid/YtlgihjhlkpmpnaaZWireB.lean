import Derived.Test.YtlgihjhlkpmpnaaZWireA2
import Derived.WalkSpells
namespace Go.Proofs.Ytlgihjhlkpmpnaa.Wire
set_option linter.unusedVariables false
set_option linter.unusedSimpArgs false
open Go.RowKit Go.Proofs.YtlgihjhlkpmpnaaW.PrintWords Go.Proofs.YtlgihjhlkpmpnaaW.PrintLast Go.Proofs.YtlgihjhlkpmpnaaW.PrintMore Go.Proofs.Ytlgihjhlkpmpnaa.PWire

theorem k102_M_of_K {w0 w : World} {base : Nat} (x : S102) (cs : List Value) (h : k102.K w0 x cs) : k102.M w base (fun _ => False) x cs := by
  obtain rfl := k102_open h
  exact k102_mkM w base _ x
set_option maxHeartbeats 4000000 in
set_option maxRecDepth 100000 in
theorem clone_calls (A : Option Addr) (n c : Nat) (l : List S102) (w : World) (hC : Kd.C k102 w A n l) (hA : A = none → c = 0) (hb : n * 40 ≤ 140737488355328) :
    Calls Try.prog 66 #[.slice A n c] w fun e w' => ∃ u, e = .returned u ∧ Kd.R k102 102 w' w.heap.size (fun _ => True) u l ∧ Below w.heap.size w w' := by
  have hl := Kd.C_len hC
  cases A with
  | none =>
    have hc0 := hA rfl
    subst hc0
    have h0 : n = 0 := by
      rcases Nat.eq_zero_or_pos n with h0 | h0
      · exact h0
      · obtain ⟨ad, h, _⟩ := hC.2.2 h0
        cases h
    subst h0
    obtain rfl : l = [] := List.eq_nil_of_length_eq_zero hl
    clear hC hA hl hb
    go_enter Try.func66, Try.ntmps66
    have hnil := fun W : World => Lib.run_eql_slice_nil (P := Try.prog) W 43 102 none 0 0 0 0 Try.underlying43
    go_wp2
    go_ret
    exact ⟨_, rfl, Kd.R_nil _ _ _ _ _, Below.refl _ _⟩
  | some ad =>
    have HC := Aside0.mk hC
    have hC0 := HC
    have HB := Aside0.mk hb
    clear hC hb hl hA
    go_enter Try.func66, Try.ntmps66
    have hnil := fun W : World => Lib.run_eql_slice_nil (P := Try.prog) W 43 102 (some ad) n c 0 0 Try.underlying43
    have HL := Aside0.mk (Kd.C_len hC0.out)
    have hown : Kd.R k102 102 (w.alloc (.cells #[] 102)) w.heap.size (fun _ => True) (.slice (some ⟨w.heap.size, 0, none⟩) 0 0) [] := by
      refine ⟨fun _ _ => trivial, [], ⟨rfl, .inr ⟨w.heap.size, 0, #[], rfl, Nat.le_refl _, heap_alloc_new w _, Nat.le_refl _, by decide, rfl, rfl⟩⟩, Reps.none _ _⟩
    have HO := Aside0.mk hown
    clear hown
    go_wp2_with (at_builtin; refine Aside0.out ?_)
    constructor
    refine Kd.R_append_rows k102 (w0 := w) (base := w.heap.size) rfl _ _ 43 102 (.agg #[(.string ⟨#[]⟩), (.string ⟨#[]⟩), (.bool false)]) 40 rfl Try.underlying43 info102 rfl (by decide) (by decide) _ [] l (some ad) n c (fun _ => True) (fun _ => False) rfl rfl HO.out (Kd.C_alloc HC.out _) (fun x cs h => k102_M_of_K x cs h) (fun _ h => h.elim) (fun _ _ => trivial) ((Below.refl _ _).alloc (Nat.le_refl _) _) (by simp) (by simpa using HB.out) ?_
    intro v1 w1 hr1 hb1 hg1 hat1
    go_wp2
    go_ret
    exact ⟨_, rfl, hr1, hb1⟩
end Go.Proofs.Ytlgihjhlkpmpnaa.Wire
