import Derived.Test.YtohhlkabejangaaRows
import Derived.Test.YtohhlkabejangaaUOf22
import Derived.WalkKit
import Derived.ProofKit
import Derived.OpenShut
import Derived.ShutString
import Derived.ChangeOld
import Derived.Below
import Derived.SizedLaws
-- halved
namespace Go.Proofs.Ytohhlkabejangaa.offsetsActs
open Go.ChangeShapes Go.WideShapes Go.ChangeAt Go.RowKit
open Go.ChangeMaps (open_string shut_string)
set_option linter.unusedVariables false
theorem laidOut : laidOutB Try.prog = true := by kernel_rfl
theorem own : ownKnob Try.prog.godebug = none := by kernel_rfl
set_option maxRecDepth 100000 in
theorem lifted (os : Os) (started : os.Started) (H : Type) (enc : TypeId × Value → H) :
  ReturnsInHanded {} Try.checked os 10 .any (Rows.offsetsActsSpec.pre6 enc Try.prog Try.f10 Rows.offsetsActsRow.domain false) (Rows.offsetsActsSpec.post enc Try.prog Try.f10 false true false false) := by
 refine returnsInHanded_of_change_sized (C := Try.checked) own started (by kernel_rfl) Try.func10
  (ChangeSpec.witness6 (enc := enc) (C := Try.checked) false ⟨#[], #[.slice none 0 0, .agg #[.string ByteArray.empty, .string ByteArray.empty, .int .i64 0]], []⟩ 8 (by kernel_rfl) (by kernel_rfl) (by kernel_rfl) (by kernel_rfl)) ?_
 intro W base args ds gs before hval0 hW hcnd hsz0 _
 have hval : ∀ (j : Nat) t v, Try.f10.params[j]? = some t → args[j]? = some v → Value.okWide Try.prog W .any base t v := hval0
 have hsz : (DataW.weightsEach Try.prog (Try.f10.params.toList ++ Rows.offsetsActsSpec.plain.varTypes Try.prog) (ds ++ gs)).all (· ≤ reachBytes) = true := hsz0
 have hW' := hW
 obtain ⟨p, q, hA0, hV, rfl, hfz, hnd⟩ := hW
 have hA : DataW.TrodAll enc Try.prog W 0 (fun _ => true) true Try.f10.params.toList args.toList ds p := hA0
 rw [Try.params10] at hA hval hsz
 obtain ⟨v0, vs0, d0, ds0, p0, q0, hargs, rfl, rfl, h0, r0⟩ := trodAll_cons hA
 obtain ⟨v1, vs1, d1, ds1, p1, q1, rfl, rfl, rfl, h1, r1⟩ := trodAll_cons r0
 obtain ⟨rfl, rfl, rfl⟩ := trodAll_nil r1
 obtain rfl : args = #[v0, v1] := by cases args; simp_all
 obtain ⟨rfl, rfl⟩ := trodVars_none hV
 have k0 := h0
 have lt0 : ∀ x ∈ p0, x.block < W.heap.size := by obtain ⟨m, hm⟩ := k0; exact DataW.trod_lt m _ _ _ hm
 obtain ⟨A0, n0, m0, rfl⟩ := okWide_slice Try.underlying70 (hval 0 70 v0 rfl rfl)
 have z0 : (d0.weights Try.prog 70).all (· ≤ reachBytes) = true := List.all_eq_true.2 fun q hq => List.all_eq_true.1 hsz _ (DataW.weights_mem_each (j := 0) rfl rfl q hq)
 obtain ⟨l0, hp0⟩ : ∃ l : List Of.Ac, Of.Acs m0 W A0 n0 l := by
  obtain ⟨fuel, hf⟩ := h0
  exact Of.acts_open hf z0
 clear h0 z0
 have k1 := h1
 have lt1 : ∀ x ∈ p1, x.block < W.heap.size := by obtain ⟨m, hm⟩ := k1; exact DataW.trod_lt m _ _ _ hm
 obtain ⟨cs1, rfl, _⟩ := okWide_struct Try.underlying74 (hval 1 74 v1 rfl rfl)
 obtain ⟨y1, e1, hp1⟩ : ∃ y1 : Of.Kc, cs1.toList = (#[.string y1.f0, .string y1.f1, .int .i64 y1.f2] : Array Value).toList ∧ Of.okKc y1 := by
  obtain ⟨fuel, hf⟩ := h1
  exact Of.key_open hf
 obtain rfl : cs1 = #[.string y1.f0, .string y1.f1, .int .i64 y1.f2] := Array.ext' e1
 clear h1 e1
 clear hA0 hval0 hsz0 hsz
 refine (Go.Proofs.Ytohhlkabejangaa.Of.acts_row l0 A0 n0 m0 y1 W hp0 hp1).mono fun e W' ⟨he, bel⟩ => ?_
 subst he
 exact ⟨_, rfl, _, _, _, [], _, [], hW', trodAll_mk1 (shut_bool Try.underlying4 _), (trodAll_cons_mk (Below.trod laidOut (by kernel_rfl) (of_decide_eq_true (by kernel_rfl)) k0 bel lt0) (trodAll_cons_mk (Below.trod laidOut (by kernel_rfl) (of_decide_eq_true (by kernel_rfl)) k1 bel lt1) trodAll_mk0)), rfl, bel.frame _, fun h => by cases h⟩
theorem over : Rows.offsetsActsRow.holds Try.pinned (OpenSpec.ofChange Rows.offsetsActsSpec) :=
 OpenClaim.holds_of_wide 10 Try.f10 rfl rfl rfl rfl rfl rfl rfl ⟨rfl, rfl, rfl, rfl, rfl⟩ rfl rfl rfl rfl rfl (by kernel_rfl) Try.func10 (by kernel_rfl)
  (of_decide_eq_true (by kernel_rfl)) (by unfold Func.isWrapper; first | (rw [if_pos (by decide +kernel)]; kernel_rfl) | (rw [if_neg (by decide +kernel)]; exact ⟨rfl, rfl⟩))
  (fun os started H enc _ => lifted os started H enc)
theorem proved : Rows.OffsetsActsSaid := over
#print axioms proved
end Go.Proofs.Ytohhlkabejangaa.offsetsActs
namespace Go.Proofs.Ytohhlkabejangaa
/-- The row, under a short name, for the claim. -/
theorem offsetsActs_holds : Rows.OffsetsActsSaid := offsetsActs.proved
end Go.Proofs.Ytohhlkabejangaa
