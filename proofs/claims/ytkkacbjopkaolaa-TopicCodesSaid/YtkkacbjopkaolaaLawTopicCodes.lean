import Derived.Test.YtkkacbjopkaolaaRows
import Derived.Test.YtkkacbjopkaolaaStructRow
import Derived.Test.YtkkacbjopkaolaaPureTopic3
import Derived.WalkKit
import Derived.ProofKit
import Derived.OpenShut
import Derived.ShutString
import Derived.ChangeOld
import Derived.Below
import Derived.SizedLaws
namespace Go.Proofs.Ytkkacbjopkaolaa.topicCodes
open Go.ChangeShapes Go.WideShapes Go.ChangeAt Go.RowKit Go.Proofs.Ytkkacbjopkaolaa.StructRow
open Go.ChangeMaps (open_string shut_string)
set_option linter.unusedVariables false
theorem own : ownKnob Try.prog.godebug = none := by kernel_rfl
set_option maxRecDepth 100000 in
theorem lifted (os : Os) (started : os.Started) (H : Type) (enc : TypeId × Value → H) :
    ReturnsInHanded {} Try.checked os 3 .any (Rows.topicCodesSpec.pre6 enc Try.prog Try.f3 Rows.topicCodesRow.domain false) (Rows.topicCodesSpec.post enc Try.prog Try.f3 false true false false) := by
  refine returnsInHanded_of_change_sized (C := Try.checked) own started (by kernel_rfl) Try.func3
    (ChangeSpec.witness6 (enc := enc) (C := Try.checked) false ⟨#[], #[.agg #[.string ByteArray.empty, .int .i64 0, .int .i64 0, .int .i64 0, .bool false], .string ByteArray.empty], []⟩ 8 (by kernel_rfl) (by kernel_rfl) (by kernel_rfl) (by kernel_rfl)) ?_
  intro W base args ds gs before hval0 hW hcnd hsz0 _
  have hval : ∀ (j : Nat) t v, Try.f3.params[j]? = some t → args[j]? = some v → Value.okWide Try.prog W .any base t v := hval0
  have hW' := hW
  obtain ⟨p, q, hA0, hV, rfl, hfz, hnd⟩ := hW
  have hA : DataW.TrodAll enc Try.prog W 0 (fun _ => true) true Try.f3.params.toList args.toList ds p := hA0
  rw [Try.params3] at hA hval
  obtain ⟨v0, vs0, d0, ds0, p0, q0, hargs, rfl, rfl, h0, r0⟩ := trodAll_cons hA
  obtain ⟨v1, vs1, d1, ds1, p1, q1, rfl, rfl, rfl, h1, r1⟩ := trodAll_cons r0
  obtain ⟨rfl, rfl, rfl⟩ := trodAll_nil r1
  obtain rfl : args = #[v0, v1] := by cases args; simp_all
  obtain ⟨rfl, rfl⟩ := trodVars_none hV
  obtain ⟨cs0, ys0, n0, rfl, lc0, ly0, rfl, rfl, rd0⟩ := open_struct Try.underlying23 (by kernel_rfl) (by kernel_rfl) (hval 0 23 v0 rfl rfl) h0
  obtain ⟨c0_0, c0_1, c0_2, c0_3, c0_4, rfl⟩ := list5 lc0
  obtain ⟨y0_0, y0_1, y0_2, y0_3, y0_4, rfl⟩ := list5 ly0
  obtain ⟨t0_0, t0_1, t0_2, t0_3, t0_4, _⟩ := rd0
  obtain ⟨a0_0, e, rfl, s0_0⟩ := DataW.trod_string Try.underlying9 t0_0
  obtain rfl := (List.cons.inj e).1
  clear e
  obtain ⟨a0_1, e, rfl, w0_1⟩ := DataW.trod_int Try.underlying3 t0_1
  obtain rfl := (List.cons.inj e).1
  clear e
  obtain ⟨a0_2, e, rfl, w0_2⟩ := DataW.trod_int Try.underlying3 t0_2
  obtain rfl := (List.cons.inj e).1
  clear e
  obtain ⟨a0_3, e, rfl, w0_3⟩ := DataW.trod_int Try.underlying3 t0_3
  obtain rfl := (List.cons.inj e).1
  clear e
  obtain ⟨a0_4, e, rfl⟩ := DataW.trod_bool Try.underlying4 t0_4
  obtain rfl := (List.cons.inj e).1
  clear e
  obtain ⟨a1, rfl, rfl, rfl, y1⟩ := open_string Try.underlying9 (hval 1 9 v1 rfl rfl) h1
  clear hA0 hval0 hsz0
  refine (PureTopic3.codes_walk a0_0 a0_1 a0_2 a0_3 a0_4 a1 W).mono fun e W' ⟨he, bel⟩ => ?_
  subst he
  exact ⟨_, rfl, _, _, _, [], _, [], hW', trodAll_mk1 (shut_bool Try.underlying4 _), (trodAll_cons_mk (shut_struct (ys := [(.lit (.string a0_0.data.toList), []), (.lit (.int .i64 a0_1), []), (.lit (.int .i64 a0_2), []), (.lit (.int .i64 a0_3), []), (.lit (.bool a0_4), [])]) 1 Try.underlying23 (by kernel_rfl) (by kernel_rfl) rfl rfl ⟨trod_string1 Try.underlying9 s0_0, trod_int1 Try.underlying3 w0_1, trod_int1 Try.underlying3 w0_2, trod_int1 Try.underlying3 w0_3, trod_bool1 Try.underlying4, trivial⟩) (trodAll_cons_mk (shut_string Try.underlying9 y1) trodAll_mk0)), rfl, bel.frame _, fun h => by cases h⟩
theorem over : Rows.topicCodesRow.holds Try.pinned (OpenSpec.ofChange Rows.topicCodesSpec) :=
  OpenClaim.holds_of_wide 3 Try.f3 rfl rfl rfl rfl rfl rfl rfl ⟨rfl, rfl, rfl, rfl, rfl⟩ rfl rfl rfl rfl rfl (by kernel_rfl) Try.func3 (by kernel_rfl)
    (of_decide_eq_true (by kernel_rfl)) (by unfold Func.isWrapper; first | (rw [if_pos (by decide +kernel)]; kernel_rfl) | (rw [if_neg (by decide +kernel)]; exact ⟨rfl, rfl⟩))
    (fun os started H enc _ => lifted os started H enc)
theorem proved : Rows.TopicCodesSaid := over
#print axioms proved
end Go.Proofs.Ytkkacbjopkaolaa.topicCodes
namespace Go.Proofs.Ytkkacbjopkaolaa
/-- The row, under a short name, for the claim. -/
theorem topicCodes_holds : Rows.TopicCodesSaid := topicCodes.proved
end Go.Proofs.Ytkkacbjopkaolaa
