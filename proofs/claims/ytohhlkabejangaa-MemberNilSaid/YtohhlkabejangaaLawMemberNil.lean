import Derived.Test.YtohhlkabejangaaRows
import Derived.Test.YtohhlkabejangaaStructRow
import Derived.Test.YtohhlkabejangaaMb6
import Derived.WalkKit
import Derived.ProofKit
import Derived.OpenShut
import Derived.ShutString
import Derived.ChangeOld
import Derived.Below
import Derived.SizedLaws
namespace Go.Proofs.Ytohhlkabejangaa.memberNil
open Go.ChangeShapes Go.WideShapes Go.ChangeAt Go.RowKit Go.Proofs.Ytohhlkabejangaa.StructRow
open Go.ChangeMaps (open_string shut_string)
set_option linter.unusedVariables false
theorem own : ownKnob Try.prog.godebug = none := by kernel_rfl
set_option maxRecDepth 100000 in
theorem lifted (os : Os) (started : os.Started) (H : Type) (enc : TypeId × Value → H) :
    ReturnsInHanded {} Try.checked os 7 .any (Rows.memberNilSpec.pre6 enc Try.prog Try.f7 Rows.memberNilRow.domain false) (Rows.memberNilSpec.post enc Try.prog Try.f7 false true false false) := by
  refine returnsInHanded_of_change_sized (C := Try.checked) own started (by kernel_rfl) Try.func7
    (ChangeSpec.witness6 (enc := enc) (C := Try.checked) false ⟨#[], #[.agg #[.int .i64 0, .string ByteArray.empty, .int .i64 0, .int .i64 0]], []⟩ 8 (by kernel_rfl) (by kernel_rfl) (by kernel_rfl) (by kernel_rfl)) ?_
  intro W base args ds gs before hval0 hW hcnd hsz0 _
  have hval : ∀ (j : Nat) t v, Try.f7.params[j]? = some t → args[j]? = some v → Value.okWide Try.prog W .any base t v := hval0
  have hW' := hW
  obtain ⟨p, q, hA0, hV, rfl, hfz, hnd⟩ := hW
  have hA : DataW.TrodAll enc Try.prog W 0 (fun _ => true) true Try.f7.params.toList args.toList ds p := hA0
  rw [Try.params7] at hA hval
  obtain ⟨v0, vs0, d0, ds0, p0, q0, hargs, rfl, rfl, h0, r0⟩ := trodAll_cons hA
  obtain ⟨rfl, rfl, rfl⟩ := trodAll_nil r0
  obtain rfl : args = #[v0] := by cases args; simp_all
  obtain ⟨rfl, rfl⟩ := trodVars_none hV
  obtain ⟨cs0, ys0, n0, rfl, lc0, ly0, rfl, rfl, rd0⟩ := open_struct Try.underlying53 (by kernel_rfl) (by kernel_rfl) (hval 0 53 v0 rfl rfl) h0
  obtain ⟨c0_0, c0_1, c0_2, c0_3, rfl⟩ := list4 lc0
  obtain ⟨y0_0, y0_1, y0_2, y0_3, rfl⟩ := list4 ly0
  obtain ⟨t0_0, t0_1, t0_2, t0_3, _⟩ := rd0
  obtain ⟨a0_0, e, rfl, w0_0⟩ := DataW.trod_int Try.underlying3 t0_0
  obtain rfl := (List.cons.inj e).1
  clear e
  obtain ⟨a0_1, e, rfl, s0_1⟩ := DataW.trod_string Try.underlying9 t0_1
  obtain rfl := (List.cons.inj e).1
  clear e
  obtain ⟨a0_2, e, rfl, w0_2⟩ := DataW.trod_int Try.underlying3 t0_2
  obtain rfl := (List.cons.inj e).1
  clear e
  obtain ⟨a0_3, e, rfl, w0_3⟩ := DataW.trod_int Try.underlying3 t0_3
  obtain rfl := (List.cons.inj e).1
  clear e
  clear hA0 hval0 hsz0
  refine (Go.Proofs.Ytohhlkabejangaa.Mb.mnil_calls a0_0 a0_1 a0_2 a0_3 W).mono fun e W' ⟨he, bel⟩ => ?_
  subst he
  exact ⟨_, rfl, _, _, _, [], _, [], hW', trodAll_mk1 (shut_bool Try.underlying4 _), (trodAll_cons_mk (shut_struct (ys := [(.lit (.int .i64 a0_0), []), (.lit (.string a0_1.data.toList), []), (.lit (.int .i64 a0_2), []), (.lit (.int .i64 a0_3), [])]) 1 Try.underlying53 (by kernel_rfl) (by kernel_rfl) rfl rfl ⟨trod_int1 Try.underlying3 w0_0, trod_string1 Try.underlying9 s0_1, trod_int1 Try.underlying3 w0_2, trod_int1 Try.underlying3 w0_3, trivial⟩) trodAll_mk0), rfl, bel.frame _, fun h => by cases h⟩
theorem over : Rows.memberNilRow.holds Try.pinned (OpenSpec.ofChange Rows.memberNilSpec) :=
  OpenClaim.holds_of_wide 7 Try.f7 rfl rfl rfl rfl rfl rfl rfl ⟨rfl, rfl, rfl, rfl, rfl⟩ rfl rfl rfl rfl rfl (by kernel_rfl) Try.func7 (by kernel_rfl)
    (of_decide_eq_true (by kernel_rfl)) (by unfold Func.isWrapper; first | (rw [if_pos (by decide +kernel)]; kernel_rfl) | (rw [if_neg (by decide +kernel)]; exact ⟨rfl, rfl⟩))
    (fun os started H enc _ => lifted os started H enc)
theorem proved : Rows.MemberNilSaid := over
#print axioms proved
end Go.Proofs.Ytohhlkabejangaa.memberNil
namespace Go.Proofs.Ytohhlkabejangaa
/-- The row, under a short name, for the claim. -/
theorem memberNil_holds : Rows.MemberNilSaid := memberNil.proved
end Go.Proofs.Ytohhlkabejangaa
