import Derived.Test.YtlgihjhlkpmpnaaRows
import Derived.Test.YtlgihjhlkpmpnaaZWireReq
import Derived.Test.YtlgihjhlkpmpnaaZWireW8
import Derived.WalkKit
import Derived.ProofKit
import Derived.OpenShut
import Derived.ShutString
import Derived.ChangeOld
import Derived.Below
import Derived.SizedLaws
namespace Go.Proofs.Ytlgihjhlkpmpnaa.wireEncodes
open Go.ChangeShapes Go.WideShapes Go.ChangeAt Go.RowKit
open Go.ChangeMaps (open_string shut_string)
set_option linter.unusedVariables false
theorem laidOut : laidOutB Try.prog = true := by kernel_rfl
theorem own : ownKnob Try.prog.godebug = none := by kernel_rfl
set_option maxRecDepth 100000 in
theorem lifted (os : Os) (started : os.Started) (H : Type) (enc : TypeId × Value → H) :
    ReturnsInHanded {} Try.checked os 8 .any (Rows.wireEncodesSpec.pre6 enc Try.prog Try.f8 Rows.wireEncodesRow.domain false) (Rows.wireEncodesSpec.post enc Try.prog Try.f8 false true false false) := by
  refine returnsInHanded_of_change_sized (C := Try.checked) own started (by kernel_rfl) Try.func8
    (ChangeSpec.witness6 (enc := enc) (C := Try.checked) false ⟨#[], #[.agg #[.int .i64 0, .int .i64 0, .int .i64 0, .string ByteArray.empty, .int .i64 0, .string ByteArray.empty, .int .i64 0, .string ByteArray.empty, .int .i64 0, .int .i64 0, .int .i64 0, .bool false, .string ByteArray.empty, .string ByteArray.empty, .int .i64 0, .int .i64 0, .int .i64 0, .int .i64 0, .int .i64 0, .slice none 0 0], .string ByteArray.empty], []⟩ 8 (by kernel_rfl) (by kernel_rfl) (by kernel_rfl) (by kernel_rfl)) ?_
  intro W base args ds gs before hval0 hW hcnd hsz0 _
  have hval : ∀ (j : Nat) t v, Try.f8.params[j]? = some t → args[j]? = some v → Value.okWide Try.prog W .any base t v := hval0
  have hsz : (DataW.weightsEach Try.prog (Try.f8.params.toList ++ Rows.wireEncodesSpec.plain.varTypes Try.prog) (ds ++ gs)).all (· ≤ reachBytes) = true := hsz0
  have hW' := hW
  obtain ⟨p, q, hA0, hV, rfl, hfz, hnd⟩ := hW
  have hA : DataW.TrodAll enc Try.prog W 0 (fun _ => true) true Try.f8.params.toList args.toList ds p := hA0
  rw [Try.params8] at hA hval hsz
  obtain ⟨v0, vs0, d0, ds0, p0, q0, hargs, rfl, rfl, h0, r0⟩ := trodAll_cons hA
  obtain ⟨v1, vs1, d1, ds1, p1, q1, rfl, rfl, rfl, h1, r1⟩ := trodAll_cons r0
  obtain ⟨rfl, rfl, rfl⟩ := trodAll_nil r1
  obtain rfl : args = #[v0, v1] := by cases args; simp_all
  obtain ⟨rfl, rfl⟩ := trodVars_none hV
  have k0 := h0
  have lt0 : ∀ x ∈ p0, x.block < W.heap.size := by obtain ⟨m, hm⟩ := k0; exact DataW.trod_lt m _ _ _ hm
  obtain ⟨cs0, rfl, _⟩ := okWide_struct Try.underlying45 (hval 0 45 v0 rfl rfl)
  have z0 : (d0.weights Try.prog 45).all (· ≤ reachBytes) = true := List.all_eq_true.2 fun q hq => List.all_eq_true.1 hsz _ (DataW.weights_mem_each (j := 0) rfl rfl q hq)
  obtain ⟨y0, A0, m0, l0, e0, hk0, hp0⟩ : ∃ (y : Wire.Rq) (A : Option Addr) (k : Nat) (l : List PWire.S102), cs0.toList = (#[.int .i64 y.id, .int .i64 y.kind, .int .i64 y.label, .string y.pt, .int .i64 y.pp, .string y.tt, .int .i64 y.tp, .string y.sn, .int .i64 y.sp, .int .i64 y.sa, .int .i64 y.ss, .bool y.sc, .string y.grp, .string y.mem, .int .i64 y.gen, .int .i64 y.off, .int .i64 y.most, .int .i64 y.prod, .int .i64 y.seq, .slice A l.length k] : Array Value).toList ∧ l.length ≤ k ∧ Wire.Prs W A l.length k l := by
    obtain ⟨fuel, hf⟩ := h0
    exact Wire.req_open hf z0
  obtain rfl : cs0 = #[.int .i64 y0.id, .int .i64 y0.kind, .int .i64 y0.label, .string y0.pt, .int .i64 y0.pp, .string y0.tt, .int .i64 y0.tp, .string y0.sn, .int .i64 y0.sp, .int .i64 y0.sa, .int .i64 y0.ss, .bool y0.sc, .string y0.grp, .string y0.mem, .int .i64 y0.gen, .int .i64 y0.off, .int .i64 y0.most, .int .i64 y0.prod, .int .i64 y0.seq, .slice A0 l0.length m0] := Array.ext' e0
  clear h0 z0 e0
  obtain ⟨a1, rfl, rfl, rfl, y1⟩ := open_string Try.underlying9 (hval 1 9 v1 rfl rfl) h1
  clear hA0 hval0 hsz0 hsz
  refine (Go.Proofs.Ytlgihjhlkpmpnaa.Wire.encodes_calls y0 A0 m0 l0 a1 W hp0 hk0).mono fun e W' ⟨he, bel⟩ => ?_
  subst he
  exact ⟨_, rfl, _, _, _, [], _, [], hW', trodAll_mk1 (shut_bool Try.underlying4 _), (trodAll_cons_mk (Below.trod laidOut (by kernel_rfl) (of_decide_eq_true (by kernel_rfl)) k0 bel lt0) (trodAll_cons_mk (shut_string Try.underlying9 y1) trodAll_mk0)), rfl, bel.frame _, fun h => by cases h⟩
theorem over : Rows.wireEncodesRow.holds Try.pinned (OpenSpec.ofChange Rows.wireEncodesSpec) :=
  OpenClaim.holds_of_wide 8 Try.f8 rfl rfl rfl rfl rfl rfl rfl ⟨rfl, rfl, rfl, rfl, rfl⟩ rfl rfl rfl rfl rfl (by kernel_rfl) Try.func8 (by kernel_rfl)
    (of_decide_eq_true (by kernel_rfl)) (by unfold Func.isWrapper; first | (rw [if_pos (by decide +kernel)]; kernel_rfl) | (rw [if_neg (by decide +kernel)]; exact ⟨rfl, rfl⟩))
    (fun os started H enc _ => lifted os started H enc)
theorem proved : Rows.WireEncodesSaid := over
#print axioms proved
end Go.Proofs.Ytlgihjhlkpmpnaa.wireEncodes
namespace Go.Proofs.Ytlgihjhlkpmpnaa
/-- The row, under a short name, for the claim. -/
theorem wireEncodes_holds : Rows.WireEncodesSaid := wireEncodes.proved
end Go.Proofs.Ytlgihjhlkpmpnaa
