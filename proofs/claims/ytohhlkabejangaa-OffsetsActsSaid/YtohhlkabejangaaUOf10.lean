import Derived.Test.YtohhlkabejangaaUOf9
import Derived.Test.YtohhlkabejangaaUWireEv
-- halved
namespace Go.Proofs.Ytohhlkabejangaa.Of
set_option linter.unusedVariables false
set_option linter.unusedSimpArgs false
open Go.RowKit Go.Maps Go.Sort Go.Lib Go.Shelf Go.Proofs.YtohhlkabejangaaW.PrintWords Go.Proofs.YtohhlkabejangaaW.PrintLast Go.Proofs.YtohhlkabejangaaW.PrintMore Go.Proofs.Ytohhlkabejangaa.POf Go.Proofs.Ytohhlkabejangaa.Wire
open Go.Proofs.YtohhlkabejangaaW.PrintWords.Aside0 renaming mk → mkA
open Go.Proofs.YtohhlkabejangaaW.PrintWords renaming below_step → zbS
theorem load_evm' {P : Program} {ops : Array Oper} {rest : List Oper} {o : Oper} {a : Act} {Q : Exit → Act → World → Prop} {W : World} {N : Tmp} (hN : o.dst = some N) (hgd : o.guard = none) {ty : TypeId} {p : Tmp} (ho : o.op = .load ty (.tmp p)) {b : Addr} {cs : Array Value} (hx : a.eval (.tmp p) = .pointer (some b)) {d : TypeDesc} (hc : ∀ (j : Nat) (v : Value), cs[j]? = some v → W.cell? (b.add j) = some v)
  (hu : P.underlying ty = some d) (hd : (match d with | .struct _ | .array _ _ => true | _ => false) = true) (hi : (P.info? ty).map (·.size) = some cs.size)
  (h : wpList P ops Q rest (a.put o.dst (.agg cs)) W) : wpList P ops Q (o :: rest) a W := by
 have hl : (loadCells b cs.toList.length).run P W = .ok cs.toList.toArray W :=
  run_loadCells_list (P := P) W b cs.toList (fun j v hv => hc j v (by simpa using hv))
 have hv : (loadVar ty b).run P W = .ok (.agg cs) W := by
  cases hq : P.info? ty with
  | none => simp [hq] at hi
  | some i =>
   have hs : i.size = cs.size := by simpa [hq] using hi
   have hagg : (isAgg ty).run P W = .ok true W := by
    unfold isAgg
    rw [Sem.run_bind, run_underlying hu W]
    cases d <;> simp_all
   simp only [Array.length_toList, Array.toArray_toList] at hl
   simp [loadVar, Sem.run_bind, hagg, sizeOf, typeInfo, hq, hs, hl]
 have hw : Region.wanted o (yielded ops a.tmps) = true := by simp [Region.wanted, hgd]
 unfold wpList
 rw [if_pos hw]
 left
 unfold Oper.wp
 have hr : (execOp a.eval o).run P W = .ok (.value (.agg cs)) W := by
  unfold execOp
  simp only [ho, hx, Instr.loadAt, Instr.sureAddr, Sem.run_bind, Sem.run_pure, Result.andThen_ok, hv]
 rw [hr]
 exact h
theorem w64o (x : Int) (h0 : -9223372036854775808 ≤ x) (h1 : x ≤ 9223372036854775807) : wrap64 x = x := by unfold wrap64; omega
theorem at_key {W : World} {a : Option Addr} {ys : List Ky} (h : ys ≠ [] → ∃ g cur, a = some ⟨g, 0, none⟩ ∧ W.heap[g]? = some (.cells cur 74 (0, 0)) ∧ cur.toList.take (ys.length * 3) = ys.flatMap encK) (i : Nat) (hi : i < ys.length) :
  ∃ ad, a = some ad ∧ (∀ (j : Nat) (u : Value), (encK ys[i]).toArray[j]? = some u → W.cell? ((ad.add (i * 3)).add j) = some u) := by
 obtain ⟨g, cur, rfl, hg, ht⟩ := h (fun e => by rw [e] at hi; simp at hi)
 obtain ⟨h0, h1, h2⟩ := rowK_at hg ht (List.getElem?_eq_getElem hi)
 refine ⟨_, rfl, fun j u hu => ?_⟩
 rw [Go.Deep.add_add]
 have e : ∀ j : Nat, (⟨g, 0, none⟩ : Addr).add (i * 3 + j) = ⟨g, i * 3 + j, none⟩ := fun j => by simp [Addr.add]; try omega
 rw [e]
 match j, hu with
 | 0, hu => exact h0.trans (by simpa [encK] using hu)
 | 1, hu => exact h1.trans (by simpa [encK] using hu)
 | 2, hu => exact h2.trans (by simpa [encK] using hu)
 | j + 3, hu => simp [encK] at hu
def RowK (W : World) (a : Option Addr) (ys : List Ky) : Prop := ys ≠ [] → ∃ g cur, a = some ⟨g, 0, none⟩ ∧ W.heap[g]? = some (.cells cur 74 (0, 0)) ∧ cur.toList.take (ys.length * 3) = ys.flatMap encK
theorem RowK.later {W W' : World} {a : Option Addr} {ys : List Ky} (h : RowK W a ys) (hb : Below W.heap.size W W') : RowK W' a ys := fun hn => by
 obtain ⟨g, cur, e, hg, ht⟩ := h hn
 exact ⟨g, cur, e, (hb.block g (Array.getElem?_eq_some_iff.1 hg).1).trans hg, ht⟩
theorem rowK_of {W : World} {base : Nat} {v : Value} {ys : List Ky} (h : W.ownsRow base 74 3 v ys.length (ys.flatMap encK)) : ∃ a c, v = .slice a ys.length c ∧ RowK W a ys := by
 obtain ⟨a, c, rfl, h2⟩ := rowK_cells h
 refine ⟨a, c, rfl, fun hn => ?_⟩
 obtain ⟨g, cur, e, _, h3, h4⟩ := h2 hn
 exact ⟨g, cur, e, h3, h4⟩
def grpF (s : Int × ByteArray) (k : Ky) : Int × ByteArray := (if k.g = s.2 then s.1 else s.1 + 1, k.g)
def grpK (ys : List Ky) : Int × ByteArray := ys.foldl grpF (0, ⟨#[]⟩)
theorem grpK_step (ys : List Ky) (i : Nat) (hi : i < ys.length) : grpK (ys.take (i + 1)) = grpF (grpK (ys.take i)) ys[i] := by
 unfold grpK
 rw [List.take_succ_eq_append_getElem hi, List.foldl_append]
 rfl
theorem grpF_le (l : List Ky) : ∀ (s : Int × ByteArray), s.1 ≤ (l.foldl grpF s).1 ∧ (l.foldl grpF s).1 ≤ s.1 + l.length := by
 induction l with
 | nil => intro s; simp
 | cons y l ih =>
  intro s
  obtain ⟨h1, h2⟩ := ih (grpF s y)
  rw [List.foldl_cons, List.length_cons]
  have h3 : s.1 ≤ (grpF s y).1 ∧ (grpF s y).1 ≤ s.1 + 1 := by
   unfold grpF
   dsimp only
   split <;> omega
  omega
theorem grpK_range (ys : List Ky) : 0 ≤ (grpK ys).1 ∧ (grpK ys).1 ≤ ys.length := by
 have h := grpF_le ys (0, ⟨#[]⟩)
 unfold grpK
 simp only at h
 omega
theorem ne_lists (a b : ByteArray) : (a.toList == b.toList) = decide (a = b) := by
 by_cases h : a = b
 ·rw [h]; simp
 ·rw [decide_eq_false h]
  exact beq_eq_false_iff_ne.2 (fun e => h (toList_inj e))
set_option maxHeartbeats 16000000 in
set_option maxRecDepth 100000 in
theorem groups_core (pt : Value) (ys : List Ky) (hn : ys.length ≤ 1000000) (w : World)
  (hk : Calls Try.prog 47 #[pt] w fun e w' => ∃ a c, e = .returned (.slice a ys.length c) ∧ RowK w' a ys ∧ Below w.heap.size w w') :
  Calls Try.prog 56 #[pt] w fun e w' => e = .returned (.int .i64 (grpK ys).1) ∧ Below w.heap.size w w' := by
 have hund : ∀ b, some undef = some (Value.bool b) → False := fun b h => by simp [undef] at h
 have HK := mkA hk
 clear hk
 go_enter Try.func56, Try.ntmps56
 go_wp2_with (first
  | (go_at_call 47; refine HK.out.mono ?_; rintro e w1 ⟨a, c, rfl, hr, hb⟩; have HR := mkA hr; have HB := mkA hb; clear hr hb HK))
 go_loopw [3, 4, 10] (fun nv bv iv wr => ∃ (j : Nat) (n : Int) (bf : ByteArray), nv = .int .i64 n ∧ bv = .string bf ∧ iv = .int .i64 j ∧ j ≤ ys.length ∧ Aside0 (grpK (ys.take j) = (n, bf)) ∧ Aside0 (Below w.heap.size w wr) ∧ Aside0 (RowK wr a ys)) (fun _ _ iv _ => ys.length - (intOf iv).toNat)
 case atStart => exact ⟨0, 0, ⟨#[]⟩, rfl, rfl, rfl, Nat.zero_le _, ⟨rfl⟩, HB, HR⟩
 case round =>
  clear HB HR
  obtain ⟨j, n, bf, rfl, rfl, rfl, hj, HG, HB, HR⟩ := hrel
  by_cases hlt : j < ys.length
  ·obtain ⟨ad, hAd, hcs⟩ := at_key HR.out j hlt
   have HST := mkA (grpK_step ys j hlt)
   have hrg := grpK_range (ys.take j)
   rw [HG.out, List.length_take] at hrg
   have HX := mkA (Below.refl wr.heap.size wr)
   subst hAd
   obtain ⟨y, hy⟩ : ∃ y, ys[j] = y := ⟨_, rfl⟩
   simp only [hy] at hcs HST
   clear hy
   obtain ⟨y0, y1, y2⟩ := y
   have HCS := mkA (show ∀ (j_1 : Nat) (u : Value), (#[.string y0, .string y1, .int .i64 y2] : Array Value)[j_1]? = some u → wr.cell? ((ad.add (j * 3)).add j_1) = some u from hcs)
   clear hcs
   have k1 : decide ((j : Int) < (ys.length : Int)) = true := decide_eq_true (by omega)
   have k2 : (0 ≤ (j : Int)) = True := eq_true (by omega)
   have k3 : ((j : Int) < (ys.length : Int)) = True := eq_true (by omega)
   have hw : wrap64 (n + 1) = n + 1 := w64o _ (by simp only at hrg; omega) (by simp only at hrg; omega)
   have hwj : wrap64 ((j : Int) + 1) = (j : Int) + 1 := w64o _ (by omega) (by omega)
   clear hrg
   by_cases hc : y0 = bf
   ·have e1 : (y0.toList == bf.toList) = true := by rw [ne_lists]; exact decide_eq_true hc
    have HF := mkA (show grpF (n, bf) ⟨y0, y1, y2⟩ = (n, y0) by unfold grpF; rw [if_pos hc])
    have e2 : (y0.toList != bf.toList) = false := by rw [bne, e1]; rfl
    clear hc
    go_wp2_with (first
     | ((with_reducible refine gate_dst (N := 13) rfl ?_); refine load_evm' (N := 13) rfl rfl rfl (cs := #[.string y0, .string y1, .int .i64 y2]) rfl HCS.out Try.underlying74 rfl (by kernel_rfl) ?_)
     | ((with_reducible refine gate_dst (N := 6) rfl ?_); refine box_event rfl (N := 6) rfl (cs := #[.string ⟨#[]⟩, .string ⟨#[]⟩, .int .i64 0]) (t := 74) ?hr ?_; (case hr => first | (go_simp; done) | (go_simp; rfl)); intro g6 hg6 w3 hbx hbl; have HX1 := mkA (zbS HX.out hbl); have G6 := mkA (show _ ≤ g6 by rw [hg6]; exact HX.out.size); have Y := mkA hbx; clear hbx hbl hg6 HX)
     | ((with_reducible refine gate_store (t := 74) (p := 6) rfl ?_); refine store_ev rfl rfl rfl (cells := #[.string y0, .string y1, .int .i64 y2]) rfl rfl Y.out (by kernel_rfl) rfl (by kernel_rfl) ?_; intro w4 hbx hgr; have HX := mkA (below_put HX1.out G6.out hgr HX1.out.size); have YY := mkA hbx; clear HX1 Y hbx hgr; have y0c : w4.cell? ⟨g6, 0, none⟩ = some (.string y0) := (blk_cell YY.out 0).trans rfl))
    have HN := mkA (show grpK (ys.take (j + 1)) = (n, y0) by rw [HST.out, HG.out, HF.out])
    have HB2 := mkA (zbS HB.out HX.out)
    have HR2 := mkA (RowK.later HR.out HX.out)
    go_roundw
    case rel => exact ⟨j + 1, n, y0, by first | rfl | rw [hw], rfl, by first | rfl | simp, by omega, HN, HB2, HR2⟩
    case measure => simp [intOf]; omega
   ·have e1 : (y0.toList == bf.toList) = false := by rw [ne_lists]; exact decide_eq_false hc
    have HF := mkA (show grpF (n, bf) ⟨y0, y1, y2⟩ = (n + 1, y0) by unfold grpF; rw [if_neg hc])
    have e2 : (y0.toList != bf.toList) = true := by rw [bne, e1]; rfl
    clear hc
    go_wp2_with (first
     | ((with_reducible refine gate_dst (N := 13) rfl ?_); refine load_evm' (N := 13) rfl rfl rfl (cs := #[.string y0, .string y1, .int .i64 y2]) rfl HCS.out Try.underlying74 rfl (by kernel_rfl) ?_)
     | ((with_reducible refine gate_dst (N := 6) rfl ?_); refine box_event rfl (N := 6) rfl (cs := #[.string ⟨#[]⟩, .string ⟨#[]⟩, .int .i64 0]) (t := 74) ?hr ?_; (case hr => first | (go_simp; done) | (go_simp; rfl)); intro g6 hg6 w3 hbx hbl; have HX1 := mkA (zbS HX.out hbl); have G6 := mkA (show _ ≤ g6 by rw [hg6]; exact HX.out.size); have Y := mkA hbx; clear hbx hbl hg6 HX)
     | ((with_reducible refine gate_store (t := 74) (p := 6) rfl ?_); refine store_ev rfl rfl rfl (cells := #[.string y0, .string y1, .int .i64 y2]) rfl rfl Y.out (by kernel_rfl) rfl (by kernel_rfl) ?_; intro w4 hbx hgr; have HX := mkA (below_put HX1.out G6.out hgr HX1.out.size); have YY := mkA hbx; clear HX1 Y hbx hgr; have y0c : w4.cell? ⟨g6, 0, none⟩ = some (.string y0) := (blk_cell YY.out 0).trans rfl))
    have HN := mkA (show grpK (ys.take (j + 1)) = (n + 1, y0) by rw [HST.out, HG.out, HF.out])
    have HB2 := mkA (zbS HB.out HX.out)
    have HR2 := mkA (RowK.later HR.out HX.out)
    go_roundw
    case rel => exact ⟨j + 1, n + 1, y0, by first | rfl | rw [hw], rfl, by first | rfl | simp, by omega, HN, HB2, HR2⟩
    case measure => simp [intOf]; omega
  ·obtain rfl : j = ys.length := by omega
   have k1 : decide ((ys.length : Int) < (ys.length : Int)) = false := decide_eq_false (by omega)
   have HE := mkA (show (grpK ys).1 = n by have h := HG.out; rw [List.take_length] at h; rw [h])
   go_wp2_with fail
   go_ret
   exact ⟨by rw [HE.out]; rfl, HB.out⟩
end Go.Proofs.Ytohhlkabejangaa.Of
