import Derived.Test.YtgojaomldkgojaaWireEv
import Derived.Test.YtgojaomldkgojaaCm0
import Derived.Maps.Own
import Derived.Maps.OwnOps
import Derived.Maps.Views
import Derived.Deep.Slices
namespace Go.Proofs.Ytgojaomldkgojaa.Cm
set_option linter.unusedVariables false
set_option linter.unusedSimpArgs false
open Go.RowKit Go.Maps Go.Proofs.YtgojaomldkgojaaW.PrintWords Go.Proofs.YtgojaomldkgojaaW.PrintLast Go.Proofs.YtgojaomldkgojaaW.PrintMore Go.Proofs.Ytgojaomldkgojaa.PCm Go.Proofs.Ytgojaomldkgojaa.Wire
abbrev Rc := S32
def Rc.cs (r : Rc) : Array Value := #[.int .i64 r.f0, .int .i64 r.f1, .string r.f2, .string r.f3, .bool r.f4, .int .i64 r.f5, .int .i64 r.f6, .int .i64 r.f7]
theorem load_evm' {P : Program} {ops : Array Oper} {rest : List Oper} {o : Oper} {a : Act} {Q : Exit → Act → World → Prop} {W : World} {N : Tmp} (hN : o.dst = some N) (hgd : o.guard = none) {ty : TypeId} {p : Tmp} (ho : o.op = .load ty (.tmp p)) {b : Addr} {cs : Array Value} (hx : a.eval (.tmp p) = .pointer (some b)) {d : TypeDesc} (hc : ∀ (j : Nat) (v : Value), cs[j]? = some v → W.cell? (b.add j) = some v)
    (hu : P.underlying ty = some d) (hd : (match d with | .struct _ | .array _ _ => true | _ => false) = true) (hi : (P.info? ty).map (·.size) = some cs.size)
    (h : wpList P ops Q rest (a.put o.dst (.agg cs)) W) : wpList P ops Q (o :: rest) a W := by
  have hl : (loadCells b cs.toList.length).run P W = .ok cs.toList.toArray W :=
    run_loadCells_list (P := P) W b cs.toList (fun j v hv => hc j v (by simpa using hv))
  have hv : (loadVar ty b).run P W = .ok (.agg cs) W := by
    cases hq : P.info? ty with
    | none => simp [hq] at hi
    | some i =>
      have hs : i.size = cs.size := by simpa [hq] using hi
      have hagg : (isAgg ty).run P W = .ok true W := by
        unfold isAgg
        rw [Sem.run_bind, run_underlying hu W]
        cases d <;> simp_all
      simp only [Array.length_toList, Array.toArray_toList] at hl
      simp [loadVar, Sem.run_bind, hagg, sizeOf, typeInfo, hq, hs, hl]
  have hw : Region.wanted o (yielded ops a.tmps) = true := by simp [Region.wanted, hgd]
  unfold wpList
  rw [if_pos hw]
  left
  unfold Oper.wp
  have hr : (execOp a.eval o).run P W = .ok (.value (.agg cs)) W := by
    unfold execOp
    simp only [ho, hx, Instr.loadAt, Instr.sureAddr, Sem.run_bind, Sem.run_pure, Result.andThen_ok, hv]
  rw [hr]
  exact h
theorem far_b {w W : World} (k : Below w.heap.size w W) : w.grownBy W none := ⟨k.os, k.tape, k.output, k.size, fun i hi _ => k.block i hi⟩
theorem at_rec {w : World} {A : Option Addr} {n : Nat} {xs : List Rc} (h : Kd.C k32 w A n xs) (i : Nat) (hi : i < n) (hx : i < xs.length) :
    ∃ ad, A = some ad ∧ (∀ (j : Nat) (u : Value), (xs[i].cs)[j]? = some u → w.cell? ((ad.add (i * 8)).add j) = some u) := by
  obtain ⟨ad, c, hA, _, hK, hc⟩ := Kd.C_get h xs[i] (i : Int) (by omega) (by omega)
  rw [Int.toNat_natCast] at hK hc
  have e : xs.getD i xs[i] = xs[i] := by rw [List.getD_eq_getElem?_getD, List.getElem?_eq_getElem hx]; rfl
  rw [e] at hK
  obtain rfl := k32_open hK
  refine ⟨ad, hA, fun j u hu => ?_⟩
  rw [Go.Deep.add_add]
  exact hc j u (by simpa [Rc.cs] using hu)
/-- the places of the last records, as a datum -/
def dat (l : List Rc) : Nat → DataW Unit
  | 0 => .map []
  | i + 1 => if (l.getD i z32).f2.toList = [] then dat l i else (dat l i).put (.string (l.getD i z32).f2.data.toList) (.lit (.int .i64 (i : Int)))
theorem dat_map (l : List Rc) (i : Nat) : IsMap (dat l i) := by
  induction i with
  | zero => exact ⟨_, rfl⟩
  | succ i ih =>
    unfold dat
    split
    · exact ih
    · obtain ⟨es, he⟩ := ih
      rw [he]
      exact ⟨_, rfl⟩
/-- block b is the map of the last places of the first i records -/
def STab (w : World) (b : Nat) (l : List Rc) (i : Nat) : Prop := w.ownsMap Try.prog 9 (plainElem Try.prog 3) b i (dat l i)
theorem str_law : Keyed Try.prog 9 := string_keyed Try.underlying9
set_option maxHeartbeats 16000000 in
set_option maxRecDepth 100000 in
theorem lasts_calls (A : Option Addr) (k : Nat) (l : List Rc) (w : World) (hr : Kd.C k32 w A l.length l) (hl : l.length ≤ 1000) (hz : ∀ r ∈ l, r.f2.size ≤ 1000) :
    Calls Try.prog 44 #[.slice A l.length k] w fun e w' => ∃ b, e = .returned (.map (some b)) ∧ w.heap.size ≤ b ∧ STab w' b l l.length ∧ Below w.heap.size w w' := by
  have HR := Aside0.mk hr
  have HZ := Aside0.mk hz
  have hmm := @run_makeMap Try.prog
  clear hr hz
  go_enter Try.func44, Try.ntmps44
  go_wp2_with fail
  go_loopw [9] (fun iv wr => ∃ i : Nat, iv = .int .i64 i ∧ i ≤ l.length ∧ Aside0 (STab wr w.heap.size l i) ∧ Aside0 (Below w.heap.size w wr)) (fun iv _ => l.length - (intOf iv).toNat)
  case atStart => exact ⟨0, rfl, Nat.zero_le _, ⟨World.ownsMap_made w _ _ _⟩, ⟨(Below.refl _ _).alloc (Nat.le_refl _) _⟩⟩
  case round =>
    obtain ⟨i, rfl, hil, HT, HB⟩ := hrel
    by_cases hlt : i < l.length
    · obtain ⟨ad, hAd, hcs⟩ := at_rec (Kd.C_below HR.out HB.out) i hlt hlt
      have hcs' := Aside0.mk hcs
      have hsz := HZ.out l[i] (List.getElem_mem hlt)
      have hdat : dat l (i + 1) = if l[i].f2.toList = [] then dat l i else (dat l i).put (.string l[i].f2.data.toList) (.lit (.int .i64 (i : Int))) := by
        show (if (l.getD i _).f2.toList = [] then _ else _) = _
        rw [List.getD_eq_getElem?_getD, List.getElem?_eq_getElem hlt]
        rfl
      have HD := Aside0.mk hdat
      subst hAd
      clear hcs hdat
      obtain ⟨pr, hpr⟩ : ∃ pr, l[i] = pr := ⟨_, rfl⟩
      simp only [hpr] at hcs' HD hsz
      clear hpr
      obtain ⟨x0, x1, x2, x3, x4, x5, x6, x7⟩ := pr
      simp only [Rc.cs] at hcs' HD hsz
      by_cases he : x2.toList = []
      · rw [if_pos he] at HD
        go_wp2_with (first
          | ((with_reducible refine gate_dst (N := 13) rfl ?_); refine load_evm' (N := 13) rfl rfl rfl (cs := #[.int .i64 x0, .int .i64 x1, .string x2, .string x3, .bool x4, .int .i64 x5, .int .i64 x6, .int .i64 x7]) rfl hcs'.out Try.underlying32 rfl (by kernel_rfl) ?_)
          | ((with_reducible refine gate_dst (N := 5) rfl ?_); refine box_event rfl (N := 5) rfl (cs := #[.int .i64 0, .int .i64 0, .string ⟨#[]⟩, .string ⟨#[]⟩, .bool false, .int .i64 0, .int .i64 0, .int .i64 0]) (t := 32) ?hr ?_; (case hr => first | (go_simp; done) | (go_simp; rfl)); intro g5 hg5 w1 hbx hbl; have n_HT : Aside0 (STab w1 w.heap.size l i) := ⟨HT.out.kept (far_b hbl) (by simp)⟩; have n_HB := Aside0.mk (below_step HB.out hbl); have G5 := Aside0.mk (show w.heap.size ≤ g5 by rw [hg5]; exact HB.out.size); have D5 := Aside0.mk (show w.heap.size ≠ g5 by rw [hg5]; exact Nat.ne_of_lt HT.out.lt); have Y := Aside0.mk hbx; clear HT HB hbx hbl hg5; have HT := n_HT; have HB := n_HB; clear n_HT n_HB)
          | ((with_reducible refine gate_store (t := 32) (p := 5) rfl ?_); refine store_ev rfl rfl rfl (cells := #[.int .i64 x0, .int .i64 x1, .string x2, .string x3, .bool x4, .int .i64 x5, .int .i64 x6, .int .i64 x7]) rfl rfl Y.out (by kernel_rfl) rfl (by kernel_rfl) ?_; intro w2 hbx hgr; have n_HT : Aside0 (STab w2 w.heap.size l i) := ⟨HT.out.kept hgr (fun e => D5.out (Option.some.inj e))⟩; have n_HB := Aside0.mk (below_put HB.out G5.out hgr HB.out.size); have n_Y := Aside0.mk hbx; clear HT HB Y hbx hgr; have HT := n_HT; have HB := n_HB; have Y := n_Y; clear n_HT n_HB n_Y; have y2 : w2.cell? ⟨g5, 2, none⟩ = some (.string x2) := (blk_cell Y.out 2).trans rfl))
        go_roundw
        case rel => exact ⟨i + 1, by go_num, by omega, ⟨by unfold STab; rw [HD.out]; exact HT.out.mono (Nat.le_succ _)⟩, HB⟩
        case measure => simp [intOf]; omega
      · rw [if_neg he] at HD
        have he2 : x2.toList.isEmpty = false := by rw [Bool.eq_false_iff]; exact fun h => he (List.isEmpty_iff.1 h)
        go_wp2_with (first
          | ((with_reducible refine gate_dst (N := 13) rfl ?_); refine load_evm' (N := 13) rfl rfl rfl (cs := #[.int .i64 x0, .int .i64 x1, .string x2, .string x3, .bool x4, .int .i64 x5, .int .i64 x6, .int .i64 x7]) rfl hcs'.out Try.underlying32 rfl (by kernel_rfl) ?_)
          | ((with_reducible refine gate_dst (N := 5) rfl ?_); refine box_event rfl (N := 5) rfl (cs := #[.int .i64 0, .int .i64 0, .string ⟨#[]⟩, .string ⟨#[]⟩, .bool false, .int .i64 0, .int .i64 0, .int .i64 0]) (t := 32) ?hr ?_; (case hr => first | (go_simp; done) | (go_simp; rfl)); intro g5 hg5 w1 hbx hbl; have n_HT : Aside0 (STab w1 w.heap.size l i) := ⟨HT.out.kept (far_b hbl) (by simp)⟩; have n_HB := Aside0.mk (below_step HB.out hbl); have G5 := Aside0.mk (show w.heap.size ≤ g5 by rw [hg5]; exact HB.out.size); have D5 := Aside0.mk (show w.heap.size ≠ g5 by rw [hg5]; exact Nat.ne_of_lt HT.out.lt); have Y := Aside0.mk hbx; clear HT HB hbx hbl hg5; have HT := n_HT; have HB := n_HB; clear n_HT n_HB)
          | ((with_reducible refine gate_store (t := 32) (p := 5) rfl ?_); refine store_ev rfl rfl rfl (cells := #[.int .i64 x0, .int .i64 x1, .string x2, .string x3, .bool x4, .int .i64 x5, .int .i64 x6, .int .i64 x7]) rfl rfl Y.out (by kernel_rfl) rfl (by kernel_rfl) ?_; intro w2 hbx hgr; have n_HT : Aside0 (STab w2 w.heap.size l i) := ⟨HT.out.kept hgr (fun e => D5.out (Option.some.inj e))⟩; have n_HB := Aside0.mk (below_put HB.out G5.out hgr HB.out.size); have n_Y := Aside0.mk hbx; clear HT HB Y hbx hgr; have HT := n_HT; have HB := n_HB; have Y := n_Y; clear n_HT n_HB n_Y; have y2 : w2.cell? ⟨g5, 2, none⟩ = some (.string x2) := (blk_cell Y.out 2).trans rfl)
          | (at_mapUpdate; refine wpList_mapUpdate_own _ rfl _ _ _ 83 rfl 9 3 str_law Try.underlying83 _ w.heap.size i _ rfl HT.out (by unfold maxLen; omega) _ _ _ rfl rfl (WideMaps.keyOf_string_mk Try.underlying9 (by unfold maxLen; omega)) _ [] (plainElem_int Try.underlying3 (WalkArith.wf_i64 (by omega))) ?_; intro w3 hown hgr; have n_HT := Aside0.mk hown; have n_HB := Aside0.mk (below_put HB.out (Nat.le_refl _) hgr HB.out.size); clear HT HB hown hgr; have HT := n_HT; have HB := n_HB; clear n_HT n_HB))
        go_roundw
        case rel => exact ⟨i + 1, by go_num, by omega, ⟨by unfold STab; rw [HD.out]; exact HT.out⟩, HB⟩
        case measure => simp [intOf]; omega
    · obtain rfl : i = l.length := by omega
      go_wp2_with fail
      go_ret
      exact ⟨w.heap.size, rfl, Nat.le_refl _, HT.out, HB.out⟩
end Go.Proofs.Ytgojaomldkgojaa.Cm
