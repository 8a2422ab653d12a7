import Derived.Test.YtgojaomldkgojaaCm4
import Derived.Test.YtgojaomldkgojaaPCmx1
namespace Go.Proofs.Ytgojaomldkgojaa.Cm
set_option linter.unusedVariables false
set_option linter.unusedSimpArgs false
open Go.RowKit Go.Maps Go.Proofs.YtgojaomldkgojaaW.PrintWords Go.Proofs.YtgojaomldkgojaaW.PrintLast Go.Proofs.YtgojaomldkgojaaW.PrintMore Go.Proofs.Ytgojaomldkgojaa.PCm Go.Proofs.Ytgojaomldkgojaa.Wire
theorem loadm_run' {P : Program} {o : Oper} {a : Act} {W : World} {ty : TypeId} {p : Tmp} (ho : o.op = .load ty (.tmp p)) {b : Addr} {cs : Array Value} (hx : a.eval (.tmp p) = .pointer (some b)) {d : TypeDesc} (hc : ∀ (j : Nat) (v : Value), cs[j]? = some v → W.cell? (b.add j) = some v)
    (hu : P.underlying ty = some d) (hd : (match d with | .struct _ | .array _ _ => true | _ => false) = true) (hi : (P.info? ty).map (·.size) = some cs.size) : (execOp a.eval o).run P W = .ok (.value (.agg cs)) W := by
  have hl : (loadCells b cs.toList.length).run P W = .ok cs.toList.toArray W :=
    run_loadCells_list (P := P) W b cs.toList (fun j v hv => hc j v (by simpa using hv))
  have hv : (loadVar ty b).run P W = .ok (.agg cs) W := by
    cases hq : P.info? ty with
    | none => simp [hq] at hi
    | some i =>
      have hs : i.size = cs.size := by simpa [hq] using hi
      have hagg : (isAgg ty).run P W = .ok true W := by
        unfold isAgg
        rw [Sem.run_bind, run_underlying hu W]
        cases d <;> simp_all
      simp only [Array.length_toList, Array.toArray_toList] at hl
      simp [loadVar, Sem.run_bind, hagg, sizeOf, typeInfo, hq, hs, hl]
  unfold execOp
  simp only [ho, hx, Instr.loadAt, Instr.sureAddr, Sem.run_bind, Sem.run_pure, Result.andThen_ok, hv]
theorem load_run' {P : Program} {o : Oper} {a : Act} {W : World} {ty : TypeId} {p : Tmp} (ho : o.op = .load ty (.tmp p)) {g : Nat} (hx : a.eval (.tmp p) = .pointer (some ⟨g, 0, none⟩)) {t : TypeId} {cs : Array Value} {d : TypeDesc} (hg : W.heap[g]? = some (.cells cs t (0, 0)))
    (hu : P.underlying ty = some d) (hd : (match d with | .struct _ | .array _ _ => true | _ => false) = true) (hi : (P.info? ty).map (·.size) = some cs.size) : (execOp a.eval o).run P W = .ok (.value (.agg cs)) W := by
  unfold execOp
  simp only [ho, hx, Instr.loadAt, Instr.sureAddr, Sem.run_bind, Sem.run_pure, Result.andThen_ok, run_loadVar_row W g t ty cs (0, 0) d hg hu hd hi]
theorem cells_below {w W : World} {b : Addr} {cs : Array Value} (h : ∀ (j : Nat) (u : Value), cs[j]? = some u → w.cell? (b.add j) = some u) (hb : Below w.heap.size w W) (j : Nat) (u : Value) (hj : cs[j]? = some u) : W.cell? (b.add j) = some u :=
  (hb.cell (World.block_lt_of_cell? w _ (h j u hj))).trans (h j u hj)
section
attribute [local go_sem high] eqA32
set_option maxHeartbeats 16000000 in
set_option maxRecDepth 100000 in
theorem same_calls (A B : Option Addr) (k k2 : Nat) (l : List Rc) (w : World) (hA : Kd.C k32 w A l.length l) (hB0 : Kd.C k32 w B l.length l) :
    Calls Try.prog 15 #[.slice A l.length k, .slice B l.length k2] w fun e w' => e = .returned (.bool true) ∧ Below w.heap.size w w' := by
  have HRA := Aside0.mk hA
  have HRB := Aside0.mk hB0
  have hmax : l.length < 9223372036854775808 := Nat.lt_succ_of_le hA.2.1
  clear hA hB0
  go_enter Try.func15, Try.ntmps15
  go_wp2_with fail
  go_loopw [14] (fun iv wr => ∃ i : Nat, iv = .int .i64 i ∧ i ≤ l.length ∧ Aside0 (Below w.heap.size w wr)) (fun iv _ => l.length - (intOf iv).toNat)
  case atStart => exact ⟨0, rfl, Nat.zero_le _, ⟨Below.refl _ _⟩⟩
  case round =>
    obtain ⟨i, rfl, hil, HB⟩ := hrel
    by_cases hlt : i < l.length
    · obtain ⟨ad, hAd, hcs⟩ := at_rec HRA.out i hlt hlt
      obtain ⟨ad2, hAd2, hcs2⟩ := at_rec HRB.out i hlt hlt
      have hcs' := Aside0.mk (cells_below hcs HB.out)
      have HC2 := Aside0.mk hcs2
      subst hAd
      subst hAd2
      clear hcs hcs2
      obtain ⟨pr, hpr⟩ : ∃ pr, l[i] = pr := ⟨_, rfl⟩
      simp only [hpr] at hcs' HC2
      clear hpr
      obtain ⟨x0, x1, x2, x3, x4, x5, x6, x7⟩ := pr
      simp only [Rc.cs] at hcs' HC2
      go_wp2_with (first
        | ((with_reducible refine gate_dst (N := 18) rfl ?_); refine load_evm' (N := 18) rfl rfl rfl (cs := #[.int .i64 x0, .int .i64 x1, .string x2, .string x3, .bool x4, .int .i64 x5, .int .i64 x6, .int .i64 x7]) rfl hcs'.out Try.underlying32 rfl (by kernel_rfl) ?_)
        | ((with_reducible refine gate_dst (N := 6) rfl ?_); refine box_event rfl (N := 6) rfl (cs := #[.int .i64 0, .int .i64 0, .string ⟨#[]⟩, .string ⟨#[]⟩, .bool false, .int .i64 0, .int .i64 0, .int .i64 0]) (t := 32) ?hr ?_; (case hr => first | (go_simp; done) | (go_simp; rfl)); intro g6 hg6 w1 hbx hbl; have n_HB := Aside0.mk (below_step HB.out hbl); have G6 := Aside0.mk (show w.heap.size ≤ g6 by rw [hg6]; exact HB.out.size); have Y := Aside0.mk hbx; clear HB hbx hbl hg6; have HB := n_HB; clear n_HB)
        | ((with_reducible refine gate_store (t := 32) (p := 6) rfl ?_); refine store_ev rfl rfl rfl (cells := #[.int .i64 x0, .int .i64 x1, .string x2, .string x3, .bool x4, .int .i64 x5, .int .i64 x6, .int .i64 x7]) rfl rfl Y.out (by kernel_rfl) rfl (by kernel_rfl) ?_; intro w2 hbx hgr; have n_HB := Aside0.mk (below_put HB.out G6.out hgr HB.out.size); have n_Y := Aside0.mk hbx; clear HB Y hbx hgr; have HB := n_HB; have Y := n_Y; clear n_HB n_Y))

      have HY2 := Aside0.mk (cells_below HC2.out HB.out)
      refine start_ (n := 6) (S := fun w' => w'.heap[g6]? = some (.cells #[.int .i64 x0, .int .i64 x1, .string x2, .string x3, .bool x4, .int .i64 x5, .int .i64 x6, .int .i64 x7] 32 (0, 0)) ∧ (∀ (j : Nat) (u : Value), (#[.int .i64 x0, .int .i64 x1, .string x2, .string x3, .bool x4, .int .i64 x5, .int .i64 x6, .int .i64 x7] : Array Value)[j]? = some u → w'.cell? ((ad2.add (i * 8)).add j) = some u)) (ds := []) #[false, false, false, false, false, false] (by kernel_rfl) rfl rfl ⟨Y.out, HY2.out⟩ (fun _ => ?_)
      have n_HB := Aside0.mk (below_drew1 HB.out)
      have n_Y := Aside0.mk (show w2.drew.heap[g6]? = some (.cells #[.int .i64 x0, .int .i64 x1, .string x2, .string x3, .bool x4, .int .i64 x5, .int .i64 x6, .int .i64 x7] 32 (0, 0)) from Y.out)
      have n_HY2 := Aside0.mk (show ∀ (j : Nat) (u : Value), (#[.int .i64 x0, .int .i64 x1, .string x2, .string x3, .bool x4, .int .i64 x5, .int .i64 x6, .int .i64 x7] : Array Value)[j]? = some u → w2.drew.cell? ((ad2.add (i * 8)).add j) = some u from HY2.out)
      clear HB Y HY2
      have HB := n_HB
      have Y := n_Y
      have HY2 := n_HY2
      clear n_HB n_Y n_HY2
      generalize w2.drew = V at *
      refine take_ (i := 0) (N := some 19) (v := .agg #[.int .i64 x0, .int .i64 x1, .string x2, .string x3, .bool x4, .int .i64 x5, .int .i64 x6, .int .i64 x7]) (a' := ?_) #[true, false, false, false, false, false] rfl rfl (by kernel_rfl) (fun _ _ _ h => h) (Or.inl ⟨by rfl, fun w' hS => load_run' (p := 6) rfl rfl hS.1 Try.underlying32 rfl (by kernel_rfl)⟩) ⟨Y.out, HY2.out⟩ ?_ ?_
      rotate_left
      · simp only [Act.put, List.setIfInBounds_toArray, List.set_cons_zero, List.set_cons_succ]
        rfl
      refine pure_ (i := 1) (N := some 20) (v := ?_) (a' := ?_) #[true, true, false, false, false, false] rfl rfl (by kernel_rfl) (fun _ _ _ h => h) (Or.inl ⟨by rfl, ?_⟩) ?_ ?_
      rotate_left
      · intro w'
        go_simp
        with_reducible rfl
      rotate_left
      · simp only [Act.put, List.setIfInBounds_toArray, List.set_cons_zero, List.set_cons_succ]
        rfl
      refine pure_ (i := 2) (N := some 21) (v := ?_) (a' := ?_) #[true, true, true, false, false, false] rfl rfl (by kernel_rfl) (fun _ _ _ h => h) (Or.inl ⟨by rfl, ?_⟩) ?_ ?_
      rotate_left
      · intro w'
        go_simp
        with_reducible rfl
      rotate_left
      · simp only [Act.put, List.setIfInBounds_toArray, List.set_cons_zero, List.set_cons_succ]
        rfl
      refine pure_ (i := 3) (N := some 22) (v := ?_) (a' := ?_) #[true, true, true, true, false, false] rfl rfl (by kernel_rfl) (fun _ _ _ h => h) (Or.inl ⟨by rfl, ?_⟩) ?_ ?_
      rotate_left
      · intro w'
        go_simp
        with_reducible rfl
      rotate_left
      · simp only [Act.put, List.setIfInBounds_toArray, List.set_cons_zero, List.set_cons_succ]
        rfl
      refine take_ (i := 4) (N := some 23) (v := .agg #[.int .i64 x0, .int .i64 x1, .string x2, .string x3, .bool x4, .int .i64 x5, .int .i64 x6, .int .i64 x7]) (a' := ?_) #[true, true, true, true, true, false] rfl rfl (by kernel_rfl) (fun _ _ _ h => h) (Or.inl ⟨by rfl, fun w' hS => loadm_run' (p := 22) rfl rfl hS.2 Try.underlying32 rfl (by kernel_rfl)⟩) ⟨Y.out, HY2.out⟩ ?_ ?_
      rotate_left
      · simp only [Act.put, List.setIfInBounds_toArray, List.set_cons_zero, List.set_cons_succ]
        rfl
      refine pure_ (i := 5) (N := some 24) (v := ?_) (a' := ?_) #[true, true, true, true, true, true] rfl rfl (by kernel_rfl) (fun _ _ _ h => h) (Or.inl ⟨by rfl, ?_⟩) ?_ ?_
      rotate_left
      · intro w'
        go_simp
        with_reducible rfl
      rotate_left
      · simp only [Act.put, List.setIfInBounds_toArray, List.set_cons_zero, List.set_cons_succ]
        rfl
      refine done_ (by kernel_rfl) ?_

      go_wp2_with fail
      go_roundw
      case rel => exact ⟨i + 1, by go_num, by omega, HB⟩
      case measure => simp [intOf]; omega
    · obtain rfl : i = l.length := by omega
      go_wp2_with fail
      go_ret
      exact ⟨rfl, HB.out⟩
end
def rBig (r : Rc) : Bool := decide (300 < r.f2.size) || decide (300 < r.f3.size)
def recsBig (l : List Rc) : Bool := decide (40 < l.length) || l.any rBig
set_option maxHeartbeats 16000000 in
set_option maxRecDepth 100000 in
theorem large_calls (A : Option Addr) (k : Nat) (l : List Rc) (w : World) (hA : Kd.C k32 w A l.length l) :
    Calls Try.prog 12 #[.slice A l.length k] w fun e w' => e = .returned (.bool (recsBig l)) ∧ Below w.heap.size w w' := by
  have HRA := Aside0.mk hA
  have hmax : l.length < 9223372036854775808 := Nat.lt_succ_of_le hA.2.1
  clear hA
  by_cases hbig : 40 < l.length
  · have hb : recsBig l = true := by unfold recsBig; simp [hbig]
    rw [hb]
    clear hb
    go_enter Try.func12, Try.ntmps12
    go_wp2_with fail
    go_ret
    exact ⟨rfl, Below.refl _ _⟩
  obtain ⟨b, hb⟩ : ∃ b, recsBig l = b := ⟨_, rfl⟩
  have HBG := Aside0.mk hb
  rw [hb]
  clear hb
  go_enter Try.func12, Try.ntmps12
  go_wp2_with fail
  go_loopw [10] (fun iv wr => ∃ i : Nat, iv = .int .i64 i ∧ i ≤ l.length ∧ Aside0 ((l.take i).any rBig = false) ∧ Aside0 (Below w.heap.size w wr)) (fun iv _ => l.length - (intOf iv).toNat)
  case atStart => exact ⟨0, rfl, Nat.zero_le _, ⟨rfl⟩, ⟨Below.refl _ _⟩⟩
  case round =>
    obtain ⟨i, rfl, hil, HN, HB⟩ := hrel
    by_cases hlt : i < l.length
    · obtain ⟨ad, hAd, hcs⟩ := at_rec HRA.out i hlt hlt
      have hcs' := Aside0.mk (cells_below hcs HB.out)
      have HN2 : Aside0 ((l.take (i + 1)).any rBig = rBig l[i]) := ⟨by rw [List.take_succ_eq_append_getElem hlt, List.any_append, HN.out]; simp⟩
      have HT : Aside0 (rBig l[i] = true → b = true) := ⟨fun h => by rw [← HBG.out]; unfold recsBig; rw [Bool.or_eq_true]; exact .inr (List.any_eq_true.2 ⟨_, List.getElem_mem hlt, h⟩)⟩
      subst hAd
      clear hcs HN
      obtain ⟨pr, hpr⟩ : ∃ pr, l[i] = pr := ⟨_, rfl⟩
      simp only [hpr] at hcs' HN2 HT
      clear hpr
      obtain ⟨x0, x1, x2, x3, x4, x5, x6, x7⟩ := pr
      simp only [Rc.cs, rBig] at hcs' HN2 HT
      by_cases c2 : 300 < x2.size
      · obtain rfl : b = true := HT.out (by simp [c2])
        go_wp2_with (first
          | ((with_reducible refine gate_dst (N := 13) rfl ?_); refine load_evm' (N := 13) rfl rfl rfl (cs := #[.int .i64 x0, .int .i64 x1, .string x2, .string x3, .bool x4, .int .i64 x5, .int .i64 x6, .int .i64 x7]) rfl hcs'.out Try.underlying32 rfl (by kernel_rfl) ?_)
          | ((with_reducible refine gate_dst (N := 4) rfl ?_); refine box_event rfl (N := 4) rfl (cs := #[.int .i64 0, .int .i64 0, .string ⟨#[]⟩, .string ⟨#[]⟩, .bool false, .int .i64 0, .int .i64 0, .int .i64 0]) (t := 32) ?hr ?_; (case hr => first | (go_simp; done) | (go_simp; rfl)); intro g4 hg4 w1 hbx hbl; have n_HB := Aside0.mk (below_step HB.out hbl); have G4 := Aside0.mk (show w.heap.size ≤ g4 by rw [hg4]; exact HB.out.size); have Y := Aside0.mk hbx; clear HB hbx hbl hg4; have HB := n_HB; clear n_HB)
          | ((with_reducible refine gate_store (t := 32) (p := 4) rfl ?_); refine store_ev rfl rfl rfl (cells := #[.int .i64 x0, .int .i64 x1, .string x2, .string x3, .bool x4, .int .i64 x5, .int .i64 x6, .int .i64 x7]) rfl rfl Y.out (by kernel_rfl) rfl (by kernel_rfl) ?_; intro w2 hbx hgr; have n_HB := Aside0.mk (below_put HB.out G4.out hgr HB.out.size); have n_Y := Aside0.mk hbx; clear HB Y hbx hgr; have HB := n_HB; have Y := n_Y; clear n_HB n_Y; have y2 : w2.cell? ⟨g4, 2, none⟩ = some (.string x2) := (blk_cell Y.out 2).trans rfl; have y3 : w2.cell? ⟨g4, 3, none⟩ = some (.string x3) := (blk_cell Y.out 3).trans rfl))
        go_ret
        exact ⟨rfl, HB.out⟩
      by_cases c3 : 300 < x3.size
      · obtain rfl : b = true := HT.out (by simp [c3])
        go_wp2_with (first
          | ((with_reducible refine gate_dst (N := 13) rfl ?_); refine load_evm' (N := 13) rfl rfl rfl (cs := #[.int .i64 x0, .int .i64 x1, .string x2, .string x3, .bool x4, .int .i64 x5, .int .i64 x6, .int .i64 x7]) rfl hcs'.out Try.underlying32 rfl (by kernel_rfl) ?_)
          | ((with_reducible refine gate_dst (N := 4) rfl ?_); refine box_event rfl (N := 4) rfl (cs := #[.int .i64 0, .int .i64 0, .string ⟨#[]⟩, .string ⟨#[]⟩, .bool false, .int .i64 0, .int .i64 0, .int .i64 0]) (t := 32) ?hr ?_; (case hr => first | (go_simp; done) | (go_simp; rfl)); intro g4 hg4 w1 hbx hbl; have n_HB := Aside0.mk (below_step HB.out hbl); have G4 := Aside0.mk (show w.heap.size ≤ g4 by rw [hg4]; exact HB.out.size); have Y := Aside0.mk hbx; clear HB hbx hbl hg4; have HB := n_HB; clear n_HB)
          | ((with_reducible refine gate_store (t := 32) (p := 4) rfl ?_); refine store_ev rfl rfl rfl (cells := #[.int .i64 x0, .int .i64 x1, .string x2, .string x3, .bool x4, .int .i64 x5, .int .i64 x6, .int .i64 x7]) rfl rfl Y.out (by kernel_rfl) rfl (by kernel_rfl) ?_; intro w2 hbx hgr; have n_HB := Aside0.mk (below_put HB.out G4.out hgr HB.out.size); have n_Y := Aside0.mk hbx; clear HB Y hbx hgr; have HB := n_HB; have Y := n_Y; clear n_HB n_Y; have y2 : w2.cell? ⟨g4, 2, none⟩ = some (.string x2) := (blk_cell Y.out 2).trans rfl; have y3 : w2.cell? ⟨g4, 3, none⟩ = some (.string x3) := (blk_cell Y.out 3).trans rfl))
        go_ret
        exact ⟨rfl, HB.out⟩
      go_wp2_with (first
        | ((with_reducible refine gate_dst (N := 13) rfl ?_); refine load_evm' (N := 13) rfl rfl rfl (cs := #[.int .i64 x0, .int .i64 x1, .string x2, .string x3, .bool x4, .int .i64 x5, .int .i64 x6, .int .i64 x7]) rfl hcs'.out Try.underlying32 rfl (by kernel_rfl) ?_)
        | ((with_reducible refine gate_dst (N := 4) rfl ?_); refine box_event rfl (N := 4) rfl (cs := #[.int .i64 0, .int .i64 0, .string ⟨#[]⟩, .string ⟨#[]⟩, .bool false, .int .i64 0, .int .i64 0, .int .i64 0]) (t := 32) ?hr ?_; (case hr => first | (go_simp; done) | (go_simp; rfl)); intro g4 hg4 w1 hbx hbl; have n_HB := Aside0.mk (below_step HB.out hbl); have G4 := Aside0.mk (show w.heap.size ≤ g4 by rw [hg4]; exact HB.out.size); have Y := Aside0.mk hbx; clear HB hbx hbl hg4; have HB := n_HB; clear n_HB)
        | ((with_reducible refine gate_store (t := 32) (p := 4) rfl ?_); refine store_ev rfl rfl rfl (cells := #[.int .i64 x0, .int .i64 x1, .string x2, .string x3, .bool x4, .int .i64 x5, .int .i64 x6, .int .i64 x7]) rfl rfl Y.out (by kernel_rfl) rfl (by kernel_rfl) ?_; intro w2 hbx hgr; have n_HB := Aside0.mk (below_put HB.out G4.out hgr HB.out.size); have n_Y := Aside0.mk hbx; clear HB Y hbx hgr; have HB := n_HB; have Y := n_Y; clear n_HB n_Y; have y2 : w2.cell? ⟨g4, 2, none⟩ = some (.string x2) := (blk_cell Y.out 2).trans rfl; have y3 : w2.cell? ⟨g4, 3, none⟩ = some (.string x3) := (blk_cell Y.out 3).trans rfl))
      go_roundw
      case rel => exact ⟨i + 1, by go_num, by omega, ⟨HN2.out.trans (by simp [c2, c3])⟩, HB⟩
      case measure => simp [intOf]; omega
    · obtain rfl : i = l.length := by omega
      obtain rfl : b = false := by
        rw [← HBG.out]
        unfold recsBig
        have h9 := HN.out
        rw [List.take_length] at h9
        rw [h9]
        simp [hbig]
      go_wp2_with fail
      go_ret
      exact ⟨rfl, HB.out⟩
end Go.Proofs.Ytgojaomldkgojaa.Cm
