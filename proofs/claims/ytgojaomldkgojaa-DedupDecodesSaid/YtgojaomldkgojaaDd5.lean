import Derived.Test.YtgojaomldkgojaaDd4
import Derived.Test.YtgojaomldkgojaaDd3
import Derived.Maps.RangeWalk
namespace Go.Proofs.Ytgojaomldkgojaa.Dd
set_option linter.unusedVariables false
set_option linter.unusedSimpArgs false
open Go.RowKit Go.Maps Go.Proofs.YtgojaomldkgojaaW.PrintWords Go.Proofs.YtgojaomldkgojaaW.PrintLast Go.Proofs.YtgojaomldkgojaaW.PrintMore Go.Proofs.Ytgojaomldkgojaa.PDd Go.Proofs.Ytgojaomldkgojaa.Wire Go.Proofs.Ytgojaomldkgojaa.Hand
theorem note_head (l : List La) (r : La) (h : ∀ y ∈ l, r.f0 < y.f0) : noteL l r = r :: l := by
  cases l with
  | nil => rfl
  | cons y l => rw [noteL, if_pos (h y List.mem_cons_self)]
theorem filter_note (l : List La) (q : La → Bool) (r : La) (h : Ris l) (hr : r ∈ l) (hq : q r = false) : noteL (l.filter q) r = l.filter (fun z => q z || decide (z.f0 = r.f0)) := by
  induction l with
  | nil => exact absurd hr (by simp)
  | cons y l ih =>
    obtain ⟨h1, h2⟩ := List.pairwise_cons.1 h
    rcases List.mem_cons.1 hr with rfl | hr
    · have e : l.filter (fun z => q z || decide (z.f0 = r.f0)) = l.filter q := List.filter_congr (fun z hz => by
        have := h1 z hz
        rw [decide_eq_false (by omega), Bool.or_false])
      rw [List.filter_cons_of_neg (by rw [hq]; decide), List.filter_cons_of_pos (by simp), e]
      exact note_head _ r (fun y hy => h1 y (List.mem_filter.1 hy).1)
    · have hlt := h1 r hr
      have e0 : decide (y.f0 = r.f0) = false := decide_eq_false (by omega)
      cases hy : q y with
      | true =>
        rw [List.filter_cons_of_pos hy, List.filter_cons_of_pos (by rw [hy]; rfl), noteL, if_neg (by omega), if_neg (by omega), ih h2 hr]
      | false =>
        rw [List.filter_cons_of_neg (by rw [hy]; decide), List.filter_cons_of_neg (by rw [hy, e0]; decide)]
        exact ih h2 hr
/-- what is there already: what is not to come any more -/
def there (left : Lit → Bool) (l : List La) : List La := l.filter (fun z => !left (.int .i64 z.f0))
theorem there_start (l : List La) : there (Maps.has (datL l)) l = [] := by
  unfold there
  rw [List.filter_eq_nil_iff]
  intro z hz
  rw [has_eq']
  cases hf : findL l z.f0 with
  | some x => simp
  | none => exact absurd rfl ((find_none l z.f0).1 hf z hz)
theorem there_end (l : List La) (left : Lit → Bool) (h : ∀ kl, left kl = false) : there left l = l := by
  unfold there
  rw [List.filter_eq_self]
  intro z hz
  rw [h]
  rfl
theorem there_step (l : List La) (left : Lit → Bool) (h : Ris l) (r : La) (hr : r ∈ l) (hl : left (.int .i64 r.f0) = true) : noteL (there left l) r = there (fun z => left z && !z.sameKey (.int .i64 r.f0)) l := by
  unfold there
  rw [filter_note l _ r h hr (by rw [hl]; rfl)]
  refine List.filter_congr (fun z hz => ?_)
  show (!left (.int .i64 z.f0) || decide (z.f0 = r.f0)) = !(left (.int .i64 z.f0) && !(Lit.int .i64 z.f0).sameKey (.int .i64 r.f0))
  rw [same_int]
  cases left (.int .i64 z.f0) <;> simp
theorem at_find (l : List La) (x c1 c2 c3 : Int) (h : ∀ zd, (datL l).atKey (.int .i64 x) zd = el c1 c2 c3) : ∃ r ∈ l, r.f0 = x ∧ r.f1 = c1 ∧ r.f2 = c2 ∧ r.f3 = c3 := by
  have h0 : Maps.has (datL l) (.int .i64 x) = true := Maps.has_true_of_atKey h
  rw [has_eq'] at h0
  obtain ⟨r, hr⟩ := Option.isSome_iff_exists.1 h0
  have h1 := h (el 0 0 0)
  rw [at_eq] at h1
  unfold lookL at h1
  rw [hr] at h1
  simp only [el, DataW.agg.injEq, List.cons.injEq, DataW.lit.injEq, Lit.int.injEq, true_and, and_true] at h1
  exact ⟨r, (find_some hr).1, (find_some hr).2, h1.1, h1.2.1, h1.2.2⟩
theorem R3_any {v : Value} {y : DataW Unit × List MemPlace} (h : R3 v = some y) : ∃ c : Int × Int × Int, v = .agg #[.int .i64 c.1, .int .i64 c.2.1, .int .i64 c.2.2] := by
  unfold R3 at h
  split at h
  · rename_i cs
    split at h
    · rename_i a b c he
      refine ⟨(a, b, c), ?_⟩
      congr 1
      exact Array.ext' he
    · cases h
  · cases h
theorem blk_below' {W W' : World} {g : Nat} {ob : Obj} (h : W.heap[g]? = some ob) (hb : Below W.heap.size W W') : W'.heap[g]? = some ob :=
  (hb.block g (Array.getElem?_eq_some_iff.1 h).1).trans h
theorem load_run' {P : Program} {o : Oper} {a : Act} {W : World} {ty : TypeId} {p : Tmp} (ho : o.op = .load ty (.tmp p)) {g : Nat} (hx : a.eval (.tmp p) = .pointer (some ⟨g, 0, none⟩)) {t : TypeId} {cs : Array Value} {d : TypeDesc} (hg : W.heap[g]? = some (.cells cs t (0, 0)))
    (hu : P.underlying ty = some d) (hd : (match d with | .struct _ | .array _ _ => true | _ => false) = true) (hi : (P.info? ty).map (·.size) = some cs.size) : (execOp a.eval o).run P W = .ok (.value (.agg cs)) W := by
  unfold execOp
  simp only [ho, hx, Instr.loadAt, Instr.sureAddr, Sem.run_bind, Sem.run_pure, Result.andThen_ok, run_loadVar_row W g t ty cs (0, 0) d hg hu hd hi]
set_option maxHeartbeats 16000000 in
set_option maxRecDepth 100000 in
theorem copy_calls (g b : Nat) (l : List La) (w : World) (hT : Tab w g b l) (hl : l.length ≤ 1000) :
    Calls Try.prog 27 #[.pointer (some ⟨g, 0, none⟩)] w fun e w' => ∃ g2 b2, e = .returned (.pointer (some ⟨g2, 0, none⟩)) ∧ Tab w' g2 b2 l ∧ w.heap.size ≤ g2 ∧ w.heap.size ≤ b2 ∧ Below w.heap.size w w' := by
  have HT := Aside0.mk hT
  clear hT
  go_enter Try.func27, Try.ntmps27
  go_wp2_with fail
  refine (new_calls w).mono ?_
  rintro e w1 ⟨g2, b2, rfl, hT2, hg2, hb2, hb⟩
  have HT2 := Aside0.mk hT2
  have HB := Aside0.mk hb
  have hc1 := (HT.out.later hb).cell0
  clear hT2 hb
  go_wp2_with (first
    | (at_range; refine wpList_range_own _ rfl _ 90 rfl 3 96 int_law Try.underlying90 R3 b l.length (datL l) rfl (HT.out.later HB.out).own ?_; intro w2 hrg hg0 hs0))
  go_frame
  have hr1 : w.heap.size ≤ w1.heap.size := HB.out.size
  have hbl : Below w1.heap.size w1 w2 := ⟨hg0.os, hg0.tape, hg0.output, hg0.size, fun i hi => hg0.block i hi (by simp)⟩
  have HRG := Aside0.mk hrg
  have n_T := Aside0.mk (HT2.out.later hbl)
  have n_B := Aside0.mk (below_step HB.out hbl)
  have HG2 := Aside0.mk HT2.out.lt
  have HB2 := Aside0.mk HT2.out.blt
  have hgl := Aside0.mk (HT.out.blt)
  generalize w1.heap.size = r at *
  clear HT2 HB hrg hg0 hs0 hbl hc1
  have HT2 := n_T
  have HB := n_B
  clear n_T n_B
  go_loopw [4] (fun _ wr => ∃ left cnt, Aside0 (wr.ranges Try.prog 3 R3 b r l.length (datL l) left cnt) ∧ Aside0 (Tab wr g2 b2 (there left l)) ∧ Aside0 (Below w.heap.size w wr)) (fun _ wr => wr.rangeLeft b r)
  case atStart => exact ⟨_, _, HRG, ⟨by rw [there_start]; exact HT2.out⟩, HB⟩
  case round =>
    clear HRG HT2 HB
    obtain ⟨left, cnt, HRG, HT2, HB⟩ := hrel
    go_wp2_with (first
      | (at_next; refine wpList_next_ranges _ rfl _ rfl 3 int_law R3 (Value.int .i64) (fun c : Int × Int × Int => .agg #[.int .i64 c.1, .int .i64 c.2.1, .int .i64 c.2.2]) (fun key kl hk => by obtain ⟨x, rfl, _, _⟩ := Maps.keyOf_int_inv Try.underlying3 hk; exact ⟨x, rfl⟩) (fun v y hv => R3_any hv) b r l.length _ _ _ rfl HRG.out ?_ ?_))
    · intro hc0 hl0
      have HL := Aside0.mk (there_end l left hl0)
      clear hl0
      go_wp2_with fail
      go_ret
      exact ⟨g2, b2, rfl, by rw [← HL.out]; exact HT2.out, hg2, hb2, HB.out⟩
    · intro x c1 c2 c3 kl y0 ps w3 cnt1 hkey hlk hRy hat hrg1 hlt hg3 hs3 hen
      obtain ⟨x', ex, rfl, hwx⟩ := Maps.keyOf_int_inv Try.underlying3 hkey
      cases ex
      have hy1 : y0 = el c1 c2 c3 := by
        have h9 : some (el c1 c2 c3, []) = some (y0, ps) := hRy
        exact (congrArg Prod.fst (Option.some.inj h9)).symm
      rw [hy1] at hat
      obtain ⟨rec, hrm, e0, e1, e2, e3⟩ := at_find l x c1 c2 c3 hat
      have hok := HT.out.ok rec hrm
      obtain rfl := e0
      obtain rfl := e1
      obtain rfl := e2
      obtain rfl := e3
      have hst := Aside0.mk (there_step l left HT.out.ris rec hrm hlk)
      have HOK := Aside0.mk hok
      have HRG1 := Aside0.mk hrg1
      have HEQ := Aside0.mk HRG.out.left_eq
      have HLT := Aside0.mk hlt
      have HPW : wfI rec.f0 := by have := of_decide_eq_true hok.1; exact ⟨by omega, by omega⟩
      have n_T := Aside0.mk (HT2.out.kept hg3 (Nat.ne_of_lt HG2.out) (Nat.ne_of_lt HB2.out))
      have n_B := Aside0.mk (below_put HB.out hr1 hg3 HB.out.size)
      clear HT2 HB HRG hkey hlk hRy hat hrg1 hlt hg3 hy1 hok hwx hrm
      have HT2 := n_T
      have HB := n_B
      clear n_T n_B
      have hthr : (there (fun z => left z && !z.sameKey (.int .i64 rec.f0)) l).length ≤ 1000 := Nat.le_trans (List.length_filter_le _ _) hl
      have hth0 : (there left l).length ≤ 1000 := Nat.le_trans (List.length_filter_le _ _) hl
      obtain ⟨p0, c1, c2, c3⟩ := rec
      simp only at hst HOK HRG1 HPW hen
      go_wp2_with (first
        | ((with_reducible refine gate_dst (N := 5) rfl ?_); refine box_event rfl (N := 5) rfl (cs := #[.int .i64 0, .int .i64 0, .int .i64 0]) (t := 96) ?hr ?_; (case hr => first | (go_simp; done) | (go_simp; rfl)); intro g5 hg5 w4 hbx hbl; have n_RG := Aside0.mk (HRG1.out.kept (gb_below (r := none) hbl) (by simp) (by simp)); have n_T := Aside0.mk (HT2.out.later hbl); have n_HB := Aside0.mk (below_step HB.out hbl); have G5 := Aside0.mk hg5; have HSZ := Aside0.mk (show w.heap.size ≤ g5 by rw [hg5]; exact HB.out.size); have NG := Aside0.mk (show g2 ≠ g5 by rw [hg5]; exact Nat.ne_of_lt HT2.out.lt); have NB := Aside0.mk (show b2 ≠ g5 by rw [hg5]; exact Nat.ne_of_lt HT2.out.blt); have NR := Aside0.mk (show r ≠ g5 by rw [hg5]; exact Nat.ne_of_lt HRG1.out.lt); have NO := Aside0.mk (show b ≠ g5 by rw [hg5]; exact Nat.ne_of_lt HRG1.out.owns.lt); have Y := Aside0.mk hbx; clear HB HT2 HRG1 hbx hbl hg5; have HB := n_HB; have HT2 := n_T; have HRG1 := n_RG; clear n_HB n_T n_RG)
        | ((with_reducible refine gate_store (t := 96) (p := 5) rfl ?_); refine store_ev rfl rfl rfl (cells := #[.int .i64 c1, .int .i64 c2, .int .i64 c3]) rfl rfl Y.out (by kernel_rfl) rfl (by kernel_rfl) ?_; intro w5 hbx hgr; have n_RG := Aside0.mk (HRG1.out.kept hgr (fun e => NO.out (Option.some.inj e)) (fun e => NR.out (Option.some.inj e))); have n_T := Aside0.mk (HT2.out.kept hgr NG.out NB.out); have n_HB := Aside0.mk (below_put HB.out HSZ.out hgr HB.out.size); have n_Y := Aside0.mk hbx; clear HB HT2 HRG1 Y hbx hgr; have HB := n_HB; have HT2 := n_T; have HRG1 := n_RG; have Y := n_Y; clear n_HB n_T n_RG n_Y))
      refine start_ (n := 7) (S := fun w' => w'.cell? ⟨g2, 0, none⟩ = some (.map (some b2)) ∧ w'.heap[g5]? = some (.cells #[.int .i64 c1, .int .i64 c2, .int .i64 c3] 96 (0, 0))) (ds := []) #[false, false, false, false, false, false, false] (by kernel_rfl) rfl rfl ⟨HT2.out.cell0, Y.out⟩ (fun _ => ?_)
      have n_HB := Aside0.mk (below_drew1 HB.out)
      have n_Y := Aside0.mk (show w5.drew.heap[g5]? = some (.cells #[.int .i64 c1, .int .i64 c2, .int .i64 c3] 96 (0, 0)) from Y.out)
      have n_HT2 := Aside0.mk (HT2.out.later (below_drew1 (Below.refl _ _)))
      have n_HRG1 := Aside0.mk (HRG1.out.kept (gb_below (r := none) (below_drew1 (Below.refl _ _))) (by simp) (by simp))
      clear HB Y HT2 HRG1
      have HB := n_HB
      have Y := n_Y
      have HT2 := n_HT2
      have HRG1 := n_HRG1
      clear n_HB n_Y n_HT2 n_HRG1
      generalize w5.drew = V0 at *
      refine pure_ (i := 0) (N := some 19) (v := ?_) (a' := ?_) #[true, false, false, false, false, false, false] rfl rfl (by kernel_rfl) (fun _ _ _ h => h) (Or.inl ⟨by rfl, ?_⟩) ?_ ?_
      rotate_left
      · intro w'
        go_simp
        with_reducible rfl
      rotate_left
      · simp only [Act.put, List.setIfInBounds_toArray, List.set_cons_zero, List.set_cons_succ]
        rfl
      refine pure_ (i := 1) (N := some 20) (v := ?_) (a' := ?_) #[true, true, false, false, false, false, false] rfl rfl (by kernel_rfl) (fun _ _ _ h => h) (Or.inl ⟨by rfl, ?_⟩) ?_ ?_
      rotate_left
      · intro w'
        go_simp
        with_reducible rfl
      rotate_left
      · simp only [Act.put, List.setIfInBounds_toArray, List.set_cons_zero, List.set_cons_succ]
        rfl
      refine pure_ (i := 2) (N := some 21) (v := ?_) (a' := ?_) #[true, true, true, false, false, false, false] rfl rfl (by kernel_rfl) (fun _ _ _ h => h) (Or.inl ⟨by rfl, ?_⟩) ?_ ?_
      rotate_left
      · intro w'
        go_simp
        with_reducible rfl
      rotate_left
      · simp only [Act.put, List.setIfInBounds_toArray, List.set_cons_zero, List.set_cons_succ]
        rfl
      refine take_ (i := 3) (N := some 22) (v := ?_) (a' := ?_) #[true, true, true, true, false, false, false] rfl rfl (by kernel_rfl) (fun _ _ _ h => h) (Or.inl ⟨by rfl, ?_⟩) ⟨HT2.out.cell0, Y.out⟩ ?_ ?_
      rotate_left
      · intro w' hS
        obtain ⟨h1, h2⟩ := hS
        go_simp
        with_reducible rfl
      rotate_left
      · simp only [Act.put, List.setIfInBounds_toArray, List.set_cons_zero, List.set_cons_succ]
        rfl
      refine pure_ (i := 4) (N := some 23) (v := ?_) (a' := ?_) #[true, true, true, true, true, false, false] rfl rfl (by kernel_rfl) (fun _ _ _ h => h) (Or.inl ⟨by rfl, ?_⟩) ?_ ?_
      rotate_left
      · intro w'
        go_simp
        with_reducible rfl
      rotate_left
      · simp only [Act.put, List.setIfInBounds_toArray, List.set_cons_zero, List.set_cons_succ]
        rfl
      refine take_ (i := 5) (N := some 24) (v := .agg #[.int .i64 c1, .int .i64 c2, .int .i64 c3]) (a' := ?_) #[true, true, true, true, true, true, false] rfl rfl (by kernel_rfl) (fun _ _ _ h => h) (Or.inl ⟨by rfl, fun w' hS => load_run' (p := 5) rfl rfl hS.2 Try.underlying96 rfl (by kernel_rfl)⟩) ⟨HT2.out.cell0, Y.out⟩ ?_ ?_
      rotate_left
      · simp only [Act.put, List.setIfInBounds_toArray, List.set_cons_zero, List.set_cons_succ]
        rfl
      refine one_ (i := 6) (N := none) #[true, true, true, true, true, true, true] rfl rfl (by kernel_rfl) (by simp) (fun K hK => ?_)
      obtain ⟨w7, hrun, hown, hgr⟩ := HT2.out.own.update int_law Try.underlying90 (Nat.lt_of_le_of_lt hth0 (by unfold maxLen; omega)) (key_int HPW) (R3_mk c1 c2 c3)
      have hT7 := HT2.out.stored ⟨p0, c1, c2, c3⟩ HOK.out hown hgr
      rw [hst.out] at hT7
      have n_RG := Aside0.mk (HRG1.out.kept hgr (fun e => Nat.ne_of_lt (Nat.lt_of_lt_of_le hgl.out hb2) (Option.some.inj e)) (fun e => Nat.ne_of_lt HB2.out (Option.some.inj e).symm))
      have n_HB := Aside0.mk (below_put HB.out hb2 hgr HB.out.size)
      have n_T := Aside0.mk hT7
      have n_C := Aside0.mk hT7.cell0
      have n_Y := Aside0.mk (show w7.heap[g5]? = some (.cells #[.int .i64 c1, .int .i64 c2, .int .i64 c3] 96 (0, 0)) from (hgr.block g5 (Array.getElem?_eq_some_iff.1 Y.out).1 (fun e => NB.out (Option.some.inj e).symm)).trans Y.out)
      refine skip_ (w1 := w7) (by rfl) rfl (by simp [execOp, Act.eval, hrun, Result.andThen]) (hK.out _ _ ⟨n_C.out, n_Y.out⟩ (fun _ => ?_))
      clear hK K hrun hown hgr hT7 HB HT2 HRG1 Y
      have HB := n_HB
      have HT2 := n_T
      have HRG1 := n_RG
      clear n_HB n_T n_RG n_Y n_C
      refine done_ (by kernel_rfl) ?_
      go_wp2_with fail
      go_roundw
      case rel => exact ⟨_, cnt1, HRG1, HT2, HB⟩
      case measure => rw [HRG1.out.left_eq, HEQ.out]; exact HLT.out
end Go.Proofs.Ytgojaomldkgojaa.Dd
