import Derived.Test.YtohhlkabejangaaMb3
namespace Go.Proofs.Ytohhlkabejangaa.Mb
set_option linter.unusedVariables false
set_option linter.unusedSimpArgs false
open Go.RowKit Go.Maps Go.Sort Go.Proofs.YtohhlkabejangaaW.PrintWords Go.Proofs.YtohhlkabejangaaW.PrintLast Go.Proofs.YtohhlkabejangaaW.PrintMore Go.Proofs.Ytohhlkabejangaa.PAs Go.Proofs.Ytohhlkabejangaa.As
/-! ### what Join, Leave and Beat come to, behind the sweep -/
def setM (m : MG) (x : ByteArray) (slot : Int) : MG := { m with L := putM m.L ⟨x, slot⟩ }
def jn (m : MG) (x : ByteArray) (slot : Int) : MG × Int × Int :=
  if isM m.L x.toList = true then (setM m x slot, m.g, 0) else if m.L.length = 8 then (m, 0, 5) else (setM { m with g := m.g + 1 } x slot, m.g + 1, 0)
def lv (m : MG) (x : ByteArray) : MG × Int := if isM m.L x.toList = true then ({ m with g := m.g + 1, L := delM m.L x.toList }, 0) else (m, 36)
def bt (m : MG) (x : ByteArray) (gen slot : Int) : MG × Int := if isM m.L x.toList = true then (if gen = m.g then (setM m x slot, 0) else (m, 35)) else (m, 36)
def joinM (m : MG) (x : ByteArray) (slot : Int) : MG × Int × Int := if begB m x slot = true then jn (sweepM m slot) x slot else (m, 0, 1)
def leaveM (m : MG) (x : ByteArray) (slot : Int) : MG × Int := if begB m x slot = true then lv (sweepM m slot) x else (m, 1)
def beatM (m : MG) (x : ByteArray) (gen slot : Int) : MG × Int := if begB m x slot = true then bt (sweepM m slot) x gen slot else (m, 1)
def swpM (m : MG) (slot : Int) : MG × Int := if okS m slot = true then (sweepM m slot, outM m slot) else (m, 0)
theorem okM_set {m : MG} (h : okM m) (hr : RisM m.L) {x : ByteArray} {slot : Int} (hx : nameB x = true) (hs : 0 ≤ slot ∧ slot ≤ 1099511627776) (hn : isM m.L x.toList = true ∨ m.L.length ≠ 8) : okM (setM m x slot) := by
  refine ⟨h.p, h.w, h.g, h.s, ?_, fun y hy => ?_⟩
  · show (putM m.L ⟨x, slot⟩).length ≤ 8
    rw [putM_len _ _ hr]
    have h8 := h.n
    split
    · exact h8
    · rename_i h1
      rcases hn with h2 | h2
      · exact (h1 h2).elim
      · omega
  · rcases putM_mem _ _ _ hy with rfl | hy
    · exact ⟨hx, hs⟩
    · exact h.a y hy
theorem okM_gen {m : MG} (h : okM m) : okM { m with g := m.g + 1 } := ⟨h.p, h.w, by have := h.g; show 0 ≤ m.g + 1; omega, h.s, h.n, h.a⟩
theorem okM_del {m : MG} (h : okM m) (x : List UInt8) : okM { m with L := delM m.L x } := ⟨h.p, h.w, h.g, h.s, Nat.le_trans (List.length_filter_le _ _) h.n, fun y hy => h.a y (List.mem_filter.1 hy).1⟩
theorem beg_parts {m : MG} {x : ByteArray} {slot : Int} (h : begB m x slot = true) (hok : okM m) : nameB x = true ∧ okS m slot = true ∧ 0 ≤ slot ∧ slot ≤ 1099511627776 := by
  unfold begB at h
  rw [Bool.and_eq_true] at h
  have h2 := h.2
  unfold okS at h2
  simp only [Bool.and_eq_true, decide_eq_true_eq] at h2
  have := hok.s
  exact ⟨h.1, h.2, by omega, h2.2⟩
theorem okM_join {m : MG} (h : okM m) (hr : RisM m.L) (x : ByteArray) (slot : Int) : okM (joinM m x slot).1 := by
  unfold joinM
  split
  · rename_i hb
    obtain ⟨h1, h2, h3⟩ := beg_parts hb h
    have hk := okM_sweep h h2
    have hr2 : RisM (sweepM m slot).L := ris_filter hr _
    unfold jn
    split
    · rename_i hi
      exact okM_set hk hr2 h1 h3 (.inl hi)
    · split
      · exact hk
      · rename_i h8
        exact okM_set (m := { sweepM m slot with g := (sweepM m slot).g + 1 }) (okM_gen hk) hr2 h1 h3 (.inr h8)
  · exact h
theorem okM_leave {m : MG} (h : okM m) (x : ByteArray) (slot : Int) : okM (leaveM m x slot).1 := by
  unfold leaveM
  split
  · rename_i hb
    obtain ⟨h1, h2, h3⟩ := beg_parts hb h
    have hk := okM_sweep h h2
    unfold lv
    split
    · exact okM_gen (okM_del hk x.toList)
    · exact hk
  · exact h
theorem okM_beat {m : MG} (h : okM m) (hr : RisM m.L) (x : ByteArray) (gen slot : Int) : okM (beatM m x gen slot).1 := by
  unfold beatM
  split
  · rename_i hb
    obtain ⟨h1, h2, h3⟩ := beg_parts hb h
    have hk := okM_sweep h h2
    have hr2 : RisM (sweepM m slot).L := ris_filter hr _
    unfold bt
    split
    · rename_i hi
      split
      · exact okM_set hk hr2 h1 h3 (.inl hi)
      · exact hk
    · exact hk
  · exact h
theorem okM_swp {m : MG} (h : okM m) (slot : Int) : okM (swpM m slot).1 := by
  unfold swpM
  split
  · rename_i hs
    exact okM_sweep h hs
  · exact h
set_option maxHeartbeats 16000000 in
set_option maxRecDepth 100000 in
theorem join_calls (a b : Nat) (m : MG) (x : ByteArray) (slot : Int) (hx : x.size ≤ 1000) (w : World) (hT : Tab w a b m) (hok : okM m) (hg : m.g ≤ 1000000) :
    Calls Try.prog 34 #[.pointer (some ⟨a, 0, none⟩), .string x, .int .i64 slot] w fun e w' => e = .returned (.tuple #[.int .i64 (joinM m x slot).2.1, .int .i64 (joinM m x slot).2.2]) ∧ Tab w' a b (joinM m x slot).1 ∧ Far w w' a b := by
  have hund : ∀ b, some undef = some (Value.bool b) → False := fun b h => by simp [undef] at h
  have hbg := Aside0.mk (begin_calls a b m x slot hx w hT hok hg)
  have hgs : (sweepM m slot).g ≤ 1000001 := by
    unfold sweepM
    simp only []
    split <;> omega
  have hg0 : 0 ≤ (sweepM m slot).g := by
    have := hok.g
    unfold sweepM
    simp only []
    split <;> omega
  have hn8 : (sweepM m slot).L.length ≤ 8 := Nat.le_trans (List.length_filter_le _ _) hok.n
  have hslot := fun hb : begB m x slot = true => (beg_parts hb hok).2.2
  clear hT hok
  cases hb : begB m x slot with
  | false =>
    rw [hb, show begM m x slot = m by unfold begM; rw [hb]; rfl] at hbg
    have he : joinM m x slot = (m, 0, 1) := by unfold joinM; rw [hb]; rfl
    rw [he]
    clear he hslot
    go_enter Try.func34, Try.ntmps34
    go_wp2_with fail
    refine hbg.out.mono ?_
    rintro e w1 ⟨rfl, hT1, hF1⟩
    have HT := Aside0.mk hT1
    have HF := Aside0.mk hF1
    clear hT1 hF1 hbg
    go_wp2_with fail
    exact bodyPost_ret (v := .tuple #[.int .i64 0, .int .i64 1]) (by simp [results, Try.results34, go_sem]) rfl ⟨rfl, HT.out, HF.out⟩
  | true =>
    rw [hb, show begM m x slot = sweepM m slot by unfold begM; rw [hb]; rfl] at hbg
    have he : joinM m x slot = jn (sweepM m slot) x slot := by unfold joinM; rw [hb]; rfl
    rw [he]
    have hs := hslot hb
    clear he hslot hb
    generalize sweepM m slot = m1 at *
    unfold jn
    obtain ⟨bi, hbi⟩ : ∃ bi, isM m1.L x.toList = bi := ⟨_, rfl⟩
    cases bi with
    | true =>
      rw [if_pos hbi]
      go_enter Try.func34, Try.ntmps34
      go_wp2_with fail
      refine hbg.out.mono ?_
      rintro e w1 ⟨rfl, hT1, hF1⟩
      have HT := Aside0.mk hT1
      have HF := Aside0.mk hF1
      clear hT1 hF1 hbg
      go_wp2_with fail
      refine (is_calls a b m1 x hx w1 HT.out).mono ?_
      rw [hbi]
      rintro e w2 ⟨rfl, hb2⟩
      have n_HT := Aside0.mk (HT.out.later hb2)
      have n_HF := Aside0.mk (HF.out.trans (Far.below hb2))
      clear HT HF hb2
      have HT := n_HT
      have HF := n_HF
      clear n_HT n_HF
      have hc4 : w2.cell? ⟨a, 4, none⟩ = some (.map (some b)) := HT.out.c 4
      have hc2 : w2.cell? ⟨a, 2, none⟩ = some (.int .i64 m1.g) := HT.out.c 2
      have hz2 : w2.frozen? ⟨a, 2, none⟩ = false := HT.out.z 2
      go_wp2_with (first
        | (at_mapUpdate; refine wpList_mapUpdate_own _ rfl _ _ _ 143 rfl 9 3 str_law Try.underlying143 _ b m1.L.length _ rfl HT.out.own (by unfold maxLen; omega) _ _ _ rfl rfl (key_B x hx) _ [] (plainElem_int Try.underlying3 (WalkArith.wf_i64 (by omega))) ?_; intro w5 hown hgr; have n_HT := Aside0.mk (show Tab w5 a b (setM m1 x slot) from HT.out.turn hgr (by rw [← putM_eq _ _ HT.out.ris]; exact hown) (putM_ris _ _ HT.out.ris)); have n_HF := Aside0.mk (HF.out.trans (Far.grown hgr)); clear HT HF hown hgr; have HT := n_HT; have HF := n_HF; clear n_HT n_HF; have hcg : w5.cell? ⟨a, 2, none⟩ = some (.int .i64 m1.g) := HT.out.c 2))
      exact bodyPost_ret (v := .tuple #[.int .i64 m1.g, .int .i64 0]) (by simp [results, Try.results34, go_sem]) rfl ⟨rfl, HT.out, HF.out⟩
    | false =>
      rw [if_neg (by rw [hbi]; decide)]
      by_cases h8 : m1.L.length = 8
      · rw [if_pos h8]
        have d8 : ((m1.L.length : Int) == 8) = true := by rw [h8]; rfl
        clear h8
        go_enter Try.func34, Try.ntmps34
        go_wp2_with fail
        refine hbg.out.mono ?_
        rintro e w1 ⟨rfl, hT1, hF1⟩
        have HT := Aside0.mk hT1
        have HF := Aside0.mk hF1
        clear hT1 hF1 hbg
        go_wp2_with fail
        refine (is_calls a b m1 x hx w1 HT.out).mono ?_
        rw [hbi]
        rintro e w2 ⟨rfl, hb2⟩
        have n_HT := Aside0.mk (HT.out.later hb2)
        have n_HF := Aside0.mk (HF.out.trans (Far.below hb2))
        clear HT HF hb2
        have HT := n_HT
        have HF := n_HF
        clear n_HT n_HF
        have hc4 : w2.cell? ⟨a, 4, none⟩ = some (.map (some b)) := HT.out.c 4
        have hc2 : w2.cell? ⟨a, 2, none⟩ = some (.int .i64 m1.g) := HT.out.c 2
        have hz2 : w2.frozen? ⟨a, 2, none⟩ = false := HT.out.z 2
        have hlen := fun ty => HT.out.len ty
        go_wp2_with fail
        exact bodyPost_ret (v := .tuple #[.int .i64 0, .int .i64 5]) (by simp [results, Try.results34, go_sem]) rfl ⟨rfl, HT.out, HF.out⟩
      · rw [if_neg h8]
        have d8 : ((m1.L.length : Int) == 8) = false := beq_eq_false_iff_ne.2 (by omega)
        clear h8
        have hw1 : wrap64 (m1.g + 1) = m1.g + 1 := w64 _ (by omega) (by omega)
        have hw2 : IntKind.i64.wrap (m1.g + 1) = m1.g + 1 := IntWalk.i64_in _ (by omega)
        go_enter Try.func34, Try.ntmps34
        go_wp2_with fail
        refine hbg.out.mono ?_
        rintro e w1 ⟨rfl, hT1, hF1⟩
        have HT := Aside0.mk hT1
        have HF := Aside0.mk hF1
        clear hT1 hF1 hbg
        go_wp2_with fail
        refine (is_calls a b m1 x hx w1 HT.out).mono ?_
        rw [hbi]
        rintro e w2 ⟨rfl, hb2⟩
        have n_HT := Aside0.mk (HT.out.later hb2)
        have n_HF := Aside0.mk (HF.out.trans (Far.below hb2))
        clear HT HF hb2
        have HT := n_HT
        have HF := n_HF
        clear n_HT n_HF
        have hc4 : w2.cell? ⟨a, 4, none⟩ = some (.map (some b)) := HT.out.c 4
        have hc2 : w2.cell? ⟨a, 2, none⟩ = some (.int .i64 m1.g) := HT.out.c 2
        have hz2 : w2.frozen? ⟨a, 2, none⟩ = false := HT.out.z 2
        have hlen := fun ty => HT.out.len ty
        go_upto_region 8 with fail
        have n_T := Aside0.mk (HT.out.set 2 (.int .i64 (m1.g + 1)) (m' := { m1 with g := m1.g + 1 }) rfl rfl)
        have n_F := Aside0.mk (HF.out.trans (Far.set w2 a b 2 (.int .i64 (m1.g + 1))))
        clear HT HF hc4 hc2 hz2 hlen
        generalize w2.setCell ⟨a, 2, none⟩ (.int .i64 (m1.g + 1)) = w4 at *
        have HT := n_T
        have HF := n_F
        clear n_T n_F
        have hc4 : w4.cell? ⟨a, 4, none⟩ = some (.map (some b)) := HT.out.c 4
        go_wp2_with (first
          | (at_mapUpdate; refine wpList_mapUpdate_own _ rfl _ _ _ 143 rfl 9 3 str_law Try.underlying143 _ b m1.L.length _ rfl HT.out.own (by unfold maxLen; omega) _ _ _ rfl rfl (key_B x hx) _ [] (plainElem_int Try.underlying3 (WalkArith.wf_i64 (by omega))) ?_; intro w5 hown hgr; have n_HT := Aside0.mk (show Tab w5 a b (setM { m1 with g := m1.g + 1 } x slot) from HT.out.turn hgr (by rw [← putM_eq _ _ HT.out.ris]; exact hown) (putM_ris _ _ HT.out.ris)); have n_HF := Aside0.mk (HF.out.trans (Far.grown hgr)); clear HT HF hown hgr; have HT := n_HT; have HF := n_HF; clear n_HT n_HF; have hcg : w5.cell? ⟨a, 2, none⟩ = some (.int .i64 (m1.g + 1)) := HT.out.c 2))
        exact bodyPost_ret (v := .tuple #[.int .i64 (m1.g + 1), .int .i64 0]) (by simp [results, Try.results34, go_sem]) rfl ⟨rfl, HT.out, HF.out⟩
set_option maxHeartbeats 16000000 in
set_option maxRecDepth 100000 in
theorem leave_calls (a b : Nat) (m : MG) (x : ByteArray) (slot : Int) (hx : x.size ≤ 1000) (w : World) (hT : Tab w a b m) (hok : okM m) (hg : m.g ≤ 1000000) :
    Calls Try.prog 36 #[.pointer (some ⟨a, 0, none⟩), .string x, .int .i64 slot] w fun e w' => e = .returned (.int .i64 (leaveM m x slot).2) ∧ Tab w' a b (leaveM m x slot).1 ∧ Far w w' a b := by
  have hund : ∀ b, some undef = some (Value.bool b) → False := fun b h => by simp [undef] at h
  have hbg := Aside0.mk (begin_calls a b m x slot hx w hT hok hg)
  have hgs : (sweepM m slot).g ≤ 1000001 := by
    unfold sweepM
    simp only []
    split <;> omega
  have hg0 : 0 ≤ (sweepM m slot).g := by
    have := hok.g
    unfold sweepM
    simp only []
    split <;> omega
  have hn8 : (sweepM m slot).L.length ≤ 8 := Nat.le_trans (List.length_filter_le _ _) hok.n
  have hslot := fun hb : begB m x slot = true => (beg_parts hb hok).2.2
  clear hT hok
  cases hb : begB m x slot with
  | false =>
    rw [hb, show begM m x slot = m by unfold begM; rw [hb]; rfl] at hbg
    have he : leaveM m x slot = (m, 1) := by unfold leaveM; rw [hb]; rfl
    rw [he]
    clear he hslot
    go_enter Try.func36, Try.ntmps36
    go_wp2_with fail
    refine hbg.out.mono ?_
    rintro e w1 ⟨rfl, hT1, hF1⟩
    have HT := Aside0.mk hT1
    have HF := Aside0.mk hF1
    clear hT1 hF1 hbg
    go_wp2_with fail
    go_ret
    exact ⟨rfl, HT.out, HF.out⟩
  | true =>
    rw [hb, show begM m x slot = sweepM m slot by unfold begM; rw [hb]; rfl] at hbg
    have he : leaveM m x slot = lv (sweepM m slot) x := by unfold leaveM; rw [hb]; rfl
    rw [he]
    have hs := hslot hb
    clear he hslot hb
    generalize sweepM m slot = m1 at *
    unfold lv
    obtain ⟨bi, hbi⟩ : ∃ bi, isM m1.L x.toList = bi := ⟨_, rfl⟩
    cases bi with
    | false =>
      rw [if_neg (by rw [hbi]; decide)]
      go_enter Try.func36, Try.ntmps36
      go_wp2_with fail
      refine hbg.out.mono ?_
      rintro e w1 ⟨rfl, hT1, hF1⟩
      have HT := Aside0.mk hT1
      have HF := Aside0.mk hF1
      clear hT1 hF1 hbg
      go_wp2_with fail
      refine (is_calls a b m1 x hx w1 HT.out).mono ?_
      rw [hbi]
      rintro e w2 ⟨rfl, hb2⟩
      have n_HT := Aside0.mk (HT.out.later hb2)
      have n_HF := Aside0.mk (HF.out.trans (Far.below hb2))
      clear HT HF hb2
      have HT := n_HT
      have HF := n_HF
      clear n_HT n_HF
      go_wp2_with fail
      go_ret
      exact ⟨rfl, HT.out, HF.out⟩
    | true =>
      rw [if_pos hbi]
      have hw1 : wrap64 (m1.g + 1) = m1.g + 1 := w64 _ (by omega) (by omega)
      have hw2 : IntKind.i64.wrap (m1.g + 1) = m1.g + 1 := IntWalk.i64_in _ (by omega)
      go_enter Try.func36, Try.ntmps36
      go_wp2_with fail
      refine hbg.out.mono ?_
      rintro e w1 ⟨rfl, hT1, hF1⟩
      have HT := Aside0.mk hT1
      have HF := Aside0.mk hF1
      clear hT1 hF1 hbg
      go_wp2_with fail
      refine (is_calls a b m1 x hx w1 HT.out).mono ?_
      rw [hbi]
      rintro e w2 ⟨rfl, hb2⟩
      have n_HT := Aside0.mk (HT.out.later hb2)
      have n_HF := Aside0.mk (HF.out.trans (Far.below hb2))
      clear HT HF hb2
      have HT := n_HT
      have HF := n_HF
      clear n_HT n_HF
      have hc4 : w2.cell? ⟨a, 4, none⟩ = some (.map (some b)) := HT.out.c 4
      have hc2 : w2.cell? ⟨a, 2, none⟩ = some (.int .i64 m1.g) := HT.out.c 2
      have hz2 : w2.frozen? ⟨a, 2, none⟩ = false := HT.out.z 2
      go_wp2_with (first
        | (at_delete; refine wpList_delete_own _ rfl _ _ 143 9 rfl 3 str_law Try.underlying143 _ b m1.L.length _ rfl HT.out.own _ _ rfl (key_B x hx) ?_; intro w5 hown hturn; have n_HT := Aside0.mk (show Tab w5 a b { m1 with L := delM m1.L x.toList } from HT.out.turn hturn.grown (by rw [← delM_eq]; exact hown) (ris_filter HT.out.ris _)); have n_HF := Aside0.mk (HF.out.trans (Far.grown hturn.grown)); clear HT HF hown hturn hc2 hz2; have HT := n_HT; have HF := n_HF; clear n_HT n_HF; have hcg : w5.cell? ⟨a, 2, none⟩ = some (.int .i64 m1.g) := HT.out.c 2; have hzg : w5.frozen? ⟨a, 2, none⟩ = false := HT.out.z 2))
      go_ret
      exact ⟨rfl, HT.out.set 2 (.int .i64 (m1.g + 1)) rfl rfl, HF.out.trans (Far.set _ _ _ _ _)⟩
set_option maxHeartbeats 16000000 in
set_option maxRecDepth 100000 in
theorem beat_calls (a b : Nat) (m : MG) (x : ByteArray) (gen slot : Int) (hx : x.size ≤ 1000) (w : World) (hT : Tab w a b m) (hok : okM m) (hg : m.g ≤ 1000000) :
    Calls Try.prog 37 #[.pointer (some ⟨a, 0, none⟩), .string x, .int .i64 gen, .int .i64 slot] w fun e w' => e = .returned (.int .i64 (beatM m x gen slot).2) ∧ Tab w' a b (beatM m x gen slot).1 ∧ Far w w' a b := by
  have hund : ∀ b, some undef = some (Value.bool b) → False := fun b h => by simp [undef] at h
  have hbg := Aside0.mk (begin_calls a b m x slot hx w hT hok hg)
  have hgs : (sweepM m slot).g ≤ 1000001 := by
    unfold sweepM
    simp only []
    split <;> omega
  have hg0 : 0 ≤ (sweepM m slot).g := by
    have := hok.g
    unfold sweepM
    simp only []
    split <;> omega
  have hn8 : (sweepM m slot).L.length ≤ 8 := Nat.le_trans (List.length_filter_le _ _) hok.n
  have hslot := fun hb : begB m x slot = true => (beg_parts hb hok).2.2
  clear hT hok
  cases hb : begB m x slot with
  | false =>
    rw [hb, show begM m x slot = m by unfold begM; rw [hb]; rfl] at hbg
    have he : beatM m x gen slot = (m, 1) := by unfold beatM; rw [hb]; rfl
    rw [he]
    clear he hslot
    go_enter Try.func37, Try.ntmps37
    go_wp2_with fail
    refine hbg.out.mono ?_
    rintro e w1 ⟨rfl, hT1, hF1⟩
    have HT := Aside0.mk hT1
    have HF := Aside0.mk hF1
    clear hT1 hF1 hbg
    go_wp2_with fail
    go_ret
    exact ⟨rfl, HT.out, HF.out⟩
  | true =>
    rw [hb, show begM m x slot = sweepM m slot by unfold begM; rw [hb]; rfl] at hbg
    have he : beatM m x gen slot = bt (sweepM m slot) x gen slot := by unfold beatM; rw [hb]; rfl
    rw [he]
    have hs := hslot hb
    clear he hslot hb
    generalize sweepM m slot = m1 at *
    unfold bt
    obtain ⟨bi, hbi⟩ : ∃ bi, isM m1.L x.toList = bi := ⟨_, rfl⟩
    cases bi with
    | false =>
      rw [if_neg (by rw [hbi]; decide)]
      go_enter Try.func37, Try.ntmps37
      go_wp2_with fail
      refine hbg.out.mono ?_
      rintro e w1 ⟨rfl, hT1, hF1⟩
      have HT := Aside0.mk hT1
      have HF := Aside0.mk hF1
      clear hT1 hF1 hbg
      go_wp2_with fail
      refine (is_calls a b m1 x hx w1 HT.out).mono ?_
      rw [hbi]
      rintro e w2 ⟨rfl, hb2⟩
      have n_HT := Aside0.mk (HT.out.later hb2)
      have n_HF := Aside0.mk (HF.out.trans (Far.below hb2))
      clear HT HF hb2
      have HT := n_HT
      have HF := n_HF
      clear n_HT n_HF
      go_wp2_with fail
      go_ret
      exact ⟨rfl, HT.out, HF.out⟩
    | true =>
      rw [if_pos hbi]
      by_cases hge : gen = m1.g
      · rw [if_pos hge]
        have d8 : (gen != m1.g) = false := by rw [hge]; simp
        clear hge
        go_enter Try.func37, Try.ntmps37
        go_wp2_with fail
        refine hbg.out.mono ?_
        rintro e w1 ⟨rfl, hT1, hF1⟩
        have HT := Aside0.mk hT1
        have HF := Aside0.mk hF1
        clear hT1 hF1 hbg
        go_wp2_with fail
        refine (is_calls a b m1 x hx w1 HT.out).mono ?_
        rw [hbi]
        rintro e w2 ⟨rfl, hb2⟩
        have n_HT := Aside0.mk (HT.out.later hb2)
        have n_HF := Aside0.mk (HF.out.trans (Far.below hb2))
        clear HT HF hb2
        have HT := n_HT
        have HF := n_HF
        clear n_HT n_HF
        have hc4 : w2.cell? ⟨a, 4, none⟩ = some (.map (some b)) := HT.out.c 4
        have hc2 : w2.cell? ⟨a, 2, none⟩ = some (.int .i64 m1.g) := HT.out.c 2
        have hz2 : w2.frozen? ⟨a, 2, none⟩ = false := HT.out.z 2
        go_wp2_with (first
          | (at_mapUpdate; refine wpList_mapUpdate_own _ rfl _ _ _ 143 rfl 9 3 str_law Try.underlying143 _ b m1.L.length _ rfl HT.out.own (by unfold maxLen; omega) _ _ _ rfl rfl (key_B x hx) _ [] (plainElem_int Try.underlying3 (WalkArith.wf_i64 (by omega))) ?_; intro w5 hown hgr; have n_HT := Aside0.mk (show Tab w5 a b (setM m1 x slot) from HT.out.turn hgr (by rw [← putM_eq _ _ HT.out.ris]; exact hown) (putM_ris _ _ HT.out.ris)); have n_HF := Aside0.mk (HF.out.trans (Far.grown hgr)); clear HT HF hown hgr; have HT := n_HT; have HF := n_HF; clear n_HT n_HF; have hcg : w5.cell? ⟨a, 2, none⟩ = some (.int .i64 m1.g) := HT.out.c 2))
        go_ret
        exact ⟨rfl, HT.out, HF.out⟩
      · rw [if_neg hge]
        have d8 : (gen != m1.g) = true := by simpa using hge
        clear hge
        go_enter Try.func37, Try.ntmps37
        go_wp2_with fail
        refine hbg.out.mono ?_
        rintro e w1 ⟨rfl, hT1, hF1⟩
        have HT := Aside0.mk hT1
        have HF := Aside0.mk hF1
        clear hT1 hF1 hbg
        go_wp2_with fail
        refine (is_calls a b m1 x hx w1 HT.out).mono ?_
        rw [hbi]
        rintro e w2 ⟨rfl, hb2⟩
        have n_HT := Aside0.mk (HT.out.later hb2)
        have n_HF := Aside0.mk (HF.out.trans (Far.below hb2))
        clear HT HF hb2
        have HT := n_HT
        have HF := n_HF
        clear n_HT n_HF
        have hc4 : w2.cell? ⟨a, 4, none⟩ = some (.map (some b)) := HT.out.c 4
        have hc2 : w2.cell? ⟨a, 2, none⟩ = some (.int .i64 m1.g) := HT.out.c 2
        have hz2 : w2.frozen? ⟨a, 2, none⟩ = false := HT.out.z 2
        go_wp2_with fail
        go_ret
        exact ⟨rfl, HT.out, HF.out⟩
end Go.Proofs.Ytohhlkabejangaa.Mb
