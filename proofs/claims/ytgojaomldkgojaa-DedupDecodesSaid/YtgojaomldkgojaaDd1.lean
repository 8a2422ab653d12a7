import Derived.Test.YtgojaomldkgojaaDd0
import Derived.Test.YtgojaomldkgojaaWireEv
namespace Go.Proofs.Ytgojaomldkgojaa.Dd
set_option linter.unusedVariables false
set_option linter.unusedSimpArgs false
open Go.RowKit Go.Maps Go.Proofs.YtgojaomldkgojaaW.PrintWords Go.Proofs.YtgojaomldkgojaaW.PrintLast Go.Proofs.YtgojaomldkgojaaW.PrintMore Go.Proofs.Ytgojaomldkgojaa.PDd Go.Proofs.Ytgojaomldkgojaa.Wire
theorem gb_below {w w' : World} {r : Option Nat} (k : Below w.heap.size w w') : w.grownBy w' r := ⟨k.os, k.tape, k.output, k.size, fun i hi _ => k.block i hi⟩
theorem gb_trans {a b c : World} {r : Option Nat} (h : a.grownBy b r) (k : b.grownBy c r) : a.grownBy c r := h.andThen k (fun j hj => .inr hj)
theorem gb_new {a b c : World} {r r' : Option Nat} (h : a.grownBy b r) (k : b.grownBy c r') (hr : ∀ j, r' = some j → a.heap.size ≤ j) : a.grownBy c r := h.andThen k (fun j hj => .inl (hr j hj))
theorem Tab.cell0 {w : World} {g b : Nat} {l : List La} (h : Tab w g b l) : w.cell? ⟨g, 0, none⟩ = some (.map (some b)) := (blk_cell h.cell 0).trans rfl
theorem Tab.blt {w : World} {g b : Nat} {l : List La} (h : Tab w g b l) : b < w.heap.size := h.own.lt
theorem Tab.kept {w w' : World} {g b j : Nat} {l : List La} (h : Tab w g b l) (hg : w.grownBy w' (some j)) (h1 : g ≠ j) (h2 : b ≠ j) : Tab w' g b l :=
  ⟨(hg.block g h.lt (fun e => h1 (Option.some.inj e))).trans h.cell, h.own.kept hg (fun e => h2 (Option.some.inj e)), h.ris, h.ok⟩
set_option maxRecDepth 100000 in
theorem zero_last (w : World) : (zeroValue 96).run Try.prog w = .ok (.agg #[.int .i64 0, .int .i64 0, .int .i64 0]) w := by kernel_rfl
def wfI (x : Int) : Prop := -9223372036854775808 ≤ x ∧ x ≤ 9223372036854775807
theorem key_int {p : Int} (h : wfI p) : keyOf Try.prog 3 (.int .i64 p) = some (.int .i64 p) := keyOf_int_mk Try.underlying3 (WalkArith.wf_i64 h)
theorem Tab.look_ok {w : World} {g b : Nat} {l : List La} (h : Tab w g b l) {p : Int} (hp : wfI p) :
    (Instr.lookup 90 (.map (some b)) (.int .i64 p) true).run Try.prog w = .ok (.tuple #[.agg #[.int .i64 (lookL l p).1, .int .i64 (lookL l p).2.1, .int .i64 (lookL l p).2.2], .bool (findL l p).isSome]) w := by
  obtain ⟨v, ps, hrun, hv⟩ := h.own.look_ok int_law Try.underlying90 (zero_last w) (R3_mk 0 0 0) (key_int hp)
  rw [at_eq] at hv
  rw [hrun, R3_inv hv, has_eq']
theorem Tab.look {w : World} {g b : Nat} {l : List La} (h : Tab w g b l) {p : Int} (hp : wfI p) :
    (Instr.lookup 90 (.map (some b)) (.int .i64 p) false).run Try.prog w = .ok (.agg #[.int .i64 (lookL l p).1, .int .i64 (lookL l p).2.1, .int .i64 (lookL l p).2.2]) w := by
  obtain ⟨v, ps, hrun, hv⟩ := h.own.lookup int_law Try.underlying90 (zero_last w) (R3_mk 0 0 0) (key_int hp)
  rw [at_eq] at hv
  rw [hrun, R3_inv hv]
theorem Tab.len {w : World} {g b : Nat} {l : List La} (h : Tab w g b l) (ty : TypeId) : (Builtin.len_ #[90] ty #[.map (some b)]).run Try.prog w = .ok (.int .i64 (l.length : Int)) w := by
  have h9 := h.own.len Try.underlying90 ty
  rw [h9]
  have : Maps.size (datL l) = l.length := List.length_map _
  rw [this]
def noteE (l : List La) (x : La) : Int := if mayB x.f0 x.f1 x.f2 = true ∧ 0 ≤ x.f3 ∧ x.f3 ≤ 1048576 then (if findL l x.f0 = none ∧ l.length = 16 then 5 else 0) else 1
def noteR (l : List La) (x : La) : List La := if noteE l x = 0 then noteL l x else l
theorem Tab.stored {w w' : World} {g b : Nat} {l : List La} (h : Tab w g b l) (x : La) (hx : okL x) (ho : w'.ownsMap Try.prog 3 R3 b (l.length + 1) ((datL l).put (.int .i64 x.f0) (el x.f1 x.f2 x.f3))) (hg : w.grownBy w' (some b)) : Tab w' g b (noteL l x) := by
  rw [put_eq l x h.ris] at ho
  refine ⟨(hg.block g h.lt (fun e => h.ne (Option.some.inj e))).trans h.cell, own_exact ho, note_ris l x h.ris, fun z hz => ?_⟩
  rcases note_mem l x z hz with rfl | hz
  · exact hx
  · exact h.ok z hz
set_option maxHeartbeats 16000000 in
set_option maxRecDepth 100000 in
theorem new_calls (w : World) : Calls Try.prog 21 #[] w fun e w' => ∃ g b, e = .returned (.pointer (some ⟨g, 0, none⟩)) ∧ Tab w' g b [] ∧ w.heap.size ≤ g ∧ w.heap.size ≤ b ∧ Below w.heap.size w w' := by
  have hmm := @run_makeMap Try.prog
  go_enter Try.func21, Try.ntmps21
  go_wp2_with (first
    | ((with_reducible refine gate_dst (N := 3) rfl ?_); refine box_event rfl (N := 3) rfl (cs := #[.map (some w.heap.size)]) (t := 92) ?hr ?_; (case hr => first | (go_simp; done) | (go_simp; rfl)); intro g3 hg3 w1 hbx hbl; have HB := Aside0.mk hbl; have G3 := Aside0.mk hg3; have Y := Aside0.mk hbx; clear hbl hg3 hbx))

  go_ret
  refine ⟨g3, w.heap.size, rfl, ⟨Y.out, ?_, List.Pairwise.nil, fun x hx => absurd hx (by simp)⟩, ?_, Nat.le_refl _, below_step (below_alloc (Below.refl _ _) _) HB.out⟩
  · exact (World.ownsMap_made w _ _ _).kept (row := none) (gb_below HB.out) (by simp)
  · rw [G3.out]
    simp
set_option maxHeartbeats 16000000 in
set_option maxRecDepth 100000 in
theorem note_calls (g b : Nat) (l : List La) (p s n o : Int) (w : World) (hT : Tab w g b l) (hl : l.length ≤ 1000) :
    Calls Try.prog 23 #[.pointer (some ⟨g, 0, none⟩), .int .i64 p, .int .i64 s, .int .i64 n, .int .i64 o] w fun e w' => e = .returned (.int .i64 (noteE l ⟨p, s, n, o⟩)) ∧ Tab w' g b (noteR l ⟨p, s, n, o⟩) ∧ w.grownBy w' (some b) := by
  have hund : ∀ b, some undef = some (Value.bool b) → False := fun b h => by simp [undef] at h
  have HT := Aside0.mk hT
  clear hT
  have hmay := dedup_may.calls p s n (mayB p s n) w (may_spec p s n)
  have HE : Aside0 (noteE l ⟨p, s, n, o⟩ = if mayB p s n = true ∧ 0 ≤ o ∧ o ≤ 1048576 then (if findL l p = none ∧ l.length = 16 then 5 else 0) else 1) := ⟨rfl⟩
  have HR : Aside0 (noteR l ⟨p, s, n, o⟩ = if noteE l ⟨p, s, n, o⟩ = 0 then noteL l ⟨p, s, n, o⟩ else l) := ⟨rfl⟩
  cases hm : mayB p s n with
  | false =>
    rw [hm] at hmay HE
    have e1 : noteE l ⟨p, s, n, o⟩ = 1 := HE.out.trans (if_neg (fun h => by simp at h))
    have e2 : noteR l ⟨p, s, n, o⟩ = l := HR.out.trans (if_neg (by rw [e1]; decide))
    rw [e1, e2]
    have HM := Aside0.mk hmay
    clear hmay e1 e2
    go_enter Try.func23, Try.ntmps23
    go_wp2_with fail
    refine HM.out.mono ?_
    rintro e w1 ⟨rfl, hd⟩
    have HB := Aside0.mk hd.below
    clear hd
    go_wp2_with fail
    go_ret
    exact ⟨rfl, HT.out.later HB.out, gb_below HB.out⟩
  | true =>
    rw [hm] at hmay HE
    have HM := Aside0.mk hmay
    have hmb := of_decide_eq_true hm
    clear hmay
    by_cases ho : o < 0 ∨ 1048576 < o
    · have e1 : noteE l ⟨p, s, n, o⟩ = 1 := HE.out.trans (if_neg (fun h => by omega))
      have e2 : noteR l ⟨p, s, n, o⟩ = l := HR.out.trans (if_neg (by rw [e1]; decide))
      rw [e1, e2]
      by_cases ho1 : o < 0
      · have hd1 : decide (o < 0) = true := decide_eq_true ho1
        go_enter Try.func23, Try.ntmps23
        go_wp2_with fail
        refine HM.out.mono ?_
        rintro e w1 ⟨rfl, hd⟩
        have HB := Aside0.mk hd.below
        clear hd
        go_wp2_with fail
        go_ret
        exact ⟨rfl, HT.out.later HB.out, gb_below HB.out⟩
      · have hd1 : decide (o < 0) = false := decide_eq_false ho1
        have hd2 : decide (1048576 < o) = true := decide_eq_true (by omega)
        go_enter Try.func23, Try.ntmps23
        go_wp2_with fail
        refine HM.out.mono ?_
        rintro e w1 ⟨rfl, hd⟩
        have HB := Aside0.mk hd.below
        clear hd
        go_wp2_with fail
        go_ret
        exact ⟨rfl, HT.out.later HB.out, gb_below HB.out⟩
    have hd1 : decide (o < 0) = false := decide_eq_false (by omega)
    have hd2 : decide (1048576 < o) = false := decide_eq_false (by omega)
    have hE2 : Aside0 (noteE l ⟨p, s, n, o⟩ = if findL l p = none ∧ l.length = 16 then 5 else 0) := ⟨HE.out.trans (if_pos ⟨rfl, by omega, by omega⟩)⟩
    have hpw : wfI p := ⟨by omega, by omega⟩
    have hok : Aside0 (okL ⟨p, s, n, o⟩) := ⟨⟨hm, by show 0 ≤ o; omega, by show o ≤ 1048576; omega⟩⟩
    clear HE
    obtain ⟨k0, hk0⟩ : ∃ k0, lookL l p = k0 := ⟨_, rfl⟩
    obtain ⟨k1, k2, k3⟩ := k0
    go_enter Try.func23, Try.ntmps23
    go_wp2_with fail
    refine HM.out.mono ?_
    rintro e w1 ⟨rfl, hd⟩
    have HB := Aside0.mk hd.below
    clear hd
    have hc1 := (HT.out.later HB.out).cell0
    have hlk := (HT.out.later HB.out).look_ok hpw
    rw [hk0] at hlk
    clear hk0
    cases hf : findL l p with
    | some x =>
      rw [hf] at hlk
      have e1 : noteE l ⟨p, s, n, o⟩ = 0 := hE2.out.trans (if_neg (fun h => by rw [hf] at h; simp at h))
      have e2 : noteR l ⟨p, s, n, o⟩ = noteL l ⟨p, s, n, o⟩ := HR.out.trans (if_pos e1)
      have E1 := Aside0.mk e1
      have E2 := Aside0.mk e2
      clear e1 e2
      go_wp2_with (first
        | ((with_reducible refine gate_dst (N := 11) rfl ?_); refine box_event rfl (N := 11) rfl (cs := #[.int .i64 0, .int .i64 0, .int .i64 0]) (t := 96) ?hr ?_; (case hr => first | (go_simp; done) | (go_simp; rfl)); intro g11 hg11 w2 hbx hbl; have n_HB := Aside0.mk (below_step HB.out hbl); have G11 := Aside0.mk (show w.heap.size ≤ g11 by rw [hg11]; exact HB.out.size); have Y := Aside0.mk hbx; clear HB hbx hbl hg11; have HB := n_HB; clear n_HB)
        | ((with_reducible refine gate_store (t := 96) (p := 11) rfl ?_); refine store_ev rfl rfl rfl (cells := #[.int .i64 k1, .int .i64 k2, .int .i64 k3]) rfl rfl Y.out (by kernel_rfl) rfl (by kernel_rfl) ?_; intro w3 hbx hgr; have n_HB := Aside0.mk (below_put HB.out G11.out hgr HB.out.size); have n_Y := Aside0.mk hbx; clear HB Y hbx hgr; have HB := n_HB; have Y := n_Y; clear n_HB n_Y; have hc3 := (HT.out.later HB.out).cell0; have hln := (HT.out.later HB.out).len)
        | (at_mapUpdate; refine wpList_mapUpdate_own _ rfl _ _ _ 90 rfl 3 96 int_law Try.underlying90 _ b l.length _ rfl (HT.out.later HB.out).own (by unfold maxLen; omega) _ _ _ rfl rfl (key_int hpw) _ [] (R3_mk s n o) ?_; intro w4 hown hgr; have n_HT := Aside0.mk ((HT.out.later HB.out).stored ⟨p, s, n, o⟩ hok.out hown hgr); have HG := Aside0.mk (gb_trans (gb_below HB.out) hgr); clear hown hgr HB; have HT4 := n_HT; clear n_HT))
      go_ret
      rw [E1.out, E2.out]
      exact ⟨rfl, HT4.out, HG.out⟩
    | none =>
      rw [hf] at hlk
      by_cases h16 : l.length = 16
      · have e1 : noteE l ⟨p, s, n, o⟩ = 5 := hE2.out.trans (if_pos ⟨hf, h16⟩)
        have e2 : noteR l ⟨p, s, n, o⟩ = l := HR.out.trans (if_neg (by rw [e1]; decide))
        have E1 := Aside0.mk e1
        have E2 := Aside0.mk e2
        clear e1 e2
        have hq : ((l.length : Int) == 16) = true := by rw [h16]; rfl
        go_wp2_with (first
          | ((with_reducible refine gate_dst (N := 11) rfl ?_); refine box_event rfl (N := 11) rfl (cs := #[.int .i64 0, .int .i64 0, .int .i64 0]) (t := 96) ?hr ?_; (case hr => first | (go_simp; done) | (go_simp; rfl)); intro g11 hg11 w2 hbx hbl; have n_HB := Aside0.mk (below_step HB.out hbl); have G11 := Aside0.mk (show w.heap.size ≤ g11 by rw [hg11]; exact HB.out.size); have Y := Aside0.mk hbx; clear HB hbx hbl hg11; have HB := n_HB; clear n_HB)
          | ((with_reducible refine gate_store (t := 96) (p := 11) rfl ?_); refine store_ev rfl rfl rfl (cells := #[.int .i64 k1, .int .i64 k2, .int .i64 k3]) rfl rfl Y.out (by kernel_rfl) rfl (by kernel_rfl) ?_; intro w3 hbx hgr; have n_HB := Aside0.mk (below_put HB.out G11.out hgr HB.out.size); have n_Y := Aside0.mk hbx; clear HB Y hbx hgr; have HB := n_HB; have Y := n_Y; clear n_HB n_Y; have hc3 := (HT.out.later HB.out).cell0; have hln := (HT.out.later HB.out).len))
        go_ret
        rw [E1.out, E2.out]
        exact ⟨rfl, HT.out.later HB.out, gb_below HB.out⟩
      · have e1 : noteE l ⟨p, s, n, o⟩ = 0 := hE2.out.trans (if_neg (fun h => h16 h.2))
        have e2 : noteR l ⟨p, s, n, o⟩ = noteL l ⟨p, s, n, o⟩ := HR.out.trans (if_pos e1)
        have E1 := Aside0.mk e1
        have E2 := Aside0.mk e2
        clear e1 e2
        have hq : ((l.length : Int) == 16) = false := beq_eq_false_iff_ne.2 (by omega)
        go_wp2_with (first
          | ((with_reducible refine gate_dst (N := 11) rfl ?_); refine box_event rfl (N := 11) rfl (cs := #[.int .i64 0, .int .i64 0, .int .i64 0]) (t := 96) ?hr ?_; (case hr => first | (go_simp; done) | (go_simp; rfl)); intro g11 hg11 w2 hbx hbl; have n_HB := Aside0.mk (below_step HB.out hbl); have G11 := Aside0.mk (show w.heap.size ≤ g11 by rw [hg11]; exact HB.out.size); have Y := Aside0.mk hbx; clear HB hbx hbl hg11; have HB := n_HB; clear n_HB)
          | ((with_reducible refine gate_store (t := 96) (p := 11) rfl ?_); refine store_ev rfl rfl rfl (cells := #[.int .i64 k1, .int .i64 k2, .int .i64 k3]) rfl rfl Y.out (by kernel_rfl) rfl (by kernel_rfl) ?_; intro w3 hbx hgr; have n_HB := Aside0.mk (below_put HB.out G11.out hgr HB.out.size); have n_Y := Aside0.mk hbx; clear HB Y hbx hgr; have HB := n_HB; have Y := n_Y; clear n_HB n_Y; have hc3 := (HT.out.later HB.out).cell0; have hln := (HT.out.later HB.out).len)
          | (at_mapUpdate; refine wpList_mapUpdate_own _ rfl _ _ _ 90 rfl 3 96 int_law Try.underlying90 _ b l.length _ rfl (HT.out.later HB.out).own (by unfold maxLen; omega) _ _ _ rfl rfl (key_int hpw) _ [] (R3_mk s n o) ?_; intro w4 hown hgr; have n_HT := Aside0.mk ((HT.out.later HB.out).stored ⟨p, s, n, o⟩ hok.out hown hgr); have HG := Aside0.mk (gb_trans (gb_below HB.out) hgr); clear hown hgr HB; have HT4 := n_HT; clear n_HT))
        go_ret
        rw [E1.out, E2.out]
        exact ⟨rfl, HT4.out, HG.out⟩
def chk (l : List La) (p s n : Int) : Int × Bool × Int :=
  if mayB p s n = true then
    (match findL l p with
    | none => if s ≠ 0 then (0, false, 33) else if l.length = 16 then (0, false, 5) else (0, false, 0)
    | some x => if x.f1 = s ∧ x.f2 = n then (x.f3, true, 0) else if s ≠ x.f1 + x.f2 then (0, false, 33) else (0, false, 0))
  else (0, false, 1)
set_option maxHeartbeats 16000000 in
set_option maxRecDepth 100000 in
theorem check_calls (g b : Nat) (l : List La) (p s n : Int) (w : World) (hT : Tab w g b l) (hl : l.length ≤ 1000) :
    Calls Try.prog 24 #[.pointer (some ⟨g, 0, none⟩), .int .i64 p, .int .i64 s, .int .i64 n] w fun e w' => e = .returned (.tuple #[.int .i64 (chk l p s n).1, .bool (chk l p s n).2.1, .int .i64 (chk l p s n).2.2]) ∧ Below w.heap.size w w' := by
  have hund : ∀ b, some undef = some (Value.bool b) → False := fun b h => by simp [undef] at h
  have HT := Aside0.mk hT
  clear hT
  have hmay := dedup_may.calls p s n (mayB p s n) w (may_spec p s n)
  have HE : Aside0 (chk l p s n = (if mayB p s n = true then (match findL l p with
    | none => if s ≠ 0 then (0, false, 33) else if l.length = 16 then (0, false, 5) else (0, false, 0)
    | some x => if x.f1 = s ∧ x.f2 = n then (x.f3, true, 0) else if s ≠ x.f1 + x.f2 then (0, false, 33) else (0, false, 0))
  else (0, false, 1) : Int × Bool × Int)) := ⟨rfl⟩
  generalize chk l p s n = R at *
  cases hm : mayB p s n with
  | false =>
    rw [hm] at hmay HE
    obtain rfl : R = (0, false, 1) := HE.out.trans (if_neg (by simp))
    have HM := Aside0.mk hmay
    clear hmay HE
    go_enter Try.func24, Try.ntmps24
    go_wp2_with fail
    refine HM.out.mono ?_
    rintro e w1 ⟨rfl, hd⟩
    have HB := Aside0.mk hd.below
    clear hd
    go_wp2_with fail
    exact bodyPost_ret (v := .tuple #[.int .i64 0, .bool false, .int .i64 1]) (by simp [results, Try.results24, go_sem]) rfl ⟨rfl, HB.out⟩
  | true =>
    rw [hm] at hmay HE
    have HM := Aside0.mk hmay
    have hmb := of_decide_eq_true hm
    have hpw : wfI p := ⟨by omega, by omega⟩
    have HE2 := Aside0.mk (HE.out.trans (if_pos rfl))
    clear hmay HE
    have hlw := fun (w1 : World) (hb : Below w.heap.size w w1) => (HT.out.later hb).look_ok hpw
    cases hf : findL l p with
    | none =>
      have hk0 : lookL l p = (0, 0, 0) := by unfold lookL; rw [hf]
      rw [hf] at HE2
      simp only [hk0, hf] at hlw
      have HLW := Aside0.mk hlw
      clear hlw hk0
      by_cases hs : s = 0
      · subst hs
        by_cases h16 : l.length = 16
        · obtain rfl : R = (0, false, 5) := HE2.out.trans (by simp [h16])
          have hq : ((l.length : Int) == 16) = true := by rw [h16]; rfl
          clear HE2
          go_enter Try.func24, Try.ntmps24
          go_wp2_with fail
          refine HM.out.mono ?_
          rintro e w1 ⟨rfl, hd⟩
          have HB := Aside0.mk hd.below
          clear hd
          have hc1 := (HT.out.later HB.out).cell0
          have hlk := HLW.out w1 HB.out
          go_wp2_with (first
            | ((with_reducible refine gate_dst (N := 11) rfl ?_); refine box_event rfl (N := 11) rfl (cs := #[.int .i64 0, .int .i64 0, .int .i64 0]) (t := 96) ?hr ?_; (case hr => first | (go_simp; done) | (go_simp; rfl)); intro g11 hg11 w2 hbx hbl; have n_HB := Aside0.mk (below_step HB.out hbl); have G11 := Aside0.mk (show w.heap.size ≤ g11 by rw [hg11]; exact HB.out.size); have Y := Aside0.mk hbx; clear HB hbx hbl hg11; have HB := n_HB; clear n_HB)
            | ((with_reducible refine gate_store (t := 96) (p := 11) rfl ?_); refine store_ev rfl rfl rfl (cells := #[.int .i64 0, .int .i64 0, .int .i64 0]) rfl rfl Y.out (by kernel_rfl) rfl (by kernel_rfl) ?_; intro w3 hbx hgr; have n_HB := Aside0.mk (below_put HB.out G11.out hgr HB.out.size); have n_Y := Aside0.mk hbx; clear HB Y hbx hgr; have HB := n_HB; have Y := n_Y; clear n_HB n_Y; have hc3 := (HT.out.later HB.out).cell0; have hln := (HT.out.later HB.out).len; have y0 : w3.cell? ⟨g11, 0, none⟩ = some (.int .i64 0) := (blk_cell Y.out 0).trans rfl; have y1 : w3.cell? ⟨g11, 1, none⟩ = some (.int .i64 0) := (blk_cell Y.out 1).trans rfl; have y2 : w3.cell? ⟨g11, 2, none⟩ = some (.int .i64 0) := (blk_cell Y.out 2).trans rfl))
          exact bodyPost_ret (v := .tuple #[.int .i64 0, .bool false, .int .i64 5]) (by simp [results, Try.results24, go_sem]) rfl ⟨rfl, HB.out⟩
        · obtain rfl : R = (0, false, 0) := HE2.out.trans (by simp [h16])
          have hq : ((l.length : Int) == 16) = false := beq_eq_false_iff_ne.2 (by omega)
          clear HE2
          go_enter Try.func24, Try.ntmps24
          go_wp2_with fail
          refine HM.out.mono ?_
          rintro e w1 ⟨rfl, hd⟩
          have HB := Aside0.mk hd.below
          clear hd
          have hc1 := (HT.out.later HB.out).cell0
          have hlk := HLW.out w1 HB.out
          go_wp2_with (first
            | ((with_reducible refine gate_dst (N := 11) rfl ?_); refine box_event rfl (N := 11) rfl (cs := #[.int .i64 0, .int .i64 0, .int .i64 0]) (t := 96) ?hr ?_; (case hr => first | (go_simp; done) | (go_simp; rfl)); intro g11 hg11 w2 hbx hbl; have n_HB := Aside0.mk (below_step HB.out hbl); have G11 := Aside0.mk (show w.heap.size ≤ g11 by rw [hg11]; exact HB.out.size); have Y := Aside0.mk hbx; clear HB hbx hbl hg11; have HB := n_HB; clear n_HB)
            | ((with_reducible refine gate_store (t := 96) (p := 11) rfl ?_); refine store_ev rfl rfl rfl (cells := #[.int .i64 0, .int .i64 0, .int .i64 0]) rfl rfl Y.out (by kernel_rfl) rfl (by kernel_rfl) ?_; intro w3 hbx hgr; have n_HB := Aside0.mk (below_put HB.out G11.out hgr HB.out.size); have n_Y := Aside0.mk hbx; clear HB Y hbx hgr; have HB := n_HB; have Y := n_Y; clear n_HB n_Y; have hc3 := (HT.out.later HB.out).cell0; have hln := (HT.out.later HB.out).len; have y0 : w3.cell? ⟨g11, 0, none⟩ = some (.int .i64 0) := (blk_cell Y.out 0).trans rfl; have y1 : w3.cell? ⟨g11, 1, none⟩ = some (.int .i64 0) := (blk_cell Y.out 1).trans rfl; have y2 : w3.cell? ⟨g11, 2, none⟩ = some (.int .i64 0) := (blk_cell Y.out 2).trans rfl))
          exact bodyPost_ret (v := .tuple #[.int .i64 0, .bool false, .int .i64 0]) (by simp [results, Try.results24, go_sem]) rfl ⟨rfl, HB.out⟩
      · obtain rfl : R = (0, false, 33) := HE2.out.trans (by simp [hs])
        have hq : (s == 0) = false := beq_eq_false_iff_ne.2 hs
        clear HE2
        go_enter Try.func24, Try.ntmps24
        go_wp2_with fail
        refine HM.out.mono ?_
        rintro e w1 ⟨rfl, hd⟩
        have HB := Aside0.mk hd.below
        clear hd
        have hc1 := (HT.out.later HB.out).cell0
        have hlk := HLW.out w1 HB.out
        go_wp2_with (first
          | ((with_reducible refine gate_dst (N := 11) rfl ?_); refine box_event rfl (N := 11) rfl (cs := #[.int .i64 0, .int .i64 0, .int .i64 0]) (t := 96) ?hr ?_; (case hr => first | (go_simp; done) | (go_simp; rfl)); intro g11 hg11 w2 hbx hbl; have n_HB := Aside0.mk (below_step HB.out hbl); have G11 := Aside0.mk (show w.heap.size ≤ g11 by rw [hg11]; exact HB.out.size); have Y := Aside0.mk hbx; clear HB hbx hbl hg11; have HB := n_HB; clear n_HB)
          | ((with_reducible refine gate_store (t := 96) (p := 11) rfl ?_); refine store_ev rfl rfl rfl (cells := #[.int .i64 0, .int .i64 0, .int .i64 0]) rfl rfl Y.out (by kernel_rfl) rfl (by kernel_rfl) ?_; intro w3 hbx hgr; have n_HB := Aside0.mk (below_put HB.out G11.out hgr HB.out.size); have n_Y := Aside0.mk hbx; clear HB Y hbx hgr; have HB := n_HB; have Y := n_Y; clear n_HB n_Y; have hc3 := (HT.out.later HB.out).cell0; have hln := (HT.out.later HB.out).len; have y0 : w3.cell? ⟨g11, 0, none⟩ = some (.int .i64 0) := (blk_cell Y.out 0).trans rfl; have y1 : w3.cell? ⟨g11, 1, none⟩ = some (.int .i64 0) := (blk_cell Y.out 1).trans rfl; have y2 : w3.cell? ⟨g11, 2, none⟩ = some (.int .i64 0) := (blk_cell Y.out 2).trans rfl))
        exact bodyPost_ret (v := .tuple #[.int .i64 0, .bool false, .int .i64 33]) (by simp [results, Try.results24, go_sem]) rfl ⟨rfl, HB.out⟩
    | some x =>
      have hk0 : lookL l p = (x.f1, x.f2, x.f3) := by unfold lookL; rw [hf]
      have hox := HT.out.ok x (find_some hf).1
      have hox2 := of_decide_eq_true hox.1
      have hwr : wrap64 (x.f1 + x.f2) = x.f1 + x.f2 := by unfold wrap64; omega
      rw [hf] at HE2
      simp only [hk0, hf] at hlw
      have HLW := Aside0.mk hlw
      clear hlw hk0 hox hox2
      obtain ⟨k0, k1, k2, k3⟩ := x
      simp only at HE2 HLW hwr
      by_cases h1 : k1 = s
      · by_cases h2 : k2 = n
        · obtain rfl : R = (k3, true, 0) := HE2.out.trans (if_pos ⟨h1, h2⟩)
          have hq1 : (k1 == s) = true := beq_iff_eq.2 h1
          have hq2 : (k2 == n) = true := beq_iff_eq.2 h2
          clear HE2 h1 h2
          go_enter Try.func24, Try.ntmps24
          go_wp2_with fail
          refine HM.out.mono ?_
          rintro e w1 ⟨rfl, hd⟩
          have HB := Aside0.mk hd.below
          clear hd
          have hc1 := (HT.out.later HB.out).cell0
          have hlk := HLW.out w1 HB.out
          go_wp2_with (first
            | ((with_reducible refine gate_dst (N := 11) rfl ?_); refine box_event rfl (N := 11) rfl (cs := #[.int .i64 0, .int .i64 0, .int .i64 0]) (t := 96) ?hr ?_; (case hr => first | (go_simp; done) | (go_simp; rfl)); intro g11 hg11 w2 hbx hbl; have n_HB := Aside0.mk (below_step HB.out hbl); have G11 := Aside0.mk (show w.heap.size ≤ g11 by rw [hg11]; exact HB.out.size); have Y := Aside0.mk hbx; clear HB hbx hbl hg11; have HB := n_HB; clear n_HB)
            | ((with_reducible refine gate_store (t := 96) (p := 11) rfl ?_); refine store_ev rfl rfl rfl (cells := #[.int .i64 k1, .int .i64 k2, .int .i64 k3]) rfl rfl Y.out (by kernel_rfl) rfl (by kernel_rfl) ?_; intro w3 hbx hgr; have n_HB := Aside0.mk (below_put HB.out G11.out hgr HB.out.size); have n_Y := Aside0.mk hbx; clear HB Y hbx hgr; have HB := n_HB; have Y := n_Y; clear n_HB n_Y; have hc3 := (HT.out.later HB.out).cell0; have hln := (HT.out.later HB.out).len; have y0 : w3.cell? ⟨g11, 0, none⟩ = some (.int .i64 k1) := (blk_cell Y.out 0).trans rfl; have y1 : w3.cell? ⟨g11, 1, none⟩ = some (.int .i64 k2) := (blk_cell Y.out 1).trans rfl; have y2 : w3.cell? ⟨g11, 2, none⟩ = some (.int .i64 k3) := (blk_cell Y.out 2).trans rfl))
          exact bodyPost_ret (v := .tuple #[.int .i64 k3, .bool true, .int .i64 0]) (by simp [results, Try.results24, go_sem]) rfl ⟨rfl, HB.out⟩
        · have hq1 : (k1 == s) = true := beq_iff_eq.2 h1
          have hq2 : (k2 == n) = false := beq_eq_false_iff_ne.2 h2
          have HE3 := Aside0.mk (HE2.out.trans (if_neg (fun h => h2 h.2)))
          by_cases h3 : s = k1 + k2
          · obtain rfl : R = (0, false, 0) := HE3.out.trans (if_neg (fun h => h h3))
            have hq3 : (s == k1 + k2) = true := beq_iff_eq.2 h3
            clear HE2 HE3 h1 h2 h3
            go_enter Try.func24, Try.ntmps24
            go_wp2_with fail
            refine HM.out.mono ?_
            rintro e w1 ⟨rfl, hd⟩
            have HB := Aside0.mk hd.below
            clear hd
            have hc1 := (HT.out.later HB.out).cell0
            have hlk := HLW.out w1 HB.out
            go_wp2_with (first
              | ((with_reducible refine gate_dst (N := 11) rfl ?_); refine box_event rfl (N := 11) rfl (cs := #[.int .i64 0, .int .i64 0, .int .i64 0]) (t := 96) ?hr ?_; (case hr => first | (go_simp; done) | (go_simp; rfl)); intro g11 hg11 w2 hbx hbl; have n_HB := Aside0.mk (below_step HB.out hbl); have G11 := Aside0.mk (show w.heap.size ≤ g11 by rw [hg11]; exact HB.out.size); have Y := Aside0.mk hbx; clear HB hbx hbl hg11; have HB := n_HB; clear n_HB)
              | ((with_reducible refine gate_store (t := 96) (p := 11) rfl ?_); refine store_ev rfl rfl rfl (cells := #[.int .i64 k1, .int .i64 k2, .int .i64 k3]) rfl rfl Y.out (by kernel_rfl) rfl (by kernel_rfl) ?_; intro w3 hbx hgr; have n_HB := Aside0.mk (below_put HB.out G11.out hgr HB.out.size); have n_Y := Aside0.mk hbx; clear HB Y hbx hgr; have HB := n_HB; have Y := n_Y; clear n_HB n_Y; have hc3 := (HT.out.later HB.out).cell0; have hln := (HT.out.later HB.out).len; have y0 : w3.cell? ⟨g11, 0, none⟩ = some (.int .i64 k1) := (blk_cell Y.out 0).trans rfl; have y1 : w3.cell? ⟨g11, 1, none⟩ = some (.int .i64 k2) := (blk_cell Y.out 1).trans rfl; have y2 : w3.cell? ⟨g11, 2, none⟩ = some (.int .i64 k3) := (blk_cell Y.out 2).trans rfl))
            exact bodyPost_ret (v := .tuple #[.int .i64 0, .bool false, .int .i64 0]) (by simp [results, Try.results24, go_sem]) rfl ⟨rfl, HB.out⟩
          · obtain rfl : R = (0, false, 33) := HE3.out.trans (if_pos h3)
            have hq3 : (s == k1 + k2) = false := beq_eq_false_iff_ne.2 h3
            clear HE2 HE3 h1 h2 h3
            go_enter Try.func24, Try.ntmps24
            go_wp2_with fail
            refine HM.out.mono ?_
            rintro e w1 ⟨rfl, hd⟩
            have HB := Aside0.mk hd.below
            clear hd
            have hc1 := (HT.out.later HB.out).cell0
            have hlk := HLW.out w1 HB.out
            go_wp2_with (first
              | ((with_reducible refine gate_dst (N := 11) rfl ?_); refine box_event rfl (N := 11) rfl (cs := #[.int .i64 0, .int .i64 0, .int .i64 0]) (t := 96) ?hr ?_; (case hr => first | (go_simp; done) | (go_simp; rfl)); intro g11 hg11 w2 hbx hbl; have n_HB := Aside0.mk (below_step HB.out hbl); have G11 := Aside0.mk (show w.heap.size ≤ g11 by rw [hg11]; exact HB.out.size); have Y := Aside0.mk hbx; clear HB hbx hbl hg11; have HB := n_HB; clear n_HB)
              | ((with_reducible refine gate_store (t := 96) (p := 11) rfl ?_); refine store_ev rfl rfl rfl (cells := #[.int .i64 k1, .int .i64 k2, .int .i64 k3]) rfl rfl Y.out (by kernel_rfl) rfl (by kernel_rfl) ?_; intro w3 hbx hgr; have n_HB := Aside0.mk (below_put HB.out G11.out hgr HB.out.size); have n_Y := Aside0.mk hbx; clear HB Y hbx hgr; have HB := n_HB; have Y := n_Y; clear n_HB n_Y; have hc3 := (HT.out.later HB.out).cell0; have hln := (HT.out.later HB.out).len; have y0 : w3.cell? ⟨g11, 0, none⟩ = some (.int .i64 k1) := (blk_cell Y.out 0).trans rfl; have y1 : w3.cell? ⟨g11, 1, none⟩ = some (.int .i64 k2) := (blk_cell Y.out 1).trans rfl; have y2 : w3.cell? ⟨g11, 2, none⟩ = some (.int .i64 k3) := (blk_cell Y.out 2).trans rfl))
            exact bodyPost_ret (v := .tuple #[.int .i64 0, .bool false, .int .i64 33]) (by simp [results, Try.results24, go_sem]) rfl ⟨rfl, HB.out⟩
      · have hq1 : (k1 == s) = false := beq_eq_false_iff_ne.2 h1
        have HE3 := Aside0.mk (HE2.out.trans (if_neg (fun h => h1 h.1)))
        by_cases h3 : s = k1 + k2
        · obtain rfl : R = (0, false, 0) := HE3.out.trans (if_neg (fun h => h h3))
          have hq3 : (s == k1 + k2) = true := beq_iff_eq.2 h3
          clear HE2 HE3 h1 h3
          go_enter Try.func24, Try.ntmps24
          go_wp2_with fail
          refine HM.out.mono ?_
          rintro e w1 ⟨rfl, hd⟩
          have HB := Aside0.mk hd.below
          clear hd
          have hc1 := (HT.out.later HB.out).cell0
          have hlk := HLW.out w1 HB.out
          go_wp2_with (first
            | ((with_reducible refine gate_dst (N := 11) rfl ?_); refine box_event rfl (N := 11) rfl (cs := #[.int .i64 0, .int .i64 0, .int .i64 0]) (t := 96) ?hr ?_; (case hr => first | (go_simp; done) | (go_simp; rfl)); intro g11 hg11 w2 hbx hbl; have n_HB := Aside0.mk (below_step HB.out hbl); have G11 := Aside0.mk (show w.heap.size ≤ g11 by rw [hg11]; exact HB.out.size); have Y := Aside0.mk hbx; clear HB hbx hbl hg11; have HB := n_HB; clear n_HB)
            | ((with_reducible refine gate_store (t := 96) (p := 11) rfl ?_); refine store_ev rfl rfl rfl (cells := #[.int .i64 k1, .int .i64 k2, .int .i64 k3]) rfl rfl Y.out (by kernel_rfl) rfl (by kernel_rfl) ?_; intro w3 hbx hgr; have n_HB := Aside0.mk (below_put HB.out G11.out hgr HB.out.size); have n_Y := Aside0.mk hbx; clear HB Y hbx hgr; have HB := n_HB; have Y := n_Y; clear n_HB n_Y; have hc3 := (HT.out.later HB.out).cell0; have hln := (HT.out.later HB.out).len; have y0 : w3.cell? ⟨g11, 0, none⟩ = some (.int .i64 k1) := (blk_cell Y.out 0).trans rfl; have y1 : w3.cell? ⟨g11, 1, none⟩ = some (.int .i64 k2) := (blk_cell Y.out 1).trans rfl; have y2 : w3.cell? ⟨g11, 2, none⟩ = some (.int .i64 k3) := (blk_cell Y.out 2).trans rfl))
          exact bodyPost_ret (v := .tuple #[.int .i64 0, .bool false, .int .i64 0]) (by simp [results, Try.results24, go_sem]) rfl ⟨rfl, HB.out⟩
        · obtain rfl : R = (0, false, 33) := HE3.out.trans (if_pos h3)
          have hq3 : (s == k1 + k2) = false := beq_eq_false_iff_ne.2 h3
          clear HE2 HE3 h1 h3
          go_enter Try.func24, Try.ntmps24
          go_wp2_with fail
          refine HM.out.mono ?_
          rintro e w1 ⟨rfl, hd⟩
          have HB := Aside0.mk hd.below
          clear hd
          have hc1 := (HT.out.later HB.out).cell0
          have hlk := HLW.out w1 HB.out
          go_wp2_with (first
            | ((with_reducible refine gate_dst (N := 11) rfl ?_); refine box_event rfl (N := 11) rfl (cs := #[.int .i64 0, .int .i64 0, .int .i64 0]) (t := 96) ?hr ?_; (case hr => first | (go_simp; done) | (go_simp; rfl)); intro g11 hg11 w2 hbx hbl; have n_HB := Aside0.mk (below_step HB.out hbl); have G11 := Aside0.mk (show w.heap.size ≤ g11 by rw [hg11]; exact HB.out.size); have Y := Aside0.mk hbx; clear HB hbx hbl hg11; have HB := n_HB; clear n_HB)
            | ((with_reducible refine gate_store (t := 96) (p := 11) rfl ?_); refine store_ev rfl rfl rfl (cells := #[.int .i64 k1, .int .i64 k2, .int .i64 k3]) rfl rfl Y.out (by kernel_rfl) rfl (by kernel_rfl) ?_; intro w3 hbx hgr; have n_HB := Aside0.mk (below_put HB.out G11.out hgr HB.out.size); have n_Y := Aside0.mk hbx; clear HB Y hbx hgr; have HB := n_HB; have Y := n_Y; clear n_HB n_Y; have hc3 := (HT.out.later HB.out).cell0; have hln := (HT.out.later HB.out).len; have y0 : w3.cell? ⟨g11, 0, none⟩ = some (.int .i64 k1) := (blk_cell Y.out 0).trans rfl; have y1 : w3.cell? ⟨g11, 1, none⟩ = some (.int .i64 k2) := (blk_cell Y.out 1).trans rfl; have y2 : w3.cell? ⟨g11, 2, none⟩ = some (.int .i64 k3) := (blk_cell Y.out 2).trans rfl))
          exact bodyPost_ret (v := .tuple #[.int .i64 0, .bool false, .int .i64 33]) (by simp [results, Try.results24, go_sem]) rfl ⟨rfl, HB.out⟩
theorem look_range {w : World} {g b : Nat} {l : List La} (h : Tab w g b l) (p : Int) : 0 ≤ (lookL l p).1 ∧ (lookL l p).1 ≤ 1099511627776 ∧ 0 ≤ (lookL l p).2.1 ∧ (lookL l p).2.1 ≤ 8 ∧ 0 ≤ (lookL l p).2.2 ∧ (lookL l p).2.2 ≤ 1048576 := by
  unfold lookL
  cases hf : findL l p with
  | none => simp
  | some x =>
    have h1 := h.ok x (find_some hf).1
    have h2 := of_decide_eq_true h1.1
    have h3 := h1.2
    simp only
    omega
set_option maxHeartbeats 16000000 in
set_option maxRecDepth 100000 in
theorem next_calls (g b : Nat) (l : List La) (p : Int) (hpw : wfI p) (w : World) (hT : Tab w g b l) :
    Calls Try.prog 29 #[.pointer (some ⟨g, 0, none⟩), .int .i64 p] w fun e w' => e = .returned (.int .i64 ((lookL l p).1 + (lookL l p).2.1)) ∧ Below w.heap.size w w' := by
  have hr := look_range hT p
  have hlk := hT.look hpw
  have hc := hT.cell0
  have HB := Aside0.mk (Below.refl w.heap.size w)
  have HT := Aside0.mk hT
  clear hT
  obtain ⟨k0, hk0⟩ : ∃ k0, lookL l p = k0 := ⟨_, rfl⟩
  obtain ⟨k1, k2, k3⟩ := k0
  rw [hk0] at hlk hr
  rw [hk0]
  have hwr : wrap64 (k1 + k2) = k1 + k2 := by unfold wrap64; simp only at hr; omega
  clear hk0 hr
  go_enter Try.func29, Try.ntmps29
  go_wp2_with (first
    | ((with_reducible refine gate_dst (N := 5) rfl ?_); refine box_event rfl (N := 5) rfl (cs := #[.int .i64 0, .int .i64 0, .int .i64 0]) (t := 96) ?hr ?_; (case hr => first | (go_simp; done) | (go_simp; rfl)); intro g5 hg5 w2 hbx hbl; have n_HB := Aside0.mk (below_step HB.out hbl); have G5 := Aside0.mk (show w.heap.size ≤ g5 by rw [hg5]; exact HB.out.size); have Y := Aside0.mk hbx; clear HB hbx hbl hg5; have HB := n_HB; clear n_HB)
    | ((with_reducible refine gate_store (t := 96) (p := 5) rfl ?_); refine store_ev rfl rfl rfl (cells := #[.int .i64 k1, .int .i64 k2, .int .i64 k3]) rfl rfl Y.out (by kernel_rfl) rfl (by kernel_rfl) ?_; intro w3 hbx hgr; have n_HB := Aside0.mk (below_put HB.out G5.out hgr HB.out.size); have n_Y := Aside0.mk hbx; clear HB Y hbx hgr; have HB := n_HB; have Y := n_Y; clear n_HB n_Y; have hc3 := (HT.out.later HB.out).cell0; have y0 : w3.cell? ⟨g5, 0, none⟩ = some (.int .i64 k1) := (blk_cell Y.out 0).trans rfl; have y1 : w3.cell? ⟨g5, 1, none⟩ = some (.int .i64 k2) := (blk_cell Y.out 1).trans rfl))
  go_ret
  exact ⟨rfl, HB.out⟩
end Go.Proofs.Ytgojaomldkgojaa.Dd
