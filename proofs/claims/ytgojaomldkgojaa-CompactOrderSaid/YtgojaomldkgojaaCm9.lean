import Derived.Test.YtgojaomldkgojaaCm8
import Derived.Sort.Walk0
namespace Go.Proofs.Ytgojaomldkgojaa.Cm
set_option linter.unusedVariables false
set_option linter.unusedSimpArgs false
open Go.RowKit Go.Maps Go.Proofs.YtgojaomldkgojaaW.PrintWords Go.Proofs.YtgojaomldkgojaaW.PrintLast Go.Proofs.YtgojaomldkgojaaW.PrintMore Go.Proofs.Ytgojaomldkgojaa.PCm Go.Proofs.Ytgojaomldkgojaa.Wire
def ltK (a b : List UInt8) : Bool := decide (a < b)
abbrev putR (l : List Rc) (x : Rc) : List Rc := putL kL ltK l x
/-- what is to come of put: 'd': x is there already -/
def putD (d : Bool) (l : List Rc) (x : Rc) : List Rc := if d = true then l else putR l x
theorem put_len (l : List Rc) (x : Rc) : (putR l x).length = l.length + 1 := by
  induction l with
  | nil => rfl
  | cons r l ih =>
    show (if _ then _ else _ : List Rc).length = _
    split
    · simp
    · rw [List.length_cons]
      exact congrArg (· + 1) ih
theorem gtr_eq (x v : List UInt8) : (Op.bytesLess x v || x == v) = !decide (v < x) := by
  rw [bytesLess_eq]
  by_cases h : v < x
  · have h1 : ¬ x < v := List.not_lt.2 (List.le_of_lt h)
    have h2 : x ≠ v := fun e => List.lt_irrefl v (e ▸ h)
    simp [h, h1, h2]
  · have h1 : x ≤ v := List.not_lt.1 h
    by_cases h2 : x = v
    · simp [h, h2]
    · have h3 : x < v := by
        rcases Decidable.em (x < v) with h4 | h4
        · exact h4
        · exact absurd (List.le_antisymm h1 (List.not_lt.1 h4)) h2
      simp [h, h3]
theorem gtr_op (t : TypeId) (a b : ByteArray) : Go.binOp .gtr t (.string a) (.string b) = pure (.bool (decide (b.toList < a.toList))) := by
  have h : Go.binOp .gtr t (.string a) (.string b) = pure (.bool !(Op.bytesLess a.toList b.toList || a.toList == b.toList)) := by simp [Go.binOp, Op.stringOp]
  rw [h, gtr_eq, Bool.not_not]
section
attribute [local go_sem high] gtr_op
theorem own_ne {W : World} {v : Value} {xs : List Rc} {base g : Nat} (h : Kd.R k32 32 W base (fun _ => True) v xs) (hg : W.heap.size ≤ g) : v.ownBlock ≠ some g :=
  fun e => by have := ((Kd.R_bound h).1 g e).2.2.1; omega
theorem blk_grown {W W' : World} {g : Nat} {ob : Obj} {b : Option Nat} (h : W.heap[g]? = some ob) (hg : W.grownBy W' b) (hne : b ≠ some g) : W'.heap[g]? = some ob :=
  (hg.block g (Array.getElem?_eq_some_iff.1 h).1 (fun e => hne e.symm)).trans h
theorem blk_step {W W' : World} {g : Nat} {ob : Obj} {b : Nat} (h : W.heap[g]? = some ob) (hg : W.grownBy W' (some b)) (hne : g ≠ b) : W'.heap[g]? = some ob :=
  (hg.block g (Array.getElem?_eq_some_iff.1 h).1 (fun e => hne (Option.some.inj e))).trans h
set_option maxHeartbeats 16000000 in
set_option maxRecDepth 100000 in
theorem put_calls (A : Option Addr) (k : Nat) (l : List Rc) (x : Rc) (w : World) (hr : Kd.C k32 w A l.length l) (hl : l.length ≤ 1000) :
    Calls Try.prog 48 #[.slice A l.length k, .agg x.cs] w fun e w' => ∃ u, e = .returned u ∧ Kd.R k32 32 w' w.heap.size (fun _ => True) u (putR l x) ∧ Below w.heap.size w w' := by
  have hund : ∀ b, some undef = some (Value.bool b) → False := fun b h => by simp [undef] at h
  have HR := Aside0.mk hr
  clear hr
  obtain ⟨X, hX⟩ : ∃ X, x = X := ⟨_, rfl⟩
  obtain ⟨v0, v1, v2, v3, v4, v5, v6, v7⟩ := x
  have HX0 := Aside0.mk hX
  rw [hX]
  clear hX
  have hcs0 : X.cs = #[.int .i64 v0, .int .i64 v1, .string v2, .string v3, .bool v4, .int .i64 v5, .int .i64 v6, .int .i64 v7] := by rw [← HX0.out]; rfl
  rw [hcs0]
  clear hcs0
  go_enter Try.func48, Try.ntmps48
  go_wp2_with (first
    | ((with_reducible refine gate_dst (N := 3) rfl ?_); refine box_event rfl (N := 3) rfl (cs := #[.int .i64 v0, .int .i64 v1, .string v2, .string v3, .bool v4, .int .i64 v5, .int .i64 v6, .int .i64 v7]) (t := 32) ?hr ?_; (case hr => first | (go_simp; done) | (go_simp; rfl)); intro g3 hg3 w1 hbx hbl; have HB1 := Aside0.mk (below_step (Below.refl w.heap.size w) hbl); have HF := Aside0.mk hbl; have G3 := Aside0.mk (show w.heap.size = g3 from hg3.symm); have Z := Aside0.mk hbx; clear hbx hbl hg3))

  have hz2 : w1.cell? ⟨g3, 2, none⟩ = some (.string v2) := (blk_cell Z.out 2).trans rfl
  have Z2 := Aside0.mk hz2
  clear hz2
  have HG31 : Aside0 (g3 < w1.heap.size) := ⟨(Array.getElem?_eq_some_iff.1 Z.out).1⟩
  go_loopw [5, 6, 11] (fun ov dv iv wr => ∃ (i : Nat) (d : Bool) (acc : List Rc), iv = .int .i64 i ∧ dv = .bool d ∧ i ≤ l.length ∧ Aside0 (acc.length ≤ 2 * i) ∧ Aside0 (acc ++ putD d (l.drop i) X = putR l X) ∧ Aside0 (Kd.R k32 32 wr w1.heap.size (fun _ => True) ov acc) ∧ Aside0 (Below w1.heap.size w1 wr)) (fun _ _ iv _ => l.length - (intOf iv).toNat)
  case atStart => exact ⟨0, false, [], rfl, rfl, Nat.zero_le _, ⟨Nat.zero_le _⟩, ⟨rfl⟩, ⟨Kd.R_nil _ _ _ _ _⟩, ⟨Below.refl _ _⟩⟩
  case round =>
    obtain ⟨i, d, acc, rfl, rfl, hil, HN, HL, R, HB⟩ := hrel
    by_cases hlt : i < l.length
    · obtain ⟨ad, hAd, hcs⟩ := at_rec (Kd.C_below HR.out (below_step HB1.out HB.out)) i hlt hlt
      have hcs' := Aside0.mk hcs
      have hdr : l.drop i = l[i] :: l.drop (i + 1) := List.drop_eq_getElem_cons hlt
      have HD1 : Aside0 (d = true → putD d (l.drop i) X = l[i] :: putD true (l.drop (i + 1)) X) := ⟨fun h => by rw [hdr, h]; rfl⟩
      have HD2 : Aside0 (d = false → v2.toList < l[i].f2.toList → putD d (l.drop i) X = X :: l[i] :: putD true (l.drop (i + 1)) X) := ⟨fun h h2 => by
        rw [hdr, h]
        show putL kL ltK _ X = _
        unfold putL
        rw [if_pos (by unfold ltK; rw [← HX0.out]; exact decide_eq_true h2)]
        rfl⟩
      have HD3 : Aside0 (d = false → ¬ v2.toList < l[i].f2.toList → putD d (l.drop i) X = l[i] :: putD false (l.drop (i + 1)) X) := ⟨fun h h2 => by
        rw [hdr, h]
        show putL kL ltK _ X = _
        rw [putL, if_neg (by unfold ltK; rw [← HX0.out]; intro h3; exact h2 (of_decide_eq_true h3))]
        rfl⟩
      subst hAd
      clear hcs hdr
      obtain ⟨pr, hpr⟩ : ∃ pr, l[i] = pr := ⟨_, rfl⟩
      simp only [hpr] at hcs' HD1 HD2 HD3
      clear hpr
      obtain ⟨x0, x1, x2, x3, x4, x5, x6, x7⟩ := pr
      simp only [Rc.cs] at hcs' HD1 HD2 HD3
      have HBz := Aside0.mk HB.out.size
      by_cases hd : d = true
      · subst hd
        have e := HD1.out rfl
        have E := Aside0.mk e
        clear e
        go_wp2_with (first
          | ((with_reducible refine gate_dst (N := 14) rfl ?_); refine load_evm' (N := 14) rfl rfl rfl (cs := #[.int .i64 x0, .int .i64 x1, .string x2, .string x3, .bool x4, .int .i64 x5, .int .i64 x6, .int .i64 x7]) rfl hcs'.out Try.underlying32 rfl (by kernel_rfl) ?_)
          | ((with_reducible refine gate_dst (N := 8) rfl ?_); refine box_event rfl (N := 8) rfl (cs := #[.int .i64 0, .int .i64 0, .string ⟨#[]⟩, .string ⟨#[]⟩, .bool false, .int .i64 0, .int .i64 0, .int .i64 0]) (t := 32) ?hr ?_; (case hr => first | (go_simp; done) | (go_simp; rfl)); intro g8 hg8 w2 hbx hbl; have n_HB := Aside0.mk (below_step HB.out hbl); have HX := Aside0.mk hbl; have NE := Aside0.mk (own_ne R.out (show wr.heap.size ≤ g8 by rw [hg8]; exact Nat.le_refl _)); have G8 := Aside0.mk (show wr.heap.size ≤ g8 by rw [hg8]; exact Nat.le_refl _); have Y := Aside0.mk hbx; clear HB hbx hbl hg8; have HB := n_HB; clear n_HB)
          | ((with_reducible refine gate_store (t := 32) (p := 8) rfl ?_); refine store_ev rfl rfl rfl (cells := #[.int .i64 x0, .int .i64 x1, .string x2, .string x3, .bool x4, .int .i64 x5, .int .i64 x6, .int .i64 x7]) rfl rfl Y.out (by kernel_rfl) rfl (by kernel_rfl) ?_; intro w3 hbx hgr; have n_R := Aside0.mk (recs_new R.out HX.out hgr G8.out); have n_HB := Aside0.mk (below_put HB.out (Nat.le_trans HBz.out G8.out) hgr HB.out.size); have n_Y := Aside0.mk hbx; clear HB Y hbx hgr R HX; have HB := n_HB; have Y := n_Y; have R := n_R; clear n_HB n_Y n_R; have y2 : w3.cell? ⟨g8, 2, none⟩ = some (.string x2) := (blk_cell Y.out 2).trans rfl; have z2 : w3.cell? ⟨g3, 2, none⟩ = some (.string v2) := (HB.out.cell HG31.out).trans Z2.out)
          | ((with_reducible refine gate_dst (N := 29) rfl ?_); refine load_ev (N := 29) rfl rfl rfl (cs := #[.int .i64 x0, .int .i64 x1, .string x2, .string x3, .bool x4, .int .i64 x5, .int .i64 x6, .int .i64 x7]) rfl Y.out Try.underlying32 rfl (by kernel_rfl) ?_)
          | ((with_reducible refine gate_builtin (b := .append) (xs := #[.tmp 28, .tmp 30]) rfl ?_); at_builtin; refine Kd.R_append k32 (w0 := w1) w1.heap.size rfl (.tmp 28) (.tmp 30) 22 32 (.agg #[.int .i64 0, .int .i64 0, .string ⟨#[]⟩, .string ⟨#[]⟩, .bool false, .int .i64 0, .int .i64 0, .int .i64 0]) 80 rfl Try.underlying22 info32 rfl (by decide) (by decide) _ acc ⟨x0, x1, x2, x3, x4, x5, x6, x7⟩ [.int .i64 x0, .int .i64 x1, .string x2, .string x3, .bool x4, .int .i64 x5, .int .i64 x6, .int .i64 x7] (fun _ => True) (fun _ => False) rfl ?aX (k32_mkM _ _ _ ⟨x0, x1, x2, x3, x4, x5, x6, x7⟩) (fun _ hk => hk.elim) (fun _ _ => trivial) R.out HB.out HB.out.size ?aL ?_; (case aX => first | rfl | (go_simp; done) | (go_simp; rfl)); (case aL => have := HN.out; omega); intro uw4 w4 ho hb hgr hat; clear R HB hgr hat; have R := Aside0.mk ho; have HB := Aside0.mk hb; clear ho hb))
        try clear hq
        try clear hq3
        try clear hx
        go_roundw
        case rel => exact ⟨i + 1, true, acc ++ [⟨x0, x1, x2, x3, x4, x5, x6, x7⟩], by go_num, rfl, by omega, ⟨by rw [List.length_append]; have := HN.out; simp; omega⟩, ⟨by rw [← HL.out, E.out]; simp⟩, R, HB⟩
        case measure => simp [intOf]; omega
      have hd2 : d = false := by simpa using hd
      clear hd
      subst hd2
      by_cases hx : v2.toList < x2.toList
      · have E := Aside0.mk (HD2.out rfl hx)
        have hq : decide (v2.toList < x2.toList) = true := decide_eq_true hx
        go_wp2_with (first
          | ((with_reducible refine gate_dst (N := 14) rfl ?_); refine load_evm' (N := 14) rfl rfl rfl (cs := #[.int .i64 x0, .int .i64 x1, .string x2, .string x3, .bool x4, .int .i64 x5, .int .i64 x6, .int .i64 x7]) rfl hcs'.out Try.underlying32 rfl (by kernel_rfl) ?_)
          | ((with_reducible refine gate_dst (N := 8) rfl ?_); refine box_event rfl (N := 8) rfl (cs := #[.int .i64 0, .int .i64 0, .string ⟨#[]⟩, .string ⟨#[]⟩, .bool false, .int .i64 0, .int .i64 0, .int .i64 0]) (t := 32) ?hr ?_; (case hr => first | (go_simp; done) | (go_simp; rfl)); intro g8 hg8 w2 hbx hbl; have n_HB := Aside0.mk (below_step HB.out hbl); have HX := Aside0.mk hbl; have NE := Aside0.mk (own_ne R.out (show wr.heap.size ≤ g8 by rw [hg8]; exact Nat.le_refl _)); have G8 := Aside0.mk (show wr.heap.size ≤ g8 by rw [hg8]; exact Nat.le_refl _); have Y := Aside0.mk hbx; clear HB hbx hbl hg8; have HB := n_HB; clear n_HB)
          | ((with_reducible refine gate_store (t := 32) (p := 8) rfl ?_); refine store_ev rfl rfl rfl (cells := #[.int .i64 x0, .int .i64 x1, .string x2, .string x3, .bool x4, .int .i64 x5, .int .i64 x6, .int .i64 x7]) rfl rfl Y.out (by kernel_rfl) rfl (by kernel_rfl) ?_; intro w3 hbx hgr; have n_R := Aside0.mk (recs_new R.out HX.out hgr G8.out); have n_HB := Aside0.mk (below_put HB.out (Nat.le_trans HBz.out G8.out) hgr HB.out.size); have n_Y := Aside0.mk hbx; clear HB Y hbx hgr R HX; have HB := n_HB; have Y := n_Y; have R := n_R; clear n_HB n_Y n_R; have y2 : w3.cell? ⟨g8, 2, none⟩ = some (.string x2) := (blk_cell Y.out 2).trans rfl; have z2 : w3.cell? ⟨g3, 2, none⟩ = some (.string v2) := (HB.out.cell HG31.out).trans Z2.out)
          | ((with_reducible refine gate_dst (N := 25) rfl ?_); refine load_ev (N := 25) rfl rfl rfl (cs := #[.int .i64 v0, .int .i64 v1, .string v2, .string v3, .bool v4, .int .i64 v5, .int .i64 v6, .int .i64 v7]) rfl (blk_below Z.out HB.out) Try.underlying32 rfl (by kernel_rfl) ?_)
          | ((with_reducible refine gate_builtin (b := .append) (xs := #[.tmp 24, .tmp 26]) rfl ?_); at_builtin; refine Kd.R_append k32 (w0 := w1) w1.heap.size rfl (.tmp 24) (.tmp 26) 22 32 (.agg #[.int .i64 0, .int .i64 0, .string ⟨#[]⟩, .string ⟨#[]⟩, .bool false, .int .i64 0, .int .i64 0, .int .i64 0]) 80 rfl Try.underlying22 info32 rfl (by decide) (by decide) _ acc ⟨v0, v1, v2, v3, v4, v5, v6, v7⟩ [.int .i64 v0, .int .i64 v1, .string v2, .string v3, .bool v4, .int .i64 v5, .int .i64 v6, .int .i64 v7] (fun _ => True) (fun _ => False) rfl ?aX (k32_mkM _ _ _ ⟨v0, v1, v2, v3, v4, v5, v6, v7⟩) (fun _ hk => hk.elim) (fun _ _ => trivial) R.out HB.out HB.out.size ?aL ?_; (case aX => first | rfl | (go_simp; done) | (go_simp; rfl)); (case aL => have := HN.out; omega); intro uw4 w4 ho hb hgr hat; have Y2 := Aside0.mk (blk_grown Y.out hgr NE.out); clear Y; have Y := Y2; clear Y2; clear R HB hgr hat; have R := Aside0.mk ho; have HB := Aside0.mk hb; clear ho hb)
          | ((with_reducible refine gate_dst (N := 29) rfl ?_); refine load_ev (N := 29) rfl rfl rfl (cs := #[.int .i64 x0, .int .i64 x1, .string x2, .string x3, .bool x4, .int .i64 x5, .int .i64 x6, .int .i64 x7]) rfl Y.out Try.underlying32 rfl (by kernel_rfl) ?_)
          | ((with_reducible refine gate_builtin (b := .append) (xs := #[.tmp 28, .tmp 30]) rfl ?_); at_builtin; refine Kd.R_append k32 (w0 := w1) w1.heap.size rfl (.tmp 28) (.tmp 30) 22 32 (.agg #[.int .i64 0, .int .i64 0, .string ⟨#[]⟩, .string ⟨#[]⟩, .bool false, .int .i64 0, .int .i64 0, .int .i64 0]) 80 rfl Try.underlying22 info32 rfl (by decide) (by decide) _ (acc ++ [(⟨v0, v1, v2, v3, v4, v5, v6, v7⟩ : Rc)]) ⟨x0, x1, x2, x3, x4, x5, x6, x7⟩ [.int .i64 x0, .int .i64 x1, .string x2, .string x3, .bool x4, .int .i64 x5, .int .i64 x6, .int .i64 x7] (fun _ => True) (fun _ => False) rfl ?aX (k32_mkM _ _ _ ⟨x0, x1, x2, x3, x4, x5, x6, x7⟩) (fun _ hk => hk.elim) (fun _ _ => trivial) R.out HB.out HB.out.size ?aL ?_; (case aX => first | rfl | (go_simp; done) | (go_simp; rfl)); (case aL => (try simp only [List.length_append, List.length_cons, List.length_nil]); have := HN.out; omega); intro uw5 w5 ho hb hgr hat; clear R HB hgr hat; have R := Aside0.mk ho; have HB := Aside0.mk hb; clear ho hb))
        try clear hq
        try clear hq3
        try clear hx
        go_roundw
        case rel => exact ⟨i + 1, true, acc ++ [⟨v0, v1, v2, v3, v4, v5, v6, v7⟩] ++ [⟨x0, x1, x2, x3, x4, x5, x6, x7⟩], by go_num, rfl, by omega, ⟨by simp only [List.length_append]; have := HN.out; simp; omega⟩, ⟨by rw [← HL.out, E.out, HX0.out]; simp⟩, R, HB⟩
        case measure => simp [intOf]; omega
      · have E := Aside0.mk (HD3.out rfl hx)
        have hq : decide (v2.toList < x2.toList) = false := decide_eq_false hx
        go_wp2_with (first
          | ((with_reducible refine gate_dst (N := 14) rfl ?_); refine load_evm' (N := 14) rfl rfl rfl (cs := #[.int .i64 x0, .int .i64 x1, .string x2, .string x3, .bool x4, .int .i64 x5, .int .i64 x6, .int .i64 x7]) rfl hcs'.out Try.underlying32 rfl (by kernel_rfl) ?_)
          | ((with_reducible refine gate_dst (N := 8) rfl ?_); refine box_event rfl (N := 8) rfl (cs := #[.int .i64 0, .int .i64 0, .string ⟨#[]⟩, .string ⟨#[]⟩, .bool false, .int .i64 0, .int .i64 0, .int .i64 0]) (t := 32) ?hr ?_; (case hr => first | (go_simp; done) | (go_simp; rfl)); intro g8 hg8 w2 hbx hbl; have n_HB := Aside0.mk (below_step HB.out hbl); have HX := Aside0.mk hbl; have NE := Aside0.mk (own_ne R.out (show wr.heap.size ≤ g8 by rw [hg8]; exact Nat.le_refl _)); have G8 := Aside0.mk (show wr.heap.size ≤ g8 by rw [hg8]; exact Nat.le_refl _); have Y := Aside0.mk hbx; clear HB hbx hbl hg8; have HB := n_HB; clear n_HB)
          | ((with_reducible refine gate_store (t := 32) (p := 8) rfl ?_); refine store_ev rfl rfl rfl (cells := #[.int .i64 x0, .int .i64 x1, .string x2, .string x3, .bool x4, .int .i64 x5, .int .i64 x6, .int .i64 x7]) rfl rfl Y.out (by kernel_rfl) rfl (by kernel_rfl) ?_; intro w3 hbx hgr; have n_R := Aside0.mk (recs_new R.out HX.out hgr G8.out); have n_HB := Aside0.mk (below_put HB.out (Nat.le_trans HBz.out G8.out) hgr HB.out.size); have n_Y := Aside0.mk hbx; clear HB Y hbx hgr R HX; have HB := n_HB; have Y := n_Y; have R := n_R; clear n_HB n_Y n_R; have y2 : w3.cell? ⟨g8, 2, none⟩ = some (.string x2) := (blk_cell Y.out 2).trans rfl; have z2 : w3.cell? ⟨g3, 2, none⟩ = some (.string v2) := (HB.out.cell HG31.out).trans Z2.out)
          | ((with_reducible refine gate_dst (N := 29) rfl ?_); refine load_ev (N := 29) rfl rfl rfl (cs := #[.int .i64 x0, .int .i64 x1, .string x2, .string x3, .bool x4, .int .i64 x5, .int .i64 x6, .int .i64 x7]) rfl Y.out Try.underlying32 rfl (by kernel_rfl) ?_)
          | ((with_reducible refine gate_builtin (b := .append) (xs := #[.tmp 28, .tmp 30]) rfl ?_); at_builtin; refine Kd.R_append k32 (w0 := w1) w1.heap.size rfl (.tmp 28) (.tmp 30) 22 32 (.agg #[.int .i64 0, .int .i64 0, .string ⟨#[]⟩, .string ⟨#[]⟩, .bool false, .int .i64 0, .int .i64 0, .int .i64 0]) 80 rfl Try.underlying22 info32 rfl (by decide) (by decide) _ acc ⟨x0, x1, x2, x3, x4, x5, x6, x7⟩ [.int .i64 x0, .int .i64 x1, .string x2, .string x3, .bool x4, .int .i64 x5, .int .i64 x6, .int .i64 x7] (fun _ => True) (fun _ => False) rfl ?aX (k32_mkM _ _ _ ⟨x0, x1, x2, x3, x4, x5, x6, x7⟩) (fun _ hk => hk.elim) (fun _ _ => trivial) R.out HB.out HB.out.size ?aL ?_; (case aX => first | rfl | (go_simp; done) | (go_simp; rfl)); (case aL => have := HN.out; omega); intro uw4 w4 ho hb hgr hat; clear R HB hgr hat; have R := Aside0.mk ho; have HB := Aside0.mk hb; clear ho hb))
        try clear hq
        try clear hq3
        try clear hx
        go_roundw
        case rel => exact ⟨i + 1, false, acc ++ [⟨x0, x1, x2, x3, x4, x5, x6, x7⟩], by go_num, rfl, by omega, ⟨by rw [List.length_append]; have := HN.out; simp; omega⟩, ⟨by rw [← HL.out, E.out]; simp⟩, R, HB⟩
        case measure => simp [intOf]; omega
    · obtain rfl : i = l.length := by omega
      have e := HL.out
      rw [List.drop_length] at e
      have HE := Aside0.mk e
      clear e
      by_cases hd : d = true
      · subst hd
        go_wp2_with fail
        refine bodyPost_ret (results_tmp rfl _ _ _) rfl ?_
        refine ⟨_, rfl, ?_, below_step HB1.out HB.out⟩
        rw [← HE.out]
        simpa [putD] using Kd.R_lower R.out HB1.out.size
      · have hd2 : d = false := by simpa using hd
        clear hd
        subst hd2
        go_wp2_with (first
          | ((with_reducible refine gate_dst (N := 36) rfl ?_); refine load_ev (N := 36) rfl rfl rfl (cs := #[.int .i64 v0, .int .i64 v1, .string v2, .string v3, .bool v4, .int .i64 v5, .int .i64 v6, .int .i64 v7]) rfl (blk_below Z.out HB.out) Try.underlying32 rfl (by kernel_rfl) ?_)
          | ((with_reducible refine gate_builtin (b := .append) (xs := #[.tmp 35, .tmp 37]) rfl ?_); at_builtin; refine Kd.R_append k32 (w0 := w1) w1.heap.size rfl (.tmp 35) (.tmp 37) 22 32 (.agg #[.int .i64 0, .int .i64 0, .string ⟨#[]⟩, .string ⟨#[]⟩, .bool false, .int .i64 0, .int .i64 0, .int .i64 0]) 80 rfl Try.underlying22 info32 rfl (by decide) (by decide) _ acc ⟨v0, v1, v2, v3, v4, v5, v6, v7⟩ [.int .i64 v0, .int .i64 v1, .string v2, .string v3, .bool v4, .int .i64 v5, .int .i64 v6, .int .i64 v7] (fun _ => True) (fun _ => False) rfl ?aX (k32_mkM _ _ _ ⟨v0, v1, v2, v3, v4, v5, v6, v7⟩) (fun _ hk => hk.elim) (fun _ _ => trivial) R.out HB.out HB.out.size ?aL ?_; (case aX => first | rfl | (go_simp; done) | (go_simp; rfl)); (case aL => have := HN.out; omega); intro uw4 w4 ho hb hgr hat; clear R HB hgr hat; have R := Aside0.mk ho; have HB := Aside0.mk hb; clear ho hb))
        refine bodyPost_ret (results_tmp rfl _ _ _) rfl ?_
        refine ⟨_, rfl, ?_, below_step HB1.out HB.out⟩
        have e := HE.out
        rw [← HX0.out] at e
        rw [← HX0.out, ← e]
        exact Kd.R_lower R.out HB1.out.size
end
end Go.Proofs.Ytgojaomldkgojaa.Cm
