import Derived.Test.YtgojaomldkgojaaCm1
namespace Go.Proofs.Ytgojaomldkgojaa.Cm
set_option linter.unusedVariables false
set_option linter.unusedSimpArgs false
open Go.RowKit Go.Maps Go.Proofs.YtgojaomldkgojaaW.PrintWords Go.Proofs.YtgojaomldkgojaaW.PrintLast Go.Proofs.YtgojaomldkgojaaW.PrintMore Go.Proofs.Ytgojaomldkgojaa.PCm Go.Proofs.Ytgojaomldkgojaa.Wire
/-- the last place of a key -/
def lastIx (l : List Rc) : Nat → List UInt8 → Int
  | 0, _ => 0
  | i + 1, k => if (l.getD i z32).f2.toList = k then (i : Int) else lastIx l i k
theorem toList_data (s : ByteArray) : s.data.toList = s.toList := by rw [ByteArray.toList_eq]
theorem dat_at (l : List Rc) (i : Nat) (k : ByteArray) (hk : k.toList ≠ []) (hz : k.size ≤ 1000) : (dat l i).atKey (.string k.data.toList) (.lit (.int .i64 0)) = .lit (.int .i64 (lastIx l i k.toList)) := by
  induction i with
  | zero => rfl
  | succ i ih =>
    unfold dat lastIx
    by_cases he : (l.getD i z32).f2.toList = []
    · rw [if_pos he, if_neg (fun e => hk (e.symm.trans he)), ih]
    · rw [if_neg he]
      by_cases e : (l.getD i z32).f2.toList = k.toList
      · have e2 : (l.getD i z32).f2.data.toList = k.data.toList := by rw [toList_data, toList_data, e]
        rw [if_pos e, e2, atKey_put_same (dat_map l i) (str_law.key (WideMaps.keyOf_string_mk Try.underlying9 (s := k) (by unfold maxLen; omega)))]
      · rw [if_neg e, atKey_put_other (fun q => e (by rw [toList_data, toList_data] at q; injection q with q; first | exact q | exact q.symm)), ih]
set_option maxRecDepth 100000 in
theorem zero_int (w : World) : (zeroValue 3).run Try.prog w = .ok (.int .i64 0) w := by kernel_rfl
set_option maxRecDepth 100000 in
theorem STab.look {w : World} {b n : Nat} {l : List Rc} (h : STab w b l n) {k : ByteArray} (hk : k.toList ≠ []) (hz : k.size ≤ 1000) : (Instr.lookup 83 (.map (some b)) (.string k) false).run Try.prog w = .ok (.int .i64 (lastIx l n k.toList)) w := by
  unfold STab at h
  obtain ⟨x, hrun, hat, _⟩ := World.ownsMap.lookup_int h str_law Try.underlying83 Try.underlying3 (zero_int w) (WideMaps.keyOf_string_mk Try.underlying9 (s := k) (by unfold maxLen; omega))
  rw [dat_at l n k hk hz] at hat
  injection hat with hat
  injection hat with _ hat
  rw [hrun, hat]
theorem STab.later {w w' : World} {b n : Nat} {l : List Rc} (h : STab w b l n) (hb : Below w.heap.size w w') : STab w' b l n := h.kept (far_b hb) (by simp)
/-- the key as a list -/
def kL (r : Rc) : List UInt8 := r.f2.toList
theorem last_iff (l : List Rc) : ∀ (n i : Nat) (hi : i < l.length), i < n → n ≤ l.length → (lastIx l n (kL l[i]) = i ↔ fresh kL ((l.take n).drop (i + 1)) (kL l[i]) = true) := by
  intro n
  induction n with
  | zero => intro i _ h _; omega
  | succ n ih =>
    intro i hi hin hnl
    have hg : l.getD n z32 = l[n] := by rw [List.getD_eq_getElem?_getD, List.getElem?_eq_getElem (by omega)]; rfl
    have ht : l.take (n + 1) = l.take n ++ [l[n]] := List.take_succ_eq_append_getElem (by omega)
    have hle : (l.take n).length = n := by rw [List.length_take]; omega
    show ((if (l.getD n z32).f2.toList = kL l[i] then (n : Int) else lastIx l n (kL l[i])) = i ↔ _)
    rw [hg, ht]
    rcases Nat.lt_or_ge i n with hlt | hge
    · rw [List.drop_append_of_le_length (by rw [hle]; omega)]
      unfold fresh
      rw [List.all_append]
      have hih := ih i hi hlt (by omega)
      unfold fresh at hih
      by_cases e : l[n].f2.toList = kL l[i]
      · rw [if_pos e]
        constructor
        · intro h; omega
        · intro h
          simp only [List.all_cons, List.all_nil, Bool.and_true, Bool.and_eq_true, decide_eq_true_eq] at h
          exact absurd e h.2
      · rw [if_neg e, hih]
        simp only [List.all_cons, List.all_nil, Bool.and_true, Bool.and_eq_true, decide_eq_true_eq]
        exact ⟨fun h => ⟨h, e⟩, fun h => h.1⟩
    · obtain rfl : i = n := by omega
      rw [if_pos (show l[i].f2.toList = kL l[i] from rfl), List.drop_eq_nil_of_le (by rw [List.length_append, hle]; simp)]
      exact ⟨fun _ => rfl, fun _ => rfl⟩

theorem recs_new {W W0 W' : World} {base b : Nat} {v : Value} {xs : List Rc} (h : Kd.R k32 32 W base (fun _ => True) v xs) (hb : Below W.heap.size W W0) (hg : W0.grownBy W' (some b)) (hB : W.heap.size ≤ b) : Kd.R k32 32 W' base (fun _ => True) v xs :=
  Kd.R_mono (Kd.R_step (Kd.R_bound h) (fun k hk hlt => (hg.block k (Nat.lt_of_lt_of_le hlt hb.size) (fun e => by have := Option.some.inj e; omega)).trans (hb.block k hlt))) (fun _ _ => trivial)
def oldB (dead : Int) (r : Rc) : Bool := decide (r.f1 < dead)
abbrev keepF (dead : Int) (l : List Rc) : List Rc := keepL kL [] (·.f4) (oldB dead) l
set_option maxHeartbeats 16000000 in
set_option maxRecDepth 100000 in
theorem keep_calls (A : Option Addr) (k : Nat) (l : List Rc) (dead : Int) (w : World) (hr : Kd.C k32 w A l.length l) (hl : l.length ≤ 1000) (hz : ∀ r ∈ l, r.f2.size ≤ 1000) :
    Calls Try.prog 14 #[.slice A l.length k, .int .i64 dead] w fun e w' => ∃ u, e = .returned u ∧ Kd.R k32 32 w' w.heap.size (fun _ => True) u (keepF dead l) ∧ Below w.heap.size w w' := by
  have hund : ∀ b, some undef = some (Value.bool b) → False := fun b h => by simp [undef] at h
  have HR := Aside0.mk hr
  have HZ := Aside0.mk hz
  have hls := Aside0.mk (lasts_calls A k l w hr hl hz)
  clear hr hz
  go_enter Try.func14, Try.ntmps14
  go_wp2_with fail
  refine hls.out.mono ?_
  rintro e w0 ⟨b, rfl, hbs, hT, hB⟩
  have HT0 := Aside0.mk hT
  have HB0 := Aside0.mk hB
  clear hT hB hls hbs
  go_wp2_with fail
  go_loopw [6, 13] (fun ov iv wr => ∃ (i : Nat) (acc : List Rc), iv = .int .i64 i ∧ i ≤ l.length ∧ Aside0 (acc.length ≤ i) ∧ Aside0 (acc ++ keepF dead (l.drop i) = keepF dead l) ∧ Aside0 (Kd.R k32 32 wr w0.heap.size (fun _ => True) ov acc) ∧ Aside0 (Below w0.heap.size w0 wr)) (fun _ iv _ => l.length - (intOf iv).toNat)
  case atStart => exact ⟨0, [], rfl, Nat.zero_le _, ⟨Nat.le_refl _⟩, ⟨rfl⟩, ⟨Kd.R_nil _ _ _ _ _⟩, ⟨Below.refl _ _⟩⟩
  case round =>
    obtain ⟨i, acc, rfl, hil, HN, HL, R, HB⟩ := hrel
    by_cases hlt : i < l.length
    · obtain ⟨ad, hAd, hcs⟩ := at_rec (Kd.C_below HR.out (below_step HB0.out HB.out)) i hlt hlt
      have hcs' := Aside0.mk hcs
      have hsz := HZ.out l[i] (List.getElem_mem hlt)
      have hit := last_iff l l.length i hlt hlt (Nat.le_refl _)
      rw [List.take_length] at hit
      have hdr : l.drop i = l[i] :: l.drop (i + 1) := List.drop_eq_getElem_cons hlt
      have HK : Aside0 (keepF dead (l.drop i) = if kL l[i] = [] ∨ (fresh kL (l.drop (i + 1)) (kL l[i]) = true ∧ (l[i].f4 && oldB dead l[i]) = false) then l[i] :: keepF dead (l.drop (i + 1)) else keepF dead (l.drop (i + 1))) := ⟨by rw [hdr]; rfl⟩
      subst hAd
      clear hcs hdr
      obtain ⟨fr, hfr⟩ : ∃ fr, fresh kL (l.drop (i + 1)) (kL l[i]) = fr := ⟨_, rfl⟩
      obtain ⟨ix, hix⟩ : ∃ ix, lastIx l l.length (kL l[i]) = ix := ⟨_, rfl⟩
      have hlk : Aside0 (kL l[i] ≠ [] → ∀ W, STab W b l l.length → (Instr.lookup 83 (.map (some b)) (.string l[i].f2) false).run Try.prog W = .ok (.int .i64 ix) W) := ⟨fun h W hW => by rw [← hix]; exact hW.look h hsz⟩
      rw [hix, hfr] at hit
      rw [hfr] at HK
      clear hfr hix
      obtain ⟨pr, hpr⟩ : ∃ pr, l[i] = pr := ⟨_, rfl⟩
      simp only [hpr] at hcs' HK hlk
      clear hpr hsz
      obtain ⟨x0, x1, x2, x3, x4, x5, x6, x7⟩ := pr
      simp only [Rc.cs, kL, oldB] at hcs' HK hlk
      have HBz := Aside0.mk HB.out.size
      by_cases he : x2.toList = []
      · have HK2 := Aside0.mk (HK.out.trans (if_pos (.inl he))); clear HK; have HK := HK2
        have he2 : x2.toList.isEmpty = true := by rw [he]; rfl
        go_wp2_with (first
          | ((with_reducible refine gate_dst (N := 17) rfl ?_); refine load_evm' (N := 17) rfl rfl rfl (cs := #[.int .i64 x0, .int .i64 x1, .string x2, .string x3, .bool x4, .int .i64 x5, .int .i64 x6, .int .i64 x7]) rfl hcs'.out Try.underlying32 rfl (by kernel_rfl) ?_)
          | ((with_reducible refine gate_dst (N := 8) rfl ?_); refine box_event rfl (N := 8) rfl (cs := #[.int .i64 0, .int .i64 0, .string ⟨#[]⟩, .string ⟨#[]⟩, .bool false, .int .i64 0, .int .i64 0, .int .i64 0]) (t := 32) ?hr ?_; (case hr => first | (go_simp; done) | (go_simp; rfl)); intro g8 hg8 w1 hbx hbl; have n_HB := Aside0.mk (below_step HB.out hbl); have HX := Aside0.mk hbl; have G8 := Aside0.mk (show wr.heap.size ≤ g8 by rw [hg8]; exact Nat.le_refl _); have Y := Aside0.mk hbx; clear HB hbx hbl hg8; have HB := n_HB; clear n_HB)
          | ((with_reducible refine gate_store (t := 32) (p := 8) rfl ?_); refine store_ev rfl rfl rfl (cells := #[.int .i64 x0, .int .i64 x1, .string x2, .string x3, .bool x4, .int .i64 x5, .int .i64 x6, .int .i64 x7]) rfl rfl Y.out (by kernel_rfl) rfl (by kernel_rfl) ?_; intro w2 hbx hgr; have n_R := Aside0.mk (recs_new R.out HX.out hgr G8.out); have n_HB := Aside0.mk (below_put HB.out (Nat.le_trans HBz.out G8.out) hgr HB.out.size); have n_Y := Aside0.mk hbx; clear HB Y hbx hgr R HX; have HB := n_HB; have Y := n_Y; have R := n_R; clear n_HB n_Y n_R; have y2 : w2.cell? ⟨g8, 2, none⟩ = some (.string x2) := (blk_cell Y.out 2).trans rfl; have y1 : w2.cell? ⟨g8, 1, none⟩ = some (.int .i64 x1) := (blk_cell Y.out 1).trans rfl; have y4 : w2.cell? ⟨g8, 4, none⟩ = some (.bool x4) := (blk_cell Y.out 4).trans rfl)
          | ((with_reducible refine gate_dst (N := 41) rfl ?_); refine load_ev (N := 41) rfl rfl rfl (cs := #[.int .i64 x0, .int .i64 x1, .string x2, .string x3, .bool x4, .int .i64 x5, .int .i64 x6, .int .i64 x7]) rfl Y.out Try.underlying32 rfl (by kernel_rfl) ?_)
          | ((with_reducible refine gate_builtin (b := .append) (xs := #[.tmp 40, .tmp 42]) rfl ?_); at_builtin; refine Kd.R_append k32 (w0 := w0) w0.heap.size rfl (.tmp 40) (.tmp 42) 22 32 (.agg #[.int .i64 0, .int .i64 0, .string ⟨#[]⟩, .string ⟨#[]⟩, .bool false, .int .i64 0, .int .i64 0, .int .i64 0]) 80 rfl Try.underlying22 info32 rfl (by decide) (by decide) _ acc ⟨x0, x1, x2, x3, x4, x5, x6, x7⟩ [.int .i64 x0, .int .i64 x1, .string x2, .string x3, .bool x4, .int .i64 x5, .int .i64 x6, .int .i64 x7] (fun _ => True) (fun _ => False) rfl ?aX (k32_mkM _ _ _ ⟨x0, x1, x2, x3, x4, x5, x6, x7⟩) (fun _ hk => hk.elim) (fun _ _ => trivial) R.out HB.out HB.out.size ?aL ?_; (case aX => first | rfl | (go_simp; done) | (go_simp; rfl)); (case aL => have := HN.out; omega); intro v1 w4 ho hb hgr hat; clear R HB hgr hat; have R := Aside0.mk ho; have HB := Aside0.mk hb; clear ho hb))
        try clear hq
        try clear hit
        try clear hix
        try clear hx4
        try clear hx5
        try clear hlook
        go_roundw
        case rel => exact ⟨i + 1, acc ++ [⟨x0, x1, x2, x3, x4, x5, x6, x7⟩], by go_num, by omega, ⟨by rw [List.length_append]; have := HN.out; simp; omega⟩, ⟨by rw [← HL.out, HK.out]; simp⟩, R, HB⟩
        case measure => simp [intOf]; omega
      have he2 : x2.toList.isEmpty = false := by rw [Bool.eq_false_iff]; exact fun h => he (List.isEmpty_iff.1 h)
      by_cases hix : ix = (i : Int)
      · have hf : fr = true := hit.1 hix
        subst hf
        have hq : (ix == (i : Int)) = true := beq_iff_eq.2 hix
        by_cases hx4 : x4 = false
        · subst hx4
          have HK2 := Aside0.mk (HK.out.trans (if_pos (.inr ⟨rfl, rfl⟩))); clear HK; have HK := HK2
          go_wp2_with (first
            | ((with_reducible refine gate_dst (N := 17) rfl ?_); refine load_evm' (N := 17) rfl rfl rfl (cs := #[.int .i64 x0, .int .i64 x1, .string x2, .string x3, .bool false, .int .i64 x5, .int .i64 x6, .int .i64 x7]) rfl hcs'.out Try.underlying32 rfl (by kernel_rfl) ?_)
            | ((with_reducible refine gate_dst (N := 8) rfl ?_); refine box_event rfl (N := 8) rfl (cs := #[.int .i64 0, .int .i64 0, .string ⟨#[]⟩, .string ⟨#[]⟩, .bool false, .int .i64 0, .int .i64 0, .int .i64 0]) (t := 32) ?hr ?_; (case hr => first | (go_simp; done) | (go_simp; rfl)); intro g8 hg8 w1 hbx hbl; have n_HB := Aside0.mk (below_step HB.out hbl); have HX := Aside0.mk hbl; have G8 := Aside0.mk (show wr.heap.size ≤ g8 by rw [hg8]; exact Nat.le_refl _); have Y := Aside0.mk hbx; clear HB hbx hbl hg8; have HB := n_HB; clear n_HB)
            | ((with_reducible refine gate_store (t := 32) (p := 8) rfl ?_); refine store_ev rfl rfl rfl (cells := #[.int .i64 x0, .int .i64 x1, .string x2, .string x3, .bool false, .int .i64 x5, .int .i64 x6, .int .i64 x7]) rfl rfl Y.out (by kernel_rfl) rfl (by kernel_rfl) ?_; intro w2 hbx hgr; have n_R := Aside0.mk (recs_new R.out HX.out hgr G8.out); have n_HB := Aside0.mk (below_put HB.out (Nat.le_trans HBz.out G8.out) hgr HB.out.size); have n_Y := Aside0.mk hbx; clear HB Y hbx hgr R HX; have HB := n_HB; have Y := n_Y; have R := n_R; clear n_HB n_Y n_R; have y2 : w2.cell? ⟨g8, 2, none⟩ = some (.string x2) := (blk_cell Y.out 2).trans rfl; have y1 : w2.cell? ⟨g8, 1, none⟩ = some (.int .i64 x1) := (blk_cell Y.out 1).trans rfl; have y4 : w2.cell? ⟨g8, 4, none⟩ = some (.bool false) := (blk_cell Y.out 4).trans rfl; have hlook := hlk.out he w2 (HT0.out.later HB.out))
            | ((with_reducible refine gate_dst (N := 41) rfl ?_); refine load_ev (N := 41) rfl rfl rfl (cs := #[.int .i64 x0, .int .i64 x1, .string x2, .string x3, .bool false, .int .i64 x5, .int .i64 x6, .int .i64 x7]) rfl Y.out Try.underlying32 rfl (by kernel_rfl) ?_)
            | ((with_reducible refine gate_builtin (b := .append) (xs := #[.tmp 40, .tmp 42]) rfl ?_); at_builtin; refine Kd.R_append k32 (w0 := w0) w0.heap.size rfl (.tmp 40) (.tmp 42) 22 32 (.agg #[.int .i64 0, .int .i64 0, .string ⟨#[]⟩, .string ⟨#[]⟩, .bool false, .int .i64 0, .int .i64 0, .int .i64 0]) 80 rfl Try.underlying22 info32 rfl (by decide) (by decide) _ acc ⟨x0, x1, x2, x3, false, x5, x6, x7⟩ [.int .i64 x0, .int .i64 x1, .string x2, .string x3, .bool false, .int .i64 x5, .int .i64 x6, .int .i64 x7] (fun _ => True) (fun _ => False) rfl ?aX (k32_mkM _ _ _ ⟨x0, x1, x2, x3, false, x5, x6, x7⟩) (fun _ hk => hk.elim) (fun _ _ => trivial) R.out HB.out HB.out.size ?aL ?_; (case aX => first | rfl | (go_simp; done) | (go_simp; rfl)); (case aL => have := HN.out; omega); intro v1 w4 ho hb hgr hat; clear R HB hgr hat; have R := Aside0.mk ho; have HB := Aside0.mk hb; clear ho hb))
          try clear hq
          try clear hit
          try clear hix
          try clear hx4
          try clear hx5
          try clear hlook
          go_roundw
          case rel => exact ⟨i + 1, acc ++ [⟨x0, x1, x2, x3, false, x5, x6, x7⟩], by go_num, by omega, ⟨by rw [List.length_append]; have := HN.out; simp; omega⟩, ⟨by rw [← HL.out, HK.out]; simp⟩, R, HB⟩
          case measure => simp [intOf]; omega
        · have hx5 : x4 = true := by simpa using hx4
          clear hx4
          subst hx5
          by_cases hd : x1 < dead
          · have HK2 := Aside0.mk (HK.out.trans (if_neg (fun h => h.elim he (fun h => by simp [hd] at h)))); clear HK; have HK := HK2
            have hd2 : ¬ dead ≤ x1 := by omega
            go_wp2_with (first
              | ((with_reducible refine gate_dst (N := 17) rfl ?_); refine load_evm' (N := 17) rfl rfl rfl (cs := #[.int .i64 x0, .int .i64 x1, .string x2, .string x3, .bool true, .int .i64 x5, .int .i64 x6, .int .i64 x7]) rfl hcs'.out Try.underlying32 rfl (by kernel_rfl) ?_)
              | ((with_reducible refine gate_dst (N := 8) rfl ?_); refine box_event rfl (N := 8) rfl (cs := #[.int .i64 0, .int .i64 0, .string ⟨#[]⟩, .string ⟨#[]⟩, .bool false, .int .i64 0, .int .i64 0, .int .i64 0]) (t := 32) ?hr ?_; (case hr => first | (go_simp; done) | (go_simp; rfl)); intro g8 hg8 w1 hbx hbl; have n_HB := Aside0.mk (below_step HB.out hbl); have HX := Aside0.mk hbl; have G8 := Aside0.mk (show wr.heap.size ≤ g8 by rw [hg8]; exact Nat.le_refl _); have Y := Aside0.mk hbx; clear HB hbx hbl hg8; have HB := n_HB; clear n_HB)
              | ((with_reducible refine gate_store (t := 32) (p := 8) rfl ?_); refine store_ev rfl rfl rfl (cells := #[.int .i64 x0, .int .i64 x1, .string x2, .string x3, .bool true, .int .i64 x5, .int .i64 x6, .int .i64 x7]) rfl rfl Y.out (by kernel_rfl) rfl (by kernel_rfl) ?_; intro w2 hbx hgr; have n_R := Aside0.mk (recs_new R.out HX.out hgr G8.out); have n_HB := Aside0.mk (below_put HB.out (Nat.le_trans HBz.out G8.out) hgr HB.out.size); have n_Y := Aside0.mk hbx; clear HB Y hbx hgr R HX; have HB := n_HB; have Y := n_Y; have R := n_R; clear n_HB n_Y n_R; have y2 : w2.cell? ⟨g8, 2, none⟩ = some (.string x2) := (blk_cell Y.out 2).trans rfl; have y1 : w2.cell? ⟨g8, 1, none⟩ = some (.int .i64 x1) := (blk_cell Y.out 1).trans rfl; have y4 : w2.cell? ⟨g8, 4, none⟩ = some (.bool true) := (blk_cell Y.out 4).trans rfl; have hlook := hlk.out he w2 (HT0.out.later HB.out)))
            try clear hq
            try clear hit
            try clear hix
            try clear hx4
            try clear hx5
            try clear hlook
            go_roundw
            case rel => exact ⟨i + 1, acc, by go_num, by omega, ⟨Nat.le_succ_of_le HN.out⟩, ⟨by rw [← HL.out, HK.out]⟩, R, HB⟩
            case measure => simp [intOf]; omega
          · have HK2 := Aside0.mk (HK.out.trans (if_pos (.inr ⟨rfl, by simp [hd]⟩))); clear HK; have HK := HK2
            have hd2 : dead ≤ x1 := by omega
            go_wp2_with (first
              | ((with_reducible refine gate_dst (N := 17) rfl ?_); refine load_evm' (N := 17) rfl rfl rfl (cs := #[.int .i64 x0, .int .i64 x1, .string x2, .string x3, .bool true, .int .i64 x5, .int .i64 x6, .int .i64 x7]) rfl hcs'.out Try.underlying32 rfl (by kernel_rfl) ?_)
              | ((with_reducible refine gate_dst (N := 8) rfl ?_); refine box_event rfl (N := 8) rfl (cs := #[.int .i64 0, .int .i64 0, .string ⟨#[]⟩, .string ⟨#[]⟩, .bool false, .int .i64 0, .int .i64 0, .int .i64 0]) (t := 32) ?hr ?_; (case hr => first | (go_simp; done) | (go_simp; rfl)); intro g8 hg8 w1 hbx hbl; have n_HB := Aside0.mk (below_step HB.out hbl); have HX := Aside0.mk hbl; have G8 := Aside0.mk (show wr.heap.size ≤ g8 by rw [hg8]; exact Nat.le_refl _); have Y := Aside0.mk hbx; clear HB hbx hbl hg8; have HB := n_HB; clear n_HB)
              | ((with_reducible refine gate_store (t := 32) (p := 8) rfl ?_); refine store_ev rfl rfl rfl (cells := #[.int .i64 x0, .int .i64 x1, .string x2, .string x3, .bool true, .int .i64 x5, .int .i64 x6, .int .i64 x7]) rfl rfl Y.out (by kernel_rfl) rfl (by kernel_rfl) ?_; intro w2 hbx hgr; have n_R := Aside0.mk (recs_new R.out HX.out hgr G8.out); have n_HB := Aside0.mk (below_put HB.out (Nat.le_trans HBz.out G8.out) hgr HB.out.size); have n_Y := Aside0.mk hbx; clear HB Y hbx hgr R HX; have HB := n_HB; have Y := n_Y; have R := n_R; clear n_HB n_Y n_R; have y2 : w2.cell? ⟨g8, 2, none⟩ = some (.string x2) := (blk_cell Y.out 2).trans rfl; have y1 : w2.cell? ⟨g8, 1, none⟩ = some (.int .i64 x1) := (blk_cell Y.out 1).trans rfl; have y4 : w2.cell? ⟨g8, 4, none⟩ = some (.bool true) := (blk_cell Y.out 4).trans rfl; have hlook := hlk.out he w2 (HT0.out.later HB.out))
              | ((with_reducible refine gate_dst (N := 41) rfl ?_); refine load_ev (N := 41) rfl rfl rfl (cs := #[.int .i64 x0, .int .i64 x1, .string x2, .string x3, .bool true, .int .i64 x5, .int .i64 x6, .int .i64 x7]) rfl Y.out Try.underlying32 rfl (by kernel_rfl) ?_)
              | ((with_reducible refine gate_builtin (b := .append) (xs := #[.tmp 40, .tmp 42]) rfl ?_); at_builtin; refine Kd.R_append k32 (w0 := w0) w0.heap.size rfl (.tmp 40) (.tmp 42) 22 32 (.agg #[.int .i64 0, .int .i64 0, .string ⟨#[]⟩, .string ⟨#[]⟩, .bool false, .int .i64 0, .int .i64 0, .int .i64 0]) 80 rfl Try.underlying22 info32 rfl (by decide) (by decide) _ acc ⟨x0, x1, x2, x3, true, x5, x6, x7⟩ [.int .i64 x0, .int .i64 x1, .string x2, .string x3, .bool true, .int .i64 x5, .int .i64 x6, .int .i64 x7] (fun _ => True) (fun _ => False) rfl ?aX (k32_mkM _ _ _ ⟨x0, x1, x2, x3, true, x5, x6, x7⟩) (fun _ hk => hk.elim) (fun _ _ => trivial) R.out HB.out HB.out.size ?aL ?_; (case aX => first | rfl | (go_simp; done) | (go_simp; rfl)); (case aL => have := HN.out; omega); intro v1 w4 ho hb hgr hat; clear R HB hgr hat; have R := Aside0.mk ho; have HB := Aside0.mk hb; clear ho hb))
            try clear hq
            try clear hit
            try clear hix
            try clear hx4
            try clear hx5
            try clear hlook
            go_roundw
            case rel => exact ⟨i + 1, acc ++ [⟨x0, x1, x2, x3, true, x5, x6, x7⟩], by go_num, by omega, ⟨by rw [List.length_append]; have := HN.out; simp; omega⟩, ⟨by rw [← HL.out, HK.out]; simp⟩, R, HB⟩
            case measure => simp [intOf]; omega
      · have hf : fr = false := by rw [Bool.eq_false_iff]; exact fun h => hix (hit.2 h)
        subst hf
        have hq : (ix == (i : Int)) = false := beq_eq_false_iff_ne.2 hix
        have HK2 := Aside0.mk (HK.out.trans (if_neg (fun h => by rcases h with h | ⟨h, _⟩; exact he h; simp at h))); clear HK; have HK := HK2
        go_wp2_with (first
          | ((with_reducible refine gate_dst (N := 17) rfl ?_); refine load_evm' (N := 17) rfl rfl rfl (cs := #[.int .i64 x0, .int .i64 x1, .string x2, .string x3, .bool x4, .int .i64 x5, .int .i64 x6, .int .i64 x7]) rfl hcs'.out Try.underlying32 rfl (by kernel_rfl) ?_)
          | ((with_reducible refine gate_dst (N := 8) rfl ?_); refine box_event rfl (N := 8) rfl (cs := #[.int .i64 0, .int .i64 0, .string ⟨#[]⟩, .string ⟨#[]⟩, .bool false, .int .i64 0, .int .i64 0, .int .i64 0]) (t := 32) ?hr ?_; (case hr => first | (go_simp; done) | (go_simp; rfl)); intro g8 hg8 w1 hbx hbl; have n_HB := Aside0.mk (below_step HB.out hbl); have HX := Aside0.mk hbl; have G8 := Aside0.mk (show wr.heap.size ≤ g8 by rw [hg8]; exact Nat.le_refl _); have Y := Aside0.mk hbx; clear HB hbx hbl hg8; have HB := n_HB; clear n_HB)
          | ((with_reducible refine gate_store (t := 32) (p := 8) rfl ?_); refine store_ev rfl rfl rfl (cells := #[.int .i64 x0, .int .i64 x1, .string x2, .string x3, .bool x4, .int .i64 x5, .int .i64 x6, .int .i64 x7]) rfl rfl Y.out (by kernel_rfl) rfl (by kernel_rfl) ?_; intro w2 hbx hgr; have n_R := Aside0.mk (recs_new R.out HX.out hgr G8.out); have n_HB := Aside0.mk (below_put HB.out (Nat.le_trans HBz.out G8.out) hgr HB.out.size); have n_Y := Aside0.mk hbx; clear HB Y hbx hgr R HX; have HB := n_HB; have Y := n_Y; have R := n_R; clear n_HB n_Y n_R; have y2 : w2.cell? ⟨g8, 2, none⟩ = some (.string x2) := (blk_cell Y.out 2).trans rfl; have y1 : w2.cell? ⟨g8, 1, none⟩ = some (.int .i64 x1) := (blk_cell Y.out 1).trans rfl; have y4 : w2.cell? ⟨g8, 4, none⟩ = some (.bool x4) := (blk_cell Y.out 4).trans rfl; have hlook := hlk.out he w2 (HT0.out.later HB.out)))
        try clear hq
        try clear hit
        try clear hix
        try clear hx4
        try clear hx5
        try clear hlook
        go_roundw
        case rel => exact ⟨i + 1, acc, by go_num, by omega, ⟨Nat.le_succ_of_le HN.out⟩, ⟨by rw [← HL.out, HK.out]⟩, R, HB⟩
        case measure => simp [intOf]; omega
    · obtain rfl : i = l.length := by omega
      go_wp2_with fail
      refine bodyPost_ret (results_tmp rfl _ _ _) rfl ?_
      refine ⟨_, rfl, ?_, below_step HB0.out HB.out⟩
      have e := HL.out
      rw [List.drop_length] at e
      rw [← e]
      simpa [keepL] using Kd.R_lower R.out HB0.out.size
end Go.Proofs.Ytgojaomldkgojaa.Cm
