import Derived.Test.YtgojaomldkgojaaDdN
namespace Go.Proofs.Ytgojaomldkgojaa.Dd
set_option linter.unusedVariables false
set_option linter.unusedSimpArgs false
open Go.RowKit Go.Maps Go.Proofs.YtgojaomldkgojaaW.PrintWords Go.Proofs.YtgojaomldkgojaaW.PrintLast Go.Proofs.YtgojaomldkgojaaW.PrintMore Go.Proofs.Ytgojaomldkgojaa.PDd Go.Proofs.Ytgojaomldkgojaa.Wire Go.Proofs.Ytgojaomldkgojaa.Hand
/-- what the reference's number tells -/
noncomputable def nmR (s : ByteArray) (an : Nat) : Int × Int := match nm s (an : Int) with | some (v, a2) => (v, a2 - (an : Int)) | none => (0, -1)
theorem rnumber_calls (s : ByteArray) (hs : s.size ≤ 10000) (an : Nat) (h1 : an ≤ s.size) (w : World) :
    Calls Try.prog 63 #[.string (s.extract an s.size)] w fun e w' => e = .returned (.tuple #[.int .i64 (nmR s an).1, .int .i64 (nmR s an).2]) ∧ Below w.heap.size w w' := by
  have h := rnumber_f s (an : Int) (by omega) (by omega) hs
  rw [Int.toNat_natCast] at h
  exact weighlockref18_number.calls 40 (s.extract an s.size) _ _ w h
theorem extract_all (s : ByteArray) : s.extract 0 s.size = s := by
  apply ByteArray.ext
  simp
def pad4 (q : List Int) : Array Value := ((q ++ List.replicate (4 - q.length) 0).map (Value.int .i64)).toArray
theorem pad4_set (l : List Int) (x : Int) (h : l.length < 4) : (pad4 l).setIfInBounds l.length (.int .i64 x) = pad4 (l ++ [x]) := by
  unfold pad4
  apply Array.toList_inj.1
  have e : 4 - l.length = (4 - (l.length + 1)) + 1 := by omega
  simp only [List.length_append, List.length_cons, List.length_nil, Nat.zero_add]
  rw [e, List.replicate_succ]
  simp [List.setIfInBounds_toArray, List.set_append_right]
theorem pad4_at (l : List Int) (h : l.length < 4) : (pad4 l)[l.length]? = some (.int .i64 0) := by
  unfold pad4
  have e : 4 - l.length = (4 - (l.length + 1)) + 1 := by omega
  rw [List.getElem?_toArray, List.getElem?_map, List.getElem?_append_right (Nat.le_refl _), e, List.replicate_succ]
  simp
theorem list4 {α : Type} {l : List α} (h : l.length = 4) : ∃ a b c d, l = [a, b, c, d] := by
  match l, h with
  | [a, b, c, d], _ => exact ⟨a, b, c, d, rfl⟩
theorem last_at (l : List La) (h : 0 < l.length) : lastP l = (l[l.length - 1]'(by omega)).f0 := by
  unfold lastP
  rw [List.getLast?_eq_getElem?, List.getElem?_eq_getElem (by omega)]
theorem noteE_pos (l : List La) (x : La) (h : noteE l x = 0) : okL x := by
  unfold noteE at h
  by_cases c : mayB x.f0 x.f1 x.f2 = true ∧ 0 ≤ x.f3 ∧ x.f3 ≤ 1048576
  · exact c
  · rw [if_neg c] at h
    cases h
theorem ris_snoc (l : List La) (x : La) (h : Ris l) (hx : ∀ y ∈ l, y.f0 < x.f0) : Ris (l ++ [x]) :=
  List.pairwise_append.2 ⟨h, List.pairwise_singleton _ _, fun a ha b hb => by rw [List.mem_singleton.1 hb]; exact hx a ha⟩
/-- how the reference's Decode ends -/
def RdEnd (w : World) (r : Option (List La × Int)) (e : Ending) (w' : World) : Prop :=
  (match r with
  | none => e = .returned (.agg #[.slice none 0 0, .int .i64 0, .bool false])
  | some (l, a) => ∃ v, e = .returned (.agg #[v, .int .i64 a, .bool true]) ∧ Kd.R k43 43 w' w.heap.size (fun _ => True) v l) ∧ Below w.heap.size w w'
set_option maxHeartbeats 32000000 in
set_option maxRecDepth 100000 in
theorem rdec_calls (s : ByteArray) (hs : s.size ≤ 10000) (w : World) : Calls Try.prog 43 #[.string s] w fun e w' => RdEnd w (dec s) e w' := by
  have hund : ∀ b, some undef = some (Value.bool b) → False := fun b h => by simp [undef] at h
  go_enter Try.func43, Try.ntmps43
  go_wp2_with (first
    | ((with_reducible refine gate_dst (N := 2) rfl ?_); refine box_event rfl (N := 2) rfl (cs := #[.slice none 0 0, .int .i64 0, .bool false]) (t := 80) ?hr ?_; (case hr => first | (go_simp; done) | (go_simp; rfl)); intro g2 hg2 w1 hbx hbl; have HB := Aside0.mk hbl; have G2 := Aside0.mk (show w.heap.size ≤ g2 by rw [hg2]; exact Nat.le_refl _); have Y := Aside0.mk hbx; clear hbl hbx hg2))
  have hn0 := rnumber_calls s hs 0 (by omega) w1
  rw [extract_all] at hn0
  have HN := Aside0.mk hn0
  clear hn0
  cases hn : nm s 0 with
  | none =>
    have e0 : nmR s 0 = (0, -1) := by unfold nmR; rw [show ((0 : Nat) : Int) = 0 from rfl, hn]
    have HE := Aside0.mk (show dec s = none by unfold dec; rw [hn])
    simp only [e0] at HN
    clear e0 hn
    refine HN.out.mono ?_
    rintro e w2 ⟨rfl, hb⟩
    have n_Y := Aside0.mk ((hb.block g2 (Array.getElem?_eq_some_iff.1 Y.out).1).trans Y.out)
    have n_HB := Aside0.mk (below_step HB.out hb)
    clear Y HB hb HN
    have Y := n_Y
    have HB := n_HB
    clear n_Y n_HB
    go_wp2_with (first
      | ((with_reducible refine gate_store (t := 80) (p := 2) rfl ?_); refine store_ev rfl rfl rfl (cells := #[.slice none 0 0, .int .i64 0, .bool false]) rfl rfl Y.out (by kernel_rfl) rfl (by kernel_rfl) ?_; intro w3 hbx hgr; have n_B := Aside0.mk (below_put HB.out G2.out hgr HB.out.size); have n_Y := Aside0.mk hbx; have HGR := Aside0.mk hgr; clear HB Y hbx hgr; have HB := n_B; have Y := n_Y; clear n_B n_Y))
    refine bodyPost_ret (results_cell_row rfl _ _ g2 80 #[.slice none 0 0, .int .i64 0, .bool false] (0, 0) _ rfl Y.out Try.underlying80 rfl (by kernel_rfl)) rfl ?_
    exact ⟨by rw [HE.out], HB.out⟩
  | some x =>
    obtain ⟨n, a0⟩ := x
    have hr0 := nm_range (by omega) (by omega) hn
    have e0 : nmR s 0 = (n, a0) := by unfold nmR; rw [show ((0 : Nat) : Int) = 0 from rfl, hn]; simp
    have ed : dec s = (if 16 < n then none else decR s n.toNat a0 []) := by unfold dec; rw [hn]
    simp only [e0] at HN
    clear e0 hn
    obtain ⟨an0, rfl⟩ := Int.eq_ofNat_of_zero_le (show 0 ≤ a0 by omega)
    refine HN.out.mono ?_
    rintro e w2 ⟨rfl, hb⟩
    have n_Y := Aside0.mk ((hb.block g2 (Array.getElem?_eq_some_iff.1 Y.out).1).trans Y.out)
    have n_HB := Aside0.mk (below_step HB.out hb)
    clear Y HB hb HN
    have Y := n_Y
    have HB := n_HB
    clear n_Y n_HB
    by_cases h16 : 16 < n
    · rw [if_pos h16] at ed
      have HE := Aside0.mk ed
      have hd : decide (16 < n) = true := decide_eq_true h16
      clear ed
      go_wp2_with (first
        | ((with_reducible refine gate_store (t := 80) (p := 2) rfl ?_); refine store_ev rfl rfl rfl (cells := #[.slice none 0 0, .int .i64 0, .bool false]) rfl rfl Y.out (by kernel_rfl) rfl (by kernel_rfl) ?_; intro w3 hbx hgr; have n_B := Aside0.mk (below_put HB.out G2.out hgr HB.out.size); have n_Y := Aside0.mk hbx; have HGR := Aside0.mk hgr; clear HB Y hbx hgr; have HB := n_B; have Y := n_Y; clear n_B n_Y))
      refine bodyPost_ret (results_cell_row rfl _ _ g2 80 #[.slice none 0 0, .int .i64 0, .bool false] (0, 0) _ rfl Y.out Try.underlying80 rfl (by kernel_rfl)) rfl ?_
      exact ⟨by rw [HE.out], HB.out⟩
    rw [if_neg h16] at ed
    have hd : decide (16 < n) = false := decide_eq_false h16
    obtain ⟨nn, rfl⟩ := Int.eq_ofNat_of_zero_le hr0.1
    rw [Int.toNat_natCast] at ed
    have hn16 : nn ≤ 16 := by omega
    have han : an0 ≤ s.size := by omega
    obtain ⟨D, hD⟩ : ∃ D, dec s = D := ⟨_, rfl⟩
    rw [hD] at ed
    have HD := Aside0.mk hD
    have HE := Aside0.mk ed
    clear hD ed h16 hr0
    go_wp2_with fail
    go_loopw [4, 5, 24] (fun av ov iv wr => ∃ (i an : Nat) (l : List La), iv = .int .i64 i ∧ av = .int .i64 an ∧ i ≤ nn ∧ an ≤ s.size ∧ Aside0 (l.length = i) ∧ Aside0 (D = decR s (nn - i) an l) ∧ Aside0 (Ris l) ∧ Aside0 (Kd.R k43 43 wr w.heap.size (fun _ => True) ov l) ∧ Aside0 (wr.heap[g2]? = some (.cells #[.slice none 0 0, .int .i64 0, .bool false] 80 (0, 0))) ∧ Aside0 (Below w.heap.size w wr)) (fun _ _ iv _ => nn - (intOf iv).toNat)
    case atStart => exact ⟨0, an0, [], rfl, rfl, Nat.zero_le _, han, ⟨rfl⟩, ⟨by rw [Nat.sub_zero]; exact HE.out⟩, ⟨List.Pairwise.nil⟩, ⟨Kd.R_nil _ _ _ _ _⟩, Y, HB⟩
    case round =>
      clear Y HB HE han
      obtain ⟨i, an, l, rfl, rfl, hil, han, hll, HE, HS, R, Y, HB⟩ := hrel
      obtain ⟨A1, c1, hu, hc1, _⟩ := Kd.R_reads R.out
      have hl9 : l.length ≤ 1000 := by have := hll.out; omega
      subst hu
      by_cases hlt : i < nn
      · obtain ⟨c, hc⟩ : ∃ c, nn - i = c + 1 := ⟨nn - i - 1, by omega⟩
        have HE2 : Aside0 (D = match four s an with | none => none | some (q, a2) => if lastP l < (toLa q).f0 ∧ noteE l (toLa q) = 0 then decR s c a2 (l ++ [toLa q]) else none) := ⟨by rw [HE.out, hc]; rfl⟩
        go_wp2_with (first
          | ((with_reducible refine gate_dst (N := 6) rfl ?_); refine box_event rfl (N := 6) rfl (cs := #[.int .i64 0, .int .i64 0, .int .i64 0, .int .i64 0]) (t := 115) ?hr ?_; (case hr => first | (go_simp; done) | (go_simp; rfl)); intro g6 hg6 wa hbx hbl; have D6 := Aside0.mk (show g2 ≠ g6 by rw [hg6]; exact Nat.ne_of_lt (Array.getElem?_eq_some_iff.1 Y.out).1); have G6 := Aside0.mk (show wr.heap.size ≤ g6 by rw [hg6]; exact Nat.le_refl _); have HX := Aside0.mk hbl; have Q := Aside0.mk (show wa.heap[g6]? = some (.cells (pad4 []) 115 (0, 0)) from hbx); clear hbx hbl hg6))
        go_loopw [4, 26] (fun av jv wz => ∃ (an2 : Nat) (qs : List Int), av = .int .i64 an2 ∧ jv = .int .i64 (qs.length : Int) ∧ an2 ≤ s.size ∧ qs.length ≤ 4 ∧ Aside0 (four s an = nmJ s (4 - qs.length) an2 qs) ∧ Aside0 (wz.heap[g6]? = some (.cells (pad4 qs) 115 (0, 0))) ∧ Aside0 (Below wr.heap.size wr wz)) (fun _ jv _ => 4 - (intOf jv).toNat)
        case atStart => exact ⟨an, [], rfl, rfl, han, by simp, ⟨rfl⟩, Q, HX⟩
        case round =>
          clear Q HX
          obtain ⟨an2, qs, rfl, rfl, han2, hq4, HF, Q, HX⟩ := hrel
          by_cases hj : qs.length < 4
          · obtain ⟨r, hr⟩ : ∃ r, 4 - qs.length = r + 1 := ⟨4 - qs.length - 1, by omega⟩
            have HF2 : Aside0 (four s an = match nm s an2 with | some (v, a2) => nmJ s r a2 (qs ++ [v]) | none => none) := ⟨by rw [HF.out, hr]; rfl⟩
            have hjd : (qs.length : Int) < 4 := by omega
            go_wp2_with fail
            cases hn : nm s (an2 : Int) with
            | none =>
              have HN := Aside0.mk (fun W => rnumber_calls s hs an2 han2 W)
              simp only [show nmR s an2 = (0, -1) by unfold nmR; rw [hn]] at HN
              have HE3 := Aside0.mk (show dec s = none by rw [HD.out, HE2.out, HF2.out, hn])
              clear hn
              refine (HN.out _).mono ?_
              rintro e wb ⟨rfl, hb⟩
              have n_Y := Aside0.mk (((below_step HX.out hb).block g2 (Array.getElem?_eq_some_iff.1 Y.out).1).trans Y.out)
              have n_B := Aside0.mk (below_step HB.out (below_step HX.out hb))
              clear Y HB HX hb HN
              have Y := n_Y
              have HB := n_B
              clear n_Y n_B
              go_wp2_with (first
                | ((with_reducible refine gate_store (t := 80) (p := 2) rfl ?_); refine store_ev rfl rfl rfl (cells := #[.slice none 0 0, .int .i64 0, .bool false]) rfl rfl Y.out (by kernel_rfl) rfl (by kernel_rfl) ?_; intro wc hbx hgr; have n_B := Aside0.mk (below_put HB.out G2.out hgr HB.out.size); have n_Y := Aside0.mk hbx; have HGR := Aside0.mk hgr; clear HB Y hbx hgr; have HB := n_B; have Y := n_Y; clear n_B n_Y))
              refine bodyPost_ret (results_cell_row rfl _ _ g2 80 #[.slice none 0 0, .int .i64 0, .bool false] (0, 0) _ rfl Y.out Try.underlying80 rfl (by kernel_rfl)) rfl ?_
              exact ⟨by rw [HE3.out], HB.out⟩
            | some x =>
              obtain ⟨v, a2⟩ := x
              have hrn := nm_range (by omega) (by omega) hn
              obtain ⟨an3, rfl⟩ := Int.eq_ofNat_of_zero_le (show 0 ≤ a2 by omega)
              have HN := Aside0.mk (fun W => rnumber_calls s hs an2 han2 W)
              simp only [show nmR s an2 = (v, (an3 : Int) - (an2 : Int)) by unfold nmR; rw [hn]] at HN
              have HF3 : Aside0 (four s an = nmJ s r an3 (qs ++ [v])) := ⟨by rw [HF2.out, hn]⟩
              clear hn
              have hlt0 : decide ((an3 : Int) - (an2 : Int) < 0) = false := decide_eq_false (by omega)
              have hge0 : ¬ ((an3 : Int) - (an2 : Int) < 0) := by omega
              have hw3 : wrap64 ((an2 : Int) + ((an3 : Int) - (an2 : Int))) = (an3 : Int) := by unfold wrap64; omega
              refine (HN.out _).mono ?_
              rintro e wb ⟨rfl, hb⟩
              have n_Q := Aside0.mk ((hb.block g6 (Array.getElem?_eq_some_iff.1 Q.out).1).trans Q.out)
              have n_X := Aside0.mk (below_step HX.out hb)
              clear Q HX hb HN
              have Q := n_Q
              have HX := n_X
              clear n_Q n_X
              have hcl : wb.cell? ⟨g6, qs.length, none⟩ = some (.int .i64 0) := (blk_cell Q.out _).trans (pad4_at qs hj)
              have hfz : wb.frozen? ⟨g6, qs.length, none⟩ = false := blk_frozen Q.out _
              go_wp2_with fail
              go_roundw
              case rel => exact ⟨an3, qs ++ [v], congrArg (Value.int .i64) (by omega), by simp, by omega, by simp; omega, ⟨by rw [HF3.out, show 4 - (qs ++ [v]).length = r by rw [List.length_append]; simp; omega]⟩, ⟨by rw [← pad4_set qs v hj]; exact blk_set Q.out _ _⟩, ⟨below_put HX.out G6.out (grown_setCell _ _ _ _) HX.out.size⟩⟩
              case measure => simp [intOf]; omega
          · have hq5 : qs.length = 4 := by omega
            have HF2 : Aside0 (four s an = some (qs, (an2 : Int))) := ⟨by rw [HF.out, hq5]; rfl⟩
            obtain ⟨x0, x1, x2, x3, rfl⟩ := list4 hq5
            have HE3 : Aside0 (D = if lastP l < x0 ∧ noteE l ⟨x0, x1, x2, x3⟩ = 0 then decR s c an2 (l ++ [⟨x0, x1, x2, x3⟩]) else none) := ⟨by rw [HE2.out, HF2.out]; rfl⟩
            have n_Q := Aside0.mk (show wr.heap[g6]? = some (.cells #[.int .i64 x0, .int .i64 x1, .int .i64 x2, .int .i64 x3] 115 (0, 0)) from Q.out)
            have n_R := Aside0.mk (la_below R.out HX.out)
            have n_Y := Aside0.mk ((HX.out.block g2 (Array.getElem?_eq_some_iff.1 Y.out).1).trans Y.out)
            have n_B := Aside0.mk (below_step HB.out HX.out)
            clear Q R Y HB HX HE2 HF HF2 hq5 hq4 hj
            have Q := n_Q
            have R := n_R
            have Y := n_Y
            have HB := n_B
            clear n_Q n_R n_Y n_B
            have q0 : wr.cell? ⟨g6, 0, none⟩ = some (.int .i64 x0) := (blk_cell Q.out 0).trans rfl
            have q1 : wr.cell? ⟨g6, 1, none⟩ = some (.int .i64 x1) := (blk_cell Q.out 1).trans rfl
            have q2 : wr.cell? ⟨g6, 2, none⟩ = some (.int .i64 x2) := (blk_cell Q.out 2).trans rfl
            have q3 : wr.cell? ⟨g6, 3, none⟩ = some (.int .i64 x3) := (blk_cell Q.out 3).trans rfl
            go_wp2_with fail
            have hrn := noted_calls A1 c1 l x0 x1 x2 x3 wr (Kd.R_reads' R.out).2.2 hc1 HS.out hl9
            have hR : Aside0 (lastP l < x0 → noteL l ⟨x0, x1, x2, x3⟩ = l ++ [⟨x0, x1, x2, x3⟩] ∧ Ris (l ++ [⟨x0, x1, x2, x3⟩])) := ⟨fun h2 => ⟨note_end l _ (last_gt l HS.out x0 h2), ris_snoc l _ HS.out (last_gt l HS.out x0 h2)⟩⟩
            have hP : Aside0 (noteE l ⟨x0, x1, x2, x3⟩ = 0 → 1 ≤ x0) := ⟨fun h => by have := of_decide_eq_true (noteE_pos l _ h).1; exact this.1⟩
            obtain ⟨E, hE⟩ : ∃ E, noteE l ⟨x0, x1, x2, x3⟩ = E := ⟨_, rfl⟩
            simp only [hE] at hrn HE3 hP
            clear hE
            refine hrn.mono ?_
            clear hrn
            rintro e wb ⟨A2, n2, c2, rfl, hR4, hb⟩
            have n_Y := Aside0.mk ((hb.block g2 (Array.getElem?_eq_some_iff.1 Y.out).1).trans Y.out)
            have n_Q := Aside0.mk ((hb.block g6 (Array.getElem?_eq_some_iff.1 Q.out).1).trans Q.out)
            have HR4 := Aside0.mk (fun h => Kd.R_lower (hR4 h) HB.out.size)
            have n_B := Aside0.mk (below_step HB.out hb)
            have hold := Aside0.mk (Kd.C_below (Kd.R_reads' R.out).2.2 hb)
            clear Y Q HB R q0 q1 q2 q3 hR4 hb
            have Y := n_Y
            have Q := n_Q
            have HB := n_B
            clear n_Y n_Q n_B
            go_wp2_with (first
              | ((with_reducible refine gate_dst (N := 10) rfl ?_); refine box_event rfl (N := 10) rfl (cs := #[.slice none 0 0, .int .i64 0]) (t := 40) ?hr ?_; (case hr => first | (go_simp; done) | (go_simp; rfl)); intro g10 hg10 wc hbx hbl; have n_Y := Aside0.mk (blk_below Y.out hbl); have n_Q := Aside0.mk (blk_below Q.out hbl); have D1 := Aside0.mk (show g2 ≠ g10 by rw [hg10]; exact Nat.ne_of_lt (Array.getElem?_eq_some_iff.1 Y.out).1); have D2 := Aside0.mk (show g6 ≠ g10 by rw [hg10]; exact Nat.ne_of_lt (Array.getElem?_eq_some_iff.1 Q.out).1); have G10 := Aside0.mk (show w.heap.size ≤ g10 by rw [hg10]; exact HB.out.size); have H10 := Aside0.mk (show wb.heap.size ≤ g10 by rw [hg10]; exact Nat.le_refl _); have HX := Aside0.mk hbl; have n_B := Aside0.mk (below_step HB.out hbl); have Z := Aside0.mk hbx; clear HB Y Q hbx hbl hg10; have HB := n_B; have Y := n_Y; have Q := n_Q; clear n_B n_Y n_Q)
              | ((with_reducible refine gate_store (t := 40) (p := 10) rfl ?_); refine store_ev rfl rfl rfl (cells := #[.slice A2 n2 c2, .int .i64 E]) rfl rfl Z.out (by kernel_rfl) rfl (by kernel_rfl) ?_; intro wd hbx hgr; have n_X := Aside0.mk (below_put HX.out H10.out hgr HX.out.size); have n_B := Aside0.mk (below_put HB.out G10.out hgr HB.out.size); have n_Y := Aside0.mk ((hgr.block g2 (Array.getElem?_eq_some_iff.1 Y.out).1 (fun e => D1.out (Option.some.inj e))).trans Y.out); have n_Q := Aside0.mk ((hgr.block g6 (Array.getElem?_eq_some_iff.1 Q.out).1 (fun e => D2.out (Option.some.inj e))).trans Q.out); have n_Z := Aside0.mk hbx; clear HB HX Y Q Z hbx hgr; have HB := n_B; have HX := n_X; have Y := n_Y; have Q := n_Q; have Z := n_Z; clear n_B n_X n_Y n_Q n_Z))
            have z0 : wd.cell? ⟨g10, 0, none⟩ = some (.slice A2 n2 c2) := (blk_cell Z.out 0).trans rfl
            have z1 : wd.cell? ⟨g10, 1, none⟩ = some (.int .i64 E) := (blk_cell Z.out 1).trans rfl
            have q0 : wd.cell? ⟨g6, 0, none⟩ = some (.int .i64 x0) := (blk_cell Q.out 0).trans rfl
            have HO2 := Aside0.mk (Kd.C_below hold.out HX.out)
            by_cases hE0 : E = 0
            rotate_left
            · have hEn : (E != 0) = true := by rw [bne_iff_ne]; exact hE0
              have hEm : (E == 0) = false := beq_eq_false_iff_ne.2 hE0
              have HE4 := Aside0.mk (show dec s = none by rw [HD.out, HE3.out, if_neg (fun h => hE0 h.2)])
              clear hE0
              have CZ := Aside0.mk z1
              have CQ := Aside0.mk q0
              have CV := Aside0.mk z0
              clear z0 z1 q0
              go_wp2_with fail
              refine start_ (n := 20) (S := fun w' => w'.cell? ⟨g10, 1, none⟩ = some (.int .i64 E) ∧ w'.cell? ⟨g6, 0, none⟩ = some (.int .i64 x0)) (ds := []) #[false, false, false, false, false, false, false, false, false, false, false, false, false, false, false, false, false, false, false, false] (by kernel_rfl) rfl rfl ⟨CZ.out, CQ.out⟩ (fun _ => ?_)
              have n_Y := Aside0.mk (show wd.drew.heap[g2]? = some (.cells #[.slice none 0 0, .int .i64 0, .bool false] 80 (0, 0)) from Y.out)
              have n_HB := Aside0.mk (below_drew1 HB.out)
              have n_CZ := Aside0.mk (show wd.drew.cell? ⟨g10, 1, none⟩ = some (.int .i64 E) from CZ.out)
              have n_CQ := Aside0.mk (show wd.drew.cell? ⟨g6, 0, none⟩ = some (.int .i64 x0) from CQ.out)
              clear Y HB CZ CQ
              have Y := n_Y
              have HB := n_HB
              have CZ := n_CZ
              have CQ := n_CQ
              clear n_Y n_HB n_CZ n_CQ
              generalize wd.drew = V at *
              refine pure_ (i := 0) (N := some 57) (v := ?_) (a' := ?_) #[true, false, false, false, false, false, false, false, false, false, false, false, false, false, false, false, false, false, false, false] rfl rfl (by kernel_rfl) (fun _ _ _ h => h) (Or.inl ⟨by rfl, ?_⟩) ?_ ?_
              rotate_left
              · intro w'
                go_simp
                with_reducible rfl
              rotate_left
              · simp only [Act.put, List.setIfInBounds_toArray, List.set_cons_zero, List.set_cons_succ]
                rfl
              refine take_ (i := 1) (N := some 58) (v := ?_) (a' := ?_) #[true, true, false, false, false, false, false, false, false, false, false, false, false, false, false, false, false, false, false, false] rfl rfl (by kernel_rfl) (fun _ _ _ h => h) (Or.inl ⟨by rfl, ?_⟩) ⟨CZ.out, CQ.out⟩ ?_ ?_
              rotate_left
              · intro w' hS
                obtain ⟨h1, h2⟩ := hS
                go_simp
                with_reducible rfl
              rotate_left
              · simp only [Act.put, List.setIfInBounds_toArray, List.set_cons_zero, List.set_cons_succ]
                rfl
              refine pure_ (i := 2) (N := some 59) (v := ?_) (a' := ?_) #[true, true, true, false, false, false, false, false, false, false, false, false, false, false, false, false, false, false, false, false] rfl rfl (by kernel_rfl) (fun _ _ _ h => h) (Or.inl ⟨by rfl, ?_⟩) ?_ ?_
              rotate_left
              · intro w'
                go_simp
                with_reducible rfl
              rotate_left
              · simp only [Act.put, List.setIfInBounds_toArray, List.set_cons_zero, List.set_cons_succ]
                rfl
              refine pure_ (i := 3) (N := some 60) (v := ?_) (a' := ?_) #[true, true, true, true, false, false, false, false, false, false, false, false, false, false, false, false, false, false, false, false] rfl rfl (by kernel_rfl) (fun _ _ _ h => h) (Or.inl ⟨by rfl, ?_⟩) ?_ ?_
              rotate_left
              · intro w'
                go_simp
                with_reducible rfl
              rotate_left
              · simp only [Act.put, List.setIfInBounds_toArray, List.set_cons_zero, List.set_cons_succ]
                rfl
              refine pure_ (i := 4) (N := some 61) (v := undef) (a' := ?_) #[true, true, true, true, true, false, false, false, false, false, false, false, false, false, false, false, false, false, false, false] rfl rfl (by kernel_rfl) (fun _ _ _ h => h) (Or.inr ⟨by rfl, rfl⟩) ?_ ?_
              rotate_left
              · simp only [Act.put, List.setIfInBounds_toArray, List.set_cons_zero, List.set_cons_succ]
                rfl
              refine pure_ (i := 5) (N := some 62) (v := undef) (a' := ?_) #[true, true, true, true, true, true, false, false, false, false, false, false, false, false, false, false, false, false, false, false] rfl rfl (by kernel_rfl) (fun _ _ _ h => h) (Or.inr ⟨by rfl, rfl⟩) ?_ ?_
              rotate_left
              · simp only [Act.put, List.setIfInBounds_toArray, List.set_cons_zero, List.set_cons_succ]
                rfl
              refine pure_ (i := 6) (N := some 63) (v := undef) (a' := ?_) #[true, true, true, true, true, true, true, false, false, false, false, false, false, false, false, false, false, false, false, false] rfl rfl (by kernel_rfl) (fun _ _ _ h => h) (Or.inr ⟨by rfl, rfl⟩) ?_ ?_
              rotate_left
              · simp only [Act.put, List.setIfInBounds_toArray, List.set_cons_zero, List.set_cons_succ]
                rfl
              refine pure_ (i := 7) (N := some 64) (v := undef) (a' := ?_) #[true, true, true, true, true, true, true, true, false, false, false, false, false, false, false, false, false, false, false, false] rfl rfl (by kernel_rfl) (fun _ _ _ h => h) (Or.inr ⟨by rfl, rfl⟩) ?_ ?_
              rotate_left
              · simp only [Act.put, List.setIfInBounds_toArray, List.set_cons_zero, List.set_cons_succ]
                rfl
              refine pure_ (i := 8) (N := some 65) (v := undef) (a' := ?_) #[true, true, true, true, true, true, true, true, true, false, false, false, false, false, false, false, false, false, false, false] rfl rfl (by kernel_rfl) (fun _ _ _ h => h) (Or.inr ⟨by rfl, rfl⟩) ?_ ?_
              rotate_left
              · simp only [Act.put, List.setIfInBounds_toArray, List.set_cons_zero, List.set_cons_succ]
                rfl
              refine pure_ (i := 9) (N := some 66) (v := undef) (a' := ?_) #[true, true, true, true, true, true, true, true, true, true, false, false, false, false, false, false, false, false, false, false] rfl rfl (by kernel_rfl) (fun _ _ _ h => h) (Or.inr ⟨by rfl, rfl⟩) ?_ ?_
              rotate_left
              · simp only [Act.put, List.setIfInBounds_toArray, List.set_cons_zero, List.set_cons_succ]
                rfl
              refine pure_ (i := 10) (N := some 67) (v := undef) (a' := ?_) #[true, true, true, true, true, true, true, true, true, true, true, false, false, false, false, false, false, false, false, false] rfl rfl (by kernel_rfl) (fun _ _ _ h => h) (Or.inr ⟨by rfl, rfl⟩) ?_ ?_
              rotate_left
              · simp only [Act.put, List.setIfInBounds_toArray, List.set_cons_zero, List.set_cons_succ]
                rfl
              refine pure_ (i := 11) (N := some 68) (v := undef) (a' := ?_) #[true, true, true, true, true, true, true, true, true, true, true, true, false, false, false, false, false, false, false, false] rfl rfl (by kernel_rfl) (fun _ _ _ h => h) (Or.inr ⟨by rfl, rfl⟩) ?_ ?_
              rotate_left
              · simp only [Act.put, List.setIfInBounds_toArray, List.set_cons_zero, List.set_cons_succ]
                rfl
              refine pure_ (i := 12) (N := some 69) (v := undef) (a' := ?_) #[true, true, true, true, true, true, true, true, true, true, true, true, true, false, false, false, false, false, false, false] rfl rfl (by kernel_rfl) (fun _ _ _ h => h) (Or.inr ⟨by rfl, rfl⟩) ?_ ?_
              rotate_left
              · simp only [Act.put, List.setIfInBounds_toArray, List.set_cons_zero, List.set_cons_succ]
                rfl
              refine pure_ (i := 13) (N := some 70) (v := undef) (a' := ?_) #[true, true, true, true, true, true, true, true, true, true, true, true, true, true, false, false, false, false, false, false] rfl rfl (by kernel_rfl) (fun _ _ _ h => h) (Or.inr ⟨by rfl, rfl⟩) ?_ ?_
              rotate_left
              · simp only [Act.put, List.setIfInBounds_toArray, List.set_cons_zero, List.set_cons_succ]
                rfl
              refine pure_ (i := 14) (N := some 71) (v := undef) (a' := ?_) #[true, true, true, true, true, true, true, true, true, true, true, true, true, true, true, false, false, false, false, false] rfl rfl (by kernel_rfl) (fun _ _ _ h => h) (Or.inr ⟨by rfl, rfl⟩) ?_ ?_
              rotate_left
              · simp only [Act.put, List.setIfInBounds_toArray, List.set_cons_zero, List.set_cons_succ]
                rfl
              refine pure_ (i := 15) (N := some 72) (v := undef) (a' := ?_) #[true, true, true, true, true, true, true, true, true, true, true, true, true, true, true, true, false, false, false, false] rfl rfl (by kernel_rfl) (fun _ _ _ h => h) (Or.inr ⟨by rfl, rfl⟩) ?_ ?_
              rotate_left
              · simp only [Act.put, List.setIfInBounds_toArray, List.set_cons_zero, List.set_cons_succ]
                rfl
              refine pure_ (i := 16) (N := some 73) (v := undef) (a' := ?_) #[true, true, true, true, true, true, true, true, true, true, true, true, true, true, true, true, true, false, false, false] rfl rfl (by kernel_rfl) (fun _ _ _ h => h) (Or.inr ⟨by rfl, rfl⟩) ?_ ?_
              rotate_left
              · simp only [Act.put, List.setIfInBounds_toArray, List.set_cons_zero, List.set_cons_succ]
                rfl
              refine pure_ (i := 17) (N := some 74) (v := undef) (a' := ?_) #[true, true, true, true, true, true, true, true, true, true, true, true, true, true, true, true, true, true, false, false] rfl rfl (by kernel_rfl) (fun _ _ _ h => h) (Or.inr ⟨by rfl, rfl⟩) ?_ ?_
              rotate_left
              · simp only [Act.put, List.setIfInBounds_toArray, List.set_cons_zero, List.set_cons_succ]
                rfl
              refine pure_ (i := 18) (N := some 75) (v := undef) (a' := ?_) #[true, true, true, true, true, true, true, true, true, true, true, true, true, true, true, true, true, true, true, false] rfl rfl (by kernel_rfl) (fun _ _ _ h => h) (Or.inr ⟨by rfl, rfl⟩) ?_ ?_
              rotate_left
              · simp only [Act.put, List.setIfInBounds_toArray, List.set_cons_zero, List.set_cons_succ]
                rfl
              refine pure_ (i := 19) (N := some 76) (v := ?_) (a' := ?_) #[true, true, true, true, true, true, true, true, true, true, true, true, true, true, true, true, true, true, true, true] rfl rfl (by kernel_rfl) (fun _ _ _ h => h) (Or.inl ⟨by rfl, ?_⟩) ?_ ?_
              rotate_left
              · intro w'
                go_simp
                with_reducible rfl
              rotate_left
              · simp only [Act.put, List.setIfInBounds_toArray, List.set_cons_zero, List.set_cons_succ]
                rfl
              refine done_ (by kernel_rfl) ?_
              go_wp2_with (first
                | ((with_reducible refine gate_store (t := 80) (p := 2) rfl ?_); refine store_ev rfl rfl rfl (cells := #[.slice none 0 0, .int .i64 0, .bool false]) rfl rfl Y.out (by kernel_rfl) rfl (by kernel_rfl) ?_; intro we hbx hgr; have n_B := Aside0.mk (below_put HB.out G2.out hgr HB.out.size); have n_Y := Aside0.mk hbx; have HGR := Aside0.mk hgr; clear HB Y hbx hgr; have HB := n_B; have Y := n_Y; clear n_B n_Y))
              refine bodyPost_ret (results_cell_row rfl _ _ g2 80 #[.slice none 0 0, .int .i64 0, .bool false] (0, 0) _ rfl Y.out Try.underlying80 rfl (by kernel_rfl)) rfl ?_
              exact ⟨by rw [HE4.out], HB.out⟩
            subst hE0
            have h1x := hP.out (by first | rfl | trivial)
            have R := Aside0.mk (la_below (HR4.out (by first | rfl | trivial)) HX.out)
            clear HR4 HX H10 G10
            by_cases hl0 : l.length = 0
            · have hlp : lastP l < x0 := by rw [List.length_eq_zero_iff.1 hl0]; show (0 : Int) < x0; omega
              obtain ⟨hl3, hS3⟩ := hR.out hlp
              have HE4 := Aside0.mk (HE3.out.trans (if_pos ⟨hlp, rfl⟩))
              have HS3 := Aside0.mk hS3
              rw [hl3] at R
              clear hS3 hl3
              have hgl : decide ((0 : Int) < (l.length : Int)) = false := decide_eq_false (by omega)
              clear hlp
              have CZ := Aside0.mk z1
              have CQ := Aside0.mk q0
              have CV := Aside0.mk z0
              clear z0 z1 q0
              go_wp2_with fail
              refine start_ (n := 20) (S := fun w' => w'.cell? ⟨g10, 1, none⟩ = some (.int .i64 0) ∧ w'.cell? ⟨g6, 0, none⟩ = some (.int .i64 x0)) (ds := []) #[false, false, false, false, false, false, false, false, false, false, false, false, false, false, false, false, false, false, false, false] (by kernel_rfl) rfl rfl ⟨CZ.out, CQ.out⟩ (fun _ => ?_)
              have n_Y := Aside0.mk (show wd.drew.heap[g2]? = some (.cells #[.slice none 0 0, .int .i64 0, .bool false] 80 (0, 0)) from Y.out)
              have n_HB := Aside0.mk (below_drew1 HB.out)
              have n_CZ := Aside0.mk (show wd.drew.cell? ⟨g10, 1, none⟩ = some (.int .i64 0) from CZ.out)
              have n_CQ := Aside0.mk (show wd.drew.cell? ⟨g6, 0, none⟩ = some (.int .i64 x0) from CQ.out)
              have n_R := Aside0.mk (la_below R.out (below_drew1 (Below.refl _ _)))
              have n_CV := Aside0.mk (show wd.drew.cell? ⟨g10, 0, none⟩ = some (.slice A2 n2 c2) from CV.out)
              clear Y HB CZ CQ R CV
              have Y := n_Y
              have HB := n_HB
              have CZ := n_CZ
              have CQ := n_CQ
              have R := n_R
              have CV := n_CV
              clear n_Y n_HB n_CZ n_CQ n_R n_CV
              generalize wd.drew = V at *
              refine pure_ (i := 0) (N := some 57) (v := ?_) (a' := ?_) #[true, false, false, false, false, false, false, false, false, false, false, false, false, false, false, false, false, false, false, false] rfl rfl (by kernel_rfl) (fun _ _ _ h => h) (Or.inl ⟨by rfl, ?_⟩) ?_ ?_
              rotate_left
              · intro w'
                go_simp
                with_reducible rfl
              rotate_left
              · simp only [Act.put, List.setIfInBounds_toArray, List.set_cons_zero, List.set_cons_succ]
                rfl
              refine take_ (i := 1) (N := some 58) (v := ?_) (a' := ?_) #[true, true, false, false, false, false, false, false, false, false, false, false, false, false, false, false, false, false, false, false] rfl rfl (by kernel_rfl) (fun _ _ _ h => h) (Or.inl ⟨by rfl, ?_⟩) ⟨CZ.out, CQ.out⟩ ?_ ?_
              rotate_left
              · intro w' hS
                obtain ⟨h1, h2⟩ := hS
                go_simp
                with_reducible rfl
              rotate_left
              · simp only [Act.put, List.setIfInBounds_toArray, List.set_cons_zero, List.set_cons_succ]
                rfl
              refine pure_ (i := 2) (N := some 59) (v := ?_) (a' := ?_) #[true, true, true, false, false, false, false, false, false, false, false, false, false, false, false, false, false, false, false, false] rfl rfl (by kernel_rfl) (fun _ _ _ h => h) (Or.inl ⟨by rfl, ?_⟩) ?_ ?_
              rotate_left
              · intro w'
                go_simp
                with_reducible rfl
              rotate_left
              · simp only [Act.put, List.setIfInBounds_toArray, List.set_cons_zero, List.set_cons_succ]
                rfl
              refine pure_ (i := 3) (N := some 60) (v := ?_) (a' := ?_) #[true, true, true, true, false, false, false, false, false, false, false, false, false, false, false, false, false, false, false, false] rfl rfl (by kernel_rfl) (fun _ _ _ h => h) (Or.inl ⟨by rfl, ?_⟩) ?_ ?_
              rotate_left
              · intro w'
                go_simp
                with_reducible rfl
              rotate_left
              · simp only [Act.put, List.setIfInBounds_toArray, List.set_cons_zero, List.set_cons_succ]
                rfl
              refine pure_ (i := 4) (N := some 61) (v := ?_) (a' := ?_) #[true, true, true, true, true, false, false, false, false, false, false, false, false, false, false, false, false, false, false, false] rfl rfl (by kernel_rfl) (fun _ _ _ h => h) (Or.inl ⟨by rfl, ?_⟩) ?_ ?_
              rotate_left
              · intro w'
                go_simp
                with_reducible rfl
              rotate_left
              · simp only [Act.put, List.setIfInBounds_toArray, List.set_cons_zero, List.set_cons_succ]
                rfl
              refine pure_ (i := 5) (N := some 62) (v := ?_) (a' := ?_) #[true, true, true, true, true, true, false, false, false, false, false, false, false, false, false, false, false, false, false, false] rfl rfl (by kernel_rfl) (fun _ _ _ h => h) (Or.inl ⟨by rfl, ?_⟩) ?_ ?_
              rotate_left
              · intro w'
                go_simp
                with_reducible rfl
              rotate_left
              · simp only [Act.put, List.setIfInBounds_toArray, List.set_cons_zero, List.set_cons_succ]
                rfl
              refine pure_ (i := 6) (N := some 63) (v := ?_) (a' := ?_) #[true, true, true, true, true, true, true, false, false, false, false, false, false, false, false, false, false, false, false, false] rfl rfl (by kernel_rfl) (fun _ _ _ h => h) (Or.inl ⟨by rfl, ?_⟩) ?_ ?_
              rotate_left
              · intro w'
                go_simp
                with_reducible rfl
              rotate_left
              · simp only [Act.put, List.setIfInBounds_toArray, List.set_cons_zero, List.set_cons_succ]
                rfl
              refine pure_ (i := 7) (N := some 64) (v := ?_) (a' := ?_) #[true, true, true, true, true, true, true, true, false, false, false, false, false, false, false, false, false, false, false, false] rfl rfl (by kernel_rfl) (fun _ _ _ h => h) (Or.inl ⟨by rfl, ?_⟩) ?_ ?_
              rotate_left
              · intro w'
                go_simp
                with_reducible rfl
              rotate_left
              · simp only [Act.put, List.setIfInBounds_toArray, List.set_cons_zero, List.set_cons_succ]
                rfl
              refine pure_ (i := 8) (N := some 65) (v := undef) (a' := ?_) #[true, true, true, true, true, true, true, true, true, false, false, false, false, false, false, false, false, false, false, false] rfl rfl (by kernel_rfl) (fun _ _ _ h => h) (Or.inr ⟨by rfl, rfl⟩) ?_ ?_
              rotate_left
              · simp only [Act.put, List.setIfInBounds_toArray, List.set_cons_zero, List.set_cons_succ]
                rfl
              refine pure_ (i := 9) (N := some 66) (v := undef) (a' := ?_) #[true, true, true, true, true, true, true, true, true, true, false, false, false, false, false, false, false, false, false, false] rfl rfl (by kernel_rfl) (fun _ _ _ h => h) (Or.inr ⟨by rfl, rfl⟩) ?_ ?_
              rotate_left
              · simp only [Act.put, List.setIfInBounds_toArray, List.set_cons_zero, List.set_cons_succ]
                rfl
              refine pure_ (i := 10) (N := some 67) (v := undef) (a' := ?_) #[true, true, true, true, true, true, true, true, true, true, true, false, false, false, false, false, false, false, false, false] rfl rfl (by kernel_rfl) (fun _ _ _ h => h) (Or.inr ⟨by rfl, rfl⟩) ?_ ?_
              rotate_left
              · simp only [Act.put, List.setIfInBounds_toArray, List.set_cons_zero, List.set_cons_succ]
                rfl
              refine pure_ (i := 11) (N := some 68) (v := undef) (a' := ?_) #[true, true, true, true, true, true, true, true, true, true, true, true, false, false, false, false, false, false, false, false] rfl rfl (by kernel_rfl) (fun _ _ _ h => h) (Or.inr ⟨by rfl, rfl⟩) ?_ ?_
              rotate_left
              · simp only [Act.put, List.setIfInBounds_toArray, List.set_cons_zero, List.set_cons_succ]
                rfl
              refine pure_ (i := 12) (N := some 69) (v := undef) (a' := ?_) #[true, true, true, true, true, true, true, true, true, true, true, true, true, false, false, false, false, false, false, false] rfl rfl (by kernel_rfl) (fun _ _ _ h => h) (Or.inr ⟨by rfl, rfl⟩) ?_ ?_
              rotate_left
              · simp only [Act.put, List.setIfInBounds_toArray, List.set_cons_zero, List.set_cons_succ]
                rfl
              refine pure_ (i := 13) (N := some 70) (v := undef) (a' := ?_) #[true, true, true, true, true, true, true, true, true, true, true, true, true, true, false, false, false, false, false, false] rfl rfl (by kernel_rfl) (fun _ _ _ h => h) (Or.inr ⟨by rfl, rfl⟩) ?_ ?_
              rotate_left
              · simp only [Act.put, List.setIfInBounds_toArray, List.set_cons_zero, List.set_cons_succ]
                rfl
              refine pure_ (i := 14) (N := some 71) (v := undef) (a' := ?_) #[true, true, true, true, true, true, true, true, true, true, true, true, true, true, true, false, false, false, false, false] rfl rfl (by kernel_rfl) (fun _ _ _ h => h) (Or.inr ⟨by rfl, rfl⟩) ?_ ?_
              rotate_left
              · simp only [Act.put, List.setIfInBounds_toArray, List.set_cons_zero, List.set_cons_succ]
                rfl
              refine pure_ (i := 15) (N := some 72) (v := undef) (a' := ?_) #[true, true, true, true, true, true, true, true, true, true, true, true, true, true, true, true, false, false, false, false] rfl rfl (by kernel_rfl) (fun _ _ _ h => h) (Or.inr ⟨by rfl, rfl⟩) ?_ ?_
              rotate_left
              · simp only [Act.put, List.setIfInBounds_toArray, List.set_cons_zero, List.set_cons_succ]
                rfl
              refine pure_ (i := 16) (N := some 73) (v := undef) (a' := ?_) #[true, true, true, true, true, true, true, true, true, true, true, true, true, true, true, true, true, false, false, false] rfl rfl (by kernel_rfl) (fun _ _ _ h => h) (Or.inr ⟨by rfl, rfl⟩) ?_ ?_
              rotate_left
              · simp only [Act.put, List.setIfInBounds_toArray, List.set_cons_zero, List.set_cons_succ]
                rfl
              refine pure_ (i := 17) (N := some 74) (v := undef) (a' := ?_) #[true, true, true, true, true, true, true, true, true, true, true, true, true, true, true, true, true, true, false, false] rfl rfl (by kernel_rfl) (fun _ _ _ h => h) (Or.inr ⟨by rfl, rfl⟩) ?_ ?_
              rotate_left
              · simp only [Act.put, List.setIfInBounds_toArray, List.set_cons_zero, List.set_cons_succ]
                rfl
              refine pure_ (i := 18) (N := some 75) (v := ?_) (a' := ?_) #[true, true, true, true, true, true, true, true, true, true, true, true, true, true, true, true, true, true, true, false] rfl rfl (by kernel_rfl) (fun _ _ _ h => h) (Or.inl ⟨by rfl, ?_⟩) ?_ ?_
              rotate_left
              · intro w'
                go_simp
                with_reducible rfl
              rotate_left
              · simp only [Act.put, List.setIfInBounds_toArray, List.set_cons_zero, List.set_cons_succ]
                rfl
              refine pure_ (i := 19) (N := some 76) (v := ?_) (a' := ?_) #[true, true, true, true, true, true, true, true, true, true, true, true, true, true, true, true, true, true, true, true] rfl rfl (by kernel_rfl) (fun _ _ _ h => h) (Or.inl ⟨by rfl, ?_⟩) ?_ ?_
              rotate_left
              · intro w'
                go_simp
                with_reducible rfl
              rotate_left
              · simp only [Act.put, List.setIfInBounds_toArray, List.set_cons_zero, List.set_cons_succ]
                rfl
              refine done_ (by kernel_rfl) ?_
              have z0 := CV.out
              clear hl0 hgl
              go_wp2_with fail
              go_roundw
              case rel => exact ⟨i + 1, an2, l ++ [⟨x0, x1, x2, x3⟩], by go_num, rfl, by omega, han2, ⟨by have := hll.out; simp; omega⟩, ⟨by rw [show nn - (i + 1) = c by omega]; exact HE4.out⟩, HS3, R, Y, HB⟩
              case measure => simp [intOf]; omega
            · have hlq := last_at l (by omega)
              obtain ⟨ad, hAd, hcs⟩ := at_la HO2.out (l.length - 1) (by omega) (by omega)
              obtain ⟨m, hm⟩ : ∃ m, l.length = m + 1 := ⟨l.length - 1, by omega⟩
              have hk0 : wd.cell? ((ad.add ((l.length - 1) * 4)).add 0) = some (.int .i64 (l[l.length - 1]'(by omega)).f0) := hcs 0 _ rfl
              rw [← hlq] at hk0
              have hk1 : wd.cell? (ad.add ((l.length - 1) * 4)) = some (.int .i64 (lastP l)) := hk0
              have hsub : wrap64 ((l.length : Int) - 1) = ((l.length - 1 : Nat) : Int) := by unfold wrap64; omega
              have hsubk : IntKind.i64.wrap ((l.length : Int) - 1) = ((l.length - 1 : Nat) : Int) := by rw [IntWalk.i64_in _ (by omega)]; omega
              have hgl : decide ((0 : Int) < (l.length : Int)) = true := decide_eq_true (by omega)
              have hix : l.length - 1 < l.length := by omega
              have hp1 : 0 < l.length := by omega
              have hp2 : (0 : Int) < (l.length : Int) := by omega
              have hp3 : l ≠ [] := fun e => hl0 (by rw [e]; rfl)
              have hp4 : decide (0 < l.length) = true := decide_eq_true hp1
              have hp6 : (!decide (l = [])) = true := by simp [hp3]
              obtain ⟨m2, hm2⟩ : ∃ m2, l.length - 1 = m2 := ⟨_, rfl⟩
              rw [hm2] at hk1 hsub hsubk hix
              subst hAd
              clear hcs hk0 hlq hm hm2 hl0 HO2 hold
              by_cases hlp : lastP l < x0
              · obtain ⟨hl3, hS3⟩ := hR.out hlp
                have HE4 := Aside0.mk (HE3.out.trans (if_pos ⟨hlp, rfl⟩))
                have HS3 := Aside0.mk hS3
                rw [hl3] at R
                clear hS3 hl3
                have hd1 : decide (x0 ≤ lastP l) = false := decide_eq_false (by omega)
                clear hlp
                generalize lastP l = LP at *
                have CZ := Aside0.mk z1
                have CQ := Aside0.mk q0
                have CV := Aside0.mk z0
                have CL := Aside0.mk hk1
                clear hk1
                clear z0 z1 q0
                go_wp2_with fail
                refine start_ (n := 20) (S := fun w' => w'.cell? ⟨g10, 1, none⟩ = some (.int .i64 0) ∧ w'.cell? ⟨g6, 0, none⟩ = some (.int .i64 x0) ∧ w'.cell? (ad.add (m2 * 4)) = some (.int .i64 LP)) (ds := []) #[false, false, false, false, false, false, false, false, false, false, false, false, false, false, false, false, false, false, false, false] (by kernel_rfl) rfl rfl ⟨CZ.out, CQ.out, CL.out⟩ (fun _ => ?_)
                have n_Y := Aside0.mk (show wd.drew.heap[g2]? = some (.cells #[.slice none 0 0, .int .i64 0, .bool false] 80 (0, 0)) from Y.out)
                have n_HB := Aside0.mk (below_drew1 HB.out)
                have n_CZ := Aside0.mk (show wd.drew.cell? ⟨g10, 1, none⟩ = some (.int .i64 0) from CZ.out)
                have n_CQ := Aside0.mk (show wd.drew.cell? ⟨g6, 0, none⟩ = some (.int .i64 x0) from CQ.out)
                have n_CL := Aside0.mk (show wd.drew.cell? (ad.add (m2 * 4)) = some (.int .i64 LP) from CL.out)
                have n_R := Aside0.mk (la_below R.out (below_drew1 (Below.refl _ _)))
                have n_CV := Aside0.mk (show wd.drew.cell? ⟨g10, 0, none⟩ = some (.slice A2 n2 c2) from CV.out)
                clear Y HB CZ CQ CL R CV
                have Y := n_Y
                have HB := n_HB
                have CZ := n_CZ
                have CQ := n_CQ
                have CL := n_CL
                have R := n_R
                have CV := n_CV
                clear n_Y n_HB n_CZ n_CQ n_CL n_R n_CV
                generalize wd.drew = V at *
                refine pure_ (i := 0) (N := some 57) (v := ?_) (a' := ?_) #[true, false, false, false, false, false, false, false, false, false, false, false, false, false, false, false, false, false, false, false] rfl rfl (by kernel_rfl) (fun _ _ _ h => h) (Or.inl ⟨by rfl, ?_⟩) ?_ ?_
                rotate_left
                · intro w'
                  go_simp
                  with_reducible rfl
                rotate_left
                · simp only [Act.put, List.setIfInBounds_toArray, List.set_cons_zero, List.set_cons_succ]
                  rfl
                refine take_ (i := 1) (N := some 58) (v := ?_) (a' := ?_) #[true, true, false, false, false, false, false, false, false, false, false, false, false, false, false, false, false, false, false, false] rfl rfl (by kernel_rfl) (fun _ _ _ h => h) (Or.inl ⟨by rfl, ?_⟩) ⟨CZ.out, CQ.out, CL.out⟩ ?_ ?_
                rotate_left
                · intro w' hS
                  obtain ⟨h1, h2, h3⟩ := hS
                  go_simp
                  with_reducible rfl
                rotate_left
                · simp only [Act.put, List.setIfInBounds_toArray, List.set_cons_zero, List.set_cons_succ]
                  rfl
                refine pure_ (i := 2) (N := some 59) (v := ?_) (a' := ?_) #[true, true, true, false, false, false, false, false, false, false, false, false, false, false, false, false, false, false, false, false] rfl rfl (by kernel_rfl) (fun _ _ _ h => h) (Or.inl ⟨by rfl, ?_⟩) ?_ ?_
                rotate_left
                · intro w'
                  go_simp
                  with_reducible rfl
                rotate_left
                · simp only [Act.put, List.setIfInBounds_toArray, List.set_cons_zero, List.set_cons_succ]
                  rfl
                refine pure_ (i := 3) (N := some 60) (v := ?_) (a' := ?_) #[true, true, true, true, false, false, false, false, false, false, false, false, false, false, false, false, false, false, false, false] rfl rfl (by kernel_rfl) (fun _ _ _ h => h) (Or.inl ⟨by rfl, ?_⟩) ?_ ?_
                rotate_left
                · intro w'
                  go_simp
                  with_reducible rfl
                rotate_left
                · simp only [Act.put, List.setIfInBounds_toArray, List.set_cons_zero, List.set_cons_succ]
                  rfl
                refine pure_ (i := 4) (N := some 61) (v := ?_) (a' := ?_) #[true, true, true, true, true, false, false, false, false, false, false, false, false, false, false, false, false, false, false, false] rfl rfl (by kernel_rfl) (fun _ _ _ h => h) (Or.inl ⟨by rfl, ?_⟩) ?_ ?_
                rotate_left
                · intro w'
                  go_simp
                  with_reducible rfl
                rotate_left
                · simp only [Act.put, List.setIfInBounds_toArray, List.set_cons_zero, List.set_cons_succ]
                  rfl
                refine pure_ (i := 5) (N := some 62) (v := ?_) (a' := ?_) #[true, true, true, true, true, true, false, false, false, false, false, false, false, false, false, false, false, false, false, false] rfl rfl (by kernel_rfl) (fun _ _ _ h => h) (Or.inl ⟨by rfl, ?_⟩) ?_ ?_
                rotate_left
                · intro w'
                  go_simp
                  with_reducible rfl
                rotate_left
                · simp only [Act.put, List.setIfInBounds_toArray, List.set_cons_zero, List.set_cons_succ]
                  rfl
                refine pure_ (i := 6) (N := some 63) (v := ?_) (a' := ?_) #[true, true, true, true, true, true, true, false, false, false, false, false, false, false, false, false, false, false, false, false] rfl rfl (by kernel_rfl) (fun _ _ _ h => h) (Or.inl ⟨by rfl, ?_⟩) ?_ ?_
                rotate_left
                · intro w'
                  go_simp
                  with_reducible rfl
                rotate_left
                · simp only [Act.put, List.setIfInBounds_toArray, List.set_cons_zero, List.set_cons_succ]
                  rfl
                refine pure_ (i := 7) (N := some 64) (v := ?_) (a' := ?_) #[true, true, true, true, true, true, true, true, false, false, false, false, false, false, false, false, false, false, false, false] rfl rfl (by kernel_rfl) (fun _ _ _ h => h) (Or.inl ⟨by rfl, ?_⟩) ?_ ?_
                rotate_left
                · intro w'
                  go_simp
                  with_reducible rfl
                rotate_left
                · simp only [Act.put, List.setIfInBounds_toArray, List.set_cons_zero, List.set_cons_succ]
                  rfl
                refine pure_ (i := 8) (N := some 65) (v := ?_) (a' := ?_) #[true, true, true, true, true, true, true, true, true, false, false, false, false, false, false, false, false, false, false, false] rfl rfl (by kernel_rfl) (fun _ _ _ h => h) (Or.inl ⟨by rfl, ?_⟩) ?_ ?_
                rotate_left
                · intro w'
                  go_simp
                  with_reducible rfl
                rotate_left
                · simp only [Act.put, List.setIfInBounds_toArray, List.set_cons_zero, List.set_cons_succ]
                  rfl
                refine take_ (i := 9) (N := some 66) (v := ?_) (a' := ?_) #[true, true, true, true, true, true, true, true, true, true, false, false, false, false, false, false, false, false, false, false] rfl rfl (by kernel_rfl) (fun _ _ _ h => h) (Or.inl ⟨by rfl, ?_⟩) ⟨CZ.out, CQ.out, CL.out⟩ ?_ ?_
                rotate_left
                · intro w' hS
                  obtain ⟨h1, h2, h3⟩ := hS
                  go_simp
                  with_reducible rfl
                rotate_left
                · simp only [Act.put, List.setIfInBounds_toArray, List.set_cons_zero, List.set_cons_succ]
                  rfl
                refine pure_ (i := 10) (N := some 67) (v := ?_) (a' := ?_) #[true, true, true, true, true, true, true, true, true, true, true, false, false, false, false, false, false, false, false, false] rfl rfl (by kernel_rfl) (fun _ _ _ h => h) (Or.inl ⟨by rfl, ?_⟩) ?_ ?_
                rotate_left
                · intro w'
                  go_simp
                  with_reducible rfl
                rotate_left
                · simp only [Act.put, List.setIfInBounds_toArray, List.set_cons_zero, List.set_cons_succ]
                  rfl
                refine pure_ (i := 11) (N := some 68) (v := ?_) (a' := ?_) #[true, true, true, true, true, true, true, true, true, true, true, true, false, false, false, false, false, false, false, false] rfl rfl (by kernel_rfl) (fun _ _ _ h => h) (Or.inl ⟨by rfl, ?_⟩) ?_ ?_
                rotate_left
                · intro w'
                  go_simp
                  with_reducible rfl
                rotate_left
                · simp only [Act.put, List.setIfInBounds_toArray, List.set_cons_zero, List.set_cons_succ]
                  rfl
                refine pure_ (i := 12) (N := some 69) (v := ?_) (a' := ?_) #[true, true, true, true, true, true, true, true, true, true, true, true, true, false, false, false, false, false, false, false] rfl rfl (by kernel_rfl) (fun _ _ _ h => h) (Or.inl ⟨by rfl, ?_⟩) ?_ ?_
                rotate_left
                · intro w'
                  go_simp
                  with_reducible rfl
                rotate_left
                · simp only [Act.put, List.setIfInBounds_toArray, List.set_cons_zero, List.set_cons_succ]
                  rfl
                refine pure_ (i := 13) (N := some 70) (v := ?_) (a' := ?_) #[true, true, true, true, true, true, true, true, true, true, true, true, true, true, false, false, false, false, false, false] rfl rfl (by kernel_rfl) (fun _ _ _ h => h) (Or.inl ⟨by rfl, ?_⟩) ?_ ?_
                rotate_left
                · intro w'
                  go_simp
                  with_reducible rfl
                rotate_left
                · simp only [Act.put, List.setIfInBounds_toArray, List.set_cons_zero, List.set_cons_succ]
                  rfl
                refine pure_ (i := 14) (N := some 71) (v := ?_) (a' := ?_) #[true, true, true, true, true, true, true, true, true, true, true, true, true, true, true, false, false, false, false, false] rfl rfl (by kernel_rfl) (fun _ _ _ h => h) (Or.inl ⟨by rfl, ?_⟩) ?_ ?_
                rotate_left
                · intro w'
                  go_simp
                  with_reducible rfl
                rotate_left
                · simp only [Act.put, List.setIfInBounds_toArray, List.set_cons_zero, List.set_cons_succ]
                  rfl
                refine pure_ (i := 15) (N := some 72) (v := ?_) (a' := ?_) #[true, true, true, true, true, true, true, true, true, true, true, true, true, true, true, true, false, false, false, false] rfl rfl (by kernel_rfl) (fun _ _ _ h => h) (Or.inl ⟨by rfl, ?_⟩) ?_ ?_
                rotate_left
                · intro w'
                  go_simp
                  with_reducible rfl
                rotate_left
                · simp only [Act.put, List.setIfInBounds_toArray, List.set_cons_zero, List.set_cons_succ]
                  rfl
                refine take_ (i := 16) (N := some 73) (v := ?_) (a' := ?_) #[true, true, true, true, true, true, true, true, true, true, true, true, true, true, true, true, true, false, false, false] rfl rfl (by kernel_rfl) (fun _ _ _ h => h) (Or.inl ⟨by rfl, ?_⟩) ⟨CZ.out, CQ.out, CL.out⟩ ?_ ?_
                rotate_left
                · intro w' hS
                  obtain ⟨h1, h2, h3⟩ := hS
                  go_simp
                  with_reducible rfl
                rotate_left
                · simp only [Act.put, List.setIfInBounds_toArray, List.set_cons_zero, List.set_cons_succ]
                  rfl
                refine pure_ (i := 17) (N := some 74) (v := ?_) (a' := ?_) #[true, true, true, true, true, true, true, true, true, true, true, true, true, true, true, true, true, true, false, false] rfl rfl (by kernel_rfl) (fun _ _ _ h => h) (Or.inl ⟨by rfl, ?_⟩) ?_ ?_
                rotate_left
                · intro w'
                  go_simp
                  with_reducible rfl
                rotate_left
                · simp only [Act.put, List.setIfInBounds_toArray, List.set_cons_zero, List.set_cons_succ]
                  rfl
                refine pure_ (i := 18) (N := some 75) (v := ?_) (a' := ?_) #[true, true, true, true, true, true, true, true, true, true, true, true, true, true, true, true, true, true, true, false] rfl rfl (by kernel_rfl) (fun _ _ _ h => h) (Or.inl ⟨by rfl, ?_⟩) ?_ ?_
                rotate_left
                · intro w'
                  go_simp
                  with_reducible rfl
                rotate_left
                · simp only [Act.put, List.setIfInBounds_toArray, List.set_cons_zero, List.set_cons_succ]
                  rfl
                refine pure_ (i := 19) (N := some 76) (v := ?_) (a' := ?_) #[true, true, true, true, true, true, true, true, true, true, true, true, true, true, true, true, true, true, true, true] rfl rfl (by kernel_rfl) (fun _ _ _ h => h) (Or.inl ⟨by rfl, ?_⟩) ?_ ?_
                rotate_left
                · intro w'
                  go_simp
                  with_reducible rfl
                rotate_left
                · simp only [Act.put, List.setIfInBounds_toArray, List.set_cons_zero, List.set_cons_succ]
                  rfl
                refine done_ (by kernel_rfl) ?_
                have z0 := CV.out
                go_wp2_with fail
                go_roundw
                case rel => exact ⟨i + 1, an2, l ++ [⟨x0, x1, x2, x3⟩], by go_num, rfl, by omega, han2, ⟨by have := hll.out; simp; omega⟩, ⟨by rw [show nn - (i + 1) = c by omega]; exact HE4.out⟩, HS3, R, Y, HB⟩
                case measure => simp [intOf]; omega
              · have hd1 : decide (x0 ≤ lastP l) = true := decide_eq_true (by omega)
                have HE4 := Aside0.mk (show dec s = none by rw [HD.out, HE3.out, if_neg (fun h => hlp h.1)])
                clear hlp HE3 hR
                generalize lastP l = LP at *
                have CZ := Aside0.mk z1
                have CQ := Aside0.mk q0
                have CV := Aside0.mk z0
                have CL := Aside0.mk hk1
                clear hk1
                clear z0 z1 q0
                go_wp2_with fail
                refine start_ (n := 20) (S := fun w' => w'.cell? ⟨g10, 1, none⟩ = some (.int .i64 0) ∧ w'.cell? ⟨g6, 0, none⟩ = some (.int .i64 x0) ∧ w'.cell? (ad.add (m2 * 4)) = some (.int .i64 LP)) (ds := []) #[false, false, false, false, false, false, false, false, false, false, false, false, false, false, false, false, false, false, false, false] (by kernel_rfl) rfl rfl ⟨CZ.out, CQ.out, CL.out⟩ (fun _ => ?_)
                have n_Y := Aside0.mk (show wd.drew.heap[g2]? = some (.cells #[.slice none 0 0, .int .i64 0, .bool false] 80 (0, 0)) from Y.out)
                have n_HB := Aside0.mk (below_drew1 HB.out)
                have n_CZ := Aside0.mk (show wd.drew.cell? ⟨g10, 1, none⟩ = some (.int .i64 0) from CZ.out)
                have n_CQ := Aside0.mk (show wd.drew.cell? ⟨g6, 0, none⟩ = some (.int .i64 x0) from CQ.out)
                have n_CL := Aside0.mk (show wd.drew.cell? (ad.add (m2 * 4)) = some (.int .i64 LP) from CL.out)
                clear Y HB CZ CQ CL
                have Y := n_Y
                have HB := n_HB
                have CZ := n_CZ
                have CQ := n_CQ
                have CL := n_CL
                clear n_Y n_HB n_CZ n_CQ n_CL
                generalize wd.drew = V at *
                refine pure_ (i := 0) (N := some 57) (v := ?_) (a' := ?_) #[true, false, false, false, false, false, false, false, false, false, false, false, false, false, false, false, false, false, false, false] rfl rfl (by kernel_rfl) (fun _ _ _ h => h) (Or.inl ⟨by rfl, ?_⟩) ?_ ?_
                rotate_left
                · intro w'
                  go_simp
                  with_reducible rfl
                rotate_left
                · simp only [Act.put, List.setIfInBounds_toArray, List.set_cons_zero, List.set_cons_succ]
                  rfl
                refine take_ (i := 1) (N := some 58) (v := ?_) (a' := ?_) #[true, true, false, false, false, false, false, false, false, false, false, false, false, false, false, false, false, false, false, false] rfl rfl (by kernel_rfl) (fun _ _ _ h => h) (Or.inl ⟨by rfl, ?_⟩) ⟨CZ.out, CQ.out, CL.out⟩ ?_ ?_
                rotate_left
                · intro w' hS
                  obtain ⟨h1, h2, h3⟩ := hS
                  go_simp
                  with_reducible rfl
                rotate_left
                · simp only [Act.put, List.setIfInBounds_toArray, List.set_cons_zero, List.set_cons_succ]
                  rfl
                refine pure_ (i := 2) (N := some 59) (v := ?_) (a' := ?_) #[true, true, true, false, false, false, false, false, false, false, false, false, false, false, false, false, false, false, false, false] rfl rfl (by kernel_rfl) (fun _ _ _ h => h) (Or.inl ⟨by rfl, ?_⟩) ?_ ?_
                rotate_left
                · intro w'
                  go_simp
                  with_reducible rfl
                rotate_left
                · simp only [Act.put, List.setIfInBounds_toArray, List.set_cons_zero, List.set_cons_succ]
                  rfl
                refine pure_ (i := 3) (N := some 60) (v := ?_) (a' := ?_) #[true, true, true, true, false, false, false, false, false, false, false, false, false, false, false, false, false, false, false, false] rfl rfl (by kernel_rfl) (fun _ _ _ h => h) (Or.inl ⟨by rfl, ?_⟩) ?_ ?_
                rotate_left
                · intro w'
                  go_simp
                  with_reducible rfl
                rotate_left
                · simp only [Act.put, List.setIfInBounds_toArray, List.set_cons_zero, List.set_cons_succ]
                  rfl
                refine pure_ (i := 4) (N := some 61) (v := ?_) (a' := ?_) #[true, true, true, true, true, false, false, false, false, false, false, false, false, false, false, false, false, false, false, false] rfl rfl (by kernel_rfl) (fun _ _ _ h => h) (Or.inl ⟨by rfl, ?_⟩) ?_ ?_
                rotate_left
                · intro w'
                  go_simp
                  with_reducible rfl
                rotate_left
                · simp only [Act.put, List.setIfInBounds_toArray, List.set_cons_zero, List.set_cons_succ]
                  rfl
                refine pure_ (i := 5) (N := some 62) (v := ?_) (a' := ?_) #[true, true, true, true, true, true, false, false, false, false, false, false, false, false, false, false, false, false, false, false] rfl rfl (by kernel_rfl) (fun _ _ _ h => h) (Or.inl ⟨by rfl, ?_⟩) ?_ ?_
                rotate_left
                · intro w'
                  go_simp
                  with_reducible rfl
                rotate_left
                · simp only [Act.put, List.setIfInBounds_toArray, List.set_cons_zero, List.set_cons_succ]
                  rfl
                refine pure_ (i := 6) (N := some 63) (v := ?_) (a' := ?_) #[true, true, true, true, true, true, true, false, false, false, false, false, false, false, false, false, false, false, false, false] rfl rfl (by kernel_rfl) (fun _ _ _ h => h) (Or.inl ⟨by rfl, ?_⟩) ?_ ?_
                rotate_left
                · intro w'
                  go_simp
                  with_reducible rfl
                rotate_left
                · simp only [Act.put, List.setIfInBounds_toArray, List.set_cons_zero, List.set_cons_succ]
                  rfl
                refine pure_ (i := 7) (N := some 64) (v := ?_) (a' := ?_) #[true, true, true, true, true, true, true, true, false, false, false, false, false, false, false, false, false, false, false, false] rfl rfl (by kernel_rfl) (fun _ _ _ h => h) (Or.inl ⟨by rfl, ?_⟩) ?_ ?_
                rotate_left
                · intro w'
                  go_simp
                  with_reducible rfl
                rotate_left
                · simp only [Act.put, List.setIfInBounds_toArray, List.set_cons_zero, List.set_cons_succ]
                  rfl
                refine pure_ (i := 8) (N := some 65) (v := ?_) (a' := ?_) #[true, true, true, true, true, true, true, true, true, false, false, false, false, false, false, false, false, false, false, false] rfl rfl (by kernel_rfl) (fun _ _ _ h => h) (Or.inl ⟨by rfl, ?_⟩) ?_ ?_
                rotate_left
                · intro w'
                  go_simp
                  with_reducible rfl
                rotate_left
                · simp only [Act.put, List.setIfInBounds_toArray, List.set_cons_zero, List.set_cons_succ]
                  rfl
                refine take_ (i := 9) (N := some 66) (v := ?_) (a' := ?_) #[true, true, true, true, true, true, true, true, true, true, false, false, false, false, false, false, false, false, false, false] rfl rfl (by kernel_rfl) (fun _ _ _ h => h) (Or.inl ⟨by rfl, ?_⟩) ⟨CZ.out, CQ.out, CL.out⟩ ?_ ?_
                rotate_left
                · intro w' hS
                  obtain ⟨h1, h2, h3⟩ := hS
                  go_simp
                  with_reducible rfl
                rotate_left
                · simp only [Act.put, List.setIfInBounds_toArray, List.set_cons_zero, List.set_cons_succ]
                  rfl
                refine pure_ (i := 10) (N := some 67) (v := ?_) (a' := ?_) #[true, true, true, true, true, true, true, true, true, true, true, false, false, false, false, false, false, false, false, false] rfl rfl (by kernel_rfl) (fun _ _ _ h => h) (Or.inl ⟨by rfl, ?_⟩) ?_ ?_
                rotate_left
                · intro w'
                  go_simp
                  with_reducible rfl
                rotate_left
                · simp only [Act.put, List.setIfInBounds_toArray, List.set_cons_zero, List.set_cons_succ]
                  rfl
                refine pure_ (i := 11) (N := some 68) (v := ?_) (a' := ?_) #[true, true, true, true, true, true, true, true, true, true, true, true, false, false, false, false, false, false, false, false] rfl rfl (by kernel_rfl) (fun _ _ _ h => h) (Or.inl ⟨by rfl, ?_⟩) ?_ ?_
                rotate_left
                · intro w'
                  go_simp
                  with_reducible rfl
                rotate_left
                · simp only [Act.put, List.setIfInBounds_toArray, List.set_cons_zero, List.set_cons_succ]
                  rfl
                refine pure_ (i := 12) (N := some 69) (v := ?_) (a' := ?_) #[true, true, true, true, true, true, true, true, true, true, true, true, true, false, false, false, false, false, false, false] rfl rfl (by kernel_rfl) (fun _ _ _ h => h) (Or.inl ⟨by rfl, ?_⟩) ?_ ?_
                rotate_left
                · intro w'
                  go_simp
                  with_reducible rfl
                rotate_left
                · simp only [Act.put, List.setIfInBounds_toArray, List.set_cons_zero, List.set_cons_succ]
                  rfl
                refine pure_ (i := 13) (N := some 70) (v := ?_) (a' := ?_) #[true, true, true, true, true, true, true, true, true, true, true, true, true, true, false, false, false, false, false, false] rfl rfl (by kernel_rfl) (fun _ _ _ h => h) (Or.inl ⟨by rfl, ?_⟩) ?_ ?_
                rotate_left
                · intro w'
                  go_simp
                  with_reducible rfl
                rotate_left
                · simp only [Act.put, List.setIfInBounds_toArray, List.set_cons_zero, List.set_cons_succ]
                  rfl
                refine pure_ (i := 14) (N := some 71) (v := ?_) (a' := ?_) #[true, true, true, true, true, true, true, true, true, true, true, true, true, true, true, false, false, false, false, false] rfl rfl (by kernel_rfl) (fun _ _ _ h => h) (Or.inl ⟨by rfl, ?_⟩) ?_ ?_
                rotate_left
                · intro w'
                  go_simp
                  with_reducible rfl
                rotate_left
                · simp only [Act.put, List.setIfInBounds_toArray, List.set_cons_zero, List.set_cons_succ]
                  rfl
                refine pure_ (i := 15) (N := some 72) (v := ?_) (a' := ?_) #[true, true, true, true, true, true, true, true, true, true, true, true, true, true, true, true, false, false, false, false] rfl rfl (by kernel_rfl) (fun _ _ _ h => h) (Or.inl ⟨by rfl, ?_⟩) ?_ ?_
                rotate_left
                · intro w'
                  go_simp
                  with_reducible rfl
                rotate_left
                · simp only [Act.put, List.setIfInBounds_toArray, List.set_cons_zero, List.set_cons_succ]
                  rfl
                refine take_ (i := 16) (N := some 73) (v := ?_) (a' := ?_) #[true, true, true, true, true, true, true, true, true, true, true, true, true, true, true, true, true, false, false, false] rfl rfl (by kernel_rfl) (fun _ _ _ h => h) (Or.inl ⟨by rfl, ?_⟩) ⟨CZ.out, CQ.out, CL.out⟩ ?_ ?_
                rotate_left
                · intro w' hS
                  obtain ⟨h1, h2, h3⟩ := hS
                  go_simp
                  with_reducible rfl
                rotate_left
                · simp only [Act.put, List.setIfInBounds_toArray, List.set_cons_zero, List.set_cons_succ]
                  rfl
                refine pure_ (i := 17) (N := some 74) (v := ?_) (a' := ?_) #[true, true, true, true, true, true, true, true, true, true, true, true, true, true, true, true, true, true, false, false] rfl rfl (by kernel_rfl) (fun _ _ _ h => h) (Or.inl ⟨by rfl, ?_⟩) ?_ ?_
                rotate_left
                · intro w'
                  go_simp
                  with_reducible rfl
                rotate_left
                · simp only [Act.put, List.setIfInBounds_toArray, List.set_cons_zero, List.set_cons_succ]
                  rfl
                refine pure_ (i := 18) (N := some 75) (v := ?_) (a' := ?_) #[true, true, true, true, true, true, true, true, true, true, true, true, true, true, true, true, true, true, true, false] rfl rfl (by kernel_rfl) (fun _ _ _ h => h) (Or.inl ⟨by rfl, ?_⟩) ?_ ?_
                rotate_left
                · intro w'
                  go_simp
                  with_reducible rfl
                rotate_left
                · simp only [Act.put, List.setIfInBounds_toArray, List.set_cons_zero, List.set_cons_succ]
                  rfl
                refine pure_ (i := 19) (N := some 76) (v := ?_) (a' := ?_) #[true, true, true, true, true, true, true, true, true, true, true, true, true, true, true, true, true, true, true, true] rfl rfl (by kernel_rfl) (fun _ _ _ h => h) (Or.inl ⟨by rfl, ?_⟩) ?_ ?_
                rotate_left
                · intro w'
                  go_simp
                  with_reducible rfl
                rotate_left
                · simp only [Act.put, List.setIfInBounds_toArray, List.set_cons_zero, List.set_cons_succ]
                  rfl
                refine done_ (by kernel_rfl) ?_
                go_wp2_with (first
                  | ((with_reducible refine gate_store (t := 80) (p := 2) rfl ?_); refine store_ev rfl rfl rfl (cells := #[.slice none 0 0, .int .i64 0, .bool false]) rfl rfl Y.out (by kernel_rfl) rfl (by kernel_rfl) ?_; intro we hbx hgr; have n_B := Aside0.mk (below_put HB.out G2.out hgr HB.out.size); have n_Y := Aside0.mk hbx; have HGR := Aside0.mk hgr; clear HB Y hbx hgr; have HB := n_B; have Y := n_Y; clear n_B n_Y))
                refine bodyPost_ret (results_cell_row rfl _ _ g2 80 #[.slice none 0 0, .int .i64 0, .bool false] (0, 0) _ rfl Y.out Try.underlying80 rfl (by kernel_rfl)) rfl ?_
                exact ⟨by rw [HE4.out], HB.out⟩
      · obtain rfl : i = nn := by omega
        have HE4 : Aside0 (dec s = some (l, (an : Int))) := ⟨by rw [HD.out, HE.out, Nat.sub_self]; rfl⟩
        have hni : ¬ isW wr g2 := fun ⟨cells, hc⟩ => by rw [Y.out] at hc; cases hc
        have RW := Aside0.mk (la_isW R.out)
        go_wp2_with (first
          | ((with_reducible refine gate_store (t := 80) (p := 2) rfl ?_); refine store_ev rfl rfl rfl (cells := #[.slice A1 l.length c1, .int .i64 (an : Int), .bool true]) rfl rfl Y.out (by kernel_rfl) rfl (by kernel_rfl) ?_; intro wb hbx hgr; have n_B := Aside0.mk (below_put HB.out G2.out hgr HB.out.size); have n_R := Aside0.mk (Kd.R_mono (Kd.R_step RW.out (fun k hk hlt => hgr.block k hlt (fun e => hni (by rw [← Option.some.inj e]; exact hk)))) (fun _ _ => trivial) : Kd.R k43 43 wb w.heap.size (fun _ => True) _ l); have n_Y := Aside0.mk hbx; clear HB Y R hbx hgr; have HB := n_B; have Y := n_Y; have R := n_R; clear n_B n_Y n_R))
        refine bodyPost_ret (results_cell_row rfl _ _ g2 80 #[.slice A1 l.length c1, .int .i64 (an : Int), .bool true] (0, 0) _ rfl Y.out Try.underlying80 rfl (by kernel_rfl)) rfl ?_
        exact ⟨by rw [HE4.out]; exact ⟨_, rfl, R.out⟩, HB.out⟩

end Go.Proofs.Ytgojaomldkgojaa.Dd
