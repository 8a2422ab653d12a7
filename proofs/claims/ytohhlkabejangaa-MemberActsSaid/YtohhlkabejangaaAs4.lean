import Derived.Test.YtohhlkabejangaaAs3
namespace Go.Proofs.Ytohhlkabejangaa.As
open Go.RowKit Go.Maps Go.Sort Go.ChangeShapes Go.Proofs.YtohhlkabejangaaW.PrintWords Go.Proofs.YtohhlkabejangaaW.PrintLast Go.Proofs.YtohhlkabejangaaW.PrintMore Go.Proofs.Ytohhlkabejangaa.PAs
set_option linter.unusedVariables false
set_option linter.unusedSimpArgs false
theorem infoI : (Try.prog.info? 3).map (fun i => (i.zero, i.size, i.bytes)) = some (some (.int .i64 0), 1, 8) := by kernel_rfl
theorem zeroIS (w : World) : (zeroValue 29).run Try.prog w = .ok (.slice none 0 0) w := by kernel_rfl
theorem str_law : Keyed Try.prog 9 := string_keyed Try.underlying9
theorem wrong_cases (l : List ByteArray) : wrongL l = 0 ∨ wrongL l = 1 ∨ wrongL l = 8 := by
  unfold wrongL
  split
  · split
    · exact .inl rfl
    · exact .inr (.inr rfl)
  · exact .inr (.inl rfl)
theorem row_cells {W : World} {base : Nat} {v : Value} {zs : List (List UInt8)} (h : W.ownsRow base 9 1 v zs.length (zs.map encStr)) :
    ∃ a c, v = .slice a zs.length c ∧ ∀ k, k < zs.length → ∃ g, a = some ⟨g, 0, none⟩ ∧ g < W.heap.size ∧ W.cell? ⟨g, k, none⟩ = some (encStr (zs.getD k [])) := by
  obtain ⟨h1, h2⟩ := h
  rcases h2 with ⟨rfl, hn⟩ | ⟨g, cap, cur, rfl, hbg, hg, r1, r2, r3, r4⟩
  · exact ⟨none, 0, by rw [hn], fun k hk => by omega⟩
  · have hH : Holds encStr W g 0 zs.toArray := holds_of_block hg (by simpa using r4)
    refine ⟨_, _, rfl, fun k hk => ⟨g, rfl, (Array.getElem?_eq_some_iff.1 hg).1, ?_⟩⟩
    have := (hH k (by simpa using hk)).1
    rw [Nat.zero_add, getElem!_pos _ k (by simpa using hk)] at this
    rw [this, List.getD_eq_getElem?_getD, List.getElem?_eq_getElem hk]
    simp
set_option maxHeartbeats 16000000 in
set_option maxRecDepth 100000 in
theorem range_bad (A : Option Addr) (c : Nat) (l : List ByteArray) (n z : Int) (w : World) (hA : Kd.C Kd.string w A l.length l) (hl : l.length ≤ 1000) (hz : ∀ s ∈ l, s.size ≤ 1000) (h0 : wrongL l ≠ 0 ∨ n < 0 ∨ n > 4) (hzz : z = if wrongL l = 0 then 1 else wrongL l) :
    Calls Try.prog 18 #[.slice A l.length c, .int .i64 n] w fun e w' => e = .returned (.tuple #[.map none, .int .i64 z]) ∧ Below w.heap.size w w' := by
  have hs := sorted_calls A c l w hA hl hz
  clear hA hz
  generalize wrongL l = k at h0 hzz hs
  have hk3 : k = 0 ∨ k ≠ 0 := by omega
  have hs := Aside0.mk hs
  go_enter Try.func18, Try.ntmps18
  go_wp2_with fail
  refine hs.out.mono ?_
  rintro e w1 ⟨u, rfl, hR, hB⟩
  have HB := Aside0.mk hB
  clear hs hR hB
  rcases hk3 with rfl | hk
  · rw [if_pos rfl] at hzz
    subst hzz
    by_cases hn : n < 0
    · have c1 : decide (n < 0) = true := decide_eq_true hn
      go_wp2_with fail
      exact bodyPost_ret (v := .tuple #[.map none, .int .i64 1]) (by simp [results, Try.results18, go_sem]) rfl ⟨rfl, HB.out⟩
    · have c1 : decide (n < 0) = false := decide_eq_false hn
      have c2 : decide (n > 4) = true := decide_eq_true (by omega)
      go_wp2_with fail
      exact bodyPost_ret (v := .tuple #[.map none, .int .i64 1]) (by simp [results, Try.results18, go_sem]) rfl ⟨rfl, HB.out⟩
  · rw [if_neg hk] at hzz
    subst hzz
    have c1 : (z == 0) = false := beq_eq_false_iff_ne.2 hk
    have c2 : (z != 0) = true := bne_iff_ne.2 hk
    have c3 : decide (z ≠ 0) = true := decide_eq_true hk
    go_wp2_with fail
    exact bodyPost_ret (v := .tuple #[.map none, .int .i64 z]) (by simp [results, Try.results18, go_sem]) rfl ⟨rfl, HB.out⟩
theorem key_str (x : List UInt8) (h : x.length ≤ 1000) : keyOf Try.prog 9 (encStr x) = some (.string x) := by
  have := WideMaps.keyOf_string_mk (P := Try.prog) Try.underlying9 (s := ⟨x.toArray⟩) (by
    show x.toArray.size ≤ maxLen
    rw [List.size_toArray]
    unfold maxLen
    omega)
  simpa [encStr] using this
theorem row_eq {v : Value} {zs xs : List Int} {w : World} {base e : Nat} (h : w.ownsInts base e .i64 v zs) (hd : rowDatum (H := Unit) .i64 v zs = dz xs) : zs = xs := by
  rcases h.datum (H := Unit) with ⟨h1, h2⟩ | h1
  · rw [h1] at hd
    unfold dz at hd
    split at hd
    · rename_i h3
      rw [h2, h3]
    · cases hd
  · rw [h1] at hd
    unfold dz at hd
    split at hd
    · cases hd
    · simp only [DataW.slice.injEq, and_true] at hd
      unfold lits at hd
      exact (List.map_inj_right (fun x y e => by simpa using e)).1 hd
theorem pw_end {l : List Gr} {x : List UInt8} (hp : l.Pairwise (fun a b => a.1 < b.1)) (h : ∀ y ∈ l, y.1 < x) (zs : List Int) : (l ++ [(x, zs)]).Pairwise (fun a b => a.1 < b.1) :=
  List.pairwise_append.2 ⟨hp, List.pairwise_singleton _ _, fun a ha b hb => by rw [List.mem_singleton.1 hb]; exact h a ha⟩
theorem rowsG_pw (n : Nat) (ss : List (List UInt8)) (hs : ss.Pairwise (fun a b => a < b)) : ∀ i, i ≤ ss.length → (rowsG n ss i).Pairwise (fun a b => a.1 < b.1)
  | 0, _ => List.Pairwise.nil
  | i + 1, h => pw_end (rowsG_pw n ss hs i (by omega)) (rowsG_lt n ss hs i (by omega)) _
theorem put0 {l : List Gr} {x : List UInt8} (h : ∀ y ∈ l, y.1 < x) {w2 : World} {P : Program} {k base e b q : Nat} (ho : w2.ownsGroups P k base e .i64 b q ((datG l).put (.string x) (rowDatum .i64 (.slice none 0 0) []))) :
    w2.ownsGroups P k base e .i64 b q (datG (l ++ [(x, [])])) := by
  rw [← putG_new l x [] h]
  exact ho
theorem putS {l : List Gr} {x : List UInt8} (h : ∀ y ∈ l, y.1 < x) (hp : l.Pairwise (fun a b => a.1 < b.1)) {wr w3 w4 : World} {P : Program} {k base e b q a j : Nat} {v v' : Value} {zs : List Int}
    (hat : (datG (l ++ [(x, numsG a j)])).atKey (.string x) .nil = rowDatum .i64 v zs) (hoi : wr.ownsInts base e .i64 v zs) (ho' : w3.ownsInts base e .i64 v' (zs ++ [((a + j : Nat) : Int)]))
    (ho : w4.ownsGroups P k base e .i64 b q ((datG (l ++ [(x, numsG a j)])).put (.string x) (rowDatum .i64 v' (zs ++ [((a + j : Nat) : Int)])))) :
    w4.ownsGroups P k base e .i64 b q (datG (l ++ [(x, numsG a (j + 1))])) := by
  have h1 := atG_mem (l ++ [(x, numsG a j)]) (pw_end hp h _) (x, numsG a j) (by simp)
  have h2 : zs = numsG a j := row_eq hoi (hat.symm.trans h1)
  subst h2
  rw [row_dz ho' (fun h => by simp at h), putG_same l x _ _ h, ← numsG_succ] at ho
  exact ho
theorem v0_none {l : List Gr} {x : List UInt8} (h : ∀ y ∈ l, y.1 < x) {v : Value} {zs : List Int} {w : World} {base e : Nat} (hoi : w.ownsInts base e .i64 v zs) (hat : (datG l).atKey (.string x) .nil = rowDatum .i64 v zs) : v.ownBlock = (Value.slice none 0 0).ownBlock := by
  rw [atG_none l x (fun y hy e => List.lt_irrefl x (e ▸ h y hy))] at hat
  rcases hoi.1.2 with ⟨rfl, _⟩ | ⟨g, cap, cur, rfl, _⟩
  · rfl
  · cases hat
set_option maxHeartbeats 16000000 in
set_option maxRecDepth 100000 in
theorem range_calls (A : Option Addr) (c : Nat) (l : List ByteArray) (n : Nat) (w : World) (hA : Kd.C Kd.string w A l.length l) (hl : l.length ≤ 1000) (hz : ∀ s ∈ l, s.size ≤ 1000) (hw : wrongL l = 0) (hn : n ≤ 4) :
    Calls Try.prog 18 #[.slice A l.length c, .int .i64 (n : Int)] w fun e w' => ∃ b q, e = .returned (.tuple #[.map (some b), .int .i64 0]) ∧ w.heap.size ≤ b ∧ q ≤ 6000 ∧
      w'.ownsGroups Try.prog 9 (b + 1) 3 .i64 b q (datG (rowsG n (srt l) l.length)) ∧ Below w.heap.size w w' := by
  have hmm := @run_makeMap Try.prog
  obtain ⟨i0, hi, hz0, hz1, hz2⟩ := info_parts infoI
  have hs := Aside0.mk (sorted_calls A c l w hA hl hz)
  have hnd : (l.map (·.toList)).Nodup := by
    unfold wrongL at hw
    split at hw
    · split at hw
      · assumption
      · cases hw
    · cases hw
  have hrs : (srt l).Pairwise (fun a b => a < b) := ((srt_sorted l).and ((srt_nodup l).2 hnd)).imp (fun {a b} h => by
    rcases List.le_iff_lt_or_eq.1 h.1 with h1 | h1
    · exact h1
    · exact absurd h1 h.2)
  have HRS := Aside0.mk (rowsG_lt n (srt l) hrs)
  have HPW := Aside0.mk (rowsG_pw n (srt l) hrs)
  have hsz : ∀ k, k < l.length → ((srt l).getD k []).length ≤ 1000 := fun k hk => by
    have h1 : (srt l).getD k [] ∈ l.map (·.toList) := by
      rw [← (srt_perm l).mem_iff, List.getD_eq_getElem?_getD, List.getElem?_eq_getElem (by rw [srt_length]; exact hk)]
      exact List.getElem_mem _
    obtain ⟨s, hs, e⟩ := List.mem_map.1 h1
    rw [← e, str_toList, data_length]
    exact hz s hs
  have HSZ := Aside0.mk hsz
  clear hA hz hsz hnd hrs
  go_enter Try.func18, Try.ntmps18
  go_wp2_with fail
  refine hs.out.mono ?_
  rintro e w1 ⟨u, rfl, hR, hB⟩
  rw [hw, if_pos rfl] at hR
  rw [hw]
  have HB := Aside0.mk hB
  have hrow := Kd.own_of_R hR
  have hrc := row_cells hrow
  rw [srt_length] at hrc
  obtain ⟨ua, uc, rfl, hcs⟩ := hrc
  have HCS := Aside0.mk hcs
  clear hs hR hB hrow hcs hw
  have c1 : decide ((n : Int) < 0) = false := decide_eq_false (by omega)
  have c2 : decide ((n : Int) > 4) = false := decide_eq_false (by omega)
  go_wp2_with fail
  go_loopw [9, 30] (fun nv iv wr => ∃ i q : Nat, iv = .int .i64 i ∧ nv = .int .i64 (startG n l.length i : Nat) ∧ i ≤ l.length ∧ q ≤ 6 * i ∧ startG n l.length i ≤ 5 * i ∧
      Aside0 (wr.ownsGroups Try.prog 9 (w1.heap.size + 1) 3 .i64 w1.heap.size q (datG (rowsG n (srt l) i))) ∧ Aside0 (Below w1.heap.size w1 wr) ∧ w1.heap.size + 1 ≤ wr.heap.size) (fun _ iv _ => l.length - (intOf iv).toNat)
  case atStart => exact ⟨0, 0, rfl, rfl, Nat.zero_le _, Nat.le_refl _, Nat.le_refl _, ⟨World.ownsGroups_made _ _ _ _ _⟩, ⟨(Below.refl _ _).alloc (Nat.le_refl _) _⟩, by simp⟩
  case round =>
    obtain ⟨i, q, rfl, rfl, hil, hq, hst, HG, HB1, hsw⟩ := hrel
    by_cases hlt : i < l.length
    · obtain ⟨g, rfl, hg, hx⟩ := HCS.out i hlt
      have hx1 := (HB1.out.cell (p := ⟨g, i, none⟩) hg).trans hx
      have hlz : (l.length : Int) ≠ 0 := by omega
      have hlz2 : ((l.length : Int) == 0) = false := beq_eq_false_iff_ne.2 hlz
      have d1 : decide ((i : Int) < (l.length : Int)) = true := decide_eq_true (by omega)
      have d2 : ((i : Int) < (l.length : Int)) = True := eq_true (by omega)
      have d3 : (0 ≤ (i : Int)) = True := eq_true (by omega)
      obtain ⟨dq, hdq⟩ : ∃ d, n / l.length = d := ⟨_, rfl⟩
      have hdiv : (n : Int) / (l.length : Int) = (dq : Int) := by rw [← hdq]; exact (Int.natCast_ediv n l.length).symm
      have hd4 : dq ≤ 4 := by rw [← hdq]; exact Nat.le_trans (Nat.div_le_self _ _) hn
      have hrl := Aside0.mk (HRS.out i (by rw [srt_length]; exact hlt))
      have hpw := Aside0.mk (HPW.out i (by rw [srt_length]; exact hil))
      have hxl := HSZ.out i hlt
      obtain ⟨x, hx0⟩ : ∃ x, (srt l).getD i [] = x := ⟨_, rfl⟩
      rw [hx0] at hx1 hrl hxl
      have HX0 := Aside0.mk hx0
      have HKEY := Aside0.mk (key_str x hxl)
      clear hx0 hx
      obtain ⟨v0, zs0, hrun0, hat0, hoi0, hzl0, hback0⟩ := HG.out.at str_law Try.underlying25 (zeroIS _) (by unfold maxLen; omega) HKEY.out
      have HBK := Aside0.mk hback0
      have HV0 := Aside0.mk (v0_none hrl.out hoi0 hat0)
      have hlen0 : v0.ownBlock = none := HV0.out
      clear hrun0 hat0 hoi0 hzl0 hback0
      by_cases hrem : i < n % l.length
      · have d4 : decide ((i : Int) < ((n : Int) % (l.length : Int))) = true := decide_eq_true (by omega)
        have hcv : wrap64 (wrap64 ((n : Int) / (l.length : Int)) + 1) = ((dq + 1 : Nat) : Int) := by
          rw [hdiv, w64 (dq : Int) (by omega) (by omega), w64 ((dq : Int) + 1) (by omega) (by omega)]; omega
        have hcn : cntG n l.length i = dq + 1 := by
          unfold cntG
          rw [hdq, if_pos hrem]
        have HCV := Aside0.mk hcv
        have HCN := Aside0.mk hcn
        clear hcv hcn
        go_wp2_with (first
          | (at_mapUpdate; refine wpList_mapUpdate_back _ rfl _ _ _ 25 rfl HBK.out rfl rfl rfl ⟨rfl, rfl, rfl, Nat.le_refl _, fun _ _ _ => rfl⟩ (World.ownsInts_nil _ _ _ _) (Nat.zero_le _) (.inl HV0.out.symm) ?_; intro w2 hown2 hgrow2; have HG2 := Aside0.mk (put0 hrl.out hown2); have HB2 := Aside0.mk (HB1.out.grown hgrow2 HB1.out.size (fun k e => by cases e; exact Nat.le_refl _)); have hsw2 := Nat.le_trans hsw hgrow2.size; clear hown2 hgrow2 HB1 HG))
        show Code.wp _ _ _ _ _
        go_loopw [9, 50] (fun nv jv wr => ∃ j q' : Nat, jv = .int .i64 j ∧ nv = .int .i64 (startG n l.length i + j : Nat) ∧ j ≤ dq + 1 ∧ q' ≤ q + 1 + j ∧
            Aside0 (wr.ownsGroups Try.prog 9 (w1.heap.size + 1) 3 .i64 w1.heap.size q' (datG (rowsG n (srt l) i ++ [(x, numsG (startG n l.length i) j)]))) ∧ Aside0 (Below w1.heap.size w1 wr) ∧ w1.heap.size + 1 ≤ wr.heap.size) (fun _ jv _ => dq + 1 - (intOf jv).toNat)
        case atStart => exact ⟨0, q + 1, rfl, rfl, Nat.zero_le _, Nat.le_refl _, HG2, HB2, hsw2⟩
        case round =>
          obtain ⟨j, q', rfl, rfl, hj, hq', HG3, HB3, hsw3⟩ := hrel
          by_cases hjl : j < dq + 1
          · have e1 : decide ((j : Int) < wrap64 (wrap64 ((n : Int) / (l.length : Int)) + 1)) = true := decide_eq_true (by rw [HCV.out]; omega)
            have hown := HG3.out
            go_wp2_with (first
              | (at_lookup; refine wpList_lookup_groups _ rfl _ _ 25 rfl 9 29 3 .i64 str_law Try.underlying25 (zeroIS _) (w1.heap.size + 1) w1.heap.size q' _ rfl hown (by unfold maxLen; omega) _ _ rfl HKEY.out ?_; intro v zs hat hoi hzl hback)
              | (at_builtin; refine wpList_append_own_at _ rfl _ _ 29 rfl (w1.heap.size + 1) 3 i0 (.int .i64 0) 1 8 Try.underlying29 hi hz0 hz1 hz2 rfl (by decide) _ _ _ rfl (hoi.1.alloc _) ⟨wr.heap.size, 0, none⟩ 1 1 [.int .i64 (startG n l.length i + j : Nat)] rfl rfl (cell_one_new _ _ _) (by intro u hu; obtain rfl := List.mem_singleton.1 hu; rfl) (by unfold maxLen; omega) (by omega) (by simp; omega) ?_; intro v' w3 hown' hgrow hnil hloc)
              | (at_mapUpdate; refine wpList_mapUpdate_back _ rfl _ _ _ 25 rfl hback rfl rfl rfl ((World.grownBy_alloc _ _ _).trans hgrow) (hoi.appended hown' (WalkArith.wf_i64 (by omega))) (by simp; omega) (hloc.imp id (fun h => ⟨_, h, by simp⟩)) ?_; intro w4 hown2 hgrow2))
            have hall := (World.grownBy_alloc wr _ _).trans hgrow
            go_roundw
            case rel =>
              refine ⟨j + 1, q' + 1, by go_num, by go_num, by omega, by omega, ⟨?_⟩, ⟨HB3.out.groups hoi hall hgrow2 HB3.out.size (Nat.le_succ _) (Nat.le_refl _)⟩, Nat.le_trans hsw3 (Nat.le_trans hall.size hgrow2.size)⟩
              exact putS hrl.out hpw.out hat hoi (hoi.appended hown' (WalkArith.wf_i64 (by omega))) hown2
            case measure => simp [intOf]; omega
          · have hje : dq + 1 = j := by omega
            subst hje
            have e1 : decide (((dq + 1 : Nat) : Int) < wrap64 (wrap64 ((n : Int) / (l.length : Int)) + 1)) = false := decide_eq_false (by rw [HCV.out]; omega)
            go_wp2_with fail
            go_roundw
            case rel =>
              refine ⟨i + 1, q', by go_num, ?_, by omega, by omega, ?_, ⟨?_⟩, HB3, hsw3⟩
              · show _ = Value.int .i64 (startG n l.length i + cntG n l.length i : Nat)
                rw [HCN.out]
              · show startG n l.length i + cntG n l.length i ≤ _
                rw [HCN.out]
                omega
              · have e : rowsG n (srt l) (i + 1) = rowsG n (srt l) i ++ [(x, numsG (startG n l.length i) (dq + 1))] := by
                  show rowsG n (srt l) i ++ [((srt l).getD i [], numsG (startG n (srt l).length i) (cntG n (srt l).length i))] = _
                  rw [srt_length, HCN.out, HX0.out]
                rw [e]
                exact HG3.out
            case measure => simp [intOf]; omega
      · have d4 : decide ((i : Int) < ((n : Int) % (l.length : Int))) = false := decide_eq_false (by omega)
        have hcv : wrap64 ((n : Int) / (l.length : Int)) = ((dq : Nat) : Int) := by
          rw [hdiv, w64 (dq : Int) (by omega) (by omega)]
        have hcn : cntG n l.length i = dq := by
          unfold cntG
          rw [hdq, if_neg hrem]; rfl
        have HCV := Aside0.mk hcv
        have HCN := Aside0.mk hcn
        clear hcv hcn
        go_wp2_with (first
          | (at_mapUpdate; refine wpList_mapUpdate_back _ rfl _ _ _ 25 rfl HBK.out rfl rfl rfl ⟨rfl, rfl, rfl, Nat.le_refl _, fun _ _ _ => rfl⟩ (World.ownsInts_nil _ _ _ _) (Nat.zero_le _) (.inl HV0.out.symm) ?_; intro w2 hown2 hgrow2; have HG2 := Aside0.mk (put0 hrl.out hown2); have HB2 := Aside0.mk (HB1.out.grown hgrow2 HB1.out.size (fun k e => by cases e; exact Nat.le_refl _)); have hsw2 := Nat.le_trans hsw hgrow2.size; clear hown2 hgrow2 HB1 HG))
        show Code.wp _ _ _ _ _
        go_loopw [9, 50] (fun nv jv wr => ∃ j q' : Nat, jv = .int .i64 j ∧ nv = .int .i64 (startG n l.length i + j : Nat) ∧ j ≤ dq ∧ q' ≤ q + 1 + j ∧
            Aside0 (wr.ownsGroups Try.prog 9 (w1.heap.size + 1) 3 .i64 w1.heap.size q' (datG (rowsG n (srt l) i ++ [(x, numsG (startG n l.length i) j)]))) ∧ Aside0 (Below w1.heap.size w1 wr) ∧ w1.heap.size + 1 ≤ wr.heap.size) (fun _ jv _ => dq - (intOf jv).toNat)
        case atStart => exact ⟨0, q + 1, rfl, rfl, Nat.zero_le _, Nat.le_refl _, HG2, HB2, hsw2⟩
        case round =>
          obtain ⟨j, q', rfl, rfl, hj, hq', HG3, HB3, hsw3⟩ := hrel
          by_cases hjl : j < dq
          · have e1 : decide ((j : Int) < wrap64 ((n : Int) / (l.length : Int))) = true := decide_eq_true (by rw [HCV.out]; omega)
            have hown := HG3.out
            go_wp2_with (first
              | (at_lookup; refine wpList_lookup_groups _ rfl _ _ 25 rfl 9 29 3 .i64 str_law Try.underlying25 (zeroIS _) (w1.heap.size + 1) w1.heap.size q' _ rfl hown (by unfold maxLen; omega) _ _ rfl HKEY.out ?_; intro v zs hat hoi hzl hback)
              | (at_builtin; refine wpList_append_own_at _ rfl _ _ 29 rfl (w1.heap.size + 1) 3 i0 (.int .i64 0) 1 8 Try.underlying29 hi hz0 hz1 hz2 rfl (by decide) _ _ _ rfl (hoi.1.alloc _) ⟨wr.heap.size, 0, none⟩ 1 1 [.int .i64 (startG n l.length i + j : Nat)] rfl rfl (cell_one_new _ _ _) (by intro u hu; obtain rfl := List.mem_singleton.1 hu; rfl) (by unfold maxLen; omega) (by omega) (by simp; omega) ?_; intro v' w3 hown' hgrow hnil hloc)
              | (at_mapUpdate; refine wpList_mapUpdate_back _ rfl _ _ _ 25 rfl hback rfl rfl rfl ((World.grownBy_alloc _ _ _).trans hgrow) (hoi.appended hown' (WalkArith.wf_i64 (by omega))) (by simp; omega) (hloc.imp id (fun h => ⟨_, h, by simp⟩)) ?_; intro w4 hown2 hgrow2))
            have hall := (World.grownBy_alloc wr _ _).trans hgrow
            go_roundw
            case rel =>
              refine ⟨j + 1, q' + 1, by go_num, by go_num, by omega, by omega, ⟨?_⟩, ⟨HB3.out.groups hoi hall hgrow2 HB3.out.size (Nat.le_succ _) (Nat.le_refl _)⟩, Nat.le_trans hsw3 (Nat.le_trans hall.size hgrow2.size)⟩
              exact putS hrl.out hpw.out hat hoi (hoi.appended hown' (WalkArith.wf_i64 (by omega))) hown2
            case measure => simp [intOf]; omega
          · have hje : dq = j := by omega
            subst hje
            have e1 : decide (((dq : Nat) : Int) < wrap64 ((n : Int) / (l.length : Int))) = false := decide_eq_false (by rw [HCV.out]; omega)
            go_wp2_with fail
            go_roundw
            case rel =>
              refine ⟨i + 1, q', by go_num, ?_, by omega, by omega, ?_, ⟨?_⟩, HB3, hsw3⟩
              · show _ = Value.int .i64 (startG n l.length i + cntG n l.length i : Nat)
                rw [HCN.out]
              · show startG n l.length i + cntG n l.length i ≤ _
                rw [HCN.out]
                omega
              · have e : rowsG n (srt l) (i + 1) = rowsG n (srt l) i ++ [(x, numsG (startG n l.length i) (dq))] := by
                  show rowsG n (srt l) i ++ [((srt l).getD i [], numsG (startG n (srt l).length i) (cntG n (srt l).length i))] = _
                  rw [srt_length, HCN.out, HX0.out]
                rw [e]
                exact HG3.out
            case measure => simp [intOf]; omega
    · obtain rfl : i = l.length := by omega
      have d1 : decide ((l.length : Int) < (l.length : Int)) = false := decide_eq_false (by omega)
      go_wp2_with fail
      exact bodyPost_ret (v := .tuple #[.map (some w1.heap.size), .int .i64 0]) (by simp [results, Try.results18, go_sem]) rfl ⟨_, _, rfl, HB.out.size, by omega, HG.out, below_step HB.out HB1.out⟩
end Go.Proofs.Ytohhlkabejangaa.As
