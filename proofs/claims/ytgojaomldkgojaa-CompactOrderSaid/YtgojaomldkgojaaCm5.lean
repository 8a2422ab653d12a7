import Derived.Test.YtgojaomldkgojaaCm4
import Derived.Test.YtgojaomldkgojaaIter
namespace Go.Proofs.Ytgojaomldkgojaa.Cm
set_option linter.unusedVariables false
set_option linter.unusedSimpArgs false
open Go.RowKit Go.Maps Go.Sort Go.Proofs.YtgojaomldkgojaaW.PrintWords Go.Proofs.YtgojaomldkgojaaW.PrintLast Go.Proofs.YtgojaomldkgojaaW.PrintMore Go.Proofs.Ytgojaomldkgojaa.PCm Go.Proofs.Ytgojaomldkgojaa.Wire
theorem key_in (l : List Rc) (x : List UInt8) (h : x ∈ strKeys (dat l l.length)) : ∃ j, ∃ (hj : j < l.length), kL l[j] = x ∧ x ≠ [] := by
  obtain ⟨es, he, h1, _⟩ := dat_keys l l.length (Nat.le_refl _)
  rw [he] at h
  obtain ⟨p, hp, e⟩ := List.mem_map.1 h
  obtain ⟨j, hj, e2, hne⟩ := h1 p hp
  have hg : l.getD j z32 = l[j] := by rw [List.getD_eq_getElem?_getD, List.getElem?_eq_getElem hj]; rfl
  rw [hg] at e2 hne
  rw [e2] at e
  have e3 : kL l[j] = x := by
    rw [← e]
    exact (toList_data _).symm
  exact ⟨j, hj, e3, by rw [← e3]; exact hne⟩
theorem lastIx_in (l : List Rc) (k : List UInt8) : ∀ n, (∃ j, j < n ∧ (l.getD j z32).f2.toList = k) → 0 ≤ lastIx l n k ∧ lastIx l n k < n := by
  intro n
  induction n with
  | zero => rintro ⟨j, hj, _⟩; omega
  | succ n ih =>
    rintro ⟨j, hj, e⟩
    show 0 ≤ (if (l.getD n z32).f2.toList = k then (n : Int) else lastIx l n k) ∧ (if (l.getD n z32).f2.toList = k then (n : Int) else lastIx l n k) < _
    split
    · omega
    · rename_i hne
      have hjn : j < n := by
        rcases Nat.lt_or_ge j n with h | h
        · exact h
        · obtain rfl : j = n := by omega
          exact absurd e hne
      have := ih ⟨j, hjn, e⟩
      omega
def pickV (l : List Rc) (k : List UInt8) : Option Rc := if (l.getD (lastIx l l.length k).toNat z32).f4 = true then none else some (l.getD (lastIx l l.length k).toNat z32)
abbrev kStr : Kd (List UInt8) := Kd.scalar encStr (fun _ => rfl)
set_option maxHeartbeats 16000000 in
set_option maxRecDepth 100000 in
theorem view_calls (A : Option Addr) (k : Nat) (l : List Rc) (w : World) (hr : Kd.C k32 w A l.length l) (hl : l.length ≤ 1000) (hz : ∀ r ∈ l, r.f2.size ≤ 1000) :
    Calls Try.prog 17 #[.slice A l.length k] w fun e w' => ∃ (u : Value) (ss : List (List UInt8)), e = .returned u ∧ ss.Perm (strKeys (dat l l.length)) ∧ Kd.R k32 32 w' w.heap.size (fun _ => True) u ((ss.mergeSort leB).filterMap (pickV l)) ∧ Below w.heap.size w w' := by
  have HR := Aside0.mk hr
  have HZ := Aside0.mk hz
  have hls := Aside0.mk (lasts_calls A k l w hr hl hz)
  clear hr hz
  go_enter Try.func17, Try.ntmps17
  go_wp2_with fail
  refine hls.out.mono ?_
  rintro e w0 ⟨b, rfl, hbs, hT, hB⟩
  have HT0 := Aside0.mk hT
  have HB0 := Aside0.mk hB
  clear hT hB hls hbs
  go_wp2_with fail
  refine (callsIn_wide.1 (Try.maps_Keys_47 (some b) w0)).mono ?_
  rintro e w1 ⟨rfl, rfl⟩
  go_wp2_with fail
  have hsz : Maps.size (dat l l.length) ≤ l.length := by
    obtain ⟨es, clock, hb, F, hs, hD⟩ := HT0.out
    rw [hD]
    show (List.foldr DataW.insert [] _).length ≤ _
    rw [length_sorted]
    simpa using hs
  refine (callsIn_wide.1 (Try.slices_Sorted_keys_46_47 b l.length (dat l l.length) _ w0 HT0.out (by unfold maxLen; omega) (by omega))).mono ?_
  rintro e w2 ⟨v, ss, rfl, hS, hrow, hnil, hb2⟩
  have RS := Kd.R_of_own (enc := encStr) (h1 := fun _ => rfl) (e := 9) (ok := fun _ => True) (xs := ss.mergeSort leB) (by rw [List.length_mergeSort]; exact hrow) (fun _ _ => trivial)
  obtain ⟨As, cs, hv, hcl, CS⟩ := Kd.R_reads RS
  subst hv
  have HB1 := Aside0.mk (below_step (below_alloc HB0.out (.cells #[.map (some b)] 83)) hb2)
  have HSS := Aside0.mk hS
  have hkeys : Aside0 (∀ x ∈ ss.mergeSort leB, ∃ j, ∃ (hj : j < l.length), kL l[j] = x ∧ x ≠ []) := ⟨fun x hx => key_in l x (hS.mem_iff.1 (List.mem_mergeSort.1 hx))⟩
  have HT2 := Aside0.mk (HT0.out.later (below_step (below_alloc (Below.refl _ _) (.cells #[.map (some b)] 83)) hb2))
  have HC := Aside0.mk CS
  have hS9 : (ss.mergeSort leB).length ≤ 1000 := by
    rw [List.length_mergeSort, hS.length_eq]
    obtain ⟨es, he⟩ := dat_map l l.length
    rw [he] at hsz ⊢
    have e9 : (strKeys (DataW.map es)).length = Maps.size (DataW.map es) := by simp [strKeys, Maps.size]
    omega
  clear hS hrow hnil RS CS hcl hb2 HB0 HT0
  generalize hSL : ss.mergeSort leB = S at *
  go_wp2_with fail
  go_loopw [4, 14] (fun ov iv wr => ∃ (i : Nat) (acc : List Rc), iv = .int .i64 i ∧ i ≤ S.length ∧ Aside0 (acc = (S.take i).filterMap (pickV l)) ∧ Aside0 (Kd.R k32 32 wr w2.heap.size (fun _ => True) ov acc) ∧ Aside0 (Below w2.heap.size w2 wr)) (fun _ iv _ => S.length - (intOf iv).toNat)
  case atStart => exact ⟨0, [], rfl, Nat.zero_le _, ⟨rfl⟩, ⟨Kd.R_nil _ _ _ _ _⟩, ⟨Below.refl _ _⟩⟩
  case round =>
    obtain ⟨i, acc, rfl, hil, HA, R, HB⟩ := hrel
    by_cases hlt : i < S.length
    · obtain ⟨ad, c, hA, _, hK, hc⟩ := Kd.C_get (Kd.C_below HC.out HB.out) S[i] (i : Int) (by omega) (by omega)
      rw [Int.toNat_natCast] at hK hc
      have e0 : S.getD i S[i] = S[i] := by rw [List.getD_eq_getElem?_getD, List.getElem?_eq_getElem hlt]; rfl
      rw [e0] at hK
      obtain rfl : c = [encStr S[i]] := hK
      have hcell : wr.cell? (ad.add i) = some (encStr S[i]) := by
        have h9 := hc 0 _ rfl
        rw [show i * kStr.sz + 0 = i from by show i * 1 + 0 = i; omega] at h9
        exact h9
      obtain ⟨j, hj, hkj, hne⟩ := hkeys.out S[i] (List.getElem_mem hlt)
      have hnx : (S.take (i + 1)).filterMap (pickV l) = (S.take i).filterMap (pickV l) ++ (pickV l S[i]).toList := by
        rw [List.take_succ_eq_append_getElem hlt, List.filterMap_append]
        cases hp : pickV l S[i] <;> simp [hp]
      have HX := Aside0.mk hnx
      have hzx := HZ.out l[j] (List.getElem_mem hj)
      have hsx : (⟨S[i].toArray⟩ : ByteArray).size ≤ 1000 := by
        have : (⟨S[i].toArray⟩ : ByteArray).size = S[i].length := by simp [ByteArray.size]
        rw [this, ← hkj]
        unfold kL
        rw [← toList_data]
        exact hzx
      have htx : (⟨S[i].toArray⟩ : ByteArray).toList = S[i] := by rw [← toList_data]
      have hlook := (HT2.out.later HB.out).look (k := ⟨S[i].toArray⟩) (by rw [htx]; exact hne) hsx
      rw [htx] at hlook
      have hin := lastIx_in l S[i] l.length ⟨j, hj, by rw [List.getD_eq_getElem?_getD, List.getElem?_eq_getElem hj]; exact hkj⟩
      have hpk : Aside0 (pickV l S[i] = if (l.getD (lastIx l l.length S[i]).toNat z32).f4 = true then none else some (l.getD (lastIx l l.length S[i]).toNat z32)) := ⟨rfl⟩
      obtain ⟨q, hq⟩ : ∃ q : Nat, lastIx l l.length S[i] = (q : Int) := ⟨(lastIx l l.length S[i]).toNat, by omega⟩
      rw [hq] at hlook hin hpk
      rw [Int.toNat_natCast] at hpk
      have hql : q < l.length := by omega
      obtain ⟨ad2, hA2, hcs⟩ := at_rec (Kd.C_below HR.out (below_step HB1.out HB.out)) q hql hql
      have hcs' := Aside0.mk hcs
      have hg : l.getD q z32 = l[q] := by rw [List.getD_eq_getElem?_getD, List.getElem?_eq_getElem hql]; rfl
      rw [hg] at hpk
      subst hA
      subst hA2
      clear hcs hc e0 hkj hne hnx hzx hsx htx hq hin hg
      generalize pickV l S[i] = pk at *
      obtain ⟨x, hx⟩ : ∃ x, encStr S[i] = x := ⟨_, rfl⟩
      have hlook2 : (Instr.lookup 83 (.map (some b)) x false).run Try.prog wr = .ok (.int .i64 (q : Int)) wr := by rw [← hx]; exact hlook
      rw [hx] at hcell
      clear hx hlook
      obtain ⟨pr, hpr⟩ : ∃ pr, l[q] = pr := ⟨_, rfl⟩
      simp only [hpr] at hcs' hpk
      clear hpr
      obtain ⟨x0, x1, x2, x3, x4, x5, x6, x7⟩ := pr
      simp only [Rc.cs] at hcs' hpk
      have HBz := Aside0.mk HB.out.size
      have hacc : acc.length ≤ 1000 := by rw [HA.out]; exact Nat.le_trans (List.length_filterMap_le _ _) (Nat.le_trans (by rw [List.length_take]; omega) hS9)
      by_cases hx4 : x4 = false
      · subst hx4
        have HK := Aside0.mk (hpk.out.trans (if_neg (by simp)))
        go_wp2_with (first
          | ((with_reducible refine gate_dst (N := 23) rfl ?_); refine load_evm' (N := 23) rfl rfl rfl (cs := #[.int .i64 x0, .int .i64 x1, .string x2, .string x3, .bool false, .int .i64 x5, .int .i64 x6, .int .i64 x7]) rfl hcs'.out Try.underlying32 rfl (by kernel_rfl) ?_)
          | ((with_reducible refine gate_dst (N := 7) rfl ?_); refine box_event rfl (N := 7) rfl (cs := #[.int .i64 0, .int .i64 0, .string ⟨#[]⟩, .string ⟨#[]⟩, .bool false, .int .i64 0, .int .i64 0, .int .i64 0]) (t := 32) ?hr ?_; (case hr => first | (go_simp; done) | (go_simp; rfl)); intro g7 hg7 w3 hbx hbl; have n_HB := Aside0.mk (below_step HB.out hbl); have HX2 := Aside0.mk hbl; have G7 := Aside0.mk (show wr.heap.size ≤ g7 by rw [hg7]; exact Nat.le_refl _); have Y := Aside0.mk hbx; clear HB hbx hbl hg7; have HB := n_HB; clear n_HB)
          | ((with_reducible refine gate_store (t := 32) (p := 7) rfl ?_); refine store_ev rfl rfl rfl (cells := #[.int .i64 x0, .int .i64 x1, .string x2, .string x3, .bool false, .int .i64 x5, .int .i64 x6, .int .i64 x7]) rfl rfl Y.out (by kernel_rfl) rfl (by kernel_rfl) ?_; intro w4 hbx hgr; have n_R := Aside0.mk (recs_new R.out HX2.out hgr G7.out); have n_HB := Aside0.mk (below_put HB.out (Nat.le_trans HBz.out G7.out) hgr HB.out.size); have n_Y := Aside0.mk hbx; clear HB Y hbx hgr R HX2; have HB := n_HB; have Y := n_Y; have R := n_R; clear n_HB n_Y n_R; have y4 : w4.cell? ⟨g7, 4, none⟩ = some (.bool false) := (blk_cell Y.out 4).trans rfl)
          | ((with_reducible refine gate_dst (N := 28) rfl ?_); refine load_ev (N := 28) rfl rfl rfl (cs := #[.int .i64 x0, .int .i64 x1, .string x2, .string x3, .bool false, .int .i64 x5, .int .i64 x6, .int .i64 x7]) rfl Y.out Try.underlying32 rfl (by kernel_rfl) ?_)
          | ((with_reducible refine gate_builtin (b := .append) (xs := #[.tmp 27, .tmp 29]) rfl ?_); at_builtin; refine Kd.R_append k32 (w0 := w2) w2.heap.size rfl (.tmp 27) (.tmp 29) 22 32 (.agg #[.int .i64 0, .int .i64 0, .string ⟨#[]⟩, .string ⟨#[]⟩, .bool false, .int .i64 0, .int .i64 0, .int .i64 0]) 80 rfl Try.underlying22 info32 rfl (by decide) (by decide) _ acc ⟨x0, x1, x2, x3, false, x5, x6, x7⟩ [.int .i64 x0, .int .i64 x1, .string x2, .string x3, .bool false, .int .i64 x5, .int .i64 x6, .int .i64 x7] (fun _ => True) (fun _ => False) rfl ?aX (k32_mkM _ _ _ ⟨x0, x1, x2, x3, false, x5, x6, x7⟩) (fun _ hk => hk.elim) (fun _ _ => trivial) R.out HB.out HB.out.size ?aL ?_; (case aX => first | rfl | (go_simp; done) | (go_simp; rfl)); (case aL => omega); intro v1 w5 ho hb hgr hat; clear R HB hgr hat; have R := Aside0.mk ho; have HB := Aside0.mk hb; clear ho hb))
        try clear hlook2
        go_roundw
        case rel => exact ⟨i + 1, acc ++ [⟨x0, x1, x2, x3, false, x5, x6, x7⟩], by go_num, by omega, ⟨by rw [HX.out, HK.out, HA.out]; rfl⟩, R, HB⟩
        case measure => simp [intOf]; omega
      · have hx5 : x4 = true := by simpa using hx4
        clear hx4
        subst hx5
        have HK := Aside0.mk (hpk.out.trans (if_pos rfl))
        go_wp2_with (first
          | ((with_reducible refine gate_dst (N := 23) rfl ?_); refine load_evm' (N := 23) rfl rfl rfl (cs := #[.int .i64 x0, .int .i64 x1, .string x2, .string x3, .bool true, .int .i64 x5, .int .i64 x6, .int .i64 x7]) rfl hcs'.out Try.underlying32 rfl (by kernel_rfl) ?_)
          | ((with_reducible refine gate_dst (N := 7) rfl ?_); refine box_event rfl (N := 7) rfl (cs := #[.int .i64 0, .int .i64 0, .string ⟨#[]⟩, .string ⟨#[]⟩, .bool false, .int .i64 0, .int .i64 0, .int .i64 0]) (t := 32) ?hr ?_; (case hr => first | (go_simp; done) | (go_simp; rfl)); intro g7 hg7 w3 hbx hbl; have n_HB := Aside0.mk (below_step HB.out hbl); have HX2 := Aside0.mk hbl; have G7 := Aside0.mk (show wr.heap.size ≤ g7 by rw [hg7]; exact Nat.le_refl _); have Y := Aside0.mk hbx; clear HB hbx hbl hg7; have HB := n_HB; clear n_HB)
          | ((with_reducible refine gate_store (t := 32) (p := 7) rfl ?_); refine store_ev rfl rfl rfl (cells := #[.int .i64 x0, .int .i64 x1, .string x2, .string x3, .bool true, .int .i64 x5, .int .i64 x6, .int .i64 x7]) rfl rfl Y.out (by kernel_rfl) rfl (by kernel_rfl) ?_; intro w4 hbx hgr; have n_R := Aside0.mk (recs_new R.out HX2.out hgr G7.out); have n_HB := Aside0.mk (below_put HB.out (Nat.le_trans HBz.out G7.out) hgr HB.out.size); have n_Y := Aside0.mk hbx; clear HB Y hbx hgr R HX2; have HB := n_HB; have Y := n_Y; have R := n_R; clear n_HB n_Y n_R; have y4 : w4.cell? ⟨g7, 4, none⟩ = some (.bool true) := (blk_cell Y.out 4).trans rfl))
        try clear hlook2
        go_roundw
        case rel => exact ⟨i + 1, acc, by go_num, by omega, ⟨by rw [HX.out, HK.out, HA.out]; simp⟩, R, HB⟩
        case measure => simp [intOf]; omega
    · obtain rfl : i = S.length := by omega
      go_wp2_with fail
      refine bodyPost_ret (results_tmp rfl _ _ _) rfl ?_
      refine ⟨_, ss, rfl, HSS.out, ?_, below_step HB1.out HB.out⟩
      have e := HA.out
      rw [List.take_length] at e
      rw [hSL, ← e]
      exact Kd.R_lower R.out HB1.out.size
end Go.Proofs.Ytgojaomldkgojaa.Cm
