import Derived.Test.YtohhlkabejangaaAs14
namespace Go.Proofs.Ytohhlkabejangaa.As
open Go.RowKit Go.Maps Go.Sort Go.ChangeShapes Go.Proofs.YtohhlkabejangaaW.PrintWords Go.Proofs.YtohhlkabejangaaW.PrintLast Go.Proofs.YtohhlkabejangaaW.PrintMore Go.Proofs.Ytohhlkabejangaa.PAs
set_option linter.unusedVariables false
set_option linter.unusedSimpArgs false
/-! ### each partition is just one member's -/
theorem ofRR_calls (A : Option Addr) (c : Nat) (l : List ByteArray) (n : Int) (s : ByteArray) (hs : s.size ≤ 1000) (w : World) (hA : Kd.C Kd.string w A l.length l) (hl : l.length ≤ 1000) (hz : ∀ s ∈ l, s.size ≤ 1000) :
    Calls Try.prog 19 #[.slice A l.length c, .int .i64 n, .string s] w fun e w' => ∃ v, e = .returned (.tuple #[v, .int .i64 (errOf l n s.toList)]) ∧ Kd.R (Kd.int .i64) 3 w' w.heap.size (fun _ => True) v (ofR l n s.toList) ∧ Below w.heap.size w w' :=
  off_calls A c l n s hs w hA hl hz
/-- the partitions that have been met: of the first k members -/
def metL (l : List ByteArray) (n k : Nat) : List Int := (l.take k).flatMap (fun m => ofL l n m.toList)
theorem metL_succ (l : List ByteArray) (n k : Nat) (hk : k < l.length) : metL l n (k + 1) = metL l n k ++ ofL l n l[k].toList := by
  unfold metL
  rw [List.take_add_one, List.getElem?_eq_getElem hk, List.flatMap_append]
  simp
theorem in_of_mem (l : List ByteArray) (m : ByteArray) (h : m ∈ l) : isIn l m.toList = true := by
  unfold isIn
  rw [List.contains_iff_mem]
  exact List.mem_map_of_mem h
theorem metL_nodup (l : List ByteArray) (hw : wrongL l = 0) (n : Nat) : ∀ k, k ≤ l.length → (metL l n k).Nodup
  | 0, _ => by simp [metL]
  | k + 1, hk => by
    rw [metL_succ l n k (by omega), List.nodup_append]
    refine ⟨metL_nodup l hw n k (by omega), ofL_nodup _ _ _, ?_⟩
    intro a ha b hb e
    subst e
    unfold metL at ha
    obtain ⟨m, hm, hma⟩ := List.mem_flatMap.1 ha
    obtain ⟨i, hi, rfl⟩ := List.getElem_of_mem hm
    rw [List.length_take] at hi
    rw [List.getElem_take] at hma
    have he := ofL_apart l hw n _ _ (in_of_mem l _ (List.getElem_mem (by omega))) (in_of_mem l _ (List.getElem_mem (by omega))) a hma hb
    have he2 := toList_inj he
    have hnd := (nodup_str l).1 (wrong_nodup hw)
    rw [List.Nodup, List.pairwise_iff_getElem] at hnd
    exact hnd i k (by omega) (by omega) (by omega) he2
theorem metL_all (l : List ByteArray) (hw : wrongL l = 0) (h0 : 0 < l.length) (n : Nat) (p : Nat) (hp : p < n) : (metL l n l.length).count (p : Int) = 1 := by
  have hn := metL_nodup l hw n l.length (Nat.le_refl _)
  rw [hn.count, if_pos]
  obtain ⟨x, hx, hpx⟩ := ofL_some l hw h0 n p (by omega) (by omega)
  unfold metL
  rw [List.take_length]
  obtain ⟨m, hm, e⟩ := List.mem_map.1 (List.contains_iff_mem.1 hx)
  exact List.mem_flatMap.2 ⟨m, hm, by rw [e]; exact hpx⟩
theorem metL_short (l : List ByteArray) (hw : wrongL l = 0) (n : Nat) (p : Int) (k : Nat) (hk : k ≤ l.length) : (metL l n k).count p ≤ 1 := by
  have hn := metL_nodup l hw n k hk
  rw [hn.count]
  split <;> omega
/-- how often each partition has been met -/
def cntP (n : Nat) (ps : List Int) : List Int := (List.range n).map (fun (p : Nat) => ((ps.count (p : Int) : Nat) : Int))
theorem cntP_length (n : Nat) (ps : List Int) : (cntP n ps).length = n := by simp [cntP]
theorem cntP_at (n : Nat) (ps : List Int) (p : Nat) (hp : p < n) : (cntP n ps)[p]'(by rw [cntP_length]; exact hp) = ((ps.count (p : Int) : Nat) : Int) := by simp [cntP]
theorem cntP_set (n : Nat) (ps : List Int) (p : Nat) (hp : p < n) : (cntP n ps).set p (((ps.count (p : Int) : Nat) : Int) + 1) = cntP n (ps ++ [(p : Int)]) := by
  apply List.ext_getElem
  · simp [cntP]
  · intro i h1 h2
    have hi : i < n := by rw [cntP_length] at h2; exact h2
    rw [List.getElem_set, cntP_at n (ps ++ [(p : Int)]) i hi, List.count_append]
    by_cases e : p = i
    · subst e
      rw [if_pos rfl]
      simp
    · rw [if_neg e, cntP_at n ps i hi]
      have : [(p : Int)].count (i : Int) = 0 := by
        rw [List.count_eq_zero]
        intro h
        have := List.mem_singleton.1 h
        omega
      rw [this, Nat.add_zero]
theorem cntP_nil (n : Nat) : cntP n [] = List.replicate n 0 := by
  unfold cntP
  apply List.ext_getElem
  · simp
  · intro i h1 h2
    simp
theorem made_cnt (n : Nat) : madeCells #[Value.int .i64 0] n = ((cntP n []).map (Value.int .i64)).toArray := by
  apply Array.ext
  · simp [madeCells, cntP]
  · intro i h1 h2
    simp [madeCells, cntP, Nat.mod_one]
theorem cells_put (zs : List Int) (p : Nat) (v : Int) : ((zs.map (Value.int .i64)).toArray.setIfInBounds p (.int .i64 v)) = ((zs.set p v).map (Value.int .i64)).toArray := by
  simp
theorem own_self (l : List ByteArray) (hw : wrongL l = 0) (n : Nat) (m : ByteArray) (hm : m ∈ l) (p : Int) (hp : p ∈ ofL l n m.toList) {s : ByteArray} {z : Int} (h : OwnP l n p s z) : s = m ∧ z = 0 := by
  rcases h with ⟨rfl, h1, h2⟩ | ⟨_, _, h1⟩
  · exact ⟨toList_inj (ofL_apart l hw n _ _ h1 (in_of_mem l m hm) p h2 hp), rfl⟩
  · exact (h1 _ (in_of_mem l m hm) hp).elim
theorem own_none (l : List ByteArray) (n : Nat) {s : ByteArray} {z : Int} (h : OwnP l n (n : Int) s z) : s = ⟨#[]⟩ ∧ z = 6 := by
  rcases h with ⟨rfl, h1, h2⟩ | ⟨h1, h2, _⟩
  · have := ofL_range l n _ _ h2
    omega
  · exact ⟨h2, h1⟩
set_option maxHeartbeats 16000000 in
set_option maxRecDepth 100000 in
theorem parts_out (l : List ByteArray) (A : Option Addr) (n k : Nat) (parts : Int) (w : World) (hp : Ss k w A n l) (h : largeB l = true) :
    Calls Try.prog 4 #[.slice A n k, .int .i64 parts] w fun e w' => e = .returned (.bool true) ∧ Below w.heap.size w w' := by
  have hund : ∀ b, some undef = some (Value.bool b) → False := fun b h => by simp [undef] at h
  obtain ⟨rfl, hnk, hC⟩ := hp
  have hlg := Aside0.mk (large_calls A k l w hC hnk)
  clear hC
  rw [h] at hlg
  go_enter Try.func4, Try.ntmps4
  go_wp2_with fail
  refine hlg.out.mono ?_
  rintro e w1 ⟨rfl, hb⟩
  have HB := Aside0.mk hb
  clear hb hlg
  go_wp2_with fail
  refine (three_calls w1).mono ?_
  rintro e wz ⟨rfl, hb⟩
  have HZ := Aside0.mk (below_step HB.out hb)
  clear hb HB
  go_wp2_with fail
  go_ret
  exact ⟨rfl, HZ.out⟩
set_option maxHeartbeats 16000000 in
set_option maxRecDepth 100000 in
theorem parts_bad (l : List ByteArray) (A : Option Addr) (n k : Nat) (parts : Int) (w : World) (hp : Ss k w A n l) (h : largeB l = false) (he : errA l parts ≠ 0 ∨ l.length = 0) :
    Calls Try.prog 4 #[.slice A n k, .int .i64 parts] w fun e w' => e = .returned (.bool true) ∧ Below w.heap.size w w' := by
  have hund : ∀ b, some undef = some (Value.bool b) → False := fun b h => by simp [undef] at h
  obtain ⟨rfl, hnk, hC⟩ := hp
  have hlg := Aside0.mk (large_calls A k l w hC hnk)
  rw [h] at hlg
  obtain ⟨hl20, hz⟩ := large_no h
  have hl : l.length ≤ 1000 := by omega
  have HZ := Aside0.mk (fun s hs => Nat.le_trans (hz s hs) (by omega) : ∀ s ∈ l, s.size ≤ 1000)
  have HC := Aside0.mk hC
  have hwr := Aside0.mk (fun W (hb : Below w.heap.size w W) => rwrong_calls A k l hl HZ.out hnk W (Kd.C_below HC.out hb))
  have hcase : wrongL l ≠ 0 ∨ wrongL l = 0 ∧ (parts < 0 ∨ ¬ parts < 0 ∧ (parts > 4 ∨ ¬ parts > 4 ∧ l.length = 0)) := by
    by_cases h9 : wrongL l = 0
    · by_cases h1 : parts < 0
      · exact .inr ⟨h9, .inl h1⟩
      · by_cases h2 : parts > 4
        · exact .inr ⟨h9, .inr ⟨h1, .inl h2⟩⟩
        · rcases he with he | he
          · exact (he (errA_of h9 (by omega) (by omega))).elim
          · exact .inr ⟨h9, .inr ⟨h1, .inr ⟨h2, he⟩⟩⟩
    · exact .inl h9
  clear he hz h hC
  rcases hcase with h1 | ⟨h1, h2 | ⟨h2, h3 | ⟨h3, h4⟩⟩⟩
  · obtain ⟨g, hg⟩ : ∃ g, wrongL l = g := ⟨_, rfl⟩
    rw [hg] at h1
    simp only [hg] at hwr
    clear hg
    have d1 : (g != 0) = true := by simpa using h1
    clear h1
    go_enter Try.func4, Try.ntmps4
    go_wp2_with fail
    refine hlg.out.mono ?_
    rintro e w1 ⟨rfl, hb⟩
    have HB := Aside0.mk hb
    clear hb hlg
    go_wp2_with fail
    refine (hwr.out w1 HB.out).mono ?_
    rintro e w2 ⟨rfl, hb⟩
    have n_B := Aside0.mk (below_step HB.out hb)
    clear hb HB
    have HB := n_B
    clear n_B hwr
    go_wp2_with fail
    refine (three_calls w2).mono ?_
    rintro e wz ⟨rfl, hb⟩
    have HZ := Aside0.mk (below_step HB.out hb)
    clear hb HB
    go_wp2_with fail
    go_ret
    exact ⟨rfl, HZ.out⟩
  · simp only [h1] at hwr
    have d1 : decide (parts < 0) = true := decide_eq_true h2
    clear h1 h2
    go_enter Try.func4, Try.ntmps4
    go_wp2_with fail
    refine hlg.out.mono ?_
    rintro e w1 ⟨rfl, hb⟩
    have HB := Aside0.mk hb
    clear hb hlg
    go_wp2_with fail
    refine (hwr.out w1 HB.out).mono ?_
    rintro e w2 ⟨rfl, hb⟩
    have n_B := Aside0.mk (below_step HB.out hb)
    clear hb HB
    have HB := n_B
    clear n_B hwr
    go_wp2_with fail
    refine (three_calls w2).mono ?_
    rintro e wz ⟨rfl, hb⟩
    have HZ := Aside0.mk (below_step HB.out hb)
    clear hb HB
    go_wp2_with fail
    go_ret
    exact ⟨rfl, HZ.out⟩
  · simp only [h1] at hwr
    have d1 : decide (parts < 0) = false := decide_eq_false h2
    have d2 : decide (parts > 4) = true := decide_eq_true h3
    have d3 : decide (4 < parts) = true := decide_eq_true h3
    clear h1 h2 h3
    go_enter Try.func4, Try.ntmps4
    go_wp2_with fail
    refine hlg.out.mono ?_
    rintro e w1 ⟨rfl, hb⟩
    have HB := Aside0.mk hb
    clear hb hlg
    go_wp2_with fail
    refine (hwr.out w1 HB.out).mono ?_
    rintro e w2 ⟨rfl, hb⟩
    have n_B := Aside0.mk (below_step HB.out hb)
    clear hb HB
    have HB := n_B
    clear n_B hwr
    go_wp2_with fail
    refine (three_calls w2).mono ?_
    rintro e wz ⟨rfl, hb⟩
    have HZ := Aside0.mk (below_step HB.out hb)
    clear hb HB
    go_wp2_with fail
    go_ret
    exact ⟨rfl, HZ.out⟩
  · simp only [h1] at hwr
    have d1 : decide (parts < 0) = false := decide_eq_false h2
    have d2 : decide (parts > 4) = false := decide_eq_false h3
    have d3 : decide (4 < parts) = false := decide_eq_false h3
    have d4 : ((l.length : Int) == 0) = true := by rw [h4]; rfl
    clear h1 h2 h3 h4
    go_enter Try.func4, Try.ntmps4
    go_wp2_with fail
    refine hlg.out.mono ?_
    rintro e w1 ⟨rfl, hb⟩
    have HB := Aside0.mk hb
    clear hb hlg
    go_wp2_with fail
    refine (hwr.out w1 HB.out).mono ?_
    rintro e w2 ⟨rfl, hb⟩
    have n_B := Aside0.mk (below_step HB.out hb)
    clear hb HB
    have HB := n_B
    clear n_B hwr
    go_wp2_with fail
    refine (three_calls w2).mono ?_
    rintro e wz ⟨rfl, hb⟩
    have HZ := Aside0.mk (below_step HB.out hb)
    clear hb HB
    go_wp2_with fail
    go_ret
    exact ⟨rfl, HZ.out⟩
set_option maxHeartbeats 16000000 in
set_option maxRecDepth 100000 in
theorem parts_in (l : List ByteArray) (A : Option Addr) (n k : Nat) (parts : Nat) (w : World) (hp : Ss k w A n l) (h : largeB l = false) (h0 : 0 < l.length) (he : errA l parts = 0) :
    Calls Try.prog 4 #[.slice A n k, .int .i64 (parts : Int)] w fun e w' => e = .returned (.bool true) ∧ Below w.heap.size w w' := by
  have hund : ∀ b, some undef = some (Value.bool b) → False := fun b h => by simp [undef] at h
  obtain ⟨rfl, hnk, hC⟩ := hp
  have hlg := Aside0.mk (large_calls A k l w hC hnk)
  rw [h] at hlg
  obtain ⟨hl20, hz⟩ := large_no h
  obtain ⟨hw0, _, hp4⟩ := errA_zero he
  have hl : l.length ≤ 1000 := by omega
  have HZ := Aside0.mk (fun s hs => Nat.le_trans (hz s hs) (by omega) : ∀ s ∈ l, s.size ≤ 1000)
  have HC := Aside0.mk hC
  have c3 : decide ((parts : Int) < 0) = false := decide_eq_false (by omega)
  have c4 : decide ((parts : Int) > 4) = false := decide_eq_false (by omega)
  have c5 : decide (4 < (parts : Int)) = false := decide_eq_false (by omega)
  have c6 : ((l.length : Int) == 0) = false := beq_eq_false_iff_ne.2 (by omega)
  have hwr := Aside0.mk (fun W (hb : Below w.heap.size w W) => rwrong_calls A k l hl HZ.out hnk W (Kd.C_below HC.out hb))
  simp only [hw0] at hwr
  have hof := Aside0.mk (fun (m : ByteArray) (hm : m ∈ l) W (hb : Below w.heap.size w W) => ofRR_calls A k l parts m (HZ.out m hm) W (Kd.C_below HC.out hb) hl HZ.out)
  have how := Aside0.mk (fun (p : Int) W (hb : Below w.heap.size w W) => ownerf_calls A k l parts p W (Kd.C_below HC.out hb) hl HZ.out hw0 (by omega))
  have HO := Aside0.mk (fun m hm => ⟨by rw [errOf_in he, if_pos (in_of_mem l m hm)], by rw [ofR_in he, if_pos (in_of_mem l m hm)]⟩ : ∀ m ∈ l, errOf l parts m.toList = 0 ∧ ofR l parts m.toList = ofL l parts m.toList)
  have HLN := Aside0.mk (fun (m : ByteArray) (hm : m ∈ l) => ofL_len l hw0 parts m.toList (in_of_mem l m hm))
  have HSM := Aside0.mk (fun x => Nat.le_trans (ofL_none l parts x) (by omega) : ∀ x, (ofL l parts x).length ≤ 4)
  have hq4 : parts / l.length ≤ parts := Nat.div_le_self _ _
  have HW0 := Aside0.mk hw0
  have HPOS := Aside0.mk h0
  generalize parts / l.length = qq at *
  have hmk := print_make (P := Try.prog) 29 3 .i64 8 Try.underlying29 infoI (by decide) parts (by omega)
  clear he hz h hw0 h0
  go_enter Try.func4, Try.ntmps4
  go_wp2_with fail
  refine hlg.out.mono ?_
  rintro e w1 ⟨rfl, hb⟩
  have HB := Aside0.mk hb
  clear hb hlg
  go_wp2_with fail
  refine (hwr.out w1 HB.out).mono ?_
  rintro e w2 ⟨rfl, hb⟩
  have n_B := Aside0.mk (below_step HB.out hb)
  clear hb HB
  have HB := n_B
  clear n_B hwr
  go_wp2_with fail
  obtain ⟨g, hg⟩ : ∃ g, w2.heap.size = g := ⟨_, rfl⟩
  obtain ⟨w3, hw3⟩ : ∃ W, w2.alloc (.cells (madeCells #[.int .i64 0] parts) 3) = W := ⟨_, rfl⟩
  have HK := Aside0.mk (show w3.heap[g]? = some (.cells ((cntP parts []).map (Value.int .i64)).toArray 3 (0, 0)) by rw [← hw3, ← hg, ← made_cnt]; exact blk_new w2 _)
  have n_B := Aside0.mk (show Below w.heap.size w w3 by rw [← hw3]; exact below_alloc HB.out _)
  have HGE := Aside0.mk (show w.heap.size ≤ g by rw [← hg]; exact HB.out.size)
  rw [hw3]
  simp only [hg]
  clear HB hw3 hmk hg
  have HB := n_B
  clear n_B
  go_loopw [6, 7, 46] (fun lv mv iv wr => ∃ (j lo hi : Nat), j ≤ l.length ∧ iv = .int .i64 j ∧ lv = .int .i64 lo ∧ mv = .int .i64 hi ∧ qq ≤ lo ∧ lo ≤ 4 ∧ hi ≤ qq + 1 ∧ Aside0 (Below w.heap.size w wr) ∧ Aside0 (wr.heap[g]? = some (.cells ((cntP parts (metL l parts j)).map (Value.int .i64)).toArray 3 (0, 0)))) (fun _ _ iv _ => l.length - (intOf iv).toNat)
  case atStart => exact ⟨0, parts, 0, Nat.zero_le _, rfl, rfl, rfl, hq4, by omega, by omega, HB, ⟨HK.out⟩⟩
  case round =>
    clear HB HK
    obtain ⟨j, lo, hi_, hj, rfl, rfl, rfl, hlo, hlo4, hhi, HB, HK⟩ := hrel
    by_cases hjl : j < l.length
    · obtain ⟨ad, rfl, hx⟩ := Kd.at_string (Kd.C_below HC.out HB.out) (j : Int) (by omega) (by omega)
      rw [rd_at l j hjl, Int.toNat_natCast] at hx
      have hmem : l[j] ∈ l := List.getElem_mem hjl
      have HMS := Aside0.mk (metL_succ l parts j hjl)
      obtain ⟨x, hxe⟩ : ∃ x, l[j] = x := ⟨_, rfl⟩
      rw [hxe] at hx hmem HMS
      have HMEM := Aside0.mk hmem
      have k1 : decide ((j : Int) < (l.length : Int)) = true := decide_eq_true (by omega)
      have k2 : (0 ≤ (j : Int)) = True := eq_true (by omega)
      have k3 : ((j : Int) < (l.length : Int)) = True := eq_true (by omega)
      have hln := HLN.out x hmem
      have hsm := HSM.out x.toList
      clear hxe hmem
      go_wp2_with fail
      refine (hof.out x HMEM.out wr HB.out).mono ?_
      rw [(HO.out x HMEM.out).1, (HO.out x HMEM.out).2]
      rintro e w6 ⟨v6, rfl, hR6, hb⟩
      obtain ⟨A1, c6, rfl, hc6, hC6⟩ := Kd.R_reads hR6
      have HR6 := Aside0.mk hR6
      have HGW := Aside0.mk (show g < wr.heap.size from blk_lt HK.out)
      have n_K := Aside0.mk ((hb.block g HGW.out).trans HK.out)
      have n_B := Aside0.mk (below_step HB.out hb)
      clear hR6 hC6 hb HK HB
      have HK := n_K
      have HB := n_B
      clear n_K n_B
      have HMM := Aside0.mk (fun p hp => own_self l HW0.out parts x HMEM.out p hp : ∀ p ∈ ofL l parts x.toList, ∀ {s : ByteArray} {z : Int}, OwnP l parts p s z → s = x ∧ z = 0)
      have HRG := Aside0.mk (fun p hp => ofL_range l parts x.toList p hp)
      have HCT := Aside0.mk (fun p => metL_short l HW0.out parts p j hj)
      generalize hzs : ofL l parts x.toList = zs at *
      clear hzs
      obtain ⟨lo2, e1, hlo2⟩ : ∃ z : Nat, min (lo : Int) (zs.length : Int) = (z : Int) ∧ (qq ≤ z ∧ z ≤ 4) := ⟨min lo zs.length, by omega, by omega⟩
      obtain ⟨hi2, e2, hhi2⟩ : ∃ z : Nat, max (hi_ : Int) (zs.length : Int) = (z : Int) ∧ z ≤ qq + 1 := ⟨max hi_ zs.length, by omega, by omega⟩
      clear hln hlo hlo4 hhi
      go_wp2_with fail
      obtain ⟨B5, hB5⟩ : ∃ B, wr.heap.size = B := ⟨_, rfl⟩
      rw [hB5] at HR6 HGW
      clear hB5
      go_loopw [69] (fun iv W => ∃ i : Nat, i ≤ zs.length ∧ iv = .int .i64 i ∧ Aside0 (Below w.heap.size w W) ∧ Aside0 (W.heap[g]? = some (.cells ((cntP parts (metL l parts j ++ zs.take i)).map (Value.int .i64)).toArray 3 (0, 0))) ∧ Aside0 (Kd.R (Kd.int .i64) 3 W B5 (fun _ => True) (.slice A1 zs.length c6) zs)) (fun iv _ => zs.length - (intOf iv).toNat)
      case atStart => exact ⟨0, Nat.zero_le _, rfl, HB, ⟨by rw [List.take_zero, List.append_nil]; exact HK.out⟩, HR6⟩
      case round =>
        clear HB HK HR6
        obtain ⟨i, hi, rfl, HB, HK, HR⟩ := hrel
        by_cases hil : i < zs.length
        · obtain ⟨_, _, hC⟩ := Kd.R_reads' HR.out
          obtain ⟨ad2, hA1, hx⟩ := Kd.at_int hC (i : Int) (by omega) (by omega)
          subst hA1
          rw [rd_int zs i hil, Int.toNat_natCast] at hx
          have hpm : zs[i] ∈ zs := List.getElem_mem hil
          obtain ⟨hp0, hp1⟩ := HRG.out zs[i] hpm
          have htk : zs.take (i + 1) = zs.take i ++ [zs[i]] := by rw [List.take_add_one, List.getElem?_eq_getElem hil]; rfl
          obtain ⟨p, hpe⟩ : ∃ p : Nat, zs[i] = (p : Int) := ⟨zs[i].toNat, by omega⟩
          rw [hpe] at hx hpm hp1 htk
          have HTK := Aside0.mk htk
          have HPM := Aside0.mk hpm
          have hpp : p < parts := by omega
          clear hpe htk hpm hp0 hC
          have k1 : decide ((i : Int) < (zs.length : Int)) = true := decide_eq_true (by omega)
          have k2 : (0 ≤ (i : Int)) = True := eq_true (by omega)
          have k3 : ((i : Int) < (zs.length : Int)) = True := eq_true (by omega)
          go_wp2_with fail
          refine (how.out (p : Int) wr HB.out).mono ?_
          rintro e w7 ⟨s, z, rfl, hP, hb⟩
          obtain ⟨rfl, rfl⟩ := HMM.out (p : Int) HPM.out hP
          have n_K := Aside0.mk ((hb.block g (blk_lt HK.out)).trans HK.out)
          have n_B := Aside0.mk (below_step HB.out hb)
          have n_R := Aside0.mk (Kd.R_below HR.out hb)
          clear hb HK HB HR hP
          have HK := n_K
          have HB := n_B
          have HR := n_R
          clear n_K n_B n_R
          have k4 : (s.toList != s.toList) = false := by simp
          have k5 : decide ((p : Int) < 0) = false := decide_eq_false (by omega)
          have k6 : decide ((p : Int) ≥ (parts : Int)) = false := decide_eq_false (by omega)
          have k7 : decide ((parts : Int) ≤ (p : Int)) = false := decide_eq_false (by omega)
          have k8 : (0 ≤ (p : Int)) = True := eq_true (by omega)
          have k9 : ((p : Int) < (parts : Int)) = True := eq_true (by omega)
          obtain ⟨cI, hcI⟩ : ∃ c : Int, (((metL l parts j ++ zs.take i).count (p : Int) : Nat) : Int) = c := ⟨_, rfl⟩
          have hcell : w7.cell? ⟨g, p, none⟩ = some (.int .i64 cI) := by
            rw [blk_cell HK.out p, ← hcI]
            rw [List.getElem?_toArray, List.getElem?_map, List.getElem?_eq_getElem (by rw [cntP_length]; exact hpp), cntP_at _ _ _ hpp]
            rfl
          have hfz : w7.frozen? ⟨g, p, none⟩ = false := blk_frozen HK.out p
          have hcb : 0 ≤ cI ∧ cI ≤ 100 := by
            have h1 := HCT.out (p : Int)
            have h2 : (zs.take i).count (p : Int) ≤ (zs.take i).length := List.count_le_length
            rw [List.length_take] at h2
            rw [List.count_append] at hcI
            omega
          have HCI := Aside0.mk hcI
          have hwr1 : wrap64 (cI + 1) = cI + 1 := w64 _ (by omega) (by omega)
          have hwr2 : IntKind.i64.wrap (cI + 1) = cI + 1 := IntWalk.i64_in _ (by omega)
          clear hcI hcb
          go_wp2_with fail
          have hset : ((cntP parts (metL l parts j ++ zs.take i)).map (Value.int .i64)).toArray.setIfInBounds p (.int .i64 (cI + 1)) = ((cntP parts (metL l parts j ++ zs.take (i + 1))).map (Value.int .i64)).toArray := by
            rw [cells_put, ← HCI.out, cntP_set _ _ _ hpp, HTK.out, List.append_assoc]
          have n_K := Aside0.mk (blk_put HK.out p (.int .i64 (cI + 1)) hset)
          have n_B := Aside0.mk (below_set HB.out HGE.out : Below w.heap.size w (w7.setCell ⟨g, p, none⟩ (.int .i64 (cI + 1))))
          have n_R := Aside0.mk (Kd.R_mono (Kd.R_far (Kd.R_bound HR.out) (p := ⟨g, p, none⟩) (fun k hk => by have := hk.2.1; have := HGW.out; show k ≠ g; omega) (.int .i64 (cI + 1))) (fun _ _ => trivial))
          clear HK HB HR
          go_roundw
          case rel => exact ⟨i + 1, by omega, by first | rfl | simp, n_B, n_K, n_R⟩
          case measure => simp [intOf]; omega
        · obtain rfl : i = zs.length := by omega
          have k1 : decide ((zs.length : Int) < (zs.length : Int)) = false := decide_eq_false (by omega)
          go_wp2_with fail
          go_roundw
          case rel => exact ⟨j + 1, lo2, hi2, by omega, by first | rfl | simp, rfl, rfl, hlo2.1, hlo2.2, hhi2, HB, ⟨by have := HK.out; rw [List.take_length, ← HMS.out] at this; exact this⟩⟩
          case measure => simp [intOf]; omega
    · obtain rfl : j = l.length := by omega
      have k1 : decide ((l.length : Int) < (l.length : Int)) = false := decide_eq_false (by omega)
      have HALL := Aside0.mk (fun p hp => metL_all l HW0.out HPOS.out parts p hp)
      go_wp2_with fail
      go_loopw [108] (fun iv W => ∃ i : Nat, i ≤ parts ∧ iv = .int .i64 i ∧ Aside0 (Below w.heap.size w W) ∧ Aside0 (W.heap[g]? = some (.cells ((cntP parts (metL l parts l.length)).map (Value.int .i64)).toArray 3 (0, 0)))) (fun iv _ => parts - (intOf iv).toNat)
      case atStart => exact ⟨0, Nat.zero_le _, rfl, HB, HK⟩
      case round =>
        clear HB HK
        obtain ⟨i, hi, rfl, HB, HK⟩ := hrel
        by_cases hil : i < parts
        · have hcell : wr.cell? ⟨g, i, none⟩ = some (.int .i64 1) := by
            rw [blk_cell HK.out i, List.getElem?_toArray, List.getElem?_map, List.getElem?_eq_getElem (by rw [cntP_length]; exact hil), cntP_at _ _ _ hil, HALL.out i hil]
            rfl
          have k1 : decide ((i : Int) < (parts : Int)) = true := decide_eq_true (by omega)
          have k2 : (0 ≤ (i : Int)) = True := eq_true (by omega)
          have k3 : ((i : Int) < (parts : Int)) = True := eq_true (by omega)
          go_wp2_with fail
          go_roundw
          case rel => exact ⟨i + 1, by omega, by first | rfl | simp, HB, HK⟩
          case measure => simp [intOf]; omega
        · obtain rfl : i = parts := by omega
          have k1 : decide ((i : Int) < (i : Int)) = false := decide_eq_false (by omega)
          go_wp2_with fail
          refine (how.out (i : Int) wr HB.out).mono ?_
          rintro e w7 ⟨s, z, rfl, hP, hb⟩
          obtain ⟨rfl, rfl⟩ := own_none l i hP
          have HB7 := Aside0.mk (below_step HB.out hb)
          clear hb HB hP HK how hof
          have hem : ((⟨#[]⟩ : ByteArray).toList == ([] : List UInt8)) = true := by rw [str_toList]; rfl
          have hsw1 : wrap64 ((hi_ : Int) - (lo : Int)) = (hi_ : Int) - (lo : Int) := w64 _ (by omega) (by omega)
          have hsw2 : IntKind.i64.wrap ((hi_ : Int) - (lo : Int)) = (hi_ : Int) - (lo : Int) := IntWalk.i64_in _ (by omega)
          have hsl : decide ((hi_ : Int) - (lo : Int) ≤ 1) = true := decide_eq_true (by omega)
          go_wp2_with fail
          refine (three_calls w7).mono ?_
          rintro e w9 ⟨rfl, hb⟩
          have HB9 := Aside0.mk (below_step HB7.out hb)
          clear hb HB7
          go_wp2_with fail
          go_ret
          exact ⟨rfl, HB9.out⟩
theorem parts_calls (l : List ByteArray) (A : Option Addr) (n k : Nat) (parts : Int) (w : World) (hp : Ss k w A n l) :
    Calls Try.prog 4 #[.slice A n k, .int .i64 parts] w fun e w' => e = .returned (.bool true) ∧ Below w.heap.size w w' := by
  cases hbig : largeB l with
  | true => exact parts_out l A n k parts w hp hbig
  | false =>
    by_cases he : errA l parts ≠ 0 ∨ l.length = 0
    · exact parts_bad l A n k parts w hp hbig he
    · have he1 : errA l parts = 0 := Classical.byContradiction fun h => he (.inl h)
      obtain ⟨_, h0, h4⟩ := errA_zero he1
      obtain ⟨m, rfl⟩ : ∃ m : Nat, parts = m := ⟨parts.toNat, by omega⟩
      exact parts_in l A n k m w hp hbig (Nat.pos_of_ne_zero fun h => he (.inr h)) he1
end Go.Proofs.Ytohhlkabejangaa.As
