import Derived.Test.YtohhlkabejangaaMb2
namespace Go.Proofs.Ytohhlkabejangaa.Mb
set_option linter.unusedVariables false
set_option linter.unusedSimpArgs false
open Go.RowKit Go.Maps Go.Sort Go.Proofs.YtohhlkabejangaaW.PrintWords Go.Proofs.YtohhlkabejangaaW.PrintLast Go.Proofs.YtohhlkabejangaaW.PrintMore Go.Proofs.Ytohhlkabejangaa.PAs Go.Proofs.Ytohhlkabejangaa.As
def begB (m : MG) (x : ByteArray) (slot : Int) : Bool := nameB x && okS m slot
def begM (m : MG) (x : ByteArray) (slot : Int) : MG := if begB m x slot = true then sweepM m slot else m
theorem okM_beg {m : MG} (h : okM m) (x : ByteArray) (slot : Int) : okM (begM m x slot) := by
  unfold begM
  split
  · rename_i hb
    unfold begB at hb
    rw [Bool.and_eq_true] at hb
    exact okM_sweep h hb.2
  · exact h
set_option maxHeartbeats 16000000 in
set_option maxRecDepth 100000 in
theorem begin_calls (a b : Nat) (m : MG) (x : ByteArray) (slot : Int) (hx : x.size ≤ 1000) (w : World) (hT : Tab w a b m) (hok : okM m) (hg : m.g ≤ 1000000) :
    Calls Try.prog 87 #[.pointer (some ⟨a, 0, none⟩), .string x, .int .i64 slot] w fun e w' => e = .returned (.int .i64 (if begB m x slot = true then 0 else 1)) ∧ Tab w' a b (begM m x slot) ∧ Far w w' a b := by
  have hund : ∀ b, some undef = some (Value.bool b) → False := fun b h => by simp [undef] at h
  have hname := Aside0.mk (topic_Name.calls 20 x (nameB x) w (name_eq x (by omega) 20 (Nat.le_refl _)))
  have HT := Aside0.mk hT
  have HOK := Aside0.mk hok
  have hmay := Aside0.mk (fun W (k : Below w.heap.size w W) => may_calls a b m slot W (hT.later k))
  clear hT hok
  cases hn : nameB x with
  | false =>
    have hb : begB m x slot = false := by unfold begB; rw [hn]; rfl
    have hm : begM m x slot = m := by unfold begM; rw [hb]; rfl
    rw [hb, hm]
    rw [hn] at hname
    go_enter Try.func87, Try.ntmps87
    go_wp2_with fail
    refine hname.out.mono ?_
    rintro e w1 ⟨rfl, hd⟩
    have HB := Aside0.mk hd.below
    clear hd hname hmay
    go_wp2_with fail
    go_ret
    exact ⟨rfl, HT.out.later HB.out, Far.below HB.out⟩
  | true =>
    rw [hn] at hname
    cases hs : okS m slot with
    | false =>
      have hb : begB m x slot = false := by unfold begB; rw [hn, hs]; rfl
      have hm : begM m x slot = m := by unfold begM; rw [hb]; rfl
      rw [hb, hm]
      rw [hs] at hmay
      go_enter Try.func87, Try.ntmps87
      go_wp2_with fail
      refine hname.out.mono ?_
      rintro e w1 ⟨rfl, hd⟩
      have HB := Aside0.mk hd.below
      clear hd hname
      go_wp2_with fail
      refine (hmay.out w1 HB.out).mono ?_
      rintro e w2 ⟨rfl, hb2⟩
      have HB2 := Aside0.mk (below_step HB.out hb2)
      clear hb2 HB hmay
      go_wp2_with fail
      go_ret
      exact ⟨rfl, HT.out.later HB2.out, Far.below HB2.out⟩
    | true =>
      have hb : begB m x slot = true := by unfold begB; rw [hn, hs]; rfl
      have hm : begM m x slot = sweepM m slot := by unfold begM; rw [hb]; rfl
      rw [hb, hm]
      rw [hs] at hmay
      go_enter Try.func87, Try.ntmps87
      go_wp2_with fail
      refine hname.out.mono ?_
      rintro e w1 ⟨rfl, hd⟩
      have HB := Aside0.mk hd.below
      clear hd hname
      go_wp2_with fail
      refine (hmay.out w1 HB.out).mono ?_
      rintro e w2 ⟨rfl, hb2⟩
      have HB2 := Aside0.mk (below_step HB.out hb2)
      clear hb2 HB hmay
      go_wp2_with fail
      refine (sweep_calls a b m slot w2 (HT.out.later HB2.out) HOK.out hg hs).mono ?_
      rintro e w3 ⟨rfl, hT3, hF3⟩
      have HT3 := Aside0.mk hT3
      have HF3 := Aside0.mk ((Far.below HB2.out).trans hF3)
      clear hT3 hF3 HB2
      go_wp2_with fail
      go_ret
      exact ⟨rfl, HT3.out, HF3.out⟩
set_option maxHeartbeats 16000000 in
set_option maxRecDepth 100000 in
theorem swp_calls (a b : Nat) (m : MG) (slot : Int) (w : World) (hT : Tab w a b m) (hok : okM m) (hg : m.g ≤ 1000000) :
    Calls Try.prog 38 #[.pointer (some ⟨a, 0, none⟩), .int .i64 slot] w fun e w' => e = .returned (.int .i64 (if okS m slot = true then outM m slot else 0)) ∧ Tab w' a b (if okS m slot = true then sweepM m slot else m) ∧ Far w w' a b := by
  have hund : ∀ b, some undef = some (Value.bool b) → False := fun b h => by simp [undef] at h
  have HT := Aside0.mk hT
  have HOK := Aside0.mk hok
  have hmay := Aside0.mk (may_calls a b m slot w hT)
  clear hT hok
  cases hs : okS m slot with
  | false =>
    rw [hs] at hmay
    go_enter Try.func38, Try.ntmps38
    go_wp2_with fail
    refine hmay.out.mono ?_
    rintro e w1 ⟨rfl, hb⟩
    have HB := Aside0.mk hb
    clear hb hmay
    go_wp2_with fail
    go_ret
    exact ⟨rfl, HT.out.later HB.out, Far.below HB.out⟩
  | true =>
    rw [hs] at hmay
    go_enter Try.func38, Try.ntmps38
    go_wp2_with fail
    refine hmay.out.mono ?_
    rintro e w1 ⟨rfl, hb⟩
    have HB := Aside0.mk hb
    clear hb hmay
    go_wp2_with fail
    refine (sweep_calls a b m slot w1 (HT.out.later HB.out) HOK.out hg hs).mono ?_
    rintro e w3 ⟨rfl, hT3, hF3⟩
    have HT3 := Aside0.mk hT3
    have HF3 := Aside0.mk ((Far.below HB.out).trans hF3)
    clear hT3 hF3 HB
    go_wp2_with fail
    go_ret
    exact ⟨rfl, HT3.out, HF3.out⟩
set_option maxHeartbeats 16000000 in
set_option maxRecDepth 100000 in
theorem gen_calls (a b : Nat) (m : MG) (w : World) (hT : Tab w a b m) :
    Calls Try.prog 40 #[.pointer (some ⟨a, 0, none⟩)] w fun e w' => e = .returned (.int .i64 m.g) ∧ Below w.heap.size w w' := by
  have hc : w.cell? ⟨a, 2, none⟩ = some (.int .i64 m.g) := hT.c 2
  clear hT
  go_enter Try.func40, Try.ntmps40
  go_wp2_with fail
  go_ret
  exact ⟨rfl, Below.refl _ _⟩
set_option maxHeartbeats 16000000 in
set_option maxRecDepth 100000 in
theorem parts_calls' (a b : Nat) (m : MG) (w : World) (hT : Tab w a b m) :
    Calls Try.prog 41 #[.pointer (some ⟨a, 0, none⟩)] w fun e w' => e = .returned (.int .i64 m.p) ∧ Below w.heap.size w w' := by
  have hc : w.cell? ⟨a, 0, none⟩ = some (.int .i64 m.p) := hT.c 0
  clear hT
  go_enter Try.func41, Try.ntmps41
  go_wp2_with fail
  go_ret
  exact ⟨rfl, Below.refl _ _⟩
/-! ### the members' names -/
def namesM (l : List Me) : List ByteArray := l.map (·.f0)
theorem names_len (l : List Me) : (namesM l).length = l.length := List.length_map _
theorem names_keys (l : List Me) : (namesM l).map (·.toList) = l.map kM := by
  unfold namesM
  rw [List.map_map]
  rfl
theorem names_mkB (l : List Me) : (l.map kM).map mkB = namesM l := by
  unfold namesM
  rw [List.map_map]
  apply List.map_congr_left
  intro m _
  exact toList_mkB m.f0
theorem keysM (l : List Me) : strKeys (datM l) = l.map kM := by
  unfold datM
  simp [strKeys, entM, Function.comp_def]
  intro y _
  rfl
theorem sort_keys (l : List Me) (h : RisM l) (ss : List (List UInt8)) (hp : ss.Perm (l.map kM)) : ss.mergeSort (fun x y => decide (x ≤ y)) = l.map kM := by
  refine List.Perm.eq_of_pairwise (le := fun a b => a ≤ b) (fun a b _ _ h1 h2 => List.le_antisymm h1 h2) ?_ ?_ ((List.mergeSort_perm _ _).trans hp)
  · have := List.pairwise_mergeSort (le := fun (x y : List UInt8) => decide (x ≤ y)) (fun a b c h1 h2 => by
      simp only [decide_eq_true_eq] at *
      exact List.le_trans h1 h2) (fun a b => by
      simp only [Bool.or_eq_true, decide_eq_true_eq]
      exact List.le_total a b) ss
    exact this.imp (fun h => of_decide_eq_true h)
  · rw [List.pairwise_map]
    exact h.imp (fun h => Std.le_of_lt h)
theorem isIn_names (l : List Me) (x : List UInt8) : isIn (namesM l) x = isM l x := by
  unfold isIn
  rw [names_keys, Bool.eq_iff_iff, List.contains_iff_mem]
  unfold isM
  rw [List.any_eq_true, List.mem_map]
  constructor
  · rintro ⟨m, hm, e⟩
    exact ⟨m, hm, decide_eq_true e⟩
  · rintro ⟨m, hm, e⟩
    exact ⟨m, hm, of_decide_eq_true e⟩
theorem wrong_names {l : List Me} (h : RisM l) (ha : ∀ x ∈ l, nameB x.f0 = true) : wrongL (namesM l) = 0 := by
  unfold wrongL
  rw [if_pos, if_pos]
  · rw [names_keys, List.Nodup, List.pairwise_map]
    refine List.Pairwise.imp ?_ h
    intro a b hlt e
    rw [e] at hlt
    exact lt_irr _ hlt
  · rw [List.all_eq_true]
    intro s hs
    obtain ⟨m, hm, rfl⟩ := List.mem_map.1 hs
    exact ha m hm
theorem name_size {x : ByteArray} (h : nameB x = true) : x.size ≤ 12 := by
  unfold nameB at h
  simp only [Bool.and_eq_true, decide_eq_true_eq] at h
  exact h.1.2
set_option maxHeartbeats 16000000 in
set_option maxRecDepth 100000 in
theorem members_calls (a b : Nat) (m : MG) (w : World) (hT : Tab w a b m) (hn : m.L.length ≤ 8) :
    Calls Try.prog 39 #[.pointer (some ⟨a, 0, none⟩)] w fun e w' => ∃ v, e = .returned v ∧ Kd.R Kd.string 9 w' w.heap.size (fun _ => True) v (namesM m.L) ∧ Below w.heap.size w w' := by
  have hc : w.cell? ⟨a, 4, none⟩ = some (.map (some b)) := hT.c 4
  have HO := Aside0.mk hT.own
  have HR := Aside0.mk hT.ris
  clear hT
  go_enter Try.func39, Try.ntmps39
  go_wp2_with fail
  refine (callsIn_wide.1 (Try.maps_Keys_91 (some b) w)).mono ?_
  rintro e w1 ⟨rfl, rfl⟩
  go_wp2_with fail
  refine (callsIn_wide.1 (Try.slices_Sorted_keys_75_91 b m.L.length (datM m.L) _ w HO.out (by rw [sizeM]; unfold maxLen; omega) (by rw [sizeM]; omega))).mono ?_
  rintro e w2 ⟨v, ss, rfl, hS, hrow, hnil, hb2⟩
  rw [keysM] at hS
  have e1 := sort_keys m.L HR.out ss hS
  have e2 : ss.length = (m.L.map kM).length := hS.length_eq
  rw [e1, e2] at hrow
  have HB := Aside0.mk (below_step (below_alloc (Below.refl _ _) (.cells #[.map (some b)] 143)) hb2 : Below w.heap.size w w2)
  have R0 : Kd.R kStr 9 w2 (w.alloc (.cells #[.map (some b)] 143)).heap.size (fun _ => True) v (m.L.map kM) := Kd.R_of_own (enc := encStr) (h1 := fun _ => rfl) (e := 9) (ok := fun _ => True) hrow (fun _ _ => trivial)
  have R1 := str_R R0
  rw [names_mkB] at R1
  have HR1 := Aside0.mk (Kd.R_lower R1 (base' := w.heap.size) (by simp))
  clear hrow R0 R1 hb2 hS e1 e2
  go_wp2_with fail
  go_ret
  exact ⟨_, rfl, HR1.out, HB.out⟩
/-- what a member has -/
def hasL (m : MG) (x : ByteArray) : List Int := if isM m.L x.toList = true then ofL (namesM m.L) m.p.toNat x.toList else []
theorem hasL_len (m : MG) (h : okM m) (x : ByteArray) : (hasL m x).length ≤ 4 := by
  unfold hasL
  split
  · have := ofL_none (namesM m.L) m.p.toNat x.toList
    have := h.p
    omega
  · simp
set_option maxHeartbeats 16000000 in
set_option maxRecDepth 100000 in
theorem has_calls (a b : Nat) (m : MG) (x : ByteArray) (hx : x.size ≤ 1000) (w : World) (hT : Tab w a b m) (hok : okM m) :
    Calls Try.prog 35 #[.pointer (some ⟨a, 0, none⟩), .string x] w fun e w' => ∃ v, e = .returned (.tuple #[v, .int .i64 (if isM m.L x.toList = true then 0 else 36)]) ∧ Kd.R (Kd.int .i64) 3 w' w.heap.size (fun _ => True) v (hasL m x) ∧ Below w.heap.size w w' := by
  have hund : ∀ b, some undef = some (Value.bool b) → False := fun b h => by simp [undef] at h
  have hip := Aside0.mk (is_calls a b m x hx w hT)
  have HT := Aside0.mk hT
  have hw0 := Aside0.mk (wrong_names hT.ris (fun y hy => (hok.a y hy).1))
  have HOK := Aside0.mk hok
  clear hT hok
  cases hi : isM m.L x.toList with
  | false =>
    have he : hasL m x = [] := by unfold hasL; rw [hi]; rfl
    rw [he]
    rw [hi] at hip
    clear he
    go_enter Try.func35, Try.ntmps35
    go_wp2_with fail
    refine hip.out.mono ?_
    rintro e w1 ⟨rfl, hb⟩
    have HB := Aside0.mk hb
    clear hb hip
    go_wp2_with fail
    exact bodyPost_ret (v := .tuple #[.slice none 0 0, .int .i64 36]) (by simp [results, Try.results35, go_sem]) rfl ⟨_, rfl, Kd.R_nil _ _ _ _ _, HB.out⟩
  | true =>
    have he : hasL m x = ofL (namesM m.L) m.p.toNat x.toList := by unfold hasL; rw [hi]; rfl
    rw [he]
    rw [hi] at hip
    have hp := HOK.out.p
    have hE : errOf (namesM m.L) m.p x.toList = 0 := by
      rw [errOf_in (errA_of hw0.out hp.1 hp.2), isIn_names, hi]
      rfl
    have hof := Aside0.mk (fun A c W (hA : Kd.C Kd.string W A (namesM m.L).length (namesM m.L)) => off_calls A c (namesM m.L) m.p x hx W hA (by rw [names_len]; have := HOK.out.n; omega) (fun s hs => by
      obtain ⟨y, hy, rfl⟩ := List.mem_map.1 hs
      have := name_size (HOK.out.a y hy).1
      omega))
    simp only [hE, if_true] at hof
    have hmem := Aside0.mk (fun W (k : Below w.heap.size w W) => members_calls a b m W (HT.out.later k) HOK.out.n)
    have HC0 := Aside0.mk (fun W (k : Below w.heap.size w W) => (HT.out.later k).c 0)
    generalize namesM m.L = nl at *
    generalize ofL nl m.p.toNat x.toList = zs at *
    clear he hE hp
    go_enter Try.func35, Try.ntmps35
    go_wp2_with fail
    refine hip.out.mono ?_
    rintro e w1 ⟨rfl, hb⟩
    have HB := Aside0.mk hb
    clear hb hip
    go_wp2_with fail
    have n_B := Aside0.mk (below_drew1 HB.out)
    clear HB
    have HB := n_B
    clear n_B
    refine start_ (n := 12) (S := fun w' => w'.cell? ⟨a, 0, none⟩ = some (.int .i64 m.p)) (ds := []) #[false, false, false, false, false, false, false, false, false, false, false, false] (by kernel_rfl) rfl rfl ((HC0.out _ HB.out).trans rfl) (fun _ => ?_)
    generalize w1.drew = V0 at *
    refine pure_ (i := 0) (N := some 14) (v := ?_) (a' := ?_) #[true, false, false, false, false, false, false, false, false, false, false, false] rfl rfl (by kernel_rfl) (fun _ _ _ h => h) (Or.inl ⟨by rfl, ?_⟩) ?_ ?_
    rotate_left
    · intro w'
      go_simp
      with_reducible rfl
    rotate_left
    · simp only [Act.put, List.setIfInBounds_toArray, List.set_cons_zero, List.set_cons_succ]
      rfl
    refine pure_ (i := 2) (N := some 16) (v := ?_) (a' := ?_) #[true, false, true, false, false, false, false, false, false, false, false, false] rfl rfl (by kernel_rfl) (fun _ _ _ h => h) (Or.inl ⟨by rfl, ?_⟩) ?_ ?_
    rotate_left
    · intro w'
      go_simp
      with_reducible rfl
    rotate_left
    · simp only [Act.put, List.setIfInBounds_toArray, List.set_cons_zero, List.set_cons_succ]
      rfl
    refine pure_ (i := 3) (N := some 17) (v := ?_) (a' := ?_) #[true, false, true, true, false, false, false, false, false, false, false, false] rfl rfl (by kernel_rfl) (fun _ _ _ h => h) (Or.inl ⟨by rfl, ?_⟩) ?_ ?_
    rotate_left
    · intro w'
      go_simp
      with_reducible rfl
    rotate_left
    · simp only [Act.put, List.setIfInBounds_toArray, List.set_cons_zero, List.set_cons_succ]
      rfl
    refine pure_ (i := 4) (N := some 18) (v := ?_) (a' := ?_) #[true, false, true, true, true, false, false, false, false, false, false, false] rfl rfl (by kernel_rfl) (fun _ _ _ h => h) (Or.inl ⟨by rfl, ?_⟩) ?_ ?_
    rotate_left
    · intro w'
      go_simp
      with_reducible rfl
    rotate_left
    · simp only [Act.put, List.setIfInBounds_toArray, List.set_cons_zero, List.set_cons_succ]
      rfl
    refine take_ (i := 5) (N := some 19) (v := ?_) (a' := ?_) #[true, false, true, true, true, true, false, false, false, false, false, false] rfl rfl (by kernel_rfl) (fun _ _ _ h => h) (Or.inl ⟨by rfl, ?_⟩) ((HC0.out _ HB.out).trans rfl) ?_ ?_
    rotate_left
    · intro w' hS
      obtain h1 := hS
      go_simp
      with_reducible rfl
    rotate_left
    · simp only [Act.put, List.setIfInBounds_toArray, List.set_cons_zero, List.set_cons_succ]
      rfl
    refine pure_ (i := 6) (N := some 20) (v := ?_) (a' := ?_) #[true, false, true, true, true, true, true, false, false, false, false, false] rfl rfl (by kernel_rfl) (fun _ _ _ h => h) (Or.inl ⟨by rfl, ?_⟩) ?_ ?_
    rotate_left
    · intro w'
      go_simp
      with_reducible rfl
    rotate_left
    · simp only [Act.put, List.setIfInBounds_toArray, List.set_cons_zero, List.set_cons_succ]
      rfl
    refine one_ (i := 1) (N := some 15) #[true, true, true, true, true, true, true, false, false, false, false, false] rfl rfl (by kernel_rfl) (by simp) (fun K hK => ?_)
    refine goes_ Try.func39 (by kernel_rfl) rfl #[.pointer (some ⟨a, 0, none⟩)] (by rfl) rfl rfl (by simp only [List.map_toArray, List.map_cons, List.map_nil] <;> rfl) ?_
    refine (hmem.out V0 HB.out).mono ?_
    rintro e V1 ⟨v1, rfl, hR1, hb⟩
    obtain ⟨A1, c1, rfl, hc1, hC1⟩ := Kd.R_reads hR1
    have n_HB := Aside0.mk (below_step HB.out hb)
    clear HB hb hR1
    have HB := n_HB
    clear n_HB
    have HC1 := Aside0.mk hC1
    clear hC1
    refine ⟨_, rfl, hK.out _ _ ((HC0.out _ HB.out).trans rfl) (fun _ => ?_)⟩
    clear hK K
    refine norm_ (a' := ?_) ?_ ?_
    rotate_left
    · simp only [Act.put, List.setIfInBounds_toArray, List.set_cons_zero, List.set_cons_succ]
      rfl
    refine one_ (i := 7) (N := some 21) #[true, true, true, true, true, true, true, true, false, false, false, false] rfl rfl (by kernel_rfl) (by simp) (fun K hK => ?_)
    refine goes_ Try.func19 (by kernel_rfl) rfl #[.slice A1 nl.length c1, .int .i64 m.p, .string x] (by rfl) rfl rfl (by simp only [List.map_toArray, List.map_cons, List.map_nil] <;> rfl) ?_
    refine (hof.out A1 c1 V1 HC1.out).mono ?_
    rintro e V2 ⟨v2, rfl, hR2, hb⟩
    have HR2 := Aside0.mk (Kd.R_lower hR2 HB.out.size)
    have n_HB := Aside0.mk (below_step HB.out hb)
    clear HB hb hR2
    have HB := n_HB
    clear n_HB
    refine ⟨_, rfl, hK.out _ _ ((HC0.out _ HB.out).trans rfl) (fun _ => ?_)⟩
    clear hK K
    refine norm_ (a' := ?_) ?_ ?_
    rotate_left
    · simp only [Act.put, List.setIfInBounds_toArray, List.set_cons_zero, List.set_cons_succ]
      rfl
    refine pure_ (i := 8) (N := some 22) (v := ?_) (a' := ?_) #[true, true, true, true, true, true, true, true, true, false, false, false] rfl rfl (by kernel_rfl) (fun _ _ _ h => h) (Or.inl ⟨by rfl, ?_⟩) ?_ ?_
    rotate_left
    · intro w'
      go_simp
      with_reducible rfl
    rotate_left
    · simp only [Act.put, List.setIfInBounds_toArray, List.set_cons_zero, List.set_cons_succ]
      rfl
    refine pure_ (i := 9) (N := some 23) (v := ?_) (a' := ?_) #[true, true, true, true, true, true, true, true, true, true, false, false] rfl rfl (by kernel_rfl) (fun _ _ _ h => h) (Or.inl ⟨by rfl, ?_⟩) ?_ ?_
    rotate_left
    · intro w'
      go_simp
      with_reducible rfl
    rotate_left
    · simp only [Act.put, List.setIfInBounds_toArray, List.set_cons_zero, List.set_cons_succ]
      rfl
    refine pure_ (i := 10) (N := some 4) (v := ?_) (a' := ?_) #[true, true, true, true, true, true, true, true, true, true, true, false] rfl rfl (by kernel_rfl) (fun _ _ _ h => h) (Or.inl ⟨by rfl, ?_⟩) ?_ ?_
    rotate_left
    · intro w'
      go_simp
      with_reducible rfl
    rotate_left
    · simp only [Act.put, List.setIfInBounds_toArray, List.set_cons_zero, List.set_cons_succ]
      rfl
    refine pure_ (i := 11) (N := some 5) (v := ?_) (a' := ?_) #[true, true, true, true, true, true, true, true, true, true, true, true] rfl rfl (by kernel_rfl) (fun _ _ _ h => h) (Or.inl ⟨by rfl, ?_⟩) ?_ ?_
    rotate_left
    · intro w'
      go_simp
      with_reducible rfl
    rotate_left
    · simp only [Act.put, List.setIfInBounds_toArray, List.set_cons_zero, List.set_cons_succ]
      rfl
    refine done_ (by kernel_rfl) ?_
    go_wp2_with fail
    exact bodyPost_ret (v := .tuple #[v2, .int .i64 0]) (by simp [results, Try.results35, go_sem]) rfl ⟨_, rfl, HR2.out, HB.out⟩
end Go.Proofs.Ytohhlkabejangaa.Mb
