import Derived.Test.YtohhlkabejangaaUOf13
-- halved
namespace Go.Proofs.Ytohhlkabejangaa.Of
set_option linter.unusedVariables false
set_option linter.unusedSimpArgs false
open Go.RowKit Go.Maps Go.Sort Go.Lib Go.Shelf Go.Proofs.YtohhlkabejangaaW.PrintWords Go.Proofs.YtohhlkabejangaaW.PrintLast Go.Proofs.YtohhlkabejangaaW.PrintMore Go.Proofs.Ytohhlkabejangaa.POf Go.Proofs.Ytohhlkabejangaa.Wire
open Go.Proofs.YtohhlkabejangaaW.PrintWords.Aside0 renaming mk → mkA
open List renaming setIfInBounds_toArray → zsI, set_cons_zero → zs0, set_cons_succ → zs1
open Go.Proofs.YtohhlkabejangaaW.PrintWords renaming below_step → zbS
def valT (T : List Rw) (k : Ky) : Int := match T.find? (fun r => decide (r.k = k)) with
 | some r => r.v
 | none => 0
theorem zeroI (w : World) : (zeroValue 3).run Try.prog w = .ok (.int .i64 0) w := by kernel_rfl
theorem Tab.at_ {W : World} {a b : Nat} {T : List Rw} (h : Tab W a b T) {k : Ky} (hk : okK k) (D : DataW Unit) (n : Nat) (ho : Own W b n D) (hr : Rep D T) : D.atKey (litK k) (.lit (.int .i64 0)) = .lit (.int .i64 (valT T k)) ∧ Maps.has D (litK k) = isT T k := by
 cases hi : isT T k with
 | true =>
  obtain ⟨r, hr1, hr2⟩ := (isT_iff T k).1 hi
  refine ⟨?_, (hr.has k hk).2 ⟨r, hr1, hr2⟩⟩
  unfold valT
  cases hf : T.find? (fun r => decide (r.k = k)) with
  | none =>
   have := List.find?_eq_none.1 hf r hr1
   simp [hr2] at this
  | some q =>
   have hq := List.mem_of_find?_eq_some hf
   have hq2 : q.k = k := by simpa using List.find?_some hf
   rw [← hq2]
   exact hr.at_ q hq _
 | false =>
  have hno : Maps.has D (litK k) = false := by
   cases hx : Maps.has D (litK k)
   ·rfl
   ·rw [(isT_iff T k).2 ((hr.has k hk).1 hx)] at hi
    cases hi
  refine ⟨?_, hno⟩
  rw [atKey_of_not_has hno]
  unfold valT
  cases hf : T.find? (fun r => decide (r.k = k)) with
  | none => rfl
  | some q =>
   have hq := List.mem_of_find?_eq_some hf
   have hq2 : q.k = k := by simpa using List.find?_some hf
   rw [(isT_iff T k).2 ⟨q, hq, hq2⟩] at hi
   cases hi
set_option maxRecDepth 100000 in
theorem Tab.look {W : World} {a b : Nat} {T : List Rw} (h : Tab W a b T) {k : Ky} (hk : okK k) :
  (Instr.lookup 154 (.map (some b)) (valK k) true).run Try.prog W = .ok (.tuple #[.int .i64 (valT T k), .bool (isT T k)]) W := by
 obtain ⟨n, D, ho, hr⟩ := h.own
 obtain ⟨e1, e2⟩ := h.at_ hk D n ho hr
 obtain ⟨v, ps, hrun, hv⟩ := ho.look_ok keyed Try.underlying154 (zeroI W) (plainElem_int Try.underlying3 (by decide)) (keyOf_mk hk)
 obtain ⟨c, rfl, hc, _⟩ := plainElem_int_inv Try.underlying3 hv
 simp only [Prod.mk.injEq] at hc
 rw [e1] at hc
 have := hc.1
 injection this with this
 injection this with _ this
 rw [hrun, e2, this]
set_option maxRecDepth 100000 in
theorem Tab.get {W : World} {a b : Nat} {T : List Rw} (h : Tab W a b T) {k : Ky} (hk : okK k) :
  (Instr.lookup 154 (.map (some b)) (valK k) false).run Try.prog W = .ok (.int .i64 (valT T k)) W := by
 obtain ⟨n, D, ho, hr⟩ := h.own
 obtain ⟨e1, e2⟩ := h.at_ hk D n ho hr
 obtain ⟨c, hrun, hc, _⟩ := ho.lookup_int keyed Try.underlying154 Try.underlying3 (zeroI W) (keyOf_mk hk)
 rw [e1] at hc
 injection hc with hc
 injection hc with _ hc
 rw [hrun, hc]
set_option maxHeartbeats 16000000 in
set_option maxRecDepth 100000 in
theorem new_calls (w : World) : Calls Try.prog 44 #[] w fun e w' => ∃ a b, e = .returned (.pointer (some ⟨a, 0, none⟩)) ∧ Tab w' a b [] ∧ w.heap.size ≤ a ∧ w.heap.size ≤ b ∧ Below w.heap.size w w' := by
 have hmm := @run_makeMap Try.prog
 have HB := mkA (Below.refl w.heap.size w)
 go_enter Try.func44, Try.ntmps44
 go_wp2_with fail
 go_ret
 refine ⟨w.heap.size + 1, w.heap.size, by first | rfl | simp, ⟨?_, 0, .map [], ?_, rep_new⟩, by omega, Nat.le_refl _, ?_⟩
 ·have := World.alloc_heap_new (w.alloc (.map #[] 0)) (.cells #[.map (some w.heap.size)] 156)
  rwa [World.size_alloc] at this
 ·exact (World.ownsMap_made w _ _ _).kept (row := none) (gb_below (below_alloc (Below.refl _ _) _)) (by simp)
 ·exact below_alloc (below_alloc HB.out _) _
noncomputable def appB (T : List Rw) (kind : Int) (s : ByteArray) : Bool := if kind = 1 then cmtB T s else if kind = 2 then (okC s).isSome else false
noncomputable def appT (T : List Rw) (kind : Int) (s : ByteArray) : List Rw := if kind = 1 then cmtT T s else if kind = 2 then clrT T s else T
set_option maxHeartbeats 16000000 in
set_option maxRecDepth 100000 in
theorem apply_tab (a b : Nat) (T : List Rw) (kind : Int) (s : ByteArray) (hs : s.size ≤ 100000) (w : World) (h : Tab w a b T) (hn : T.length ≤ 1000000) :
  Calls Try.prog 46 #[.pointer (some ⟨a, 0, none⟩), .agg #[.int .i64 kind, .string s]] w fun e w' => e = .returned (.int .i64 (if appB T kind s = true then 0 else 4)) ∧ Tab w' a b (appT T kind s) ∧ w.grownBy w' (some b) := by
 have HC := mkA (fun W (h : Tab W a b T) => commit_tab a b T s hs W h hn)
 have HL := mkA (fun W (h : Tab W a b T) => clear_tab a b T s hs W h hn)
 have HB := mkA (Below.refl w.heap.size w)
 have HT := mkA h
 clear h
 by_cases h1 : kind = 1
 ·have e1 : (kind == 1) = true := by rw [h1]; rfl
  have u1 : appB T kind s = cmtB T s := if_pos h1
  have u2 : appT T kind s = cmtT T s := if_pos h1
  clear HL h1
  rw [u1, u2]
  clear u1 u2
  obtain ⟨M, hM⟩ : ∃ M, cmtB T s = M := ⟨_, rfl⟩
  rw [hM] at HC ⊢
  clear hM
  cases M with
  | false =>
   go_enter Try.func46, Try.ntmps46
   go_wp2_with (first
    | ((with_reducible refine gate_dst (N := 3) rfl ?_); refine box_event rfl (N := 3) rfl (cs := #[.int .i64 kind, .string s]) (t := 79) ?hr ?_; (case hr => first | (go_simp; done) | (go_simp; rfl)); intro g hg w1 hbx hbl; have n_T := mkA (HT.out.later hbl); have n_B := mkA (zbS HB.out hbl); have g0 : w1.cell? ⟨g, 0, none⟩ = some (.int .i64 kind) := (blk_cell hbx 0).trans rfl; have g1 : w1.cell? ⟨g, 1, none⟩ = some (.string s) := (blk_cell hbx 1).trans rfl; clear HT HB hbx hg hbl; have HT := n_T; have HB := n_B; clear n_T n_B)
    | (go_at_call 92; refine (HC.out _ HT.out).mono ?_; rintro e w2 ⟨rfl, hT, hG⟩; have HT2 := mkA hT; have HG := mkA (gb_trans (gb_below HB.out) hG); clear hT hG))
   go_ret
   exact ⟨rfl, HT2.out, HG.out⟩
  | true =>
   go_enter Try.func46, Try.ntmps46
   go_wp2_with (first
    | ((with_reducible refine gate_dst (N := 3) rfl ?_); refine box_event rfl (N := 3) rfl (cs := #[.int .i64 kind, .string s]) (t := 79) ?hr ?_; (case hr => first | (go_simp; done) | (go_simp; rfl)); intro g hg w1 hbx hbl; have n_T := mkA (HT.out.later hbl); have n_B := mkA (zbS HB.out hbl); have g0 : w1.cell? ⟨g, 0, none⟩ = some (.int .i64 kind) := (blk_cell hbx 0).trans rfl; have g1 : w1.cell? ⟨g, 1, none⟩ = some (.string s) := (blk_cell hbx 1).trans rfl; clear HT HB hbx hg hbl; have HT := n_T; have HB := n_B; clear n_T n_B)
    | (go_at_call 92; refine (HC.out _ HT.out).mono ?_; rintro e w2 ⟨rfl, hT, hG⟩; have HT2 := mkA hT; have HG := mkA (gb_trans (gb_below HB.out) hG); clear hT hG))
   go_ret
   exact ⟨rfl, HT2.out, HG.out⟩
 ·by_cases h2 : kind = 2
  ·have e1 : (kind == 1) = false := beq_eq_false_iff_ne.2 h1
   have e2 : (kind == 2) = true := by rw [h2]; rfl
   have u1 : appB T kind s = (okC s).isSome := (if_neg h1).trans (if_pos h2)
   have u2 : appT T kind s = clrT T s := (if_neg h1).trans (if_pos h2)
   clear HC h1 h2
   rw [u1, u2]
   clear u1 u2
   obtain ⟨M, hM⟩ : ∃ M, (okC s).isSome = M := ⟨_, rfl⟩
   rw [hM] at HL ⊢
   clear hM
   cases M with
   | false =>
    go_enter Try.func46, Try.ntmps46
    go_wp2_with (first
     | ((with_reducible refine gate_dst (N := 3) rfl ?_); refine box_event rfl (N := 3) rfl (cs := #[.int .i64 kind, .string s]) (t := 79) ?hr ?_; (case hr => first | (go_simp; done) | (go_simp; rfl)); intro g hg w1 hbx hbl; have n_T := mkA (HT.out.later hbl); have n_B := mkA (zbS HB.out hbl); have g0 : w1.cell? ⟨g, 0, none⟩ = some (.int .i64 kind) := (blk_cell hbx 0).trans rfl; have g1 : w1.cell? ⟨g, 1, none⟩ = some (.string s) := (blk_cell hbx 1).trans rfl; clear HT HB hbx hg hbl; have HT := n_T; have HB := n_B; clear n_T n_B)
     | (go_at_call 93; refine (HL.out _ HT.out).mono ?_; rintro e w2 ⟨rfl, hT, hG⟩; have HT2 := mkA hT; have HG := mkA (gb_trans (gb_below HB.out) hG); clear hT hG))
    go_ret
    exact ⟨rfl, HT2.out, HG.out⟩
   | true =>
    go_enter Try.func46, Try.ntmps46
    go_wp2_with (first
     | ((with_reducible refine gate_dst (N := 3) rfl ?_); refine box_event rfl (N := 3) rfl (cs := #[.int .i64 kind, .string s]) (t := 79) ?hr ?_; (case hr => first | (go_simp; done) | (go_simp; rfl)); intro g hg w1 hbx hbl; have n_T := mkA (HT.out.later hbl); have n_B := mkA (zbS HB.out hbl); have g0 : w1.cell? ⟨g, 0, none⟩ = some (.int .i64 kind) := (blk_cell hbx 0).trans rfl; have g1 : w1.cell? ⟨g, 1, none⟩ = some (.string s) := (blk_cell hbx 1).trans rfl; clear HT HB hbx hg hbl; have HT := n_T; have HB := n_B; clear n_T n_B)
     | (go_at_call 93; refine (HL.out _ HT.out).mono ?_; rintro e w2 ⟨rfl, hT, hG⟩; have HT2 := mkA hT; have HG := mkA (gb_trans (gb_below HB.out) hG); clear hT hG))
    go_ret
    exact ⟨rfl, HT2.out, HG.out⟩
  ·have e1 : (kind == 1) = false := beq_eq_false_iff_ne.2 h1
   have e2 : (kind == 2) = false := beq_eq_false_iff_ne.2 h2
   have u1 : appB T kind s = false := (if_neg h1).trans (if_neg h2)
   have u2 : appT T kind s = T := (if_neg h1).trans (if_neg h2)
   clear HC HL h1 h2
   rw [u1, u2]
   clear u1 u2
   go_enter Try.func46, Try.ntmps46
   go_wp2_with (first
    | ((with_reducible refine gate_dst (N := 3) rfl ?_); refine box_event rfl (N := 3) rfl (cs := #[.int .i64 kind, .string s]) (t := 79) ?hr ?_; (case hr => first | (go_simp; done) | (go_simp; rfl)); intro g hg w1 hbx hbl; have n_T := mkA (HT.out.later hbl); have n_B := mkA (zbS HB.out hbl); have g0 : w1.cell? ⟨g, 0, none⟩ = some (.int .i64 kind) := (blk_cell hbx 0).trans rfl; have g1 : w1.cell? ⟨g, 1, none⟩ = some (.string s) := (blk_cell hbx 1).trans rfl; clear HT HB hbx hg hbl; have HT := n_T; have HB := n_B; clear n_T n_B))
   go_ret
   exact ⟨rfl, HT.out, gb_below HB.out⟩
set_option maxHeartbeats 16000000 in
set_option maxRecDepth 100000 in
theorem get_tab (a b : Nat) (T : List Rw) (k0 k1 : ByteArray) (k2 : Int) (hk : okK ⟨k0, k1, k2⟩) (w : World) (h : Tab w a b T) :
  Calls Try.prog 48 #[.pointer (some ⟨a, 0, none⟩), .agg #[.string k0, .string k1, .int .i64 k2]] w fun e w' => e = .returned (.tuple #[.int .i64 (valT T ⟨k0, k1, k2⟩), .int .i64 (if isT T ⟨k0, k1, k2⟩ = true then 0 else 6)]) ∧ Below w.heap.size w w' := by
 have HB := mkA (Below.refl w.heap.size w)
 have HT := mkA h
 have HLK := mkA (fun (W : World) (h : Tab W a b T) => (show (Instr.lookup 154 (.map (some b)) (.agg #[.string k0, .string k1, .int .i64 k2]) true).run Try.prog W = .ok (.tuple #[.int .i64 (valT T ⟨k0, k1, k2⟩), .bool (isT T ⟨k0, k1, k2⟩)]) W from h.look hk))
 have HV0 := mkA (show isT T ⟨k0, k1, k2⟩ = false → valT T ⟨k0, k1, k2⟩ = 0 from fun hi => by
  unfold valT
  cases hf : T.find? (fun r => decide (r.k = ⟨k0, k1, k2⟩)) with
  | none => rfl
  | some q =>
   have hq := List.mem_of_find?_eq_some hf
   have hq2 : q.k = ⟨k0, k1, k2⟩ := by simpa using List.find?_some hf
   rw [(isT_iff T _).2 ⟨q, hq, hq2⟩] at hi
   cases hi)
 obtain ⟨v, hv⟩ : ∃ v, valT T ⟨k0, k1, k2⟩ = v := ⟨_, rfl⟩
 obtain ⟨M, hM⟩ : ∃ M, isT T ⟨k0, k1, k2⟩ = M := ⟨_, rfl⟩
 rw [hv, hM] at HLK HV0
 rw [hv, hM]
 clear hv hM h hk
 go_enter Try.func48, Try.ntmps48
 go_upto_region 3 with (first
  | ((with_reducible refine gate_dst (N := 3) rfl ?_); refine box_event rfl (N := 3) rfl (cs := #[.string k0, .string k1, .int .i64 k2]) (t := 74) ?hr ?_; (case hr => first | (go_simp; done) | (go_simp; rfl)); intro g hg w1 hbx hbl; have n_T := mkA (HT.out.later hbl); have n_B := mkA (zbS HB.out hbl); have Y := mkA hbx; clear HT HB hbx hg hbl; have HT := n_T; have HB := n_B; clear n_T n_B))
 refine start_ (n := 11) (S := fun w' => w'.cell? ⟨a, 0, none⟩ = some (.map (some b)) ∧ w'.heap[g]? = some (.cells #[.string k0, .string k1, .int .i64 k2] 74 (0, 0)) ∧ (Instr.lookup 154 (.map (some b)) (.agg #[.string k0, .string k1, .int .i64 k2]) true).run Try.prog w' = .ok (.tuple #[.int .i64 v, .bool M]) w') (ds := []) #[false, false, false, false, false, false, false, false, false, false, false] (by kernel_rfl) rfl rfl ⟨HT.out.c, Y.out, HLK.out _ (by first | exact HT.out | exact HT.out.later (below_drew1 (Below.refl _ _)))⟩ (fun _ => ?_)
 have n_HB := mkA (below_drew1 HB.out)
 have n_Y := mkA (show w1.drew.heap[g]? = some (.cells #[.string k0, .string k1, .int .i64 k2] 74 (0, 0)) from Y.out)
 have n_HT := mkA (HT.out.later (below_drew1 (Below.refl _ _)))
 clear HB Y HT
 have HB := n_HB
 have Y := n_Y
 have HT := n_HT
 clear n_HB n_Y n_HT
 generalize w1.drew = V0 at *
 refine pure_ (i := 0) (N := some 11) (v := ?_) (a' := ?_) #[true, false, false, false, false, false, false, false, false, false, false] rfl rfl (by kernel_rfl) (fun _ _ _ h => h) (Or.inl ⟨by rfl, ?_⟩) ?_ ?_
 rotate_left
 ·intro w'
  go_simp
  with_reducible rfl
 rotate_left
 ·simp only [Act.put, zsI, zs0, zs1]
  rfl
 refine pure_ (i := 1) (N := some 12) (v := ?_) (a' := ?_) #[true, true, false, false, false, false, false, false, false, false, false] rfl rfl (by kernel_rfl) (fun _ _ _ h => h) (Or.inl ⟨by rfl, ?_⟩) ?_ ?_
 rotate_left
 ·intro w'
  go_simp
  with_reducible rfl
 rotate_left
 ·simp only [Act.put, zsI, zs0, zs1]
  rfl
 refine pure_ (i := 2) (N := some 13) (v := ?_) (a' := ?_) #[true, true, true, false, false, false, false, false, false, false, false] rfl rfl (by kernel_rfl) (fun _ _ _ h => h) (Or.inl ⟨by rfl, ?_⟩) ?_ ?_
 rotate_left
 ·intro w'
  go_simp
  with_reducible rfl
 rotate_left
 ·simp only [Act.put, zsI, zs0, zs1]
  rfl
 refine take_ (i := 3) (N := some 14) (v := ?_) (a' := ?_) #[true, true, true, true, false, false, false, false, false, false, false] rfl rfl (by kernel_rfl) (fun _ _ _ h => h) (Or.inl ⟨by rfl, ?_⟩) ⟨HT.out.c, Y.out, HLK.out _ (by first | exact HT.out | exact HT.out.later (below_drew1 (Below.refl _ _)))⟩ ?_ ?_
 rotate_left
 ·intro w' hS
  obtain ⟨h1, h2, h3⟩ := hS
  go_simp
  with_reducible rfl
 rotate_left
 ·simp only [Act.put, zsI, zs0, zs1]
  rfl
 refine take_ (i := 4) (N := some 15) (v := .agg #[.string k0, .string k1, .int .i64 k2]) (a' := ?_) #[true, true, true, true, true, false, false, false, false, false, false] rfl rfl (by kernel_rfl) (fun _ _ _ h => h) (Or.inl ⟨by rfl, fun w' hS => load_run' (p := 3) rfl rfl hS.2.1 Try.underlying74 rfl (by kernel_rfl)⟩) ⟨HT.out.c, Y.out, HLK.out _ (by first | exact HT.out | exact HT.out.later (below_drew1 (Below.refl _ _)))⟩ ?_ ?_
 rotate_left
 ·simp only [Act.put, zsI, zs0, zs1]
  rfl
 refine take_ (i := 5) (N := some 16) (v := ?_) (a' := ?_) #[true, true, true, true, true, true, false, false, false, false, false] rfl rfl (by kernel_rfl) (fun _ _ _ h => h) (Or.inl ⟨by rfl, ?_⟩) ⟨HT.out.c, Y.out, HLK.out _ (by first | exact HT.out | exact HT.out.later (below_drew1 (Below.refl _ _)))⟩ ?_ ?_
 rotate_left
 ·intro w' hS
  obtain ⟨h1, h2, h3⟩ := hS
  go_simp
  with_reducible rfl
 rotate_left
 ·simp only [Act.put, zsI, zs0, zs1]
  rfl
 refine pure_ (i := 6) (N := some 10) (v := ?_) (a' := ?_) #[true, true, true, true, true, true, true, false, false, false, false] rfl rfl (by kernel_rfl) (fun _ _ _ h => h) (Or.inl ⟨by rfl, ?_⟩) ?_ ?_
 rotate_left
 ·intro w'
  go_simp
  with_reducible rfl
 rotate_left
 ·simp only [Act.put, zsI, zs0, zs1]
  rfl
 refine pure_ (i := 7) (N := some 17) (v := ?_) (a' := ?_) #[true, true, true, true, true, true, true, true, false, false, false] rfl rfl (by kernel_rfl) (fun _ _ _ h => h) (Or.inl ⟨by rfl, ?_⟩) ?_ ?_
 rotate_left
 ·intro w'
  go_simp
  with_reducible rfl
 rotate_left
 ·simp only [Act.put, zsI, zs0, zs1]
  rfl
 refine pure_ (i := 9) (N := some 6) (v := ?_) (a' := ?_) #[true, true, true, true, true, true, true, true, false, true, false] rfl rfl (by kernel_rfl) (fun _ _ _ h => h) (Or.inl ⟨by rfl, ?_⟩) ?_ ?_
 rotate_left
 ·intro w'
  go_simp
  with_reducible rfl
 rotate_left
 ·simp only [Act.put, zsI, zs0, zs1]
  rfl
 refine pure_ (i := 8) (N := some 18) (v := ?_) (a' := ?_) #[true, true, true, true, true, true, true, true, true, true, false] rfl rfl (by kernel_rfl) (fun _ _ _ h => h) (Or.inl ⟨by rfl, ?_⟩) ?_ ?_
 rotate_left
 ·intro w'
  go_simp
  with_reducible rfl
 rotate_left
 ·simp only [Act.put, zsI, zs0, zs1]
  rfl
 refine pure_ (i := 10) (N := some 7) (v := ?_) (a' := ?_) #[true, true, true, true, true, true, true, true, true, true, true] rfl rfl (by kernel_rfl) (fun _ _ _ h => h) (Or.inl ⟨by rfl, ?_⟩) ?_ ?_
 rotate_left
 ·intro w'
  go_simp
  with_reducible rfl
 rotate_left
 ·simp only [Act.put, zsI, zs0, zs1]
  rfl
 refine done_ (by kernel_rfl) ?_
 cases M with
 | false =>
  go_wp2_with fail
  first | rw [HV0.out rfl] | rw [HV0.out trivial] | rw [HV0.out]
  exact bodyPost_ret (v := .tuple #[.int .i64 0, .int .i64 6]) (by simp [results, Try.results48, go_sem]) rfl ⟨rfl, HB.out⟩
 | true =>
  go_wp2_with fail
  exact bodyPost_ret (v := .tuple #[.int .i64 v, .int .i64 0]) (by simp [results, Try.results48, go_sem]) rfl ⟨rfl, HB.out⟩
end Go.Proofs.Ytohhlkabejangaa.Of
