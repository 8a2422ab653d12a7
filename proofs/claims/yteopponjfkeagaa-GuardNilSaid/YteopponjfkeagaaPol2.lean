import Derived.Test.YteopponjfkeagaaPol1
import Derived.Deep.RegionHeld3
import Derived.Deep.RegionLaw
namespace Go.Proofs.Yteopponjfkeagaa.Lat
open Go.RowKit Go.Maps Go.Proofs.YteopponjfkeagaaW.PrintWords Go.Proofs.YteopponjfkeagaaW.PrintLast Go.Proofs.YteopponjfkeagaaW.PrintMore Go.Proofs.Yteopponjfkeagaa.PPol
set_option linter.unusedVariables false
set_option linter.unusedSimpArgs false

/-- which rule goes from where to where -/
def findJ (l : List S58) (a c : Int) : Option Int := (l.findIdx? fun r => decide (r.f0 = a) && decide (r.f1 = c)).map fun i : Nat => (i : Int)
theorem findJ_nil : findJ [] = fun _ _ => none := by funext a c; rfl
theorem findJ_step {l : List S58} {r : S58} (h : findJ l r.f0 r.f1 = none) : findJ (l ++ [r]) = fun i j => if i = r.f0 ∧ j = r.f1 then some (l.length : Int) else findJ l i j := by
  funext i j
  unfold findJ at h ⊢
  rw [List.findIdx?_append]
  by_cases hij : i = r.f0 ∧ j = r.f1
  · obtain ⟨rfl, rfl⟩ := hij
    rw [if_pos ⟨rfl, rfl⟩]
    rw [Option.map_eq_none_iff] at h
    rw [h]
    simp
  · rw [if_neg hij]
    cases hf : l.findIdx? fun q => decide (q.f0 = i) && decide (q.f1 = j) with
    | some k => simp
    | none =>
      have : (decide (r.f0 = i) && decide (r.f1 = j)) = false := by
        rw [Bool.and_eq_false_iff, decide_eq_false_iff_not, decide_eq_false_iff_not]
        by_cases h1 : r.f0 = i
        · exact .inr fun h2 => hij ⟨h1.symm, h2.symm⟩
        · exact .inl h1
      simp [this]
/-- what is wrong with rules, by a lattice, behind others -/
def polW (n : Nat) (F : Nat → Bool) : List S58 → List S58 → Int
  | _, [] => 0
  | pre, r :: rest => if rightF n F r ≠ 0 then rightF n F r else if (findJ pre r.f0 r.f1).isSome then 8 else polW n F (pre ++ [r]) rest
def polNew (n : Nat) (F : Nat → Bool) (l : List S58) : Int := if l.length > 16 then 2 else polW n F [] l
/-- a policy stands there -/
def IsPol (W : World) (pg : Nat) (l : List S58) : Prop :=
  ∃ (pm base : Nat) (u : Value), W.heap[pg]? = some (.cells #[u, .map (some pm)] 90 (0, 0)) ∧ Kd.R k58 58 W base (fun k => k ≠ pm ∧ k ≠ pg) u l ∧ PTab W pm 16 (findJ l)
theorem PTab.mono {w : World} {b m m' : Nat} {J : Int → Int → Option Int} (h : PTab w b m J) (hm : m ≤ m') : PTab w b m' J := by
  obtain ⟨D, ⟨es, clock, hk, F, hs, hD⟩, hi, hJ⟩ := h
  exact ⟨D, ⟨es, clock, hk, F, Nat.le_trans hs hm, hD⟩, hi, hJ⟩
theorem PTab.not_cells {W : World} {b m k : Nat} {J : Int → Int → Option Int} {cs : Array Value} {t : TypeId} (h : PTab W b m J) (hk : W.heap[k]? = some (.cells cs t (0, 0))) : k ≠ b := by
  intro e
  subst e
  obtain ⟨D, ⟨es, clock, hk1, _⟩, _⟩ := h
  rw [hk] at hk1
  exact absurd hk1 (by simp)
theorem IsPol.later {W W' : World} {pg : Nat} {l : List S58} (h : IsPol W pg l) (hb : Below W.heap.size W W') : IsPol W' pg l := by
  obtain ⟨pm, base, u, h1, h2, h3⟩ := h
  exact ⟨pm, base, u, blk_below h1 hb, Kd.R_below h2 hb, h3.later hb⟩
theorem rightF_ok {n : Nat} {F : Nat → Bool} {r : S58} (h : rightF n F r = 0) : 0 ≤ r.f0 ∧ r.f0 < n ∧ 0 ≤ r.f1 ∧ r.f1 < n := by
  unfold rightF at h
  split at h
  · rename_i q
    exact ⟨(inN_iff.1 q.1).1, (inN_iff.1 q.1).2, inN_iff.1 q.2.1⟩
  · exact absurd h (by decide)
theorem take_step {l : List S58} {i : Nat} (h : i < l.length) : l.take (i + 1) = l.take i ++ [rd_T58 l i] := by
  rw [List.take_succ_eq_append_getElem h]
  unfold rd_T58
  rw [Int.toNat_natCast, List.getD_eq_getElem?_getD, List.getElem?_eq_getElem h]
  rfl
theorem drop_step {l : List S58} {i : Nat} (h : i < l.length) : l.drop i = rd_T58 l i :: l.drop (i + 1) := by
  rw [List.drop_eq_getElem_cons h]
  unfold rd_T58
  rw [Int.toNat_natCast, List.getD_eq_getElem?_getD, List.getElem?_eq_getElem h]
  rfl
/-- how it stands while a policy is made -/
def PMaking (B : Nat) (w : World) (pg pm : Nat) (l : List S58) (W : World) : Prop :=
  Below B w W ∧ ∃ u : Value, W.heap[pg]? = some (.cells #[u, .map (some pm)] 90 (0, 0)) ∧ Kd.R k58 58 W B (fun k => k ≠ pm ∧ k ≠ pg) u l ∧ PTab W pm l.length (findJ l)
theorem PMaking.later {w : World} {pg pm : Nat} {l : List S58} {W W' : World} (h : PMaking w.heap.size w pg pm l W) (hb : Below W.heap.size W W') : PMaking w.heap.size w pg pm l W' := by
  obtain ⟨h0, u, h1, h2, h3⟩ := h
  exact ⟨below_step h0 hb, u, blk_below h1 hb, Kd.R_below h2 hb, h3.later hb⟩
def NewPol (n : Nat) (F : Nat → Bool) (l : List S58) (e : Ending) (w' : World) : Prop :=
  (polNew n F l ≠ 0 ∧ e = .returned (.tuple #[.pointer none, .int .i64 (polNew n F l)])) ∨ (polNew n F l = 0 ∧ ∃ pg, e = .returned (.tuple #[P pg, .int .i64 0]) ∧ IsPol w' pg l)

theorem polW_step {n : Nat} {F : Nat → Bool} {pre rest : List S58} {r : S58} (h1 : rightF n F r = 0) (h2 : findJ pre r.f0 r.f1 = none) : polW n F pre (r :: rest) = polW n F (pre ++ [r]) rest := by
  conv => lhs; unfold polW
  rw [if_neg (by rw [h1]; decide), h2]
  rfl
theorem making_step {w w5 w6 : World} {pre : List S58} {r : S58} {u v6 : Value} (hT5 : PTab w5 w.heap.size (pre.length + 1) (findJ (pre ++ [r]))) (hpg6 : w6.heap[w.heap.size + 1]? = some (.cells #[u, .map (some w.heap.size)] 90 (0, 0)))
    (ho6 : Kd.R k58 58 w6 w.heap.size (fun k => k ≠ w.heap.size ∧ k ≠ w.heap.size + 1) v6 (pre ++ [r])) (hb6 : Below w.heap.size w w6) (hg6 : w5.drew.grownBy w6 u.ownBlock) (hu : ∀ k, u.ownBlock = some k → k ≠ w.heap.size ∧ k ≠ w.heap.size + 1) :
    PMaking w.heap.size w (w.heap.size + 1) w.heap.size (pre ++ [r]) (w6.setCell ⟨w.heap.size + 1, 0, none⟩ v6) := by
  have lt5 : w.heap.size < w5.heap.size := by
    obtain ⟨D, ⟨es, clock, hk1, _⟩, _⟩ := hT5
    exact blk_lt hk1
  refine ⟨below_set hb6 (Nat.le_succ _), v6, blk_put hpg6 0 _ rfl, Kd.R_far ho6 (fun k hk => hk.2) _, ?_⟩
  rw [List.length_append]
  exact hT5.at_block ((Below.heap_setCell w6 ⟨w.heap.size + 1, 0, none⟩ v6 w.heap.size (by simp)).trans (hg6.block _ lt5 (fun e => (hu _ e.symm).1 rfl)))
theorem PolNew_nil (w : World) (v : Value) : Calls Try.prog 43 #[.pointer none, v] w fun e w' => e = .returned (.tuple #[.pointer none, .int .i64 7]) ∧ Below w.heap.size w w' := by
  go_enter Try.func43, Try.ntmps43
  go_wp2_with fail
  exact bodyPost_ret (v := .tuple #[.pointer none, .int .i64 7]) (by simp [results, Try.results43, go_sem]) rfl ⟨rfl, Below.refl _ _⟩

set_option maxHeartbeats 4000000 in
set_option maxRecDepth 8000 in
theorem PolNew_calls {w : World} {g n m c : Nat} {F : Nat → Bool} {A : Option Addr} (l : List S58) (hm : Aside0 (l.length = m)) (hn : n ≤ 6) (hS : Sized (P g) n w) (hF : Flowing (P g) (flowsF n F) w) (hC : Kd.C k58 w A m l) :
    Calls Try.prog 43 #[P g, .slice A m c] w fun e w' => NewPol n F l e w' ∧ Below w.heap.size w w' := by
  have hmm := @run_makeMap Try.prog
  have HC := Aside0.mk hC
  have HS := Aside0.mk hS
  have HF := Aside0.mk hF
  have HMAX := Aside0.mk (Kd.C_max hC)
  clear hC hS hF
  by_cases h16 : (16 : Int) < m
  · go_enter Try.func43, Try.ntmps43
    go_wp2_with fail
    have e2 : polNew n F l = 2 := by unfold polNew; rw [hm.out]; exact if_pos (by omega)
    exact bodyPost_ret (v := .tuple #[.pointer none, .int .i64 2]) (by simp [results, Try.results43, go_sem]) rfl ⟨.inl ⟨by rw [e2]; decide, by rw [e2]⟩, Below.refl _ _⟩
  have hm16 : m ≤ 16 := by omega
  have eN : Aside0 (polNew n F l = polW n F [] l) := ⟨by unfold polNew; rw [hm.out]; exact if_neg (by omega)⟩
  have HP : Aside0 (PMaking w.heap.size w (w.heap.size + 1) w.heap.size [] ((w.alloc (.map #[] 0)).alloc (.cells #[.slice none 0 0, .map (some w.heap.size)] 90))) := ⟨by
    have e1 : (w.alloc (.map #[] 0)).heap.size = w.heap.size + 1 := by simp
    have b1 : Below (w.alloc (.map #[] 0)).heap.size (w.alloc (.map #[] 0)) ((w.alloc (.map #[] 0)).alloc (.cells #[.slice none 0 0, .map (some w.heap.size)] 90)) := below_alloc (Below.refl _ _) _
    have g2 := blk_new (w.alloc (.map #[] 0)) (.cells #[.slice none 0 0, .map (some w.heap.size)] 90)
    rw [e1] at g2
    exact ⟨below_alloc (below_alloc (Below.refl _ _) _) _, _, g2, Kd.R_nil _ _ _ _ _, by rw [findJ_nil]; exact (PTab.made w).later b1⟩⟩
  go_enter Try.func43, Try.ntmps43
  go_wp2_with fail
  generalize ((w.alloc (.map #[] 0)).alloc (.cells #[.slice none 0 0, .map (some w.heap.size)] 90)) = W0 at *
  go_loopw [25] (fun x wr => ∃ i : Nat, x = .int .i64 (i : Int) ∧ i ≤ m ∧ Aside0 (polW n F [] l = polW n F (l.take i) (l.drop i)) ∧ Aside0 (PMaking w.heap.size w (w.heap.size + 1) w.heap.size (l.take i) wr)) (fun x _ => m - (intOf x).toNat)
  case atStart => exact ⟨0, rfl, Nat.zero_le _, ⟨rfl⟩, HP⟩
  case round =>
    clear HP
    obtain ⟨i, rfl, hi, HW, HP⟩ := hrel
    by_cases hx : (i : Int) < m
    · obtain ⟨ad, rfl, q0, q1, q2⟩ := at_T58 HC.out i (by omega) hx
      replace q0 := (HP.out.1.cell (World.block_lt_of_cell? w _ q0)).trans q0
      replace q1 := (HP.out.1.cell (World.block_lt_of_cell? w _ q1)).trans q1
      replace q2 := (HP.out.1.cell (World.block_lt_of_cell? w _ q2)).trans q2
      rw [Int.toNat_natCast] at q0 q1 q2
      have htake := Aside0.mk (take_step (l := l) (i := i) (by rw [hm.out]; omega))
      have hdrop := Aside0.mk (drop_step (l := l) (i := i) (by rw [hm.out]; omega))
      generalize rd_T58 l i = r at *
      obtain ⟨x, y, z⟩ := r
      simp only at q0 q1 q2
      go_wp2_with fail
      have HR := Aside0.mk (blk_new wr (.cells #[.int .i64 x, .int .i64 y, .int .i64 z] 58))
      have HP1 := Aside0.mk (HP.out.later (below_alloc (Below.refl wr.heap.size wr) (.cells #[.int .i64 x, .int .i64 y, .int .i64 z] 58)))
      clear HP
      generalize wr.alloc (.cells #[.int .i64 x, .int .i64 y, .int .i64 z] 58) = W1 at *
      generalize wr.heap.size = rb at *
      refine (right_calls (HS.out.later HP1.out.1) (HF.out.later HP1.out.1) ⟨x, y, z⟩).mono ?_
      by_cases hcd : rightF n F ⟨x, y, z⟩ = 0
      case neg =>
        have hpol : Aside0 (polNew n F l = rightF n F ⟨x, y, z⟩) := ⟨by
          rw [eN.out, HW.out, hdrop.out]
          unfold polW
          exact if_pos hcd⟩
        obtain ⟨cd, hcd2⟩ : ∃ cd, rightF n F ⟨x, y, z⟩ = cd := ⟨_, rfl⟩
        rw [hcd2] at hcd hpol ⊢
        clear hcd2
        have hcd3 : (cd == 0) = false := by simpa using hcd
        have hcd4 := Aside0.mk hcd
        rintro e w2 ⟨rfl, hb⟩
        replace hb := Aside0.mk hb
        go_wp2_with fail
        exact bodyPost_ret (v := .tuple #[.pointer none, .int .i64 cd]) (by simp [results, Try.results43, go_sem]) rfl ⟨.inl ⟨by rw [hpol.out]; exact hcd4.out, by rw [hpol.out]⟩, below_step HP1.out.1 hb.out⟩
      have hok := rightF_ok hcd
      simp only at hok
      have hcdA := Aside0.mk hcd
      rw [hcd]
      clear hcd
      rintro e w2 ⟨rfl, hb⟩
      replace HR := Aside0.mk (blk_below HR.out hb)
      have HP2 := Aside0.mk (HP1.out.later hb)
      clear hb HP1
      have c0 : w2.cell? ⟨rb, 0, none⟩ = some (.int .i64 x) := (blk_cell HR.out 0).trans rfl
      have c1 : w2.cell? ⟨rb, 1, none⟩ = some (.int .i64 y) := (blk_cell HR.out 1).trans rfl
      have hrb : rb < w2.heap.size := blk_lt HR.out
      have HWb := Aside0.mk (blk_new w2 (.cells #[.int .i64 x, .int .i64 y] 93))
      have hal := below_alloc (Below.refl w2.heap.size w2) (.cells #[.int .i64 x, .int .i64 y] 93)
      have HP3 := Aside0.mk (HP2.out.later hal)
      have HR3 := Aside0.mk (blk_below HR.out hal)
      clear hal HP2 HR
      go_upto_region 13 with fail
      clear c0 c1
      generalize w2.alloc (.cells #[.int .i64 x, .int .i64 y] 93) = W3 at *
      generalize w2.heap.size = wb at *
      obtain ⟨HB3, u, hpg, hR, hT⟩ := HP3.out
      replace HB3 := Aside0.mk HB3
      replace hpg := Aside0.mk hpg
      replace hR := Aside0.mk hR
      replace hT := Aside0.mk hT
      have okx : Aside0 (okI x) := ⟨okI_small (by omega) (by omega)⟩
      have oky : Aside0 (okI y) := ⟨okI_small (by omega) (by omega)⟩
      have d1 : W3.cell? ⟨w.heap.size + 1, 1, none⟩ = some (.map (some w.heap.size)) := (blk_cell hpg.out 1).trans rfl
      have d2 : W3.cell? ⟨wb, 0, none⟩ = some (.int .i64 x) := (blk_cell HWb.out 0).trans rfl
      have d3 : W3.cell? ⟨wb, 1, none⟩ = some (.int .i64 y) := (blk_cell HWb.out 1).trans rfl
      have lk := (hT.out.later (below_drew (Below.refl _ _))).look okx.out oky.out
      cases hfind : findJ (l.take i) x y with
      | some k =>
        rw [hfind] at lk
        simp only [Option.getD_some, Option.isSome_some] at lk
        have hpol : Aside0 (polNew n F l = 8) := ⟨by
          rw [eN.out, HW.out, hdrop.out]
          unfold polW
          rw [if_neg (by rw [hcdA.out]; decide)]
          simp [hfind]⟩
        clear hfind
        go_region
        go_wp2_with fail
        exact bodyPost_ret (v := .tuple #[.pointer none, .int .i64 8]) (by simp [results, Try.results43, go_sem]) rfl ⟨.inl ⟨by rw [hpol.out]; decide, by rw [hpol.out]⟩, below_drew HB3.out⟩
      | none =>
        rw [hfind] at lk
        simp only [Option.getD_none, Option.isSome_none] at lk
        have HFI := Aside0.mk hfind
        clear hfind
        go_region
        go_upto_region 16 with fail
        have hlen : (l.take i).length = i := by rw [List.length_take]; have := hm.out; omega
        obtain ⟨w5, hrun, hT5, hg5⟩ := ((hT.out.later (below_drew (Below.refl _ _))).later (below_drew (Below.refl _ _))).put (x := (i : Int)) (by rw [hlen]; omega) okx.out oky.out (okI_small (by omega) (by omega))
        have nrm : rb ≠ w.heap.size := hT.out.not_cells HR3.out
        have nrp : rb ≠ w.heap.size + 1 := blk_ne HR3.out hpg.out (by decide)
        have hpg5 := Aside0.mk ((hg5.block _ (blk_lt hpg.out) (fun e => absurd (Option.some.inj e) (by omega))).trans hpg.out)
        have HR5 := Aside0.mk ((hg5.block _ (blk_lt HR3.out) (fun e => nrm (Option.some.inj e))).trans HR3.out)
        have hR5 := Aside0.mk (Kd.R_grown (Kd.R_below (Kd.R_below hR.out (below_drew (Below.refl _ _))) (below_drew (Below.refl _ _))) hg5 (fun k hk e => hk.1 (Option.some.inj e)))
        have HB5 := Aside0.mk ((below_drew (below_drew HB3.out)).grown hg5 (Nat.le_trans (Nat.le_succ _) (Nat.le_of_lt (blk_lt hpg.out))) (fun q e => by cases e; exact Nat.le_refl _))
        have hT5 := Aside0.mk hT5
        replace hrun := hrun
        have hst := Aside0.mk (findJ_step (l := l.take i) (r := ⟨x, y, z⟩) HFI.out)
        have HT6 : Aside0 (PTab w5 w.heap.size ((l.take i).length + 1) (findJ (l.take i ++ [⟨x, y, z⟩]))) := ⟨by rw [hst.out]; simp only [hlen]; rw [hlen] at hT5; exact hT5.out⟩
        have HNEXT : Aside0 (polW n F [] l = polW n F (l.take (i + 1)) (l.drop (i + 1))) := ⟨by rw [HW.out, hdrop.out, htake.out]; exact polW_step hcdA.out HFI.out⟩
        go_region
        clear hg5 hrun lk d1 d2 d3
        go_upto_region 17 with fail
        have s0 : w5.cell? ⟨w.heap.size + 1, 0, none⟩ = some u := (blk_cell hpg5.out 0).trans rfl
        have s1 : w5.cell? ⟨rb, 0, none⟩ = some (.int .i64 x) := (blk_cell HR5.out 0).trans rfl
        have s2 : w5.cell? ⟨rb, 1, none⟩ = some (.int .i64 y) := (blk_cell HR5.out 1).trans rfl
        have s3 : w5.cell? ⟨rb, 2, none⟩ = some (.int .i64 z) := (blk_cell HR5.out 2).trans rfl
        have pl5 := blk_lt hpg5.out
        have hRd := Aside0.mk (Kd.R_below hR5.out (below_drew (Below.refl _ _)))
        have HBd := Aside0.mk (below_drew HB5.out)
        have nup : ∀ k, u.ownBlock = some k → k ≠ w.heap.size ∧ k ≠ w.heap.size + 1 := hR5.out.1
        replace nup := Aside0.mk nup
        go_region_law (refine Kd.R_append_step k58 (w0 := w) (W := w5.drew) w.heap.size (by rfl) (.tmp 61) (.tmp 63) 47 58 (.agg #[(.int .i64 0), (.int .i64 0), (.int .i64 0)]) 24 (by rfl) Try.underlying47 info58 (by rfl) (by decide) (by decide) u (l.take i) ⟨x, y, z⟩ [.int .i64 x, .int .i64 y, .int .i64 z] (fun k => k ≠ w.heap.size ∧ k ≠ w.heap.size + 1) (fun _ => False) (by first | rfl | simp [Act.eval, Act.put]) (by first | rfl | simp [Act.eval, Act.put]) (k58_mkM _ _ _ _) (fun _ hk => hk.elim) ?aF ?aO ?aB ?aS ?aL ?_; (case aF => exact fun k hk => ⟨by have hk : w5.heap.size ≤ k := hk; omega, by have hk : w5.heap.size ≤ k := hk; omega⟩); (case aO => exact hRd.out); (case aB => exact HBd.out); (case aS => exact Nat.le_trans (Nat.le_succ _) (Nat.le_of_lt pl5)); (case aL => rw [hlen]; omega); intro v6 w6 ho6 hb6 hg6 hat6; obtain ⟨A6, c6, rfl, _, _⟩ := Kd.R_reads ho6; have hpg6 := Aside0.mk ((hg6.block _ pl5 (fun e => (nup.out _ e.symm).2 rfl)).trans hpg5.out); have t0 : w6.cell? ⟨w.heap.size + 1, 0, none⟩ = some u := (blk_cell hpg6.out 0).trans rfl; have t1 : w6.frozen? ⟨w.heap.size + 1, 0, none⟩ = false := blk_frozen hpg6.out 0; replace ho6 := Aside0.mk ho6; replace hb6 := Aside0.mk hb6; replace hg6 := Aside0.mk hg6; clear hat6)
        all_goals
          go_wp2_with fail
          have e7 : (l.take i ++ [(⟨x, y, z⟩ : S58)]).length = i + 1 := by rw [List.length_append, hlen]; rfl
          have ho7 := ho6.out
          rw [e7] at ho7
          exact ⟨⟨i + 1, rfl, by omega, HNEXT, ⟨by rw [htake.out]; exact making_step HT6.out hpg6.out ho7 hb6.out hg6.out nup.out⟩⟩, by simp [intOf]; omega⟩
    · obtain rfl : m = i := by omega
      go_wp2_with fail
      have hpol : polNew n F l = 0 := by
        rw [eN.out, HW.out, List.drop_eq_nil_of_le (by rw [hm.out]; exact Nat.le_refl _)]
        rfl
      obtain ⟨HB, u, h1, h2, h3⟩ := HP.out
      rw [List.take_of_length_le (by rw [hm.out]; exact Nat.le_refl _)] at h2 h3
      exact bodyPost_ret (v := .tuple #[P (w.heap.size + 1), .int .i64 0]) (by simp [results, Try.results43, go_sem]) rfl ⟨.inr ⟨hpol, _, rfl, _, _, u, h1, h2, h3.mono (by rw [hm.out]; exact hm16)⟩, HB⟩
end Go.Proofs.Yteopponjfkeagaa.Lat
