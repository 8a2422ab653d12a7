import Derived.Test.YteopponjfkeagaaMc
import Derived.Test.YteopponjfkeagaaPPolx0
import Derived.Deep.RegionHeld3
import Derived.Deep.RegionLaw
namespace Go.Proofs.Yteopponjfkeagaa.Lat
open Go.RowKit Go.Maps Go.Proofs.YteopponjfkeagaaW.PrintWords Go.Proofs.YteopponjfkeagaaW.PrintLast Go.Proofs.YteopponjfkeagaaW.PrintMore Go.Proofs.Yteopponjfkeagaa.PPol
set_option linter.unusedVariables false
set_option linter.unusedSimpArgs false

theorem pick_zero (T : Int → Bool) : pick T 0 = [] := rfl
theorem no_cells {w : World} {base : Nat} {u : Value} (h : Kd.R (Kd.int .i64) 3 w base (fun _ => True) u []) : ∃ A c, u = .slice A 0 c := by
  obtain ⟨A, c, rfl, _, _⟩ := Kd.R_reads h
  exact ⟨A, c, rfl⟩
theorem way_law : Keyed Try.prog 93 := Keyed.of_law (deep_law_gate (by kernel_rfl) (by decide +kernel) (by decide +kernel) (by kernel_rfl) (by kernel_rfl))
theorem way_key (a b : Int) (ha : (Lit.int .i64 a).wf = true) (hb : (Lit.int .i64 b).wf = true) : keyOf Try.prog 93 (pairV a b) = some (kl a b) := by
  have h1 : Try.prog.keyType 93 = true := by kernel_rfl
  have h2 : Value.formed Try.prog 93 (pairV a b) = true := by first | kernel_rfl | rfl | simp [Value.formed]
  have c82 : Try.prog.cellsOf 93 = 2 := by kernel_rfl
  have c3 : Try.prog.cellsOf 3 = 1 := by kernel_rfl
  have h3 : Try.prog.keyLits (Try.prog.types.size + 1) 93 [.int .i64 a, .int .i64 b] = some [.int .i64 a, .int .i64 b] := by
    have hp : 0 < Try.prog.types.size := by decide +kernel
    obtain ⟨m, hm⟩ : ∃ m, Try.prog.types.size + 1 = m + 2 := ⟨Try.prog.types.size - 1, by omega⟩
    rw [hm]
    simp [Program.keyLits, Try.underlying93, Try.underlying3, ha, hb, c82, c3]
  unfold keyOf
  rw [Try.underlying93]
  simp only [h1, h2, Bool.and_self, if_true]
  have h4 : (pairV a b).cells.toList = [.int .i64 a, .int .i64 b] := rfl
  rw [h4, h3]
  rfl
theorem way_inj {a b c d : Int} (ha : okI a) (hb : okI b) (hc : okI c) (hd : okI d) (h : kl a b = kl c d) : a = c ∧ b = d := kl_inj ha hb hc hd h
/-- block b is the map of a policy: by which rule one goes from where to where -/
def PTab (w : World) (b m : Nat) (J : Int → Int → Option Int) : Prop :=
  ∃ D : DataW Unit, w.ownsMap Try.prog 93 (plainElem Try.prog 3) b m D ∧ IsMap D ∧ ∀ a c, okI a → okI c → D.atKey (kl a c) (.lit (.int .i64 0)) = .lit (.int .i64 ((J a c).getD 0)) ∧ Maps.has D (kl a c) = (J a c).isSome
theorem PTab.look {w : World} {b m : Nat} {J : Int → Int → Option Int} (h : PTab w b m J) {a c : Int} (ha : okI a) (hc : okI c) : (Instr.lookup 88 (.map (some b)) (pairV a c) true).run Try.prog w = .ok (.tuple #[.int .i64 ((J a c).getD 0), .bool (J a c).isSome]) w := by
  obtain ⟨D, ho, hi, hJ⟩ := h
  obtain ⟨v, ps, hrun, hv⟩ := ho.look_ok way_law Try.underlying88 (zero_int w) (plainElem_int Try.underlying3 (by decide)) (way_key a c ha hc)
  obtain ⟨x, rfl, hx, _⟩ := plainElem_int_inv Try.underlying3 hv
  have hx := congrArg Prod.fst hx
  simp only at hx
  rw [(hJ a c ha hc).1] at hx
  injection hx with hx
  injection hx with _ hx
  rw [hrun, (hJ a c ha hc).2, hx]
theorem PTab.later {w w' : World} {b m : Nat} {J : Int → Int → Option Int} (h : PTab w b m J) (hb : Below w.heap.size w w') : PTab w' b m J := by
  obtain ⟨D, ho, hi, hJ⟩ := h
  obtain ⟨es, clock, hk, F, hs, hD⟩ := ho
  exact ⟨D, ⟨es, clock, blk_below hk hb, F, hs, hD⟩, hi, hJ⟩
theorem PTab.at_block {w w' : World} {b m : Nat} {J : Int → Int → Option Int} (h : PTab w b m J) (hb : w'.heap[b]? = w.heap[b]?) : PTab w' b m J := by
  obtain ⟨D, ho, hi, hJ⟩ := h
  obtain ⟨es, clock, hk, F, hs, hD⟩ := ho
  exact ⟨D, ⟨es, clock, hb.trans hk, F, hs, hD⟩, hi, hJ⟩
theorem PTab.made (w : World) : PTab (w.alloc (.map #[] 0)) w.heap.size 0 (fun _ _ => none) :=
  ⟨_, World.ownsMap_made w _ _ _, ⟨_, rfl⟩, fun a c _ _ => ⟨rfl, rfl⟩⟩
theorem PTab.put {w : World} {b m : Nat} {J : Int → Int → Option Int} (h : PTab w b m J) (hm : m < 1000) {a c x : Int} (ha : okI a) (hc : okI c) (hx : okI x) :
    ∃ w', (Instr.mapUpdate 88 (.map (some b)) (pairV a c) (.int .i64 x)).run Try.prog w = .ok () w' ∧ PTab w' b (m + 1) (fun i j => if i = a ∧ j = c then some x else J i j) ∧ w.grownBy w' (some b) := by
  obtain ⟨D, ho, hi, hJ⟩ := h
  obtain ⟨w', hrun, ho', hg⟩ := ho.update way_law Try.underlying88 (by unfold maxLen; omega) (way_key a c ha hc) (plainElem_int Try.underlying3 hx)
  refine ⟨w', hrun, ⟨_, ho', ?_, fun i j h1 h2 => ?_⟩, hg⟩
  · exact ho'.isMap
  · by_cases hij : i = a ∧ j = c
    · obtain ⟨rfl, rfl⟩ := hij
      rw [atKey_put_same hi (way_law.key (way_key i j ha hc)), has_put_same hi (way_law.key (way_key i j ha hc))]
      simp
    · rw [atKey_put_other (fun e => hij (way_inj h1 h2 ha hc e)), has_put_other (fun e => hij (way_inj h1 h2 ha hc e))]
      simp only [if_neg hij]
      exact hJ i j h1 h2

/-- may a rule be, apart from others -/
def rightF (n : Nat) (F : Nat → Bool) (r : S58) : Int :=
  if inN n r.f0 = true ∧ inN n r.f1 = true ∧ 1 ≤ r.f2 ∧ r.f2 ≤ 1048576 then (if r.f0 ≠ r.f1 ∧ flowsF n F r.f1 r.f0 = true then 0 else 4) else 1
abbrev ruleV (r : S58) : Value := .agg #[.int .i64 r.f0, .int .i64 r.f1, .int .i64 r.f2]
theorem right1_calls {w : World} {g n : Nat} (lb : Nat) (hS : Sized (P g) n w) (hl : w.heap[lb]? = some (.cells #[P g] 25 (0, 0))) (a : Int) :
    Calls Try.prog 78 #[.int .i64 a, .pointer (some ⟨lb, 0, none⟩)] w fun e w' => e = .returned (.bool (inN n a)) ∧ Below w.heap.size w w' := by
  have c1 : w.cell? ⟨lb, 0, none⟩ = some (P g) := (blk_cell hl 0).trans rfl
  clear hl
  by_cases ha : 0 ≤ a
  · go_enter Try.func78, Try.ntmps78
    go_wp2_with fail
    refine (hS _ (Below.refl _ _)).mono ?_
    rintro e w1 ⟨rfl, hb⟩
    go_wp2_with fail
    go_ret
    exact ⟨by simp [inN, ha, ← Int.not_le], hb⟩
  · go_enter Try.func78, Try.ntmps78
    go_wp2_with fail
    go_ret
    exact ⟨by unfold inN; rw [decide_eq_false (by omega)]; rfl, Below.refl _ _⟩
set_option maxHeartbeats 4000000 in
theorem right_calls {w : World} {g n : Nat} {F : Nat → Bool} (hS : Sized (P g) n w) (hF : Flowing (P g) (flowsF n F) w) (r : S58) :
    Calls Try.prog 72 #[P g, ruleV r] w fun e w' => e = .returned (.int .i64 (rightF n F r)) ∧ Below w.heap.size w w' := by
  have hmf : ∀ (fn : Fn) (first cap : Array Value) (w : World), (Instr.makeFunc fn first cap).run Try.prog w = .ok (.func fn first cap) w := fun _ _ _ _ => rfl
  have hk : ∀ args W, (callFunc 78 args).run Try.prog W = .ok (.enter 78 args) W := fun _ _ => enters_ Try.func78 (by kernel_rfl) rfl _ _
  obtain ⟨x, y, z⟩ := r
  have HP := Aside0.mk (blk_alloc (blk_new w (.cells #[P g] 25)) (.cells #[.int .i64 x, .int .i64 y, .int .i64 z] 58))
  have HR := Aside0.mk (blk_new (w.alloc (.cells #[P g] 25)) (.cells #[.int .i64 x, .int .i64 y, .int .i64 z] 58))
  have e1 : (w.alloc (.cells #[P g] 25)).heap.size = w.heap.size + 1 := by simp
  rw [e1] at HR
  have HB := Aside0.mk (below_alloc (below_alloc (Below.refl w.heap.size w) (.cells #[P g] 25)) (.cells #[.int .i64 x, .int .i64 y, .int .i64 z] 58))
  have FACTS : Aside0 (∀ V, Below ((w.alloc (.cells #[P g] 25)).alloc (.cells #[.int .i64 x, .int .i64 y, .int .i64 z] 58)).heap.size ((w.alloc (.cells #[P g] 25)).alloc (.cells #[.int .i64 x, .int .i64 y, .int .i64 z] 58)) V → V.cell? ⟨w.heap.size, 0, none⟩ = some (P g) ∧ V.cell? ⟨w.heap.size + 1, 0, none⟩ = some (.int .i64 x) ∧ V.cell? ⟨w.heap.size + 1, 1, none⟩ = some (.int .i64 y) ∧ V.cell? ⟨w.heap.size + 1, 2, none⟩ = some (.int .i64 z)) := ⟨fun V hV => ⟨(blk_cell (blk_below HP.out hV) 0).trans rfl, (blk_cell (blk_below HR.out hV) 0).trans rfl, (blk_cell (blk_below HR.out hV) 1).trans rfl, (blk_cell (blk_below HR.out hV) 2).trans rfl⟩⟩
  have HS := Aside0.mk (hS.later HB.out)
  have HF := Aside0.mk (hF.later HB.out)
  clear hS hF e1 HR
  obtain ⟨res, hres⟩ : ∃ res, rightF n F ⟨x, y, z⟩ = res := ⟨_, rfl⟩
  rw [hres]
  have one : ¬ (inN n x = true ∧ inN n y = true ∧ 1 ≤ z ∧ z ≤ 1048576) → res = 1 := fun h => by rw [← hres]; unfold rightF; exact if_neg h
  have two : (inN n x = true ∧ inN n y = true ∧ 1 ≤ z ∧ z ≤ 1048576) → res = if x ≠ y ∧ flowsF n F y x = true then 0 else 4 := fun h => by rw [← hres]; unfold rightF; exact if_pos h
  clear hres
  replace one := Aside0.mk one
  replace two := Aside0.mk two
  have F2 := Aside0.mk (FACTS.out _ (Below.refl _ _))
  go_enter Try.func72, Try.ntmps72
  have HV := Aside0.mk (Below.refl ((w.alloc (.cells #[P g] 25)).alloc (.cells #[.int .i64 x, .int .i64 y, .int .i64 z] 58)).heap.size ((w.alloc (.cells #[P g] 25)).alloc (.cells #[.int .i64 x, .int .i64 y, .int .i64 z] 58)))
  go_wp2_with fail
  generalize (w.alloc (.cells #[P g] 25)).alloc (.cells #[.int .i64 x, .int .i64 y, .int .i64 z] 58) = W at *
  refine (right1_calls w.heap.size HS.out HP.out x).mono ?_
  cases hx : inN n x
  · obtain rfl := one.out (fun q => by rw [hx] at q; exact absurd q.1 (by decide))
    rintro e w1 ⟨rfl, hb⟩
    go_wp2_with fail
    go_ret
    exact ⟨rfl, below_step HB.out hb⟩
  rintro e w1 ⟨rfl, hb⟩
  replace HS := Aside0.mk (HS.out.later hb)
  replace HF := Aside0.mk (HF.out.later hb)
  replace HP := Aside0.mk (blk_below HP.out hb)
  replace HB := Aside0.mk (below_step HB.out hb)
  replace HV := Aside0.mk hb
  clear hb
  obtain ⟨_, c0, c1, c2⟩ := FACTS.out _ HV.out
  go_wp2_with fail
  refine (right1_calls w.heap.size HS.out HP.out y).mono ?_
  cases hy : inN n y
  · obtain rfl := one.out (fun q => by rw [hy] at q; exact absurd q.2.1 (by decide))
    rintro e w2 ⟨rfl, hb⟩
    go_wp2_with fail
    go_ret
    exact ⟨rfl, below_step HB.out hb⟩
  rintro e w2 ⟨rfl, hb⟩
  replace HS := Aside0.mk (HS.out.later hb)
  replace HF := Aside0.mk (HF.out.later hb)
  replace HV := Aside0.mk (below_step HV.out hb)
  replace HB := Aside0.mk (below_step HB.out hb)
  clear hb c0 c1 c2 HP
  obtain ⟨cp, c0, c1, c2⟩ := FACTS.out _ HV.out
  by_cases hz : z < 1
  · obtain rfl := one.out (fun q => absurd q.2.2.1 (by omega))
    go_wp2_with fail
    go_ret
    exact ⟨rfl, HB.out⟩
  by_cases hz2 : 1048576 < z
  · obtain rfl := one.out (fun q => absurd q.2.2.2 (by omega))
    go_wp2_with fail
    go_ret
    exact ⟨rfl, HB.out⟩
  have two := Aside0.mk (two.out ⟨hx, hy, by omega, by omega⟩)
  by_cases hxy : x = y
  · subst hxy
    obtain rfl := two.out.trans (if_neg (fun q => q.1 rfl))
    go_wp2_with fail
    go_ret
    exact ⟨rfl, HB.out⟩
  have hxy2 : (x == y) = false := by simpa using hxy
  go_wp2_with fail
  refine (HF.out _ (Below.refl _ _) y x).mono ?_
  cases hfl : flowsF n F y x
  · obtain rfl := two.out.trans (if_neg (fun q => by rw [hfl] at q; exact absurd q.2 (by decide)))
    rintro e w3 ⟨rfl, hb⟩
    go_wp2_with fail
    go_ret
    exact ⟨rfl, below_step HB.out hb⟩
  · obtain rfl := two.out.trans (if_pos ⟨hxy, hfl⟩)
    rintro e w3 ⟨rfl, hb⟩
    go_wp2_with fail
    go_ret
    exact ⟨rfl, below_step HB.out hb⟩
/-- which rule goes from where to where -/
def findJ (l : List S58) (a c : Int) : Option Int := (l.findIdx? fun r => decide (r.f0 = a) && decide (r.f1 = c)).map fun i : Nat => (i : Int)
theorem findJ_nil : findJ [] = fun _ _ => none := by funext a c; rfl
theorem findJ_step {l : List S58} {r : S58} (h : findJ l r.f0 r.f1 = none) : findJ (l ++ [r]) = fun i j => if i = r.f0 ∧ j = r.f1 then some (l.length : Int) else findJ l i j := by
  funext i j
  unfold findJ at h ⊢
  rw [List.findIdx?_append]
  by_cases hij : i = r.f0 ∧ j = r.f1
  · obtain ⟨rfl, rfl⟩ := hij
    rw [if_pos ⟨rfl, rfl⟩]
    rw [Option.map_eq_none_iff] at h
    rw [h]
    simp
  · rw [if_neg hij]
    cases hf : l.findIdx? fun q => decide (q.f0 = i) && decide (q.f1 = j) with
    | some k => simp
    | none =>
      have : (decide (r.f0 = i) && decide (r.f1 = j)) = false := by
        rw [Bool.and_eq_false_iff, decide_eq_false_iff_not, decide_eq_false_iff_not]
        by_cases h1 : r.f0 = i
        · exact .inr fun h2 => hij ⟨h1.symm, h2.symm⟩
        · exact .inl h1
      simp [this]
/-- what is wrong with rules, by a lattice, behind others -/
def polW (n : Nat) (F : Nat → Bool) : List S58 → List S58 → Int
  | _, [] => 0
  | pre, r :: rest => if rightF n F r ≠ 0 then rightF n F r else if (findJ pre r.f0 r.f1).isSome then 8 else polW n F (pre ++ [r]) rest
def polNew (n : Nat) (F : Nat → Bool) (l : List S58) : Int := if l.length > 16 then 2 else polW n F [] l
/-- a policy stands there -/
def IsPol (W : World) (pg : Nat) (l : List S58) : Prop :=
  ∃ (pm base : Nat) (u : Value), W.heap[pg]? = some (.cells #[u, .map (some pm)] 90 (0, 0)) ∧ Kd.R k58 58 W base (fun k => k ≠ pm ∧ k ≠ pg) u l ∧ PTab W pm 16 (findJ l)
theorem PTab.mono {w : World} {b m m' : Nat} {J : Int → Int → Option Int} (h : PTab w b m J) (hm : m ≤ m') : PTab w b m' J := by
  obtain ⟨D, ⟨es, clock, hk, F, hs, hD⟩, hi, hJ⟩ := h
  exact ⟨D, ⟨es, clock, hk, F, Nat.le_trans hs hm, hD⟩, hi, hJ⟩
theorem PTab.not_cells {W : World} {b m k : Nat} {J : Int → Int → Option Int} {cs : Array Value} {t : TypeId} (h : PTab W b m J) (hk : W.heap[k]? = some (.cells cs t (0, 0))) : k ≠ b := by
  intro e
  subst e
  obtain ⟨D, ⟨es, clock, hk1, _⟩, _⟩ := h
  rw [hk] at hk1
  exact absurd hk1 (by simp)
theorem IsPol.later {W W' : World} {pg : Nat} {l : List S58} (h : IsPol W pg l) (hb : Below W.heap.size W W') : IsPol W' pg l := by
  obtain ⟨pm, base, u, h1, h2, h3⟩ := h
  exact ⟨pm, base, u, blk_below h1 hb, Kd.R_below h2 hb, h3.later hb⟩
theorem rightF_ok {n : Nat} {F : Nat → Bool} {r : S58} (h : rightF n F r = 0) : 0 ≤ r.f0 ∧ r.f0 < n ∧ 0 ≤ r.f1 ∧ r.f1 < n := by
  unfold rightF at h
  split at h
  · rename_i q
    exact ⟨(inN_iff.1 q.1).1, (inN_iff.1 q.1).2, inN_iff.1 q.2.1⟩
  · exact absurd h (by decide)
theorem take_step {l : List S58} {i : Nat} (h : i < l.length) : l.take (i + 1) = l.take i ++ [rd_T58 l i] := by
  rw [List.take_succ_eq_append_getElem h]
  unfold rd_T58
  rw [Int.toNat_natCast, List.getD_eq_getElem?_getD, List.getElem?_eq_getElem h]
  rfl
theorem drop_step {l : List S58} {i : Nat} (h : i < l.length) : l.drop i = rd_T58 l i :: l.drop (i + 1) := by
  rw [List.drop_eq_getElem_cons h]
  unfold rd_T58
  rw [Int.toNat_natCast, List.getD_eq_getElem?_getD, List.getElem?_eq_getElem h]
  rfl
/-- how it stands while a policy is made -/
def PMaking (B : Nat) (w : World) (pg pm : Nat) (l : List S58) (W : World) : Prop :=
  Below B w W ∧ ∃ u : Value, W.heap[pg]? = some (.cells #[u, .map (some pm)] 90 (0, 0)) ∧ Kd.R k58 58 W B (fun k => k ≠ pm ∧ k ≠ pg) u l ∧ PTab W pm l.length (findJ l)
theorem PMaking.later {w : World} {pg pm : Nat} {l : List S58} {W W' : World} (h : PMaking w.heap.size w pg pm l W) (hb : Below W.heap.size W W') : PMaking w.heap.size w pg pm l W' := by
  obtain ⟨h0, u, h1, h2, h3⟩ := h
  exact ⟨below_step h0 hb, u, blk_below h1 hb, Kd.R_below h2 hb, h3.later hb⟩
def NewPol (n : Nat) (F : Nat → Bool) (l : List S58) (e : Ending) (w' : World) : Prop :=
  (polNew n F l ≠ 0 ∧ e = .returned (.tuple #[.pointer none, .int .i64 (polNew n F l)])) ∨ (polNew n F l = 0 ∧ ∃ pg, e = .returned (.tuple #[P pg, .int .i64 0]) ∧ IsPol w' pg l)

theorem polW_step {n : Nat} {F : Nat → Bool} {pre rest : List S58} {r : S58} (h1 : rightF n F r = 0) (h2 : findJ pre r.f0 r.f1 = none) : polW n F pre (r :: rest) = polW n F (pre ++ [r]) rest := by
  conv => lhs; unfold polW
  rw [if_neg (by rw [h1]; decide), h2]
  rfl
theorem making_step {w w5 w6 : World} {pre : List S58} {r : S58} {u v6 : Value} (hT5 : PTab w5 w.heap.size (pre.length + 1) (findJ (pre ++ [r]))) (hpg6 : w6.heap[w.heap.size + 1]? = some (.cells #[u, .map (some w.heap.size)] 90 (0, 0)))
    (ho6 : Kd.R k58 58 w6 w.heap.size (fun k => k ≠ w.heap.size ∧ k ≠ w.heap.size + 1) v6 (pre ++ [r])) (hb6 : Below w.heap.size w w6) (hg6 : w5.drew.grownBy w6 u.ownBlock) (hu : ∀ k, u.ownBlock = some k → k ≠ w.heap.size ∧ k ≠ w.heap.size + 1) :
    PMaking w.heap.size w (w.heap.size + 1) w.heap.size (pre ++ [r]) (w6.setCell ⟨w.heap.size + 1, 0, none⟩ v6) := by
  have lt5 : w.heap.size < w5.heap.size := by
    obtain ⟨D, ⟨es, clock, hk1, _⟩, _⟩ := hT5
    exact blk_lt hk1
  refine ⟨below_set hb6 (Nat.le_succ _), v6, blk_put hpg6 0 _ rfl, Kd.R_far ho6 (fun k hk => hk.2) _, ?_⟩
  rw [List.length_append]
  exact hT5.at_block ((Below.heap_setCell w6 ⟨w.heap.size + 1, 0, none⟩ v6 w.heap.size (by simp)).trans (hg6.block _ lt5 (fun e => (hu _ e.symm).1 rfl)))
theorem PolNew_nil (w : World) (v : Value) : Calls Try.prog 43 #[.pointer none, v] w fun e w' => e = .returned (.tuple #[.pointer none, .int .i64 7]) ∧ Below w.heap.size w w' := by
  go_enter Try.func43, Try.ntmps43
  go_wp2_with fail
  exact bodyPost_ret (v := .tuple #[.pointer none, .int .i64 7]) (by simp [results, Try.results43, go_sem]) rfl ⟨rfl, Below.refl _ _⟩

set_option maxHeartbeats 4000000 in
set_option maxRecDepth 8000 in
theorem PolNew_calls {w : World} {g n m c : Nat} {F : Nat → Bool} {A : Option Addr} (l : List S58) (hm : Aside0 (l.length = m)) (hn : n ≤ 6) (hS : Sized (P g) n w) (hF : Flowing (P g) (flowsF n F) w) (hC : Kd.C k58 w A m l) :
    Calls Try.prog 43 #[P g, .slice A m c] w fun e w' => NewPol n F l e w' ∧ Below w.heap.size w w' := by
  have hmm := @run_makeMap Try.prog
  have HC := Aside0.mk hC
  have HS := Aside0.mk hS
  have HF := Aside0.mk hF
  have HMAX := Aside0.mk (Kd.C_max hC)
  clear hC hS hF
  by_cases h16 : (16 : Int) < m
  · go_enter Try.func43, Try.ntmps43
    go_wp2_with fail
    have e2 : polNew n F l = 2 := by unfold polNew; rw [hm.out]; exact if_pos (by omega)
    exact bodyPost_ret (v := .tuple #[.pointer none, .int .i64 2]) (by simp [results, Try.results43, go_sem]) rfl ⟨.inl ⟨by rw [e2]; decide, by rw [e2]⟩, Below.refl _ _⟩
  have hm16 : m ≤ 16 := by omega
  have eN : Aside0 (polNew n F l = polW n F [] l) := ⟨by unfold polNew; rw [hm.out]; exact if_neg (by omega)⟩
  have HP : Aside0 (PMaking w.heap.size w (w.heap.size + 1) w.heap.size [] ((w.alloc (.map #[] 0)).alloc (.cells #[.slice none 0 0, .map (some w.heap.size)] 90))) := ⟨by
    have e1 : (w.alloc (.map #[] 0)).heap.size = w.heap.size + 1 := by simp
    have b1 : Below (w.alloc (.map #[] 0)).heap.size (w.alloc (.map #[] 0)) ((w.alloc (.map #[] 0)).alloc (.cells #[.slice none 0 0, .map (some w.heap.size)] 90)) := below_alloc (Below.refl _ _) _
    have g2 := blk_new (w.alloc (.map #[] 0)) (.cells #[.slice none 0 0, .map (some w.heap.size)] 90)
    rw [e1] at g2
    exact ⟨below_alloc (below_alloc (Below.refl _ _) _) _, _, g2, Kd.R_nil _ _ _ _ _, by rw [findJ_nil]; exact (PTab.made w).later b1⟩⟩
  go_enter Try.func43, Try.ntmps43
  go_wp2_with fail
  generalize ((w.alloc (.map #[] 0)).alloc (.cells #[.slice none 0 0, .map (some w.heap.size)] 90)) = W0 at *
  go_loopw [25] (fun x wr => ∃ i : Nat, x = .int .i64 (i : Int) ∧ i ≤ m ∧ Aside0 (polW n F [] l = polW n F (l.take i) (l.drop i)) ∧ Aside0 (PMaking w.heap.size w (w.heap.size + 1) w.heap.size (l.take i) wr)) (fun x _ => m - (intOf x).toNat)
  case atStart => exact ⟨0, rfl, Nat.zero_le _, ⟨rfl⟩, HP⟩
  case round =>
    clear HP
    obtain ⟨i, rfl, hi, HW, HP⟩ := hrel
    by_cases hx : (i : Int) < m
    · obtain ⟨ad, rfl, q0, q1, q2⟩ := at_T58 HC.out i (by omega) hx
      replace q0 := (HP.out.1.cell (World.block_lt_of_cell? w _ q0)).trans q0
      replace q1 := (HP.out.1.cell (World.block_lt_of_cell? w _ q1)).trans q1
      replace q2 := (HP.out.1.cell (World.block_lt_of_cell? w _ q2)).trans q2
      rw [Int.toNat_natCast] at q0 q1 q2
      have htake := Aside0.mk (take_step (l := l) (i := i) (by rw [hm.out]; omega))
      have hdrop := Aside0.mk (drop_step (l := l) (i := i) (by rw [hm.out]; omega))
      generalize rd_T58 l i = r at *
      obtain ⟨x, y, z⟩ := r
      simp only at q0 q1 q2
      go_wp2_with fail
      have HR := Aside0.mk (blk_new wr (.cells #[.int .i64 x, .int .i64 y, .int .i64 z] 58))
      have HP1 := Aside0.mk (HP.out.later (below_alloc (Below.refl wr.heap.size wr) (.cells #[.int .i64 x, .int .i64 y, .int .i64 z] 58)))
      clear HP
      generalize wr.alloc (.cells #[.int .i64 x, .int .i64 y, .int .i64 z] 58) = W1 at *
      generalize wr.heap.size = rb at *
      refine (right_calls (HS.out.later HP1.out.1) (HF.out.later HP1.out.1) ⟨x, y, z⟩).mono ?_
      by_cases hcd : rightF n F ⟨x, y, z⟩ = 0
      case neg =>
        have hpol : Aside0 (polNew n F l = rightF n F ⟨x, y, z⟩) := ⟨by
          rw [eN.out, HW.out, hdrop.out]
          unfold polW
          exact if_pos hcd⟩
        obtain ⟨cd, hcd2⟩ : ∃ cd, rightF n F ⟨x, y, z⟩ = cd := ⟨_, rfl⟩
        rw [hcd2] at hcd hpol ⊢
        clear hcd2
        have hcd3 : (cd == 0) = false := by simpa using hcd
        have hcd4 := Aside0.mk hcd
        rintro e w2 ⟨rfl, hb⟩
        replace hb := Aside0.mk hb
        go_wp2_with fail
        exact bodyPost_ret (v := .tuple #[.pointer none, .int .i64 cd]) (by simp [results, Try.results43, go_sem]) rfl ⟨.inl ⟨by rw [hpol.out]; exact hcd4.out, by rw [hpol.out]⟩, below_step HP1.out.1 hb.out⟩
      have hok := rightF_ok hcd
      simp only at hok
      have hcdA := Aside0.mk hcd
      rw [hcd]
      clear hcd
      rintro e w2 ⟨rfl, hb⟩
      replace HR := Aside0.mk (blk_below HR.out hb)
      have HP2 := Aside0.mk (HP1.out.later hb)
      clear hb HP1
      have c0 : w2.cell? ⟨rb, 0, none⟩ = some (.int .i64 x) := (blk_cell HR.out 0).trans rfl
      have c1 : w2.cell? ⟨rb, 1, none⟩ = some (.int .i64 y) := (blk_cell HR.out 1).trans rfl
      have hrb : rb < w2.heap.size := blk_lt HR.out
      have HWb := Aside0.mk (blk_new w2 (.cells #[.int .i64 x, .int .i64 y] 93))
      have hal := below_alloc (Below.refl w2.heap.size w2) (.cells #[.int .i64 x, .int .i64 y] 93)
      have HP3 := Aside0.mk (HP2.out.later hal)
      have HR3 := Aside0.mk (blk_below HR.out hal)
      clear hal HP2 HR
      go_upto_region 13 with fail
      clear c0 c1
      generalize w2.alloc (.cells #[.int .i64 x, .int .i64 y] 93) = W3 at *
      generalize w2.heap.size = wb at *
      obtain ⟨HB3, u, hpg, hR, hT⟩ := HP3.out
      replace HB3 := Aside0.mk HB3
      replace hpg := Aside0.mk hpg
      replace hR := Aside0.mk hR
      replace hT := Aside0.mk hT
      have okx : Aside0 (okI x) := ⟨okI_small (by omega) (by omega)⟩
      have oky : Aside0 (okI y) := ⟨okI_small (by omega) (by omega)⟩
      have d1 : W3.cell? ⟨w.heap.size + 1, 1, none⟩ = some (.map (some w.heap.size)) := (blk_cell hpg.out 1).trans rfl
      have d2 : W3.cell? ⟨wb, 0, none⟩ = some (.int .i64 x) := (blk_cell HWb.out 0).trans rfl
      have d3 : W3.cell? ⟨wb, 1, none⟩ = some (.int .i64 y) := (blk_cell HWb.out 1).trans rfl
      have lk := (hT.out.later (below_drew (Below.refl _ _))).look okx.out oky.out
      cases hfind : findJ (l.take i) x y with
      | some k =>
        rw [hfind] at lk
        simp only [Option.getD_some, Option.isSome_some] at lk
        have hpol : Aside0 (polNew n F l = 8) := ⟨by
          rw [eN.out, HW.out, hdrop.out]
          unfold polW
          rw [if_neg (by rw [hcdA.out]; decide)]
          simp [hfind]⟩
        clear hfind
        go_region
        go_wp2_with fail
        exact bodyPost_ret (v := .tuple #[.pointer none, .int .i64 8]) (by simp [results, Try.results43, go_sem]) rfl ⟨.inl ⟨by rw [hpol.out]; decide, by rw [hpol.out]⟩, below_drew HB3.out⟩
      | none =>
        rw [hfind] at lk
        simp only [Option.getD_none, Option.isSome_none] at lk
        have HFI := Aside0.mk hfind
        clear hfind
        go_region
        go_upto_region 16 with fail
        have hlen : (l.take i).length = i := by rw [List.length_take]; have := hm.out; omega
        obtain ⟨w5, hrun, hT5, hg5⟩ := ((hT.out.later (below_drew (Below.refl _ _))).later (below_drew (Below.refl _ _))).put (x := (i : Int)) (by rw [hlen]; omega) okx.out oky.out (okI_small (by omega) (by omega))
        have nrm : rb ≠ w.heap.size := hT.out.not_cells HR3.out
        have nrp : rb ≠ w.heap.size + 1 := blk_ne HR3.out hpg.out (by decide)
        have hpg5 := Aside0.mk ((hg5.block _ (blk_lt hpg.out) (fun e => absurd (Option.some.inj e) (by omega))).trans hpg.out)
        have HR5 := Aside0.mk ((hg5.block _ (blk_lt HR3.out) (fun e => nrm (Option.some.inj e))).trans HR3.out)
        have hR5 := Aside0.mk (Kd.R_grown (Kd.R_below (Kd.R_below hR.out (below_drew (Below.refl _ _))) (below_drew (Below.refl _ _))) hg5 (fun k hk e => hk.1 (Option.some.inj e)))
        have HB5 := Aside0.mk ((below_drew (below_drew HB3.out)).grown hg5 (Nat.le_trans (Nat.le_succ _) (Nat.le_of_lt (blk_lt hpg.out))) (fun q e => by cases e; exact Nat.le_refl _))
        have hT5 := Aside0.mk hT5
        replace hrun := hrun
        have hst := Aside0.mk (findJ_step (l := l.take i) (r := ⟨x, y, z⟩) HFI.out)
        have HT6 : Aside0 (PTab w5 w.heap.size ((l.take i).length + 1) (findJ (l.take i ++ [⟨x, y, z⟩]))) := ⟨by rw [hst.out]; simp only [hlen]; rw [hlen] at hT5; exact hT5.out⟩
        have HNEXT : Aside0 (polW n F [] l = polW n F (l.take (i + 1)) (l.drop (i + 1))) := ⟨by rw [HW.out, hdrop.out, htake.out]; exact polW_step hcdA.out HFI.out⟩
        go_region
        clear hg5 hrun lk d1 d2 d3
        go_upto_region 17 with fail
        have s0 : w5.cell? ⟨w.heap.size + 1, 0, none⟩ = some u := (blk_cell hpg5.out 0).trans rfl
        have s1 : w5.cell? ⟨rb, 0, none⟩ = some (.int .i64 x) := (blk_cell HR5.out 0).trans rfl
        have s2 : w5.cell? ⟨rb, 1, none⟩ = some (.int .i64 y) := (blk_cell HR5.out 1).trans rfl
        have s3 : w5.cell? ⟨rb, 2, none⟩ = some (.int .i64 z) := (blk_cell HR5.out 2).trans rfl
        have pl5 := blk_lt hpg5.out
        have hRd := Aside0.mk (Kd.R_below hR5.out (below_drew (Below.refl _ _)))
        have HBd := Aside0.mk (below_drew HB5.out)
        have nup : ∀ k, u.ownBlock = some k → k ≠ w.heap.size ∧ k ≠ w.heap.size + 1 := hR5.out.1
        replace nup := Aside0.mk nup
        go_region_law (refine Kd.R_append_step k58 (w0 := w) (W := w5.drew) w.heap.size (by rfl) (.tmp 61) (.tmp 63) 47 58 (.agg #[(.int .i64 0), (.int .i64 0), (.int .i64 0)]) 24 (by rfl) Try.underlying47 info58 (by rfl) (by decide) (by decide) u (l.take i) ⟨x, y, z⟩ [.int .i64 x, .int .i64 y, .int .i64 z] (fun k => k ≠ w.heap.size ∧ k ≠ w.heap.size + 1) (fun _ => False) (by first | rfl | simp [Act.eval, Act.put]) (by first | rfl | simp [Act.eval, Act.put]) (k58_mkM _ _ _ _) (fun _ hk => hk.elim) ?aF ?aO ?aB ?aS ?aL ?_; (case aF => exact fun k hk => ⟨by have hk : w5.heap.size ≤ k := hk; omega, by have hk : w5.heap.size ≤ k := hk; omega⟩); (case aO => exact hRd.out); (case aB => exact HBd.out); (case aS => exact Nat.le_trans (Nat.le_succ _) (Nat.le_of_lt pl5)); (case aL => rw [hlen]; omega); intro v6 w6 ho6 hb6 hg6 hat6; obtain ⟨A6, c6, rfl, _, _⟩ := Kd.R_reads ho6; have hpg6 := Aside0.mk ((hg6.block _ pl5 (fun e => (nup.out _ e.symm).2 rfl)).trans hpg5.out); have t0 : w6.cell? ⟨w.heap.size + 1, 0, none⟩ = some u := (blk_cell hpg6.out 0).trans rfl; have t1 : w6.frozen? ⟨w.heap.size + 1, 0, none⟩ = false := blk_frozen hpg6.out 0; replace ho6 := Aside0.mk ho6; replace hb6 := Aside0.mk hb6; replace hg6 := Aside0.mk hg6; clear hat6)
        all_goals
          go_wp2_with fail
          have e7 : (l.take i ++ [(⟨x, y, z⟩ : S58)]).length = i + 1 := by rw [List.length_append, hlen]; rfl
          have ho7 := ho6.out
          rw [e7] at ho7
          exact ⟨⟨i + 1, rfl, by omega, HNEXT, ⟨by rw [htake.out]; exact making_step HT6.out hpg6.out ho7 hb6.out hg6.out nup.out⟩⟩, by simp [intOf]; omega⟩
    · obtain rfl : m = i := by omega
      go_wp2_with fail
      have hpol : polNew n F l = 0 := by
        rw [eN.out, HW.out, List.drop_eq_nil_of_le (by rw [hm.out]; exact Nat.le_refl _)]
        rfl
      obtain ⟨HB, u, h1, h2, h3⟩ := HP.out
      rw [List.take_of_length_le (by rw [hm.out]; exact Nat.le_refl _)] at h2 h3
      exact bodyPost_ret (v := .tuple #[P (w.heap.size + 1), .int .i64 0]) (by simp [results, Try.results43, go_sem]) rfl ⟨.inr ⟨hpol, _, rfl, _, _, u, h1, h2, h3.mono (by rw [hm.out]; exact hm16)⟩, HB⟩
/-- a rule's number, or that there is none -/
def foundF (l : List S58) (a b : Int) : Int × Int := match findJ l a b with | some k => (k, 0) | none => (0, 6)
theorem Find_nil (a b : Int) (w : World) : Calls Try.prog 56 #[.pointer none, .int .i64 a, .int .i64 b] w fun e w' => e = .returned (.tuple #[.int .i64 0, .int .i64 7]) ∧ Below w.heap.size w w' := by
  go_enter Try.func56, Try.ntmps56
  go_wp2_with fail
  exact bodyPost_ret (v := .tuple #[.int .i64 0, .int .i64 7]) (by simp [results, Try.results56, go_sem]) rfl ⟨rfl, Below.refl _ _⟩
theorem Find_calls {w : World} {pg : Nat} {l : List S58} (h : IsPol w pg l) {a b : Int} (ha : okI a) (hb : okI b) : Calls Try.prog 56 #[P pg, .int .i64 a, .int .i64 b] w fun e w' => e = .returned (.tuple #[.int .i64 (foundF l a b).1, .int .i64 (foundF l a b).2]) ∧ Below w.heap.size w w' := by
  obtain ⟨pm, base, u, h1, h2, h3⟩ := h
  have lk := h3.look ha hb
  have c1 : w.cell? ⟨pg, 1, none⟩ = some (.map (some pm)) := (blk_cell h1 1).trans rfl
  obtain ⟨J, hJ⟩ : ∃ J, findJ l a b = J := ⟨_, rfl⟩
  unfold foundF
  rw [hJ] at lk ⊢
  clear h1 h2 h3 ha hb hJ
  cases J with
  | none =>
    simp only [Option.getD_none, Option.isSome_none] at lk
    go_enter Try.func56, Try.ntmps56
    go_wp2_with fail
    exact bodyPost_ret (v := .tuple #[.int .i64 0, .int .i64 6]) (by simp [results, Try.results56, go_sem]) rfl ⟨rfl, Below.refl _ _⟩
  | some k =>
    simp only [Option.getD_some, Option.isSome_some] at lk
    go_enter Try.func56, Try.ntmps56
    go_wp2_with fail
    exact bodyPost_ret (v := .tuple #[.int .i64 k, .int .i64 0]) (by simp [results, Try.results56, go_sem]) rfl ⟨rfl, Below.refl _ _⟩

/-! guard -/
def readF (T : Int → Int → Bool) (s o : Int) : Int := if T o s then 1 else 0
def writeF (T : Int → Int → Bool) (s o : Int) : Int := if T s o then (if s = o then 1 else 2) else 0
def orderF (T : Int → Int → Bool) (s o : Int) : Int := if s = o ∧ T s o = true then 1 else 0
section
variable {v : Value} {T : Int → Int → Bool} {w : World} (hT : Flowing v T w)
include hT
theorem Read_calls (s o : Int) : Calls Try.prog 37 #[v, .int .i64 s, .int .i64 o] w fun e w' => e = .returned (.int .i64 (readF T s o)) ∧ Below w.heap.size w w' := by
  have hc := fun W hW => hT W hW o s
  replace hc := Aside0.mk hc
  cases h : T o s
  all_goals
    first
      | rw [show readF T s o = 0 by unfold readF; rw [h]; rfl]
      | rw [show readF T s o = 1 by unfold readF; rw [h]; rfl]
    rw [h] at hc
    go_enter Try.func37, Try.ntmps37
    go_wp2_with fail
    refine (hc.out _ (Below.refl _ _)).mono ?_
    rintro e w1 ⟨rfl, hb⟩
    go_wp2_with fail
    go_ret
    exact ⟨rfl, hb⟩
theorem Write_calls (s o : Int) : Calls Try.prog 39 #[v, .int .i64 s, .int .i64 o] w fun e w' => e = .returned (.int .i64 (writeF T s o)) ∧ Below w.heap.size w w' := by
  have hc := fun W hW => hT W hW s o
  replace hc := Aside0.mk hc
  cases h : T s o
  · rw [show writeF T s o = 0 by unfold writeF; rw [h]; rfl]
    rw [h] at hc
    go_enter Try.func39, Try.ntmps39
    go_wp2_with fail
    refine (hc.out _ (Below.refl _ _)).mono ?_
    rintro e w1 ⟨rfl, hb⟩
    go_wp2_with fail
    go_ret
    exact ⟨rfl, hb⟩
  · rw [h] at hc
    by_cases hso : s = o
    · rw [show writeF T s o = 1 by unfold writeF; rw [h, if_pos rfl, if_pos hso]]
      subst hso
      go_enter Try.func39, Try.ntmps39
      go_wp2_with fail
      refine (hc.out _ (Below.refl _ _)).mono ?_
      rintro e w1 ⟨rfl, hb⟩
      go_wp2_with fail
      go_ret
      exact ⟨rfl, hb⟩
    · rw [show writeF T s o = 2 by unfold writeF; rw [h, if_pos rfl, if_neg hso]]
      have hso2 : (s == o) = false := by simpa using hso
      go_enter Try.func39, Try.ntmps39
      go_wp2_with fail
      refine (hc.out _ (Below.refl _ _)).mono ?_
      rintro e w1 ⟨rfl, hb⟩
      go_wp2_with fail
      go_ret
      exact ⟨rfl, hb⟩
theorem Order_calls (s o : Int) : Calls Try.prog 38 #[v, .int .i64 s, .int .i64 o] w fun e w' => e = .returned (.int .i64 (orderF T s o)) ∧ Below w.heap.size w w' := by
  have hc := fun W hW => hT W hW s o
  replace hc := Aside0.mk hc
  by_cases hso : s = o
  · cases h : T s o
    all_goals
      first
        | rw [show orderF T s o = 0 by unfold orderF; exact if_neg (fun q => by rw [h] at q; exact absurd q.2 (by decide))]
        | rw [show orderF T s o = 1 by unfold orderF; exact if_pos ⟨hso, h⟩]
      rw [h] at hc
      subst hso
      go_enter Try.func38, Try.ntmps38
      go_wp2_with fail
      refine (hc.out _ (Below.refl _ _)).mono ?_
      rintro e w1 ⟨rfl, hb⟩
      go_wp2_with fail
      go_ret
      exact ⟨rfl, hb⟩
  · rw [show orderF T s o = 0 by unfold orderF; exact if_neg (fun q => hso q.1)]
    have hso2 : (s == o) = false := by simpa using hso
    go_enter Try.func38, Try.ntmps38
    go_wp2_with fail
    go_ret
    exact ⟨rfl, Below.refl _ _⟩
end
/-- what is told of a release -/
def relF (T : Int → Int → Bool) (r : Int × Int) (s o : Int) : Int × Int := if r.2 = 0 ∧ T s s = true ∧ T o o = true then (r.1, 1) else (0, 0)
theorem Release_calls {v q : Value} {T : Int → Int → Bool} {r : Int × Int} {s o : Int} {w : World} (hT : Flowing v T w) (hF : Calls Try.prog 56 #[q, .int .i64 s, .int .i64 o] w fun e w' => e = .returned (.tuple #[.int .i64 r.1, .int .i64 r.2]) ∧ Below w.heap.size w w') :
    Calls Try.prog 53 #[v, q, .int .i64 s, .int .i64 o] w fun e w' => e = .returned (.tuple #[.int .i64 (relF T r s o).1, .int .i64 (relF T r s o).2]) ∧ Below w.heap.size w w' := by
  obtain ⟨n, x⟩ := r
  simp only at hF
  obtain ⟨res, hres⟩ : ∃ res, relF T (n, x) s o = res := ⟨_, rfl⟩
  rw [hres]
  have one : ¬ (x = 0 ∧ T s s = true ∧ T o o = true) → res = (0, 0) := fun h => by rw [← hres]; exact if_neg h
  have two : (x = 0 ∧ T s s = true ∧ T o o = true) → res = (n, 1) := fun h => by rw [← hres]; exact if_pos h
  clear hres
  replace one := Aside0.mk one
  replace two := Aside0.mk two
  replace hT := Aside0.mk hT
  replace hF := Aside0.mk hF
  go_enter Try.func53, Try.ntmps53
  go_wp2_with fail
  refine hF.out.mono ?_
  rintro e w1 ⟨rfl, hb⟩
  replace hT := Aside0.mk (hT.out.later hb)
  replace hb := Aside0.mk hb
  by_cases hx : x = 0
  case neg =>
    obtain rfl := one.out (fun q => hx q.1)
    have hx2 : (x == 0) = false := by simpa using hx
    go_wp2_with fail
    exact bodyPost_ret (v := .tuple #[.int .i64 0, .int .i64 0]) (by simp [results, Try.results53, go_sem]) rfl ⟨rfl, hb.out⟩
  subst hx
  go_wp2_with fail
  refine (hT.out _ (Below.refl _ _) s s).mono ?_
  cases h1 : T s s
  · obtain rfl := one.out (fun q => by rw [h1] at q; exact absurd q.2.1 (by decide))
    rintro e w2 ⟨rfl, hb2⟩
    replace hb2 := Aside0.mk (below_step hb.out hb2)
    go_wp2_with fail
    exact bodyPost_ret (v := .tuple #[.int .i64 0, .int .i64 0]) (by simp [results, Try.results53, go_sem]) rfl ⟨rfl, hb2.out⟩
  rintro e w2 ⟨rfl, hb2⟩
  replace hT := Aside0.mk (hT.out.later hb2)
  replace hb2 := Aside0.mk (below_step hb.out hb2)
  go_wp2_with fail
  refine (hT.out _ (Below.refl _ _) o o).mono ?_
  cases h2 : T o o
  · obtain rfl := one.out (fun q => by rw [h2] at q; exact absurd q.2.2 (by decide))
    rintro e w3 ⟨rfl, hb3⟩
    replace hb3 := Aside0.mk (below_step hb2.out hb3)
    go_wp2_with fail
    exact bodyPost_ret (v := .tuple #[.int .i64 0, .int .i64 0]) (by simp [results, Try.results53, go_sem]) rfl ⟨rfl, hb3.out⟩
  · obtain rfl := two.out ⟨by trivial, h1, h2⟩
    rintro e w3 ⟨rfl, hb3⟩
    replace hb3 := Aside0.mk (below_step hb2.out hb3)
    go_wp2_with fail
    exact bodyPost_ret (v := .tuple #[.int .i64 n, .int .i64 1]) (by simp [results, Try.results53, go_sem]) rfl ⟨rfl, hb3.out⟩

/-! two labels, a rule -/
def f2 : List (List Bool) := [[true, true], [false, true]]
abbrev row2 (b0 b1 : Bool) : Obj := .cells #[.bool b0, .bool b1] 4
abbrev sl2 (g : Nat) : Value := .slice (some ⟨g, 0, none⟩) 2 2
abbrev W2 (w : World) : World := ((w.alloc (row2 true true)).alloc (row2 false true)).alloc (.cells #[sl2 w.heap.size, sl2 (w.heap.size + 1)] 37)
theorem two_C (w : World) : Kd.C (Kd.slice 4 Kd.bool) (W2 w) (some ⟨w.heap.size + 1 + 1, 0, none⟩) 2 f2 := by
  have e1 : (w.alloc (row2 true true)).heap.size = w.heap.size + 1 := by simp
  have e2 : ((w.alloc (row2 true true)).alloc (row2 false true)).heap.size = w.heap.size + 1 + 1 := by simp
  have g0 := blk_new w (row2 true true)
  have g1 := blk_new (w.alloc (row2 true true)) (row2 false true)
  have g2 := blk_new ((w.alloc (row2 true true)).alloc (row2 false true)) (.cells #[sl2 w.heap.size, sl2 (w.heap.size + 1)] 37)
  rw [e1] at g1
  rw [e2] at g2
  refine rows_C g2 (by decide) ?_
  intro j row hj
  rcases j with _ | _ | j
  · obtain rfl := Option.some.inj hj
    exact ⟨_, 2, rfl, by decide, bools_C (l := [true, true]) (blk_alloc (blk_alloc g0 _) _) (by decide)⟩
  · obtain rfl := Option.some.inj hj
    exact ⟨_, 2, rfl, by decide, bools_C (l := [false, true]) (blk_alloc g1 _) (by decide)⟩
  · simp [f2] at hj
theorem below3 (w : World) (o0 o1 o2 : Obj) : Below w.heap.size w (((w.alloc o0).alloc o1).alloc o2) := below_alloc (below_alloc (below_alloc (Below.refl _ _) _) _) _
theorem sq2 : sq f2 := ⟨by decide, by decide, by decide⟩
theorem order2 : orderP 2 (flR f2 2) := by
  unfold orderP okA okB okC
  decide +kernel
theorem full2 : full 2 (lt 2 (flR f2 2)) := fun i j hi hj => (show ∀ i : Nat, i < 2 → ∀ j : Nat, j < 2 → G 2 (lt 2 (flR f2 2)) i j ≠ -1 by decide +kernel) i hi j hj
theorem full2' : full 2 (gt 2 (flR f2 2)) := fun i j hi hj => (show ∀ i : Nat, i < 2 → ∀ j : Nat, j < 2 → G 2 (gt 2 (flR f2 2)) i j ≠ -1 by decide +kernel) i hi j hj
theorem new2 {e : Ending} {w' : World} (h : NewTells f2 e w') : ∃ g, e = .returned (.tuple #[P g, .int .i64 0]) ∧ IsLat w' g 2 (flR f2 2) := by
  rcases h with ⟨h, _⟩ | ⟨_, h, _⟩ | ⟨_, _, h, _⟩ | ⟨_, _, _, _, h⟩
  · exact absurd sq2 h
  · exact absurd order2 h
  · exact absurd ⟨full2, full2'⟩ h
  · exact h
/-- one rule, in a row of its own -/
theorem rule_C {w : World} {g : Nat} {x y z : Int} (hg : w.heap[g]? = some (.cells #[.int .i64 x, .int .i64 y, .int .i64 z] 58 (0, 0))) : Kd.C k58 w (some ⟨g, 0, none⟩) 1 [⟨x, y, z⟩] :=
  ⟨rfl, by decide, fun _ => ⟨_, rfl, fun j p hj => by
    rcases j with _ | j
    · obtain rfl := Option.some.inj hj
      refine ⟨[.int .i64 x, .int .i64 y, .int .i64 z], rfl, k58_mk _ _, fun i u hu => ?_⟩
      have h := blk_cell hg i
      have e : (⟨g, 0, none⟩ : Addr).add (0 * k58.sz + i) = ⟨g, i, none⟩ := by
        rw [Nat.zero_mul, Nat.zero_add]
        simp [Addr.add] <;> omega
      rw [e, h]
      simpa using hu
    · simp at hj⟩⟩
theorem pol2 {F : Nat → Bool} {l : List S58} {n : Nat} {e : Ending} {w' : World} (h0 : polNew n F l = 0) (h : NewPol n F l e w') : ∃ pg, e = .returned (.tuple #[P pg, .int .i64 0]) ∧ IsPol w' pg l := by
  rcases h with ⟨h, _⟩ | ⟨_, h⟩
  · exact absurd h0 h
  · exact h
theorem fl10 : flowsF 2 (flR f2 2) 1 0 = false := by decide +kernel
theorem fl01 : flowsF 2 (flR f2 2) 0 1 = true := by decide +kernel
theorem fl00 : flowsF 2 (flR f2 2) 0 0 = true := by decide +kernel
theorem fl11 : flowsF 2 (flR f2 2) 1 1 = true := by decide +kernel
theorem okLP {f : List (List Bool)} {n : Nat} {w W : World} (hb : Below w.heap.size w W) {g pg : Nat} {l : List S58} (hl : IsLat W g n (flR f n)) (hp : IsPol W pg l) {k : Nat} {args : Array Value} {v : Value} (hc : Calls Try.prog k args W fun e w' => e = .returned v ∧ Below W.heap.size W w') :
    Calls Try.prog k args W fun e w' => e = .returned v ∧ Aside0 (IsLat w' g n (flR f n)) ∧ Aside0 (IsPol w' pg l) ∧ Aside0 (Below w.heap.size w w') :=
  hc.mono fun e w' h => ⟨h.1, ⟨hl.later h.2⟩, ⟨hp.later h.2⟩, ⟨below_step hb h.2⟩⟩
theorem g1 : polNew 2 (flR f2 2) [⟨1, 0, 1⟩] = 0 := by decide +kernel
theorem g2 : relF (flowsF 2 (flR f2 2)) (foundF [⟨1, 0, 1⟩] 1 0) 1 0 = (0, 1) := by decide +kernel
theorem g3 : relF (flowsF 2 (flR f2 2)) (foundF [⟨1, 0, 1⟩] 0 1) 0 1 = (0, 0) := by decide +kernel
theorem g4 : readF (flowsF 2 (flR f2 2)) 1 0 = 1 := by decide +kernel
theorem g5 : readF (flowsF 2 (flR f2 2)) 0 1 = 0 := by decide +kernel
theorem g6 : writeF (flowsF 2 (flR f2 2)) 0 1 = 2 := by decide +kernel
theorem g7 : writeF (flowsF 2 (flR f2 2)) 1 0 = 0 := by decide +kernel
theorem g8 : orderF (flowsF 2 (flR f2 2)) 1 1 = 1 := by decide +kernel
section
variable {w : World} {g pg : Nat}
theorem cRel {a b x y : Int} {l : List S58} {F : Nat → Bool} {n : Nat} (h6 : n ≤ 6) (hl : IsLat w g n F) (hp : IsPol w pg l) (ha : okI a) (hb : okI b) (e : relF (flowsF n F) (foundF l a b) a b = (x, y)) :
    Calls Try.prog 53 #[P g, P pg, .int .i64 a, .int .i64 b] w fun e w' => e = .returned (.tuple #[.int .i64 x, .int .i64 y]) ∧ Below w.heap.size w w' := by
  have h := Release_calls (lat_flowing hl h6) (Find_calls hp ha hb)
  rw [e] at h
  exact h
end
set_option maxHeartbeats 4000000 in
set_option maxRecDepth 8000 in
theorem gtwo_calls (w : World) : Calls Try.prog 36 #[] w fun e w' => e = .returned (.bool true) ∧ Below w.heap.size w w' := by
  have HC := Aside0.mk (two_C w)
  have HB : Aside0 (Below w.heap.size w (W2 w)) := Aside0.mk (below3 w (row2 true true) (row2 false true) (.cells #[sl2 w.heap.size, sl2 (w.heap.size + 1)] 37))
  go_enter Try.func36, Try.ntmps36
  go_wp2_with fail
  change Calls _ _ _ (W2 w) _
  generalize W2 w = W at *
  refine (New_calls' (n := 2) f2 ⟨rfl⟩ HC.out).mono ?_
  rintro e w1 ⟨hnew, hb⟩
  obtain ⟨g, rfl, hlat⟩ := new2 hnew
  clear hnew HC
  have HR := Aside0.mk (rule_C (blk_new w1 (.cells #[.int .i64 1, .int .i64 0, .int .i64 1] 58)))
  have hal := below_alloc (Below.refl w1.heap.size w1) (.cells #[.int .i64 1, .int .i64 0, .int .i64 1] 58)
  have HL := Aside0.mk (hlat.later hal)
  replace HB := Aside0.mk (below_step (below_step HB.out hb) hal)
  clear hb hlat hal
  go_wp2_with fail
  generalize w1.alloc (.cells #[.int .i64 1, .int .i64 0, .int .i64 1] 58) = W1 at *
  refine (PolNew_calls [⟨1, 0, 1⟩] ⟨rfl⟩ (by decide) (lat_sized HL.out) (lat_flowing HL.out (by decide)) HR.out).mono ?_
  rintro e w2 ⟨hnew, hb⟩
  obtain ⟨pg, rfl, hpol⟩ := pol2 g1 hnew
  have HP := Aside0.mk hpol
  replace HL := Aside0.mk (HL.out.later hb)
  replace HB := Aside0.mk (below_step HB.out hb)
  clear hb hpol hnew HR
  go_wp2_with fail
  refine (okLP HB.out HL.out HP.out (cRel (by decide) HL.out HP.out (okI_small (by decide) (by decide)) (okI_small (by decide) (by decide)) g2)).mono ?_
  clear HL HP HB
  rintro e w3 ⟨rfl, HL, HP, HB⟩
  go_wp2_with fail
  refine (okLP HB.out HL.out HP.out (cRel (by decide) HL.out HP.out (okI_small (by decide) (by decide)) (okI_small (by decide) (by decide)) g3)).mono ?_
  clear HL HP HB
  rintro e w4 ⟨rfl, HL, HP, HB⟩
  go_wp2_with fail
  refine (okLP HB.out HL.out HP.out (Read_calls (lat_flowing HL.out (by decide)) 1 0)).mono ?_
  clear HL HP HB
  rw [g4]
  rintro e w5 ⟨rfl, HL, HP, HB⟩
  go_wp2_with fail
  refine (okLP HB.out HL.out HP.out (Read_calls (lat_flowing HL.out (by decide)) 0 1)).mono ?_
  clear HL HP HB
  rw [g5]
  rintro e w6 ⟨rfl, HL, HP, HB⟩
  go_wp2_with fail
  refine (okLP HB.out HL.out HP.out (Write_calls (lat_flowing HL.out (by decide)) 0 1)).mono ?_
  clear HL HP HB
  rw [g6]
  rintro e w7 ⟨rfl, HL, HP, HB⟩
  go_wp2_with fail
  refine (okLP HB.out HL.out HP.out (Write_calls (lat_flowing HL.out (by decide)) 1 0)).mono ?_
  clear HL HP HB
  rw [g7]
  rintro e w8 ⟨rfl, HL, HP, HB⟩
  go_wp2_with fail
  refine (okLP HB.out HL.out HP.out (Order_calls (lat_flowing HL.out (by decide)) 1 1)).mono ?_
  clear HL HP HB
  rw [g8]
  rintro e w9 ⟨rfl, HL, HP, HB⟩
  go_wp2_with fail
  go_ret
  exact ⟨rfl, HB.out⟩
theorem gtwo_then {w W : World} (hb : Below w.heap.size w W) : Ok w w.heap.size W 36 #[] (.bool true) := (gtwo_calls W).mono fun e w' h => ⟨h.1, below_step hb h.2⟩
abbrev noT : Int → Int → Bool := fun _ _ => false
theorem gn1 (a b : Int) : readF noT a b = 0 := rfl
theorem gn2 (a b : Int) : writeF noT a b = 0 := rfl
theorem gn3 (a b : Int) : orderF noT a b = 0 := if_neg (fun q => absurd q.2 Bool.false_ne_true)
theorem visible_nil (w : World) (a : Int) : Calls Try.prog 55 #[.pointer none, .int .i64 a] w fun e w' => ∃ A c, e = .returned (.slice A 0 c) ∧ Below w.heap.size w w' := by
  go_enter Try.func55, Try.ntmps55
  go_wp2_with fail
  refine (Below_calls (n := 0) (by decide) (sized_nil _) (flowing_nil _) a).mono ?_
  rintro e w7 ⟨u, rfl, hR, hb⟩
  rw [pick_zero] at hR
  obtain ⟨A7, c7, rfl⟩ := no_cells hR
  go_wp2_with fail
  go_ret
  exact ⟨A7, c7, rfl, hb⟩
set_option maxHeartbeats 4000000 in
theorem gnil_core (a b : Int) (w : World) : Calls Try.prog 12 #[.int .i64 a, .int .i64 b] w fun e w' => e = .returned (.bool true) ∧ Below w.heap.size w w' := by
  have HB := Aside0.mk (Below.refl w.heap.size w)
  go_enter Try.func12, Try.ntmps12
  go_wp2_with fail
  refine (Release_calls (r := (0, 7)) (flowing_nil _) (Find_nil a b _)).mono ?_
  rw [show relF (fun _ _ => false) (0, 7) a b = (0, 0) from if_neg (fun q => absurd q.1 (by decide))]
  rintro e w1 ⟨rfl, hb⟩
  replace HB := Aside0.mk (below_step HB.out hb)
  clear hb
  go_wp2_with fail
  refine (Read_calls (flowing_nil _) a b).mono ?_
  rw [gn1]
  rintro e w2 ⟨rfl, hb⟩
  replace HB := Aside0.mk (below_step HB.out hb)
  clear hb
  go_wp2_with fail
  refine (Write_calls (flowing_nil _) a b).mono ?_
  rw [gn2]
  rintro e w3 ⟨rfl, hb⟩
  replace HB := Aside0.mk (below_step HB.out hb)
  clear hb
  go_wp2_with fail
  refine (Order_calls (flowing_nil _) a b).mono ?_
  rw [gn3]
  rintro e w4 ⟨rfl, hb⟩
  replace HB := Aside0.mk (below_step HB.out hb)
  clear hb
  go_wp2_with fail
  refine (visible_nil _ a).mono ?_
  rintro e w5 ⟨A5, c5, rfl, hb⟩
  replace HB := Aside0.mk (below_step HB.out hb)
  clear hb
  go_wp2_with fail
  refine (gtwo_then HB.out).mono ?_
  rintro e w6 ⟨rfl, hb⟩
  go_wp2_with fail
  go_ret
  exact ⟨rfl, hb⟩
theorem gnil_walk (a0 a1 : Int) (w : World) (w0 : (Lit.int .i64 a0).wf = true) (w1 : (Lit.int .i64 a1).wf = true) : Calls Try.prog 12 #[.int .i64 a0, .int .i64 a1] w fun e w' => e = .returned (.bool true) ∧ Below w.heap.size w w' := gnil_core a0 a1 w
end Go.Proofs.Yteopponjfkeagaa.Lat
namespace Go.Proofs.Yteopponjfkeagaa.Lat
open Go.RowKit Go.Maps Go.Proofs.YteopponjfkeagaaW.PrintWords Go.Proofs.YteopponjfkeagaaW.PrintLast Go.Proofs.YteopponjfkeagaaW.PrintMore Go.Proofs.Yteopponjfkeagaa.PPol
set_option linter.unusedVariables false
set_option linter.unusedSimpArgs false

section
variable {w : World} {pg : Nat} {l : List S58}
theorem Psize_calls (h : IsPol w pg l) : Calls Try.prog 58 #[P pg] w fun e w' => e = .returned (.int .i64 l.length) ∧ Below w.heap.size w w' := by
  obtain ⟨pm, base, u, h1, h2, h3⟩ := h
  obtain ⟨A, c, rfl, _, _⟩ := Kd.R_reads h2
  have c0 : w.cell? ⟨pg, 0, none⟩ = some (.slice A l.length c) := (blk_cell h1 0).trans rfl
  clear h1 h2 h3
  go_enter Try.func58, Try.ntmps58
  go_wp2_with fail
  go_ret
  exact ⟨rfl, Below.refl _ _⟩
theorem Psize_nil : Calls Try.prog 58 #[.pointer none] w fun e w' => e = .returned (.int .i64 0) ∧ Below w.heap.size w w' := by
  go_enter Try.func58, Try.ntmps58
  go_wp2_with fail
  go_ret
  exact ⟨rfl, Below.refl _ _⟩
theorem Pis_calls (h : IsPol w pg l) (a : Int) : Calls Try.prog 73 #[P pg, .int .i64 a] w fun e w' => e = .returned (.bool (inN l.length a)) ∧ Below w.heap.size w w' := by
  have hS := Aside0.mk (Psize_calls h)
  clear h
  obtain ⟨n, hn⟩ : ∃ n, l.length = n := ⟨_, rfl⟩
  rw [hn] at hS ⊢
  clear hn
  by_cases ha : 0 ≤ a
  · go_enter Try.func73, Try.ntmps73
    go_wp2_with fail
    refine hS.out.mono ?_
    rintro e w1 ⟨rfl, hb⟩
    go_wp2_with fail
    go_ret
    exact ⟨by simp [inN, ha, ← Int.not_le], hb⟩
  · go_enter Try.func73, Try.ntmps73
    go_wp2_with fail
    go_ret
    exact ⟨by unfold inN; rw [decide_eq_false (by omega)]; rfl, Below.refl _ _⟩
end
/-- a ledger of a policy: its window, where in it it is, how many were let down by each rule -/
def Led (B : Nat) (W : World) (gl pg : Nat) (l : List S58) (win at_ : Int) (sp : List Int) : Prop :=
  IsPol W pg l ∧ sp.length = l.length ∧ B ≤ gl ∧ ∃ sg : Nat, B ≤ sg ∧ W.heap[gl]? = some (.cells #[P pg, .int .i64 win, .int .i64 at_, .slice (some ⟨sg, 0, none⟩) sp.length sp.length] 96 (0, 0)) ∧ W.heap[sg]? = some (.cells (sp.map (Value.int .i64)).toArray 3 (0, 0))
theorem Led.later {B : Nat} {W W' : World} {gl pg : Nat} {l : List S58} {win at_ : Int} {sp : List Int} (h : Led B W gl pg l win at_ sp) (hb : Below W.heap.size W W') : Led B W' gl pg l win at_ sp := by
  obtain ⟨h1, h2, h3, sg, h4, h5, h6⟩ := h
  exact ⟨h1.later hb, h2, h3, sg, h4, blk_below h5 hb, blk_below h6 hb⟩
theorem IsPol.far {W : World} {pg g : Nat} {l : List S58} (h : IsPol W pg l) {cs : Array Value} {t : TypeId} (hg : W.heap[g]? = some (.cells cs t (0, 0))) (h58 : t ≠ 58) (h90 : t ≠ 90) (j : Nat) (u : Value) : IsPol (W.setCell ⟨g, j, none⟩ u) pg l := by
  obtain ⟨pm, base, v, h1, h2, h3⟩ := h
  have n1 : pg ≠ g := blk_ne h1 hg (fun e => h90 e.symm)
  have n2 : g ≠ pm := h3.not_cells hg
  exact ⟨pm, base, v, blk_far h1 (p := ⟨g, j, none⟩) n1 u, Kd.R_set h2 hg (fun q hq => by
    have hE : k58.E = [] := rfl
    rw [hE, List.mem_singleton] at hq
    rw [hq]
    exact fun e => h58 e.symm) j u, h3.at_block (Below.heap_setCell W ⟨g, j, none⟩ u pm (fun e => n2 e.symm))⟩
section
variable {B : Nat} {w : World} {gl pg : Nat} {l : List S58} {win at_ : Int} {sp : List Int}
theorem Left_nil (a : Int) : Calls Try.prog 49 #[.pointer none, .int .i64 a] w fun e w' => e = .returned (.int .i64 0) ∧ Below w.heap.size w w' := by
  go_enter Try.func49, Try.ntmps49
  go_wp2_with fail
  go_ret
  exact ⟨rfl, Below.refl _ _⟩
theorem Left_out (h : Led B w gl pg l win at_ sp) {a : Int} (ha : inN l.length a = false) : Calls Try.prog 49 #[P gl, .int .i64 a] w fun e w' => e = .returned (.int .i64 0) ∧ Below w.heap.size w w' := by
  obtain ⟨h1, h2, h3, sg, h4, h5, h6⟩ := h
  have hi := Aside0.mk (Pis_calls h1 a)
  rw [ha] at hi
  have c0 : w.cell? ⟨gl, 0, none⟩ = some (P pg) := (blk_cell h5 0).trans rfl
  clear h1 h2 h3 h4 h5 h6
  go_enter Try.func49, Try.ntmps49
  go_wp2_with fail
  refine hi.out.mono ?_
  rintro e w1 ⟨rfl, hb⟩
  go_wp2_with fail
  go_ret
  exact ⟨rfl, hb⟩
theorem ints_at {W : World} {sg : Nat} (h : W.heap[sg]? = some (.cells (sp.map (Value.int .i64)).toArray 3 (0, 0))) {i : Nat} (hi : i < sp.length) : W.cell? ((⟨sg, 0, none⟩ : Addr).add i) = some (.int .i64 (rd sp i)) := by
  have e : (⟨sg, 0, none⟩ : Addr).add i = ⟨sg, i, none⟩ := by simp [Addr.add] <;> omega
  rw [e, blk_cell h i]
  simp [rd_at sp i hi, hi]
/-- how many more -/
abbrev leftF (l : List S58) (sp : List Int) (i : Nat) : Int := (rd_T58 l i).f2 - rd sp i
set_option maxHeartbeats 4000000 in
theorem Left_in (h : Led B w gl pg l win at_ sp) {i : Nat} (hi : i < l.length) (hz : 0 ≤ leftF l sp i ∧ leftF l sp i ≤ 9223372036854775807) : Calls Try.prog 49 #[P gl, .int .i64 (i : Int)] w fun e w' => e = .returned (.int .i64 (leftF l sp i)) ∧ Below w.heap.size w w' := by
  obtain ⟨h1, h2, h3, sg, h4, h5, h6⟩ := h
  have hc := Aside0.mk (Pis_calls h1 (i : Int))
  rw [show inN l.length (i : Int) = true from inN_iff.2 ⟨by omega, by omega⟩] at hc
  obtain ⟨pm, base2, u, g1, g2, g3⟩ := h1
  obtain ⟨A, c, rfl, _, hA⟩ := Kd.R_reads g2
  obtain ⟨ad, rfl, _, _, q2⟩ := at_T58 hA i (by omega) (by omega)
  rw [Int.toNat_natCast] at q2
  have s2 := ints_at h6 (i := i) (by omega)
  have c0 : w.cell? ⟨gl, 0, none⟩ = some (P pg) := (blk_cell h5 0).trans rfl
  have c3 : w.cell? ⟨gl, 3, none⟩ = some (.slice (some ⟨sg, 0, none⟩) sp.length sp.length) := (blk_cell h5 3).trans rfl
  have p0 : w.cell? ⟨pg, 0, none⟩ = some (.slice (some ad) l.length c) := (blk_cell g1 0).trans rfl
  have hlen := h2
  clear h2 h3 h4 h5 h6 g1 g2 g3 hA
  unfold leftF at hz ⊢
  generalize (⟨sg, 0, none⟩ : Addr) = ad2 at *
  obtain ⟨x, hx⟩ : ∃ x, (rd_T58 l i).f2 = x := ⟨_, rfl⟩
  obtain ⟨y, hy⟩ : ∃ y, rd sp i = y := ⟨_, rfl⟩
  rw [hx] at q2 hz ⊢
  rw [hy] at s2 hz ⊢
  clear hx hy
  have hw1 : IntKind.i64.wrap (x - y) = x - y := IntWalk.i64_in _ (by omega)
  obtain ⟨n, hn⟩ : ∃ n, l.length = n := ⟨_, rfl⟩
  rw [hlen] at c3
  rw [hn] at c3 p0 hi
  clear hlen hn
  have hin : (i : Int) < (n : Int) := by omega
  have KEEP : Aside0 (∀ W, Below w.heap.size w W → W.cell? ⟨gl, 0, none⟩ = some (P pg) ∧ W.cell? ⟨gl, 3, none⟩ = some (.slice (some ad2) n n) ∧ W.cell? ⟨pg, 0, none⟩ = some (.slice (some ad) n c) ∧ W.cell? (ad2.add i) = some (.int .i64 y) ∧ W.cell? ⟨(ad.add (i * 3)).block, (ad.add (i * 3)).off + 2, none⟩ = some (.int .i64 x)) :=
    ⟨fun W hW => ⟨pw_cell_below hW c0, pw_cell_below hW c3, pw_cell_below hW p0, pw_cell_below hW s2, pw_cell_below hW q2⟩⟩
  go_enter Try.func49, Try.ntmps49
  go_wp2_with fail
  refine hc.out.mono ?_
  rintro e w1 ⟨rfl, hb⟩
  obtain ⟨k0, k1, k2, k3, k4⟩ := KEEP.out _ hb
  clear c0 c3 p0 s2 q2 hc
  go_upto_region 3 with fail
  go_region
  go_wp2_with fail
  go_ret
  exact ⟨rfl, below_drew hb⟩
theorem Spend_nil (a : Int) : Calls Try.prog 46 #[.pointer none, .int .i64 a] w fun e w' => e = .returned (.int .i64 7) ∧ Below w.heap.size w w' := by
  go_enter Try.func46, Try.ntmps46
  go_wp2_with fail
  go_ret
  exact ⟨rfl, Below.refl _ _⟩
theorem Spend_out (h : Led B w gl pg l win at_ sp) {a : Int} (ha : inN l.length a = false) : Calls Try.prog 46 #[P gl, .int .i64 a] w fun e w' => e = .returned (.int .i64 6) ∧ Below w.heap.size w w' := by
  obtain ⟨h1, h2, h3, sg, h4, h5, h6⟩ := h
  have hi := Aside0.mk (Pis_calls h1 a)
  rw [ha] at hi
  have c0 : w.cell? ⟨gl, 0, none⟩ = some (P pg) := (blk_cell h5 0).trans rfl
  clear h1 h2 h3 h4 h5 h6
  go_enter Try.func46, Try.ntmps46
  go_wp2_with fail
  refine hi.out.mono ?_
  rintro e w1 ⟨rfl, hb⟩
  go_wp2_with fail
  go_ret
  exact ⟨rfl, hb⟩
theorem Spend_zero (h : Led B w gl pg l win at_ sp) {i : Nat} (hi : i < l.length) (hz : leftF l sp i = 0) : Calls Try.prog 46 #[P gl, .int .i64 (i : Int)] w fun e w' => e = .returned (.int .i64 37) ∧ Below w.heap.size w w' := by
  have hp := Aside0.mk (Pis_calls h.1 (i : Int))
  rw [show inN l.length (i : Int) = true from inN_iff.2 ⟨by omega, by omega⟩] at hp
  have hl : Aside0 (∀ W, Below w.heap.size w W → Calls Try.prog 49 #[P gl, .int .i64 (i : Int)] W fun e w' => e = .returned (.int .i64 0) ∧ Below W.heap.size W w') := ⟨fun W hW => by
    have := Left_in (h.later hW) hi (by omega)
    rw [hz] at this
    exact this⟩
  have c0 : w.cell? ⟨gl, 0, none⟩ = some (P pg) := by
    obtain ⟨h1, h2, h3, sg, h4, h5, h6⟩ := h
    exact (blk_cell h5 0).trans rfl
  clear h hi hz
  go_enter Try.func46, Try.ntmps46
  go_wp2_with fail
  refine hp.out.mono ?_
  rintro e w1 ⟨rfl, hb⟩
  go_wp2_with fail
  refine (hl.out _ hb).mono ?_
  rintro e w2 ⟨rfl, hb2⟩
  go_wp2_with fail
  go_ret
  exact ⟨rfl, below_step hb hb2⟩
theorem Led.spent (h : Led B w gl pg l win at_ sp) {i : Nat} (hi : i < l.length) (y : Int) : ∃ sg, w.heap[gl]? = some (.cells #[P pg, .int .i64 win, .int .i64 at_, .slice (some ⟨sg, 0, none⟩) sp.length sp.length] 96 (0, 0)) ∧ w.heap[sg]? = some (.cells (sp.map (Value.int .i64)).toArray 3 (0, 0)) ∧ B ≤ sg ∧
    ∀ W, Below w.heap.size w W → Led B (W.setCell ⟨sg, i, none⟩ (.int .i64 y)) gl pg l win at_ (sp.set i y) := by
  obtain ⟨h1, h2, h3, sg, h4, h5, h6⟩ := h
  refine ⟨sg, h5, h6, h4, fun W hW => ?_⟩
  have k6 := blk_below h6 hW
  have k5 := blk_below h5 hW
  refine ⟨(h1.later hW).far k6 (by decide) (by decide) i _, by rw [List.length_set]; exact h2, h3, sg, h4, ?_, ?_⟩
  · rw [List.length_set]
    exact blk_far k5 (p := ⟨sg, i, none⟩) (blk_ne k5 k6 (by decide)) _
  · refine blk_put k6 i _ ?_
    rw [List.setIfInBounds_toArray, List.map_set]
set_option maxHeartbeats 4000000 in
theorem Spend_in (h : Led B w gl pg l win at_ sp) {i : Nat} (hi : i < l.length) (hz : 0 < leftF l sp i ∧ leftF l sp i ≤ 9223372036854775807) (hy : -1000000000 ≤ rd sp i ∧ rd sp i ≤ 1000000000) :
    Calls Try.prog 46 #[P gl, .int .i64 (i : Int)] w fun e w' => e = .returned (.int .i64 0) ∧ Led B w' gl pg l win at_ (sp.set i (rd sp i + 1)) ∧ Below B w w' := by
  have hp := Aside0.mk (Pis_calls h.1 (i : Int))
  rw [show inN l.length (i : Int) = true from inN_iff.2 ⟨by omega, by omega⟩] at hp
  obtain ⟨x, hx⟩ : ∃ x, leftF l sp i = x := ⟨_, rfl⟩
  have hl : Aside0 (∀ W, Below w.heap.size w W → Calls Try.prog 49 #[P gl, .int .i64 (i : Int)] W fun e w' => e = .returned (.int .i64 x) ∧ Below W.heap.size W w') := ⟨fun W hW => by
    have := Left_in (h.later hW) hi (by omega)
    rw [hx] at this
    exact this⟩
  rw [hx] at hz
  have hx2 : (x == 0) = false := by
    rw [beq_eq_false_iff_ne]
    omega
  have hx3 : ¬ x = 0 := by omega
  have hlen := h.2.1
  obtain ⟨sg, h5, h6, hB, hnew⟩ := h.spent hi (rd sp i + 1)
  have hBl : B ≤ w.heap.size := Nat.le_trans hB (Nat.le_of_lt (blk_lt h6))
  have s2 := ints_at h6 (i := i) (by omega)
  have s3 := blk_frozen h6 i
  have c0 : w.cell? ⟨gl, 0, none⟩ = some (P pg) := (blk_cell h5 0).trans rfl
  have c3 : w.cell? ⟨gl, 3, none⟩ = some (.slice (some ⟨sg, 0, none⟩) sp.length sp.length) := (blk_cell h5 3).trans rfl
  have eadd : (⟨sg, 0, none⟩ : Addr).add i = ⟨sg, i, none⟩ := by simp [Addr.add] <;> omega
  obtain ⟨y, hyy⟩ : ∃ y, rd sp i = y := ⟨_, rfl⟩
  rw [hyy] at s2 hy hnew ⊢
  obtain ⟨n, hn⟩ : ∃ n, sp.length = n := ⟨_, rfl⟩
  rw [hn] at c3 hlen
  rw [← hlen] at hi
  rw [← eadd] at hnew s3
  replace hnew := Aside0.mk hnew
  clear h hx h5 hyy hn hlen
  have hin : (i : Int) < (n : Int) := by omega
  have KEEP : Aside0 (∀ W, Below w.heap.size w W → W.cell? ⟨gl, 3, none⟩ = some (.slice (some ⟨sg, 0, none⟩) n n) ∧ W.cell? ((⟨sg, 0, none⟩ : Addr).add i) = some (.int .i64 y) ∧ W.frozen? ((⟨sg, 0, none⟩ : Addr).add i) = false) :=
    ⟨fun W hW => ⟨pw_cell_below hW c3, pw_cell_below hW s2, by rw [eadd]; exact blk_frozen (blk_below h6 hW) i⟩⟩
  have hBs : Aside0 (∀ W, Below w.heap.size w W → Below B w (W.setCell ((⟨sg, 0, none⟩ : Addr).add i) (.int .i64 (y + 1)))) := ⟨fun W hW => by rw [eadd]; exact (hW.mono hBl).setCell hB _⟩
  clear c3 s2 s3 h6 eadd
  generalize (⟨sg, 0, none⟩ : Addr) = ad2 at *
  go_enter Try.func46, Try.ntmps46
  go_wp2_with fail
  refine hp.out.mono ?_
  rintro e w1 ⟨rfl, hb⟩
  go_wp2_with fail
  refine (hl.out _ hb).mono ?_
  rintro e w2 ⟨rfl, hb2⟩
  replace hb2 := below_step hb hb2
  clear hb c0 hp hl
  obtain ⟨k3, k4, k5⟩ := KEEP.out _ hb2
  replace hb2 := Aside0.mk hb2
  go_wp2_with fail
  go_ret
  exact ⟨rfl, hnew.out _ hb2.out, hBs.out _ hb2.out⟩
end
end Go.Proofs.Yteopponjfkeagaa.Lat
namespace Go.Proofs.Yteopponjfkeagaa.Lat
open Go.RowKit Go.Maps Go.Proofs.YteopponjfkeagaaW.PrintWords Go.Proofs.YteopponjfkeagaaW.PrintLast Go.Proofs.YteopponjfkeagaaW.PrintMore Go.Proofs.Yteopponjfkeagaa.PPol
set_option linter.unusedVariables false
set_option linter.unusedSimpArgs false

theorem int3 : (Try.prog.info? 3).map (fun i => (i.zero, i.size, i.bytes)) = some (some (.int .i64 0), 1, 8) := by kernel_rfl
def zeros (n : Nat) : List Int := List.replicate n 0
theorem zeros_cells (n : Nat) : madeCells #[.int .i64 0] n = ((zeros n).map (Value.int .i64)).toArray := by
  apply Array.ext'
  rw [toList_madeCells_one]
  simp [zeros]
theorem Tick_nil (w : World) : Calls Try.prog 45 #[.pointer none] w fun e w' => e = .returned (.tuple #[]) ∧ Below w.heap.size w w' := by
  go_enter Try.func45, Try.ntmps45
  go_wp2_with fail
  exact bodyPost_ret (v := .tuple #[]) (by simp [results, Try.results45, go_sem]) rfl ⟨rfl, Below.refl _ _⟩
section
variable {B : Nat} {w : World} {gl pg : Nat} {l : List S58} {win at_ : Int} {sp : List Int}
theorem Led.goes (h : Led B w gl pg l win at_ sp) (z : Int) : Led B (w.setCell ⟨gl, 2, none⟩ (.int .i64 z)) gl pg l win z sp := by
  obtain ⟨h1, h2, h3, sg, h4, h5, h6⟩ := h
  exact ⟨h1.far h5 (by decide) (by decide) 2 _, h2, h3, sg, h4, blk_put h5 2 _ rfl, blk_far h6 (p := ⟨gl, 2, none⟩) (blk_ne h6 h5 (by decide)) _⟩
theorem Led.fresh (h : Led B w gl pg l win at_ sp) : Led B ((w.alloc (.cells (madeCells #[.int .i64 0] sp.length) 3)).setCell ⟨gl, 3, none⟩ (.slice (some ⟨w.heap.size, 0, none⟩) sp.length sp.length)) gl pg l win at_ (zeros sp.length) := by
  obtain ⟨h1, h2, h3, sg, h4, h5, h6⟩ := h
  have hal := below_alloc (Below.refl w.heap.size w) (.cells (madeCells #[.int .i64 0] sp.length) 3)
  have k5 := blk_below h5 hal
  have k6 := blk_new w (.cells (madeCells #[.int .i64 0] sp.length) 3)
  have hz : (zeros sp.length).length = sp.length := by simp [zeros]
  refine ⟨(h1.later hal).far k5 (by decide) (by decide) 3 _, hz.trans h2, h3, w.heap.size, Nat.le_trans h3 (Nat.le_of_lt (blk_lt h5)), ?_, ?_⟩
  · rw [hz]
    exact blk_put k5 3 _ rfl
  · rw [← zeros_cells]
    exact blk_far k6 (p := ⟨gl, 3, none⟩) (Nat.ne_of_gt (blk_lt h5)) _
/-- where in its window it is at the next tick, and what was spent in it -/
def nextAt (win at_ : Int) : Int := if at_ + 1 = win then 0 else at_ + 1
def nextSp (win at_ : Int) (sp : List Int) : List Int := if at_ + 1 = win then zeros sp.length else sp
set_option maxHeartbeats 4000000 in
theorem Tick_calls (h : Led B w gl pg l win at_ sp) (hw : 1 ≤ win ∧ win ≤ 1048576) (ha : 0 ≤ at_ ∧ at_ < win) (hn : sp.length ≤ 100) :
    Calls Try.prog 45 #[P gl] w fun e w' => e = .returned (.tuple #[]) ∧ Led B w' gl pg l win (nextAt win at_) (nextSp win at_ sp) ∧ Below B w w' := by
  have hmod : (at_ + 1).tmod win = nextAt win at_ := by
    unfold nextAt
    split
    · rename_i e
      rw [e, Int.tmod_self]
    · rename_i e
      exact Int.tmod_eq_of_lt (by omega) (by omega)
  have hmk := run_make_row' (P := Try.prog) 39 3 (.int .i64 0) 8 Try.underlying39 int3 rfl .i64 .i64 sp.length (by omega) (by omega)
  obtain ⟨z, hz⟩ : ∃ z, nextAt win at_ = z := ⟨_, rfl⟩
  have hzr : 0 ≤ z ∧ z < win := by
    rw [← hz]
    unfold nextAt
    split <;> omega
  have hsp : (z = 0 → nextSp win at_ sp = zeros sp.length) ∧ (z ≠ 0 → nextSp win at_ sp = sp) := by
    rw [← hz]
    unfold nextAt nextSp
    split
    · exact ⟨fun _ => rfl, fun q => absurd rfl q⟩
    · exact ⟨fun q => by omega, fun _ => rfl⟩
  rw [hz] at hmod ⊢
  clear hz
  have HL := Aside0.mk (h.goes z)
  replace hsp := Aside0.mk hsp
  obtain ⟨h1, h2, h3, sg, h4, h5, h6⟩ := h
  have hB : B ≤ w.heap.size := Nat.le_trans h3 (Nat.le_of_lt (blk_lt h5))
  have c1 : w.cell? ⟨gl, 1, none⟩ = some (.int .i64 win) := (blk_cell h5 1).trans rfl
  have c2 : w.cell? ⟨gl, 2, none⟩ = some (.int .i64 at_) := (blk_cell h5 2).trans rfl
  have f2 : w.frozen? ⟨gl, 2, none⟩ = false := blk_frozen h5 2
  have h3 := Aside0.mk h3
  have HB := Aside0.mk ((Below.refl B w).setCell (p := ⟨gl, 2, none⟩) h3.out (.int .i64 z))
  have hw0 : (win == 0) = false := by
    rw [beq_eq_false_iff_ne]
    omega
  have hw1 : IntKind.i64.wrap (at_ + 1) = at_ + 1 := IntWalk.i64_in _ (by omega)
  have hw2 : IntKind.i64.wrap z = z := IntWalk.i64_in _ (by omega)
  have hw3 : ¬ win = 0 := by omega
  clear h1 h2 h4 h5 h6
  go_enter Try.func45, Try.ntmps45
  go_upto_region 1 with fail
  go_region
  go_upto_region 2 with fail
  have HL1 := Aside0.mk (HL.out.later (below_drew (Below.refl _ _)))
  have HB1 := Aside0.mk (below_drew HB.out)
  clear HL HB hmod c1 c2 f2 hw0 hw1 hw2 hw3
  generalize (w.setCell ⟨gl, 2, none⟩ (.int .i64 z)).drew = W1 at *
  obtain ⟨_, _, _, sg1, _, k5, k6⟩ := HL1.out
  have c2 : W1.cell? ⟨gl, 2, none⟩ = some (.int .i64 z) := (blk_cell k5 2).trans rfl
  have c3 : W1.cell? ⟨gl, 3, none⟩ = some (.slice (some ⟨sg1, 0, none⟩) sp.length sp.length) := (blk_cell k5 3).trans rfl
  have f3 : W1.frozen? ⟨gl, 3, none⟩ = false := blk_frozen k5 3
  have hgl := blk_lt k5
  have hne : gl ≠ W1.heap.size := by omega
  clear k5 k6
  by_cases hz0 : z = 0
  · have HS : Aside0 (nextSp win at_ sp = zeros sp.length) := ⟨hsp.out.1 hz0⟩
    have HF := Aside0.mk (HL1.out.fresh)
    have HBF := Aside0.mk ((HB1.out.alloc (Nat.le_trans h3.out (Nat.le_of_lt hgl)) (.cells (madeCells #[.int .i64 0] sp.length) 3)).setCell (p := ⟨gl, 3, none⟩) h3.out (.slice (some ⟨W1.heap.size, 0, none⟩) sp.length sp.length))
    obtain ⟨n, hnn⟩ : ∃ n, sp.length = n := ⟨_, rfl⟩
    rw [hnn] at hmk c3 HF HBF HS
    clear hnn hn
    subst hz0
    go_wp2_with fail
    go_end0
    rw [show (W1.alloc (.cells (madeCells #[.int .i64 0] n) 3)).setCell ⟨gl, 3, none⟩ (.slice (some ⟨W1.heap.size, 0, none⟩) n n) = (W1.setCell ⟨gl, 3, none⟩ (.slice (some ⟨W1.heap.size, 0, none⟩) n n)).alloc (.cells (madeCells #[.int .i64 0] n) 3) from World.setCell_alloc_past _ _ _ _ hgl] at HF HBF
    exact ⟨rfl, by rw [HS.out]; exact HF.out, HBF.out⟩
  · have HS : Aside0 (nextSp win at_ sp = sp) := ⟨hsp.out.2 hz0⟩
    have hz2 : (z == 0) = false := by simpa using hz0
    clear c3 f3
    go_wp2_with fail
    go_end0
    exact ⟨rfl, by rw [HS.out]; exact HL1.out, HB1.out⟩
end
theorem Ledger_nil (a : Int) (w : World) : Calls Try.prog 44 #[.pointer none, .int .i64 a] w fun e w' => e = .returned (.tuple #[.pointer none, .int .i64 7]) ∧ Below w.heap.size w w' := by
  go_enter Try.func44, Try.ntmps44
  go_wp2_with fail
  exact bodyPost_ret (v := .tuple #[.pointer none, .int .i64 7]) (by simp [results, Try.results44, go_sem]) rfl ⟨rfl, Below.refl _ _⟩
theorem Ledger_bad {w : World} (pg : Nat) {a : Int} (ha : a < 1 ∨ (1 ≤ a ∧ 1048576 < a)) : Calls Try.prog 44 #[P pg, .int .i64 a] w fun e w' => e = .returned (.tuple #[.pointer none, .int .i64 1]) ∧ Below w.heap.size w w' := by
  rcases ha with ha | ⟨ha, hb⟩
  all_goals
    go_enter Try.func44, Try.ntmps44
    go_wp2_with fail
    exact bodyPost_ret (v := .tuple #[.pointer none, .int .i64 1]) (by simp [results, Try.results44, go_sem]) rfl ⟨rfl, Below.refl _ _⟩
set_option maxHeartbeats 4000000 in
theorem Ledger_calls {w : World} {pg : Nat} {l : List S58} {win : Int} (h : IsPol w pg l) (hw : 1 ≤ win ∧ win ≤ 1048576) (hn : l.length ≤ 100) :
    Calls Try.prog 44 #[P pg, .int .i64 win] w fun e w' => ∃ gl, e = .returned (.tuple #[P gl, .int .i64 0]) ∧ Led w.heap.size w' gl pg l win 0 (zeros l.length) ∧ Below w.heap.size w w' := by
  have hmk := run_make_row' (P := Try.prog) 39 3 (.int .i64 0) 8 Try.underlying39 int3 rfl .i64 .i64 l.length (by omega) (by omega)
  have hz : (zeros l.length).length = l.length := by simp [zeros]
  have HL : Aside0 (Led w.heap.size ((w.alloc (.cells (madeCells #[.int .i64 0] l.length) 3)).alloc (.cells #[P pg, .int .i64 win, .int .i64 0, .slice (some ⟨w.heap.size, 0, none⟩) l.length l.length] 96)) (w.heap.size + 1) pg l win 0 (zeros l.length)) := ⟨by
    have e1 : (w.alloc (.cells (madeCells #[.int .i64 0] l.length) 3)).heap.size = w.heap.size + 1 := by simp
    have hb1 := below_alloc (Below.refl w.heap.size w) (.cells (madeCells #[.int .i64 0] l.length) 3)
    have hb2 : Below (w.alloc (.cells (madeCells #[.int .i64 0] l.length) 3)).heap.size (w.alloc (.cells (madeCells #[.int .i64 0] l.length) 3)) ((w.alloc (.cells (madeCells #[.int .i64 0] l.length) 3)).alloc (.cells #[P pg, .int .i64 win, .int .i64 0, .slice (some ⟨w.heap.size, 0, none⟩) l.length l.length] 96)) := below_alloc (Below.refl _ _) _
    have g1 := blk_below (blk_new w (.cells (madeCells #[.int .i64 0] l.length) 3)) hb2
    have g2 := blk_new (w.alloc (.cells (madeCells #[.int .i64 0] l.length) 3)) (.cells #[P pg, .int .i64 win, .int .i64 0, .slice (some ⟨w.heap.size, 0, none⟩) l.length l.length] 96)
    rw [e1] at g2
    exact ⟨(h.later hb1).later hb2, hz, Nat.le_succ _, w.heap.size, Nat.le_refl _, by rw [hz]; exact g2, by rw [← zeros_cells]; exact g1⟩⟩
  have HB := Aside0.mk (below_alloc (below_alloc (Below.refl w.heap.size w) (.cells (madeCells #[.int .i64 0] l.length) 3)) (.cells #[P pg, .int .i64 win, .int .i64 0, .slice (some ⟨w.heap.size, 0, none⟩) l.length l.length] 96))
  obtain ⟨pm, base, u, g1, g2, g3⟩ := h
  obtain ⟨A, c, rfl, _, _⟩ := Kd.R_reads g2
  have c0 : w.cell? ⟨pg, 0, none⟩ = some (.slice A l.length c) := (blk_cell g1 0).trans rfl
  obtain ⟨hw1, hw2⟩ := hw
  clear g1 g2 g3 hz
  go_enter Try.func44, Try.ntmps44
  go_wp2_with fail
  exact bodyPost_ret (v := .tuple #[P (w.heap.size + 1), .int .i64 0]) (by simp [results, Try.results44, go_sem]) rfl ⟨_, rfl, HL.out, HB.out⟩
end Go.Proofs.Yteopponjfkeagaa.Lat
namespace Go.Proofs.Yteopponjfkeagaa.Lat
open Go.RowKit Go.Maps Go.Proofs.YteopponjfkeagaaW.PrintWords Go.Proofs.YteopponjfkeagaaW.PrintLast Go.Proofs.YteopponjfkeagaaW.PrintMore Go.Proofs.Yteopponjfkeagaa.PPol
set_option linter.unusedVariables false
set_option linter.unusedSimpArgs false

/-- a ledger of one rule, of which y were let down -/
def One (B : Nat) (W : World) (gl pg : Nat) (bud win at_ y : Int) : Prop := Led B W gl pg [⟨1, 0, bud⟩] win at_ [y]
section
variable {B : Nat} {w : World} {gl pg : Nat} {bud win at_ y : Int}
theorem One.later {W : World} (h : One B w gl pg bud win at_ y) (hb : Below w.heap.size w W) : One B W gl pg bud win at_ y := Led.later h hb
theorem One.base (h : One B w gl pg bud win at_ y) : B ≤ w.heap.size := by
  obtain ⟨_, _, h3, sg, _, h5, _⟩ := h
  exact Nat.le_trans h3 (Nat.le_of_lt (blk_lt h5))
theorem One.left (h : One B w gl pg bud win at_ y) (hy : 0 ≤ bud - y ∧ bud - y ≤ 1000000) : Calls Try.prog 49 #[P gl, .int .i64 0] w fun e w' => e = .returned (.int .i64 (bud - y)) ∧ Below w.heap.size w w' :=
  Left_in (i := 0) h (show (0 : Nat) < 1 by decide) ⟨hy.1, by have : leftF [⟨1, 0, bud⟩] [y] 0 = bud - y := rfl; rw [this]; omega⟩
theorem One.full (h : One B w gl pg bud win at_ y) (hy : bud - y = 0) : Calls Try.prog 46 #[P gl, .int .i64 0] w fun e w' => e = .returned (.int .i64 37) ∧ Below w.heap.size w w' :=
  Spend_zero (i := 0) h (show (0 : Nat) < 1 by decide) hy
theorem One.spend (h : One B w gl pg bud win at_ y) (hy : 0 < bud - y ∧ bud - y ≤ 1000000) (h0 : 0 ≤ y ∧ y ≤ 1000000) : Calls Try.prog 46 #[P gl, .int .i64 0] w fun e w' => e = .returned (.int .i64 0) ∧ One B w' gl pg bud win at_ (y + 1) ∧ Below B w w' :=
  Spend_in (i := 0) h (show (0 : Nat) < 1 by decide) ⟨hy.1, by have : leftF [⟨1, 0, bud⟩] [y] 0 = bud - y := rfl; rw [this]; omega⟩ (by have : rd [y] ((0 : Nat) : Int) = y := rfl; rw [this]; omega)
theorem One.tick (h : One B w gl pg bud win at_ y) (hw : 1 ≤ win ∧ win ≤ 1048576) (ha : 0 ≤ at_ ∧ at_ < win) : Calls Try.prog 45 #[P gl] w fun e w' => e = .returned (.tuple #[]) ∧ One B w' gl pg bud win (nextAt win at_) (if at_ + 1 = win then 0 else y) ∧ Below B w w' := by
  refine (Tick_calls h hw ha (by simp)).mono fun e w' q => ⟨q.1, ?_, q.2.2⟩
  have := q.2.1
  unfold nextSp at this
  unfold One
  split
  · rename_i e1
    rw [if_pos e1] at this
    exact this
  · rename_i e1
    rw [if_neg e1] at this
    exact this
end
theorem Below.base {B : Nat} {w W W' : World} (h : Below B w W) (hb : Below W.heap.size W W') (hB : B ≤ W.heap.size) : Below B w W' := h.trans (hb.mono hB)
theorem pn {bud : Int} (h : 1 ≤ bud ∧ bud ≤ 1048576) : polNew 2 (flR f2 2) [⟨1, 0, bud⟩] = 0 := by
  have hr : rightF 2 (flR f2 2) ⟨1, 0, bud⟩ = 0 := by
    unfold rightF
    rw [if_pos ⟨show inN 2 1 = true by decide, show inN 2 0 = true by decide, h.1, h.2⟩, if_pos ⟨show (1 : Int) ≠ 0 by decide, fl01⟩]
  show (if ([⟨1, 0, bud⟩] : List S58).length > 16 then (2 : Int) else polW 2 (flR f2 2) [] [⟨1, 0, bud⟩]) = 0
  refine (if_neg (show ¬ (1 : Nat) > 16 by decide)).trans ?_
  unfold polW
  rw [hr, if_neg (by decide), findJ_nil, if_neg (show ¬ (Option.isSome (none : Option Int)) = true by decide)]
  rfl
set_option maxHeartbeats 4000000 in
set_option maxRecDepth 8000 in
theorem ptwo_calls (w : World) : Calls Try.prog 42 #[] w fun e w' => e = .returned (.bool true) ∧ Below w.heap.size w w' := by
  have HC := Aside0.mk (two_C w)
  have HB : Aside0 (Below w.heap.size w (W2 w)) := Aside0.mk (below3 w (row2 true true) (row2 false true) (.cells #[sl2 w.heap.size, sl2 (w.heap.size + 1)] 37))
  go_enter Try.func42, Try.ntmps42
  go_wp2_with fail
  change Calls _ _ _ (W2 w) _
  generalize W2 w = W at *
  refine (New_calls' (n := 2) f2 ⟨rfl⟩ HC.out).mono ?_
  rintro e w1 ⟨hnew, hb⟩
  obtain ⟨g, rfl, hlat⟩ := new2 hnew
  clear hnew HC
  have HR := Aside0.mk (rule_C (blk_new w1 (.cells #[.int .i64 1, .int .i64 0, .int .i64 2] 58)))
  have hal := below_alloc (Below.refl w1.heap.size w1) (.cells #[.int .i64 1, .int .i64 0, .int .i64 2] 58)
  have HL := Aside0.mk (hlat.later hal)
  replace HB := Aside0.mk (below_step (below_step HB.out hb) hal)
  clear hb hlat hal
  go_wp2_with fail
  generalize w1.alloc (.cells #[.int .i64 1, .int .i64 0, .int .i64 2] 58) = W1 at *
  refine (PolNew_calls [⟨1, 0, 2⟩] ⟨rfl⟩ (by decide) (lat_sized HL.out) (lat_flowing HL.out (by decide)) HR.out).mono ?_
  rintro e w2 ⟨hnew, hb⟩
  obtain ⟨pg, rfl, hpol⟩ := pol2 (pn (by decide)) hnew
  have HP := Aside0.mk hpol
  replace HB := Aside0.mk (below_step HB.out hb)
  clear hb hpol hnew HR HL
  go_wp2_with fail
  refine (Ledger_calls HP.out (win := 10) (by decide) (by decide)).mono ?_
  rintro e w3 ⟨gl, rfl, hled, hb⟩
  have hsz := HB.out.size
  have HO : Aside0 (One w2.heap.size w3 gl pg 2 10 0 0) := ⟨hled⟩
  replace HB := Aside0.mk (below_step HB.out hb)
  clear hb hled HP
  obtain ⟨B, hB⟩ : ∃ B, w2.heap.size = B := ⟨_, rfl⟩
  rw [hB] at HO hsz
  clear hB
  go_wp2_with fail
  refine (HO.out.spend (by decide) (by decide)).mono ?_
  rintro e w4 ⟨rfl, ho, hb⟩
  replace HB := Aside0.mk (HB.out.trans (hb.mono hsz))
  replace HO := Aside0.mk ho
  clear ho hb
  go_wp2_with fail
  refine (HO.out.spend (by decide) (by decide)).mono ?_
  rintro e w5 ⟨rfl, ho, hb⟩
  replace HB := Aside0.mk (HB.out.trans (hb.mono hsz))
  replace HO := Aside0.mk ho
  clear ho hb
  go_wp2_with fail
  refine (HO.out.full (by decide)).mono ?_
  rintro e w6 ⟨rfl, hb⟩
  replace HB := Aside0.mk (HB.out.trans (hb.mono (Nat.le_trans hsz HO.out.base)))
  replace HO := Aside0.mk (HO.out.later hb)
  clear hb
  go_wp2_with fail
  go_loopw [35] (fun x wr => ∃ i : Nat, x = .int .i64 (i : Int) ∧ i ≤ 10 ∧ Aside0 (One B wr gl pg 2 10 (if i = 10 then 0 else i) (if i = 10 then 0 else 2)) ∧ Aside0 (Below w.heap.size w wr)) (fun x _ => 10 - (intOf x).toNat)
  case atStart => exact ⟨0, rfl, Nat.zero_le _, HO, HB⟩
  case round =>
    clear HO HB
    obtain ⟨i, rfl, hi, HO, HB⟩ := hrel
    by_cases hx : (i : Int) < 10
    · have hne : ¬ i = 10 := by omega
      rw [if_neg hne, if_neg hne] at HO
      go_wp2_with fail
      refine (HO.out.tick (by decide) ⟨by omega, by omega⟩).mono ?_
      rintro e v1 ⟨rfl, ho, hb⟩
      replace HB := Aside0.mk (HB.out.trans (hb.mono hsz))
      have HO2 : Aside0 (One B v1 gl pg 2 10 (if i + 1 = 10 then 0 else ((i + 1 : Nat) : Int)) (if i + 1 = 10 then 0 else 2)) := ⟨by
        unfold nextAt at ho
        by_cases h9 : i + 1 = 10
        · rw [if_pos h9, if_pos h9]
          rw [if_pos (by omega), if_pos (by omega)] at ho
          exact ho
        · rw [if_neg h9, if_neg h9]
          rw [if_neg (by omega), if_neg (by omega)] at ho
          exact ho⟩
      clear ho hb HO
      go_wp2_with fail
      exact ⟨⟨i + 1, rfl, by omega, HO2, HB⟩, by simp [intOf]; omega⟩
    · obtain rfl : i = 10 := by omega
      rw [if_pos rfl, if_pos rfl] at HO
      go_wp2_with fail
      refine (HO.out.spend (by decide) (by decide)).mono ?_
      rintro e v1 ⟨rfl, ho, hb⟩
      replace HB := Aside0.mk (HB.out.trans (hb.mono hsz))
      replace HO := Aside0.mk ho
      clear ho hb
      go_wp2_with fail
      refine (HO.out.left (by decide)).mono ?_
      rintro e v2 ⟨rfl, hb⟩
      replace HB := Aside0.mk (HB.out.trans (hb.mono (Nat.le_trans hsz HO.out.base)))
      replace HO := Aside0.mk (HO.out.later hb)
      clear hb
      go_wp2_with fail
      refine (Psize_calls HO.out.1).mono ?_
      rintro e v3 ⟨rfl, hb⟩
      replace HB := Aside0.mk (HB.out.trans (hb.mono (Nat.le_trans hsz HO.out.base)))
      clear hb
      go_wp2_with fail
      go_ret
      exact ⟨rfl, HB.out⟩
theorem ptwo_then {w W : World} (hb : Below w.heap.size w W) : Ok w w.heap.size W 42 #[] (.bool true) := (ptwo_calls W).mono fun e w' h => ⟨h.1, below_step hb h.2⟩
end Go.Proofs.Yteopponjfkeagaa.Lat
