import Derived.Test.YteopponjfkeagaaLat25
import Derived.Test.YteopponjfkeagaaPPolx0
namespace Go.Proofs.Yteopponjfkeagaa.Lat
open Go.RowKit Go.Maps Go.Proofs.YteopponjfkeagaaW.PrintWords Go.Proofs.YteopponjfkeagaaW.PrintLast Go.Proofs.YteopponjfkeagaaW.PrintMore Go.Proofs.Yteopponjfkeagaa.PPol
set_option linter.unusedVariables false
set_option linter.unusedSimpArgs false

theorem way_law : Keyed Try.prog 93 := Keyed.of_law (deep_law_gate (by kernel_rfl) (by decide +kernel) (by decide +kernel) (by kernel_rfl) (by kernel_rfl))
theorem way_key (a b : Int) (ha : (Lit.int .i64 a).wf = true) (hb : (Lit.int .i64 b).wf = true) : keyOf Try.prog 93 (pairV a b) = some (kl a b) := by
  have h1 : Try.prog.keyType 93 = true := by kernel_rfl
  have h2 : Value.formed Try.prog 93 (pairV a b) = true := by first | kernel_rfl | rfl | simp [Value.formed]
  have c82 : Try.prog.cellsOf 93 = 2 := by kernel_rfl
  have c3 : Try.prog.cellsOf 3 = 1 := by kernel_rfl
  have h3 : Try.prog.keyLits (Try.prog.types.size + 1) 93 [.int .i64 a, .int .i64 b] = some [.int .i64 a, .int .i64 b] := by
    have hp : 0 < Try.prog.types.size := by decide +kernel
    obtain ⟨m, hm⟩ : ∃ m, Try.prog.types.size + 1 = m + 2 := ⟨Try.prog.types.size - 1, by omega⟩
    rw [hm]
    simp [Program.keyLits, Try.underlying93, Try.underlying3, ha, hb, c82, c3]
  unfold keyOf
  rw [Try.underlying93]
  simp only [h1, h2, Bool.and_self, if_true]
  have h4 : (pairV a b).cells.toList = [.int .i64 a, .int .i64 b] := rfl
  rw [h4, h3]
  rfl
theorem way_inj {a b c d : Int} (ha : okI a) (hb : okI b) (hc : okI c) (hd : okI d) (h : kl a b = kl c d) : a = c ∧ b = d := kl_inj ha hb hc hd h
/-- block b is the map of a policy: by which rule one goes from where to where -/
def PTab (w : World) (b m : Nat) (J : Int → Int → Option Int) : Prop :=
  ∃ D : DataW Unit, w.ownsMap Try.prog 93 (plainElem Try.prog 3) b m D ∧ IsMap D ∧ ∀ a c, okI a → okI c → D.atKey (kl a c) (.lit (.int .i64 0)) = .lit (.int .i64 ((J a c).getD 0)) ∧ Maps.has D (kl a c) = (J a c).isSome
theorem PTab.look {w : World} {b m : Nat} {J : Int → Int → Option Int} (h : PTab w b m J) {a c : Int} (ha : okI a) (hc : okI c) : (Instr.lookup 88 (.map (some b)) (pairV a c) true).run Try.prog w = .ok (.tuple #[.int .i64 ((J a c).getD 0), .bool (J a c).isSome]) w := by
  obtain ⟨D, ho, hi, hJ⟩ := h
  obtain ⟨v, ps, hrun, hv⟩ := ho.look_ok way_law Try.underlying88 (zero_int w) (plainElem_int Try.underlying3 (by decide)) (way_key a c ha hc)
  obtain ⟨x, rfl, hx, _⟩ := plainElem_int_inv Try.underlying3 hv
  have hx := congrArg Prod.fst hx
  simp only at hx
  rw [(hJ a c ha hc).1] at hx
  injection hx with hx
  injection hx with _ hx
  rw [hrun, (hJ a c ha hc).2, hx]
theorem PTab.later {w w' : World} {b m : Nat} {J : Int → Int → Option Int} (h : PTab w b m J) (hb : Below w.heap.size w w') : PTab w' b m J := by
  obtain ⟨D, ho, hi, hJ⟩ := h
  obtain ⟨es, clock, hk, F, hs, hD⟩ := ho
  exact ⟨D, ⟨es, clock, blk_below hk hb, F, hs, hD⟩, hi, hJ⟩
theorem PTab.at_block {w w' : World} {b m : Nat} {J : Int → Int → Option Int} (h : PTab w b m J) (hb : w'.heap[b]? = w.heap[b]?) : PTab w' b m J := by
  obtain ⟨D, ho, hi, hJ⟩ := h
  obtain ⟨es, clock, hk, F, hs, hD⟩ := ho
  exact ⟨D, ⟨es, clock, hb.trans hk, F, hs, hD⟩, hi, hJ⟩
theorem PTab.made (w : World) : PTab (w.alloc (.map #[] 0)) w.heap.size 0 (fun _ _ => none) :=
  ⟨_, World.ownsMap_made w _ _ _, ⟨_, rfl⟩, fun a c _ _ => ⟨rfl, rfl⟩⟩
theorem PTab.put {w : World} {b m : Nat} {J : Int → Int → Option Int} (h : PTab w b m J) (hm : m < 1000) {a c x : Int} (ha : okI a) (hc : okI c) (hx : okI x) :
    ∃ w', (Instr.mapUpdate 88 (.map (some b)) (pairV a c) (.int .i64 x)).run Try.prog w = .ok () w' ∧ PTab w' b (m + 1) (fun i j => if i = a ∧ j = c then some x else J i j) ∧ w.grownBy w' (some b) := by
  obtain ⟨D, ho, hi, hJ⟩ := h
  obtain ⟨w', hrun, ho', hg⟩ := ho.update way_law Try.underlying88 (by unfold maxLen; omega) (way_key a c ha hc) (plainElem_int Try.underlying3 hx)
  refine ⟨w', hrun, ⟨_, ho', ?_, fun i j h1 h2 => ?_⟩, hg⟩
  · exact ho'.isMap
  · by_cases hij : i = a ∧ j = c
    · obtain ⟨rfl, rfl⟩ := hij
      rw [atKey_put_same hi (way_law.key (way_key i j ha hc)), has_put_same hi (way_law.key (way_key i j ha hc))]
      simp
    · rw [atKey_put_other (fun e => hij (way_inj h1 h2 ha hc e)), has_put_other (fun e => hij (way_inj h1 h2 ha hc e))]
      simp only [if_neg hij]
      exact hJ i j h1 h2

/-- may a rule be, apart from others -/
def rightF (n : Nat) (F : Nat → Bool) (r : S58) : Int :=
  if inN n r.f0 = true ∧ inN n r.f1 = true ∧ 1 ≤ r.f2 ∧ r.f2 ≤ 1048576 then (if r.f0 ≠ r.f1 ∧ flowsF n F r.f1 r.f0 = true then 0 else 4) else 1
abbrev ruleV (r : S58) : Value := .agg #[.int .i64 r.f0, .int .i64 r.f1, .int .i64 r.f2]
theorem right1_calls {w : World} {g n : Nat} (lb : Nat) (hS : Sized (P g) n w) (hl : w.heap[lb]? = some (.cells #[P g] 25 (0, 0))) (a : Int) :
    Calls Try.prog 78 #[.int .i64 a, .pointer (some ⟨lb, 0, none⟩)] w fun e w' => e = .returned (.bool (inN n a)) ∧ Below w.heap.size w w' := by
  have c1 : w.cell? ⟨lb, 0, none⟩ = some (P g) := (blk_cell hl 0).trans rfl
  clear hl
  by_cases ha : 0 ≤ a
  · go_enter Try.func78, Try.ntmps78
    go_wp2_with fail
    refine (hS _ (Below.refl _ _)).mono ?_
    rintro e w1 ⟨rfl, hb⟩
    go_wp2_with fail
    go_ret
    exact ⟨by simp [inN, ha, ← Int.not_le], hb⟩
  · go_enter Try.func78, Try.ntmps78
    go_wp2_with fail
    go_ret
    exact ⟨by unfold inN; rw [decide_eq_false (by omega)]; rfl, Below.refl _ _⟩
set_option maxHeartbeats 4000000 in
theorem right_calls {w : World} {g n : Nat} {F : Nat → Bool} (hS : Sized (P g) n w) (hF : Flowing (P g) (flowsF n F) w) (r : S58) :
    Calls Try.prog 72 #[P g, ruleV r] w fun e w' => e = .returned (.int .i64 (rightF n F r)) ∧ Below w.heap.size w w' := by
  have hmf : ∀ (fn : Fn) (first cap : Array Value) (w : World), (Instr.makeFunc fn first cap).run Try.prog w = .ok (.func fn first cap) w := fun _ _ _ _ => rfl
  have hk : ∀ args W, (callFunc 78 args).run Try.prog W = .ok (.enter 78 args) W := fun _ _ => enters_ Try.func78 (by kernel_rfl) rfl _ _
  obtain ⟨x, y, z⟩ := r
  have HP := Aside0.mk (blk_alloc (blk_new w (.cells #[P g] 25)) (.cells #[.int .i64 x, .int .i64 y, .int .i64 z] 58))
  have HR := Aside0.mk (blk_new (w.alloc (.cells #[P g] 25)) (.cells #[.int .i64 x, .int .i64 y, .int .i64 z] 58))
  have e1 : (w.alloc (.cells #[P g] 25)).heap.size = w.heap.size + 1 := by simp
  rw [e1] at HR
  have HB := Aside0.mk (below_alloc (below_alloc (Below.refl w.heap.size w) (.cells #[P g] 25)) (.cells #[.int .i64 x, .int .i64 y, .int .i64 z] 58))
  have FACTS : Aside0 (∀ V, Below ((w.alloc (.cells #[P g] 25)).alloc (.cells #[.int .i64 x, .int .i64 y, .int .i64 z] 58)).heap.size ((w.alloc (.cells #[P g] 25)).alloc (.cells #[.int .i64 x, .int .i64 y, .int .i64 z] 58)) V → V.cell? ⟨w.heap.size, 0, none⟩ = some (P g) ∧ V.cell? ⟨w.heap.size + 1, 0, none⟩ = some (.int .i64 x) ∧ V.cell? ⟨w.heap.size + 1, 1, none⟩ = some (.int .i64 y) ∧ V.cell? ⟨w.heap.size + 1, 2, none⟩ = some (.int .i64 z)) := ⟨fun V hV => ⟨(blk_cell (blk_below HP.out hV) 0).trans rfl, (blk_cell (blk_below HR.out hV) 0).trans rfl, (blk_cell (blk_below HR.out hV) 1).trans rfl, (blk_cell (blk_below HR.out hV) 2).trans rfl⟩⟩
  have HS := Aside0.mk (hS.later HB.out)
  have HF := Aside0.mk (hF.later HB.out)
  clear hS hF e1 HR
  obtain ⟨res, hres⟩ : ∃ res, rightF n F ⟨x, y, z⟩ = res := ⟨_, rfl⟩
  rw [hres]
  have one : ¬ (inN n x = true ∧ inN n y = true ∧ 1 ≤ z ∧ z ≤ 1048576) → res = 1 := fun h => by rw [← hres]; unfold rightF; exact if_neg h
  have two : (inN n x = true ∧ inN n y = true ∧ 1 ≤ z ∧ z ≤ 1048576) → res = if x ≠ y ∧ flowsF n F y x = true then 0 else 4 := fun h => by rw [← hres]; unfold rightF; exact if_pos h
  clear hres
  replace one := Aside0.mk one
  replace two := Aside0.mk two
  have F2 := Aside0.mk (FACTS.out _ (Below.refl _ _))
  go_enter Try.func72, Try.ntmps72
  have HV := Aside0.mk (Below.refl ((w.alloc (.cells #[P g] 25)).alloc (.cells #[.int .i64 x, .int .i64 y, .int .i64 z] 58)).heap.size ((w.alloc (.cells #[P g] 25)).alloc (.cells #[.int .i64 x, .int .i64 y, .int .i64 z] 58)))
  go_wp2_with fail
  generalize (w.alloc (.cells #[P g] 25)).alloc (.cells #[.int .i64 x, .int .i64 y, .int .i64 z] 58) = W at *
  refine (right1_calls w.heap.size HS.out HP.out x).mono ?_
  cases hx : inN n x
  · obtain rfl := one.out (fun q => by rw [hx] at q; exact absurd q.1 (by decide))
    rintro e w1 ⟨rfl, hb⟩
    go_wp2_with fail
    go_ret
    exact ⟨rfl, below_step HB.out hb⟩
  rintro e w1 ⟨rfl, hb⟩
  replace HS := Aside0.mk (HS.out.later hb)
  replace HF := Aside0.mk (HF.out.later hb)
  replace HP := Aside0.mk (blk_below HP.out hb)
  replace HB := Aside0.mk (below_step HB.out hb)
  replace HV := Aside0.mk hb
  clear hb
  obtain ⟨_, c0, c1, c2⟩ := FACTS.out _ HV.out
  go_wp2_with fail
  refine (right1_calls w.heap.size HS.out HP.out y).mono ?_
  cases hy : inN n y
  · obtain rfl := one.out (fun q => by rw [hy] at q; exact absurd q.2.1 (by decide))
    rintro e w2 ⟨rfl, hb⟩
    go_wp2_with fail
    go_ret
    exact ⟨rfl, below_step HB.out hb⟩
  rintro e w2 ⟨rfl, hb⟩
  replace HS := Aside0.mk (HS.out.later hb)
  replace HF := Aside0.mk (HF.out.later hb)
  replace HV := Aside0.mk (below_step HV.out hb)
  replace HB := Aside0.mk (below_step HB.out hb)
  clear hb c0 c1 c2 HP
  obtain ⟨cp, c0, c1, c2⟩ := FACTS.out _ HV.out
  by_cases hz : z < 1
  · obtain rfl := one.out (fun q => absurd q.2.2.1 (by omega))
    go_wp2_with fail
    go_ret
    exact ⟨rfl, HB.out⟩
  by_cases hz2 : 1048576 < z
  · obtain rfl := one.out (fun q => absurd q.2.2.2 (by omega))
    go_wp2_with fail
    go_ret
    exact ⟨rfl, HB.out⟩
  have two := Aside0.mk (two.out ⟨hx, hy, by omega, by omega⟩)
  by_cases hxy : x = y
  · subst hxy
    obtain rfl := two.out.trans (if_neg (fun q => q.1 rfl))
    go_wp2_with fail
    go_ret
    exact ⟨rfl, HB.out⟩
  have hxy2 : (x == y) = false := by simpa using hxy
  go_wp2_with fail
  refine (HF.out _ (Below.refl _ _) y x).mono ?_
  cases hfl : flowsF n F y x
  · obtain rfl := two.out.trans (if_neg (fun q => by rw [hfl] at q; exact absurd q.2 (by decide)))
    rintro e w3 ⟨rfl, hb⟩
    go_wp2_with fail
    go_ret
    exact ⟨rfl, below_step HB.out hb⟩
  · obtain rfl := two.out.trans (if_pos ⟨hxy, hfl⟩)
    rintro e w3 ⟨rfl, hb⟩
    go_wp2_with fail
    go_ret
    exact ⟨rfl, below_step HB.out hb⟩
end Go.Proofs.Yteopponjfkeagaa.Lat
