import Derived.Test.YteopponjfkeagaaPolFG
import Derived.Test.YteopponjfkeagaaPPolx3
namespace Go.Proofs.Yteopponjfkeagaa.Lat
open Go.RowKit Go.Maps Go.Proofs.YteopponjfkeagaaW.PrintWords Go.Proofs.YteopponjfkeagaaW.PrintLast Go.Proofs.YteopponjfkeagaaW.PrintMore Go.Proofs.Yteopponjfkeagaa.PPol
set_option linter.unusedVariables false
set_option linter.unusedSimpArgs false

section
variable {f : List (List Bool)} {n : Nat} (hs : sq f) (hn : f.length = n)
include hs hn
theorem fl32 (a b : Int) : weighlockref32_Flows.f f a b = some (flowsF n (flR f n) a b) := by
  subst hn
  unfold weighlockref32_Flows.f
  by_cases h : 0 ≤ a ∧ a < f.length ∧ 0 ≤ b ∧ b < f.length
  · obtain ⟨h1, h2, h3, h4⟩ := h
    obtain ⟨i, rfl⟩ := Int.eq_ofNat_of_zero_le h1
    obtain ⟨j, rfl⟩ := Int.eq_ofNat_of_zero_le h3
    have hi : i < f.length := by omega
    have hj : j < f.length := by omega
    have eL : Go.Proofs.Yteopponjfkeagaa.PPol.rd_L1 f (i : Int) = Go.Proofs.Yteopponjfkeagaa.PLattice.rd_L1 f (i : Int) := rfl
    rw [eL, row_len hs i hi, at_TT hs i j hi hj, if_pos (by omega), if_pos (by omega), if_pos (by omega), if_pos (by omega), if_pos (by omega), if_pos (by omega), if_pos (by omega)]
  · rw [flows_out h]
    by_cases h1 : a ≥ 0
    · rw [if_pos h1]
      by_cases h2 : a < (f.length : Int)
      · rw [if_pos h2]
        by_cases h3 : b ≥ 0
        · rw [if_pos h3, if_neg (fun h4 => h ⟨h1, h2, h3, h4⟩)]
        · rw [if_neg h3]
      · rw [if_neg h2]
    · rw [if_neg h1]
theorem read32 (a b : Int) : weighlockref32_Read.f f a b = some (readF (flowsF n (flR f n)) a b) := by
  unfold weighlockref32_Read.f readF
  rw [fl32 hs hn, Option.bind_some]
  split <;> rfl
theorem write32 (a b : Int) : weighlockref32_Write.f f a b = some (writeF (flowsF n (flR f n)) a b) := by
  unfold weighlockref32_Write.f writeF
  rw [fl32 hs hn, Option.bind_some]
  split
  · split <;> rfl
  · rfl
theorem order32 (a b : Int) : weighlockref32_Order.f f a b = some (orderF (flowsF n (flR f n)) a b) := by
  unfold weighlockref32_Order.f orderF
  by_cases h : a = b
  · subst h
    rw [if_pos rfl, read32 hs hn, Option.bind_some]
    unfold readF
    cases flowsF n (flR f n) a a <;> simp
  · rw [if_neg h, if_neg (fun q => h q.1)]
variable {c : Nat} {A : Option Addr} {w : World} (hC : Kd.C (Kd.slice 4 Kd.bool) w A n f) (hc : n ≤ c)
include hC hc
theorem cread (a b : Int) : Calls Try.prog 50 #[.slice A n c, .int .i64 a, .int .i64 b] w fun e w' => e = .returned (.int .i64 (readF (flowsF n (flR f n)) a b)) ∧ Below w.heap.size w w' := by
  have h := read32 hs hn a b
  subst hn
  exact (weighlockref32_Read.calls A c f a b _ w hC hc h).mono fun e w' h => ⟨h.1, h.2.below⟩
theorem cwrite (a b : Int) : Calls Try.prog 51 #[.slice A n c, .int .i64 a, .int .i64 b] w fun e w' => e = .returned (.int .i64 (writeF (flowsF n (flR f n)) a b)) ∧ Below w.heap.size w w' := by
  have h := write32 hs hn a b
  subst hn
  exact (weighlockref32_Write.calls A c f a b _ w hC hc h).mono fun e w' h => ⟨h.1, h.2.below⟩
theorem corder (a b : Int) : Calls Try.prog 52 #[.slice A n c, .int .i64 a, .int .i64 b] w fun e w' => e = .returned (.int .i64 (orderF (flowsF n (flR f n)) a b)) ∧ Below w.heap.size w w' := by
  have h := order32 hs hn a b
  subst hn
  exact (weighlockref32_Order.calls A c f a b _ w hC hc h).mono fun e w' h => ⟨h.1, h.2.below⟩
end
theorem gl_j (f : List (List Bool)) (n : Nat) (hn : f.length = n) (hmax : n < 9223372036854775807) : ∀ (d i k : Nat), i + d = n → d + 1 ≤ k → ∃ r, weighlocklaw32_large.l0 k f n i = some r
  | 0, i, k, hd, hk => by
    obtain ⟨k, rfl⟩ : ∃ m, k = m + 1 := ⟨k - 1, by omega⟩
    unfold weighlocklaw32_large.l0
    rw [if_neg (by omega)]
    exact ⟨_, rfl⟩
  | d + 1, i, k, hd, hk => by
    obtain ⟨k, rfl⟩ : ∃ m, k = m + 1 := ⟨k - 1, by omega⟩
    obtain ⟨r, ih⟩ := gl_j f n hn hmax d (i + 1) k (by omega) (by omega)
    unfold weighlocklaw32_large.l0
    rw [if_pos (by omega), if_pos (by omega), if_pos (by omega), w64S i (by omega)]
    split
    · exact ⟨_, rfl⟩
    · exact ⟨r, ih⟩
theorem gl_f (f : List (List Bool)) (l : List S58) (hmax : f.length ≤ 9223372036854775807) : ∃ k r, weighlocklaw32_large.f k f l = some r ∧ (r = false → f.length ≤ 40 ∧ l.length ≤ 60) := by
  unfold weighlocklaw32_large.f
  by_cases h : (f.length : Int) > 20
  · exact ⟨1, true, by rw [if_pos h]; rfl, fun e => absurd e (by decide)⟩
  · by_cases h2 : (l.length : Int) > 40
    · exact ⟨1, true, by rw [if_neg h]; exact if_pos (decide_eq_true h2), fun e => absurd e (by decide)⟩
    · obtain ⟨r, hr⟩ := gl_j f f.length rfl (by omega) f.length 0 (f.length + 1) (by omega) (by omega)
      rw [show ((0 : Nat) : Int) = 0 from rfl] at hr
      refine ⟨f.length + 2, r, ?_, fun _ => ⟨by omega, by omega⟩⟩
      rw [if_neg h]
      exact (if_neg (by rw [decide_eq_false h2]; decide)).trans hr
theorem gl_calls {f : List (List Bool)} {n c : Nat} {A : Option Addr} {w : World} (hn : f.length = n) (hC : Kd.C (Kd.slice 4 Kd.bool) w A n f) (hc : n ≤ c) {A1 : Option Addr} {c1 m : Nat} {l : List S58} (hm : l.length = m) (hC1 : Kd.C k58 w A1 m l) (hc1 : m ≤ c1) : ∃ r : Bool, (r = false → n ≤ 40 ∧ m ≤ 60) ∧ ∀ W, Below w.heap.size w W → Calls Try.prog 35 #[.slice A n c, .slice A1 m c1] W fun e w' => e = .returned (.bool r) ∧ Below W.heap.size W w' := by
  subst hn hm
  obtain ⟨k, r, hr, h40⟩ := gl_f f l (Kd.C_max hC)
  exact ⟨r, h40, fun W hW => (weighlocklaw32_large.calls k A c f A1 c1 l r W (Kd.C_below hC hW) hc (Kd.C_below hC1 hW) hc1 hr).mono fun e w' h => ⟨h.1, h.2.below⟩⟩
/-- the rules of a policy are right ones -/
theorem polW_all {n : Nat} {F : Nat → Bool} : ∀ (l pre : List S58), polW n F pre l = 0 → ∀ r ∈ l, rightF n F r = 0
  | [], _, _, _, hr => absurd hr List.not_mem_nil
  | q :: rest, pre, h, r, hr => by
    unfold polW at h
    by_cases h1 : rightF n F q ≠ 0
    · rw [if_pos h1] at h
      exact absurd h h1
    · rw [if_neg h1] at h
      have hq : rightF n F q = 0 := Classical.byContradiction h1
      rcases List.mem_cons.1 hr with rfl | hr
      · exact hq
      · split at h
        · exact absurd h (by decide)
        · exact polW_all rest _ h r hr
theorem found_in {n : Nat} {F : Nat → Bool} {l : List S58} (h0 : polNew n F l = 0) {a b k : Int} (h : findJ l a b = some k) : 0 ≤ a ∧ a < n ∧ 0 ≤ b ∧ b < n := by
  have hW : polW n F [] l = 0 := by
    unfold polNew at h0
    split at h0
    · exact absurd h0 (by decide)
    · exact h0
  unfold findJ at h
  obtain ⟨j, hj, _⟩ := Option.map_eq_some_iff.1 h
  rw [List.findIdx?_eq_some_iff_getElem] at hj
  obtain ⟨hl, hp, _⟩ := hj
  rw [Bool.and_eq_true, decide_eq_true_iff, decide_eq_true_iff] at hp
  have := rightF_ok (polW_all l [] hW _ (List.getElem_mem hl))
  rw [hp.1, hp.2] at this
  exact this
/-- what is told of a release is what the rules say -/
theorem rel_cases {f : List (List Bool)} {n : Nat} (hg : Good f) (hn : f.length = n) {l : List S58} (h0 : polNew n (flR f n) l = 0) (a b : Int) :
    ∃ (k x y : Int), relF (flowsF n (flR f n)) (foundF l a b) a b = (x, y) ∧ numF l a b = k ∧ ((0 ≤ k ∧ x = k ∧ y = 1) ∨ (k = -1 ∧ x = 0 ∧ y = 0)) := by
  rcases found_cases l a b with ⟨k, hk, e1, e2⟩ | ⟨e1, e2⟩
  · refine ⟨k, k, 1, ?_, e2, .inl ⟨hk, rfl, rfl⟩⟩
    have hf : findJ l a b = some k := by
      unfold foundF at e1
      cases h : findJ l a b with
      | some k' =>
        rw [h] at e1
        simp only [Prod.mk.injEq, and_true] at e1
        rw [e1]
      | none =>
        rw [h] at e1
        exact absurd (congrArg Prod.snd e1) (show ¬ ((6 : Int) = 0) by decide)
    obtain ⟨h1, h2, h3, h4⟩ := found_in h0 hf
    obtain ⟨i, rfl⟩ := Int.eq_ofNat_of_zero_le h1
    obtain ⟨j, rfl⟩ := Int.eq_ofNat_of_zero_le h3
    have o := good_ord hg hn
    rw [e1]
    unfold relF
    rw [if_pos ⟨rfl, o.refl i (by omega), o.refl j (by omega)⟩]
  · refine ⟨-1, 0, 0, ?_, e2, .inr ⟨rfl, rfl, rfl⟩⟩
    rw [e1]
    unfold relF
    rw [if_neg (fun q => absurd q.1 (by decide))]
theorem visible {n : Nat} {w : World} {g : Nat} {F : Nat → Bool} (h : IsLat w g n F) (h6 : n ≤ 6) (a : Int) : Calls Try.prog 55 #[P g, .int .i64 a] w fun e w' => ∃ A' c', e = .returned (.slice A' (pick (fun x => flowsF n F x a) n).length c') ∧ (pick (fun x => flowsF n F x a) n).length ≤ c' ∧ Kd.C (Kd.int .i64) w' A' (pick (fun x => flowsF n F x a) n).length (pick (fun x => flowsF n F x a) n) ∧ Below w.heap.size w w' := by
  have hb := Aside0.mk (lat_Below h h6 a)
  obtain ⟨l, hl⟩ : ∃ l, pick (fun x => flowsF n F x a) n = l := ⟨_, rfl⟩
  rw [hl] at hb ⊢
  clear h hl
  go_enter Try.func55, Try.ntmps55
  go_wp2_with fail
  refine hb.out.mono ?_
  rintro e w1 ⟨A', c', rfl, h1, h2, hb1⟩
  replace h2 := Aside0.mk h2
  go_wp2_with fail
  go_ret
  exact ⟨A', c', rfl, h1, h2.out, hb1⟩
theorem Tab.grown {W W' : World} {b m : Nat} {J : Int → Int → Int} {row : Option Nat} (h : Tab W b m J) (hg : W.grownBy W' row) (hr : ∀ k, row = some k → ∃ cells, W.heap[k]? = some (.cells cells 3 (0, 0))) : Tab W' b m J := by
  have h' := h
  obtain ⟨D, ⟨es, clock, hk, _⟩, _⟩ := h'
  refine h.at_block (hg.block b (blk_lt hk) (fun e => ?_))
  obtain ⟨cells, hc⟩ := hr b e.symm
  rw [hk] at hc
  exact absurd hc (by simp)
theorem PTab.grown {W W' : World} {b m : Nat} {J : Int → Int → Option Int} {row : Option Nat} (h : PTab W b m J) (hg : W.grownBy W' row) (hr : ∀ k, row = some k → ∃ cells, W.heap[k]? = some (.cells cells 3 (0, 0))) : PTab W' b m J := by
  have h' := h
  obtain ⟨D, ⟨es, clock, hk, _⟩, _⟩ := h'
  refine h.at_block (hg.block b (blk_lt hk) (fun e => ?_))
  obtain ⟨cells, hc⟩ := hr b e.symm
  rw [hk] at hc
  exact absurd hc (by simp)
theorem blk_row {W W' : World} {g : Nat} {cs : Array Value} {t : TypeId} {row : Option Nat} (h : W.heap[g]? = some (.cells cs t (0, 0))) (ht : t ≠ 3) (hg : W.grownBy W' row) (hr : ∀ k, row = some k → ∃ cells, W.heap[k]? = some (.cells cells 3 (0, 0))) : W'.heap[g]? = some (.cells cs t (0, 0)) := by
  refine (hg.block g (blk_lt h) (fun e => ?_)).trans h
  obtain ⟨cells, hc⟩ := hr g e.symm
  exact blk_ne h hc ht rfl
theorem IsLat.grown {W W' : World} {g n : Nat} {F : Nat → Bool} {row : Option Nat} (h : IsLat W g n F) (hg : W.grownBy W' row) (hr : ∀ k, row = some k → ∃ cells, W.heap[k]? = some (.cells cells 3 (0, 0))) : IsLat W' g n F := by
  obtain ⟨jm, mm, h1, h2, h3⟩ := h
  exact ⟨jm, mm, blk_row h1 (by decide) hg hr, h2.grown hg hr, h3.grown hg hr⟩
theorem IsPol.grown {W W' : World} {pg : Nat} {l : List S58} {row : Option Nat} (h : IsPol W pg l) (hg : W.grownBy W' row) (hr : ∀ k, row = some k → ∃ cells, W.heap[k]? = some (.cells cells 3 (0, 0))) : IsPol W' pg l := by
  obtain ⟨pm, base, u, h1, h2, h3⟩ := h
  refine ⟨pm, base, u, blk_row h1 (by decide) hg hr, ?_, h3.grown hg hr⟩
  cases row with
  | none => exact Kd.R_grown h2 hg (fun k _ e => by cases e)
  | some q =>
    obtain ⟨cells, hc⟩ := hr q rfl
    have h4 := Kd.R_types h2 hc (fun x hx => by
      have hE : k58.E = [] := rfl
      rw [hE, List.mem_singleton] at hx
      rw [hx]
      decide)
    exact Kd.R_mono (Kd.R_grown h4 hg (fun k hk e => hk.2 (Option.some.inj e))) (fun k hk => hk.1)
def XW (g pg n : Nat) (F : Nat → Bool) (l : List S58) (W : World) : Prop := IsLat W g n F ∧ IsPol W pg l
theorem XW.st (g pg n : Nat) (F : Nat → Bool) (l : List S58) : Stays (XW g pg n F l) := fun W W' hb h => ⟨h.1.later hb, h.2.later hb⟩
set_option maxHeartbeats 8000000 in
set_option maxRecDepth 8000 in
theorem gways_core {A A1 : Option Addr} {c n m c1 : Nat} (f : List (List Bool)) (l : List S58) (hn : Aside0 (f.length = n)) (hm : Aside0 (l.length = m)) (q0 q1 : Int) (hq0 : okI q0) (hq1 : okI q1) (w : World) (hC : Kd.C (Kd.slice 4 Kd.bool) w A n f) (hc : n ≤ c) (hC1 : Kd.C k58 w A1 m l) (hc1 : m ≤ c1) :
    Ok w w.heap.size w 11 #[.slice A n c, .slice A1 m c1, .agg #[.int .i64 q0, .int .i64 q1]] (.bool true) := by
  have HC := Aside0.mk hC
  have HC1 := Aside0.mk hC1
  replace hq0 := Aside0.mk hq0
  replace hq1 := Aside0.mk hq1
  obtain ⟨r, h40, HL⟩ := gl_calls hn.out hC hc hm.out hC1 hc1
  replace HL := Aside0.mk HL
  replace h40 := Aside0.mk h40
  clear hC hC1
  have HB := Aside0.mk (below_alloc (Below.refl w.heap.size w) (.cells #[.int .i64 q0, .int .i64 q1] 66))
  have HQ := Aside0.mk (blk_new w (.cells #[.int .i64 q0, .int .i64 q1] 66))
  go_enter Try.func11, Try.ntmps11
  go_wp2_with fail
  generalize w.alloc (.cells #[.int .i64 q0, .int .i64 q1] 66) = W0 at *
  refine (HL.out _ HB.out).mono ?_
  rintro e w1 ⟨rfl, hb⟩
  replace HQ := Aside0.mk (blk_below HQ.out hb)
  replace HB := Aside0.mk (below_step HB.out hb)
  clear hb HL
  cases r
  case true =>
    go_wp2_with fail
    refine (gtwo_then HB.out).mono ?_
    rintro e w2 ⟨rfl, hb⟩
    go_wp2_with fail
    go_ret
    exact ⟨rfl, hb⟩
  obtain ⟨h40, h60⟩ := h40.out rfl
  obtain ⟨r, hw, HW⟩ := prw04 hn.out HC.out hc h40
  replace HW := Aside0.mk HW
  replace hw := Aside0.mk hw
  go_wp2_with fail
  refine (HW.out _ HB.out).mono ?_
  rintro e w2 ⟨rfl, hb⟩
  replace HQ := Aside0.mk (blk_below HQ.out hb)
  replace HB := Aside0.mk (below_step HB.out hb)
  clear hb HW
  by_cases hr : r = 0
  case neg =>
    have hr2 : (r == 0) = false := by simpa using hr
    go_wp2_with fail
    refine (gtwo_then HB.out).mono ?_
    rintro e w3 ⟨rfl, hb⟩
    go_wp2_with fail
    go_ret
    exact ⟨rfl, hb⟩
  subst hr
  have HG := Aside0.mk hw.out.good
  have h6 : n ≤ 6 := by have := HG.out.s.2.1; rw [hn.out] at this; exact this
  clear hw
  have hwr := fun W (hW : Below w.heap.size w W) => prwrong HG.out.s hn.out (Kd.C_below HC.out hW) hc hm.out (Kd.C_below HC1.out hW) hc1 h60
  obtain ⟨cd, hcd⟩ : ∃ cd, polNew n (flR f n) l = cd := ⟨_, rfl⟩
  rw [hcd] at hwr
  have HCD := Aside0.mk hcd
  clear hcd
  replace hwr := Aside0.mk hwr
  go_wp2_with fail
  refine (hwr.out _ HB.out).mono ?_
  rintro e w3 ⟨rfl, hb⟩
  replace HQ := Aside0.mk (blk_below HQ.out hb)
  replace HB := Aside0.mk (below_step HB.out hb)
  clear hb hwr
  by_cases h0 : cd = 0
  case neg =>
    have hr2 : (cd == 0) = false := by simpa using h0
    go_wp2_with fail
    refine (gtwo_then HB.out).mono ?_
    rintro e w3 ⟨rfl, hb⟩
    go_wp2_with fail
    go_ret
    exact ⟨rfl, hb⟩
  subst h0
  go_wp2_with fail
  refine (New_calls' f hn (Kd.C_below HC.out HB.out)).mono ?_
  rintro e w4 ⟨hnew, hb⟩
  obtain ⟨g, rfl, hlat⟩ := HG.out.new hnew
  rw [hn.out] at hlat
  have HLt := Aside0.mk hlat
  replace HQ := Aside0.mk (blk_below HQ.out hb)
  replace HB := Aside0.mk (below_step HB.out hb)
  clear hb hlat hnew
  go_wp2_with fail
  refine (PolNew_calls l hm h6 (lat_sized HLt.out) (lat_flowing HLt.out h6) (Kd.C_below HC1.out HB.out)).mono ?_
  rintro e w5 ⟨hnew, hb⟩
  obtain ⟨pg, rfl, hpol⟩ := pol2 HCD.out hnew
  have HX : Aside0 (XW g pg n (flR f n) l w5) := ⟨⟨HLt.out.later hb, hpol⟩⟩
  replace HQ := Aside0.mk (blk_below HQ.out hb)
  replace HB := Aside0.mk (below_step HB.out hb)
  clear hb hnew hpol HLt
  have c0 : w5.cell? ⟨w.heap.size, 0, none⟩ = some (.int .i64 q0) := (blk_cell HQ.out 0).trans rfl
  have c1' : w5.cell? ⟨w.heap.size, 1, none⟩ = some (.int .i64 q1) := (blk_cell HQ.out 1).trans rfl
  have cr := fun W (hW : XW g pg n (flR f n) l W) => Read_calls (lat_flowing hW.1 h6) q0 q1
  have cw := fun W (hW : XW g pg n (flR f n) l W) => Write_calls (lat_flowing hW.1 h6) q0 q1
  have co := fun W (hW : XW g pg n (flR f n) l W) => Order_calls (lat_flowing hW.1 h6) q0 q1
  have dr := fun W (hW : Below w.heap.size w W) => cread HG.out.s hn.out (Kd.C_below HC.out hW) hc q0 q1
  have dw := fun W (hW : Below w.heap.size w W) => cwrite HG.out.s hn.out (Kd.C_below HC.out hW) hc q0 q1
  have dO := fun W (hW : Below w.heap.size w W) => corder HG.out.s hn.out (Kd.C_below HC.out hW) hc q0 q1
  generalize readF (flowsF n (flR f n)) q0 q1 = rv at *
  generalize writeF (flowsF n (flR f n)) q0 q1 = wv at *
  generalize orderF (flowsF n (flR f n)) q0 q1 = ov at *
  replace cr := Aside0.mk cr
  replace cw := Aside0.mk cw
  replace co := Aside0.mk co
  replace dr := Aside0.mk dr
  replace dw := Aside0.mk dw
  replace dO := Aside0.mk dO
  go_wp2_with fail
  refine (okX (XW.st _ _ _ _ _) HB.out HX.out (cr.out _ HX.out)).mono ?_
  clear HB HX c0 c1' cr HQ
  rintro e w6 ⟨rfl, HX, HB⟩
  go_wp2_with fail
  refine (okX (XW.st _ _ _ _ _) HB.out HX.out (dr.out _ HB.out)).mono ?_
  clear HB HX dr
  rintro e w7 ⟨rfl, HX, HB⟩
  go_wp2_with fail
  refine (okX (XW.st _ _ _ _ _) HB.out HX.out (cw.out _ HX.out)).mono ?_
  clear HB HX cw
  rintro e w8 ⟨rfl, HX, HB⟩
  go_wp2_with fail
  refine (okX (XW.st _ _ _ _ _) HB.out HX.out (dw.out _ HB.out)).mono ?_
  clear HB HX dw
  rintro e w9 ⟨rfl, HX, HB⟩
  go_wp2_with fail
  refine (okX (XW.st _ _ _ _ _) HB.out HX.out (co.out _ HX.out)).mono ?_
  clear HB HX co
  rintro e w10 ⟨rfl, HX, HB⟩
  go_wp2_with fail
  refine (okX (XW.st _ _ _ _ _) HB.out HX.out (dO.out _ HB.out)).mono ?_
  clear HB HX dO
  rintro e w11 ⟨rfl, HX, HB⟩
  go_wp2_with fail
  go_loopw [13, 81] (fun o x wr => ∃ i : Nat, x = .int .i64 (i : Int) ∧ i ≤ n ∧ Aside0 (XW g pg n (flR f n) l wr) ∧ Aside0 (Kd.R (Kd.int .i64) 3 wr w.heap.size (fun _ => True) o (pick (fun x => flowsF n (flR f n) x q0) i)) ∧ Aside0 (Below w.heap.size w wr)) (fun _ x _ => n - (intOf x).toNat)
  case atStart => exact ⟨0, rfl, Nat.zero_le _, HX, ⟨by rw [show pick (fun x => flowsF n (flR f n) x q0) 0 = [] from rfl]; exact Kd.R_nil _ _ _ _ _⟩, HB⟩
  case round =>
    clear HX HB
    obtain ⟨i, rfl, hi, HX, HR, HB⟩ := hrel
    by_cases hx : (i : Int) < n
    · have di := cread HG.out.s hn.out (Kd.C_below HC.out HB.out) hc q0 (i : Int)
      cases ht : flowsF n (flR f n) (i : Int) q0
      · rw [show readF (flowsF n (flR f n)) q0 (i : Int) = 0 by unfold readF; rw [ht]; rfl] at di
        have hps := Aside0.mk (pick_succ (fun x => flowsF n (flR f n) x q0) i)
        rw [ht] at hps
        replace di := Aside0.mk di
        clear ht
        go_wp2_with fail
        refine di.out.mono ?_
        rintro e v1 ⟨rfl, hb⟩
        replace HX := Aside0.mk (XW.st _ _ _ _ _ _ _ hb HX.out)
        replace HR := Aside0.mk (Kd.R_below HR.out hb)
        replace HB := Aside0.mk (below_step HB.out hb)
        clear hb di
        go_wp2_with fail
        exact ⟨⟨i + 1, rfl, by omega, HX, ⟨by rw [hps.out]; exact HR.out⟩, HB⟩, by simp [intOf]; omega⟩
      · rw [show readF (flowsF n (flR f n)) q0 (i : Int) = 1 by unfold readF; rw [ht]; rfl] at di
        have hps := Aside0.mk (pick_succ (fun x => flowsF n (flR f n) x q0) i)
        rw [ht] at hps
        replace di := Aside0.mk di
        clear ht
        go_wp2_with fail
        refine di.out.mono ?_
        rintro e v1 ⟨rfl, hb⟩
        have HX2 := Aside0.mk (XW.st _ _ _ _ _ _ _ hb HX.out)
        have HR2 := Aside0.mk (Kd.R_below HR.out hb)
        have HB2 := Aside0.mk (below_step HB.out hb)
        clear hb di HX HR HB
        have hl := pick_length (fun x => flowsF n (flR f n) x q0) i
        go_wp2_with (first | ((with_reducible refine gate_builtin (b := .append) (xs := #[.tmp 89, .tmp 91]) rfl ?_); at_builtin; refine Kd.R_append (Kd.int .i64) (w0 := w) w.heap.size rfl (.tmp 89) (.tmp 91) 39 3 (.int .i64 0) 8 rfl Try.underlying39 info_int rfl (by decide) (by omega) u13 (pick (fun x => flowsF n (flR f n) x q0) i) (i : Int) [.int .i64 (i : Int)] (fun _ => True) (fun _ => False) rfl rfl ?aP (fun _ hk => hk.elim) ?aF ?aO ?aB ?aS ?aL ?_; (case aP => exact rfl); (case aB => exact HB2.out); (case aF => exact (fun _ _ => trivial)); (case aO => exact HR2.out); (case aS => exact below_size HB2.out); (case aL => omega); intro v163 w11 ho hb hg hat))
        exact ⟨⟨i + 1, rfl, by omega, ⟨HX2.out.1.grown hg (fun k e => Kd.R_typed HR2.out k e), HX2.out.2.grown hg (fun k e => Kd.R_typed HR2.out k e)⟩, ⟨by rw [hps.out]; exact ho⟩, ⟨hb⟩⟩, by simp [intOf]; omega⟩
    · obtain rfl : n = i := by omega
      obtain ⟨A5, c5, eo, hc5, _⟩ := Kd.R_reads HR.out
      subst eo
      replace HR := Aside0.mk HR.out
      obtain ⟨k, x, y, e1, e2, hk⟩ := rel_cases HG.out hn.out HCD.out q0 q1
      have hrl := fun W (hW : XW g pg n (flR f n) l W) => cRel h6 hW.1 hW.2 hq0.out hq1.out e1
      have hrf := fun W (hW : Below w.heap.size w W) => prfind hm.out (Kd.C_below HC1.out hW) hc1 h60 q0 q1
      rw [e2] at hrf
      clear e1 e2
      replace hrl := Aside0.mk hrl
      replace hrf := Aside0.mk hrf
      have hvis := fun W (hW : XW g pg n (flR f n) l W) => visible hW.1 h6 q0
      have hl1000 : (pick (fun x => flowsF n (flR f n) x q0) n).length < 1000 := by have := pick_length (fun x => flowsF n (flR f n) x q0) n; omega
      generalize pick (fun x => flowsF n (flR f n) x q0) n = L at *
      replace hvis := Aside0.mk hvis
      go_wp2_with fail
      refine (hrl.out _ HX.out).mono ?_
      rintro e v2 ⟨rfl, hb⟩
      replace HX := Aside0.mk (XW.st _ _ _ _ _ _ _ hb HX.out)
      replace HR := Aside0.mk (Kd.R_below HR.out hb)
      replace HB := Aside0.mk (below_step HB.out hb)
      clear hb hrl
      go_wp2_with fail
      refine (hrf.out _ HB.out).mono ?_
      rintro e v3 ⟨rfl, hb⟩
      replace HX := Aside0.mk (XW.st _ _ _ _ _ _ _ hb HX.out)
      replace HR := Aside0.mk (Kd.R_below HR.out hb)
      replace HB := Aside0.mk (below_step HB.out hb)
      clear hb hrf
      rcases hk with ⟨hk, rfl, rfl⟩ | ⟨rfl, rfl, rfl⟩
      all_goals
        go_wp2_with fail
        refine (hvis.out _ HX.out).mono ?_
        rintro e v4 ⟨A6, c6, rfl, hc6, hC6, hb⟩
        replace hC6 := Aside0.mk hC6
        have HR6 := Aside0.mk (Kd.R_below HR.out hb)
        have HB6 := Aside0.mk (below_step HB.out hb)
        clear hb
        obtain ⟨A7, c7, e7, hc7, hC7⟩ := Kd.R_reads HR6.out
        simp only [Value.slice.injEq, true_and] at e7
        obtain ⟨rfl, rfl⟩ := e7
        replace hC7 := Aside0.mk hC7
        go_wp2_with fail
        refine (ints_same hl1000 hC6.out hc6 hC7.out hc7).mono ?_
        rintro e v5 ⟨rfl, hb⟩
        replace HB6 := Aside0.mk (below_step HB6.out hb)
        clear hb hC6 hC7 HR6
        go_wp2_with fail
        refine (gtwo_then HB6.out).mono ?_
        rintro e v6 ⟨rfl, hb⟩
        go_wp2_with fail
        go_ret
        exact ⟨rfl, hb⟩
end Go.Proofs.Yteopponjfkeagaa.Lat
