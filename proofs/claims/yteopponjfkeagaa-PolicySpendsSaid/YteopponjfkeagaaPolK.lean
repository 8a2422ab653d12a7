import Derived.Test.YteopponjfkeagaaPolJ
namespace Go.Proofs.Yteopponjfkeagaa.Lat
open Go.RowKit Go.Maps Go.Proofs.YteopponjfkeagaaW.PrintWords Go.Proofs.YteopponjfkeagaaW.PrintLast Go.Proofs.YteopponjfkeagaaW.PrintMore Go.Proofs.Yteopponjfkeagaa.PPol
set_option linter.unusedVariables false
set_option linter.unusedSimpArgs false

theorem rightF_bud {n : Nat} {F : Nat → Bool} {r : S58} (h : rightF n F r = 0) : 1 ≤ r.f2 ∧ r.f2 ≤ 1048576 := by
  unfold rightF at h
  split at h
  · rename_i q
    exact q.2.2
  · exact absurd h (by decide)
theorem polW_allK {n : Nat} {F : Nat → Bool} : ∀ (l pre : List S58), polW n F pre l = 0 → ∀ r ∈ l, rightF n F r = 0
  | [], _, _, _, hr => absurd hr List.not_mem_nil
  | q :: rest, pre, h, r, hr => by
    unfold polW at h
    by_cases h1 : rightF n F q ≠ 0
    · rw [if_pos h1] at h
      exact absurd h h1
    · rw [if_neg h1] at h
      have hq : rightF n F q = 0 := Classical.byContradiction h1
      rcases List.mem_cons.1 hr with rfl | hr
      · exact hq
      · split at h
        · exact absurd h (by decide)
        · exact polW_allK rest _ h r hr
theorem rd58_mem (l : List S58) (i : Nat) (h : i < l.length) : rd_T58 l i ∈ l := by
  unfold rd_T58
  rw [Int.toNat_natCast, List.getD_eq_getElem?_getD, List.getElem?_eq_getElem h]
  exact List.getElem_mem h
def Buds (l : List S58) : Prop := ∀ i : Nat, i < l.length → 1 ≤ (rd_T58 l i).f2 ∧ (rd_T58 l i).f2 ≤ 1048576
theorem buds {n : Nat} {F : Nat → Bool} {l : List S58} (h0 : polNew n F l = 0) : Buds l ∧ l.length ≤ 16 := by
  unfold polNew at h0
  split at h0
  · exact absurd h0 (by decide)
  · rename_i q
    exact ⟨fun i hi => rightF_bud (polW_allK l [] h0 _ (rd58_mem l i hi)), by omega⟩
theorem spent_calls {Ad : Option Addr} {cd : Nat} {ds : List S61} {W : World} (hC : Kd.C k61 W Ad ds.length ds) (hc : ds.length ≤ cd) {l : List S58} {sp : List Int} {win now : Int} (h : Inv l sp ds win now) (hn : now ≤ 1000) (hd : ds.length ≤ 1000) (r : Int) :
    Calls Try.prog 47 #[.slice Ad ds.length cd, .int .i64 r, .int .i64 win, .int .i64 now] W fun e w' => e = .returned (.int .i64 (spentF ds r win now)) ∧ Below W.heap.size W w' :=
  weighlockref05_Spent.calls 1100 Ad cd ds r win now _ W hC hc (Spent_f ds r win now h.w.1 ⟨h.t, hn⟩ (fun d hd => ⟨(h.d d hd).1, by have := (h.d d hd).2; omega⟩) hd)
set_option maxHeartbeats 8000000 in
set_option maxRecDepth 8000 in
theorem lefts_calls {Al Ad : Option Addr} {m c1 dm cd : Nat} {l : List S58} {ds : List S61} {sp : List Int} {win now at_ : Int} {B gl pg : Nat} {w : World} (hm : Aside0 (l.length = m)) (hC1 : Kd.C k58 w Al m l) (hc1 : m ≤ c1) (hdm : Aside0 (ds.length = dm)) (hCd : Kd.C k61 w Ad dm ds) (hcd : dm ≤ cd) (hled : Led B w gl pg l win at_ sp) (hinv : Inv l sp ds win now) (hb : Buds l) (hn : now ≤ 1000) (hd : dm ≤ 1000) (hm16 : m ≤ 16) :
    Calls Try.prog 48 #[P gl, .slice Al m c1, .slice Ad dm cd, .int .i64 win, .int .i64 now] w fun e w' => e = .returned (.bool true) ∧ Below w.heap.size w w' := by
  have HC := Aside0.mk hC1
  have HL := Aside0.mk hled
  have hs := fun (r : Int) W (hW : Below w.heap.size w W) => spent_calls (ds := ds) (cd := cd) (by rw [hdm.out]; exact Kd.C_below hCd hW) (by rw [hdm.out]; exact hcd) hinv hn (by rw [hdm.out]; exact hd) r
  rw [hdm.out] at hs
  have hlf := fun (i : Nat) (hi : i < m) W (hW : Led B W gl pg l win at_ sp) => Left_in (i := i) hW (by rw [hm.out]; exact hi) (by
    have h1 := hinv.b i (by rw [hm.out]; exact hi)
    have h2 := hb i (by rw [hm.out]; exact hi)
    have h3 := hinv.s i (by rw [hm.out]; exact hi)
    have h4 := spentF_nonneg ds i win now
    unfold leftF
    omega)
  have heq : ∀ i : Nat, i < m → rd sp i = spentF ds i win now ∧ 0 ≤ spentF ds i win now ∧ spentF ds i win now ≤ (rd_T58 l i).f2 ∧ (rd_T58 l i).f2 ≤ 1048576 := fun i hi => by
    have h1 := hinv.b i (by rw [hm.out]; exact hi)
    have h2 := hb i (by rw [hm.out]; exact hi)
    have h3 := hinv.s i (by rw [hm.out]; exact hi)
    have h4 := spentF_nonneg ds i win now
    omega
  replace hs := Aside0.mk hs
  replace hlf := Aside0.mk hlf
  replace heq := Aside0.mk heq
  have HB := Aside0.mk (Below.refl w.heap.size w)
  clear hC1 hCd hled hinv hb
  go_enter Try.func48, Try.ntmps48
  go_wp2_with fail
  go_loopw [15] (fun x wr => ∃ i : Nat, x = .int .i64 (i : Int) ∧ i ≤ m ∧ Aside0 (Led B wr gl pg l win at_ sp) ∧ Aside0 (Below w.heap.size w wr)) (fun x _ => m - (intOf x).toNat)
  case atStart => exact ⟨0, rfl, Nat.zero_le _, HL, HB⟩
  case round =>
    clear HL HB
    obtain ⟨i, rfl, hi, HL, HB⟩ := hrel
    by_cases hx : (i : Int) < m
    · obtain ⟨ad, eA, p0, p1, p2⟩ := at_T58 HC.out i (by omega) hx
      subst eA
      replace p0 := (HB.out.cell (World.block_lt_of_cell? w _ p0)).trans p0
      replace p1 := (HB.out.cell (World.block_lt_of_cell? w _ p1)).trans p1
      replace p2 := (HB.out.cell (World.block_lt_of_cell? w _ p2)).trans p2
      rw [Int.toNat_natCast] at p0 p1 p2
      have hl := hlf.out i (by omega)
      have hsp := hs.out (i : Int)
      obtain ⟨e1, e2, e3, e4⟩ := heq.out i (by omega)
      unfold leftF at hl
      rw [e1] at hl
      clear e1
      generalize spentF ds (i : Int) win now = s at *
      generalize rd_T58 l i = r at *
      obtain ⟨r0, r1, r2⟩ := r
      simp only at p0 p1 p2 e3 e4 hl
      replace hl := Aside0.mk hl
      replace hsp := Aside0.mk hsp
      have hwr : IntKind.i64.wrap (r2 - s) = r2 - s := IntWalk.i64_in _ (by omega)
      go_upto_region 4 with fail
      have hal := below_alloc (Below.refl wr.heap.size wr) (.cells #[.int .i64 r0, .int .i64 r1, .int .i64 r2] 58)
      have HR := Aside0.mk (blk_new wr (.cells #[.int .i64 r0, .int .i64 r1, .int .i64 r2] 58))
      have HLd := Aside0.mk (HL.out.later (below_drew hal))
      have HBd := Aside0.mk (below_drew (below_step HB.out hal))
      have HRd : Aside0 ((wr.alloc (.cells #[.int .i64 r0, .int .i64 r1, .int .i64 r2] 58)).drew.heap[wr.heap.size]? = some (.cells #[.int .i64 r0, .int .i64 r1, .int .i64 r2] 58 (0, 0))) := ⟨HR.out⟩
      clear HR hal p0 p1 p2 HL HB
      generalize wr.alloc (.cells #[.int .i64 r0, .int .i64 r1, .int .i64 r2] 58) = W1 at *
      generalize wr.heap.size = rb at *
      have hS : ∀ W : World, W.heap[rb]? = some (.cells #[.int .i64 r0, .int .i64 r1, .int .i64 r2] 58 (0, 0)) → W.cell? ⟨rb, 2, none⟩ = some (.int .i64 r2) := fun W h => (blk_cell h 2).trans rfl
      replace hS := Aside0.mk hS
      go_region_held3 (fun w' => w'.cell? ⟨rb, 2, none⟩ = some (.int .i64 r2))
        (first | exact hS.out _ m2.out | exact hS.out _ m1.out | exact hS.out _ HRd.out)
        (first | (go_at_call 47; refine (hsp.out _ k1.out).mono ?_; rintro e w' ⟨rfl, hb⟩; have k2 := Aside0.mk (below_step k1.out hb); have l2 := Aside0.mk (l1.out.later hb); have m2 := Aside0.mk (blk_below m1.out hb); clear hb) | (go_at_call 49; refine (hl.out _ HLd.out).mono ?_; rintro e w' ⟨rfl, hb⟩; have k1 := Aside0.mk (below_step HBd.out hb); have l1 := Aside0.mk (HLd.out.later hb); have m1 := Aside0.mk (blk_below HRd.out hb); clear hb))
      clear HLd HBd HRd hS k1 l1 m1 m2 hl hsp
      go_wp2_with fail
      exact ⟨⟨i + 1, rfl, by omega, l2, k2⟩, by simp [intOf]; omega⟩
    · obtain rfl : m = i := by omega
      have h1 := fun W (hW : Led B W gl pg l win at_ sp) => Left_out hW (a := -1) (by
        rw [Bool.eq_false_iff]
        intro q
        have := inN_iff.1 q
        omega)
      have h2 := fun W (hW : Led B W gl pg l win at_ sp) => Left_out hW (a := (m : Int)) (by
        rw [Bool.eq_false_iff]
        intro q
        rw [hm.out] at q
        have := inN_iff.1 q
        omega)
      replace h1 := Aside0.mk h1
      replace h2 := Aside0.mk h2
      go_wp2_with fail
      refine (h1.out _ HL.out).mono ?_
      rintro e w1 ⟨rfl, hb⟩
      have HL2 := Aside0.mk (HL.out.later hb)
      have HB2 := Aside0.mk (below_step HB.out hb)
      clear hb
      go_wp2_with fail
      refine (h2.out _ HL2.out).mono ?_
      rintro e w2 ⟨rfl, hb⟩
      have HB3 := Aside0.mk (below_step HB2.out hb)
      clear hb
      go_wp2_with fail
      go_ret
      exact ⟨rfl, HB3.out⟩
end Go.Proofs.Yteopponjfkeagaa.Lat
