import Derived.Test.YtlgihjhlkpmpnaaZWireX
namespace Go.Proofs.Ytlgihjhlkpmpnaa.Wire
set_option linter.unusedVariables false
set_option linter.unusedSimpArgs false
open Go.RowKit Go.Proofs.YtlgihjhlkpmpnaaW.PrintWords Go.Proofs.YtlgihjhlkpmpnaaW.PrintLast Go.Proofs.YtlgihjhlkpmpnaaW.PrintMore Go.Proofs.Ytlgihjhlkpmpnaa.Hand Go.Proofs.Ytlgihjhlkpmpnaa.PWire Go.Proofs.Ytlgihjhlkpmpnaa.PureNums
/-- any number as a chain, as the reference writes it -/
def chU (n : Int) : ByteArray := chainS (IntKind.u64.wrap n)
theorem chU_small (n : Int) (h : upToB n = true) : chU n = chainS n := by
  unfold upToB at h
  simp only [Bool.and_eq_true, decide_eq_true_eq] at h
  unfold chU
  rw [u64_same n h.1 h.2]
theorem p128 : (18446744073709551616 : Int) < 128 ^ 10 := by decide
theorem u64_rng (n : Int) : 0 ≤ IntKind.u64.wrap n ∧ IntKind.u64.wrap n < 18446744073709551616 := by
  have e : IntKind.u64.wrap n = n % 18446744073709551616 := rfl
  rw [e]; omega
theorem ch_some (n : Int) (k : Nat) (hk : 10 ≤ k) : weighlockref34_chain.f k n = some (chU n) := by
  have h := u64_rng n
  have hp := p128
  unfold weighlockref34_chain.f chU chainS
  rw [at_rounds (weighlockref01_Chain.mono _) hk (ref_chain 10 _ (by omega) (by omega) h.1 h.2 (by omega))]
  rfl
theorem tx_some (s : ByteArray) (h : s.size ≤ 1000000) (k : Nat) (hk : 10 ≤ k) : weighlockref34_text.f k s = some (textS s) := by
  have hp := p128
  have hz := chainS_size (s.size : Int)
  unfold weighlockref34_text.f weighlockref01_Text.f textS
  rw [u64_same _ (by omega) (by omega), at_rounds (weighlockref01_Chain.mono _) hk (ref_chain 10 (s.size : Int) (by omega) (by omega) (by omega) (by omega) (by omega))]
  simp only [Option.bind_some]
  unfold chainS at hz
  rw [if_pos (by omega)]
  rfl
theorem ch_calls (n : Int) (W : World) : Calls Try.prog 89 #[.int .i64 n] W fun e w' => e = .returned (.string (chU n)) ∧ Below W.heap.size W w' :=
  (weighlockref34_chain.calls 10 n (chU n) W (ch_some n 10 (Nat.le_refl _))).mono fun e w' h => ⟨h.1, by
    first
      | exact h.2
      | (obtain ⟨nd, e⟩ := h.2.out
         rw [e]
         exact pw_below_drewN (Below.refl _ _) nd)⟩
theorem tx_calls (s : ByteArray) (W : World) (h : s.size ≤ 1000000) : Calls Try.prog 88 #[.string s] W fun e w' => e = .returned (.string (textS s)) ∧ Below W.heap.size W w' :=
  (weighlockref34_text.calls 10 s (textS s) W (tx_some s h 10 (Nat.le_refl _))).mono fun e w' h => ⟨h.1, by
    first
      | exact h.2
      | (obtain ⟨nd, e⟩ := h.2.out
         rw [e]
         exact pw_below_drewN (Below.refl _ _) nd)⟩
theorem flagS_lit (b : Bool) : flagS b = if b then ⟨#[1]⟩ else ⟨#[0]⟩ := by
  cases b <;> exact ba_ext (by decide +kernel)
theorem fl_calls (b : Bool) (W : World) : Calls Try.prog 90 #[.bool b] W fun e w' => e = .returned (.string (flagS b)) ∧ Below W.heap.size W w' :=
  (weighlockref34_flag.calls b (flagS b) W (by unfold weighlockref34_flag.f; rw [flagS_lit]; cases b <;> rfl)).mono fun e w' h => ⟨h.1, by
    first
      | exact h.2
      | (obtain ⟨nd, e⟩ := h.2.out
         rw [e]
         exact pw_below_drewN (Below.refl _ _) nd)⟩
theorem ok_num {x : Rq} {l : List S102} {c : Int} (h : okLetter x l c = true) : upToB (numF x c).1 = true := by
  unfold okLetter at h
  simp only [Bool.and_eq_true] at h
  exact h.1.1.1
theorem ok_spec {x : Rq} {l : List S102} (h : okLetter x l 67 = true) : specB x = true := by
  unfold okLetter at h
  simp only [Bool.and_eq_true] at h
  exact h.2
theorem ok_pairs {x : Rq} {l : List S102} (h : okLetter x l 66 = true) : pairsB l = true := by
  unfold okLetter at h
  simp only [Bool.and_eq_true] at h
  exact h.1.2
theorem emp_app (s : ByteArray) : (⟨#[]⟩ : ByteArray) ++ s = s := ByteArray.empty_append
theorem letSpec (x : Rq) (l : List S102) : letterS x l 67 = specS x := rfl
set_option maxHeartbeats 16000000 in
set_option maxRecDepth 100000 in
theorem qbody_calls2 (x : Rq) (A : Option Addr) (k : Nat) (l : List S102) (w : World) (hp : Prs w A l.length k l) (hk : x.kind = 2) (hz : x.pt.size ≤ 1000 ∧ x.tt.size ≤ 1000 ∧ x.sn.size ≤ 1000 ∧ x.grp.size ≤ 1000 ∧ x.mem.size ≤ 1000) (hm : mayB x l = true) :
    Calls Try.prog 59 #[.agg #[.int .i64 x.id, .int .i64 x.kind, .int .i64 x.label, .string x.pt, .int .i64 x.pp, .string x.tt, .int .i64 x.tp, .string x.sn, .int .i64 x.sp, .int .i64 x.sa, .int .i64 x.ss, .bool x.sc, .string x.grp, .string x.mem, .int .i64 x.gen, .int .i64 x.off, .int .i64 x.most, .int .i64 x.prod, .int .i64 x.seq, .slice A l.length k]] w fun e w' => e = .returned (.string (bodyOf x l)) ∧ Below w.heap.size w w' := by
  have hup := (may_parts hm).2.2.1
  have hbody : Aside0 (bodyOf x l = bodyS x l (lets (formF x.kind))) := ⟨rfl⟩
  rw [hk] at hup hbody
  rw [show lets (formF 2) = [76, 84, 80, 79, 77] from rfl] at hup hbody
  simp only [List.all_cons, List.all_nil, Bool.and_true, Bool.and_eq_true] at hup
  obtain ⟨z0, z1, z2, z3, z4⟩ := hz
  have hkc : Aside0 (Value.int .i64 x.kind = .int .i64 2) := ⟨by rw [hk]⟩
  have hres : Aside0 (bodyOf x l = (((chU x.label ++ (textS x.pt ++ chU x.pp)) ++ chU x.off) ++ chU x.most)) := ⟨by
    rw [hbody.out]
    simp only [bodyS, List.foldl_cons, List.foldl_nil]
    simp only [let76, let77, let79, let80, let84]
    rw [chU_small x.label (ok_num (c := 76) hup.1), chU_small x.pp (ok_num (c := 80) hup.2.2.1), chU_small x.off (ok_num (c := 79) hup.2.2.2.1), chU_small x.most (ok_num (c := 77) hup.2.2.2.2)]
    simp only [← ByteArray.append_assoc, emp_app]⟩
  have h_pt := Aside0.mk (fun W : World => tx_calls x.pt W (by omega))
  have s_pt := textS_size x.pt
  have h_pp := Aside0.mk (fun W : World => ch_calls x.pp W)
  have s_pp : (chU x.pp).size ≤ 10 := chainS_size _
  have h_grp := Aside0.mk (fun W : World => tx_calls x.grp W (by omega))
  have s_grp := textS_size x.grp
  have h_mem := Aside0.mk (fun W : World => tx_calls x.mem W (by omega))
  have s_mem := textS_size x.mem
  have h_label := Aside0.mk (fun W : World => ch_calls x.label W)
  have s_label : (chU x.label).size ≤ 10 := chainS_size _
  have h_off := Aside0.mk (fun W : World => ch_calls x.off W)
  have s_off : (chU x.off).size ≤ 10 := chainS_size _
  have h_most := Aside0.mk (fun W : World => ch_calls x.most W)
  have s_most : (chU x.most).size ≤ 10 := chainS_size _
  generalize textS x.pt = t_pt at *
  generalize chU x.pp = t_pp at *
  generalize textS x.grp = t_grp at *
  generalize textS x.mem = t_mem at *
  generalize chU x.label = t_label at *
  generalize chU x.off = t_off at *
  generalize chU x.most = t_most at *
  obtain ⟨v_pt, e_pt⟩ : ∃ v, x.pt = v := ⟨_, rfl⟩
  rw [e_pt] at h_pt
  replace e_pt := Aside0.mk e_pt
  obtain ⟨v_pp, e_pp⟩ : ∃ v, x.pp = v := ⟨_, rfl⟩
  rw [e_pp] at h_pp
  replace e_pp := Aside0.mk e_pp
  obtain ⟨v_grp, e_grp⟩ : ∃ v, x.grp = v := ⟨_, rfl⟩
  rw [e_grp] at h_grp
  replace e_grp := Aside0.mk e_grp
  obtain ⟨v_mem, e_mem⟩ : ∃ v, x.mem = v := ⟨_, rfl⟩
  rw [e_mem] at h_mem
  replace e_mem := Aside0.mk e_mem
  obtain ⟨v_label, e_label⟩ : ∃ v, x.label = v := ⟨_, rfl⟩
  rw [e_label] at h_label
  replace e_label := Aside0.mk e_label
  obtain ⟨v_off, e_off⟩ : ∃ v, x.off = v := ⟨_, rfl⟩
  rw [e_off] at h_off
  replace e_off := Aside0.mk e_off
  obtain ⟨v_most, e_most⟩ : ∃ v, x.most = v := ⟨_, rfl⟩
  rw [e_most] at h_most
  replace e_most := Aside0.mk e_most
  have nP : ¬ 9223372036854775807 < t_pt.size + t_pp.size := by omega
  have nM : ¬ 9223372036854775807 < t_grp.size + t_mem.size := by omega
  have sP : (t_pt ++ t_pp).size ≤ 1020 := by rw [ByteArray.size_append]; omega
  have sM : (t_grp ++ t_mem).size ≤ 2020 := by rw [ByteArray.size_append]; omega
  clear hup hbody hm hk hp
  go_enter Try.func59, Try.ntmps59
  go_upto_region 1 with (first | ((with_reducible refine gate_dst (N := 1) rfl ?_); refine box_event rfl (N := 1) rfl (cs := #[.int .i64 x.id, .int .i64 x.kind, .int .i64 x.label, .string x.pt, .int .i64 x.pp, .string x.tt, .int .i64 x.tp, .string x.sn, .int .i64 x.sp, .int .i64 x.sa, .int .i64 x.ss, .bool x.sc, .string x.grp, .string x.mem, .int .i64 x.gen, .int .i64 x.off, .int .i64 x.most, .int .i64 x.prod, .int .i64 x.seq, .slice A l.length k]) (t := 45) ?hr ?_; (case hr => first | (go_simp; done) | (go_simp; rfl)); intro g1 hg1 w1 hbx hbl; have HS : Aside0 (Sz w x (.slice A l.length k) g1 w1) := ⟨⟨hbx, hbl⟩⟩; clear hbx hbl hg1))
  have n_HS := Aside0.mk (HS.out.below (below_drew (Below.refl _ _)))
  clear HS
  have HS := n_HS
  clear n_HS
  have hS : Aside0 (∀ W : World, Sz w x (.slice A l.length k) g1 W → W.cell? ⟨g1, 3, none⟩ = some (.string v_pt) ∧ W.cell? ⟨g1, 4, none⟩ = some (.int .i64 v_pp)) := ⟨fun W h => by
    rw [← e_pt.out, ← e_pp.out]
    exact ⟨(blk_cell h.b3 3).trans rfl, (blk_cell h.b3 4).trans rfl⟩⟩
  go_region_held3 (fun w' => w'.cell? ⟨g1, 3, none⟩ = some (.string v_pt) ∧ w'.cell? ⟨g1, 4, none⟩ = some (.int .i64 v_pp))
    (exact hS.out _ HS.out)
    (first | (go_at_call 88; (with_reducible refine (h_pt.out _).mono ?_); rintro e w' ⟨rfl, hb⟩; have n_HS := Aside0.mk (HS.out.below hb); clear HS hb; have HS := n_HS; clear n_HS) | (go_at_call 89; (with_reducible refine (h_pp.out _).mono ?_); rintro e w' ⟨rfl, hb⟩; have n_HS := Aside0.mk (HS.out.below hb); clear HS hb; have HS := n_HS; clear n_HS))
  clear hS
  generalize t_pt ++ t_pp = P at *
  go_upto_region 2 with fail
  have n_HS := Aside0.mk (HS.out.below (below_drew (Below.refl _ _)))
  clear HS
  have HS := n_HS
  clear n_HS
  have hS : Aside0 (∀ W : World, Sz w x (.slice A l.length k) g1 W → W.cell? ⟨g1, 12, none⟩ = some (.string v_grp) ∧ W.cell? ⟨g1, 13, none⟩ = some (.string v_mem)) := ⟨fun W h => by
    rw [← e_grp.out, ← e_mem.out]
    exact ⟨(blk_cell h.b3 12).trans rfl, (blk_cell h.b3 13).trans rfl⟩⟩
  go_region_held3 (fun w' => w'.cell? ⟨g1, 12, none⟩ = some (.string v_grp) ∧ w'.cell? ⟨g1, 13, none⟩ = some (.string v_mem))
    (exact hS.out _ HS.out)
    (first | (go_at_call 88; (with_reducible refine (h_grp.out _).mono ?_); rintro e w' ⟨rfl, hb⟩; have n_HS := Aside0.mk (HS.out.below hb); clear HS hb; have HS := n_HS; clear n_HS) | (go_at_call 88; (with_reducible refine (h_mem.out _).mono ?_); rintro e w' ⟨rfl, hb⟩; have n_HS := Aside0.mk (HS.out.below hb); clear HS hb; have HS := n_HS; clear n_HS))
  clear hS
  generalize t_grp ++ t_mem = M at *
  have n1 : ¬ 9223372036854775807 < t_label.size + P.size := by omega
  have n2 : ¬ 9223372036854775807 < t_label.size + P.size + t_off.size := by omega
  have n3 : ¬ 9223372036854775807 < t_label.size + P.size + t_off.size + t_most.size := by omega
  have m2 : ¬ 9223372036854775807 < (t_label ++ P).size + t_off.size := by simp only [ByteArray.size_append]; omega
  have m3 : ¬ 9223372036854775807 < ((t_label ++ P) ++ t_off).size + t_most.size := by simp only [ByteArray.size_append]; omega
  go_upto_region 3 with fail
  have c1 := fun W : World => fun h : Sz w x (.slice A l.length k) g1 W => ((blk_cell h.b3 1).trans (show _ = some (Value.int .i64 x.kind) from rfl)).trans (congrArg some hkc.out)
  replace c1 := c1 _ HS.out
  go_upto_region 13 with fail
  have n_HS := Aside0.mk (HS.out.below (below_drew (Below.refl _ _)))
  clear HS
  have HS := n_HS
  clear n_HS
  have hS : Aside0 (∀ W : World, Sz w x (.slice A l.length k) g1 W → W.cell? ⟨g1, 2, none⟩ = some (.int .i64 v_label) ∧ W.cell? ⟨g1, 15, none⟩ = some (.int .i64 v_off) ∧ W.cell? ⟨g1, 16, none⟩ = some (.int .i64 v_most)) := ⟨fun W h => by
    rw [← e_label.out, ← e_off.out, ← e_most.out]
    exact ⟨(blk_cell h.b3 2).trans rfl, (blk_cell h.b3 15).trans rfl, (blk_cell h.b3 16).trans rfl⟩⟩
  go_region_held3 (fun w' => w'.cell? ⟨g1, 2, none⟩ = some (.int .i64 v_label) ∧ w'.cell? ⟨g1, 15, none⟩ = some (.int .i64 v_off) ∧ w'.cell? ⟨g1, 16, none⟩ = some (.int .i64 v_most))
    (exact hS.out _ HS.out)
    (first | (go_at_call 89; (with_reducible refine (h_label.out _).mono ?_); rintro e w' ⟨rfl, hb⟩; have n_HS := Aside0.mk (HS.out.below hb); clear HS hb; have HS := n_HS; clear n_HS) | (go_at_call 89; (with_reducible refine (h_off.out _).mono ?_); rintro e w' ⟨rfl, hb⟩; have n_HS := Aside0.mk (HS.out.below hb); clear HS hb; have HS := n_HS; clear n_HS) | (go_at_call 89; (with_reducible refine (h_most.out _).mono ?_); rintro e w' ⟨rfl, hb⟩; have n_HS := Aside0.mk (HS.out.below hb); clear HS hb; have HS := n_HS; clear n_HS))
  clear hS
  go_wp2_with fail
  go_ret
  exact ⟨by rw [hres.out] <;> rfl, HS.out.bl⟩
set_option maxHeartbeats 16000000 in
set_option maxRecDepth 100000 in
theorem qbody_calls3 (x : Rq) (A : Option Addr) (k : Nat) (l : List S102) (w : World) (hp : Prs w A l.length k l) (hk : x.kind = 3) (hz : x.pt.size ≤ 1000 ∧ x.tt.size ≤ 1000 ∧ x.sn.size ≤ 1000 ∧ x.grp.size ≤ 1000 ∧ x.mem.size ≤ 1000) (hm : mayB x l = true) :
    Calls Try.prog 59 #[.agg #[.int .i64 x.id, .int .i64 x.kind, .int .i64 x.label, .string x.pt, .int .i64 x.pp, .string x.tt, .int .i64 x.tp, .string x.sn, .int .i64 x.sp, .int .i64 x.sa, .int .i64 x.ss, .bool x.sc, .string x.grp, .string x.mem, .int .i64 x.gen, .int .i64 x.off, .int .i64 x.most, .int .i64 x.prod, .int .i64 x.seq, .slice A l.length k]] w fun e w' => e = .returned (.string (bodyOf x l)) ∧ Below w.heap.size w w' := by
  have hup := (may_parts hm).2.2.1
  have hbody : Aside0 (bodyOf x l = bodyS x l (lets (formF x.kind))) := ⟨rfl⟩
  rw [hk] at hup hbody
  rw [show lets (formF 3) = [67] from rfl] at hup hbody
  simp only [List.all_cons, List.all_nil, Bool.and_true] at hup
  obtain ⟨z0, z1, z2, z3, z4⟩ := hz
  have hkc : Aside0 (Value.int .i64 x.kind = .int .i64 3) := ⟨by rw [hk]⟩
  have hres : Aside0 (bodyOf x l = ((((textS x.sn ++ chU x.sp) ++ chU x.sa) ++ chU x.ss) ++ flagS x.sc)) := ⟨by
    rw [hbody.out]
    simp only [bodyS, List.foldl_cons, List.foldl_nil]
    simp only [letSpec, specS]
    have hs := ok_spec hup
    unfold specB at hs
    simp only [Bool.and_eq_true] at hs
    rw [chU_small x.sp hs.1.1.2, chU_small x.sa hs.1.2, chU_small x.ss hs.2]
    simp only [← ByteArray.append_assoc, emp_app]⟩
  have h_pt := Aside0.mk (fun W : World => tx_calls x.pt W (by omega))
  have s_pt := textS_size x.pt
  have h_pp := Aside0.mk (fun W : World => ch_calls x.pp W)
  have s_pp : (chU x.pp).size ≤ 10 := chainS_size _
  have h_grp := Aside0.mk (fun W : World => tx_calls x.grp W (by omega))
  have s_grp := textS_size x.grp
  have h_mem := Aside0.mk (fun W : World => tx_calls x.mem W (by omega))
  have s_mem := textS_size x.mem
  have h_sn := Aside0.mk (fun W : World => tx_calls x.sn W (by omega))
  have s_sn := textS_size x.sn
  have h_sp := Aside0.mk (fun W : World => ch_calls x.sp W)
  have s_sp : (chU x.sp).size ≤ 10 := chainS_size _
  have h_sa := Aside0.mk (fun W : World => ch_calls x.sa W)
  have s_sa : (chU x.sa).size ≤ 10 := chainS_size _
  have h_ss := Aside0.mk (fun W : World => ch_calls x.ss W)
  have s_ss : (chU x.ss).size ≤ 10 := chainS_size _
  have h_sc := Aside0.mk (fun W : World => fl_calls x.sc W)
  have s_sc : (flagS x.sc).size ≤ 10 := chainS_size _
  generalize textS x.pt = t_pt at *
  generalize chU x.pp = t_pp at *
  generalize textS x.grp = t_grp at *
  generalize textS x.mem = t_mem at *
  generalize textS x.sn = t_sn at *
  generalize chU x.sp = t_sp at *
  generalize chU x.sa = t_sa at *
  generalize chU x.ss = t_ss at *
  generalize flagS x.sc = t_sc at *
  obtain ⟨v_pt, e_pt⟩ : ∃ v, x.pt = v := ⟨_, rfl⟩
  rw [e_pt] at h_pt
  replace e_pt := Aside0.mk e_pt
  obtain ⟨v_pp, e_pp⟩ : ∃ v, x.pp = v := ⟨_, rfl⟩
  rw [e_pp] at h_pp
  replace e_pp := Aside0.mk e_pp
  obtain ⟨v_grp, e_grp⟩ : ∃ v, x.grp = v := ⟨_, rfl⟩
  rw [e_grp] at h_grp
  replace e_grp := Aside0.mk e_grp
  obtain ⟨v_mem, e_mem⟩ : ∃ v, x.mem = v := ⟨_, rfl⟩
  rw [e_mem] at h_mem
  replace e_mem := Aside0.mk e_mem
  obtain ⟨v_sn, e_sn⟩ : ∃ v, x.sn = v := ⟨_, rfl⟩
  rw [e_sn] at h_sn
  replace e_sn := Aside0.mk e_sn
  obtain ⟨v_sp, e_sp⟩ : ∃ v, x.sp = v := ⟨_, rfl⟩
  rw [e_sp] at h_sp
  replace e_sp := Aside0.mk e_sp
  obtain ⟨v_sa, e_sa⟩ : ∃ v, x.sa = v := ⟨_, rfl⟩
  rw [e_sa] at h_sa
  replace e_sa := Aside0.mk e_sa
  obtain ⟨v_ss, e_ss⟩ : ∃ v, x.ss = v := ⟨_, rfl⟩
  rw [e_ss] at h_ss
  replace e_ss := Aside0.mk e_ss
  obtain ⟨v_sc, e_sc⟩ : ∃ v, x.sc = v := ⟨_, rfl⟩
  rw [e_sc] at h_sc
  replace e_sc := Aside0.mk e_sc
  have nP : ¬ 9223372036854775807 < t_pt.size + t_pp.size := by omega
  have nM : ¬ 9223372036854775807 < t_grp.size + t_mem.size := by omega
  have sP : (t_pt ++ t_pp).size ≤ 1020 := by rw [ByteArray.size_append]; omega
  have sM : (t_grp ++ t_mem).size ≤ 2020 := by rw [ByteArray.size_append]; omega
  clear hup hbody hm hk hp
  go_enter Try.func59, Try.ntmps59
  go_upto_region 1 with (first | ((with_reducible refine gate_dst (N := 1) rfl ?_); refine box_event rfl (N := 1) rfl (cs := #[.int .i64 x.id, .int .i64 x.kind, .int .i64 x.label, .string x.pt, .int .i64 x.pp, .string x.tt, .int .i64 x.tp, .string x.sn, .int .i64 x.sp, .int .i64 x.sa, .int .i64 x.ss, .bool x.sc, .string x.grp, .string x.mem, .int .i64 x.gen, .int .i64 x.off, .int .i64 x.most, .int .i64 x.prod, .int .i64 x.seq, .slice A l.length k]) (t := 45) ?hr ?_; (case hr => first | (go_simp; done) | (go_simp; rfl)); intro g1 hg1 w1 hbx hbl; have HS : Aside0 (Sz w x (.slice A l.length k) g1 w1) := ⟨⟨hbx, hbl⟩⟩; clear hbx hbl hg1))
  have n_HS := Aside0.mk (HS.out.below (below_drew (Below.refl _ _)))
  clear HS
  have HS := n_HS
  clear n_HS
  have hS : Aside0 (∀ W : World, Sz w x (.slice A l.length k) g1 W → W.cell? ⟨g1, 3, none⟩ = some (.string v_pt) ∧ W.cell? ⟨g1, 4, none⟩ = some (.int .i64 v_pp)) := ⟨fun W h => by
    rw [← e_pt.out, ← e_pp.out]
    exact ⟨(blk_cell h.b3 3).trans rfl, (blk_cell h.b3 4).trans rfl⟩⟩
  go_region_held3 (fun w' => w'.cell? ⟨g1, 3, none⟩ = some (.string v_pt) ∧ w'.cell? ⟨g1, 4, none⟩ = some (.int .i64 v_pp))
    (exact hS.out _ HS.out)
    (first | (go_at_call 88; (with_reducible refine (h_pt.out _).mono ?_); rintro e w' ⟨rfl, hb⟩; have n_HS := Aside0.mk (HS.out.below hb); clear HS hb; have HS := n_HS; clear n_HS) | (go_at_call 89; (with_reducible refine (h_pp.out _).mono ?_); rintro e w' ⟨rfl, hb⟩; have n_HS := Aside0.mk (HS.out.below hb); clear HS hb; have HS := n_HS; clear n_HS))
  clear hS
  generalize t_pt ++ t_pp = P at *
  go_upto_region 2 with fail
  have n_HS := Aside0.mk (HS.out.below (below_drew (Below.refl _ _)))
  clear HS
  have HS := n_HS
  clear n_HS
  have hS : Aside0 (∀ W : World, Sz w x (.slice A l.length k) g1 W → W.cell? ⟨g1, 12, none⟩ = some (.string v_grp) ∧ W.cell? ⟨g1, 13, none⟩ = some (.string v_mem)) := ⟨fun W h => by
    rw [← e_grp.out, ← e_mem.out]
    exact ⟨(blk_cell h.b3 12).trans rfl, (blk_cell h.b3 13).trans rfl⟩⟩
  go_region_held3 (fun w' => w'.cell? ⟨g1, 12, none⟩ = some (.string v_grp) ∧ w'.cell? ⟨g1, 13, none⟩ = some (.string v_mem))
    (exact hS.out _ HS.out)
    (first | (go_at_call 88; (with_reducible refine (h_grp.out _).mono ?_); rintro e w' ⟨rfl, hb⟩; have n_HS := Aside0.mk (HS.out.below hb); clear HS hb; have HS := n_HS; clear n_HS) | (go_at_call 88; (with_reducible refine (h_mem.out _).mono ?_); rintro e w' ⟨rfl, hb⟩; have n_HS := Aside0.mk (HS.out.below hb); clear HS hb; have HS := n_HS; clear n_HS))
  clear hS
  generalize t_grp ++ t_mem = M at *
  have n1 : ¬ 9223372036854775807 < t_sn.size + t_sp.size := by omega
  have n2 : ¬ 9223372036854775807 < t_sn.size + t_sp.size + t_sa.size := by omega
  have n3 : ¬ 9223372036854775807 < t_sn.size + t_sp.size + t_sa.size + t_ss.size := by omega
  have n4 : ¬ 9223372036854775807 < t_sn.size + t_sp.size + t_sa.size + t_ss.size + t_sc.size := by omega
  have m2 : ¬ 9223372036854775807 < (t_sn ++ t_sp).size + t_sa.size := by simp only [ByteArray.size_append]; omega
  have m3 : ¬ 9223372036854775807 < ((t_sn ++ t_sp) ++ t_sa).size + t_ss.size := by simp only [ByteArray.size_append]; omega
  have m4 : ¬ 9223372036854775807 < (((t_sn ++ t_sp) ++ t_sa) ++ t_ss).size + t_sc.size := by simp only [ByteArray.size_append]; omega
  go_upto_region 3 with fail
  have c1 := fun W : World => fun h : Sz w x (.slice A l.length k) g1 W => ((blk_cell h.b3 1).trans (show _ = some (Value.int .i64 x.kind) from rfl)).trans (congrArg some hkc.out)
  replace c1 := c1 _ HS.out
  go_upto_region 15 with fail
  have n_HS := Aside0.mk (HS.out.below (below_drew (Below.refl _ _)))
  clear HS
  have HS := n_HS
  clear n_HS
  have hS : Aside0 (∀ W : World, Sz w x (.slice A l.length k) g1 W → W.cell? ⟨g1, 7, none⟩ = some (.string v_sn) ∧ W.cell? ⟨g1, 8, none⟩ = some (.int .i64 v_sp) ∧ W.cell? ⟨g1, 9, none⟩ = some (.int .i64 v_sa) ∧ W.cell? ⟨g1, 10, none⟩ = some (.int .i64 v_ss) ∧ W.cell? ⟨g1, 11, none⟩ = some (.bool v_sc)) := ⟨fun W h => by
    rw [← e_sn.out, ← e_sp.out, ← e_sa.out, ← e_ss.out, ← e_sc.out]
    exact ⟨(blk_cell h.b3 7).trans rfl, (blk_cell h.b3 8).trans rfl, (blk_cell h.b3 9).trans rfl, (blk_cell h.b3 10).trans rfl, (blk_cell h.b3 11).trans rfl⟩⟩
  go_region_held3 (fun w' => w'.cell? ⟨g1, 7, none⟩ = some (.string v_sn) ∧ w'.cell? ⟨g1, 8, none⟩ = some (.int .i64 v_sp) ∧ w'.cell? ⟨g1, 9, none⟩ = some (.int .i64 v_sa) ∧ w'.cell? ⟨g1, 10, none⟩ = some (.int .i64 v_ss) ∧ w'.cell? ⟨g1, 11, none⟩ = some (.bool v_sc))
    (exact hS.out _ HS.out)
    (first | (go_at_call 88; (with_reducible refine (h_sn.out _).mono ?_); rintro e w' ⟨rfl, hb⟩; have n_HS := Aside0.mk (HS.out.below hb); clear HS hb; have HS := n_HS; clear n_HS) | (go_at_call 89; (with_reducible refine (h_sp.out _).mono ?_); rintro e w' ⟨rfl, hb⟩; have n_HS := Aside0.mk (HS.out.below hb); clear HS hb; have HS := n_HS; clear n_HS) | (go_at_call 89; (with_reducible refine (h_sa.out _).mono ?_); rintro e w' ⟨rfl, hb⟩; have n_HS := Aside0.mk (HS.out.below hb); clear HS hb; have HS := n_HS; clear n_HS) | (go_at_call 89; (with_reducible refine (h_ss.out _).mono ?_); rintro e w' ⟨rfl, hb⟩; have n_HS := Aside0.mk (HS.out.below hb); clear HS hb; have HS := n_HS; clear n_HS) | (go_at_call 90; (with_reducible refine (h_sc.out _).mono ?_); rintro e w' ⟨rfl, hb⟩; have n_HS := Aside0.mk (HS.out.below hb); clear HS hb; have HS := n_HS; clear n_HS))
  clear hS
  go_wp2_with fail
  go_ret
  exact ⟨by rw [hres.out] <;> rfl, HS.out.bl⟩
set_option maxHeartbeats 16000000 in
set_option maxRecDepth 100000 in
theorem qbody_calls4 (x : Rq) (A : Option Addr) (k : Nat) (l : List S102) (w : World) (hp : Prs w A l.length k l) (hk : x.kind = 4) (hz : x.pt.size ≤ 1000 ∧ x.tt.size ≤ 1000 ∧ x.sn.size ≤ 1000 ∧ x.grp.size ≤ 1000 ∧ x.mem.size ≤ 1000) (hm : mayB x l = true) :
    Calls Try.prog 59 #[.agg #[.int .i64 x.id, .int .i64 x.kind, .int .i64 x.label, .string x.pt, .int .i64 x.pp, .string x.tt, .int .i64 x.tp, .string x.sn, .int .i64 x.sp, .int .i64 x.sa, .int .i64 x.ss, .bool x.sc, .string x.grp, .string x.mem, .int .i64 x.gen, .int .i64 x.off, .int .i64 x.most, .int .i64 x.prod, .int .i64 x.seq, .slice A l.length k]] w fun e w' => e = .returned (.string (bodyOf x l)) ∧ Below w.heap.size w w' := by
  have hup := (may_parts hm).2.2.1
  have hbody : Aside0 (bodyOf x l = bodyS x l (lets (formF x.kind))) := ⟨rfl⟩
  rw [hk] at hup hbody
  rw [show lets (formF 4) = [84] from rfl] at hup hbody
  simp only [List.all_cons, List.all_nil, Bool.and_true] at hup
  obtain ⟨z0, z1, z2, z3, z4⟩ := hz
  have hkc : Aside0 (Value.int .i64 x.kind = .int .i64 4) := ⟨by rw [hk]⟩
  have hres : Aside0 (bodyOf x l = textS x.pt) := ⟨by
    rw [hbody.out]
    simp only [bodyS, List.foldl_cons, List.foldl_nil]
    simp only [let84]
    simp only [← ByteArray.append_assoc, emp_app]⟩
  have h_pt := Aside0.mk (fun W : World => tx_calls x.pt W (by omega))
  have s_pt := textS_size x.pt
  have h_pp := Aside0.mk (fun W : World => ch_calls x.pp W)
  have s_pp : (chU x.pp).size ≤ 10 := chainS_size _
  have h_grp := Aside0.mk (fun W : World => tx_calls x.grp W (by omega))
  have s_grp := textS_size x.grp
  have h_mem := Aside0.mk (fun W : World => tx_calls x.mem W (by omega))
  have s_mem := textS_size x.mem
  generalize textS x.pt = t_pt at *
  generalize chU x.pp = t_pp at *
  generalize textS x.grp = t_grp at *
  generalize textS x.mem = t_mem at *
  obtain ⟨v_pt, e_pt⟩ : ∃ v, x.pt = v := ⟨_, rfl⟩
  rw [e_pt] at h_pt
  replace e_pt := Aside0.mk e_pt
  obtain ⟨v_pp, e_pp⟩ : ∃ v, x.pp = v := ⟨_, rfl⟩
  rw [e_pp] at h_pp
  replace e_pp := Aside0.mk e_pp
  obtain ⟨v_grp, e_grp⟩ : ∃ v, x.grp = v := ⟨_, rfl⟩
  rw [e_grp] at h_grp
  replace e_grp := Aside0.mk e_grp
  obtain ⟨v_mem, e_mem⟩ : ∃ v, x.mem = v := ⟨_, rfl⟩
  rw [e_mem] at h_mem
  replace e_mem := Aside0.mk e_mem
  have nP : ¬ 9223372036854775807 < t_pt.size + t_pp.size := by omega
  have nM : ¬ 9223372036854775807 < t_grp.size + t_mem.size := by omega
  have sP : (t_pt ++ t_pp).size ≤ 1020 := by rw [ByteArray.size_append]; omega
  have sM : (t_grp ++ t_mem).size ≤ 2020 := by rw [ByteArray.size_append]; omega
  clear hup hbody hm hk hp
  go_enter Try.func59, Try.ntmps59
  go_upto_region 1 with (first | ((with_reducible refine gate_dst (N := 1) rfl ?_); refine box_event rfl (N := 1) rfl (cs := #[.int .i64 x.id, .int .i64 x.kind, .int .i64 x.label, .string x.pt, .int .i64 x.pp, .string x.tt, .int .i64 x.tp, .string x.sn, .int .i64 x.sp, .int .i64 x.sa, .int .i64 x.ss, .bool x.sc, .string x.grp, .string x.mem, .int .i64 x.gen, .int .i64 x.off, .int .i64 x.most, .int .i64 x.prod, .int .i64 x.seq, .slice A l.length k]) (t := 45) ?hr ?_; (case hr => first | (go_simp; done) | (go_simp; rfl)); intro g1 hg1 w1 hbx hbl; have HS : Aside0 (Sz w x (.slice A l.length k) g1 w1) := ⟨⟨hbx, hbl⟩⟩; clear hbx hbl hg1))
  have n_HS := Aside0.mk (HS.out.below (below_drew (Below.refl _ _)))
  clear HS
  have HS := n_HS
  clear n_HS
  have hS : Aside0 (∀ W : World, Sz w x (.slice A l.length k) g1 W → W.cell? ⟨g1, 3, none⟩ = some (.string v_pt) ∧ W.cell? ⟨g1, 4, none⟩ = some (.int .i64 v_pp)) := ⟨fun W h => by
    rw [← e_pt.out, ← e_pp.out]
    exact ⟨(blk_cell h.b3 3).trans rfl, (blk_cell h.b3 4).trans rfl⟩⟩
  go_region_held3 (fun w' => w'.cell? ⟨g1, 3, none⟩ = some (.string v_pt) ∧ w'.cell? ⟨g1, 4, none⟩ = some (.int .i64 v_pp))
    (exact hS.out _ HS.out)
    (first | (go_at_call 88; (with_reducible refine (h_pt.out _).mono ?_); rintro e w' ⟨rfl, hb⟩; have n_HS := Aside0.mk (HS.out.below hb); clear HS hb; have HS := n_HS; clear n_HS) | (go_at_call 89; (with_reducible refine (h_pp.out _).mono ?_); rintro e w' ⟨rfl, hb⟩; have n_HS := Aside0.mk (HS.out.below hb); clear HS hb; have HS := n_HS; clear n_HS))
  clear hS
  generalize t_pt ++ t_pp = P at *
  go_upto_region 2 with fail
  have n_HS := Aside0.mk (HS.out.below (below_drew (Below.refl _ _)))
  clear HS
  have HS := n_HS
  clear n_HS
  have hS : Aside0 (∀ W : World, Sz w x (.slice A l.length k) g1 W → W.cell? ⟨g1, 12, none⟩ = some (.string v_grp) ∧ W.cell? ⟨g1, 13, none⟩ = some (.string v_mem)) := ⟨fun W h => by
    rw [← e_grp.out, ← e_mem.out]
    exact ⟨(blk_cell h.b3 12).trans rfl, (blk_cell h.b3 13).trans rfl⟩⟩
  go_region_held3 (fun w' => w'.cell? ⟨g1, 12, none⟩ = some (.string v_grp) ∧ w'.cell? ⟨g1, 13, none⟩ = some (.string v_mem))
    (exact hS.out _ HS.out)
    (first | (go_at_call 88; (with_reducible refine (h_grp.out _).mono ?_); rintro e w' ⟨rfl, hb⟩; have n_HS := Aside0.mk (HS.out.below hb); clear HS hb; have HS := n_HS; clear n_HS) | (go_at_call 88; (with_reducible refine (h_mem.out _).mono ?_); rintro e w' ⟨rfl, hb⟩; have n_HS := Aside0.mk (HS.out.below hb); clear HS hb; have HS := n_HS; clear n_HS))
  clear hS
  generalize t_grp ++ t_mem = M at *
  go_upto_region 3 with fail
  have c1 := fun W : World => fun h : Sz w x (.slice A l.length k) g1 W => ((blk_cell h.b3 1).trans (show _ = some (Value.int .i64 x.kind) from rfl)).trans (congrArg some hkc.out)
  replace c1 := c1 _ HS.out
  have c3 := (fun W : World => fun h : Sz w x (.slice A l.length k) g1 W => ((blk_cell h.b3 3).trans (show _ = some (.string x.pt) from rfl)).trans (congrArg some (congrArg Value.string e_pt.out)))
  replace c3 := c3 _ HS.out
  go_wp2_with fail
  refine (h_pt.out _).mono ?_
  rintro e w6 ⟨rfl, hb⟩
  have n_HS := Aside0.mk (HS.out.below hb)
  clear HS hb
  have HS := n_HS
  clear n_HS
  go_wp2_with fail
  go_ret
  exact ⟨by rw [hres.out] <;> rfl, HS.out.bl⟩
set_option maxHeartbeats 16000000 in
set_option maxRecDepth 100000 in
theorem qbody_calls5 (x : Rq) (A : Option Addr) (k : Nat) (l : List S102) (w : World) (hp : Prs w A l.length k l) (hk : x.kind = 5) (hz : x.pt.size ≤ 1000 ∧ x.tt.size ≤ 1000 ∧ x.sn.size ≤ 1000 ∧ x.grp.size ≤ 1000 ∧ x.mem.size ≤ 1000) (hm : mayB x l = true) :
    Calls Try.prog 59 #[.agg #[.int .i64 x.id, .int .i64 x.kind, .int .i64 x.label, .string x.pt, .int .i64 x.pp, .string x.tt, .int .i64 x.tp, .string x.sn, .int .i64 x.sp, .int .i64 x.sa, .int .i64 x.ss, .bool x.sc, .string x.grp, .string x.mem, .int .i64 x.gen, .int .i64 x.off, .int .i64 x.most, .int .i64 x.prod, .int .i64 x.seq, .slice A l.length k]] w fun e w' => e = .returned (.string (bodyOf x l)) ∧ Below w.heap.size w w' := by
  have hup := (may_parts hm).2.2.1
  have hbody : Aside0 (bodyOf x l = bodyS x l (lets (formF x.kind))) := ⟨rfl⟩
  rw [hk] at hup hbody
  rw [show lets (formF 5) = [71, 78, 84] from rfl] at hup hbody
  simp only [List.all_cons, List.all_nil, Bool.and_true, Bool.and_eq_true] at hup
  obtain ⟨z0, z1, z2, z3, z4⟩ := hz
  have hkc : Aside0 (Value.int .i64 x.kind = .int .i64 5) := ⟨by rw [hk]⟩
  have hres : Aside0 (bodyOf x l = ((textS x.grp ++ textS x.mem) ++ textS x.pt)) := ⟨by
    rw [hbody.out]
    simp only [bodyS, List.foldl_cons, List.foldl_nil]
    simp only [let71, let78, let84]
    simp only [← ByteArray.append_assoc, emp_app]⟩
  have h_pt := Aside0.mk (fun W : World => tx_calls x.pt W (by omega))
  have s_pt := textS_size x.pt
  have h_pp := Aside0.mk (fun W : World => ch_calls x.pp W)
  have s_pp : (chU x.pp).size ≤ 10 := chainS_size _
  have h_grp := Aside0.mk (fun W : World => tx_calls x.grp W (by omega))
  have s_grp := textS_size x.grp
  have h_mem := Aside0.mk (fun W : World => tx_calls x.mem W (by omega))
  have s_mem := textS_size x.mem
  generalize textS x.pt = t_pt at *
  generalize chU x.pp = t_pp at *
  generalize textS x.grp = t_grp at *
  generalize textS x.mem = t_mem at *
  obtain ⟨v_pt, e_pt⟩ : ∃ v, x.pt = v := ⟨_, rfl⟩
  rw [e_pt] at h_pt
  replace e_pt := Aside0.mk e_pt
  obtain ⟨v_pp, e_pp⟩ : ∃ v, x.pp = v := ⟨_, rfl⟩
  rw [e_pp] at h_pp
  replace e_pp := Aside0.mk e_pp
  obtain ⟨v_grp, e_grp⟩ : ∃ v, x.grp = v := ⟨_, rfl⟩
  rw [e_grp] at h_grp
  replace e_grp := Aside0.mk e_grp
  obtain ⟨v_mem, e_mem⟩ : ∃ v, x.mem = v := ⟨_, rfl⟩
  rw [e_mem] at h_mem
  replace e_mem := Aside0.mk e_mem
  have nP : ¬ 9223372036854775807 < t_pt.size + t_pp.size := by omega
  have nM : ¬ 9223372036854775807 < t_grp.size + t_mem.size := by omega
  have sP : (t_pt ++ t_pp).size ≤ 1020 := by rw [ByteArray.size_append]; omega
  have sM : (t_grp ++ t_mem).size ≤ 2020 := by rw [ByteArray.size_append]; omega
  clear hup hbody hm hk hp
  go_enter Try.func59, Try.ntmps59
  go_upto_region 1 with (first | ((with_reducible refine gate_dst (N := 1) rfl ?_); refine box_event rfl (N := 1) rfl (cs := #[.int .i64 x.id, .int .i64 x.kind, .int .i64 x.label, .string x.pt, .int .i64 x.pp, .string x.tt, .int .i64 x.tp, .string x.sn, .int .i64 x.sp, .int .i64 x.sa, .int .i64 x.ss, .bool x.sc, .string x.grp, .string x.mem, .int .i64 x.gen, .int .i64 x.off, .int .i64 x.most, .int .i64 x.prod, .int .i64 x.seq, .slice A l.length k]) (t := 45) ?hr ?_; (case hr => first | (go_simp; done) | (go_simp; rfl)); intro g1 hg1 w1 hbx hbl; have HS : Aside0 (Sz w x (.slice A l.length k) g1 w1) := ⟨⟨hbx, hbl⟩⟩; clear hbx hbl hg1))
  have n_HS := Aside0.mk (HS.out.below (below_drew (Below.refl _ _)))
  clear HS
  have HS := n_HS
  clear n_HS
  have hS : Aside0 (∀ W : World, Sz w x (.slice A l.length k) g1 W → W.cell? ⟨g1, 3, none⟩ = some (.string v_pt) ∧ W.cell? ⟨g1, 4, none⟩ = some (.int .i64 v_pp)) := ⟨fun W h => by
    rw [← e_pt.out, ← e_pp.out]
    exact ⟨(blk_cell h.b3 3).trans rfl, (blk_cell h.b3 4).trans rfl⟩⟩
  go_region_held3 (fun w' => w'.cell? ⟨g1, 3, none⟩ = some (.string v_pt) ∧ w'.cell? ⟨g1, 4, none⟩ = some (.int .i64 v_pp))
    (exact hS.out _ HS.out)
    (first | (go_at_call 88; (with_reducible refine (h_pt.out _).mono ?_); rintro e w' ⟨rfl, hb⟩; have n_HS := Aside0.mk (HS.out.below hb); clear HS hb; have HS := n_HS; clear n_HS) | (go_at_call 89; (with_reducible refine (h_pp.out _).mono ?_); rintro e w' ⟨rfl, hb⟩; have n_HS := Aside0.mk (HS.out.below hb); clear HS hb; have HS := n_HS; clear n_HS))
  clear hS
  generalize t_pt ++ t_pp = P at *
  go_upto_region 2 with fail
  have n_HS := Aside0.mk (HS.out.below (below_drew (Below.refl _ _)))
  clear HS
  have HS := n_HS
  clear n_HS
  have hS : Aside0 (∀ W : World, Sz w x (.slice A l.length k) g1 W → W.cell? ⟨g1, 12, none⟩ = some (.string v_grp) ∧ W.cell? ⟨g1, 13, none⟩ = some (.string v_mem)) := ⟨fun W h => by
    rw [← e_grp.out, ← e_mem.out]
    exact ⟨(blk_cell h.b3 12).trans rfl, (blk_cell h.b3 13).trans rfl⟩⟩
  go_region_held3 (fun w' => w'.cell? ⟨g1, 12, none⟩ = some (.string v_grp) ∧ w'.cell? ⟨g1, 13, none⟩ = some (.string v_mem))
    (exact hS.out _ HS.out)
    (first | (go_at_call 88; (with_reducible refine (h_grp.out _).mono ?_); rintro e w' ⟨rfl, hb⟩; have n_HS := Aside0.mk (HS.out.below hb); clear HS hb; have HS := n_HS; clear n_HS) | (go_at_call 88; (with_reducible refine (h_mem.out _).mono ?_); rintro e w' ⟨rfl, hb⟩; have n_HS := Aside0.mk (HS.out.below hb); clear HS hb; have HS := n_HS; clear n_HS))
  clear hS
  generalize t_grp ++ t_mem = M at *
  have n1 : ¬ 9223372036854775807 < M.size + t_pt.size := by omega
  go_upto_region 3 with fail
  have c1 := fun W : World => fun h : Sz w x (.slice A l.length k) g1 W => ((blk_cell h.b3 1).trans (show _ = some (Value.int .i64 x.kind) from rfl)).trans (congrArg some hkc.out)
  replace c1 := c1 _ HS.out
  have c3 := (fun W : World => fun h : Sz w x (.slice A l.length k) g1 W => ((blk_cell h.b3 3).trans (show _ = some (.string x.pt) from rfl)).trans (congrArg some (congrArg Value.string e_pt.out)))
  replace c3 := c3 _ HS.out
  go_wp2_with fail
  refine (h_pt.out _).mono ?_
  rintro e w6 ⟨rfl, hb⟩
  have n_HS := Aside0.mk (HS.out.below hb)
  clear HS hb
  have HS := n_HS
  clear n_HS
  go_wp2_with fail
  go_ret
  exact ⟨by rw [hres.out] <;> rfl, HS.out.bl⟩
set_option maxHeartbeats 16000000 in
set_option maxRecDepth 100000 in
theorem qbody_calls6 (x : Rq) (A : Option Addr) (k : Nat) (l : List S102) (w : World) (hp : Prs w A l.length k l) (hk : x.kind = 6) (hz : x.pt.size ≤ 1000 ∧ x.tt.size ≤ 1000 ∧ x.sn.size ≤ 1000 ∧ x.grp.size ≤ 1000 ∧ x.mem.size ≤ 1000) (hm : mayB x l = true) :
    Calls Try.prog 59 #[.agg #[.int .i64 x.id, .int .i64 x.kind, .int .i64 x.label, .string x.pt, .int .i64 x.pp, .string x.tt, .int .i64 x.tp, .string x.sn, .int .i64 x.sp, .int .i64 x.sa, .int .i64 x.ss, .bool x.sc, .string x.grp, .string x.mem, .int .i64 x.gen, .int .i64 x.off, .int .i64 x.most, .int .i64 x.prod, .int .i64 x.seq, .slice A l.length k]] w fun e w' => e = .returned (.string (bodyOf x l)) ∧ Below w.heap.size w w' := by
  have hup := (may_parts hm).2.2.1
  have hbody : Aside0 (bodyOf x l = bodyS x l (lets (formF x.kind))) := ⟨rfl⟩
  rw [hk] at hup hbody
  rw [show lets (formF 6) = [71, 78] from rfl] at hup hbody
  simp only [List.all_cons, List.all_nil, Bool.and_true, Bool.and_eq_true] at hup
  obtain ⟨z0, z1, z2, z3, z4⟩ := hz
  have hkc : Aside0 (Value.int .i64 x.kind = .int .i64 6) := ⟨by rw [hk]⟩
  have hres : Aside0 (bodyOf x l = (textS x.grp ++ textS x.mem)) := ⟨by
    rw [hbody.out]
    simp only [bodyS, List.foldl_cons, List.foldl_nil]
    simp only [let71, let78]
    simp only [← ByteArray.append_assoc, emp_app]⟩
  have h_pt := Aside0.mk (fun W : World => tx_calls x.pt W (by omega))
  have s_pt := textS_size x.pt
  have h_pp := Aside0.mk (fun W : World => ch_calls x.pp W)
  have s_pp : (chU x.pp).size ≤ 10 := chainS_size _
  have h_grp := Aside0.mk (fun W : World => tx_calls x.grp W (by omega))
  have s_grp := textS_size x.grp
  have h_mem := Aside0.mk (fun W : World => tx_calls x.mem W (by omega))
  have s_mem := textS_size x.mem
  generalize textS x.pt = t_pt at *
  generalize chU x.pp = t_pp at *
  generalize textS x.grp = t_grp at *
  generalize textS x.mem = t_mem at *
  obtain ⟨v_pt, e_pt⟩ : ∃ v, x.pt = v := ⟨_, rfl⟩
  rw [e_pt] at h_pt
  replace e_pt := Aside0.mk e_pt
  obtain ⟨v_pp, e_pp⟩ : ∃ v, x.pp = v := ⟨_, rfl⟩
  rw [e_pp] at h_pp
  replace e_pp := Aside0.mk e_pp
  obtain ⟨v_grp, e_grp⟩ : ∃ v, x.grp = v := ⟨_, rfl⟩
  rw [e_grp] at h_grp
  replace e_grp := Aside0.mk e_grp
  obtain ⟨v_mem, e_mem⟩ : ∃ v, x.mem = v := ⟨_, rfl⟩
  rw [e_mem] at h_mem
  replace e_mem := Aside0.mk e_mem
  have nP : ¬ 9223372036854775807 < t_pt.size + t_pp.size := by omega
  have nM : ¬ 9223372036854775807 < t_grp.size + t_mem.size := by omega
  have sP : (t_pt ++ t_pp).size ≤ 1020 := by rw [ByteArray.size_append]; omega
  have sM : (t_grp ++ t_mem).size ≤ 2020 := by rw [ByteArray.size_append]; omega
  clear hup hbody hm hk hp
  go_enter Try.func59, Try.ntmps59
  go_upto_region 1 with (first | ((with_reducible refine gate_dst (N := 1) rfl ?_); refine box_event rfl (N := 1) rfl (cs := #[.int .i64 x.id, .int .i64 x.kind, .int .i64 x.label, .string x.pt, .int .i64 x.pp, .string x.tt, .int .i64 x.tp, .string x.sn, .int .i64 x.sp, .int .i64 x.sa, .int .i64 x.ss, .bool x.sc, .string x.grp, .string x.mem, .int .i64 x.gen, .int .i64 x.off, .int .i64 x.most, .int .i64 x.prod, .int .i64 x.seq, .slice A l.length k]) (t := 45) ?hr ?_; (case hr => first | (go_simp; done) | (go_simp; rfl)); intro g1 hg1 w1 hbx hbl; have HS : Aside0 (Sz w x (.slice A l.length k) g1 w1) := ⟨⟨hbx, hbl⟩⟩; clear hbx hbl hg1))
  have n_HS := Aside0.mk (HS.out.below (below_drew (Below.refl _ _)))
  clear HS
  have HS := n_HS
  clear n_HS
  have hS : Aside0 (∀ W : World, Sz w x (.slice A l.length k) g1 W → W.cell? ⟨g1, 3, none⟩ = some (.string v_pt) ∧ W.cell? ⟨g1, 4, none⟩ = some (.int .i64 v_pp)) := ⟨fun W h => by
    rw [← e_pt.out, ← e_pp.out]
    exact ⟨(blk_cell h.b3 3).trans rfl, (blk_cell h.b3 4).trans rfl⟩⟩
  go_region_held3 (fun w' => w'.cell? ⟨g1, 3, none⟩ = some (.string v_pt) ∧ w'.cell? ⟨g1, 4, none⟩ = some (.int .i64 v_pp))
    (exact hS.out _ HS.out)
    (first | (go_at_call 88; (with_reducible refine (h_pt.out _).mono ?_); rintro e w' ⟨rfl, hb⟩; have n_HS := Aside0.mk (HS.out.below hb); clear HS hb; have HS := n_HS; clear n_HS) | (go_at_call 89; (with_reducible refine (h_pp.out _).mono ?_); rintro e w' ⟨rfl, hb⟩; have n_HS := Aside0.mk (HS.out.below hb); clear HS hb; have HS := n_HS; clear n_HS))
  clear hS
  generalize t_pt ++ t_pp = P at *
  go_upto_region 2 with fail
  have n_HS := Aside0.mk (HS.out.below (below_drew (Below.refl _ _)))
  clear HS
  have HS := n_HS
  clear n_HS
  have hS : Aside0 (∀ W : World, Sz w x (.slice A l.length k) g1 W → W.cell? ⟨g1, 12, none⟩ = some (.string v_grp) ∧ W.cell? ⟨g1, 13, none⟩ = some (.string v_mem)) := ⟨fun W h => by
    rw [← e_grp.out, ← e_mem.out]
    exact ⟨(blk_cell h.b3 12).trans rfl, (blk_cell h.b3 13).trans rfl⟩⟩
  go_region_held3 (fun w' => w'.cell? ⟨g1, 12, none⟩ = some (.string v_grp) ∧ w'.cell? ⟨g1, 13, none⟩ = some (.string v_mem))
    (exact hS.out _ HS.out)
    (first | (go_at_call 88; (with_reducible refine (h_grp.out _).mono ?_); rintro e w' ⟨rfl, hb⟩; have n_HS := Aside0.mk (HS.out.below hb); clear HS hb; have HS := n_HS; clear n_HS) | (go_at_call 88; (with_reducible refine (h_mem.out _).mono ?_); rintro e w' ⟨rfl, hb⟩; have n_HS := Aside0.mk (HS.out.below hb); clear HS hb; have HS := n_HS; clear n_HS))
  clear hS
  generalize t_grp ++ t_mem = M at *
  go_upto_region 3 with fail
  have c1 := fun W : World => fun h : Sz w x (.slice A l.length k) g1 W => ((blk_cell h.b3 1).trans (show _ = some (Value.int .i64 x.kind) from rfl)).trans (congrArg some hkc.out)
  replace c1 := c1 _ HS.out
  go_wp2_with fail
  go_ret
  exact ⟨by rw [hres.out] <;> rfl, HS.out.bl⟩
set_option maxHeartbeats 16000000 in
set_option maxRecDepth 100000 in
theorem qbody_calls7 (x : Rq) (A : Option Addr) (k : Nat) (l : List S102) (w : World) (hp : Prs w A l.length k l) (hk : x.kind = 7) (hz : x.pt.size ≤ 1000 ∧ x.tt.size ≤ 1000 ∧ x.sn.size ≤ 1000 ∧ x.grp.size ≤ 1000 ∧ x.mem.size ≤ 1000) (hm : mayB x l = true) :
    Calls Try.prog 59 #[.agg #[.int .i64 x.id, .int .i64 x.kind, .int .i64 x.label, .string x.pt, .int .i64 x.pp, .string x.tt, .int .i64 x.tp, .string x.sn, .int .i64 x.sp, .int .i64 x.sa, .int .i64 x.ss, .bool x.sc, .string x.grp, .string x.mem, .int .i64 x.gen, .int .i64 x.off, .int .i64 x.most, .int .i64 x.prod, .int .i64 x.seq, .slice A l.length k]] w fun e w' => e = .returned (.string (bodyOf x l)) ∧ Below w.heap.size w w' := by
  have hup := (may_parts hm).2.2.1
  have hbody : Aside0 (bodyOf x l = bodyS x l (lets (formF x.kind))) := ⟨rfl⟩
  rw [hk] at hup hbody
  rw [show lets (formF 7) = [71, 78, 69] from rfl] at hup hbody
  simp only [List.all_cons, List.all_nil, Bool.and_true, Bool.and_eq_true] at hup
  obtain ⟨z0, z1, z2, z3, z4⟩ := hz
  have hkc : Aside0 (Value.int .i64 x.kind = .int .i64 7) := ⟨by rw [hk]⟩
  have hres : Aside0 (bodyOf x l = ((textS x.grp ++ textS x.mem) ++ chU x.gen)) := ⟨by
    rw [hbody.out]
    simp only [bodyS, List.foldl_cons, List.foldl_nil]
    simp only [let69, let71, let78]
    rw [chU_small x.gen (ok_num (c := 69) hup.2.2)]
    simp only [← ByteArray.append_assoc, emp_app]⟩
  have h_pt := Aside0.mk (fun W : World => tx_calls x.pt W (by omega))
  have s_pt := textS_size x.pt
  have h_pp := Aside0.mk (fun W : World => ch_calls x.pp W)
  have s_pp : (chU x.pp).size ≤ 10 := chainS_size _
  have h_grp := Aside0.mk (fun W : World => tx_calls x.grp W (by omega))
  have s_grp := textS_size x.grp
  have h_mem := Aside0.mk (fun W : World => tx_calls x.mem W (by omega))
  have s_mem := textS_size x.mem
  have h_gen := Aside0.mk (fun W : World => ch_calls x.gen W)
  have s_gen : (chU x.gen).size ≤ 10 := chainS_size _
  generalize textS x.pt = t_pt at *
  generalize chU x.pp = t_pp at *
  generalize textS x.grp = t_grp at *
  generalize textS x.mem = t_mem at *
  generalize chU x.gen = t_gen at *
  obtain ⟨v_pt, e_pt⟩ : ∃ v, x.pt = v := ⟨_, rfl⟩
  rw [e_pt] at h_pt
  replace e_pt := Aside0.mk e_pt
  obtain ⟨v_pp, e_pp⟩ : ∃ v, x.pp = v := ⟨_, rfl⟩
  rw [e_pp] at h_pp
  replace e_pp := Aside0.mk e_pp
  obtain ⟨v_grp, e_grp⟩ : ∃ v, x.grp = v := ⟨_, rfl⟩
  rw [e_grp] at h_grp
  replace e_grp := Aside0.mk e_grp
  obtain ⟨v_mem, e_mem⟩ : ∃ v, x.mem = v := ⟨_, rfl⟩
  rw [e_mem] at h_mem
  replace e_mem := Aside0.mk e_mem
  obtain ⟨v_gen, e_gen⟩ : ∃ v, x.gen = v := ⟨_, rfl⟩
  rw [e_gen] at h_gen
  replace e_gen := Aside0.mk e_gen
  have nP : ¬ 9223372036854775807 < t_pt.size + t_pp.size := by omega
  have nM : ¬ 9223372036854775807 < t_grp.size + t_mem.size := by omega
  have sP : (t_pt ++ t_pp).size ≤ 1020 := by rw [ByteArray.size_append]; omega
  have sM : (t_grp ++ t_mem).size ≤ 2020 := by rw [ByteArray.size_append]; omega
  clear hup hbody hm hk hp
  go_enter Try.func59, Try.ntmps59
  go_upto_region 1 with (first | ((with_reducible refine gate_dst (N := 1) rfl ?_); refine box_event rfl (N := 1) rfl (cs := #[.int .i64 x.id, .int .i64 x.kind, .int .i64 x.label, .string x.pt, .int .i64 x.pp, .string x.tt, .int .i64 x.tp, .string x.sn, .int .i64 x.sp, .int .i64 x.sa, .int .i64 x.ss, .bool x.sc, .string x.grp, .string x.mem, .int .i64 x.gen, .int .i64 x.off, .int .i64 x.most, .int .i64 x.prod, .int .i64 x.seq, .slice A l.length k]) (t := 45) ?hr ?_; (case hr => first | (go_simp; done) | (go_simp; rfl)); intro g1 hg1 w1 hbx hbl; have HS : Aside0 (Sz w x (.slice A l.length k) g1 w1) := ⟨⟨hbx, hbl⟩⟩; clear hbx hbl hg1))
  have n_HS := Aside0.mk (HS.out.below (below_drew (Below.refl _ _)))
  clear HS
  have HS := n_HS
  clear n_HS
  have hS : Aside0 (∀ W : World, Sz w x (.slice A l.length k) g1 W → W.cell? ⟨g1, 3, none⟩ = some (.string v_pt) ∧ W.cell? ⟨g1, 4, none⟩ = some (.int .i64 v_pp)) := ⟨fun W h => by
    rw [← e_pt.out, ← e_pp.out]
    exact ⟨(blk_cell h.b3 3).trans rfl, (blk_cell h.b3 4).trans rfl⟩⟩
  go_region_held3 (fun w' => w'.cell? ⟨g1, 3, none⟩ = some (.string v_pt) ∧ w'.cell? ⟨g1, 4, none⟩ = some (.int .i64 v_pp))
    (exact hS.out _ HS.out)
    (first | (go_at_call 88; (with_reducible refine (h_pt.out _).mono ?_); rintro e w' ⟨rfl, hb⟩; have n_HS := Aside0.mk (HS.out.below hb); clear HS hb; have HS := n_HS; clear n_HS) | (go_at_call 89; (with_reducible refine (h_pp.out _).mono ?_); rintro e w' ⟨rfl, hb⟩; have n_HS := Aside0.mk (HS.out.below hb); clear HS hb; have HS := n_HS; clear n_HS))
  clear hS
  generalize t_pt ++ t_pp = P at *
  go_upto_region 2 with fail
  have n_HS := Aside0.mk (HS.out.below (below_drew (Below.refl _ _)))
  clear HS
  have HS := n_HS
  clear n_HS
  have hS : Aside0 (∀ W : World, Sz w x (.slice A l.length k) g1 W → W.cell? ⟨g1, 12, none⟩ = some (.string v_grp) ∧ W.cell? ⟨g1, 13, none⟩ = some (.string v_mem)) := ⟨fun W h => by
    rw [← e_grp.out, ← e_mem.out]
    exact ⟨(blk_cell h.b3 12).trans rfl, (blk_cell h.b3 13).trans rfl⟩⟩
  go_region_held3 (fun w' => w'.cell? ⟨g1, 12, none⟩ = some (.string v_grp) ∧ w'.cell? ⟨g1, 13, none⟩ = some (.string v_mem))
    (exact hS.out _ HS.out)
    (first | (go_at_call 88; (with_reducible refine (h_grp.out _).mono ?_); rintro e w' ⟨rfl, hb⟩; have n_HS := Aside0.mk (HS.out.below hb); clear HS hb; have HS := n_HS; clear n_HS) | (go_at_call 88; (with_reducible refine (h_mem.out _).mono ?_); rintro e w' ⟨rfl, hb⟩; have n_HS := Aside0.mk (HS.out.below hb); clear HS hb; have HS := n_HS; clear n_HS))
  clear hS
  generalize t_grp ++ t_mem = M at *
  have n1 : ¬ 9223372036854775807 < M.size + t_gen.size := by omega
  go_upto_region 3 with fail
  have c1 := fun W : World => fun h : Sz w x (.slice A l.length k) g1 W => ((blk_cell h.b3 1).trans (show _ = some (Value.int .i64 x.kind) from rfl)).trans (congrArg some hkc.out)
  replace c1 := c1 _ HS.out
  have c14 := (fun W : World => fun h : Sz w x (.slice A l.length k) g1 W => ((blk_cell h.b3 14).trans (show _ = some (.int .i64 x.gen) from rfl)).trans (congrArg some (congrArg (Value.int .i64) e_gen.out)))
  replace c14 := c14 _ HS.out
  go_wp2_with fail
  refine (h_gen.out _).mono ?_
  rintro e w6 ⟨rfl, hb⟩
  have n_HS := Aside0.mk (HS.out.below hb)
  clear HS hb
  have HS := n_HS
  clear n_HS
  go_wp2_with fail
  go_ret
  exact ⟨by rw [hres.out] <;> rfl, HS.out.bl⟩
set_option maxHeartbeats 16000000 in
set_option maxRecDepth 100000 in
theorem qbody_calls8 (x : Rq) (A : Option Addr) (k : Nat) (l : List S102) (w : World) (hp : Prs w A l.length k l) (hk : x.kind = 8) (hz : x.pt.size ≤ 1000 ∧ x.tt.size ≤ 1000 ∧ x.sn.size ≤ 1000 ∧ x.grp.size ≤ 1000 ∧ x.mem.size ≤ 1000) (hm : mayB x l = true) :
    Calls Try.prog 59 #[.agg #[.int .i64 x.id, .int .i64 x.kind, .int .i64 x.label, .string x.pt, .int .i64 x.pp, .string x.tt, .int .i64 x.tp, .string x.sn, .int .i64 x.sp, .int .i64 x.sa, .int .i64 x.ss, .bool x.sc, .string x.grp, .string x.mem, .int .i64 x.gen, .int .i64 x.off, .int .i64 x.most, .int .i64 x.prod, .int .i64 x.seq, .slice A l.length k]] w fun e w' => e = .returned (.string (bodyOf x l)) ∧ Below w.heap.size w w' := by
  have hup := (may_parts hm).2.2.1
  have hbody : Aside0 (bodyOf x l = bodyS x l (lets (formF x.kind))) := ⟨rfl⟩
  rw [hk] at hup hbody
  rw [show lets (formF 8) = [71, 78, 69, 84, 80, 79] from rfl] at hup hbody
  simp only [List.all_cons, List.all_nil, Bool.and_true, Bool.and_eq_true] at hup
  obtain ⟨z0, z1, z2, z3, z4⟩ := hz
  have hkc : Aside0 (Value.int .i64 x.kind = .int .i64 8) := ⟨by rw [hk]⟩
  have hres : Aside0 (bodyOf x l = ((((textS x.grp ++ textS x.mem) ++ chU x.gen) ++ (textS x.pt ++ chU x.pp)) ++ chU x.off)) := ⟨by
    rw [hbody.out]
    simp only [bodyS, List.foldl_cons, List.foldl_nil]
    simp only [let69, let71, let78, let79, let80, let84]
    rw [chU_small x.gen (ok_num (c := 69) hup.2.2.1), chU_small x.pp (ok_num (c := 80) hup.2.2.2.2.1), chU_small x.off (ok_num (c := 79) hup.2.2.2.2.2)]
    simp only [← ByteArray.append_assoc, emp_app]⟩
  have h_pt := Aside0.mk (fun W : World => tx_calls x.pt W (by omega))
  have s_pt := textS_size x.pt
  have h_pp := Aside0.mk (fun W : World => ch_calls x.pp W)
  have s_pp : (chU x.pp).size ≤ 10 := chainS_size _
  have h_grp := Aside0.mk (fun W : World => tx_calls x.grp W (by omega))
  have s_grp := textS_size x.grp
  have h_mem := Aside0.mk (fun W : World => tx_calls x.mem W (by omega))
  have s_mem := textS_size x.mem
  have h_gen := Aside0.mk (fun W : World => ch_calls x.gen W)
  have s_gen : (chU x.gen).size ≤ 10 := chainS_size _
  have h_off := Aside0.mk (fun W : World => ch_calls x.off W)
  have s_off : (chU x.off).size ≤ 10 := chainS_size _
  generalize textS x.pt = t_pt at *
  generalize chU x.pp = t_pp at *
  generalize textS x.grp = t_grp at *
  generalize textS x.mem = t_mem at *
  generalize chU x.gen = t_gen at *
  generalize chU x.off = t_off at *
  obtain ⟨v_pt, e_pt⟩ : ∃ v, x.pt = v := ⟨_, rfl⟩
  rw [e_pt] at h_pt
  replace e_pt := Aside0.mk e_pt
  obtain ⟨v_pp, e_pp⟩ : ∃ v, x.pp = v := ⟨_, rfl⟩
  rw [e_pp] at h_pp
  replace e_pp := Aside0.mk e_pp
  obtain ⟨v_grp, e_grp⟩ : ∃ v, x.grp = v := ⟨_, rfl⟩
  rw [e_grp] at h_grp
  replace e_grp := Aside0.mk e_grp
  obtain ⟨v_mem, e_mem⟩ : ∃ v, x.mem = v := ⟨_, rfl⟩
  rw [e_mem] at h_mem
  replace e_mem := Aside0.mk e_mem
  obtain ⟨v_gen, e_gen⟩ : ∃ v, x.gen = v := ⟨_, rfl⟩
  rw [e_gen] at h_gen
  replace e_gen := Aside0.mk e_gen
  obtain ⟨v_off, e_off⟩ : ∃ v, x.off = v := ⟨_, rfl⟩
  rw [e_off] at h_off
  replace e_off := Aside0.mk e_off
  have nP : ¬ 9223372036854775807 < t_pt.size + t_pp.size := by omega
  have nM : ¬ 9223372036854775807 < t_grp.size + t_mem.size := by omega
  have sP : (t_pt ++ t_pp).size ≤ 1020 := by rw [ByteArray.size_append]; omega
  have sM : (t_grp ++ t_mem).size ≤ 2020 := by rw [ByteArray.size_append]; omega
  clear hup hbody hm hk hp
  go_enter Try.func59, Try.ntmps59
  go_upto_region 1 with (first | ((with_reducible refine gate_dst (N := 1) rfl ?_); refine box_event rfl (N := 1) rfl (cs := #[.int .i64 x.id, .int .i64 x.kind, .int .i64 x.label, .string x.pt, .int .i64 x.pp, .string x.tt, .int .i64 x.tp, .string x.sn, .int .i64 x.sp, .int .i64 x.sa, .int .i64 x.ss, .bool x.sc, .string x.grp, .string x.mem, .int .i64 x.gen, .int .i64 x.off, .int .i64 x.most, .int .i64 x.prod, .int .i64 x.seq, .slice A l.length k]) (t := 45) ?hr ?_; (case hr => first | (go_simp; done) | (go_simp; rfl)); intro g1 hg1 w1 hbx hbl; have HS : Aside0 (Sz w x (.slice A l.length k) g1 w1) := ⟨⟨hbx, hbl⟩⟩; clear hbx hbl hg1))
  have n_HS := Aside0.mk (HS.out.below (below_drew (Below.refl _ _)))
  clear HS
  have HS := n_HS
  clear n_HS
  have hS : Aside0 (∀ W : World, Sz w x (.slice A l.length k) g1 W → W.cell? ⟨g1, 3, none⟩ = some (.string v_pt) ∧ W.cell? ⟨g1, 4, none⟩ = some (.int .i64 v_pp)) := ⟨fun W h => by
    rw [← e_pt.out, ← e_pp.out]
    exact ⟨(blk_cell h.b3 3).trans rfl, (blk_cell h.b3 4).trans rfl⟩⟩
  go_region_held3 (fun w' => w'.cell? ⟨g1, 3, none⟩ = some (.string v_pt) ∧ w'.cell? ⟨g1, 4, none⟩ = some (.int .i64 v_pp))
    (exact hS.out _ HS.out)
    (first | (go_at_call 88; (with_reducible refine (h_pt.out _).mono ?_); rintro e w' ⟨rfl, hb⟩; have n_HS := Aside0.mk (HS.out.below hb); clear HS hb; have HS := n_HS; clear n_HS) | (go_at_call 89; (with_reducible refine (h_pp.out _).mono ?_); rintro e w' ⟨rfl, hb⟩; have n_HS := Aside0.mk (HS.out.below hb); clear HS hb; have HS := n_HS; clear n_HS))
  clear hS
  generalize t_pt ++ t_pp = P at *
  go_upto_region 2 with fail
  have n_HS := Aside0.mk (HS.out.below (below_drew (Below.refl _ _)))
  clear HS
  have HS := n_HS
  clear n_HS
  have hS : Aside0 (∀ W : World, Sz w x (.slice A l.length k) g1 W → W.cell? ⟨g1, 12, none⟩ = some (.string v_grp) ∧ W.cell? ⟨g1, 13, none⟩ = some (.string v_mem)) := ⟨fun W h => by
    rw [← e_grp.out, ← e_mem.out]
    exact ⟨(blk_cell h.b3 12).trans rfl, (blk_cell h.b3 13).trans rfl⟩⟩
  go_region_held3 (fun w' => w'.cell? ⟨g1, 12, none⟩ = some (.string v_grp) ∧ w'.cell? ⟨g1, 13, none⟩ = some (.string v_mem))
    (exact hS.out _ HS.out)
    (first | (go_at_call 88; (with_reducible refine (h_grp.out _).mono ?_); rintro e w' ⟨rfl, hb⟩; have n_HS := Aside0.mk (HS.out.below hb); clear HS hb; have HS := n_HS; clear n_HS) | (go_at_call 88; (with_reducible refine (h_mem.out _).mono ?_); rintro e w' ⟨rfl, hb⟩; have n_HS := Aside0.mk (HS.out.below hb); clear HS hb; have HS := n_HS; clear n_HS))
  clear hS
  generalize t_grp ++ t_mem = M at *
  have n1 : ¬ 9223372036854775807 < M.size + t_gen.size := by omega
  have n2 : ¬ 9223372036854775807 < M.size + t_gen.size + P.size := by omega
  have n3 : ¬ 9223372036854775807 < M.size + t_gen.size + P.size + t_off.size := by omega
  have m2 : ¬ 9223372036854775807 < (M ++ t_gen).size + P.size := by simp only [ByteArray.size_append]; omega
  have m3 : ¬ 9223372036854775807 < ((M ++ t_gen) ++ P).size + t_off.size := by simp only [ByteArray.size_append]; omega
  go_upto_region 3 with fail
  have c1 := fun W : World => fun h : Sz w x (.slice A l.length k) g1 W => ((blk_cell h.b3 1).trans (show _ = some (Value.int .i64 x.kind) from rfl)).trans (congrArg some hkc.out)
  replace c1 := c1 _ HS.out
  go_upto_region 25 with fail
  have n_HS := Aside0.mk (HS.out.below (below_drew (Below.refl _ _)))
  clear HS
  have HS := n_HS
  clear n_HS
  have hS : Aside0 (∀ W : World, Sz w x (.slice A l.length k) g1 W → W.cell? ⟨g1, 14, none⟩ = some (.int .i64 v_gen) ∧ W.cell? ⟨g1, 15, none⟩ = some (.int .i64 v_off)) := ⟨fun W h => by
    rw [← e_gen.out, ← e_off.out]
    exact ⟨(blk_cell h.b3 14).trans rfl, (blk_cell h.b3 15).trans rfl⟩⟩
  go_region_held3 (fun w' => w'.cell? ⟨g1, 14, none⟩ = some (.int .i64 v_gen) ∧ w'.cell? ⟨g1, 15, none⟩ = some (.int .i64 v_off))
    (exact hS.out _ HS.out)
    (first | (go_at_call 89; (with_reducible refine (h_gen.out _).mono ?_); rintro e w' ⟨rfl, hb⟩; have n_HS := Aside0.mk (HS.out.below hb); clear HS hb; have HS := n_HS; clear n_HS) | (go_at_call 89; (with_reducible refine (h_off.out _).mono ?_); rintro e w' ⟨rfl, hb⟩; have n_HS := Aside0.mk (HS.out.below hb); clear HS hb; have HS := n_HS; clear n_HS))
  clear hS
  go_wp2_with fail
  go_ret
  exact ⟨by rw [hres.out] <;> rfl, HS.out.bl⟩
set_option maxHeartbeats 16000000 in
set_option maxRecDepth 100000 in
theorem qbody_calls9 (x : Rq) (A : Option Addr) (k : Nat) (l : List S102) (w : World) (hp : Prs w A l.length k l) (hk : x.kind = 9) (hz : x.pt.size ≤ 1000 ∧ x.tt.size ≤ 1000 ∧ x.sn.size ≤ 1000 ∧ x.grp.size ≤ 1000 ∧ x.mem.size ≤ 1000) (hm : mayB x l = true) :
    Calls Try.prog 59 #[.agg #[.int .i64 x.id, .int .i64 x.kind, .int .i64 x.label, .string x.pt, .int .i64 x.pp, .string x.tt, .int .i64 x.tp, .string x.sn, .int .i64 x.sp, .int .i64 x.sa, .int .i64 x.ss, .bool x.sc, .string x.grp, .string x.mem, .int .i64 x.gen, .int .i64 x.off, .int .i64 x.most, .int .i64 x.prod, .int .i64 x.seq, .slice A l.length k]] w fun e w' => e = .returned (.string (bodyOf x l)) ∧ Below w.heap.size w w' := by
  have hup := (may_parts hm).2.2.1
  have hbody : Aside0 (bodyOf x l = bodyS x l (lets (formF x.kind))) := ⟨rfl⟩
  rw [hk] at hup hbody
  rw [show lets (formF 9) = [76, 71, 84, 80] from rfl] at hup hbody
  simp only [List.all_cons, List.all_nil, Bool.and_true, Bool.and_eq_true] at hup
  obtain ⟨z0, z1, z2, z3, z4⟩ := hz
  have hkc : Aside0 (Value.int .i64 x.kind = .int .i64 9) := ⟨by rw [hk]⟩
  have hres : Aside0 (bodyOf x l = ((chU x.label ++ textS x.grp) ++ (textS x.pt ++ chU x.pp))) := ⟨by
    rw [hbody.out]
    simp only [bodyS, List.foldl_cons, List.foldl_nil]
    simp only [let71, let76, let80, let84]
    rw [chU_small x.label (ok_num (c := 76) hup.1), chU_small x.pp (ok_num (c := 80) hup.2.2.2)]
    simp only [← ByteArray.append_assoc, emp_app]⟩
  have h_pt := Aside0.mk (fun W : World => tx_calls x.pt W (by omega))
  have s_pt := textS_size x.pt
  have h_pp := Aside0.mk (fun W : World => ch_calls x.pp W)
  have s_pp : (chU x.pp).size ≤ 10 := chainS_size _
  have h_grp := Aside0.mk (fun W : World => tx_calls x.grp W (by omega))
  have s_grp := textS_size x.grp
  have h_mem := Aside0.mk (fun W : World => tx_calls x.mem W (by omega))
  have s_mem := textS_size x.mem
  have h_label := Aside0.mk (fun W : World => ch_calls x.label W)
  have s_label : (chU x.label).size ≤ 10 := chainS_size _
  generalize textS x.pt = t_pt at *
  generalize chU x.pp = t_pp at *
  generalize textS x.grp = t_grp at *
  generalize textS x.mem = t_mem at *
  generalize chU x.label = t_label at *
  obtain ⟨v_pt, e_pt⟩ : ∃ v, x.pt = v := ⟨_, rfl⟩
  rw [e_pt] at h_pt
  replace e_pt := Aside0.mk e_pt
  obtain ⟨v_pp, e_pp⟩ : ∃ v, x.pp = v := ⟨_, rfl⟩
  rw [e_pp] at h_pp
  replace e_pp := Aside0.mk e_pp
  obtain ⟨v_grp, e_grp⟩ : ∃ v, x.grp = v := ⟨_, rfl⟩
  rw [e_grp] at h_grp
  replace e_grp := Aside0.mk e_grp
  obtain ⟨v_mem, e_mem⟩ : ∃ v, x.mem = v := ⟨_, rfl⟩
  rw [e_mem] at h_mem
  replace e_mem := Aside0.mk e_mem
  obtain ⟨v_label, e_label⟩ : ∃ v, x.label = v := ⟨_, rfl⟩
  rw [e_label] at h_label
  replace e_label := Aside0.mk e_label
  have nP : ¬ 9223372036854775807 < t_pt.size + t_pp.size := by omega
  have nM : ¬ 9223372036854775807 < t_grp.size + t_mem.size := by omega
  have sP : (t_pt ++ t_pp).size ≤ 1020 := by rw [ByteArray.size_append]; omega
  have sM : (t_grp ++ t_mem).size ≤ 2020 := by rw [ByteArray.size_append]; omega
  clear hup hbody hm hk hp
  go_enter Try.func59, Try.ntmps59
  go_upto_region 1 with (first | ((with_reducible refine gate_dst (N := 1) rfl ?_); refine box_event rfl (N := 1) rfl (cs := #[.int .i64 x.id, .int .i64 x.kind, .int .i64 x.label, .string x.pt, .int .i64 x.pp, .string x.tt, .int .i64 x.tp, .string x.sn, .int .i64 x.sp, .int .i64 x.sa, .int .i64 x.ss, .bool x.sc, .string x.grp, .string x.mem, .int .i64 x.gen, .int .i64 x.off, .int .i64 x.most, .int .i64 x.prod, .int .i64 x.seq, .slice A l.length k]) (t := 45) ?hr ?_; (case hr => first | (go_simp; done) | (go_simp; rfl)); intro g1 hg1 w1 hbx hbl; have HS : Aside0 (Sz w x (.slice A l.length k) g1 w1) := ⟨⟨hbx, hbl⟩⟩; clear hbx hbl hg1))
  have n_HS := Aside0.mk (HS.out.below (below_drew (Below.refl _ _)))
  clear HS
  have HS := n_HS
  clear n_HS
  have hS : Aside0 (∀ W : World, Sz w x (.slice A l.length k) g1 W → W.cell? ⟨g1, 3, none⟩ = some (.string v_pt) ∧ W.cell? ⟨g1, 4, none⟩ = some (.int .i64 v_pp)) := ⟨fun W h => by
    rw [← e_pt.out, ← e_pp.out]
    exact ⟨(blk_cell h.b3 3).trans rfl, (blk_cell h.b3 4).trans rfl⟩⟩
  go_region_held3 (fun w' => w'.cell? ⟨g1, 3, none⟩ = some (.string v_pt) ∧ w'.cell? ⟨g1, 4, none⟩ = some (.int .i64 v_pp))
    (exact hS.out _ HS.out)
    (first | (go_at_call 88; (with_reducible refine (h_pt.out _).mono ?_); rintro e w' ⟨rfl, hb⟩; have n_HS := Aside0.mk (HS.out.below hb); clear HS hb; have HS := n_HS; clear n_HS) | (go_at_call 89; (with_reducible refine (h_pp.out _).mono ?_); rintro e w' ⟨rfl, hb⟩; have n_HS := Aside0.mk (HS.out.below hb); clear HS hb; have HS := n_HS; clear n_HS))
  clear hS
  generalize t_pt ++ t_pp = P at *
  go_upto_region 2 with fail
  have n_HS := Aside0.mk (HS.out.below (below_drew (Below.refl _ _)))
  clear HS
  have HS := n_HS
  clear n_HS
  have hS : Aside0 (∀ W : World, Sz w x (.slice A l.length k) g1 W → W.cell? ⟨g1, 12, none⟩ = some (.string v_grp) ∧ W.cell? ⟨g1, 13, none⟩ = some (.string v_mem)) := ⟨fun W h => by
    rw [← e_grp.out, ← e_mem.out]
    exact ⟨(blk_cell h.b3 12).trans rfl, (blk_cell h.b3 13).trans rfl⟩⟩
  go_region_held3 (fun w' => w'.cell? ⟨g1, 12, none⟩ = some (.string v_grp) ∧ w'.cell? ⟨g1, 13, none⟩ = some (.string v_mem))
    (exact hS.out _ HS.out)
    (first | (go_at_call 88; (with_reducible refine (h_grp.out _).mono ?_); rintro e w' ⟨rfl, hb⟩; have n_HS := Aside0.mk (HS.out.below hb); clear HS hb; have HS := n_HS; clear n_HS) | (go_at_call 88; (with_reducible refine (h_mem.out _).mono ?_); rintro e w' ⟨rfl, hb⟩; have n_HS := Aside0.mk (HS.out.below hb); clear HS hb; have HS := n_HS; clear n_HS))
  clear hS
  generalize t_grp ++ t_mem = M at *
  have n1 : ¬ 9223372036854775807 < t_label.size + t_grp.size := by omega
  have n2 : ¬ 9223372036854775807 < t_label.size + t_grp.size + P.size := by omega
  have m2 : ¬ 9223372036854775807 < (t_label ++ t_grp).size + P.size := by simp only [ByteArray.size_append]; omega
  go_upto_region 3 with fail
  have c1 := fun W : World => fun h : Sz w x (.slice A l.length k) g1 W => ((blk_cell h.b3 1).trans (show _ = some (Value.int .i64 x.kind) from rfl)).trans (congrArg some hkc.out)
  replace c1 := c1 _ HS.out
  go_upto_region 27 with fail
  have n_HS := Aside0.mk (HS.out.below (below_drew (Below.refl _ _)))
  clear HS
  have HS := n_HS
  clear n_HS
  have hS : Aside0 (∀ W : World, Sz w x (.slice A l.length k) g1 W → W.cell? ⟨g1, 2, none⟩ = some (.int .i64 v_label) ∧ W.cell? ⟨g1, 12, none⟩ = some (.string v_grp)) := ⟨fun W h => by
    rw [← e_label.out, ← e_grp.out]
    exact ⟨(blk_cell h.b3 2).trans rfl, (blk_cell h.b3 12).trans rfl⟩⟩
  go_region_held3 (fun w' => w'.cell? ⟨g1, 2, none⟩ = some (.int .i64 v_label) ∧ w'.cell? ⟨g1, 12, none⟩ = some (.string v_grp))
    (exact hS.out _ HS.out)
    (first | (go_at_call 89; (with_reducible refine (h_label.out _).mono ?_); rintro e w' ⟨rfl, hb⟩; have n_HS := Aside0.mk (HS.out.below hb); clear HS hb; have HS := n_HS; clear n_HS) | (go_at_call 88; (with_reducible refine (h_grp.out _).mono ?_); rintro e w' ⟨rfl, hb⟩; have n_HS := Aside0.mk (HS.out.below hb); clear HS hb; have HS := n_HS; clear n_HS))
  clear hS
  go_wp2_with fail
  go_ret
  exact ⟨by rw [hres.out] <;> rfl, HS.out.bl⟩
set_option maxHeartbeats 16000000 in
set_option maxRecDepth 100000 in
theorem qbody_calls10 (x : Rq) (A : Option Addr) (k : Nat) (l : List S102) (w : World) (hp : Prs w A l.length k l) (hk : x.kind = 10) (hz : x.pt.size ≤ 1000 ∧ x.tt.size ≤ 1000 ∧ x.sn.size ≤ 1000 ∧ x.grp.size ≤ 1000 ∧ x.mem.size ≤ 1000) (hm : mayB x l = true) :
    Calls Try.prog 59 #[.agg #[.int .i64 x.id, .int .i64 x.kind, .int .i64 x.label, .string x.pt, .int .i64 x.pp, .string x.tt, .int .i64 x.tp, .string x.sn, .int .i64 x.sp, .int .i64 x.sa, .int .i64 x.ss, .bool x.sc, .string x.grp, .string x.mem, .int .i64 x.gen, .int .i64 x.off, .int .i64 x.most, .int .i64 x.prod, .int .i64 x.seq, .slice A l.length k]] w fun e w' => e = .returned (.string (bodyOf x l)) ∧ Below w.heap.size w w' := by
  have hup := (may_parts hm).2.2.1
  have hbody : Aside0 (bodyOf x l = bodyS x l (lets (formF x.kind))) := ⟨rfl⟩
  rw [hk] at hup hbody
  rw [show lets (formF 10) = [84, 80, 79, 76, 116, 112] from rfl] at hup hbody
  simp only [List.all_cons, List.all_nil, Bool.and_true, Bool.and_eq_true] at hup
  obtain ⟨z0, z1, z2, z3, z4⟩ := hz
  have hkc : Aside0 (Value.int .i64 x.kind = .int .i64 10) := ⟨by rw [hk]⟩
  have hres : Aside0 (bodyOf x l = (((((textS x.pt ++ chU x.pp) ++ chU x.off) ++ chU x.label) ++ textS x.tt) ++ chU x.tp)) := ⟨by
    rw [hbody.out]
    simp only [bodyS, List.foldl_cons, List.foldl_nil]
    simp only [let76, let79, let80, let84, let112, let116]
    rw [chU_small x.pp (ok_num (c := 80) hup.2.1), chU_small x.off (ok_num (c := 79) hup.2.2.1), chU_small x.label (ok_num (c := 76) hup.2.2.2.1), chU_small x.tp (ok_num (c := 112) hup.2.2.2.2.2)]
    simp only [← ByteArray.append_assoc, emp_app]⟩
  have h_pt := Aside0.mk (fun W : World => tx_calls x.pt W (by omega))
  have s_pt := textS_size x.pt
  have h_pp := Aside0.mk (fun W : World => ch_calls x.pp W)
  have s_pp : (chU x.pp).size ≤ 10 := chainS_size _
  have h_grp := Aside0.mk (fun W : World => tx_calls x.grp W (by omega))
  have s_grp := textS_size x.grp
  have h_mem := Aside0.mk (fun W : World => tx_calls x.mem W (by omega))
  have s_mem := textS_size x.mem
  have h_off := Aside0.mk (fun W : World => ch_calls x.off W)
  have s_off : (chU x.off).size ≤ 10 := chainS_size _
  have h_label := Aside0.mk (fun W : World => ch_calls x.label W)
  have s_label : (chU x.label).size ≤ 10 := chainS_size _
  have h_tt := Aside0.mk (fun W : World => tx_calls x.tt W (by omega))
  have s_tt := textS_size x.tt
  have h_tp := Aside0.mk (fun W : World => ch_calls x.tp W)
  have s_tp : (chU x.tp).size ≤ 10 := chainS_size _
  generalize textS x.pt = t_pt at *
  generalize chU x.pp = t_pp at *
  generalize textS x.grp = t_grp at *
  generalize textS x.mem = t_mem at *
  generalize chU x.off = t_off at *
  generalize chU x.label = t_label at *
  generalize textS x.tt = t_tt at *
  generalize chU x.tp = t_tp at *
  obtain ⟨v_pt, e_pt⟩ : ∃ v, x.pt = v := ⟨_, rfl⟩
  rw [e_pt] at h_pt
  replace e_pt := Aside0.mk e_pt
  obtain ⟨v_pp, e_pp⟩ : ∃ v, x.pp = v := ⟨_, rfl⟩
  rw [e_pp] at h_pp
  replace e_pp := Aside0.mk e_pp
  obtain ⟨v_grp, e_grp⟩ : ∃ v, x.grp = v := ⟨_, rfl⟩
  rw [e_grp] at h_grp
  replace e_grp := Aside0.mk e_grp
  obtain ⟨v_mem, e_mem⟩ : ∃ v, x.mem = v := ⟨_, rfl⟩
  rw [e_mem] at h_mem
  replace e_mem := Aside0.mk e_mem
  obtain ⟨v_off, e_off⟩ : ∃ v, x.off = v := ⟨_, rfl⟩
  rw [e_off] at h_off
  replace e_off := Aside0.mk e_off
  obtain ⟨v_label, e_label⟩ : ∃ v, x.label = v := ⟨_, rfl⟩
  rw [e_label] at h_label
  replace e_label := Aside0.mk e_label
  obtain ⟨v_tt, e_tt⟩ : ∃ v, x.tt = v := ⟨_, rfl⟩
  rw [e_tt] at h_tt
  replace e_tt := Aside0.mk e_tt
  obtain ⟨v_tp, e_tp⟩ : ∃ v, x.tp = v := ⟨_, rfl⟩
  rw [e_tp] at h_tp
  replace e_tp := Aside0.mk e_tp
  have nP : ¬ 9223372036854775807 < t_pt.size + t_pp.size := by omega
  have nM : ¬ 9223372036854775807 < t_grp.size + t_mem.size := by omega
  have sP : (t_pt ++ t_pp).size ≤ 1020 := by rw [ByteArray.size_append]; omega
  have sM : (t_grp ++ t_mem).size ≤ 2020 := by rw [ByteArray.size_append]; omega
  clear hup hbody hm hk hp
  go_enter Try.func59, Try.ntmps59
  go_upto_region 1 with (first | ((with_reducible refine gate_dst (N := 1) rfl ?_); refine box_event rfl (N := 1) rfl (cs := #[.int .i64 x.id, .int .i64 x.kind, .int .i64 x.label, .string x.pt, .int .i64 x.pp, .string x.tt, .int .i64 x.tp, .string x.sn, .int .i64 x.sp, .int .i64 x.sa, .int .i64 x.ss, .bool x.sc, .string x.grp, .string x.mem, .int .i64 x.gen, .int .i64 x.off, .int .i64 x.most, .int .i64 x.prod, .int .i64 x.seq, .slice A l.length k]) (t := 45) ?hr ?_; (case hr => first | (go_simp; done) | (go_simp; rfl)); intro g1 hg1 w1 hbx hbl; have HS : Aside0 (Sz w x (.slice A l.length k) g1 w1) := ⟨⟨hbx, hbl⟩⟩; clear hbx hbl hg1))
  have n_HS := Aside0.mk (HS.out.below (below_drew (Below.refl _ _)))
  clear HS
  have HS := n_HS
  clear n_HS
  have hS : Aside0 (∀ W : World, Sz w x (.slice A l.length k) g1 W → W.cell? ⟨g1, 3, none⟩ = some (.string v_pt) ∧ W.cell? ⟨g1, 4, none⟩ = some (.int .i64 v_pp)) := ⟨fun W h => by
    rw [← e_pt.out, ← e_pp.out]
    exact ⟨(blk_cell h.b3 3).trans rfl, (blk_cell h.b3 4).trans rfl⟩⟩
  go_region_held3 (fun w' => w'.cell? ⟨g1, 3, none⟩ = some (.string v_pt) ∧ w'.cell? ⟨g1, 4, none⟩ = some (.int .i64 v_pp))
    (exact hS.out _ HS.out)
    (first | (go_at_call 88; (with_reducible refine (h_pt.out _).mono ?_); rintro e w' ⟨rfl, hb⟩; have n_HS := Aside0.mk (HS.out.below hb); clear HS hb; have HS := n_HS; clear n_HS) | (go_at_call 89; (with_reducible refine (h_pp.out _).mono ?_); rintro e w' ⟨rfl, hb⟩; have n_HS := Aside0.mk (HS.out.below hb); clear HS hb; have HS := n_HS; clear n_HS))
  clear hS
  generalize t_pt ++ t_pp = P at *
  go_upto_region 2 with fail
  have n_HS := Aside0.mk (HS.out.below (below_drew (Below.refl _ _)))
  clear HS
  have HS := n_HS
  clear n_HS
  have hS : Aside0 (∀ W : World, Sz w x (.slice A l.length k) g1 W → W.cell? ⟨g1, 12, none⟩ = some (.string v_grp) ∧ W.cell? ⟨g1, 13, none⟩ = some (.string v_mem)) := ⟨fun W h => by
    rw [← e_grp.out, ← e_mem.out]
    exact ⟨(blk_cell h.b3 12).trans rfl, (blk_cell h.b3 13).trans rfl⟩⟩
  go_region_held3 (fun w' => w'.cell? ⟨g1, 12, none⟩ = some (.string v_grp) ∧ w'.cell? ⟨g1, 13, none⟩ = some (.string v_mem))
    (exact hS.out _ HS.out)
    (first | (go_at_call 88; (with_reducible refine (h_grp.out _).mono ?_); rintro e w' ⟨rfl, hb⟩; have n_HS := Aside0.mk (HS.out.below hb); clear HS hb; have HS := n_HS; clear n_HS) | (go_at_call 88; (with_reducible refine (h_mem.out _).mono ?_); rintro e w' ⟨rfl, hb⟩; have n_HS := Aside0.mk (HS.out.below hb); clear HS hb; have HS := n_HS; clear n_HS))
  clear hS
  generalize t_grp ++ t_mem = M at *
  have n1 : ¬ 9223372036854775807 < P.size + t_off.size := by omega
  have n2 : ¬ 9223372036854775807 < P.size + t_off.size + t_label.size := by omega
  have n3 : ¬ 9223372036854775807 < P.size + t_off.size + t_label.size + t_tt.size := by omega
  have n4 : ¬ 9223372036854775807 < P.size + t_off.size + t_label.size + t_tt.size + t_tp.size := by omega
  have m2 : ¬ 9223372036854775807 < (P ++ t_off).size + t_label.size := by simp only [ByteArray.size_append]; omega
  have m3 : ¬ 9223372036854775807 < ((P ++ t_off) ++ t_label).size + t_tt.size := by simp only [ByteArray.size_append]; omega
  have m4 : ¬ 9223372036854775807 < (((P ++ t_off) ++ t_label) ++ t_tt).size + t_tp.size := by simp only [ByteArray.size_append]; omega
  go_upto_region 3 with fail
  have c1 := fun W : World => fun h : Sz w x (.slice A l.length k) g1 W => ((blk_cell h.b3 1).trans (show _ = some (Value.int .i64 x.kind) from rfl)).trans (congrArg some hkc.out)
  replace c1 := c1 _ HS.out
  go_upto_region 29 with fail
  have n_HS := Aside0.mk (HS.out.below (below_drew (Below.refl _ _)))
  clear HS
  have HS := n_HS
  clear n_HS
  have hS : Aside0 (∀ W : World, Sz w x (.slice A l.length k) g1 W → W.cell? ⟨g1, 15, none⟩ = some (.int .i64 v_off) ∧ W.cell? ⟨g1, 2, none⟩ = some (.int .i64 v_label) ∧ W.cell? ⟨g1, 5, none⟩ = some (.string v_tt) ∧ W.cell? ⟨g1, 6, none⟩ = some (.int .i64 v_tp)) := ⟨fun W h => by
    rw [← e_off.out, ← e_label.out, ← e_tt.out, ← e_tp.out]
    exact ⟨(blk_cell h.b3 15).trans rfl, (blk_cell h.b3 2).trans rfl, (blk_cell h.b3 5).trans rfl, (blk_cell h.b3 6).trans rfl⟩⟩
  go_region_held3 (fun w' => w'.cell? ⟨g1, 15, none⟩ = some (.int .i64 v_off) ∧ w'.cell? ⟨g1, 2, none⟩ = some (.int .i64 v_label) ∧ w'.cell? ⟨g1, 5, none⟩ = some (.string v_tt) ∧ w'.cell? ⟨g1, 6, none⟩ = some (.int .i64 v_tp))
    (exact hS.out _ HS.out)
    (first | (go_at_call 89; (with_reducible refine (h_off.out _).mono ?_); rintro e w' ⟨rfl, hb⟩; have n_HS := Aside0.mk (HS.out.below hb); clear HS hb; have HS := n_HS; clear n_HS) | (go_at_call 89; (with_reducible refine (h_label.out _).mono ?_); rintro e w' ⟨rfl, hb⟩; have n_HS := Aside0.mk (HS.out.below hb); clear HS hb; have HS := n_HS; clear n_HS) | (go_at_call 88; (with_reducible refine (h_tt.out _).mono ?_); rintro e w' ⟨rfl, hb⟩; have n_HS := Aside0.mk (HS.out.below hb); clear HS hb; have HS := n_HS; clear n_HS) | (go_at_call 89; (with_reducible refine (h_tp.out _).mono ?_); rintro e w' ⟨rfl, hb⟩; have n_HS := Aside0.mk (HS.out.below hb); clear HS hb; have HS := n_HS; clear n_HS))
  clear hS
  go_wp2_with fail
  go_ret
  exact ⟨by rw [hres.out] <;> rfl, HS.out.bl⟩
set_option maxHeartbeats 16000000 in
set_option maxRecDepth 100000 in
theorem qbody_calls11 (x : Rq) (A : Option Addr) (k : Nat) (l : List S102) (w : World) (hp : Prs w A l.length k l) (hk : x.kind = 11) (hz : x.pt.size ≤ 1000 ∧ x.tt.size ≤ 1000 ∧ x.sn.size ≤ 1000 ∧ x.grp.size ≤ 1000 ∧ x.mem.size ≤ 1000) (hm : mayB x l = true) :
    Calls Try.prog 59 #[.agg #[.int .i64 x.id, .int .i64 x.kind, .int .i64 x.label, .string x.pt, .int .i64 x.pp, .string x.tt, .int .i64 x.tp, .string x.sn, .int .i64 x.sp, .int .i64 x.sa, .int .i64 x.ss, .bool x.sc, .string x.grp, .string x.mem, .int .i64 x.gen, .int .i64 x.off, .int .i64 x.most, .int .i64 x.prod, .int .i64 x.seq, .slice A l.length k]] w fun e w' => e = .returned (.string (bodyOf x l)) ∧ Below w.heap.size w w' := by
  have hup := (may_parts hm).2.2.1
  have hbody : Aside0 (bodyOf x l = bodyS x l (lets (formF x.kind))) := ⟨rfl⟩
  rw [hk] at hup hbody
  rw [show lets (formF 11) = [76] from rfl] at hup hbody
  simp only [List.all_cons, List.all_nil, Bool.and_true] at hup
  obtain ⟨z0, z1, z2, z3, z4⟩ := hz
  have hkc : Aside0 (Value.int .i64 x.kind = .int .i64 11) := ⟨by rw [hk]⟩
  have hres : Aside0 (bodyOf x l = chU x.label) := ⟨by
    rw [hbody.out]
    simp only [bodyS, List.foldl_cons, List.foldl_nil]
    simp only [let76]
    rw [chU_small x.label (ok_num (c := 76) hup)]
    simp only [← ByteArray.append_assoc, emp_app]⟩
  have h_pt := Aside0.mk (fun W : World => tx_calls x.pt W (by omega))
  have s_pt := textS_size x.pt
  have h_pp := Aside0.mk (fun W : World => ch_calls x.pp W)
  have s_pp : (chU x.pp).size ≤ 10 := chainS_size _
  have h_grp := Aside0.mk (fun W : World => tx_calls x.grp W (by omega))
  have s_grp := textS_size x.grp
  have h_mem := Aside0.mk (fun W : World => tx_calls x.mem W (by omega))
  have s_mem := textS_size x.mem
  have h_label := Aside0.mk (fun W : World => ch_calls x.label W)
  have s_label : (chU x.label).size ≤ 10 := chainS_size _
  generalize textS x.pt = t_pt at *
  generalize chU x.pp = t_pp at *
  generalize textS x.grp = t_grp at *
  generalize textS x.mem = t_mem at *
  generalize chU x.label = t_label at *
  obtain ⟨v_pt, e_pt⟩ : ∃ v, x.pt = v := ⟨_, rfl⟩
  rw [e_pt] at h_pt
  replace e_pt := Aside0.mk e_pt
  obtain ⟨v_pp, e_pp⟩ : ∃ v, x.pp = v := ⟨_, rfl⟩
  rw [e_pp] at h_pp
  replace e_pp := Aside0.mk e_pp
  obtain ⟨v_grp, e_grp⟩ : ∃ v, x.grp = v := ⟨_, rfl⟩
  rw [e_grp] at h_grp
  replace e_grp := Aside0.mk e_grp
  obtain ⟨v_mem, e_mem⟩ : ∃ v, x.mem = v := ⟨_, rfl⟩
  rw [e_mem] at h_mem
  replace e_mem := Aside0.mk e_mem
  obtain ⟨v_label, e_label⟩ : ∃ v, x.label = v := ⟨_, rfl⟩
  rw [e_label] at h_label
  replace e_label := Aside0.mk e_label
  have nP : ¬ 9223372036854775807 < t_pt.size + t_pp.size := by omega
  have nM : ¬ 9223372036854775807 < t_grp.size + t_mem.size := by omega
  have sP : (t_pt ++ t_pp).size ≤ 1020 := by rw [ByteArray.size_append]; omega
  have sM : (t_grp ++ t_mem).size ≤ 2020 := by rw [ByteArray.size_append]; omega
  clear hup hbody hm hk hp
  go_enter Try.func59, Try.ntmps59
  go_upto_region 1 with (first | ((with_reducible refine gate_dst (N := 1) rfl ?_); refine box_event rfl (N := 1) rfl (cs := #[.int .i64 x.id, .int .i64 x.kind, .int .i64 x.label, .string x.pt, .int .i64 x.pp, .string x.tt, .int .i64 x.tp, .string x.sn, .int .i64 x.sp, .int .i64 x.sa, .int .i64 x.ss, .bool x.sc, .string x.grp, .string x.mem, .int .i64 x.gen, .int .i64 x.off, .int .i64 x.most, .int .i64 x.prod, .int .i64 x.seq, .slice A l.length k]) (t := 45) ?hr ?_; (case hr => first | (go_simp; done) | (go_simp; rfl)); intro g1 hg1 w1 hbx hbl; have HS : Aside0 (Sz w x (.slice A l.length k) g1 w1) := ⟨⟨hbx, hbl⟩⟩; clear hbx hbl hg1))
  have n_HS := Aside0.mk (HS.out.below (below_drew (Below.refl _ _)))
  clear HS
  have HS := n_HS
  clear n_HS
  have hS : Aside0 (∀ W : World, Sz w x (.slice A l.length k) g1 W → W.cell? ⟨g1, 3, none⟩ = some (.string v_pt) ∧ W.cell? ⟨g1, 4, none⟩ = some (.int .i64 v_pp)) := ⟨fun W h => by
    rw [← e_pt.out, ← e_pp.out]
    exact ⟨(blk_cell h.b3 3).trans rfl, (blk_cell h.b3 4).trans rfl⟩⟩
  go_region_held3 (fun w' => w'.cell? ⟨g1, 3, none⟩ = some (.string v_pt) ∧ w'.cell? ⟨g1, 4, none⟩ = some (.int .i64 v_pp))
    (exact hS.out _ HS.out)
    (first | (go_at_call 88; (with_reducible refine (h_pt.out _).mono ?_); rintro e w' ⟨rfl, hb⟩; have n_HS := Aside0.mk (HS.out.below hb); clear HS hb; have HS := n_HS; clear n_HS) | (go_at_call 89; (with_reducible refine (h_pp.out _).mono ?_); rintro e w' ⟨rfl, hb⟩; have n_HS := Aside0.mk (HS.out.below hb); clear HS hb; have HS := n_HS; clear n_HS))
  clear hS
  generalize t_pt ++ t_pp = P at *
  go_upto_region 2 with fail
  have n_HS := Aside0.mk (HS.out.below (below_drew (Below.refl _ _)))
  clear HS
  have HS := n_HS
  clear n_HS
  have hS : Aside0 (∀ W : World, Sz w x (.slice A l.length k) g1 W → W.cell? ⟨g1, 12, none⟩ = some (.string v_grp) ∧ W.cell? ⟨g1, 13, none⟩ = some (.string v_mem)) := ⟨fun W h => by
    rw [← e_grp.out, ← e_mem.out]
    exact ⟨(blk_cell h.b3 12).trans rfl, (blk_cell h.b3 13).trans rfl⟩⟩
  go_region_held3 (fun w' => w'.cell? ⟨g1, 12, none⟩ = some (.string v_grp) ∧ w'.cell? ⟨g1, 13, none⟩ = some (.string v_mem))
    (exact hS.out _ HS.out)
    (first | (go_at_call 88; (with_reducible refine (h_grp.out _).mono ?_); rintro e w' ⟨rfl, hb⟩; have n_HS := Aside0.mk (HS.out.below hb); clear HS hb; have HS := n_HS; clear n_HS) | (go_at_call 88; (with_reducible refine (h_mem.out _).mono ?_); rintro e w' ⟨rfl, hb⟩; have n_HS := Aside0.mk (HS.out.below hb); clear HS hb; have HS := n_HS; clear n_HS))
  clear hS
  generalize t_grp ++ t_mem = M at *
  go_upto_region 3 with fail
  have c1 := fun W : World => fun h : Sz w x (.slice A l.length k) g1 W => ((blk_cell h.b3 1).trans (show _ = some (Value.int .i64 x.kind) from rfl)).trans (congrArg some hkc.out)
  replace c1 := c1 _ HS.out
  have c2 := (fun W : World => fun h : Sz w x (.slice A l.length k) g1 W => ((blk_cell h.b3 2).trans (show _ = some (.int .i64 x.label) from rfl)).trans (congrArg some (congrArg (Value.int .i64) e_label.out)))
  replace c2 := c2 _ HS.out
  go_wp2_with fail
  refine (h_label.out _).mono ?_
  rintro e w6 ⟨rfl, hb⟩
  have n_HS := Aside0.mk (HS.out.below hb)
  clear HS hb
  have HS := n_HS
  clear n_HS
  go_wp2_with fail
  go_ret
  exact ⟨by rw [hres.out] <;> rfl, HS.out.bl⟩
set_option maxHeartbeats 16000000 in
set_option maxRecDepth 100000 in
theorem qbody_calls12 (x : Rq) (A : Option Addr) (k : Nat) (l : List S102) (w : World) (hp : Prs w A l.length k l) (hk : x.kind = 12) (hz : x.pt.size ≤ 1000 ∧ x.tt.size ≤ 1000 ∧ x.sn.size ≤ 1000 ∧ x.grp.size ≤ 1000 ∧ x.mem.size ≤ 1000) (hm : mayB x l = true) :
    Calls Try.prog 59 #[.agg #[.int .i64 x.id, .int .i64 x.kind, .int .i64 x.label, .string x.pt, .int .i64 x.pp, .string x.tt, .int .i64 x.tp, .string x.sn, .int .i64 x.sp, .int .i64 x.sa, .int .i64 x.ss, .bool x.sc, .string x.grp, .string x.mem, .int .i64 x.gen, .int .i64 x.off, .int .i64 x.most, .int .i64 x.prod, .int .i64 x.seq, .slice A l.length k]] w fun e w' => e = .returned (.string (bodyOf x l)) ∧ Below w.heap.size w w' := by
  have hup := (may_parts hm).2.2.1
  have hbody : Aside0 (bodyOf x l = bodyS x l (lets (formF x.kind))) := ⟨rfl⟩
  rw [hk] at hup hbody
  rw [show lets (formF 12) = [76, 84, 80] from rfl] at hup hbody
  simp only [List.all_cons, List.all_nil, Bool.and_true, Bool.and_eq_true] at hup
  obtain ⟨z0, z1, z2, z3, z4⟩ := hz
  have hkc : Aside0 (Value.int .i64 x.kind = .int .i64 12) := ⟨by rw [hk]⟩
  have hres : Aside0 (bodyOf x l = (chU x.label ++ (textS x.pt ++ chU x.pp))) := ⟨by
    rw [hbody.out]
    simp only [bodyS, List.foldl_cons, List.foldl_nil]
    simp only [let76, let80, let84]
    rw [chU_small x.label (ok_num (c := 76) hup.1), chU_small x.pp (ok_num (c := 80) hup.2.2)]
    simp only [← ByteArray.append_assoc, emp_app]⟩
  have h_pt := Aside0.mk (fun W : World => tx_calls x.pt W (by omega))
  have s_pt := textS_size x.pt
  have h_pp := Aside0.mk (fun W : World => ch_calls x.pp W)
  have s_pp : (chU x.pp).size ≤ 10 := chainS_size _
  have h_grp := Aside0.mk (fun W : World => tx_calls x.grp W (by omega))
  have s_grp := textS_size x.grp
  have h_mem := Aside0.mk (fun W : World => tx_calls x.mem W (by omega))
  have s_mem := textS_size x.mem
  have h_label := Aside0.mk (fun W : World => ch_calls x.label W)
  have s_label : (chU x.label).size ≤ 10 := chainS_size _
  generalize textS x.pt = t_pt at *
  generalize chU x.pp = t_pp at *
  generalize textS x.grp = t_grp at *
  generalize textS x.mem = t_mem at *
  generalize chU x.label = t_label at *
  obtain ⟨v_pt, e_pt⟩ : ∃ v, x.pt = v := ⟨_, rfl⟩
  rw [e_pt] at h_pt
  replace e_pt := Aside0.mk e_pt
  obtain ⟨v_pp, e_pp⟩ : ∃ v, x.pp = v := ⟨_, rfl⟩
  rw [e_pp] at h_pp
  replace e_pp := Aside0.mk e_pp
  obtain ⟨v_grp, e_grp⟩ : ∃ v, x.grp = v := ⟨_, rfl⟩
  rw [e_grp] at h_grp
  replace e_grp := Aside0.mk e_grp
  obtain ⟨v_mem, e_mem⟩ : ∃ v, x.mem = v := ⟨_, rfl⟩
  rw [e_mem] at h_mem
  replace e_mem := Aside0.mk e_mem
  obtain ⟨v_label, e_label⟩ : ∃ v, x.label = v := ⟨_, rfl⟩
  rw [e_label] at h_label
  replace e_label := Aside0.mk e_label
  have nP : ¬ 9223372036854775807 < t_pt.size + t_pp.size := by omega
  have nM : ¬ 9223372036854775807 < t_grp.size + t_mem.size := by omega
  have sP : (t_pt ++ t_pp).size ≤ 1020 := by rw [ByteArray.size_append]; omega
  have sM : (t_grp ++ t_mem).size ≤ 2020 := by rw [ByteArray.size_append]; omega
  clear hup hbody hm hk hp
  go_enter Try.func59, Try.ntmps59
  go_upto_region 1 with (first | ((with_reducible refine gate_dst (N := 1) rfl ?_); refine box_event rfl (N := 1) rfl (cs := #[.int .i64 x.id, .int .i64 x.kind, .int .i64 x.label, .string x.pt, .int .i64 x.pp, .string x.tt, .int .i64 x.tp, .string x.sn, .int .i64 x.sp, .int .i64 x.sa, .int .i64 x.ss, .bool x.sc, .string x.grp, .string x.mem, .int .i64 x.gen, .int .i64 x.off, .int .i64 x.most, .int .i64 x.prod, .int .i64 x.seq, .slice A l.length k]) (t := 45) ?hr ?_; (case hr => first | (go_simp; done) | (go_simp; rfl)); intro g1 hg1 w1 hbx hbl; have HS : Aside0 (Sz w x (.slice A l.length k) g1 w1) := ⟨⟨hbx, hbl⟩⟩; clear hbx hbl hg1))
  have n_HS := Aside0.mk (HS.out.below (below_drew (Below.refl _ _)))
  clear HS
  have HS := n_HS
  clear n_HS
  have hS : Aside0 (∀ W : World, Sz w x (.slice A l.length k) g1 W → W.cell? ⟨g1, 3, none⟩ = some (.string v_pt) ∧ W.cell? ⟨g1, 4, none⟩ = some (.int .i64 v_pp)) := ⟨fun W h => by
    rw [← e_pt.out, ← e_pp.out]
    exact ⟨(blk_cell h.b3 3).trans rfl, (blk_cell h.b3 4).trans rfl⟩⟩
  go_region_held3 (fun w' => w'.cell? ⟨g1, 3, none⟩ = some (.string v_pt) ∧ w'.cell? ⟨g1, 4, none⟩ = some (.int .i64 v_pp))
    (exact hS.out _ HS.out)
    (first | (go_at_call 88; (with_reducible refine (h_pt.out _).mono ?_); rintro e w' ⟨rfl, hb⟩; have n_HS := Aside0.mk (HS.out.below hb); clear HS hb; have HS := n_HS; clear n_HS) | (go_at_call 89; (with_reducible refine (h_pp.out _).mono ?_); rintro e w' ⟨rfl, hb⟩; have n_HS := Aside0.mk (HS.out.below hb); clear HS hb; have HS := n_HS; clear n_HS))
  clear hS
  generalize t_pt ++ t_pp = P at *
  go_upto_region 2 with fail
  have n_HS := Aside0.mk (HS.out.below (below_drew (Below.refl _ _)))
  clear HS
  have HS := n_HS
  clear n_HS
  have hS : Aside0 (∀ W : World, Sz w x (.slice A l.length k) g1 W → W.cell? ⟨g1, 12, none⟩ = some (.string v_grp) ∧ W.cell? ⟨g1, 13, none⟩ = some (.string v_mem)) := ⟨fun W h => by
    rw [← e_grp.out, ← e_mem.out]
    exact ⟨(blk_cell h.b3 12).trans rfl, (blk_cell h.b3 13).trans rfl⟩⟩
  go_region_held3 (fun w' => w'.cell? ⟨g1, 12, none⟩ = some (.string v_grp) ∧ w'.cell? ⟨g1, 13, none⟩ = some (.string v_mem))
    (exact hS.out _ HS.out)
    (first | (go_at_call 88; (with_reducible refine (h_grp.out _).mono ?_); rintro e w' ⟨rfl, hb⟩; have n_HS := Aside0.mk (HS.out.below hb); clear HS hb; have HS := n_HS; clear n_HS) | (go_at_call 88; (with_reducible refine (h_mem.out _).mono ?_); rintro e w' ⟨rfl, hb⟩; have n_HS := Aside0.mk (HS.out.below hb); clear HS hb; have HS := n_HS; clear n_HS))
  clear hS
  generalize t_grp ++ t_mem = M at *
  have n1 : ¬ 9223372036854775807 < t_label.size + P.size := by omega
  go_upto_region 3 with fail
  have c1 := fun W : World => fun h : Sz w x (.slice A l.length k) g1 W => ((blk_cell h.b3 1).trans (show _ = some (Value.int .i64 x.kind) from rfl)).trans (congrArg some hkc.out)
  replace c1 := c1 _ HS.out
  have c2 := (fun W : World => fun h : Sz w x (.slice A l.length k) g1 W => ((blk_cell h.b3 2).trans (show _ = some (.int .i64 x.label) from rfl)).trans (congrArg some (congrArg (Value.int .i64) e_label.out)))
  replace c2 := c2 _ HS.out
  go_wp2_with fail
  refine (h_label.out _).mono ?_
  rintro e w6 ⟨rfl, hb⟩
  have n_HS := Aside0.mk (HS.out.below hb)
  clear HS hb
  have HS := n_HS
  clear n_HS
  go_wp2_with fail
  go_ret
  exact ⟨by rw [hres.out] <;> rfl, HS.out.bl⟩
end Go.Proofs.Ytlgihjhlkpmpnaa.Wire
