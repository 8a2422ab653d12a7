import Derived.Test.YtlgihjhlkpmpnaaZWireY
namespace Go.Proofs.Ytlgihjhlkpmpnaa.Wire
set_option linter.unusedVariables false
set_option linter.unusedSimpArgs false
open Go.RowKit Go.Proofs.YtlgihjhlkpmpnaaW.PrintWords Go.Proofs.YtlgihjhlkpmpnaaW.PrintLast Go.Proofs.YtlgihjhlkpmpnaaW.PrintMore Go.Proofs.Ytlgihjhlkpmpnaa.Hand Go.Proofs.Ytlgihjhlkpmpnaa.PWire Go.Proofs.Ytlgihjhlkpmpnaa.PureNums

structure Sb2 (w : World) (x : Rq) (xu : Value) (g1 gp : Nat) (pc : Array Value) (W : World) : Prop where
  m : Sz w x xu g1 W
  bp : W.heap[gp]? = some (.cells pc 102 (0, 0))
theorem Sb2.below {w : World} {x : Rq} {xu : Value} {g1 gp : Nat} {pc : Array Value} {W W' : World} (h : Sb2 w x xu g1 gp pc W) (hb : Below W.heap.size W W') : Sb2 w x xu g1 gp pc W' := ⟨h.m.below hb, blk_below h.bp hb⟩
set_option maxHeartbeats 16000000 in
set_option maxRecDepth 100000 in
theorem qbody_calls1 (x : Rq) (A : Option Addr) (k : Nat) (l : List S102) (w : World) (hp : Prs w A l.length k l) (hk : x.kind = 1) (hz : x.pt.size ≤ 1000 ∧ x.tt.size ≤ 1000 ∧ x.sn.size ≤ 1000 ∧ x.grp.size ≤ 1000 ∧ x.mem.size ≤ 1000) (hm : mayB x l = true) :
    Calls Try.prog 59 #[.agg #[.int .i64 x.id, .int .i64 x.kind, .int .i64 x.label, .string x.pt, .int .i64 x.pp, .string x.tt, .int .i64 x.tp, .string x.sn, .int .i64 x.sp, .int .i64 x.sa, .int .i64 x.ss, .bool x.sc, .string x.grp, .string x.mem, .int .i64 x.gen, .int .i64 x.off, .int .i64 x.most, .int .i64 x.prod, .int .i64 x.seq, .slice A l.length k]] w fun e w' => e = .returned (.string (bodyOf x l)) ∧ Below w.heap.size w w' := by
  have hup := (may_parts hm).2.2.1
  have hbody : Aside0 (bodyOf x l = bodyS x l (lets (formF x.kind))) := ⟨rfl⟩
  rw [hk] at hup hbody
  rw [show lets (formF 1) = [76, 84, 80, 82, 83, 66] from rfl] at hup hbody
  simp only [List.all_cons, List.all_nil, Bool.and_true, Bool.and_eq_true] at hup
  obtain ⟨z0, z1, z2, z3, z4⟩ := hz
  have hkc : Aside0 (Value.int .i64 x.kind = .int .i64 1) := ⟨by rw [hk]⟩
  have h_pt := Aside0.mk (fun W : World => tx_calls x.pt W (by omega))
  have s_pt := textS_size x.pt
  have h_pp := Aside0.mk (fun W : World => ch_calls x.pp W)
  have s_pp : (chU x.pp).size ≤ 10 := chainS_size _
  have h_grp := Aside0.mk (fun W : World => tx_calls x.grp W (by omega))
  have s_grp := textS_size x.grp
  have h_mem := Aside0.mk (fun W : World => tx_calls x.mem W (by omega))
  have s_mem := textS_size x.mem
  have h_label := Aside0.mk (fun W : World => ch_calls x.label W)
  have s_label : (chU x.label).size ≤ 10 := chainS_size _
  have h_prod := Aside0.mk (fun W : World => ch_calls x.prod W)
  have s_prod : (chU x.prod).size ≤ 10 := chainS_size _
  have h_seq := Aside0.mk (fun W : World => ch_calls x.seq W)
  have s_seq : (chU x.seq).size ≤ 10 := chainS_size _
  obtain ⟨t_pt, g_pt⟩ : ∃ t, textS x.pt = t := ⟨_, rfl⟩
  rw [g_pt] at h_pt s_pt
  replace g_pt := Aside0.mk g_pt
  obtain ⟨t_pp, g_pp⟩ : ∃ t, chU x.pp = t := ⟨_, rfl⟩
  rw [g_pp] at h_pp s_pp
  replace g_pp := Aside0.mk g_pp
  obtain ⟨t_grp, g_grp⟩ : ∃ t, textS x.grp = t := ⟨_, rfl⟩
  rw [g_grp] at h_grp s_grp
  replace g_grp := Aside0.mk g_grp
  obtain ⟨t_mem, g_mem⟩ : ∃ t, textS x.mem = t := ⟨_, rfl⟩
  rw [g_mem] at h_mem s_mem
  replace g_mem := Aside0.mk g_mem
  obtain ⟨t_label, g_label⟩ : ∃ t, chU x.label = t := ⟨_, rfl⟩
  rw [g_label] at h_label s_label
  replace g_label := Aside0.mk g_label
  obtain ⟨t_prod, g_prod⟩ : ∃ t, chU x.prod = t := ⟨_, rfl⟩
  rw [g_prod] at h_prod s_prod
  replace g_prod := Aside0.mk g_prod
  obtain ⟨t_seq, g_seq⟩ : ∃ t, chU x.seq = t := ⟨_, rfl⟩
  rw [g_seq] at h_seq s_seq
  replace g_seq := Aside0.mk g_seq
  obtain ⟨v_pt, e_pt⟩ : ∃ v, x.pt = v := ⟨_, rfl⟩
  rw [e_pt] at h_pt
  replace e_pt := Aside0.mk e_pt
  obtain ⟨v_pp, e_pp⟩ : ∃ v, x.pp = v := ⟨_, rfl⟩
  rw [e_pp] at h_pp
  replace e_pp := Aside0.mk e_pp
  obtain ⟨v_grp, e_grp⟩ : ∃ v, x.grp = v := ⟨_, rfl⟩
  rw [e_grp] at h_grp
  replace e_grp := Aside0.mk e_grp
  obtain ⟨v_mem, e_mem⟩ : ∃ v, x.mem = v := ⟨_, rfl⟩
  rw [e_mem] at h_mem
  replace e_mem := Aside0.mk e_mem
  obtain ⟨v_label, e_label⟩ : ∃ v, x.label = v := ⟨_, rfl⟩
  rw [e_label] at h_label
  replace e_label := Aside0.mk e_label
  obtain ⟨v_prod, e_prod⟩ : ∃ v, x.prod = v := ⟨_, rfl⟩
  rw [e_prod] at h_prod
  replace e_prod := Aside0.mk e_prod
  obtain ⟨v_seq, e_seq⟩ : ∃ v, x.seq = v := ⟨_, rfl⟩
  rw [e_seq] at h_seq
  replace e_seq := Aside0.mk e_seq
  have nP : ¬ 9223372036854775807 < t_pt.size + t_pp.size := by omega
  have nM : ¬ 9223372036854775807 < t_grp.size + t_mem.size := by omega
  have sP : (t_pt ++ t_pp).size ≤ 1020 := by rw [ByteArray.size_append]; omega
  have sM : (t_grp ++ t_mem).size ≤ 2020 := by rw [ByteArray.size_append]; omega
  have hpb := ok_pairs hup.2.2.2.2.2
  have hlen : l.length ≤ 16 := by
    unfold pairsB at hpb
    simp only [Bool.and_eq_true, decide_eq_true_eq] at hpb
    exact hpb.1
  have lall : Aside0 (l.all pairB = true) := ⟨by
    unfold pairsB at hpb
    simp only [Bool.and_eq_true, decide_eq_true_eq] at hpb
    exact hpb.2⟩
  have hlu : upToB (l.length : Int) = true := by
    unfold upToB
    rw [decide_eq_true (by omega), decide_eq_true (by omega)]
    rfl
  have hres : Aside0 (bodyOf x l = ((((t_label ++ (t_pt ++ t_pp)) ++ t_prod) ++ t_seq) ++ chU (l.length : Int)) ++ pairsS l) := ⟨by
    rw [← g_label.out, ← g_pt.out, ← g_pp.out, ← g_prod.out, ← g_seq.out]
    rw [hbody.out]
    simp only [bodyS, List.foldl_cons, List.foldl_nil]
    simp only [let76, let84, let80, let82, let83, let66]
    rw [chU_small x.label (ok_num (c := 76) hup.1), chU_small x.pp (ok_num (c := 80) hup.2.2.1), chU_small x.prod (ok_num (c := 82) hup.2.2.2.1), chU_small x.seq (ok_num (c := 83) hup.2.2.2.2.1), chU_small _ hlu]
    simp only [← ByteArray.append_assoc, emp_app]⟩
  have h_len := Aside0.mk (fun W : World => ch_calls (l.length : Int) W)
  have s_len : (chU (l.length : Int)).size ≤ 10 := chainS_size _
  generalize chU (l.length : Int) = t_len at *
  have HP := Aside0.mk hp
  have hmx := Kd.C_max hp.c
  clear hpb hlu g_label g_pt g_pp g_prod g_seq g_grp g_mem
  go_enter Try.func59, Try.ntmps59
  go_upto_region 1 with (first | ((with_reducible refine gate_dst (N := 1) rfl ?_); refine box_event rfl (N := 1) rfl (cs := #[.int .i64 x.id, .int .i64 x.kind, .int .i64 x.label, .string x.pt, .int .i64 x.pp, .string x.tt, .int .i64 x.tp, .string x.sn, .int .i64 x.sp, .int .i64 x.sa, .int .i64 x.ss, .bool x.sc, .string x.grp, .string x.mem, .int .i64 x.gen, .int .i64 x.off, .int .i64 x.most, .int .i64 x.prod, .int .i64 x.seq, .slice A l.length k]) (t := 45) ?hr ?_; (case hr => first | (go_simp; done) | (go_simp; rfl)); intro g1 hg1 w1 hbx hbl; have HS : Aside0 (Sz w x (.slice A l.length k) g1 w1) := ⟨⟨hbx, hbl⟩⟩; clear hbx hbl hg1))
  have n_HS := Aside0.mk (HS.out.below (below_drew (Below.refl _ _)))
  clear HS
  have HS := n_HS
  clear n_HS
  have hS : Aside0 (∀ W : World, Sz w x (.slice A l.length k) g1 W → W.cell? ⟨g1, 3, none⟩ = some (.string v_pt) ∧ W.cell? ⟨g1, 4, none⟩ = some (.int .i64 v_pp)) := ⟨fun W h => by
    rw [← e_pt.out, ← e_pp.out]
    exact ⟨(blk_cell h.b3 3).trans rfl, (blk_cell h.b3 4).trans rfl⟩⟩
  go_region_held3 (fun w' => w'.cell? ⟨g1, 3, none⟩ = some (.string v_pt) ∧ w'.cell? ⟨g1, 4, none⟩ = some (.int .i64 v_pp))
    (exact hS.out _ HS.out)
    (first | (go_at_call 88; (with_reducible refine (h_pt.out _).mono ?_); rintro e w' ⟨rfl, hb⟩; have n_HS := Aside0.mk (HS.out.below hb); clear HS hb; have HS := n_HS; clear n_HS) | (go_at_call 89; (with_reducible refine (h_pp.out _).mono ?_); rintro e w' ⟨rfl, hb⟩; have n_HS := Aside0.mk (HS.out.below hb); clear HS hb; have HS := n_HS; clear n_HS))
  clear hS
  generalize t_pt ++ t_pp = P at *
  go_upto_region 2 with fail
  have n_HS := Aside0.mk (HS.out.below (below_drew (Below.refl _ _)))
  clear HS
  have HS := n_HS
  clear n_HS
  have hS : Aside0 (∀ W : World, Sz w x (.slice A l.length k) g1 W → W.cell? ⟨g1, 12, none⟩ = some (.string v_grp) ∧ W.cell? ⟨g1, 13, none⟩ = some (.string v_mem)) := ⟨fun W h => by
    rw [← e_grp.out, ← e_mem.out]
    exact ⟨(blk_cell h.b3 12).trans rfl, (blk_cell h.b3 13).trans rfl⟩⟩
  go_region_held3 (fun w' => w'.cell? ⟨g1, 12, none⟩ = some (.string v_grp) ∧ w'.cell? ⟨g1, 13, none⟩ = some (.string v_mem))
    (exact hS.out _ HS.out)
    (first | (go_at_call 88; (with_reducible refine (h_grp.out _).mono ?_); rintro e w' ⟨rfl, hb⟩; have n_HS := Aside0.mk (HS.out.below hb); clear HS hb; have HS := n_HS; clear n_HS) | (go_at_call 88; (with_reducible refine (h_mem.out _).mono ?_); rintro e w' ⟨rfl, hb⟩; have n_HS := Aside0.mk (HS.out.below hb); clear HS hb; have HS := n_HS; clear n_HS))
  clear hS
  generalize t_grp ++ t_mem = M at *
  have n1 : ¬ 9223372036854775807 < t_label.size + P.size := by omega
  have n2 : ¬ 9223372036854775807 < t_label.size + P.size + t_prod.size := by omega
  have n3 : ¬ 9223372036854775807 < t_label.size + P.size + t_prod.size + t_seq.size := by omega
  have n4 : ¬ 9223372036854775807 < t_label.size + P.size + t_prod.size + t_seq.size + t_len.size := by omega
  go_upto_region 3 with fail
  have c1 := fun W : World => fun h : Sz w x (.slice A l.length k) g1 W => ((blk_cell h.b3 1).trans (show _ = some (Value.int .i64 x.kind) from rfl)).trans (congrArg some hkc.out)
  replace c1 := c1 _ HS.out
  go_upto_region 5 with fail
  have n_HS := Aside0.mk (HS.out.below (below_drew (Below.refl _ _)))
  clear HS
  have HS := n_HS
  clear n_HS
  have hS : Aside0 (∀ W : World, Sz w x (.slice A l.length k) g1 W → W.cell? ⟨g1, 2, none⟩ = some (.int .i64 v_label) ∧ W.cell? ⟨g1, 17, none⟩ = some (.int .i64 v_prod) ∧ W.cell? ⟨g1, 18, none⟩ = some (.int .i64 v_seq) ∧ W.cell? ⟨g1, 19, none⟩ = some (.slice A l.length k)) := ⟨fun W h => by
    rw [← e_label.out, ← e_prod.out, ← e_seq.out]
    exact ⟨(blk_cell h.b3 2).trans rfl, (blk_cell h.b3 17).trans rfl, (blk_cell h.b3 18).trans rfl, (blk_cell h.b3 19).trans rfl⟩⟩
  go_region_held3 (fun w' => w'.cell? ⟨g1, 2, none⟩ = some (.int .i64 v_label) ∧ w'.cell? ⟨g1, 17, none⟩ = some (.int .i64 v_prod) ∧ w'.cell? ⟨g1, 18, none⟩ = some (.int .i64 v_seq) ∧ w'.cell? ⟨g1, 19, none⟩ = some (.slice A l.length k))
    (exact hS.out _ HS.out)
    (first | (go_at_call 89; (with_reducible refine (h_label.out _).mono ?_); rintro e w' ⟨rfl, hb⟩; have n_HS := Aside0.mk (HS.out.below hb); clear HS hb; have HS := n_HS; clear n_HS) | (go_at_call 89; (with_reducible refine (h_prod.out _).mono ?_); rintro e w' ⟨rfl, hb⟩; have n_HS := Aside0.mk (HS.out.below hb); clear HS hb; have HS := n_HS; clear n_HS) | (go_at_call 89; (with_reducible refine (h_seq.out _).mono ?_); rintro e w' ⟨rfl, hb⟩; have n_HS := Aside0.mk (HS.out.below hb); clear HS hb; have HS := n_HS; clear n_HS) | (go_at_call 89; (with_reducible refine (h_len.out _).mono ?_); rintro e w' ⟨rfl, hb⟩; have n_HS := Aside0.mk (HS.out.below hb); clear HS hb; have HS := n_HS; clear n_HS))
  clear hS
  have so1 : (t_label ++ P ++ t_prod ++ t_seq ++ t_len).size ≤ 2000 := by simp only [ByteArray.size_append]; omega
  clear n1 n2 n3 n4 nP nM
  generalize t_label ++ P ++ t_prod ++ t_seq ++ t_len = o1 at *
  have c19 := fun W : World => fun h : Sz w x (.slice A l.length k) g1 W => (blk_cell h.b3 19).trans (show _ = some (Value.slice A l.length k) from rfl)
  replace c19 := c19 _ HS.out
  go_wp2_with fail
  clear c19
  go_loopw [5, 49] (fun ov iv wr => ∃ (i : Nat) (o2 : ByteArray), ov = .string o2 ∧ iv = .int .i64 i ∧ i ≤ l.length ∧ o2.size ≤ 60000 + 540 * i ∧ Aside0 (o2 = o1 ++ pairsS (l.take i)) ∧ Aside0 (Sz w x (.slice A l.length k) g1 wr)) (fun _ iv _ => l.length - (intOf iv).toNat)
  case atStart => exact ⟨0, _, rfl, rfl, Nat.zero_le _, by omega, ⟨by simp [pairsS]; exact ByteArray.append_empty.symm⟩, HS⟩
  case round =>
    clear HS
    obtain ⟨i, o2, rfl, rfl, hil, ho2, HO, HS⟩ := hrel
    by_cases hli : i < l.length
    · obtain ⟨ad, hA, q0, q1, q2⟩ := at_T102 (HP.out.below HS.out.bl).c (i : Int) (by omega) (by omega)
      subst hA
      rw [rd_at l i hli] at q0 q1 q2
      simp only [Int.toNat_natCast] at q0 q1 q2
      have hpb : pairB l[i] = true := List.all_eq_true.mp lall.out _ (List.getElem_mem hli)
      have hps := pairS_size hpb
      have HT := Aside0.mk (pairsS_take l i hli)
      have HPS : Aside0 (pairS l[i] = (flagS l[i].f2 ++ textS l[i].f0) ++ textS l[i].f1) := ⟨rfl⟩
      unfold pairB at hpb
      simp only [Bool.and_eq_true, decide_eq_true_eq] at hpb
      obtain ⟨hb0, hb1⟩ := hpb
      generalize hpi : l[i] = pr at *
      clear hpi
      have hfl := Aside0.mk (fun W : World => fl_calls pr.f2 W)
      have htk := Aside0.mk (fun W : World => tx_calls pr.f0 W (by omega))
      have htv := Aside0.mk (fun W : World => tx_calls pr.f1 W (by omega))
      have z1 : (flagS pr.f2).size ≤ 10 := chainS_size _
      have z2 := textS_size pr.f0
      have z3 := textS_size pr.f1
      generalize flagS pr.f2 = tf at *
      generalize textS pr.f0 = tk at *
      generalize textS pr.f1 = tv at *
      obtain ⟨key, hkey⟩ : ∃ key, pr.f0 = key := ⟨_, rfl⟩
      obtain ⟨val, hval⟩ : ∃ val, pr.f1 = val := ⟨_, rfl⟩
      obtain ⟨gone, hgone⟩ : ∃ gone, pr.f2 = gone := ⟨_, rfl⟩
      rw [hkey] at q0 htk hb0 z2
      rw [hval] at q1 htv hb1 z3
      rw [hgone] at q2 hfl
      clear hkey hval hgone
      have n1 : ¬ 9223372036854775807 < o2.size + tf.size := by omega
      have n2 : ¬ 9223372036854775807 < o2.size + tf.size + tk.size := by omega
      have n3 : ¬ 9223372036854775807 < o2.size + tf.size + tk.size + tv.size := by omega
      have hz2 : (o2 ++ tf ++ tk ++ tv).size ≤ 60000 + 540 * (i + 1) := by
        rw [HPS.out] at hps
        simp only [ByteArray.size_append] at hps ⊢
        omega
      clear z1 z2 z3 hb0 hb1
      go_upto_region 9 with fail
      have hal := below_alloc (Below.refl wr.heap.size wr) (.cells #[.string key, .string val, .bool gone] 102)
      have HF : Aside0 (Sb2 w x (.slice (some ad) l.length k) g1 wr.heap.size #[.string key, .string val, .bool gone] (wr.alloc (.cells #[.string key, .string val, .bool gone] 102)).drew) := ⟨⟨HS.out.below (below_drew hal), blk_new wr _⟩⟩
      clear hal HS q0 q1 q2
      generalize wr.alloc (.cells #[.string key, .string val, .bool gone] 102) = W1 at *
      generalize wr.heap.size = gp at *
      have hS : ∀ W : World, Sb2 w x (.slice (some ad) l.length k) g1 gp #[.string key, .string val, .bool gone] W → W.cell? ⟨gp, 0, none⟩ = some (.string key) ∧ W.cell? ⟨gp, 1, none⟩ = some (.string val) ∧ W.cell? ⟨gp, 2, none⟩ = some (.bool gone) := fun W h => ⟨(blk_cell h.bp 0).trans rfl, (blk_cell h.bp 1).trans rfl, (blk_cell h.bp 2).trans rfl⟩
      replace hS := Aside0.mk hS
      go_region_held3 (fun w' => w'.cell? ⟨gp, 0, none⟩ = some (.string key) ∧ w'.cell? ⟨gp, 1, none⟩ = some (.string val) ∧ w'.cell? ⟨gp, 2, none⟩ = some (.bool gone))
        (exact hS.out _ HF.out)
        (first | (go_at_call 90; refine (hfl.out _).mono ?_; rintro e w' ⟨rfl, hb⟩; have n0_ := Aside0.mk (HF.out.below hb); clear HF hb; have HF := n0_; clear n0_) | (go_at_call 88; (with_reducible refine (htk.out _).mono ?_); rintro e w' ⟨rfl, hb⟩; have n0_ := Aside0.mk (HF.out.below hb); clear HF hb; have HF := n0_; clear n0_) | (go_at_call 88; (with_reducible refine (htv.out _).mono ?_); rintro e w' ⟨rfl, hb⟩; have n0_ := Aside0.mk (HF.out.below hb); clear HF hb; have HF := n0_; clear n0_))
      clear n1 n2 n3 hS hfl htk htv
      have HO2 : Aside0 (o2 ++ tf ++ tk ++ tv = o1 ++ pairsS (l.take (i + 1))) := ⟨by rw [HO.out, HT.out, HPS.out]; simp only [ByteArray.append_assoc]⟩
      have HS := Aside0.mk HF.out.m
      clear HF HO hps HT HPS ho2
      generalize o2 ++ tf ++ tk ++ tv = o3 at *
      go_wp2_with fail
      go_roundw
      case rel => exact ⟨i + 1, _, rfl, by go_num, by omega, hz2, HO2, HS⟩
      case measure => simp [intOf]; omega
    · have hie : l.take i = l := List.take_of_length_le (by omega)
      rw [hie] at HO
      have hF : Aside0 (bodyOf x l = o2) := ⟨by rw [hres.out, HO.out]⟩
      clear hres HO
      go_wp2_with fail
      go_ret
      exact ⟨by rw [hF.out] <;> rfl, HS.out.bl⟩
end Go.Proofs.Ytlgihjhlkpmpnaa.Wire
