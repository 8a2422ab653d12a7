import Derived.Test.YtlgihjhlkpmpnaaQWireO
namespace Go.Proofs.Ytlgihjhlkpmpnaa.Wire
set_option linter.unusedVariables false
set_option linter.unusedSimpArgs false
open Go.RowKit Go.Proofs.YtlgihjhlkpmpnaaW.PrintWords Go.Proofs.YtlgihjhlkpmpnaaW.PrintLast Go.Proofs.YtlgihjhlkpmpnaaW.PrintMore Go.Proofs.Ytlgihjhlkpmpnaa.Hand Go.Proofs.Ytlgihjhlkpmpnaa.PWire Go.Proofs.Ytlgihjhlkpmpnaa.PureNums
noncomputable def decQst (s : ByteArray) : Rst := refF (rq0 (bt s 2) (bt s 3 * 256 + bt s 4)) (s.extract 5 (peekI s).toNat, false)
/-- what the reference's Decode tells -/
noncomputable def decQ (s : ByteArray) : DecR :=
  if peekI s > 1000 then ⟨38, 0, rq0 0 0, []⟩ else if peekI s = 0 ∨ (s.size : Int) < peekI s then ⟨3, 0, rq0 0 0, []⟩ else if peekI s < 5 then ⟨38, 0, rq0 0 0, []⟩
  else if (decQst s).r.2 = true then ⟨38, 0, rq0 0 0, []⟩ else if (decQst s).r.1.toList ≠ [] then ⟨38, 0, rq0 0 0, []⟩ else if mayB (decQst s).y (decQst s).ps = true then ⟨0, peekI s, (decQst s).y, (decQst s).ps⟩ else ⟨38, 0, rq0 0 0, []⟩
def gotV (d : DecR) (u : Value) : Value := .agg #[.int .i64 d.y.id, .int .i64 d.y.kind, .int .i64 d.y.label, .string d.y.pt, .int .i64 d.y.pp, .string d.y.tt, .int .i64 d.y.tp, .string d.y.sn, .int .i64 d.y.sp, .int .i64 d.y.sa, .int .i64 d.y.ss, .bool d.y.sc, .string d.y.grp, .string d.y.mem, .int .i64 d.y.gen, .int .i64 d.y.off, .int .i64 d.y.most, .int .i64 d.y.prod, .int .i64 d.y.seq, u, .int .i64 d.n, .int .i64 d.err]
theorem qpeek_some (s : ByteArray) : weighlockref34_Peek.f s = some (peekI s) := by
  unfold weighlockref34_Peek.f peekI
  by_cases h : s.size < 2
  · rw [if_pos (by omega), if_pos h]
  · have h0 := bt_range s 0
    have h1 := bt_range s 1
    rw [if_neg (by omega), if_neg h, if_pos (by omega), if_pos (by omega), w64 (bt s 0) (by omega) (by omega), w64 (bt s 1) (by omega) (by omega), w64 (bt s 0 * 256) (by omega) (by omega), w64 (bt s 0 * 256 + bt s 1) (by omega) (by omega), w64 _ (by omega) (by omega)]
    rfl
theorem qpeek_calls (s : ByteArray) (W : World) : Calls Try.prog 27 #[.string s] W fun e w' => e = .returned (.int .i64 (peekI s)) ∧ Below W.heap.size W w' :=
  (weighlockref34_Peek.calls s (peekI s) W (qpeek_some s)).mono fun e w' h => ⟨h.1, by
    first
      | (obtain ⟨nd, e⟩ := h.2.out
         rw [e]
         exact pw_below_drewN (Below.refl _ _) nd)
      | exact h.2⟩
theorem qPairN_len : ∀ (n : Nat) (l : List S102) (r : Rd), (qPairN n l r).1.length ≤ l.length + n
  | 0, _, _ => Nat.le_refl _
  | n + 1, l, r => by
    rw [qPairN]
    split
    · simp
    · have := qPairN_len n (l ++ [⟨(qText (qNum r).2).1, (qText (qText (qNum r).2).2).1, (qNum r).1 == 1⟩]) (qText (qText (qNum r).2).2).2
      simp at this ⊢
      omega
theorem qPairs_len (r : Rd) : (qPairs r).1.length ≤ 17 := by
  unfold qPairs
  split
  · simp
  · have := qPairN_len (qNum r).1.toNat [] (qNum r).2
    simp at this
    omega
theorem ite_ps {c : Prop} [Decidable c] {a b : Rst} (h1 : a.ps.length ≤ 17) (h2 : b.ps.length ≤ 17) : (if c then a else b).ps.length ≤ 17 := by
  split
  · exact h1
  · exact h2
theorem refF_ps (x : Rq) (r : Rd) : (refF x r).ps.length ≤ 17 := by
  unfold refF
  repeat' refine ite_ps ?_ ?_
  all_goals first | exact qPairs_len _ | exact Nat.zero_le _
set_option maxHeartbeats 32000000 in
set_option maxRecDepth 100000 in
theorem qdecode_calls (s : ByteArray) (w : World) (hz : s.size ≤ 100000000) :
    Calls Try.prog 25 #[.string s] w fun e w' => ∃ u, e = .returned (gotV (decQ s) u) ∧ Kd.R k102 102 w' w.heap.size (fun _ => True) u (decQ s).ps ∧ Below w.heap.size w w' := by
  have hp0 : 0 ≤ peekI s ∧ peekI s ≤ 65537 := by
    have := be2_range s 0
    unfold peekI
    split <;> omega
  have hpk := Aside0.mk (fun W : World => qpeek_calls s W)
  have hdef : Aside0 (decQ s = (if peekI s > 1000 then ⟨38, 0, rq0 0 0, []⟩ else if peekI s = 0 ∨ (s.size : Int) < peekI s then ⟨3, 0, rq0 0 0, []⟩ else if peekI s < 5 then ⟨38, 0, rq0 0 0, []⟩
  else if (decQst s).r.2 = true then ⟨38, 0, rq0 0 0, []⟩ else if (decQst s).r.1.toList ≠ [] then ⟨38, 0, rq0 0 0, []⟩ else if mayB (decQst s).y (decQst s).ps = true then ⟨0, peekI s, (decQst s).y, (decQst s).ps⟩ else ⟨38, 0, rq0 0 0, []⟩)) := ⟨rfl⟩
  have hst : Aside0 (decQst s = refF (rq0 (bt s 2) (bt s 3 * 256 + bt s 4)) (s.extract 5 (peekI s).toNat, false)) := ⟨rfl⟩
  generalize hsz : peekI s = sz at *
  clear hsz
  by_cases h1 : sz > 1000
  case pos =>
    rw [if_pos h1] at hdef
    have h1' : (1000 : Int) < sz := h1
    clear h1 hst
    go_enter Try.func25, Try.ntmps25
    go_wp2_with (first
      | ((with_reducible refine gate_dst (N := 2) rfl ?_); refine box_event rfl (N := 2) rfl (cs := #[.int .i64 0, .int .i64 0, .int .i64 0, .string ⟨#[]⟩, .int .i64 0, .string ⟨#[]⟩, .int .i64 0, .string ⟨#[]⟩, .int .i64 0, .int .i64 0, .int .i64 0, .bool false, .string ⟨#[]⟩, .string ⟨#[]⟩, .int .i64 0, .int .i64 0, .int .i64 0, .int .i64 0, .int .i64 0, .slice none 0 0, .int .i64 0, .int .i64 0]) (t := 54) ?hr ?_; (case hr => first | (go_simp; done) | (go_simp; rfl)); intro g2 hg2 w1 hbx hbl; have X := Aside0.mk hbx; have L := Aside0.mk hbl; have G := Aside0.mk (Nat.le_of_eq hg2.symm); clear hbx hbl hg2))
    refine (hpk.out _).mono ?_
    rintro e w2 ⟨rfl, hb⟩
    have n0_ := Aside0.mk (blk_below X.out hb)
    have n1_ := Aside0.mk (below_step L.out hb)
    clear X L hb
    have X := n0_
    have L := n1_
    clear n0_ n1_
    go_wp2_with (first
      | ((with_reducible refine gate_store (t := 54) (p := 2) rfl ?_); refine store_ev rfl rfl rfl (cells := #[.int .i64 0, .int .i64 0, .int .i64 0, .string ⟨#[]⟩, .int .i64 0, .string ⟨#[]⟩, .int .i64 0, .string ⟨#[]⟩, .int .i64 0, .int .i64 0, .int .i64 0, .bool false, .string ⟨#[]⟩, .string ⟨#[]⟩, .int .i64 0, .int .i64 0, .int .i64 0, .int .i64 0, .int .i64 0, .slice none 0 0, .int .i64 0, .int .i64 38]) rfl rfl X.out (by kernel_rfl) rfl (by kernel_rfl) ?_; intro w9 hbx hgr; have X9 := Aside0.mk hbx; have L9 := Aside0.mk (below_put L.out G.out hgr L.out.size); clear hbx hgr X L))
    refine bodyPost_ret (results_cell_row rfl _ _ g2 54 #[.int .i64 0, .int .i64 0, .int .i64 0, .string ⟨#[]⟩, .int .i64 0, .string ⟨#[]⟩, .int .i64 0, .string ⟨#[]⟩, .int .i64 0, .int .i64 0, .int .i64 0, .bool false, .string ⟨#[]⟩, .string ⟨#[]⟩, .int .i64 0, .int .i64 0, .int .i64 0, .int .i64 0, .int .i64 0, .slice none 0 0, .int .i64 0, .int .i64 38] (0, 0) _ rfl X9.out Try.underlying54 rfl (by kernel_rfl)) rfl ?_
    rw [hdef.out]
    exact ⟨_, rfl, Kd.R_nil _ _ _ _ _, L9.out⟩

  rw [if_neg h1] at hdef
  have h1' : ¬ (1000 : Int) < sz := h1
  have hund : ∀ b, some undef = some (Value.bool b) → False := fun b h => by simp [undef] at h
  by_cases h2 : sz = 0 ∨ (s.size : Int) < sz
  case pos =>
    rw [if_pos h2] at hdef
    clear hst h1
    by_cases h0 : sz = 0
    case pos =>
      have h3 : (sz == 0) = true := beq_iff_eq.mpr h0
      clear h0 h2
      go_enter Try.func25, Try.ntmps25
      go_wp2_with (first
        | ((with_reducible refine gate_dst (N := 2) rfl ?_); refine box_event rfl (N := 2) rfl (cs := #[.int .i64 0, .int .i64 0, .int .i64 0, .string ⟨#[]⟩, .int .i64 0, .string ⟨#[]⟩, .int .i64 0, .string ⟨#[]⟩, .int .i64 0, .int .i64 0, .int .i64 0, .bool false, .string ⟨#[]⟩, .string ⟨#[]⟩, .int .i64 0, .int .i64 0, .int .i64 0, .int .i64 0, .int .i64 0, .slice none 0 0, .int .i64 0, .int .i64 0]) (t := 54) ?hr ?_; (case hr => first | (go_simp; done) | (go_simp; rfl)); intro g2 hg2 w1 hbx hbl; have X := Aside0.mk hbx; have L := Aside0.mk hbl; have G := Aside0.mk (Nat.le_of_eq hg2.symm); clear hbx hbl hg2))
      refine (hpk.out _).mono ?_
      rintro e w2 ⟨rfl, hb⟩
      have n0_ := Aside0.mk (blk_below X.out hb)
      have n1_ := Aside0.mk (below_step L.out hb)
      clear X L hb
      have X := n0_
      have L := n1_
      clear n0_ n1_
      go_wp2_with (first
        | ((with_reducible refine gate_store (t := 54) (p := 2) rfl ?_); refine store_ev rfl rfl rfl (cells := #[.int .i64 0, .int .i64 0, .int .i64 0, .string ⟨#[]⟩, .int .i64 0, .string ⟨#[]⟩, .int .i64 0, .string ⟨#[]⟩, .int .i64 0, .int .i64 0, .int .i64 0, .bool false, .string ⟨#[]⟩, .string ⟨#[]⟩, .int .i64 0, .int .i64 0, .int .i64 0, .int .i64 0, .int .i64 0, .slice none 0 0, .int .i64 0, .int .i64 3]) rfl rfl X.out (by kernel_rfl) rfl (by kernel_rfl) ?_; intro w9 hbx hgr; have X9 := Aside0.mk hbx; have L9 := Aside0.mk (below_put L.out G.out hgr L.out.size); clear hbx hgr X L))
      refine bodyPost_ret (results_cell_row rfl _ _ g2 54 #[.int .i64 0, .int .i64 0, .int .i64 0, .string ⟨#[]⟩, .int .i64 0, .string ⟨#[]⟩, .int .i64 0, .string ⟨#[]⟩, .int .i64 0, .int .i64 0, .int .i64 0, .bool false, .string ⟨#[]⟩, .string ⟨#[]⟩, .int .i64 0, .int .i64 0, .int .i64 0, .int .i64 0, .int .i64 0, .slice none 0 0, .int .i64 0, .int .i64 3] (0, 0) _ rfl X9.out Try.underlying54 rfl (by kernel_rfl)) rfl ?_
      rw [hdef.out]
      exact ⟨_, rfl, Kd.R_nil _ _ _ _ _, L9.out⟩

    have h3 : (sz == 0) = false := beq_eq_false_iff_ne.mpr h0
    have h4 : (s.size : Int) < sz := by omega
    clear h0 h2
    go_enter Try.func25, Try.ntmps25
    go_wp2_with (first
      | ((with_reducible refine gate_dst (N := 2) rfl ?_); refine box_event rfl (N := 2) rfl (cs := #[.int .i64 0, .int .i64 0, .int .i64 0, .string ⟨#[]⟩, .int .i64 0, .string ⟨#[]⟩, .int .i64 0, .string ⟨#[]⟩, .int .i64 0, .int .i64 0, .int .i64 0, .bool false, .string ⟨#[]⟩, .string ⟨#[]⟩, .int .i64 0, .int .i64 0, .int .i64 0, .int .i64 0, .int .i64 0, .slice none 0 0, .int .i64 0, .int .i64 0]) (t := 54) ?hr ?_; (case hr => first | (go_simp; done) | (go_simp; rfl)); intro g2 hg2 w1 hbx hbl; have X := Aside0.mk hbx; have L := Aside0.mk hbl; have G := Aside0.mk (Nat.le_of_eq hg2.symm); clear hbx hbl hg2))
    refine (hpk.out _).mono ?_
    rintro e w2 ⟨rfl, hb⟩
    have n0_ := Aside0.mk (blk_below X.out hb)
    have n1_ := Aside0.mk (below_step L.out hb)
    clear X L hb
    have X := n0_
    have L := n1_
    clear n0_ n1_
    go_wp2_with (first
      | ((with_reducible refine gate_store (t := 54) (p := 2) rfl ?_); refine store_ev rfl rfl rfl (cells := #[.int .i64 0, .int .i64 0, .int .i64 0, .string ⟨#[]⟩, .int .i64 0, .string ⟨#[]⟩, .int .i64 0, .string ⟨#[]⟩, .int .i64 0, .int .i64 0, .int .i64 0, .bool false, .string ⟨#[]⟩, .string ⟨#[]⟩, .int .i64 0, .int .i64 0, .int .i64 0, .int .i64 0, .int .i64 0, .slice none 0 0, .int .i64 0, .int .i64 3]) rfl rfl X.out (by kernel_rfl) rfl (by kernel_rfl) ?_; intro w9 hbx hgr; have X9 := Aside0.mk hbx; have L9 := Aside0.mk (below_put L.out G.out hgr L.out.size); clear hbx hgr X L))
    refine bodyPost_ret (results_cell_row rfl _ _ g2 54 #[.int .i64 0, .int .i64 0, .int .i64 0, .string ⟨#[]⟩, .int .i64 0, .string ⟨#[]⟩, .int .i64 0, .string ⟨#[]⟩, .int .i64 0, .int .i64 0, .int .i64 0, .bool false, .string ⟨#[]⟩, .string ⟨#[]⟩, .int .i64 0, .int .i64 0, .int .i64 0, .int .i64 0, .int .i64 0, .slice none 0 0, .int .i64 0, .int .i64 3] (0, 0) _ rfl X9.out Try.underlying54 rfl (by kernel_rfl)) rfl ?_
    rw [hdef.out]
    exact ⟨_, rfl, Kd.R_nil _ _ _ _ _, L9.out⟩

  rw [if_neg h2] at hdef
  have h3 : (sz == 0) = false := beq_eq_false_iff_ne.mpr (by omega)
  have h4 : ¬ (s.size : Int) < sz := by omega
  by_cases h5 : sz < 5
  case pos =>
    rw [if_pos h5] at hdef
    clear h2 h1 hst
    go_enter Try.func25, Try.ntmps25
    go_wp2_with (first
      | ((with_reducible refine gate_dst (N := 2) rfl ?_); refine box_event rfl (N := 2) rfl (cs := #[.int .i64 0, .int .i64 0, .int .i64 0, .string ⟨#[]⟩, .int .i64 0, .string ⟨#[]⟩, .int .i64 0, .string ⟨#[]⟩, .int .i64 0, .int .i64 0, .int .i64 0, .bool false, .string ⟨#[]⟩, .string ⟨#[]⟩, .int .i64 0, .int .i64 0, .int .i64 0, .int .i64 0, .int .i64 0, .slice none 0 0, .int .i64 0, .int .i64 0]) (t := 54) ?hr ?_; (case hr => first | (go_simp; done) | (go_simp; rfl)); intro g2 hg2 w1 hbx hbl; have X := Aside0.mk hbx; have L := Aside0.mk hbl; have G := Aside0.mk (Nat.le_of_eq hg2.symm); clear hbx hbl hg2))
    refine (hpk.out _).mono ?_
    rintro e w2 ⟨rfl, hb⟩
    have n0_ := Aside0.mk (blk_below X.out hb)
    have n1_ := Aside0.mk (below_step L.out hb)
    clear X L hb
    have X := n0_
    have L := n1_
    clear n0_ n1_
    go_wp2_with (first
      | ((with_reducible refine gate_store (t := 54) (p := 2) rfl ?_); refine store_ev rfl rfl rfl (cells := #[.int .i64 0, .int .i64 0, .int .i64 0, .string ⟨#[]⟩, .int .i64 0, .string ⟨#[]⟩, .int .i64 0, .string ⟨#[]⟩, .int .i64 0, .int .i64 0, .int .i64 0, .bool false, .string ⟨#[]⟩, .string ⟨#[]⟩, .int .i64 0, .int .i64 0, .int .i64 0, .int .i64 0, .int .i64 0, .slice none 0 0, .int .i64 0, .int .i64 38]) rfl rfl X.out (by kernel_rfl) rfl (by kernel_rfl) ?_; intro w9 hbx hgr; have X9 := Aside0.mk hbx; have L9 := Aside0.mk (below_put L.out G.out hgr L.out.size); clear hbx hgr X L))
    refine bodyPost_ret (results_cell_row rfl _ _ g2 54 #[.int .i64 0, .int .i64 0, .int .i64 0, .string ⟨#[]⟩, .int .i64 0, .string ⟨#[]⟩, .int .i64 0, .string ⟨#[]⟩, .int .i64 0, .int .i64 0, .int .i64 0, .bool false, .string ⟨#[]⟩, .string ⟨#[]⟩, .int .i64 0, .int .i64 0, .int .i64 0, .int .i64 0, .int .i64 0, .slice none 0 0, .int .i64 0, .int .i64 38] (0, 0) _ rfl X9.out Try.underlying54 rfl (by kernel_rfl)) rfl ?_
    rw [hdef.out]
    exact ⟨_, rfl, Kd.R_nil _ _ _ _ _, L9.out⟩

  rw [if_neg h5] at hdef
  obtain ⟨n, rfl⟩ : ∃ n : Nat, sz = (n : Int) := ⟨sz.toNat, by omega⟩
  have hn5 : 5 ≤ n := by omega
  have hns : n ≤ s.size := by omega
  have hi5 : (5 : Int) ≤ (s.size : Int) := by omega
  have hi6 : (5 : Int) ≤ (n : Int) := by omega
  have hi7 : (n : Int) ≤ (s.size : Int) := by omega
  have hi2 : (2 : Int) < (s.size : Int) := by omega
  have hi3 : (3 : Int) < (s.size : Int) := by omega
  have hi4 : (4 : Int) < (s.size : Int) := by omega
  have hbt := bt_range s 2
  have hbt3 := bt_range s 3
  have hbt4 := bt_range s 4
  have hat : ∀ h : 2 < s.size, ((s[2]'h).toNat : Int) = bt s 2 := fun h => bt_at s 2 h
  have hat3 : ∀ h : 3 < s.size, ((s[3]'h).toNat : Int) = bt s 3 := fun h => bt_at s 3 h
  have hat4 : ∀ h : 4 < s.size, ((s[4]'h).toNat : Int) = bt s 4 := fun h => bt_at s 4 h
  have hw2 : IntKind.i64.wrap (bt s 2) = bt s 2 := IntWalk.i64_in _ (by omega)
  have hw3 : IntKind.i64.wrap (bt s 3) = bt s 3 := IntWalk.i64_in _ (by omega)
  have hw4 : IntKind.i64.wrap (bt s 4) = bt s 4 := IntWalk.i64_in _ (by omega)
  have hw5 : IntKind.i64.wrap (bt s 3 * 256) = bt s 3 * 256 := IntWalk.i64_in _ (by omega)
  have hw6 : IntKind.i64.wrap (bt s 3 * 256 + bt s 4) = bt s 3 * 256 + bt s 4 := IntWalk.i64_in _ (by omega)
  have hez : (s.extract 5 n).size ≤ 100000 := by rw [ByteArray.size_extract]; omega
  rw [Int.toNat_natCast] at hst
  have hq := Aside0.mk (fun W : World => qfields_calls (rq0 (bt s 2) (bt s 3 * 256 + bt s 4)) (s.extract 5 n, false) W hez)
  rw [← hst.out] at hq
  have hpl : (decQst s).ps.length ≤ 17 := by rw [hst.out]; exact refF_ps _ _
  generalize decQst s = st at *
  clear h1 h2 h5 hst hez
  go_enter Try.func25, Try.ntmps25
  go_wp2_with (first
    | ((with_reducible refine gate_dst (N := 2) rfl ?_); refine box_event rfl (N := 2) rfl (cs := #[.int .i64 0, .int .i64 0, .int .i64 0, .string ⟨#[]⟩, .int .i64 0, .string ⟨#[]⟩, .int .i64 0, .string ⟨#[]⟩, .int .i64 0, .int .i64 0, .int .i64 0, .bool false, .string ⟨#[]⟩, .string ⟨#[]⟩, .int .i64 0, .int .i64 0, .int .i64 0, .int .i64 0, .int .i64 0, .slice none 0 0, .int .i64 0, .int .i64 0]) (t := 54) ?hr ?_; (case hr => first | (go_simp; done) | (go_simp; rfl)); intro g2 hg2 w1 hbx hbl; have X := Aside0.mk hbx; have L := Aside0.mk hbl; have G := Aside0.mk (Nat.le_of_eq hg2.symm); clear hbx hbl hg2))
  refine (hpk.out _).mono ?_
  rintro e w2 ⟨rfl, hb⟩
  have n0_ := Aside0.mk (blk_below X.out hb)
  have n1_ := Aside0.mk (below_step L.out hb)
  clear X L hb
  have X := n0_
  have L := n1_
  clear n0_ n1_
  go_upto_region 8 with fail
  have n0_ := Aside0.mk (blk_below X.out (below_drew (Below.refl _ _)))
  have n1_ := Aside0.mk (below_drew L.out)
  clear X L
  have X := n0_
  have L := n1_
  clear n0_ n1_
  refine start_ (n := 24) (S := fun _ => True) (ds := []) #[false, false, false, false, false, false, false, false, false, false, false, false, false, false, false, false, false, false, false, false, false, false, false, false] (by kernel_rfl) rfl rfl trivial (fun _ => ?_)
  generalize w2.drew = V at *
  refine pure_ (i := 0) (N := some 24) (v := ?_) (a' := ?_) #[true, false, false, false, false, false, false, false, false, false, false, false, false, false, false, false, false, false, false, false, false, false, false, false] rfl rfl (by kernel_rfl) (fun _ _ _ h => h) (Or.inl ⟨by rfl, ?_⟩) ?_ ?_
  rotate_left
  · intro w'
    go_simp
    with_reducible rfl
  rotate_left
  · simp only [Act.put, List.setIfInBounds_toArray, List.set_cons_zero, List.set_cons_succ]
    rfl

  refine pure_ (i := 1) (N := some 25) (v := ?_) (a' := ?_) #[true, true, false, false, false, false, false, false, false, false, false, false, false, false, false, false, false, false, false, false, false, false, false, false] rfl rfl (by kernel_rfl) (fun _ _ _ h => h) (Or.inl ⟨by rfl, ?_⟩) ?_ ?_
  rotate_left
  · intro w'
    go_simp
    with_reducible rfl
  rotate_left
  · simp only [Act.put, List.setIfInBounds_toArray, List.set_cons_zero, List.set_cons_succ]
    rfl

  refine pure_ (i := 2) (N := some 26) (v := ?_) (a' := ?_) #[true, true, true, false, false, false, false, false, false, false, false, false, false, false, false, false, false, false, false, false, false, false, false, false] rfl rfl (by kernel_rfl) (fun _ _ _ h => h) (Or.inl ⟨by rfl, ?_⟩) ?_ ?_
  rotate_left
  · intro w'
    go_simp
    with_reducible rfl
  rotate_left
  · simp only [Act.put, List.setIfInBounds_toArray, List.set_cons_zero, List.set_cons_succ]
    rfl

  refine pure_ (i := 3) (N := some 27) (v := ?_) (a' := ?_) #[true, true, true, true, false, false, false, false, false, false, false, false, false, false, false, false, false, false, false, false, false, false, false, false] rfl rfl (by kernel_rfl) (fun _ _ _ h => h) (Or.inl ⟨by rfl, ?_⟩) ?_ ?_
  rotate_left
  · intro w'
    go_simp
    with_reducible rfl
  rotate_left
  · simp only [Act.put, List.setIfInBounds_toArray, List.set_cons_zero, List.set_cons_succ]
    rfl

  refine pure_ (i := 4) (N := some 28) (v := ?_) (a' := ?_) #[true, true, true, true, true, false, false, false, false, false, false, false, false, false, false, false, false, false, false, false, false, false, false, false] rfl rfl (by kernel_rfl) (fun _ _ _ h => h) (Or.inl ⟨by rfl, ?_⟩) ?_ ?_
  rotate_left
  · intro w'
    go_simp
    with_reducible rfl
  rotate_left
  · simp only [Act.put, List.setIfInBounds_toArray, List.set_cons_zero, List.set_cons_succ]
    rfl

  refine pure_ (i := 5) (N := some 29) (v := ?_) (a' := ?_) #[true, true, true, true, true, true, false, false, false, false, false, false, false, false, false, false, false, false, false, false, false, false, false, false] rfl rfl (by kernel_rfl) (fun _ _ _ h => h) (Or.inl ⟨by rfl, ?_⟩) ?_ ?_
  rotate_left
  · intro w'
    go_simp
    with_reducible rfl
  rotate_left
  · simp only [Act.put, List.setIfInBounds_toArray, List.set_cons_zero, List.set_cons_succ]
    rfl

  refine pure_ (i := 6) (N := some 30) (v := ?_) (a' := ?_) #[true, true, true, true, true, true, true, false, false, false, false, false, false, false, false, false, false, false, false, false, false, false, false, false] rfl rfl (by kernel_rfl) (fun _ _ _ h => h) (Or.inl ⟨by rfl, ?_⟩) ?_ ?_
  rotate_left
  · intro w'
    go_simp
    with_reducible rfl
  rotate_left
  · simp only [Act.put, List.setIfInBounds_toArray, List.set_cons_zero, List.set_cons_succ]
    rfl

  refine pure_ (i := 7) (N := some 31) (v := ?_) (a' := ?_) #[true, true, true, true, true, true, true, true, false, false, false, false, false, false, false, false, false, false, false, false, false, false, false, false] rfl rfl (by kernel_rfl) (fun _ _ _ h => h) (Or.inl ⟨by rfl, ?_⟩) ?_ ?_
  rotate_left
  · intro w'
    go_simp
    with_reducible rfl
  rotate_left
  · simp only [Act.put, List.setIfInBounds_toArray, List.set_cons_zero, List.set_cons_succ]
    rfl

  refine pure_ (i := 8) (N := some 32) (v := ?_) (a' := ?_) #[true, true, true, true, true, true, true, true, true, false, false, false, false, false, false, false, false, false, false, false, false, false, false, false] rfl rfl (by kernel_rfl) (fun _ _ _ h => h) (Or.inl ⟨by rfl, ?_⟩) ?_ ?_
  rotate_left
  · intro w'
    go_simp
    with_reducible rfl
  rotate_left
  · simp only [Act.put, List.setIfInBounds_toArray, List.set_cons_zero, List.set_cons_succ]
    rfl

  refine pure_ (i := 9) (N := some 33) (v := ?_) (a' := ?_) #[true, true, true, true, true, true, true, true, true, true, false, false, false, false, false, false, false, false, false, false, false, false, false, false] rfl rfl (by kernel_rfl) (fun _ _ _ h => h) (Or.inl ⟨by rfl, ?_⟩) ?_ ?_
  rotate_left
  · intro w'
    go_simp
    with_reducible rfl
  rotate_left
  · simp only [Act.put, List.setIfInBounds_toArray, List.set_cons_zero, List.set_cons_succ]
    rfl

  refine pure_ (i := 10) (N := some 34) (v := ?_) (a' := ?_) #[true, true, true, true, true, true, true, true, true, true, true, false, false, false, false, false, false, false, false, false, false, false, false, false] rfl rfl (by kernel_rfl) (fun _ _ _ h => h) (Or.inl ⟨by rfl, ?_⟩) ?_ ?_
  rotate_left
  · intro w'
    go_simp
    with_reducible rfl
  rotate_left
  · simp only [Act.put, List.setIfInBounds_toArray, List.set_cons_zero, List.set_cons_succ]
    rfl

  refine pure_ (i := 11) (N := some 35) (v := ?_) (a' := ?_) #[true, true, true, true, true, true, true, true, true, true, true, true, false, false, false, false, false, false, false, false, false, false, false, false] rfl rfl (by kernel_rfl) (fun _ _ _ h => h) (Or.inl ⟨by rfl, ?_⟩) ?_ ?_
  rotate_left
  · intro w'
    go_simp
    with_reducible rfl
  rotate_left
  · simp only [Act.put, List.setIfInBounds_toArray, List.set_cons_zero, List.set_cons_succ]
    rfl

  refine pure_ (i := 12) (N := some 36) (v := ?_) (a' := ?_) #[true, true, true, true, true, true, true, true, true, true, true, true, true, false, false, false, false, false, false, false, false, false, false, false] rfl rfl (by kernel_rfl) (fun _ _ _ h => h) (Or.inl ⟨by rfl, ?_⟩) ?_ ?_
  rotate_left
  · intro w'
    go_simp
    with_reducible rfl
  rotate_left
  · simp only [Act.put, List.setIfInBounds_toArray, List.set_cons_zero, List.set_cons_succ]
    rfl

  refine pure_ (i := 13) (N := some 37) (v := ?_) (a' := ?_) #[true, true, true, true, true, true, true, true, true, true, true, true, true, true, false, false, false, false, false, false, false, false, false, false] rfl rfl (by kernel_rfl) (fun _ _ _ h => h) (Or.inl ⟨by rfl, ?_⟩) ?_ ?_
  rotate_left
  · intro w'
    go_simp
    with_reducible rfl
  rotate_left
  · simp only [Act.put, List.setIfInBounds_toArray, List.set_cons_zero, List.set_cons_succ]
    rfl

  refine pure_ (i := 14) (N := some 38) (v := ?_) (a' := ?_) #[true, true, true, true, true, true, true, true, true, true, true, true, true, true, true, false, false, false, false, false, false, false, false, false] rfl rfl (by kernel_rfl) (fun _ _ _ h => h) (Or.inl ⟨by rfl, ?_⟩) ?_ ?_
  rotate_left
  · intro w'
    go_simp
    with_reducible rfl
  rotate_left
  · simp only [Act.put, List.setIfInBounds_toArray, List.set_cons_zero, List.set_cons_succ]
    rfl

  refine pure_ (i := 15) (N := some 39) (v := ?_) (a' := ?_) #[true, true, true, true, true, true, true, true, true, true, true, true, true, true, true, true, false, false, false, false, false, false, false, false] rfl rfl (by kernel_rfl) (fun _ _ _ h => h) (Or.inl ⟨by rfl, ?_⟩) ?_ ?_
  rotate_left
  · intro w'
    go_simp
    with_reducible rfl
  rotate_left
  · simp only [Act.put, List.setIfInBounds_toArray, List.set_cons_zero, List.set_cons_succ]
    rfl

  clear hat hat3 hat4 hw2 hw3 hw4 hw5 hw6 hi2 hi3 hi4 hi5 hi6 hi7
  refine join_ (σ := Option Addr × Nat × Nat × Nat) 2 #[true, true, true, true, true, true, true, true, true, true, true, true, true, true, true, true, true, true, true, true, true, true, false, false] (fun s_ => [(40, (.tuple #[st.y.v (.slice s_.1 st.ps.length s_.2.1), .agg #[.string st.r.1, .bool st.r.2]])), (23, (.tuple #[st.y.v (.slice s_.1 st.ps.length s_.2.1), .agg #[.string st.r.1, .bool st.r.2]])), (41, st.y.v (.slice s_.1 st.ps.length s_.2.1)), (42, .agg #[.string st.r.1, .bool st.r.2]), (4, .pointer (some ⟨s_.2.2.1, 0, none⟩)), (5, .pointer (some ⟨s_.2.2.2, 0, none⟩))]) (fun s_ w' => Kd.R k102 102 w' w.heap.size (fun _ => True) (.slice s_.1 st.ps.length s_.2.1) st.ps ∧ w'.heap[s_.2.2.1]? = some (.cells #[.int .i64 0, .int .i64 0, .int .i64 0, .string ⟨#[]⟩, .int .i64 0, .string ⟨#[]⟩, .int .i64 0, .string ⟨#[]⟩, .int .i64 0, .int .i64 0, .int .i64 0, .bool false, .string ⟨#[]⟩, .string ⟨#[]⟩, .int .i64 0, .int .i64 0, .int .i64 0, .int .i64 0, .int .i64 0, .slice none 0 0] 45 (0, 0)) ∧ w'.heap[s_.2.2.2]? = some (.cells #[.string ⟨#[]⟩, .bool false] 110 (0, 0)) ∧ w'.heap[g2]? = some (.cells #[.int .i64 0, .int .i64 0, .int .i64 0, .string ⟨#[]⟩, .int .i64 0, .string ⟨#[]⟩, .int .i64 0, .string ⟨#[]⟩, .int .i64 0, .int .i64 0, .int .i64 0, .bool false, .string ⟨#[]⟩, .string ⟨#[]⟩, .int .i64 0, .int .i64 0, .int .i64 0, .int .i64 0, .int .i64 0, .slice none 0 0, .int .i64 0, .int .i64 0] 54 (0, 0)) ∧ Below w.heap.size w w' ∧ w.heap.size ≤ s_.2.2.1 ∧ w.heap.size ≤ s_.2.2.2 ∧ s_.2.2.1 ≠ s_.2.2.2 ∧ g2 ≠ s_.2.2.1 ∧ g2 ≠ s_.2.2.2) ?_ ?_
  · rintro ⟨B, m, g4, g5⟩ W ⟨hr, h4, h5, hx, hl, l4, l5, n45, n24, n25⟩
    simp only at hr h4 h5 l4 l5 n45 n24 n25
    have R := Aside0.mk hr
    have P4 := Aside0.mk h4
    have P5 := Aside0.mk h5
    have X := Aside0.mk hx
    have L := Aside0.mk hl
    have M4 := Aside0.mk l4
    have M5 := Aside0.mk l5
    have N45 := Aside0.mk n45
    have N24 := Aside0.mk n24
    have N25 := Aside0.mk n25
    clear hr h4 h5 hx hl l4 l5 n45 n24 n25
    refine norm_ (a' := ?_) ?_ ?_
    rotate_left
    · simp only [putAll, Act.put, List.setIfInBounds_toArray, List.set_cons_zero, List.set_cons_succ]
      rfl
    refine one_ (i := 22) (N := none) #[true, true, true, true, true, true, true, true, true, true, true, true, true, true, true, true, true, true, true, true, true, true, true, false] rfl rfl (by kernel_rfl) (by simp) (fun K hK => ?_)
    refine skip_ (w1 := W.setRow g4 (st.y.cs (.slice B st.ps.length m))) (by rfl) rfl (store_run' (p := 4) rfl rfl rfl P4.out (by kernel_rfl) rfl (by kernel_rfl)) (hK.out _ _ trivial (fun _ => ?_))
    clear hK K
    have Q4 := Aside0.mk (setRow_heap W g4 _ (st.y.cs (.slice B st.ps.length m)) 45 (0, 0) P4.out)
    have hgr := grown_setRow W g4 (st.y.cs (.slice B st.ps.length m))
    have Q5 := Aside0.mk (grown_at hgr P5.out (Ne.symm N45.out))
    have X1 := Aside0.mk (grown_at hgr X.out N24.out)
    have L1 := Aside0.mk (below_put L.out M4.out hgr L.out.size)
    have R1 := Aside0.mk (pairs_grown R.out hgr (fun cells e => by rw [P4.out] at e; simp at e))
    clear R P4 P5 X L hgr
    generalize W.setRow g4 (st.y.cs (.slice B st.ps.length m)) = W1 at *
    refine one_ (i := 23) (N := none) #[true, true, true, true, true, true, true, true, true, true, true, true, true, true, true, true, true, true, true, true, true, true, true, true] rfl rfl (by kernel_rfl) (by simp) (fun K hK => ?_)
    refine skip_ (w1 := W1.setRow g5 #[.string st.r.1, .bool st.r.2]) (by rfl) rfl (store_run' (p := 5) rfl rfl rfl Q5.out (by kernel_rfl) rfl (by kernel_rfl)) (hK.out _ _ trivial (fun _ => ?_))
    clear hK K
    have S5 := Aside0.mk (setRow_heap W1 g5 _ #[.string st.r.1, .bool st.r.2] 110 (0, 0) Q5.out)
    have hgr := grown_setRow W1 g5 #[.string st.r.1, .bool st.r.2]
    have Y := Aside0.mk (grown_at hgr Q4.out N45.out)
    have X := Aside0.mk (grown_at hgr X1.out N25.out)
    have L := Aside0.mk (below_put L1.out M5.out hgr L1.out.size)
    have R := Aside0.mk (pairs_grown R1.out hgr (fun cells e => by rw [Q5.out] at e; simp at e))
    clear R1 Q4 Q5 X1 L1 hgr
    generalize W1.setRow g5 #[.string st.r.1, .bool st.r.2] = w7 at *
    refine done_ (by kernel_rfl) ?_
    obtain ⟨rs, hrs⟩ : ∃ rs, st.r.1 = rs := ⟨_, rfl⟩
    obtain ⟨rb, hrb⟩ : ∃ rb, st.r.2 = rb := ⟨_, rfl⟩
    rw [hrs] at S5 hdef ⊢
    rw [hrb] at S5 hdef ⊢
    clear hrs hrb
    have c80 : w7.cell? ⟨g5, 0, none⟩ = some (.string rs) := (blk_cell S5.out 0).trans rfl
    have c81 : w7.cell? ⟨g5, 1, none⟩ = some (.bool rb) := (blk_cell S5.out 1).trans rfl
    by_cases hb1 : rb = true
    case pos =>
      rw [if_pos hb1] at hdef
      subst hb1
      go_wp2_with (first
        | ((with_reducible refine gate_store (t := 54) (p := 2) rfl ?_); refine store_ev rfl rfl rfl (cells := #[.int .i64 0, .int .i64 0, .int .i64 0, .string ⟨#[]⟩, .int .i64 0, .string ⟨#[]⟩, .int .i64 0, .string ⟨#[]⟩, .int .i64 0, .int .i64 0, .int .i64 0, .bool false, .string ⟨#[]⟩, .string ⟨#[]⟩, .int .i64 0, .int .i64 0, .int .i64 0, .int .i64 0, .int .i64 0, .slice none 0 0, .int .i64 0, .int .i64 38]) rfl rfl X.out (by kernel_rfl) rfl (by kernel_rfl) ?_; intro w9 hbx hgr; have X9 := Aside0.mk hbx; have L9 := Aside0.mk (below_put L.out G.out hgr L.out.size); clear hbx hgr X L))
      refine bodyPost_ret (results_cell_row rfl _ _ g2 54 #[.int .i64 0, .int .i64 0, .int .i64 0, .string ⟨#[]⟩, .int .i64 0, .string ⟨#[]⟩, .int .i64 0, .string ⟨#[]⟩, .int .i64 0, .int .i64 0, .int .i64 0, .bool false, .string ⟨#[]⟩, .string ⟨#[]⟩, .int .i64 0, .int .i64 0, .int .i64 0, .int .i64 0, .int .i64 0, .slice none 0 0, .int .i64 0, .int .i64 38] (0, 0) _ rfl X9.out Try.underlying54 rfl (by kernel_rfl)) rfl ?_
      rw [hdef.out]
      exact ⟨_, rfl, Kd.R_nil _ _ _ _ _, L9.out⟩

    rw [if_neg hb1] at hdef
    obtain rfl : rb = false := by simpa using hb1
    clear hb1
    by_cases he : rs.toList ≠ []
    case pos =>
      rw [if_pos he] at hdef
      have he1 : (!rs.toList.isEmpty) = true := by simpa using he
      have he2 : rs.toList.isEmpty = false := by simpa using he
      go_wp2_with (first
        | ((with_reducible refine gate_store (t := 54) (p := 2) rfl ?_); refine store_ev rfl rfl rfl (cells := #[.int .i64 0, .int .i64 0, .int .i64 0, .string ⟨#[]⟩, .int .i64 0, .string ⟨#[]⟩, .int .i64 0, .string ⟨#[]⟩, .int .i64 0, .int .i64 0, .int .i64 0, .bool false, .string ⟨#[]⟩, .string ⟨#[]⟩, .int .i64 0, .int .i64 0, .int .i64 0, .int .i64 0, .int .i64 0, .slice none 0 0, .int .i64 0, .int .i64 38]) rfl rfl X.out (by kernel_rfl) rfl (by kernel_rfl) ?_; intro w9 hbx hgr; have X9 := Aside0.mk hbx; have L9 := Aside0.mk (below_put L.out G.out hgr L.out.size); clear hbx hgr X L))
      refine bodyPost_ret (results_cell_row rfl _ _ g2 54 #[.int .i64 0, .int .i64 0, .int .i64 0, .string ⟨#[]⟩, .int .i64 0, .string ⟨#[]⟩, .int .i64 0, .string ⟨#[]⟩, .int .i64 0, .int .i64 0, .int .i64 0, .bool false, .string ⟨#[]⟩, .string ⟨#[]⟩, .int .i64 0, .int .i64 0, .int .i64 0, .int .i64 0, .int .i64 0, .slice none 0 0, .int .i64 0, .int .i64 38] (0, 0) _ rfl X9.out Try.underlying54 rfl (by kernel_rfl)) rfl ?_
      rw [hdef.out]
      exact ⟨_, rfl, Kd.R_nil _ _ _ _ _, L9.out⟩

    rw [if_neg he] at hdef
    have he0 : rs.toList = [] := by simpa using he
    have he1 : (!rs.toList.isEmpty) = false := by rw [he0]; rfl
    have he2 : rs.toList.isEmpty = true := by rw [he0]; rfl
    clear he
    have hprs := Aside0.mk (prs_of_R R.out (by omega))
    have hmay := Aside0.mk (qmay_calls st.y B m st.ps w7 hprs.out.1)
    clear hpl
    by_cases hm : mayB st.y st.ps = true
    case neg =>
      rw [if_neg hm] at hdef
      have hm' : mayB st.y st.ps = false := by simpa using hm
      rw [hm'] at hmay
      clear hm hm'
      go_wp2_with (first
        | ((with_reducible refine gate_dst (N := 51) rfl ?_); refine load_evg (N := 51) rfl rfl (cs := st.y.cs (.slice B st.ps.length m)) rfl Y.out Try.underlying45 rfl (by kernel_rfl) ?hw ?_; (case hw => first | rfl | go_simp)))
      refine (hmay.out).mono ?_
      rintro e w8 ⟨rfl, hb⟩
      have n0_ := Aside0.mk (blk_below X.out hb)
      have n1_ := Aside0.mk (below_step L.out hb)
      clear X L hb
      have X := n0_
      have L := n1_
      clear n0_ n1_
      go_wp2_with (first
        | ((with_reducible refine gate_store (t := 54) (p := 2) rfl ?_); refine store_ev rfl rfl rfl (cells := #[.int .i64 0, .int .i64 0, .int .i64 0, .string ⟨#[]⟩, .int .i64 0, .string ⟨#[]⟩, .int .i64 0, .string ⟨#[]⟩, .int .i64 0, .int .i64 0, .int .i64 0, .bool false, .string ⟨#[]⟩, .string ⟨#[]⟩, .int .i64 0, .int .i64 0, .int .i64 0, .int .i64 0, .int .i64 0, .slice none 0 0, .int .i64 0, .int .i64 38]) rfl rfl X.out (by kernel_rfl) rfl (by kernel_rfl) ?_; intro w9 hbx hgr; have X9 := Aside0.mk hbx; have L9 := Aside0.mk (below_put L.out G.out hgr L.out.size); clear hbx hgr X L))
      refine bodyPost_ret (results_cell_row rfl _ _ g2 54 #[.int .i64 0, .int .i64 0, .int .i64 0, .string ⟨#[]⟩, .int .i64 0, .string ⟨#[]⟩, .int .i64 0, .string ⟨#[]⟩, .int .i64 0, .int .i64 0, .int .i64 0, .bool false, .string ⟨#[]⟩, .string ⟨#[]⟩, .int .i64 0, .int .i64 0, .int .i64 0, .int .i64 0, .int .i64 0, .slice none 0 0, .int .i64 0, .int .i64 38] (0, 0) _ rfl X9.out Try.underlying54 rfl (by kernel_rfl)) rfl ?_
      rw [hdef.out]
      exact ⟨_, rfl, Kd.R_nil _ _ _ _ _, L9.out⟩

    rw [if_pos hm] at hdef
    rw [hm] at hmay
    clear hm
    go_wp2_with (first
      | ((with_reducible refine gate_dst (N := 51) rfl ?_); refine load_evg (N := 51) rfl rfl (cs := st.y.cs (.slice B st.ps.length m)) rfl Y.out Try.underlying45 rfl (by kernel_rfl) ?hw ?_; (case hw => first | rfl | go_simp)))
    refine (hmay.out).mono ?_
    rintro e w8 ⟨rfl, hb⟩
    have X8 := Aside0.mk (blk_below X.out hb)
    have L8 := Aside0.mk (below_step L.out hb)
    have R8 := Aside0.mk (Kd.R_below R.out hb)
    have Y8 := Aside0.mk (blk_below Y.out hb)
    clear X L R Y hb c80 c81
    go_wp2_with (first
      | ((with_reducible refine gate_dst (N := 56) rfl ?_); refine load_ev (N := 56) rfl rfl rfl (cs := #[.int .i64 st.y.id, .int .i64 st.y.kind, .int .i64 st.y.label, .string st.y.pt, .int .i64 st.y.pp, .string st.y.tt, .int .i64 st.y.tp, .string st.y.sn, .int .i64 st.y.sp, .int .i64 st.y.sa, .int .i64 st.y.ss, .bool st.y.sc, .string st.y.grp, .string st.y.mem, .int .i64 st.y.gen, .int .i64 st.y.off, .int .i64 st.y.most, .int .i64 st.y.prod, .int .i64 st.y.seq, .slice B st.ps.length m]) rfl Y8.out Try.underlying45 rfl (by kernel_rfl) ?_)
      | ((with_reducible refine gate_store (t := 54) (p := 2) rfl ?_); refine store_ev rfl rfl rfl (cells := #[.int .i64 st.y.id, .int .i64 st.y.kind, .int .i64 st.y.label, .string st.y.pt, .int .i64 st.y.pp, .string st.y.tt, .int .i64 st.y.tp, .string st.y.sn, .int .i64 st.y.sp, .int .i64 st.y.sa, .int .i64 st.y.ss, .bool st.y.sc, .string st.y.grp, .string st.y.mem, .int .i64 st.y.gen, .int .i64 st.y.off, .int .i64 st.y.most, .int .i64 st.y.prod, .int .i64 st.y.seq, .slice B st.ps.length m, .int .i64 (n : Int), .int .i64 0]) rfl rfl X8.out (by kernel_rfl) rfl (by kernel_rfl) ?_; intro w9 hbx hgr; have X9 := Aside0.mk hbx; have L9 := Aside0.mk (below_put L8.out G.out hgr L8.out.size); have R9 := Aside0.mk (pairs_grown R8.out hgr (fun cells e => by rw [X8.out] at e; simp at e)); clear hbx hgr X8 L8 R8))
    refine bodyPost_ret (results_cell_row rfl _ _ g2 54 #[.int .i64 st.y.id, .int .i64 st.y.kind, .int .i64 st.y.label, .string st.y.pt, .int .i64 st.y.pp, .string st.y.tt, .int .i64 st.y.tp, .string st.y.sn, .int .i64 st.y.sp, .int .i64 st.y.sa, .int .i64 st.y.ss, .bool st.y.sc, .string st.y.grp, .string st.y.mem, .int .i64 st.y.gen, .int .i64 st.y.off, .int .i64 st.y.most, .int .i64 st.y.prod, .int .i64 st.y.seq, .slice B st.ps.length m, .int .i64 (n : Int), .int .i64 0] (0, 0) _ rfl X9.out Try.underlying54 rfl (by kernel_rfl)) rfl ?_
    rw [hdef.out]
    exact ⟨_, rfl, R9.out, L9.out⟩

  · intro hjoin
    have hjoin := Aside0.mk hjoin
    clear hdef hund h1' h3 h4 hp0 hz
    refine three_ (i := 16) (j := 20) (k := 21) (Ni := some 40) (Nj := some 4) (Nk := some 5) #[true, true, true, true, true, true, true, true, true, true, true, true, true, true, true, true, true, false, false, false, false, false, false, false] #[true, true, true, true, true, true, true, true, true, true, true, true, true, true, true, true, false, false, false, false, true, false, false, false] #[true, true, true, true, true, true, true, true, true, true, true, true, true, true, true, true, false, false, false, false, false, true, false, false] rfl rfl rfl rfl rfl rfl (by kernel_rfl) (by simp) (by simp) (by simp) (fun K hK => ?_) (fun K hK => ?_) (fun K hK => ?_)
    · have hsz := Aside0.mk L.out.size
      refine goes_ Try.func55 (by kernel_rfl) rfl #[.agg #[.string (s.extract 5 n), .bool false], (rq0 (bt s 2) (bt s 3 * 256 + bt s 4)).v (.slice none 0 0)] (by rfl) rfl rfl (by simp only [List.map_toArray, List.map_cons, List.map_nil] <;> rfl) ?_
      refine (hq.out _).mono ?_
      rintro e Wc ⟨u, rfl, hr, hbl⟩
      have R := Aside0.mk (Kd.R_lower hr hsz.out)
      have n_X := Aside0.mk (blk_below X.out hbl)
      have n_L := Aside0.mk (below_step L.out hbl)
      clear X L
      have X := n_X
      have L := n_L
      clear n_X n_L
      clear hr hbl hsz
      obtain ⟨B, m, hu⟩ := Kd.R_slice R.out
      subst hu
      refine ⟨_, rfl, hK.out _ _ trivial (fun _ => ?_)⟩
      clear hK K
      refine norm_ (a' := ?_) ?_ ?_
      rotate_left
      · simp only [Act.put, List.setIfInBounds_toArray, List.set_cons_zero, List.set_cons_succ]
        rfl
      refine pure_ (i := 17) (N := some 23) (v := ?_) (a' := ?_) #[true, true, true, true, true, true, true, true, true, true, true, true, true, true, true, true, true, true, false, false, false, false, false, false] rfl rfl (by kernel_rfl) (fun _ _ _ h => h) (Or.inl ⟨by rfl, ?_⟩) ?_ ?_
      rotate_left
      · intro w'
        go_simp
        with_reducible rfl
      rotate_left
      · simp only [Act.put, List.setIfInBounds_toArray, List.set_cons_zero, List.set_cons_succ]
        rfl
      refine pure_ (i := 18) (N := some 41) (v := ?_) (a' := ?_) #[true, true, true, true, true, true, true, true, true, true, true, true, true, true, true, true, true, true, true, false, false, false, false, false] rfl rfl (by kernel_rfl) (fun _ _ _ h => h) (Or.inl ⟨by rfl, ?_⟩) ?_ ?_
      rotate_left
      · intro w'
        go_simp
        with_reducible rfl
      rotate_left
      · simp only [Act.put, List.setIfInBounds_toArray, List.set_cons_zero, List.set_cons_succ]
        rfl
      refine pure_ (i := 19) (N := some 42) (v := ?_) (a' := ?_) #[true, true, true, true, true, true, true, true, true, true, true, true, true, true, true, true, true, true, true, true, false, false, false, false] rfl rfl (by kernel_rfl) (fun _ _ _ h => h) (Or.inl ⟨by rfl, ?_⟩) ?_ ?_
      rotate_left
      · intro w'
        go_simp
        with_reducible rfl
      rotate_left
      · simp only [Act.put, List.setIfInBounds_toArray, List.set_cons_zero, List.set_cons_succ]
        rfl
      refine two_ (i := 20) (j := 21) (Ni := some 4) (Nj := some 5) #[true, true, true, true, true, true, true, true, true, true, true, true, true, true, true, true, true, true, true, true, true, false, false, false] #[true, true, true, true, true, true, true, true, true, true, true, true, true, true, true, true, true, true, true, true, false, true, false, false] rfl rfl rfl rfl (by kernel_rfl) (by simp) (by simp) (fun K hK => ?_) (fun K hK => ?_)
      · refine box_step (by rfl) (N := 4) rfl (cs := #[.int .i64 0, .int .i64 0, .int .i64 0, .string ⟨#[]⟩, .int .i64 0, .string ⟨#[]⟩, .int .i64 0, .string ⟨#[]⟩, .int .i64 0, .int .i64 0, .int .i64 0, .bool false, .string ⟨#[]⟩, .string ⟨#[]⟩, .int .i64 0, .int .i64 0, .int .i64 0, .int .i64 0, .int .i64 0, .slice none 0 0]) (t := 45) (by first | (go_simp; done) | (go_simp; rfl)) ?_
        intro g4 hg4 W4 hbx hbl
        have M4 := Aside0.mk (show w.heap.size ≤ g4 by rw [hg4]; exact L.out.size)
        have D4 := Aside0.mk (show g2 ≠ g4 by rw [hg4]; exact Nat.ne_of_lt (blk_lt X.out))
        have n_X := Aside0.mk (blk_below X.out hbl)
        have n_L := Aside0.mk (below_step L.out hbl)
        have n_R := Aside0.mk (Kd.R_below R.out hbl)
        clear X L R
        have X := n_X
        have L := n_L
        have R := n_R
        clear n_X n_L n_R
        have P4 := Aside0.mk hbx
        clear hbx hbl hg4
        refine hK.out _ _ trivial (fun _ => ?_)
        clear hK K
        refine norm_ (a' := ?_) ?_ ?_
        rotate_left
        · simp only [Act.put, List.setIfInBounds_toArray, List.set_cons_zero, List.set_cons_succ]
          rfl
        refine one_ (i := 21) (N := some 5) #[true, true, true, true, true, true, true, true, true, true, true, true, true, true, true, true, true, true, true, true, true, true, false, false] rfl rfl (by kernel_rfl) (by simp) (fun K hK => ?_)
        refine box_step (by rfl) (N := 5) rfl (cs := #[.string ⟨#[]⟩, .bool false]) (t := 110) (by first | (go_simp; done) | (go_simp; rfl)) ?_
        intro g5 hg5 W5 hbx hbl
        have M5 := Aside0.mk (show w.heap.size ≤ g5 by rw [hg5]; exact L.out.size)
        have D5 := Aside0.mk (show g2 ≠ g5 by rw [hg5]; exact Nat.ne_of_lt (blk_lt X.out))
        have N45 := Aside0.mk (show g4 ≠ g5 by rw [hg5]; exact Nat.ne_of_lt (blk_lt P4.out))
        have n_X := Aside0.mk (blk_below X.out hbl)
        have n_L := Aside0.mk (below_step L.out hbl)
        have n_R := Aside0.mk (Kd.R_below R.out hbl)
        have n_P4 := Aside0.mk (blk_below P4.out hbl)
        clear X L R P4
        have X := n_X
        have L := n_L
        have R := n_R
        have P4 := n_P4
        clear n_X n_L n_R n_P4
        have P5 := Aside0.mk hbx
        clear hbx hbl hg5
        refine hK.out _ _ trivial (fun _ => ?_)
        clear hK K
        refine norm_ (a' := ?_) ?_ ?_
        rotate_left
        · simp only [Act.put, List.setIfInBounds_toArray, List.set_cons_zero, List.set_cons_succ]
          rfl
        exact norm_ (by rfl) (hjoin.out ⟨B, m, g4, g5⟩ _ ⟨R.out, P4.out, P5.out, X.out, L.out, M4.out, M5.out, N45.out, D4.out, D5.out⟩)
      · refine box_step (by rfl) (N := 5) rfl (cs := #[.string ⟨#[]⟩, .bool false]) (t := 110) (by first | (go_simp; done) | (go_simp; rfl)) ?_
        intro g5 hg5 W5 hbx hbl
        have M5 := Aside0.mk (show w.heap.size ≤ g5 by rw [hg5]; exact L.out.size)
        have D5 := Aside0.mk (show g2 ≠ g5 by rw [hg5]; exact Nat.ne_of_lt (blk_lt X.out))
        have n_X := Aside0.mk (blk_below X.out hbl)
        have n_L := Aside0.mk (below_step L.out hbl)
        have n_R := Aside0.mk (Kd.R_below R.out hbl)
        clear X L R
        have X := n_X
        have L := n_L
        have R := n_R
        clear n_X n_L n_R
        have P5 := Aside0.mk hbx
        clear hbx hbl hg5
        refine hK.out _ _ trivial (fun _ => ?_)
        clear hK K
        refine norm_ (a' := ?_) ?_ ?_
        rotate_left
        · simp only [Act.put, List.setIfInBounds_toArray, List.set_cons_zero, List.set_cons_succ]
          rfl
        refine one_ (i := 20) (N := some 4) #[true, true, true, true, true, true, true, true, true, true, true, true, true, true, true, true, true, true, true, true, true, true, false, false] rfl rfl (by kernel_rfl) (by simp) (fun K hK => ?_)
        refine box_step (by rfl) (N := 4) rfl (cs := #[.int .i64 0, .int .i64 0, .int .i64 0, .string ⟨#[]⟩, .int .i64 0, .string ⟨#[]⟩, .int .i64 0, .string ⟨#[]⟩, .int .i64 0, .int .i64 0, .int .i64 0, .bool false, .string ⟨#[]⟩, .string ⟨#[]⟩, .int .i64 0, .int .i64 0, .int .i64 0, .int .i64 0, .int .i64 0, .slice none 0 0]) (t := 45) (by first | (go_simp; done) | (go_simp; rfl)) ?_
        intro g4 hg4 W4 hbx hbl
        have M4 := Aside0.mk (show w.heap.size ≤ g4 by rw [hg4]; exact L.out.size)
        have D4 := Aside0.mk (show g2 ≠ g4 by rw [hg4]; exact Nat.ne_of_lt (blk_lt X.out))
        have N45 := Aside0.mk (show g4 ≠ g5 by rw [hg4]; exact Nat.ne_of_gt (blk_lt P5.out))
        have n_X := Aside0.mk (blk_below X.out hbl)
        have n_L := Aside0.mk (below_step L.out hbl)
        have n_R := Aside0.mk (Kd.R_below R.out hbl)
        have n_P5 := Aside0.mk (blk_below P5.out hbl)
        clear X L R P5
        have X := n_X
        have L := n_L
        have R := n_R
        have P5 := n_P5
        clear n_X n_L n_R n_P5
        have P4 := Aside0.mk hbx
        clear hbx hbl hg4
        refine hK.out _ _ trivial (fun _ => ?_)
        clear hK K
        refine norm_ (a' := ?_) ?_ ?_
        rotate_left
        · simp only [Act.put, List.setIfInBounds_toArray, List.set_cons_zero, List.set_cons_succ]
          rfl
        exact norm_ (by rfl) (hjoin.out ⟨B, m, g4, g5⟩ _ ⟨R.out, P4.out, P5.out, X.out, L.out, M4.out, M5.out, N45.out, D4.out, D5.out⟩)
    · refine box_step (by rfl) (N := 4) rfl (cs := #[.int .i64 0, .int .i64 0, .int .i64 0, .string ⟨#[]⟩, .int .i64 0, .string ⟨#[]⟩, .int .i64 0, .string ⟨#[]⟩, .int .i64 0, .int .i64 0, .int .i64 0, .bool false, .string ⟨#[]⟩, .string ⟨#[]⟩, .int .i64 0, .int .i64 0, .int .i64 0, .int .i64 0, .int .i64 0, .slice none 0 0]) (t := 45) (by first | (go_simp; done) | (go_simp; rfl)) ?_
      intro g4 hg4 W4 hbx hbl
      have M4 := Aside0.mk (show w.heap.size ≤ g4 by rw [hg4]; exact L.out.size)
      have D4 := Aside0.mk (show g2 ≠ g4 by rw [hg4]; exact Nat.ne_of_lt (blk_lt X.out))
      have n_X := Aside0.mk (blk_below X.out hbl)
      have n_L := Aside0.mk (below_step L.out hbl)
      clear X L
      have X := n_X
      have L := n_L
      clear n_X n_L
      have P4 := Aside0.mk hbx
      clear hbx hbl hg4
      refine hK.out _ _ trivial (fun _ => ?_)
      clear hK K
      refine norm_ (a' := ?_) ?_ ?_
      rotate_left
      · simp only [Act.put, List.setIfInBounds_toArray, List.set_cons_zero, List.set_cons_succ]
        rfl
      refine two_ (i := 16) (j := 21) (Ni := some 40) (Nj := some 5) #[true, true, true, true, true, true, true, true, true, true, true, true, true, true, true, true, true, false, false, false, true, false, false, false] #[true, true, true, true, true, true, true, true, true, true, true, true, true, true, true, true, false, false, false, false, true, true, false, false] rfl rfl rfl rfl (by kernel_rfl) (by simp) (by simp) (fun K hK => ?_) (fun K hK => ?_)
      · have hsz := Aside0.mk L.out.size
        refine goes_ Try.func55 (by kernel_rfl) rfl #[.agg #[.string (s.extract 5 n), .bool false], (rq0 (bt s 2) (bt s 3 * 256 + bt s 4)).v (.slice none 0 0)] (by rfl) rfl rfl (by simp only [List.map_toArray, List.map_cons, List.map_nil] <;> rfl) ?_
        refine (hq.out _).mono ?_
        rintro e Wc ⟨u, rfl, hr, hbl⟩
        have R := Aside0.mk (Kd.R_lower hr hsz.out)
        have n_X := Aside0.mk (blk_below X.out hbl)
        have n_L := Aside0.mk (below_step L.out hbl)
        have n_P4 := Aside0.mk (blk_below P4.out hbl)
        clear X L P4
        have X := n_X
        have L := n_L
        have P4 := n_P4
        clear n_X n_L n_P4
        clear hr hbl hsz
        obtain ⟨B, m, hu⟩ := Kd.R_slice R.out
        subst hu
        refine ⟨_, rfl, hK.out _ _ trivial (fun _ => ?_)⟩
        clear hK K
        refine norm_ (a' := ?_) ?_ ?_
        rotate_left
        · simp only [Act.put, List.setIfInBounds_toArray, List.set_cons_zero, List.set_cons_succ]
          rfl
        refine pure_ (i := 17) (N := some 23) (v := ?_) (a' := ?_) #[true, true, true, true, true, true, true, true, true, true, true, true, true, true, true, true, true, true, false, false, true, false, false, false] rfl rfl (by kernel_rfl) (fun _ _ _ h => h) (Or.inl ⟨by rfl, ?_⟩) ?_ ?_
        rotate_left
        · intro w'
          go_simp
          with_reducible rfl
        rotate_left
        · simp only [Act.put, List.setIfInBounds_toArray, List.set_cons_zero, List.set_cons_succ]
          rfl
        refine pure_ (i := 18) (N := some 41) (v := ?_) (a' := ?_) #[true, true, true, true, true, true, true, true, true, true, true, true, true, true, true, true, true, true, true, false, true, false, false, false] rfl rfl (by kernel_rfl) (fun _ _ _ h => h) (Or.inl ⟨by rfl, ?_⟩) ?_ ?_
        rotate_left
        · intro w'
          go_simp
          with_reducible rfl
        rotate_left
        · simp only [Act.put, List.setIfInBounds_toArray, List.set_cons_zero, List.set_cons_succ]
          rfl
        refine pure_ (i := 19) (N := some 42) (v := ?_) (a' := ?_) #[true, true, true, true, true, true, true, true, true, true, true, true, true, true, true, true, true, true, true, true, true, false, false, false] rfl rfl (by kernel_rfl) (fun _ _ _ h => h) (Or.inl ⟨by rfl, ?_⟩) ?_ ?_
        rotate_left
        · intro w'
          go_simp
          with_reducible rfl
        rotate_left
        · simp only [Act.put, List.setIfInBounds_toArray, List.set_cons_zero, List.set_cons_succ]
          rfl
        refine one_ (i := 21) (N := some 5) #[true, true, true, true, true, true, true, true, true, true, true, true, true, true, true, true, true, true, true, true, true, true, false, false] rfl rfl (by kernel_rfl) (by simp) (fun K hK => ?_)
        refine box_step (by rfl) (N := 5) rfl (cs := #[.string ⟨#[]⟩, .bool false]) (t := 110) (by first | (go_simp; done) | (go_simp; rfl)) ?_
        intro g5 hg5 W5 hbx hbl
        have M5 := Aside0.mk (show w.heap.size ≤ g5 by rw [hg5]; exact L.out.size)
        have D5 := Aside0.mk (show g2 ≠ g5 by rw [hg5]; exact Nat.ne_of_lt (blk_lt X.out))
        have N45 := Aside0.mk (show g4 ≠ g5 by rw [hg5]; exact Nat.ne_of_lt (blk_lt P4.out))
        have n_X := Aside0.mk (blk_below X.out hbl)
        have n_L := Aside0.mk (below_step L.out hbl)
        have n_P4 := Aside0.mk (blk_below P4.out hbl)
        have n_R := Aside0.mk (Kd.R_below R.out hbl)
        clear X L P4 R
        have X := n_X
        have L := n_L
        have P4 := n_P4
        have R := n_R
        clear n_X n_L n_P4 n_R
        have P5 := Aside0.mk hbx
        clear hbx hbl hg5
        refine hK.out _ _ trivial (fun _ => ?_)
        clear hK K
        refine norm_ (a' := ?_) ?_ ?_
        rotate_left
        · simp only [Act.put, List.setIfInBounds_toArray, List.set_cons_zero, List.set_cons_succ]
          rfl
        exact norm_ (by rfl) (hjoin.out ⟨B, m, g4, g5⟩ _ ⟨R.out, P4.out, P5.out, X.out, L.out, M4.out, M5.out, N45.out, D4.out, D5.out⟩)
      · refine box_step (by rfl) (N := 5) rfl (cs := #[.string ⟨#[]⟩, .bool false]) (t := 110) (by first | (go_simp; done) | (go_simp; rfl)) ?_
        intro g5 hg5 W5 hbx hbl
        have M5 := Aside0.mk (show w.heap.size ≤ g5 by rw [hg5]; exact L.out.size)
        have D5 := Aside0.mk (show g2 ≠ g5 by rw [hg5]; exact Nat.ne_of_lt (blk_lt X.out))
        have N45 := Aside0.mk (show g4 ≠ g5 by rw [hg5]; exact Nat.ne_of_lt (blk_lt P4.out))
        have n_X := Aside0.mk (blk_below X.out hbl)
        have n_L := Aside0.mk (below_step L.out hbl)
        have n_P4 := Aside0.mk (blk_below P4.out hbl)
        clear X L P4
        have X := n_X
        have L := n_L
        have P4 := n_P4
        clear n_X n_L n_P4
        have P5 := Aside0.mk hbx
        clear hbx hbl hg5
        refine hK.out _ _ trivial (fun _ => ?_)
        clear hK K
        refine norm_ (a' := ?_) ?_ ?_
        rotate_left
        · simp only [Act.put, List.setIfInBounds_toArray, List.set_cons_zero, List.set_cons_succ]
          rfl
        refine one_ (i := 16) (N := some 40) #[true, true, true, true, true, true, true, true, true, true, true, true, true, true, true, true, true, false, false, false, true, true, false, false] rfl rfl (by kernel_rfl) (by simp) (fun K hK => ?_)
        have hsz := Aside0.mk L.out.size
        refine goes_ Try.func55 (by kernel_rfl) rfl #[.agg #[.string (s.extract 5 n), .bool false], (rq0 (bt s 2) (bt s 3 * 256 + bt s 4)).v (.slice none 0 0)] (by rfl) rfl rfl (by simp only [List.map_toArray, List.map_cons, List.map_nil] <;> rfl) ?_
        refine (hq.out _).mono ?_
        rintro e Wc ⟨u, rfl, hr, hbl⟩
        have R := Aside0.mk (Kd.R_lower hr hsz.out)
        have n_X := Aside0.mk (blk_below X.out hbl)
        have n_L := Aside0.mk (below_step L.out hbl)
        have n_P4 := Aside0.mk (blk_below P4.out hbl)
        have n_P5 := Aside0.mk (blk_below P5.out hbl)
        clear X L P4 P5
        have X := n_X
        have L := n_L
        have P4 := n_P4
        have P5 := n_P5
        clear n_X n_L n_P4 n_P5
        clear hr hbl hsz
        obtain ⟨B, m, hu⟩ := Kd.R_slice R.out
        subst hu
        refine ⟨_, rfl, hK.out _ _ trivial (fun _ => ?_)⟩
        clear hK K
        refine norm_ (a' := ?_) ?_ ?_
        rotate_left
        · simp only [Act.put, List.setIfInBounds_toArray, List.set_cons_zero, List.set_cons_succ]
          rfl
        refine pure_ (i := 17) (N := some 23) (v := ?_) (a' := ?_) #[true, true, true, true, true, true, true, true, true, true, true, true, true, true, true, true, true, true, false, false, true, true, false, false] rfl rfl (by kernel_rfl) (fun _ _ _ h => h) (Or.inl ⟨by rfl, ?_⟩) ?_ ?_
        rotate_left
        · intro w'
          go_simp
          with_reducible rfl
        rotate_left
        · simp only [Act.put, List.setIfInBounds_toArray, List.set_cons_zero, List.set_cons_succ]
          rfl
        refine pure_ (i := 18) (N := some 41) (v := ?_) (a' := ?_) #[true, true, true, true, true, true, true, true, true, true, true, true, true, true, true, true, true, true, true, false, true, true, false, false] rfl rfl (by kernel_rfl) (fun _ _ _ h => h) (Or.inl ⟨by rfl, ?_⟩) ?_ ?_
        rotate_left
        · intro w'
          go_simp
          with_reducible rfl
        rotate_left
        · simp only [Act.put, List.setIfInBounds_toArray, List.set_cons_zero, List.set_cons_succ]
          rfl
        refine pure_ (i := 19) (N := some 42) (v := ?_) (a' := ?_) #[true, true, true, true, true, true, true, true, true, true, true, true, true, true, true, true, true, true, true, true, true, true, false, false] rfl rfl (by kernel_rfl) (fun _ _ _ h => h) (Or.inl ⟨by rfl, ?_⟩) ?_ ?_
        rotate_left
        · intro w'
          go_simp
          with_reducible rfl
        rotate_left
        · simp only [Act.put, List.setIfInBounds_toArray, List.set_cons_zero, List.set_cons_succ]
          rfl
        exact norm_ (by rfl) (hjoin.out ⟨B, m, g4, g5⟩ _ ⟨R.out, P4.out, P5.out, X.out, L.out, M4.out, M5.out, N45.out, D4.out, D5.out⟩)
    · refine box_step (by rfl) (N := 5) rfl (cs := #[.string ⟨#[]⟩, .bool false]) (t := 110) (by first | (go_simp; done) | (go_simp; rfl)) ?_
      intro g5 hg5 W5 hbx hbl
      have M5 := Aside0.mk (show w.heap.size ≤ g5 by rw [hg5]; exact L.out.size)
      have D5 := Aside0.mk (show g2 ≠ g5 by rw [hg5]; exact Nat.ne_of_lt (blk_lt X.out))
      have n_X := Aside0.mk (blk_below X.out hbl)
      have n_L := Aside0.mk (below_step L.out hbl)
      clear X L
      have X := n_X
      have L := n_L
      clear n_X n_L
      have P5 := Aside0.mk hbx
      clear hbx hbl hg5
      refine hK.out _ _ trivial (fun _ => ?_)
      clear hK K
      refine norm_ (a' := ?_) ?_ ?_
      rotate_left
      · simp only [Act.put, List.setIfInBounds_toArray, List.set_cons_zero, List.set_cons_succ]
        rfl
      refine two_ (i := 16) (j := 20) (Ni := some 40) (Nj := some 4) #[true, true, true, true, true, true, true, true, true, true, true, true, true, true, true, true, true, false, false, false, false, true, false, false] #[true, true, true, true, true, true, true, true, true, true, true, true, true, true, true, true, false, false, false, false, true, true, false, false] rfl rfl rfl rfl (by kernel_rfl) (by simp) (by simp) (fun K hK => ?_) (fun K hK => ?_)
      · have hsz := Aside0.mk L.out.size
        refine goes_ Try.func55 (by kernel_rfl) rfl #[.agg #[.string (s.extract 5 n), .bool false], (rq0 (bt s 2) (bt s 3 * 256 + bt s 4)).v (.slice none 0 0)] (by rfl) rfl rfl (by simp only [List.map_toArray, List.map_cons, List.map_nil] <;> rfl) ?_
        refine (hq.out _).mono ?_
        rintro e Wc ⟨u, rfl, hr, hbl⟩
        have R := Aside0.mk (Kd.R_lower hr hsz.out)
        have n_X := Aside0.mk (blk_below X.out hbl)
        have n_L := Aside0.mk (below_step L.out hbl)
        have n_P5 := Aside0.mk (blk_below P5.out hbl)
        clear X L P5
        have X := n_X
        have L := n_L
        have P5 := n_P5
        clear n_X n_L n_P5
        clear hr hbl hsz
        obtain ⟨B, m, hu⟩ := Kd.R_slice R.out
        subst hu
        refine ⟨_, rfl, hK.out _ _ trivial (fun _ => ?_)⟩
        clear hK K
        refine norm_ (a' := ?_) ?_ ?_
        rotate_left
        · simp only [Act.put, List.setIfInBounds_toArray, List.set_cons_zero, List.set_cons_succ]
          rfl
        refine pure_ (i := 17) (N := some 23) (v := ?_) (a' := ?_) #[true, true, true, true, true, true, true, true, true, true, true, true, true, true, true, true, true, true, false, false, false, true, false, false] rfl rfl (by kernel_rfl) (fun _ _ _ h => h) (Or.inl ⟨by rfl, ?_⟩) ?_ ?_
        rotate_left
        · intro w'
          go_simp
          with_reducible rfl
        rotate_left
        · simp only [Act.put, List.setIfInBounds_toArray, List.set_cons_zero, List.set_cons_succ]
          rfl
        refine pure_ (i := 18) (N := some 41) (v := ?_) (a' := ?_) #[true, true, true, true, true, true, true, true, true, true, true, true, true, true, true, true, true, true, true, false, false, true, false, false] rfl rfl (by kernel_rfl) (fun _ _ _ h => h) (Or.inl ⟨by rfl, ?_⟩) ?_ ?_
        rotate_left
        · intro w'
          go_simp
          with_reducible rfl
        rotate_left
        · simp only [Act.put, List.setIfInBounds_toArray, List.set_cons_zero, List.set_cons_succ]
          rfl
        refine pure_ (i := 19) (N := some 42) (v := ?_) (a' := ?_) #[true, true, true, true, true, true, true, true, true, true, true, true, true, true, true, true, true, true, true, true, false, true, false, false] rfl rfl (by kernel_rfl) (fun _ _ _ h => h) (Or.inl ⟨by rfl, ?_⟩) ?_ ?_
        rotate_left
        · intro w'
          go_simp
          with_reducible rfl
        rotate_left
        · simp only [Act.put, List.setIfInBounds_toArray, List.set_cons_zero, List.set_cons_succ]
          rfl
        refine one_ (i := 20) (N := some 4) #[true, true, true, true, true, true, true, true, true, true, true, true, true, true, true, true, true, true, true, true, true, true, false, false] rfl rfl (by kernel_rfl) (by simp) (fun K hK => ?_)
        refine box_step (by rfl) (N := 4) rfl (cs := #[.int .i64 0, .int .i64 0, .int .i64 0, .string ⟨#[]⟩, .int .i64 0, .string ⟨#[]⟩, .int .i64 0, .string ⟨#[]⟩, .int .i64 0, .int .i64 0, .int .i64 0, .bool false, .string ⟨#[]⟩, .string ⟨#[]⟩, .int .i64 0, .int .i64 0, .int .i64 0, .int .i64 0, .int .i64 0, .slice none 0 0]) (t := 45) (by first | (go_simp; done) | (go_simp; rfl)) ?_
        intro g4 hg4 W4 hbx hbl
        have M4 := Aside0.mk (show w.heap.size ≤ g4 by rw [hg4]; exact L.out.size)
        have D4 := Aside0.mk (show g2 ≠ g4 by rw [hg4]; exact Nat.ne_of_lt (blk_lt X.out))
        have N45 := Aside0.mk (show g4 ≠ g5 by rw [hg4]; exact Nat.ne_of_gt (blk_lt P5.out))
        have n_X := Aside0.mk (blk_below X.out hbl)
        have n_L := Aside0.mk (below_step L.out hbl)
        have n_P5 := Aside0.mk (blk_below P5.out hbl)
        have n_R := Aside0.mk (Kd.R_below R.out hbl)
        clear X L P5 R
        have X := n_X
        have L := n_L
        have P5 := n_P5
        have R := n_R
        clear n_X n_L n_P5 n_R
        have P4 := Aside0.mk hbx
        clear hbx hbl hg4
        refine hK.out _ _ trivial (fun _ => ?_)
        clear hK K
        refine norm_ (a' := ?_) ?_ ?_
        rotate_left
        · simp only [Act.put, List.setIfInBounds_toArray, List.set_cons_zero, List.set_cons_succ]
          rfl
        exact norm_ (by rfl) (hjoin.out ⟨B, m, g4, g5⟩ _ ⟨R.out, P4.out, P5.out, X.out, L.out, M4.out, M5.out, N45.out, D4.out, D5.out⟩)
      · refine box_step (by rfl) (N := 4) rfl (cs := #[.int .i64 0, .int .i64 0, .int .i64 0, .string ⟨#[]⟩, .int .i64 0, .string ⟨#[]⟩, .int .i64 0, .string ⟨#[]⟩, .int .i64 0, .int .i64 0, .int .i64 0, .bool false, .string ⟨#[]⟩, .string ⟨#[]⟩, .int .i64 0, .int .i64 0, .int .i64 0, .int .i64 0, .int .i64 0, .slice none 0 0]) (t := 45) (by first | (go_simp; done) | (go_simp; rfl)) ?_
        intro g4 hg4 W4 hbx hbl
        have M4 := Aside0.mk (show w.heap.size ≤ g4 by rw [hg4]; exact L.out.size)
        have D4 := Aside0.mk (show g2 ≠ g4 by rw [hg4]; exact Nat.ne_of_lt (blk_lt X.out))
        have N45 := Aside0.mk (show g4 ≠ g5 by rw [hg4]; exact Nat.ne_of_gt (blk_lt P5.out))
        have n_X := Aside0.mk (blk_below X.out hbl)
        have n_L := Aside0.mk (below_step L.out hbl)
        have n_P5 := Aside0.mk (blk_below P5.out hbl)
        clear X L P5
        have X := n_X
        have L := n_L
        have P5 := n_P5
        clear n_X n_L n_P5
        have P4 := Aside0.mk hbx
        clear hbx hbl hg4
        refine hK.out _ _ trivial (fun _ => ?_)
        clear hK K
        refine norm_ (a' := ?_) ?_ ?_
        rotate_left
        · simp only [Act.put, List.setIfInBounds_toArray, List.set_cons_zero, List.set_cons_succ]
          rfl
        refine one_ (i := 16) (N := some 40) #[true, true, true, true, true, true, true, true, true, true, true, true, true, true, true, true, true, false, false, false, true, true, false, false] rfl rfl (by kernel_rfl) (by simp) (fun K hK => ?_)
        have hsz := Aside0.mk L.out.size
        refine goes_ Try.func55 (by kernel_rfl) rfl #[.agg #[.string (s.extract 5 n), .bool false], (rq0 (bt s 2) (bt s 3 * 256 + bt s 4)).v (.slice none 0 0)] (by rfl) rfl rfl (by simp only [List.map_toArray, List.map_cons, List.map_nil] <;> rfl) ?_
        refine (hq.out _).mono ?_
        rintro e Wc ⟨u, rfl, hr, hbl⟩
        have R := Aside0.mk (Kd.R_lower hr hsz.out)
        have n_X := Aside0.mk (blk_below X.out hbl)
        have n_L := Aside0.mk (below_step L.out hbl)
        have n_P5 := Aside0.mk (blk_below P5.out hbl)
        have n_P4 := Aside0.mk (blk_below P4.out hbl)
        clear X L P5 P4
        have X := n_X
        have L := n_L
        have P5 := n_P5
        have P4 := n_P4
        clear n_X n_L n_P5 n_P4
        clear hr hbl hsz
        obtain ⟨B, m, hu⟩ := Kd.R_slice R.out
        subst hu
        refine ⟨_, rfl, hK.out _ _ trivial (fun _ => ?_)⟩
        clear hK K
        refine norm_ (a' := ?_) ?_ ?_
        rotate_left
        · simp only [Act.put, List.setIfInBounds_toArray, List.set_cons_zero, List.set_cons_succ]
          rfl
        refine pure_ (i := 17) (N := some 23) (v := ?_) (a' := ?_) #[true, true, true, true, true, true, true, true, true, true, true, true, true, true, true, true, true, true, false, false, true, true, false, false] rfl rfl (by kernel_rfl) (fun _ _ _ h => h) (Or.inl ⟨by rfl, ?_⟩) ?_ ?_
        rotate_left
        · intro w'
          go_simp
          with_reducible rfl
        rotate_left
        · simp only [Act.put, List.setIfInBounds_toArray, List.set_cons_zero, List.set_cons_succ]
          rfl
        refine pure_ (i := 18) (N := some 41) (v := ?_) (a' := ?_) #[true, true, true, true, true, true, true, true, true, true, true, true, true, true, true, true, true, true, true, false, true, true, false, false] rfl rfl (by kernel_rfl) (fun _ _ _ h => h) (Or.inl ⟨by rfl, ?_⟩) ?_ ?_
        rotate_left
        · intro w'
          go_simp
          with_reducible rfl
        rotate_left
        · simp only [Act.put, List.setIfInBounds_toArray, List.set_cons_zero, List.set_cons_succ]
          rfl
        refine pure_ (i := 19) (N := some 42) (v := ?_) (a' := ?_) #[true, true, true, true, true, true, true, true, true, true, true, true, true, true, true, true, true, true, true, true, true, true, false, false] rfl rfl (by kernel_rfl) (fun _ _ _ h => h) (Or.inl ⟨by rfl, ?_⟩) ?_ ?_
        rotate_left
        · intro w'
          go_simp
          with_reducible rfl
        rotate_left
        · simp only [Act.put, List.setIfInBounds_toArray, List.set_cons_zero, List.set_cons_succ]
          rfl
        exact norm_ (by rfl) (hjoin.out ⟨B, m, g4, g5⟩ _ ⟨R.out, P4.out, P5.out, X.out, L.out, M4.out, M5.out, N45.out, D4.out, D5.out⟩)

end Go.Proofs.Ytlgihjhlkpmpnaa.Wire
