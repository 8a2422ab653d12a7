import Derived.Test.YtlgihjhlkpmpnaaRWirePa
namespace Go.Proofs.Ytlgihjhlkpmpnaa.Wire
set_option linter.unusedVariables false
set_option linter.unusedSimpArgs false
open Go.RowKit Go.Proofs.YtlgihjhlkpmpnaaW.PrintWords Go.Proofs.YtlgihjhlkpmpnaaW.PrintLast Go.Proofs.YtlgihjhlkpmpnaaW.PrintMore Go.Proofs.Ytlgihjhlkpmpnaa.Hand Go.Proofs.Ytlgihjhlkpmpnaa.PWire Go.Proofs.Ytlgihjhlkpmpnaa.PureNums
theorem results_ct {P : Program} {fn : Func} {p u : Tmp} {ty : TypeId} (h : fn.results = #[.cell p ty, .tmp u]) (tmps : Array Value) (w : World) (g : Nat) (t : TypeId) (cs : Array Value) (fr : Nat × Nat) (d : TypeDesc)
    (hp : tmps.getD p undef = .pointer (some ⟨g, 0, none⟩)) (hg : w.heap[g]? = some (.cells cs t fr))
    (hu : P.underlying ty = some d) (hd : (match d with | .struct _ | .array _ _ => true | _ => false) = true) (hi : (P.info? ty).map (·.size) = some cs.size) :
    (results fn tmps).run P w = .ok (.tuple #[.agg cs, tmps.getD u undef]) w := by
  have hp' : tmps[p]?.getD undef = .pointer (some ⟨g, 0, none⟩) := by simpa using hp
  simp [results, h, hp', asAddr, run_loadVar_row w g t ty cs fr d hg hu hd hi]
/-- all blocks but two are as they were -/
structure Far2 (g h : Nat) (w w' : World) : Prop where
  os : w'.os = w.os
  tape : w'.tape = w.tape
  output : w'.output = w.output
  size : w.heap.size ≤ w'.heap.size
  block : ∀ k, k < w.heap.size → k ≠ g → k ≠ h → w'.heap[k]? = w.heap[k]?
theorem Far2.refl (g h : Nat) (w : World) : Far2 g h w w := ⟨rfl, rfl, rfl, Nat.le_refl _, fun _ _ _ _ => rfl⟩
theorem Far2.below {g h : Nat} {w W W' : World} (f : Far2 g h w W) (k : Below W.heap.size W W') : Far2 g h w W' :=
  ⟨k.os.trans f.os, k.tape.trans f.tape, k.output.trans f.output, Nat.le_trans f.size k.size, fun i hi h1 h2 => (k.block i (Nat.lt_of_lt_of_le hi f.size)).trans (f.block i hi h1 h2)⟩
theorem Far2.put {g h b : Nat} {w W W' : World} (f : Far2 g h w W) (k : W.grownBy W' (some b)) (hb : b = g ∨ b = h ∨ w.heap.size ≤ b) : Far2 g h w W' :=
  ⟨k.os.trans f.os, k.tape.trans f.tape, k.output.trans f.output, Nat.le_trans f.size k.size, fun i hi h1 h2 => (k.block i (Nat.lt_of_lt_of_le hi f.size) (fun e => by
    have := Option.some.inj e
    rcases hb with hb | hb | hb <;> omega)).trans (f.block i hi h1 h2)⟩
theorem Far2.drewN {g h : Nat} {w W : World} (f : Far2 g h w W) (n : Nat) : Far2 g h w (W.drewN n) := ⟨f.os, f.tape, f.output, f.size, f.block⟩
theorem Far2.far {g h : Nat} {w0 w W : World} (f : Far2 g h w W) (hB : w0.grownBy w (some g)) (hh : w0.heap.size ≤ h) : w0.grownBy W (some g) :=
  ⟨f.os.trans hB.os, f.tape.trans hB.tape, f.output.trans hB.output, Nat.le_trans hB.size f.size, fun i hi hne => (f.block i (Nat.lt_of_lt_of_le hi hB.size) (fun e => hne (by rw [e])) (by omega)).trans (hB.block i hi hne)⟩
/-- what Feed tells, and makes of what is held -/
def feedB (held : ByteArray) (br : Bool) (s : ByteArray) : ByteArray × Int := if br then (held, 38) else feedR held s
set_option maxHeartbeats 4000000 in
theorem feed_calls (g : Nat) (held : ByteArray) (br : Bool) (s : ByteArray) (w : World) (hg : w.heap[g]? = some (prow held br)) (hz : held.size ≤ 4000) (hz2 : s.size ≤ 140737488355328) :
    Calls Try.prog 16 #[.pointer (some ⟨g, 0, none⟩), .string s] w fun e w' => e = .returned (.int .i64 (feedB held br s).2) ∧ w'.heap[g]? = some (prow (feedB held br s).1 br) ∧ w.grownBy w' (some g) := by
  have hmf : ∀ (fn : Fn) (first cap : Array Value) (w : World), (Instr.makeFunc fn first cap).run Try.prog w = .ok (.func fn first cap) w := fun _ _ _ _ => rfl
  have hgl := blk_lt hg
  cases br with
  | true =>
    go_enter Try.func16, Try.ntmps16
    go_wp2_with fail
    have H1 : ((w.alloc (.cells #[.pointer (some ⟨g, 0, none⟩)] 25)).alloc (.cells #[.string s] 9)).heap[w.heap.size]? = some (.cells #[.pointer (some ⟨g, 0, none⟩)] 25 (0, 0)) := blk_alloc (blk_new w _) _
    have H2 : ((w.alloc (.cells #[.pointer (some ⟨g, 0, none⟩)] 25)).alloc (.cells #[.string s] 9)).heap[w.heap.size + 1]? = some (.cells #[.string s] 9 (0, 0)) := by
      have := blk_new (w.alloc (.cells #[.pointer (some ⟨g, 0, none⟩)] 25)) (.cells #[.string s] 9)
      rw [World.size_alloc] at this
      exact this
    have HB := below_alloc (below_alloc (Below.refl w.heap.size w) (.cells #[.pointer (some ⟨g, 0, none⟩)] 25)) (.cells #[.string s] 9)
    have HG := HB.block g hgl
    refine (unless_broken _ g held _ (HG.trans hg)).mono ?_
    rintro e w1 ⟨rfl, rfl⟩
    go_wp2_with fail
    go_ret
    exact ⟨rfl, HG.trans hg, far_of_below _ HB⟩
  | false =>
    go_enter Try.func16, Try.ntmps16
    go_wp2_with fail
    have H1 : ((w.alloc (.cells #[.pointer (some ⟨g, 0, none⟩)] 25)).alloc (.cells #[.string s] 9)).heap[w.heap.size]? = some (.cells #[.pointer (some ⟨g, 0, none⟩)] 25 (0, 0)) := blk_alloc (blk_new w _) _
    have H2 : ((w.alloc (.cells #[.pointer (some ⟨g, 0, none⟩)] 25)).alloc (.cells #[.string s] 9)).heap[w.heap.size + 1]? = some (.cells #[.string s] 9 (0, 0)) := by
      have := blk_new (w.alloc (.cells #[.pointer (some ⟨g, 0, none⟩)] 25)) (.cells #[.string s] 9)
      rw [World.size_alloc] at this
      exact this
    have HB := below_alloc (below_alloc (Below.refl w.heap.size w) (.cells #[.pointer (some ⟨g, 0, none⟩)] 25)) (.cells #[.string s] 9)
    have HG := HB.block g hgl
    refine (unless_calls 51 #[.pointer (some ⟨w.heap.size, 0, none⟩), .pointer (some ⟨w.heap.size + 1, 0, none⟩)] (fun _ _ => enters_ Try.func51 (by kernel_rfl) rfl _ _) g held _ (HG.trans hg) _ (feed1_calls w.heap.size (w.heap.size + 1) g held s _ H1 H2 (HG.trans hg) hz hz2 (by omega) (by omega))).mono ?_
    rintro e w1 ⟨v, rfl, rfl, h1, h2⟩
    have HF := far_trans (far_of_below (some g) HB) h2
    go_wp2_with fail
    go_ret
    exact ⟨rfl, h1, HF⟩
theorem feed_nil (s : ByteArray) (w : World) :
    Calls Try.prog 16 #[.pointer none, .string s] w fun e w' => e = .returned (.int .i64 7) ∧ Below w.heap.size w w' := by
  have hmf : ∀ (fn : Fn) (first cap : Array Value) (w : World), (Instr.makeFunc fn first cap).run Try.prog w = .ok (.func fn first cap) w := fun _ _ _ _ => rfl
  go_enter Try.func16, Try.ntmps16
  go_wp2_with fail
  have H1 : ((w.alloc (.cells #[.pointer none] 25)).alloc (.cells #[.string s] 9)).heap[w.heap.size]? = some (.cells #[.pointer none] 25 (0, 0)) := blk_alloc (blk_new w _) _
  have H2 : ((w.alloc (.cells #[.pointer none] 25)).alloc (.cells #[.string s] 9)).heap[w.heap.size + 1]? = some (.cells #[.string s] 9 (0, 0)) := by
    have := blk_new (w.alloc (.cells #[.pointer none] 25)) (.cells #[.string s] 9)
    rw [World.size_alloc] at this
    exact this
  have HB := below_alloc (below_alloc (Below.refl w.heap.size w) (.cells #[.pointer none] 25)) (.cells #[.string s] 9)
  refine (unless_nil _ _).mono ?_
  rintro e w1 ⟨rfl, rfl⟩
  go_wp2_with fail
  go_ret
  exact ⟨rfl, HB⟩
/-- what is behind the first request -/
noncomputable def cutS (held : ByteArray) : ByteArray := held.extract (decW held).n.toNat held.size
set_option maxHeartbeats 16000000 in
set_option maxRecDepth 100000 in
theorem next1_calls (gp go g : Nat) (held : ByteArray) (w : World) (hp : w.heap[gp]? = some (.cells #[.pointer (some ⟨g, 0, none⟩)] 25 (0, 0))) (ho : w.heap[go]? = some (.cells #[.int .i64 0, .int .i64 0, .int .i64 0, .string ⟨#[]⟩, .int .i64 0, .string ⟨#[]⟩, .int .i64 0, .string ⟨#[]⟩, .int .i64 0, .int .i64 0, .int .i64 0, .bool false, .string ⟨#[]⟩, .string ⟨#[]⟩, .int .i64 0, .int .i64 0, .int .i64 0, .int .i64 0, .int .i64 0, .slice none 0 0] 45 (0, 0))) (hg : w.heap[g]? = some (prow held false)) (hz : held.size ≤ 100000000) (d1 : gp ≠ g) (d2 : go ≠ g) (d3 : gp ≠ go) :
    Calls Try.prog 52 #[.pointer (some ⟨gp, 0, none⟩), .pointer (some ⟨go, 0, none⟩)] w fun e w' => ∃ v, e = .returned (.int .i64 v) ∧ v = (decW held).err ∧ (∃ u, w'.heap[go]? = some (.cells ((decW held).y.cs u) 45 (0, 0)) ∧ Kd.R k102 102 w' w.heap.size (fun _ => True) u (decW held).ps) ∧ w'.heap[g]? = some (prow (cutS held) ((decW held).err == 38)) ∧ Far2 g go w w' := by
  have hdc := Aside0.mk (fun W : World => decode_calls held W hz)
  have hn : 0 ≤ (decW held).n ∧ (decW held).n ≤ held.size := by
    rcases dec_cases held with ⟨_, h, _⟩ | ⟨_, _, h1, _, h2, _⟩ <;> omega
  have hcut : Aside0 (cutS held = held.extract (decW held).n.toNat held.size) := ⟨rfl⟩
  obtain ⟨y, hy⟩ : ∃ y, (decW held).y = y := ⟨_, rfl⟩
  obtain ⟨ps, hps⟩ : ∃ ps, (decW held).ps = ps := ⟨_, rfl⟩
  obtain ⟨er, her⟩ : ∃ er, (decW held).err = er := ⟨_, rfl⟩
  obtain ⟨n, hnn⟩ : ∃ n : Nat, (decW held).n = n := ⟨(decW held).n.toNat, by omega⟩
  rw [hy, hps, her, hnn] at hdc
  rw [hnn] at hcut hn
  rw [hy, hps, her, hcut.out]
  have hn1 : n ≤ held.size := by omega
  rw [Int.toNat_natCast]
  clear hcut hy hps her hnn hn
  generalize hcc : held.extract n held.size = rest
  have P := Aside0.mk hp
  have O := Aside0.mk ho
  have Gr := Aside0.mk hg
  have D1 := Aside0.mk d1
  have D2 := Aside0.mk d2
  have D3 := Aside0.mk d3
  have F := Aside0.mk (Far2.refl g go w)
  have GL := Aside0.mk (blk_lt hg)
  have OL := Aside0.mk (blk_lt ho)
  have PL := Aside0.mk (blk_lt hp)
  clear hp ho hg d1 d2 d3
  have c0 : w.cell? ⟨gp, 0, none⟩ = some (.pointer (some ⟨g, 0, none⟩)) := (blk_cell P.out 0).trans rfl
  have c1 : w.cell? ⟨g, 0, none⟩ = some (.string held) := (blk_cell Gr.out 0).trans rfl
  go_enter Try.func52, Try.ntmps52
  go_wp2_with fail
  refine (hdc.out _).mono ?_
  rintro e w1 ⟨u, rfl, hr, hb⟩
  obtain ⟨C, c, hu⟩ := Kd.R_slice hr
  subst hu
  clear c0 c1 hdc
  have R := Aside0.mk hr
  have n_P := Aside0.mk (blk_below P.out hb)
  have n_O := Aside0.mk (blk_below O.out hb)
  have n_Gr := Aside0.mk (blk_below Gr.out hb)
  have n_F := Aside0.mk (F.out.below hb)
  clear P O Gr F hb hr
  have P := n_P
  have O := n_O
  have Gr := n_Gr
  have F := n_F
  clear n_P n_O n_Gr n_F
  go_upto_region 3 with (first
    | ((with_reducible refine gate_dst (N := 3) rfl ?_); refine box_event rfl (N := 3) rfl (cs := #[.int .i64 0, .int .i64 0, .int .i64 0, .string ⟨#[]⟩, .int .i64 0, .string ⟨#[]⟩, .int .i64 0, .string ⟨#[]⟩, .int .i64 0, .int .i64 0, .int .i64 0, .bool false, .string ⟨#[]⟩, .string ⟨#[]⟩, .int .i64 0, .int .i64 0, .int .i64 0, .int .i64 0, .int .i64 0, .slice none 0 0]) (t := 45) ?hr ?_; (case hr => first | (go_simp; done) | (go_simp; rfl)); intro g3 hg3 w2 hbx hbl; have G3 := Aside0.mk (show w.heap.size ≤ g3 by rw [hg3]; exact F.out.size); have n_P := Aside0.mk (blk_below P.out hbl); have n_O := Aside0.mk (blk_below O.out hbl); have n_Gr := Aside0.mk (blk_below Gr.out hbl); have n_R := Aside0.mk (Kd.R_below R.out hbl); have n_F := Aside0.mk (F.out.below hbl); clear P O Gr R F; have P := n_P; have O := n_O; have Gr := n_Gr; have R := n_R; have F := n_F; clear n_P n_O n_Gr n_R n_F; have V := Aside0.mk hbx; clear hbx hbl hg3)
    | ((with_reducible refine gate_store (t := 45) (p := 3) rfl ?_); refine store_ev rfl rfl rfl (cells := #[.int .i64 y.id, .int .i64 y.kind, .int .i64 y.label, .string y.pt, .int .i64 y.pp, .string y.tt, .int .i64 y.tp, .string y.sn, .int .i64 y.sp, .int .i64 y.sa, .int .i64 y.ss, .bool y.sc, .string y.grp, .string y.mem, .int .i64 y.gen, .int .i64 y.off, .int .i64 y.most, .int .i64 y.prod, .int .i64 y.seq, .slice C ps.length c]) rfl rfl V.out (by kernel_rfl) rfl (by kernel_rfl) ?_; intro w3 hbx hgr; have n_P := Aside0.mk (grown_at hgr P.out (by have := G3.out; have := PL.out; omega)); have n_O := Aside0.mk (grown_at hgr O.out (by have := G3.out; have := OL.out; omega)); have n_Gr := Aside0.mk (grown_at hgr Gr.out (by have := G3.out; have := GL.out; omega)); have n_R := Aside0.mk (pairs_grown R.out hgr (fun cells e => by rw [V.out] at e; simp at e)); have n_F := Aside0.mk (F.out.put hgr (.inr (.inr G3.out))); have n_V := Aside0.mk (hbx); clear P O Gr R F V hbx hgr; have P := n_P; have O := n_O; have Gr := n_Gr; have R := n_R; have F := n_F; have V := n_V; clear n_P n_O n_Gr n_R n_F n_V)
    | ((with_reducible refine gate_dst (N := 15) rfl ?_); refine load_ev (N := 15) rfl rfl rfl (cs := #[.int .i64 y.id, .int .i64 y.kind, .int .i64 y.label, .string y.pt, .int .i64 y.pp, .string y.tt, .int .i64 y.tp, .string y.sn, .int .i64 y.sp, .int .i64 y.sa, .int .i64 y.ss, .bool y.sc, .string y.grp, .string y.mem, .int .i64 y.gen, .int .i64 y.off, .int .i64 y.most, .int .i64 y.prod, .int .i64 y.seq, .slice C ps.length c]) rfl V.out Try.underlying45 rfl (by kernel_rfl) ?_)
    | ((with_reducible refine gate_store (t := 45) (p := 1) rfl ?_); refine store_ev rfl rfl rfl (cells := #[.int .i64 y.id, .int .i64 y.kind, .int .i64 y.label, .string y.pt, .int .i64 y.pp, .string y.tt, .int .i64 y.tp, .string y.sn, .int .i64 y.sp, .int .i64 y.sa, .int .i64 y.ss, .bool y.sc, .string y.grp, .string y.mem, .int .i64 y.gen, .int .i64 y.off, .int .i64 y.most, .int .i64 y.prod, .int .i64 y.seq, .slice C ps.length c]) rfl rfl O.out (by kernel_rfl) rfl (by kernel_rfl) ?_; intro w4 hbx hgr; have n_P := Aside0.mk (grown_at hgr P.out D3.out); have n_Gr := Aside0.mk (grown_at hgr Gr.out (fun e => D2.out e.symm)); have n_R := Aside0.mk (pairs_grown R.out hgr (fun cells e => by rw [O.out] at e; simp at e)); have n_F := Aside0.mk (F.out.put hgr (.inr (.inl rfl))); have n_O := Aside0.mk (hbx); clear P Gr R F O hbx hgr V; have P := n_P; have Gr := n_Gr; have R := n_R; have F := n_F; have O := n_O; clear n_P n_Gr n_R n_F n_O))
  have c0 : w4.cell? ⟨gp, 0, none⟩ = some (.pointer (some ⟨g, 0, none⟩)) := (blk_cell P.out 0).trans rfl
  have c1 : w4.cell? ⟨g, 0, none⟩ = some (.string held) := (blk_cell Gr.out 0).trans rfl
  have fz : w4.frozen? ⟨g, 0, none⟩ = false := blk_frozen Gr.out 0
  go_region
  all_goals
    clear c0 c1 fz
    obtain ⟨w6, hw6⟩ : ∃ w6, w6 = (w4.setCell ⟨g, 0, none⟩ (.string rest)).drew := ⟨_, rfl⟩
    have hgr : w4.grownBy w6 (some g) := by rw [hw6]; exact far_drew (grown_setCell w4 g 0 _)
    have hG : w6.heap[g]? = some (prow rest false) := by rw [hw6]; exact blk_drew (blk_set Gr.out 0 (.string rest))
    rw [← hw6]
    clear hw6
    have n_P := Aside0.mk (grown_at hgr P.out D1.out)
    have n_O := Aside0.mk (grown_at hgr O.out D2.out)
    have n_R := Aside0.mk (pairs_grown R.out hgr (fun cells e => by rw [Gr.out] at e; simp [prow] at e))
    have n_F := Aside0.mk (F.out.put hgr (.inl rfl))
    have n_Gr := Aside0.mk (hG)
    clear P O R F Gr hgr hG
    have P := n_P
    have O := n_O
    have R := n_R
    have F := n_F
    have Gr := n_Gr
    clear n_P n_O n_R n_F n_Gr
    have c0 : w6.cell? ⟨gp, 0, none⟩ = some (.pointer (some ⟨g, 0, none⟩)) := (blk_cell P.out 0).trans rfl
    have c1 : w6.cell? ⟨g, 1, none⟩ = some (.bool false) := (blk_cell Gr.out 1).trans rfl
    have fz : w6.frozen? ⟨g, 1, none⟩ = false := blk_frozen Gr.out 1
    go_wp2_with fail
    go_ret
    have hgr := grown_setCell w6 g 1 (.bool (er == 38))
    exact ⟨er, rfl, rfl, ⟨_, grown_at hgr O.out D2.out, pairs_grown R.out hgr (fun cells e => by rw [Gr.out] at e; simp [prow] at e)⟩, blk_set Gr.out 1 (.bool (er == 38)), F.out.put hgr (.inl rfl)⟩

/-- what Next tells, and makes of a parser -/
noncomputable def nextD (held : ByteArray) (br : Bool) : DecR := if br then ⟨38, 0, rq0 0 0, []⟩ else decW held
noncomputable def nextH (held : ByteArray) (br : Bool) : ByteArray := if br then held else cutS held
noncomputable def nextB (held : ByteArray) (br : Bool) : Bool := if br then true else ((decW held).err == 38)
set_option maxHeartbeats 16000000 in
set_option maxRecDepth 100000 in
theorem next_calls (g : Nat) (held : ByteArray) (br : Bool) (w : World) (hg : w.heap[g]? = some (prow held br)) (hz : held.size ≤ 100000000) :
    Calls Try.prog 22 #[.pointer (some ⟨g, 0, none⟩)] w fun e w' => ∃ u, e = .returned (.tuple #[(nextD held br).y.v u, .int .i64 (nextD held br).err]) ∧ Kd.R k102 102 w' w.heap.size (fun _ => True) u (nextD held br).ps ∧ w'.heap[g]? = some (prow (nextH held br) (nextB held br)) ∧ w.grownBy w' (some g) := by
  have hmf : ∀ (fn : Fn) (first cap : Array Value) (w : World), (Instr.makeFunc fn first cap).run Try.prog w = .ok (.func fn first cap) w := fun _ _ _ _ => rfl
  have GL := Aside0.mk (blk_lt hg)
  have Gr := Aside0.mk hg
  have F := Aside0.mk (far_refl w (some g))
  clear hg

  cases br with
  | true =>
    show Calls _ _ _ _ fun e w' => ∃ u, e = .returned (.tuple #[(rq0 0 0).v u, .int .i64 38]) ∧ Kd.R k102 102 w' w.heap.size (fun _ => True) u [] ∧ w'.heap[g]? = some (prow held true) ∧ w.grownBy w' (some g)
    go_enter Try.func22, Try.ntmps22
    go_upto_region 2 with (first
      | ((with_reducible refine gate_dst (N := 1) rfl ?_); refine box_event rfl (N := 1) rfl (cs := #[.pointer (some ⟨g, 0, none⟩)]) (t := 25) ?hr ?_; (case hr => first | (go_simp; done) | (go_simp; rfl)); intro gp hgp w1 hbx hbl; have GP := Aside0.mk (show w.heap.size = gp by rw [hgp]); have n_Gr := Aside0.mk (blk_below Gr.out hbl); have n_F := Aside0.mk (far_below F.out hbl); clear Gr F; have Gr := n_Gr; have F := n_F; clear n_Gr n_F; have P := Aside0.mk hbx; clear hbx hbl hgp)
      | ((with_reducible refine gate_dst (N := 2) rfl ?_); refine box_event rfl (N := 2) rfl (cs := #[.int .i64 0, .int .i64 0, .int .i64 0, .string ⟨#[]⟩, .int .i64 0, .string ⟨#[]⟩, .int .i64 0, .string ⟨#[]⟩, .int .i64 0, .int .i64 0, .int .i64 0, .bool false, .string ⟨#[]⟩, .string ⟨#[]⟩, .int .i64 0, .int .i64 0, .int .i64 0, .int .i64 0, .int .i64 0, .slice none 0 0]) (t := 45) ?hr ?_; (case hr => first | (go_simp; done) | (go_simp; rfl)); intro g2 hg2 w2 hbx hbl; have Gg2 := Aside0.mk (show w.heap.size ≤ g2 by rw [hg2]; exact F.out.size); have DGrg2 := Aside0.mk (show g ≠ g2 by rw [hg2]; exact Nat.ne_of_lt (blk_lt Gr.out)); have DPg2 := Aside0.mk (show gp ≠ g2 by rw [hg2]; exact Nat.ne_of_lt (blk_lt P.out)); have n_Gr := Aside0.mk (blk_below Gr.out hbl); have n_F := Aside0.mk (far_below F.out hbl); have n_P := Aside0.mk (blk_below P.out hbl); clear Gr F P; have Gr := n_Gr; have F := n_F; have P := n_P; clear n_Gr n_F n_P; have Bg2 := Aside0.mk hbx; clear hbx hbl hg2)
      | ((with_reducible refine gate_dst (N := 4) rfl ?_); refine box_event rfl (N := 4) rfl (cs := #[.int .i64 0, .int .i64 0, .int .i64 0, .string ⟨#[]⟩, .int .i64 0, .string ⟨#[]⟩, .int .i64 0, .string ⟨#[]⟩, .int .i64 0, .int .i64 0, .int .i64 0, .bool false, .string ⟨#[]⟩, .string ⟨#[]⟩, .int .i64 0, .int .i64 0, .int .i64 0, .int .i64 0, .int .i64 0, .slice none 0 0]) (t := 45) ?hr ?_; (case hr => first | (go_simp; done) | (go_simp; rfl)); intro g4 hg4 w3 hbx hbl; have Gg4 := Aside0.mk (show w.heap.size ≤ g4 by rw [hg4]; exact F.out.size); have DGrg4 := Aside0.mk (show g ≠ g4 by rw [hg4]; exact Nat.ne_of_lt (blk_lt Gr.out)); have DPg4 := Aside0.mk (show gp ≠ g4 by rw [hg4]; exact Nat.ne_of_lt (blk_lt P.out)); have DBg2g4 := Aside0.mk (show g2 ≠ g4 by rw [hg4]; exact Nat.ne_of_lt (blk_lt Bg2.out)); have n_Gr := Aside0.mk (blk_below Gr.out hbl); have n_F := Aside0.mk (far_below F.out hbl); have n_P := Aside0.mk (blk_below P.out hbl); have n_Bg2 := Aside0.mk (blk_below Bg2.out hbl); clear Gr F P Bg2; have Gr := n_Gr; have F := n_F; have P := n_P; have Bg2 := n_Bg2; clear n_Gr n_F n_P n_Bg2; have Bg4 := Aside0.mk hbx; clear hbx hbl hg4))
    have c0 : w3.cell? ⟨gp, 0, none⟩ = some (.pointer (some ⟨g, 0, none⟩)) := (blk_cell P.out 0).trans rfl
    go_wp2_with fail
    refine (unless_broken _ g held _ Gr.out).mono ?_
    rintro e w4 ⟨rfl, rfl⟩
    clear c0
    go_wp2_with (first
      | ((with_reducible refine gate_dst (N := 9) rfl ?_); refine load_ev (N := 9) rfl rfl rfl (cs := #[.int .i64 0, .int .i64 0, .int .i64 0, .string ⟨#[]⟩, .int .i64 0, .string ⟨#[]⟩, .int .i64 0, .string ⟨#[]⟩, .int .i64 0, .int .i64 0, .int .i64 0, .bool false, .string ⟨#[]⟩, .string ⟨#[]⟩, .int .i64 0, .int .i64 0, .int .i64 0, .int .i64 0, .int .i64 0, .slice none 0 0]) rfl Bg4.out Try.underlying45 rfl (by kernel_rfl) ?_)
      | ((with_reducible refine gate_store (t := 45) (p := 2) rfl ?_); refine store_ev rfl rfl rfl (cells := #[.int .i64 0, .int .i64 0, .int .i64 0, .string ⟨#[]⟩, .int .i64 0, .string ⟨#[]⟩, .int .i64 0, .string ⟨#[]⟩, .int .i64 0, .int .i64 0, .int .i64 0, .bool false, .string ⟨#[]⟩, .string ⟨#[]⟩, .int .i64 0, .int .i64 0, .int .i64 0, .int .i64 0, .int .i64 0, .slice none 0 0]) rfl rfl Bg2.out (by kernel_rfl) rfl (by kernel_rfl) ?_; intro w5 hbx hgr; have n_Gr := Aside0.mk (grown_at hgr Gr.out DGrg2.out); have n_F := Aside0.mk (far_new F.out hgr Gg2.out); have n_Bg2 := Aside0.mk (hbx); clear Gr F Bg2 hbx hgr; have Gr := n_Gr; have F := n_F; have Bg2 := n_Bg2; clear n_Gr n_F n_Bg2))
    refine bodyPost_ret (results_ct rfl _ _ g2 45 #[.int .i64 0, .int .i64 0, .int .i64 0, .string ⟨#[]⟩, .int .i64 0, .string ⟨#[]⟩, .int .i64 0, .string ⟨#[]⟩, .int .i64 0, .int .i64 0, .int .i64 0, .bool false, .string ⟨#[]⟩, .string ⟨#[]⟩, .int .i64 0, .int .i64 0, .int .i64 0, .int .i64 0, .int .i64 0, .slice none 0 0] (0, 0) _ rfl Bg2.out Try.underlying45 rfl (by kernel_rfl)) rfl ?_
    exact ⟨_, rfl, Kd.R_nil _ _ _ _ _, Gr.out, F.out⟩
  | false =>
    show Calls _ _ _ _ fun e w' => ∃ u, e = .returned (.tuple #[(decW held).y.v u, .int .i64 (decW held).err]) ∧ Kd.R k102 102 w' w.heap.size (fun _ => True) u (decW held).ps ∧ w'.heap[g]? = some (prow (cutS held) ((decW held).err == 38)) ∧ w.grownBy w' (some g)
    go_enter Try.func22, Try.ntmps22
    go_upto_region 2 with (first
      | ((with_reducible refine gate_dst (N := 1) rfl ?_); refine box_event rfl (N := 1) rfl (cs := #[.pointer (some ⟨g, 0, none⟩)]) (t := 25) ?hr ?_; (case hr => first | (go_simp; done) | (go_simp; rfl)); intro gp hgp w1 hbx hbl; have GP := Aside0.mk (show w.heap.size = gp by rw [hgp]); have n_Gr := Aside0.mk (blk_below Gr.out hbl); have n_F := Aside0.mk (far_below F.out hbl); clear Gr F; have Gr := n_Gr; have F := n_F; clear n_Gr n_F; have P := Aside0.mk hbx; clear hbx hbl hgp)
      | ((with_reducible refine gate_dst (N := 2) rfl ?_); refine box_event rfl (N := 2) rfl (cs := #[.int .i64 0, .int .i64 0, .int .i64 0, .string ⟨#[]⟩, .int .i64 0, .string ⟨#[]⟩, .int .i64 0, .string ⟨#[]⟩, .int .i64 0, .int .i64 0, .int .i64 0, .bool false, .string ⟨#[]⟩, .string ⟨#[]⟩, .int .i64 0, .int .i64 0, .int .i64 0, .int .i64 0, .int .i64 0, .slice none 0 0]) (t := 45) ?hr ?_; (case hr => first | (go_simp; done) | (go_simp; rfl)); intro g2 hg2 w2 hbx hbl; have Gg2 := Aside0.mk (show w.heap.size ≤ g2 by rw [hg2]; exact F.out.size); have DGrg2 := Aside0.mk (show g ≠ g2 by rw [hg2]; exact Nat.ne_of_lt (blk_lt Gr.out)); have DPg2 := Aside0.mk (show gp ≠ g2 by rw [hg2]; exact Nat.ne_of_lt (blk_lt P.out)); have n_Gr := Aside0.mk (blk_below Gr.out hbl); have n_F := Aside0.mk (far_below F.out hbl); have n_P := Aside0.mk (blk_below P.out hbl); clear Gr F P; have Gr := n_Gr; have F := n_F; have P := n_P; clear n_Gr n_F n_P; have Bg2 := Aside0.mk hbx; clear hbx hbl hg2)
      | ((with_reducible refine gate_dst (N := 4) rfl ?_); refine box_event rfl (N := 4) rfl (cs := #[.int .i64 0, .int .i64 0, .int .i64 0, .string ⟨#[]⟩, .int .i64 0, .string ⟨#[]⟩, .int .i64 0, .string ⟨#[]⟩, .int .i64 0, .int .i64 0, .int .i64 0, .bool false, .string ⟨#[]⟩, .string ⟨#[]⟩, .int .i64 0, .int .i64 0, .int .i64 0, .int .i64 0, .int .i64 0, .slice none 0 0]) (t := 45) ?hr ?_; (case hr => first | (go_simp; done) | (go_simp; rfl)); intro g4 hg4 w3 hbx hbl; have Gg4 := Aside0.mk (show w.heap.size ≤ g4 by rw [hg4]; exact F.out.size); have DGrg4 := Aside0.mk (show g ≠ g4 by rw [hg4]; exact Nat.ne_of_lt (blk_lt Gr.out)); have DPg4 := Aside0.mk (show gp ≠ g4 by rw [hg4]; exact Nat.ne_of_lt (blk_lt P.out)); have DBg2g4 := Aside0.mk (show g2 ≠ g4 by rw [hg4]; exact Nat.ne_of_lt (blk_lt Bg2.out)); have n_Gr := Aside0.mk (blk_below Gr.out hbl); have n_F := Aside0.mk (far_below F.out hbl); have n_P := Aside0.mk (blk_below P.out hbl); have n_Bg2 := Aside0.mk (blk_below Bg2.out hbl); clear Gr F P Bg2; have Gr := n_Gr; have F := n_F; have P := n_P; have Bg2 := n_Bg2; clear n_Gr n_F n_P n_Bg2; have Bg4 := Aside0.mk hbx; clear hbx hbl hg4))
    have c0 : w3.cell? ⟨gp, 0, none⟩ = some (.pointer (some ⟨g, 0, none⟩)) := (blk_cell P.out 0).trans rfl
    go_wp2_with fail
    refine (unless_calls 52 #[.pointer (some ⟨gp, 0, none⟩), .pointer (some ⟨g4, 0, none⟩)] (fun _ _ => enters_ Try.func52 (by kernel_rfl) rfl _ _) g held _ Gr.out _ (next1_calls gp g4 g held _ P.out Bg4.out Gr.out hz (by have := GP.out; have := GL.out; omega) (fun e => DGrg4.out e.symm) DPg4.out)).mono ?_
    rintro e w4 ⟨v, rfl, rfl, ⟨u, hO, hR⟩, hG, hF2⟩
    clear c0
    have n_F := Aside0.mk (hF2.far F.out Gg4.out)
    have n_B2 : Aside0 (w4.heap[g2]? = some (.cells #[.int .i64 0, .int .i64 0, .int .i64 0, .string ⟨#[]⟩, .int .i64 0, .string ⟨#[]⟩, .int .i64 0, .string ⟨#[]⟩, .int .i64 0, .int .i64 0, .int .i64 0, .bool false, .string ⟨#[]⟩, .string ⟨#[]⟩, .int .i64 0, .int .i64 0, .int .i64 0, .int .i64 0, .int .i64 0, .slice none 0 0] 45 (0, 0))) := ⟨(hF2.block g2 (blk_lt Bg2.out) (fun e => DGrg2.out e.symm) DBg2g4.out).trans Bg2.out⟩
    have n_R := Aside0.mk (Kd.R_lower hR F.out.size)
    clear F Gr Bg2 Bg4 hF2 P hR
    have F := n_F
    have Gr := Aside0.mk hG
    have Bg2 := n_B2
    have Bg4 := Aside0.mk hO
    have R := n_R
    clear n_F n_B2 n_R hG hO
    obtain ⟨C, c, hu⟩ := Kd.R_slice R.out
    subst hu
    go_wp2_with (first
      | ((with_reducible refine gate_dst (N := 9) rfl ?_); refine load_ev (N := 9) rfl rfl rfl (cs := #[.int .i64 (decW held).y.id, .int .i64 (decW held).y.kind, .int .i64 (decW held).y.label, .string (decW held).y.pt, .int .i64 (decW held).y.pp, .string (decW held).y.tt, .int .i64 (decW held).y.tp, .string (decW held).y.sn, .int .i64 (decW held).y.sp, .int .i64 (decW held).y.sa, .int .i64 (decW held).y.ss, .bool (decW held).y.sc, .string (decW held).y.grp, .string (decW held).y.mem, .int .i64 (decW held).y.gen, .int .i64 (decW held).y.off, .int .i64 (decW held).y.most, .int .i64 (decW held).y.prod, .int .i64 (decW held).y.seq, .slice C (decW held).ps.length c]) rfl Bg4.out Try.underlying45 rfl (by kernel_rfl) ?_)
      | ((with_reducible refine gate_store (t := 45) (p := 2) rfl ?_); refine store_ev rfl rfl rfl (cells := #[.int .i64 (decW held).y.id, .int .i64 (decW held).y.kind, .int .i64 (decW held).y.label, .string (decW held).y.pt, .int .i64 (decW held).y.pp, .string (decW held).y.tt, .int .i64 (decW held).y.tp, .string (decW held).y.sn, .int .i64 (decW held).y.sp, .int .i64 (decW held).y.sa, .int .i64 (decW held).y.ss, .bool (decW held).y.sc, .string (decW held).y.grp, .string (decW held).y.mem, .int .i64 (decW held).y.gen, .int .i64 (decW held).y.off, .int .i64 (decW held).y.most, .int .i64 (decW held).y.prod, .int .i64 (decW held).y.seq, .slice C (decW held).ps.length c]) rfl rfl Bg2.out (by kernel_rfl) rfl (by kernel_rfl) ?_; intro w5 hbx hgr; have n_Gr := Aside0.mk (grown_at hgr Gr.out DGrg2.out); have n_R := Aside0.mk (pairs_grown R.out hgr (fun cells e => by rw [Bg2.out] at e; simp at e)); have n_F := Aside0.mk (far_new F.out hgr Gg2.out); have n_Bg2 := Aside0.mk (hbx); clear Gr R F Bg2 hbx hgr; have Gr := n_Gr; have R := n_R; have F := n_F; have Bg2 := n_Bg2; clear n_Gr n_R n_F n_Bg2))
    refine bodyPost_ret (results_ct rfl _ _ g2 45 #[.int .i64 (decW held).y.id, .int .i64 (decW held).y.kind, .int .i64 (decW held).y.label, .string (decW held).y.pt, .int .i64 (decW held).y.pp, .string (decW held).y.tt, .int .i64 (decW held).y.tp, .string (decW held).y.sn, .int .i64 (decW held).y.sp, .int .i64 (decW held).y.sa, .int .i64 (decW held).y.ss, .bool (decW held).y.sc, .string (decW held).y.grp, .string (decW held).y.mem, .int .i64 (decW held).y.gen, .int .i64 (decW held).y.off, .int .i64 (decW held).y.most, .int .i64 (decW held).y.prod, .int .i64 (decW held).y.seq, .slice C (decW held).ps.length c] (0, 0) _ rfl Bg2.out Try.underlying45 rfl (by kernel_rfl)) rfl ?_
    exact ⟨_, rfl, R.out, Gr.out, F.out⟩
set_option maxHeartbeats 16000000 in
set_option maxRecDepth 100000 in
theorem next_nil (w : World) :
    Calls Try.prog 22 #[.pointer none] w fun e w' => e = .returned (.tuple #[(rq0 0 0).v (.slice none 0 0), .int .i64 7]) ∧ Below w.heap.size w w' := by
  have hmf : ∀ (fn : Fn) (first cap : Array Value) (w : World), (Instr.makeFunc fn first cap).run Try.prog w = .ok (.func fn first cap) w := fun _ _ _ _ => rfl
  have F := Aside0.mk (Below.refl w.heap.size w)
  go_enter Try.func22, Try.ntmps22
  go_upto_region 2 with (first
    | ((with_reducible refine gate_dst (N := 1) rfl ?_); refine box_event rfl (N := 1) rfl (cs := #[.pointer none]) (t := 25) ?hr ?_; (case hr => first | (go_simp; done) | (go_simp; rfl)); intro gp hgp w1 hbx hbl; have n_F := Aside0.mk (below_step F.out hbl); clear F; have F := n_F; clear n_F; have P := Aside0.mk hbx; clear hbx hbl hgp)
    | ((with_reducible refine gate_dst (N := 2) rfl ?_); refine box_event rfl (N := 2) rfl (cs := #[.int .i64 0, .int .i64 0, .int .i64 0, .string ⟨#[]⟩, .int .i64 0, .string ⟨#[]⟩, .int .i64 0, .string ⟨#[]⟩, .int .i64 0, .int .i64 0, .int .i64 0, .bool false, .string ⟨#[]⟩, .string ⟨#[]⟩, .int .i64 0, .int .i64 0, .int .i64 0, .int .i64 0, .int .i64 0, .slice none 0 0]) (t := 45) ?hr ?_; (case hr => first | (go_simp; done) | (go_simp; rfl)); intro g2 hg2 w2 hbx hbl; have Gg2 := Aside0.mk (show w.heap.size ≤ g2 by rw [hg2]; exact F.out.size); have n_F := Aside0.mk (below_step F.out hbl); have n_P := Aside0.mk (blk_below P.out hbl); clear F P; have F := n_F; have P := n_P; clear n_F n_P; have Bg2 := Aside0.mk hbx; clear hbx hbl hg2)
    | ((with_reducible refine gate_dst (N := 4) rfl ?_); refine box_event rfl (N := 4) rfl (cs := #[.int .i64 0, .int .i64 0, .int .i64 0, .string ⟨#[]⟩, .int .i64 0, .string ⟨#[]⟩, .int .i64 0, .string ⟨#[]⟩, .int .i64 0, .int .i64 0, .int .i64 0, .bool false, .string ⟨#[]⟩, .string ⟨#[]⟩, .int .i64 0, .int .i64 0, .int .i64 0, .int .i64 0, .int .i64 0, .slice none 0 0]) (t := 45) ?hr ?_; (case hr => first | (go_simp; done) | (go_simp; rfl)); intro g4 hg4 w3 hbx hbl; have n_F := Aside0.mk (below_step F.out hbl); have n_P := Aside0.mk (blk_below P.out hbl); have n_Bg2 := Aside0.mk (blk_below Bg2.out hbl); clear F P Bg2; have F := n_F; have P := n_P; have Bg2 := n_Bg2; clear n_F n_P n_Bg2; have Bg4 := Aside0.mk hbx; clear hbx hbl hg4))
  have c0 : w3.cell? ⟨gp, 0, none⟩ = some (.pointer none) := (blk_cell P.out 0).trans rfl
  go_wp2_with fail
  refine (unless_nil _ _).mono ?_
  rintro e w4 ⟨rfl, rfl⟩
  clear c0
  go_wp2_with (first
    | ((with_reducible refine gate_dst (N := 9) rfl ?_); refine load_ev (N := 9) rfl rfl rfl (cs := #[.int .i64 0, .int .i64 0, .int .i64 0, .string ⟨#[]⟩, .int .i64 0, .string ⟨#[]⟩, .int .i64 0, .string ⟨#[]⟩, .int .i64 0, .int .i64 0, .int .i64 0, .bool false, .string ⟨#[]⟩, .string ⟨#[]⟩, .int .i64 0, .int .i64 0, .int .i64 0, .int .i64 0, .int .i64 0, .slice none 0 0]) rfl Bg4.out Try.underlying45 rfl (by kernel_rfl) ?_)
    | ((with_reducible refine gate_store (t := 45) (p := 2) rfl ?_); refine store_ev rfl rfl rfl (cells := #[.int .i64 0, .int .i64 0, .int .i64 0, .string ⟨#[]⟩, .int .i64 0, .string ⟨#[]⟩, .int .i64 0, .string ⟨#[]⟩, .int .i64 0, .int .i64 0, .int .i64 0, .bool false, .string ⟨#[]⟩, .string ⟨#[]⟩, .int .i64 0, .int .i64 0, .int .i64 0, .int .i64 0, .int .i64 0, .slice none 0 0]) rfl rfl Bg2.out (by kernel_rfl) rfl (by kernel_rfl) ?_; intro w5 hbx hgr; have n_F := Aside0.mk (below_put F.out Gg2.out hgr F.out.size); have n_Bg2 := Aside0.mk (hbx); clear F Bg2 hbx hgr; have F := n_F; have Bg2 := n_Bg2; clear n_F n_Bg2))
  refine bodyPost_ret (results_ct rfl _ _ g2 45 #[.int .i64 0, .int .i64 0, .int .i64 0, .string ⟨#[]⟩, .int .i64 0, .string ⟨#[]⟩, .int .i64 0, .string ⟨#[]⟩, .int .i64 0, .int .i64 0, .int .i64 0, .bool false, .string ⟨#[]⟩, .string ⟨#[]⟩, .int .i64 0, .int .i64 0, .int .i64 0, .int .i64 0, .int .i64 0, .slice none 0 0] (0, 0) _ rfl Bg2.out Try.underlying45 rfl (by kernel_rfl)) rfl ?_
  exact ⟨rfl, F.out⟩
end Go.Proofs.Ytlgihjhlkpmpnaa.Wire
