import Derived.Test.YtlgihjhlkpmpnaaRWireQa
namespace Go.Proofs.Ytlgihjhlkpmpnaa.Wire
set_option linter.unusedVariables false
set_option linter.unusedSimpArgs false
open Go.RowKit Go.Proofs.YtlgihjhlkpmpnaaW.PrintWords Go.Proofs.YtlgihjhlkpmpnaaW.PrintLast Go.Proofs.YtlgihjhlkpmpnaaW.PrintMore Go.Proofs.Ytlgihjhlkpmpnaa.Hand Go.Proofs.Ytlgihjhlkpmpnaa.PWire Go.Proofs.Ytlgihjhlkpmpnaa.PureNums
theorem cs_len (x : Rq) (u : Value) : (x.cs u).toList.length = 20 := rfl
theorem cs_one (x : Rq) (u : Value) (h : u.oneCell' = true) : ∀ v ∈ (x.cs u).toList, v.oneCell' = true := by
  have hall : (x.cs u).toList.all (·.oneCell') = true := by
    show (_ && (_ && (_ && (_ && (_ && (_ && (_ && (_ && (_ && (_ && (_ && (_ && (_ && (_ && (_ && (_ && (_ && (_ && (_ && (u.oneCell' && true)))))))))))))))))))) = true
    rw [h]
    rfl
  exact List.all_eq_true.1 hall
/-- a request, with its pairs -/
def kRq : Kd RQ where
  sz := 20
  E := [102]
  K := fun w x cs => ∃ A c, cs = (x.1.cs (.slice A x.2.length c)).toList ∧ x.2.length ≤ c ∧ Kd.C k102 w A x.2.length x.2
  M := fun w base ok x cs => ∃ v, cs = (x.1.cs v).toList ∧ Kd.R k102 102 w base ok v x.2
  K_len := by
    rintro w x cs ⟨A, c, rfl, _⟩
    exact cs_len _ _
  K_one := by
    rintro w x cs ⟨A, c, rfl, _⟩
    exact cs_one _ _ rfl
  K_below := by
    rintro w w1 x cs hb ⟨A, c, rfl, hl, hr⟩
    exact ⟨A, c, rfl, hl, Kd.C_below hr hb⟩
  K_of_M := by
    rintro w base ok x cs ⟨v, rfl, h⟩
    obtain ⟨A, c, rfl, hl, hr⟩ := Kd.R_reads h
    exact ⟨A, c, rfl, hl, hr⟩
  M_mono := by
    rintro w base ok ok' x cs hok ⟨v, rfl, h⟩
    exact ⟨v, rfl, Kd.R_mono h hok⟩
  M_bound := by
    rintro w base ok x cs ⟨v, rfl, h⟩
    exact ⟨v, rfl, Kd.R_bound h⟩
  M_move := by
    rintro w w1 base ok x cs hm ⟨v, rfl, h⟩
    exact ⟨v, rfl, Kd.R_move h hm⟩
  M_lower := by
    rintro w base base' ok x cs hb ⟨v, rfl, h⟩
    exact ⟨v, rfl, Kd.R_lower h hb⟩
theorem info45 : (Try.prog.info? 45).map (fun i => (i.zero, i.size, i.bytes)) = some (some (.agg #[.int .i64 0, .int .i64 0, .int .i64 0, .string ⟨#[]⟩, .int .i64 0, .string ⟨#[]⟩, .int .i64 0, .string ⟨#[]⟩, .int .i64 0, .int .i64 0, .int .i64 0, .bool false, .string ⟨#[]⟩, .string ⟨#[]⟩, .int .i64 0, .int .i64 0, .int .i64 0, .int .i64 0, .int .i64 0, .slice none 0 0]), 20, 216) := by kernel_rfl
/-- a row of one's own is none of the pairs' -/
theorem own_ne {W : World} {base : Nat} {v : Value} {xs : List RQ} (h : Kd.R kRq 45 W base (fun _ => True) v xs) {okp : Nat → Prop} {x : RQ} {cs : List Value} (hp : kRq.M W base okp x cs) : kRq.M W base (fun k => some k ≠ v.ownBlock) x cs :=
  kRq.M_mono (fun k hk => by
    obtain ⟨_, _, _, q, hq, cells, hc⟩ := hk
    intro he
    obtain ⟨inner, ho⟩ := Kd.R_own h
    obtain ⟨c2, hc2⟩ := own_typed ho k he.symm
    rw [hc] at hc2
    have hE : q = 102 := List.mem_singleton.1 hq
    subst hE
    injection hc2 with hc2
    injection hc2 with _ hc2
    exact absurd hc2 (by decide)) (kRq.M_bound hp)
theorem own_far {W : World} {base : Nat} {v : Value} {xs : List RQ} (h : Kd.R kRq 45 W base (fun _ => True) v xs) (k : Nat) (hk : v.ownBlock = some k) : base ≤ k := by
  obtain ⟨inner, ho⟩ := Kd.R_own h
  exact own_base ho k hk
/-- the own row grew: elder blocks but g's stay -/
theorem far_own {w W W' : World} {g : Nat} {v : Value} {xs : List RQ} (h : w.grownBy W (some g)) (hr : Kd.R kRq 45 W w.heap.size (fun _ => True) v xs) (k : W.grownBy W' v.ownBlock) : w.grownBy W' (some g) :=
  ⟨k.os.trans h.os, k.tape.trans h.tape, k.output.trans h.output, Nat.le_trans h.size k.size, fun i hi hne => (k.block i (Nat.lt_of_lt_of_le hi h.size) (fun e => by have := own_far hr i e.symm; omega)).trans (h.block i hi hne)⟩
/-- an elder block is not the own row -/
theorem row_own {W W' : World} {base : Nat} {v : Value} {xs : List RQ} (hr : Kd.R kRq 45 W base (fun _ => True) v xs) (k : W.grownBy W' v.ownBlock) {b : Nat} {cells : Array Value} {t : TypeId} (hb : W.heap[b]? = some (.cells cells t (0, 0))) (ht : t ≠ 45) : W'.heap[b]? = some (.cells cells t (0, 0)) :=
  (k.block b (blk_lt hb) (Kd.R_ne hr hb (fun e => ht e.symm))).trans hb
/-- another block is written: the rows of requests stay, if it is neither theirs nor their pairs' -/
theorem reqs_grown {W W' : World} {base : Nat} {v : Value} {xs : List RQ} {b : Nat} {cells : Array Value} {t : TypeId} (h : Kd.R kRq 45 W base (fun _ => True) v xs) (hg : W.grownBy W' (some b)) (hb : W.heap[b]? = some (.cells cells t (0, 0))) (h1 : t ≠ 45) (h2 : t ≠ 102) : Kd.R kRq 45 W' base (fun _ => True) v xs :=
  Kd.R_mono (Kd.R_grown (Kd.R_types h hb (fun q hq => by
    rcases List.mem_cons.1 hq with rfl | hq
    · exact fun e => h1 e.symm
    · rw [List.mem_singleton.1 hq]; exact fun e => h2 e.symm)) hg (fun k hk e => hk.2 (Option.some.inj e))) (fun _ _ => trivial)
/-- .. or if it is newer -/
theorem reqs_new {W W0 W' : World} {base b : Nat} {v : Value} {xs : List RQ} (h : Kd.R kRq 45 W base (fun _ => True) v xs) (hb : Below W.heap.size W W0) (hg : W0.grownBy W' (some b)) (hB : W.heap.size ≤ b) : Kd.R kRq 45 W' base (fun _ => True) v xs :=
  Kd.R_mono (Kd.R_step (Kd.R_bound h) (fun k hk hlt => (hg.block k (Nat.lt_of_lt_of_le hlt hb.size) (fun e => by have := Option.some.inj e; omega)).trans (hb.block k hlt))) (fun _ _ => trivial)
set_option maxHeartbeats 32000000 in
set_option maxRecDepth 100000 in
theorem told_calls (g : Nat) (held : ByteArray) (br : Bool) (w : World) (hg : w.heap[g]? = some (prow held br)) (hz : held.size ≤ 4000) :
    Calls Try.prog 20 #[.pointer (some ⟨g, 0, none⟩)] w fun e w' => ∃ u, e = .returned u ∧ Kd.R kRq 45 w' w.heap.size (fun _ => True) u (tellN 1000 held br).1 ∧ w'.heap[g]? = some (prow (tellN 1000 held br).2.1 (tellN 1000 held br).2.2) ∧ w.grownBy w' (some g) := by
  obtain ⟨LL, hLL⟩ : ∃ LL, tellN 1000 held br = LL := ⟨_, rfl⟩
  rw [hLL]
  have HL := Aside0.mk hLL
  have GLT := Aside0.mk (blk_lt hg)
  have HG := Aside0.mk hg
  have HZ0 := Aside0.mk hz
  clear hLL hg hz
  go_enter Try.func20, Try.ntmps20
  go_wp2_with fail
  go_loopw [3, 6] (fun ov jv wr => ∃ (j : Nat) (acc : List RQ) (hd : ByteArray) (b : Bool), jv = .int .i64 j ∧ j ≤ 1000 ∧ Aside0 (acc.length ≤ j) ∧ Aside0 (hd.size ≤ 4000) ∧ Aside0 ((acc ++ (tellN (1000 - j) hd b).1, (tellN (1000 - j) hd b).2) = LL) ∧ Aside0 (Kd.R kRq 45 wr w.heap.size (fun _ => True) ov acc) ∧ Aside0 (wr.heap[g]? = some (prow hd b)) ∧ Aside0 (w.grownBy wr (some g))) (fun _ jv _ => 1000 - (intOf jv).toNat)
  case atStart => exact ⟨0, [], held, br, rfl, Nat.zero_le _, ⟨Nat.le_refl _⟩, HZ0, ⟨by rw [← HL.out]; rfl⟩, ⟨Kd.R_nil _ _ _ _ _⟩, HG, ⟨far_refl _ _⟩⟩
  case round =>
    clear HG HZ0 HL
    obtain ⟨j, acc, hd, b, rfl, hjl, HA, HZ, HL, HR, G, F⟩ := hrel
    by_cases hlt : j < 1000
    · have hnx := Aside0.mk (fun (W : World) (h : W.heap[g]? = some (prow hd b)) => next_calls g hd b W h (by have := HZ.out; omega))
      have hz2 := Aside0.mk (Nat.le_trans (nextH_size hd b) HZ.out)
      have hT : Aside0 (tellN (1000 - j) hd b = if (nextD hd b).err = 0 then (((nextD hd b).y, (nextD hd b).ps) :: (tellN (1000 - (j + 1)) (nextH hd b) (nextB hd b)).1, (tellN (1000 - (j + 1)) (nextH hd b) (nextB hd b)).2) else ([], nextH hd b, nextB hd b)) := ⟨by
        rw [show 1000 - j = (1000 - (j + 1)) + 1 by omega]
        rfl⟩
      obtain ⟨hd2, hh2⟩ : ∃ x, nextH hd b = x := ⟨_, rfl⟩
      obtain ⟨b2, hb2⟩ : ∃ x, nextB hd b = x := ⟨_, rfl⟩
      obtain ⟨y, hy⟩ : ∃ x, (nextD hd b).y = x := ⟨_, rfl⟩
      obtain ⟨ps, hps⟩ : ∃ x, (nextD hd b).ps = x := ⟨_, rfl⟩
      obtain ⟨er, her⟩ : ∃ x, (nextD hd b).err = x := ⟨_, rfl⟩
      simp only [hh2, hb2, hy, hps, her] at hnx hz2 hT
      clear hh2 hb2 hy hps her HZ
      go_wp2_with fail
      refine (hnx.out _ G.out).mono ?_
      rintro e w1 ⟨u, rfl, hR1, hG, hF⟩
      obtain ⟨C, c, hu⟩ := Kd.R_slice hR1
      subst hu
      have n_R := Aside0.mk (reqs_grown HR.out hF G.out (by decide) (by decide))
      have R1 := Aside0.mk (Kd.R_lower hR1 F.out.size)
      have n_F := Aside0.mk (far_trans F.out hF)
      clear HR G F hF hR1 hnx
      have HR := n_R
      have G := Aside0.mk hG
      have F := n_F
      clear n_R n_F hG
      have GT := Aside0.mk (blk_lt G.out)
      by_cases he : er = 0
      case neg =>
        have he' : (er == 0) = false := beq_eq_false_iff_ne.mpr he
        rw [if_neg he] at hT
        go_wp2_with (first
          | ((with_reducible refine gate_dst (N := 4) rfl ?_); refine box_event rfl (N := 4) rfl (cs := #[.int .i64 0, .int .i64 0, .int .i64 0, .string ⟨#[]⟩, .int .i64 0, .string ⟨#[]⟩, .int .i64 0, .string ⟨#[]⟩, .int .i64 0, .int .i64 0, .int .i64 0, .bool false, .string ⟨#[]⟩, .string ⟨#[]⟩, .int .i64 0, .int .i64 0, .int .i64 0, .int .i64 0, .int .i64 0, .slice none 0 0]) (t := 45) ?hr ?_; (case hr => first | (go_simp; done) | (go_simp; rfl)); intro g4 hg4 w2 hbx hbl; have G4 := Aside0.mk (show w.heap.size ≤ g4 by rw [hg4]; exact F.out.size); have D4 := Aside0.mk (show g ≠ g4 by rw [hg4]; exact Nat.ne_of_lt (blk_lt G.out)); have n_R0 := Aside0.mk HR.out; have n_B0 := Aside0.mk hbl; have HG4 := Aside0.mk (show w1.heap.size ≤ g4 by rw [hg4]; exact Nat.le_refl _); have n_G := Aside0.mk (blk_below G.out hbl); have n_F := Aside0.mk (far_below F.out hbl); have n_R1 := Aside0.mk (Kd.R_below R1.out hbl); clear G F R1; have G := n_G; have F := n_F; have R1 := n_R1; clear n_G n_F n_R1; have V := Aside0.mk hbx; clear hbx hbl hg4)
          | ((with_reducible refine gate_store (t := 45) (p := 4) rfl ?_); refine store_ev rfl rfl rfl (cells := #[.int .i64 y.id, .int .i64 y.kind, .int .i64 y.label, .string y.pt, .int .i64 y.pp, .string y.tt, .int .i64 y.tp, .string y.sn, .int .i64 y.sp, .int .i64 y.sa, .int .i64 y.ss, .bool y.sc, .string y.grp, .string y.mem, .int .i64 y.gen, .int .i64 y.off, .int .i64 y.most, .int .i64 y.prod, .int .i64 y.seq, .slice C ps.length c]) rfl rfl V.out (by kernel_rfl) rfl (by kernel_rfl) ?_; intro w3 hbx hgr; have n_R := Aside0.mk (reqs_new n_R0.out n_B0.out hgr HG4.out); have n_G := Aside0.mk (grown_at hgr G.out D4.out); have n_F := Aside0.mk (far_new F.out hgr G4.out); have n_R1 := Aside0.mk (pairs_grown R1.out hgr (fun cells e => by rw [V.out] at e; simp at e)); have n_V := Aside0.mk (hbx); clear G F R1 V hbx hgr HR n_R0 n_B0 HG4; have G := n_G; have F := n_F; have R1 := n_R1; have V := n_V; clear n_G n_F n_R1 n_V; have HR := n_R; clear n_R))
        rw [hT.out] at HL
        refine bodyPost_ret (results_tmp rfl _ _ _) rfl ?_
        rw [← HL.out]
        exact ⟨_, rfl, by simpa using HR.out, G.out, F.out⟩
      subst he
      rw [if_pos rfl] at hT
      go_wp2_with (first
        | ((with_reducible refine gate_dst (N := 4) rfl ?_); refine box_event rfl (N := 4) rfl (cs := #[.int .i64 0, .int .i64 0, .int .i64 0, .string ⟨#[]⟩, .int .i64 0, .string ⟨#[]⟩, .int .i64 0, .string ⟨#[]⟩, .int .i64 0, .int .i64 0, .int .i64 0, .bool false, .string ⟨#[]⟩, .string ⟨#[]⟩, .int .i64 0, .int .i64 0, .int .i64 0, .int .i64 0, .int .i64 0, .slice none 0 0]) (t := 45) ?hr ?_; (case hr => first | (go_simp; done) | (go_simp; rfl)); intro g4 hg4 w2 hbx hbl; have G4 := Aside0.mk (show w.heap.size ≤ g4 by rw [hg4]; exact F.out.size); have D4 := Aside0.mk (show g ≠ g4 by rw [hg4]; exact Nat.ne_of_lt (blk_lt G.out)); have n_R0 := Aside0.mk HR.out; have n_B0 := Aside0.mk hbl; have HG4 := Aside0.mk (show w1.heap.size ≤ g4 by rw [hg4]; exact Nat.le_refl _); have n_G := Aside0.mk (blk_below G.out hbl); have n_F := Aside0.mk (far_below F.out hbl); have n_R1 := Aside0.mk (Kd.R_below R1.out hbl); clear G F R1; have G := n_G; have F := n_F; have R1 := n_R1; clear n_G n_F n_R1; have V := Aside0.mk hbx; clear hbx hbl hg4)
        | ((with_reducible refine gate_store (t := 45) (p := 4) rfl ?_); refine store_ev rfl rfl rfl (cells := #[.int .i64 y.id, .int .i64 y.kind, .int .i64 y.label, .string y.pt, .int .i64 y.pp, .string y.tt, .int .i64 y.tp, .string y.sn, .int .i64 y.sp, .int .i64 y.sa, .int .i64 y.ss, .bool y.sc, .string y.grp, .string y.mem, .int .i64 y.gen, .int .i64 y.off, .int .i64 y.most, .int .i64 y.prod, .int .i64 y.seq, .slice C ps.length c]) rfl rfl V.out (by kernel_rfl) rfl (by kernel_rfl) ?_; intro w3 hbx hgr; have n_R := Aside0.mk (reqs_new n_R0.out n_B0.out hgr HG4.out); have n_G := Aside0.mk (grown_at hgr G.out D4.out); have n_F := Aside0.mk (far_new F.out hgr G4.out); have n_R1 := Aside0.mk (pairs_grown R1.out hgr (fun cells e => by rw [V.out] at e; simp at e)); have n_V := Aside0.mk (hbx); clear G F R1 V hbx hgr HR n_R0 n_B0 HG4; have G := n_G; have F := n_F; have R1 := n_R1; have V := n_V; clear n_G n_F n_R1 n_V; have HR := n_R; clear n_R)
        | ((with_reducible refine gate_dst (N := 16) rfl ?_); refine load_ev (N := 16) rfl rfl rfl (cs := #[.int .i64 y.id, .int .i64 y.kind, .int .i64 y.label, .string y.pt, .int .i64 y.pp, .string y.tt, .int .i64 y.tp, .string y.sn, .int .i64 y.sp, .int .i64 y.sa, .int .i64 y.ss, .bool y.sc, .string y.grp, .string y.mem, .int .i64 y.gen, .int .i64 y.off, .int .i64 y.most, .int .i64 y.prod, .int .i64 y.seq, .slice C ps.length c]) rfl V.out Try.underlying45 rfl (by kernel_rfl) ?_)
        | ((with_reducible refine gate_builtin (b := .append) (xs := #[.tmp 15, .tmp 17]) rfl ?_); at_builtin; refine Kd.R_append kRq (w0 := w3) w.heap.size rfl (.tmp 15) (.tmp 17) 37 45 (.agg #[.int .i64 0, .int .i64 0, .int .i64 0, .string ⟨#[]⟩, .int .i64 0, .string ⟨#[]⟩, .int .i64 0, .string ⟨#[]⟩, .int .i64 0, .int .i64 0, .int .i64 0, .bool false, .string ⟨#[]⟩, .string ⟨#[]⟩, .int .i64 0, .int .i64 0, .int .i64 0, .int .i64 0, .int .i64 0, .slice none 0 0]) 216 rfl Try.underlying37 info45 rfl (by decide) (by decide) _ acc (y, ps) [.int .i64 y.id, .int .i64 y.kind, .int .i64 y.label, .string y.pt, .int .i64 y.pp, .string y.tt, .int .i64 y.tp, .string y.sn, .int .i64 y.sp, .int .i64 y.sa, .int .i64 y.ss, .bool y.sc, .string y.grp, .string y.mem, .int .i64 y.gen, .int .i64 y.off, .int .i64 y.most, .int .i64 y.prod, .int .i64 y.seq, .slice C ps.length c] (fun _ => True) (fun k => some k ≠ _) rfl ?aX (own_ne HR.out (okp := fun _ => True) ⟨_, rfl, R1.out⟩) (fun _ hk => ⟨trivial, hk⟩) (fun _ _ => trivial) HR.out (Below.refl _ _) F.out.size ?aL ?_; (case aX => first | rfl | (go_simp; done) | (go_simp; rfl)); (case aL => have := HA.out; omega); intro v1 w4 ho hb hgr hat; have n_G := Aside0.mk (row_own HR.out hgr G.out (by decide)); have n_F := Aside0.mk (far_own F.out HR.out hgr); clear HR G F hgr hat hb; have HR := Aside0.mk ho; have G := n_G; have F := n_F; clear n_G n_F ho))
      rw [hT.out] at HL
      go_roundw
      case rel => exact ⟨j + 1, acc ++ [(y, ps)], hd2, b2, by go_num, by omega, ⟨by rw [List.length_append]; have := HA.out; simp; omega⟩, hz2, ⟨by rw [← HL.out]; simp⟩, HR, G, F⟩
      case measure => simp [intOf]; omega
    · obtain rfl : j = 1000 := by omega
      go_wp2_with fail
      refine bodyPost_ret (results_tmp rfl _ _ _) rfl ?_
      rw [← HL.out]
      exact ⟨_, rfl, by simpa [tellN] using HR.out, G.out, F.out⟩
end Go.Proofs.Ytlgihjhlkpmpnaa.Wire
