import Derived.Test.YtlgihjhlkpmpnaaQWireJ
import Derived.Test.YtlgihjhlkpmpnaaQWireK
-- halved
namespace Go.Proofs.Ytlgihjhlkpmpnaa.Wire
set_option linter.unusedVariables false
set_option linter.unusedSimpArgs false
open Go.RowKit Go.Proofs.YtlgihjhlkpmpnaaW.PrintWords Go.Proofs.YtlgihjhlkpmpnaaW.PrintLast Go.Proofs.YtlgihjhlkpmpnaaW.PrintMore Go.Proofs.Ytlgihjhlkpmpnaa.Hand Go.Proofs.Ytlgihjhlkpmpnaa.PWire Go.Proofs.Ytlgihjhlkpmpnaa.PureNums

noncomputable def qNum (r : Rd) : Int × Rd := if r.2 = true then (0, ⟨#[]⟩, true) else if (un r.1).2.2 = 0 then (if (un r.1).1 > 1099511627776 then (0, ⟨#[]⟩, true) else ((un r.1).1, r.1.extract (un r.1).2.1.toNat r.1.size, false)) else (0, ⟨#[]⟩, true)
noncomputable def qText (r : Rd) : ByteArray × Rd := if r.2 = true then (⟨#[]⟩, ⟨#[]⟩, true) else if (ux r.1).2.2 = 0 then ((ux r.1).1, r.1.extract (ux r.1).2.1.toNat r.1.size, false) else (⟨#[]⟩, ⟨#[]⟩, true)
noncomputable def qPlace (r : Rd) : (ByteArray × Int) × Rd := (((qText r).1, (qNum (qText r).2).1), (qNum (qText r).2).2)
noncomputable def qPairN : Nat → List S102 → Rd → List S102 × Rd
 | 0, l, r => (l, r)
 | n + 1, l, r => if (qNum r).1 > 1 then ([], ⟨#[]⟩, true) else qPairN n (l ++ [⟨(qText (qNum r).2).1, (qText (qText (qNum r).2).2).1, (qNum r).1 == 1⟩]) (qText (qText (qNum r).2).2).2
noncomputable def qPairs (r : Rd) : List S102 × Rd := if (qNum r).1 > 16 then ([], ⟨#[]⟩, true) else qPairN (qNum r).1.toNat [] (qNum r).2
theorem qNum_size (r : Rd) : (qNum r).2.1.size ≤ r.1.size := by
 have h0 : (⟨#[]⟩ : ByteArray).size ≤ r.1.size := Nat.zero_le _
 unfold qNum
 split
 ·exact h0
 ·split
  ·split
   ·exact h0
   ·simp only [ByteArray.size_extract]; omega
  ·exact h0
theorem qText_size (r : Rd) : (qText r).2.1.size ≤ r.1.size := by
 have h0 : (⟨#[]⟩ : ByteArray).size ≤ r.1.size := Nat.zero_le _
 unfold qText
 split
 ·exact h0
 ·split
  ·simp only [ByteArray.size_extract]; omega
  ·exact h0
theorem qNum_range (r : Rd) : 0 ≤ (qNum r).1 ∧ (qNum r).1 ≤ 1099511627776 := by
 have := (un_range r.1).1
 unfold qNum
 split
 ·simp
 ·split
  ·split
   ·simp
   ·simp only; omega
  ·simp
theorem qNum_some (r : Rd) (k : Nat) (hk : 40 ≤ k) (hz : r.1.size ≤ 140737488351232) : weighlockref34_reader_number.f k r.1 r.2 = some ((qNum r).1, (qNum r).2.1, (qNum r).2.2) := by
 obtain ⟨a, b, c, d⟩ := un_range r.1
 unfold weighlockref34_reader_number.f qNum
 rw [un_ref _ k hk hz]
 simp only [Option.bind_some]
 split
 ·rfl
 ·split
  ·split
   ·rfl
   ·rw [w64 _ (by omega) (by omega)]
  ·rfl
theorem qText_some (r : Rd) (k : Nat) (hk : 50 ≤ k) (hz : r.1.size ≤ 140737488351232) : weighlockref34_reader_text.f k r.1 r.2 = some ((qText r).1, (qText r).2.1, (qText r).2.2) := by
 obtain ⟨c, d, _⟩ := ux_range r.1
 unfold weighlockref34_reader_text.f qText
 rw [ux_ref _ k hk hz]
 simp only [Option.bind_some]
 split
 ·rfl
 ·split
  ·rfl
  ·rfl
theorem qPlace_some (r : Rd) (k : Nat) (hk : 50 ≤ k) (hz : r.1.size ≤ 100000) : weighlockref34_reader_place.f k r.1 r.2 = some ((qPlace r).1.1, (qPlace r).1.2, (qPlace r).2.1, (qPlace r).2.2) := by
 unfold weighlockref34_reader_place.f qPlace
 rw [qText_some r k hk (by omega)]
 simp only [Option.bind_some]
 rw [qNum_some _ k (by omega) (by have := qText_size r; omega)]
 rfl
theorem qPairN_some : ∀ (n : Nat) (k : Nat) (l : List S102) (i m : Int) (r : Rd), 60 + n ≤ k → m - i = n → 0 ≤ i → m ≤ 100 → r.1.size ≤ 100000 → l.length ≤ 100 + i →
  weighlockref34_reader_pairs.l0 k l m i r.1 r.2 = some ((qPairN n l r).1, (qPairN n l r).2.1, (qPairN n l r).2.2) := by
 intro n
 induction n with
 | zero =>
  intro k l i m r hk hm h0 h1 hz hl
  obtain ⟨k, rfl⟩ : ∃ q, k = q + 1 := ⟨k - 1, by omega⟩
  simp only [weighlockref34_reader_pairs.l0]
  rw [if_neg (by omega)]
  rfl
 | succ n ih =>
  intro k l i m r hk hm h0 h1 hz hl
  obtain ⟨k, rfl⟩ : ∃ q, k = q + 1 := ⟨k - 1, by omega⟩
  have z1 := qNum_size r
  have z2 := qText_size (qNum r).2
  have z3 := qText_size (qText (qNum r).2).2
  simp only [weighlockref34_reader_pairs.l0]
  rw [if_pos (by omega), qNum_some r k (by omega) (by omega)]
  simp only [Option.bind_some]
  rw [qText_some _ k (by omega) (by omega)]
  simp only [Option.bind_some]
  rw [qText_some _ k (by omega) (by omega)]
  simp only [Option.bind_some]
  by_cases hf : (qNum r).1 > 1
  ·rw [if_pos hf, qPairN, if_pos hf]
  ·rw [if_neg hf, if_pos (by omega), w64 (i + 1) (by omega) (by omega), qPairN, if_neg hf]
   exact ih k _ (i + 1) m (qText (qText (qNum r).2).2).2 (by omega) (by omega) (by omega) h1 (by omega) (by simp; omega)
theorem qPairs_some (r : Rd) (k : Nat) (hk : 80 ≤ k) (hz : r.1.size ≤ 100000) : weighlockref34_reader_pairs.f k r.1 r.2 = some ((qPairs r).1, (qPairs r).2.1, (qPairs r).2.2) := by
 obtain ⟨a, b⟩ := qNum_range r
 unfold weighlockref34_reader_pairs.f qPairs
 rw [qNum_some r k (by omega) (by omega)]
 simp only [Option.bind_some]
 by_cases h : (qNum r).1 > 16
 ·rw [if_pos h, if_pos h]
 ·rw [if_neg h, if_neg h]
  exact qPairN_some (qNum r).1.toNat k [] 0 (qNum r).1 (qNum r).2 (by omega) (by omega) (by omega) (by omega) (by have := qNum_size r; omega) (by simp)
theorem qnum_calls (r : Rd) (hz : r.1.size ≤ 100000) (W : World) : Calls Try.prog 101 #[.agg #[.string r.1, .bool r.2]] W fun e w' => e = .returned (.tuple #[.int .i64 (qNum r).1, .agg #[.string (qNum r).2.1, .bool (qNum r).2.2]]) ∧ Below W.heap.size W w' := weighlockref34_reader_number.calls 50 r.1 r.2 _ _ _ W (qNum_some r 50 (by omega) (by omega))
theorem qtext_calls (r : Rd) (hz : r.1.size ≤ 100000) (W : World) : Calls Try.prog 100 #[.agg #[.string r.1, .bool r.2]] W fun e w' => e = .returned (.tuple #[.string (qText r).1, .agg #[.string (qText r).2.1, .bool (qText r).2.2]]) ∧ Below W.heap.size W w' := weighlockref34_reader_text.calls 50 r.1 r.2 _ _ _ W (qText_some r 50 (by omega) (by omega))
theorem qplace_calls (r : Rd) (hz : r.1.size ≤ 100000) (W : World) : Calls Try.prog 102 #[.agg #[.string r.1, .bool r.2]] W fun e w' => e = .returned (.tuple #[.agg #[.string (qPlace r).1.1, .int .i64 (qPlace r).1.2], .agg #[.string (qPlace r).2.1, .bool (qPlace r).2.2]]) ∧ Below W.heap.size W w' := weighlockref34_reader_place.calls 50 r.1 r.2 _ _ _ _ W (qPlace_some r 50 (by omega) hz)
theorem qpairs_calls (r : Rd) (hz : r.1.size ≤ 100000) (W : World) : Calls Try.prog 103 #[.agg #[.string r.1, .bool r.2]] W fun e w' => ∃ u, e = .returned (.tuple #[u, .agg #[.string (qPairs r).2.1, .bool (qPairs r).2.2]]) ∧ Kd.R k102 102 w' W.heap.size (fun _ => True) u (qPairs r).1 ∧ Below W.heap.size W w' := weighlockref34_reader_pairs.calls 100 r.1 r.2 _ _ _ W (qPairs_some r 100 (by omega) hz)
/-- a request that is being read by the reference -/
structure Sx (w : World) (y : Rq) (yu : Value) (g3 g4 g5 gr : Nat) (r : Rd) (ex : List (Nat × Obj)) (W : World) : Prop where
 b3 : W.heap[g3]? = some (.cells (y.cs yu) 45 (0, 0))
 b4 : W.heap[g4]? = some (.cells #[.int .i64 0, .int .i64 0, .int .i64 0, .string ⟨#[]⟩, .int .i64 0, .string ⟨#[]⟩, .int .i64 0, .string ⟨#[]⟩, .int .i64 0, .int .i64 0, .int .i64 0, .bool false, .string ⟨#[]⟩, .string ⟨#[]⟩, .int .i64 0, .int .i64 0, .int .i64 0, .int .i64 0, .int .i64 0, .slice none 0 0] 45 (0, 0))
 b5 : W.heap[g5]? = some (.cells #[.string ⟨#[]⟩, .bool false] 110 (0, 0))
 br : W.heap[gr]? = some (.cells #[.string r.1, .bool r.2] 110 (0, 0))
 ex : ∀ e ∈ ex, W.heap[e.1]? = some e.2 ∧ e.1 ≠ g3
 bl : Below w.heap.size w W
 l3 : w.heap.size ≤ g3
 l4 : w.heap.size ≤ g4
 l5 : w.heap.size ≤ g5
 n34 : g3 ≠ g4
 n5r : gr ≠ g5
section
variable {w : World} {y y' : Rq} {yu yu' : Value} {g3 g4 g5 gr : Nat} {r r' : Rd} {ex : List (Nat × Obj)} {W W' : World}
theorem blk_types {g h : Nat} {cs cs' : Array Value} {t t' : TypeId} (h1 : W.heap[g]? = some (.cells cs t (0, 0))) (h2 : W.heap[h]? = some (.cells cs' t' (0, 0))) (hne : t ≠ t') : g ≠ h := fun e => by
 rw [e, h2] at h1
 injection h1 with h1
 injection h1 with _ h1
 exact hne h1.symm
theorem Sx.size (h : Sx w y yu g3 g4 g5 gr r ex W) : w.heap.size ≤ W.heap.size := h.bl.size
theorem Sx.below (h : Sx w y yu g3 g4 g5 gr r ex W) (hb : Below W.heap.size W W') : Sx w y yu g3 g4 g5 gr r ex W' :=
 ⟨blk_below h.b3 hb, blk_below h.b4 hb, blk_below h.b5 hb, blk_below h.br hb, fun e he => ⟨blk_below (h.ex e he).1 hb, (h.ex e he).2⟩, below_step h.bl hb, h.l3, h.l4, h.l5, h.n34, h.n5r⟩
theorem Sx.field (h : Sx w y yu g3 g4 g5 gr r ex W) (h3 : W'.heap[g3]? = some (.cells (y'.cs yu') 45 (0, 0))) (hg : W.grownBy W' (some g3)) : Sx w y' yu' g3 g4 g5 gr r ex W' :=
 ⟨h3, grown_at hg h.b4 (Ne.symm h.n34), grown_at hg h.b5 (blk_types h.b5 h.b3 (by decide)), grown_at hg h.br (blk_types h.br h.b3 (by decide)), fun e he => ⟨grown_at hg (h.ex e he).1 (h.ex e he).2, (h.ex e he).2⟩, below_put h.bl h.l3 hg h.size, h.l3, h.l4, h.l5, h.n34, h.n5r⟩
theorem Sx.reader {g' : Nat} {zc : Array Value} (h : Sx w y yu g3 g4 g5 gr r ex W) (hz : W.heap[g']? = some (.cells zc 110 (0, 0))) (hb : W'.heap[g']? = some (.cells #[.string r'.1, .bool r'.2] 110 (0, 0))) (hg : W.grownBy W' (some g')) (hf : g' ≠ g5 ∧ w.heap.size ≤ g' ∧ ∀ e ∈ ex, e.1 ≠ g') : Sx w y yu g3 g4 g5 g' r' ex W' :=
 ⟨grown_at hg h.b3 (blk_types h.b3 hz (by decide)), grown_at hg h.b4 (blk_types h.b4 hz (by decide)), grown_at hg h.b5 (Ne.symm hf.1), hb, fun e he => ⟨grown_at hg (h.ex e he).1 (hf.2.2 e he), (h.ex e he).2⟩, below_put h.bl hf.2.1 hg h.size, h.l3, h.l4, h.l5, h.n34, hf.1⟩
theorem Sx.place {gp : Nat} {zc pc : Array Value} (h : Sx w y yu g3 g4 g5 gr r ex W) (hz : W.heap[gp]? = some (.cells zc 40 (0, 0))) (hb : W'.heap[gp]? = some (.cells pc 40 (0, 0))) (hg : W.grownBy W' (some gp)) (hf : w.heap.size ≤ gp ∧ ∀ e ∈ ex, e.1 ≠ gp) : Sx w y yu g3 g4 g5 gr r ((gp, .cells pc 40 (0, 0)) :: ex) W' :=
 ⟨grown_at hg h.b3 (blk_types h.b3 hz (by decide)), grown_at hg h.b4 (blk_types h.b4 hz (by decide)), grown_at hg h.b5 (blk_types h.b5 hz (by decide)), grown_at hg h.br (blk_types h.br hz (by decide)), fun e he => by
  rcases List.mem_cons.1 he with rfl | he
  ·exact ⟨hb, blk_types hz h.b3 (by decide)⟩
  ·exact ⟨grown_at hg (h.ex e he).1 (hf.2 e he), (h.ex e he).2⟩, below_put h.bl hf.1 hg h.size, h.l3, h.l4, h.l5, h.n34, h.n5r⟩
theorem Sx.fresh (h : Sx w y yu g3 g4 g5 gr r ex W) {g' : Nat} (hg : g' = W.heap.size) : g' ≠ g5 ∧ w.heap.size ≤ g' ∧ ∀ e ∈ ex, e.1 ≠ g' :=
 ⟨by rw [hg]; exact Nat.ne_of_gt (blk_lt h.b5), by rw [hg]; exact h.size, fun e he => by rw [hg]; exact Nat.ne_of_lt (blk_lt (h.ex e he).1)⟩
end
theorem fresh_cons {B g' g5 gp : Nat} {ob : Obj} {ex : List (Nat × Obj)} (h : g' ≠ g5 ∧ B ≤ g' ∧ ∀ e ∈ ex, e.1 ≠ g') (hq : gp ≠ g') : g' ≠ g5 ∧ B ≤ g' ∧ ∀ e ∈ (gp, ob) :: ex, e.1 ≠ g' :=
 ⟨h.1, h.2.1, fun e he => by
  rcases List.mem_cons.1 he with rfl | he
  ·exact hq
  ·exact h.2.2 e he⟩
theorem results_cc' {P : Program} {fn : Func} {p p' : Tmp} {ty ty' : TypeId} (h : fn.results = #[.cell p ty, .cell p' ty']) (tmps : Array Value) (w : World) (g g' : Nat) (t t' : TypeId) (cs cs' : Array Value) (fr fr' : Nat × Nat) (d d' : TypeDesc)
  (hp : tmps.getD p undef = .pointer (some ⟨g, 0, none⟩)) (hg : w.heap[g]? = some (.cells cs t fr)) (hu : P.underlying ty = some d) (hd : (match d with | .struct _ | .array _ _ => true | _ => false) = true) (hi : (P.info? ty).map (·.size) = some cs.size)
  (hp2 : tmps.getD p' undef = .pointer (some ⟨g', 0, none⟩)) (hg2 : w.heap[g']? = some (.cells cs' t' fr')) (hu2 : P.underlying ty' = some d') (hd2 : (match d' with | .struct _ | .array _ _ => true | _ => false) = true) (hi2 : (P.info? ty').map (·.size) = some cs'.size) :
  (results fn tmps).run P w = .ok (.tuple #[.agg cs, .agg cs']) w := by
 have hp' : tmps[p]?.getD undef = .pointer (some ⟨g, 0, none⟩) := by simpa using hp
 have hp2' : tmps[p']?.getD undef = .pointer (some ⟨g', 0, none⟩) := by simpa using hp2
 simp [results, h, hp', hp2', asAddr, run_loadVar_row w g t ty cs fr d hg hu hd hi, run_loadVar_row w g' t' ty' cs' fr' d' hg2 hu2 hd2 hi2]

theorem qPlace_size (r : Rd) : (qPlace r).2.1.size ≤ r.1.size := Nat.le_trans (qNum_size _) (qText_size r)
noncomputable def memberF (x : Rq) (r : Rd) : Rq × Rd := ({x with grp := (qText r).1, mem := (qText (qText r).2).1}, (qText (qText r).2).2)
set_option maxHeartbeats 16000000 in
set_option maxRecDepth 100000 in
theorem member_calls (x : Rq) (r0 : Rd) (w : World) (hz : r0.1.size ≤ 100000) :
  Calls Try.prog 104 #[.agg #[.string r0.1, .bool r0.2], .agg #[.int .i64 x.id, .int .i64 x.kind, .int .i64 x.label, .string x.pt, .int .i64 x.pp, .string x.tt, .int .i64 x.tp, .string x.sn, .int .i64 x.sp, .int .i64 x.sa, .int .i64 x.ss, .bool x.sc, .string x.grp, .string x.mem, .int .i64 x.gen, .int .i64 x.off, .int .i64 x.most, .int .i64 x.prod, .int .i64 x.seq, .slice none 0 0]] w fun e w' => e = .returned (.tuple #[(memberF x r0).1.v (.slice none 0 0), .agg #[.string (memberF x r0).2.1, .bool (memberF x r0).2.2]]) ∧ Below w.heap.size w w' := by
 have z0 : r0.1.size ≤ 100000 := hz
 have h1 := fun W : World => qtext_calls r0 z0 W
 obtain ⟨v1, r1, e1⟩ : ∃ v r, qText r0 = (v, r) := ⟨_, _, rfl⟩
 rw [e1] at h1
 have h1 := Aside0.mk h1
 have z1 : r1.1.size ≤ 100000 := by have := qText_size r0; rw [e1] at this; exact Nat.le_trans this z0
 have h2 := fun W : World => qtext_calls r1 z1 W
 obtain ⟨v2, r2, e2⟩ : ∃ v r, qText r1 = (v, r) := ⟨_, _, rfl⟩
 rw [e2] at h2
 have h2 := Aside0.mk h2
 have HF : Aside0 (memberF x r0 = ({x with grp := v1, mem := v2}, r2)) := ⟨by unfold memberF; rw [e1, e2]⟩
 clear e1 e2 z0 z1 hz
 go_enter Try.func104, Try.ntmps104
 go_wp2_with (first
  | ((with_reducible refine gate_dst (N := 2) rfl ?_); refine box_event rfl (N := 2) rfl (cs := #[.string r0.1, .bool r0.2]) (t := 110) ?hr ?_; (case hr => first | (go_simp; done) | (go_simp; rfl)); intro gr0 hgr0 w1 hbx hbl; have X1 := Aside0.mk hbx; have L1 := Aside0.mk hbl; have M1 := Aside0.mk (Nat.le_of_eq hgr0.symm); clear hbx hbl hgr0)
  | ((with_reducible refine gate_dst (N := 3) rfl ?_); refine box_event rfl (N := 3) rfl (cs := #[.int .i64 x.id, .int .i64 x.kind, .int .i64 x.label, .string x.pt, .int .i64 x.pp, .string x.tt, .int .i64 x.tp, .string x.sn, .int .i64 x.sp, .int .i64 x.sa, .int .i64 x.ss, .bool x.sc, .string x.grp, .string x.mem, .int .i64 x.gen, .int .i64 x.off, .int .i64 x.most, .int .i64 x.prod, .int .i64 x.seq, .slice none 0 0]) (t := 45) ?hr ?_; (case hr => first | (go_simp; done) | (go_simp; rfl)); intro g3 hg3 w2 hbx hbl; have X2 := Aside0.mk (blk_below X1.out hbl); have Y2 := Aside0.mk hbx; have L2 := Aside0.mk (below_step L1.out hbl); have M2 := Aside0.mk (show w.heap.size ≤ g3 by rw [hg3]; exact L1.out.size); clear X1 L1 hbx hbl hg3)
  | ((with_reducible refine gate_dst (N := 4) rfl ?_); refine box_event rfl (N := 4) rfl (cs := #[.int .i64 0, .int .i64 0, .int .i64 0, .string ⟨#[]⟩, .int .i64 0, .string ⟨#[]⟩, .int .i64 0, .string ⟨#[]⟩, .int .i64 0, .int .i64 0, .int .i64 0, .bool false, .string ⟨#[]⟩, .string ⟨#[]⟩, .int .i64 0, .int .i64 0, .int .i64 0, .int .i64 0, .int .i64 0, .slice none 0 0]) (t := 45) ?hr ?_; (case hr => first | (go_simp; done) | (go_simp; rfl)); intro g4 hg4 w3 hbx hbl; have X3 := Aside0.mk (blk_below X2.out hbl); have Y3 := Aside0.mk (blk_below Y2.out hbl); have Z3 := Aside0.mk hbx; have L3 := Aside0.mk (below_step L2.out hbl); have M3 := Aside0.mk (show w.heap.size ≤ g4 by rw [hg4]; exact L2.out.size); have N3 := Aside0.mk (show g3 ≠ g4 by rw [hg4]; exact Nat.ne_of_lt (blk_lt Y2.out)); clear X2 Y2 L2 hbx hbl hg4)
  | ((with_reducible refine gate_dst (N := 5) rfl ?_); refine box_event rfl (N := 5) rfl (cs := #[.string ⟨#[]⟩, .bool false]) (t := 110) ?hr ?_; (case hr => first | (go_simp; done) | (go_simp; rfl)); intro g5 hg5 w4 hbx hbl; have HS : Aside0 (Sx w x (.slice none 0 0) g3 g4 g5 gr0 r0 [] w4) := ⟨⟨blk_below Y3.out hbl, blk_below Z3.out hbl, hbx, blk_below X3.out hbl, fun e he => by simp at he, below_step L3.out hbl, M2.out, M3.out, by rw [hg5]; exact L3.out.size, N3.out, by rw [hg5]; exact Nat.ne_of_lt (blk_lt X3.out)⟩⟩; clear X3 Y3 Z3 L3 M1 M2 M3 N3 hbx hbl hg5; )
  | ((with_reducible refine gate_dst (N := 11) rfl ?_); refine load_ev (N := 11) rfl rfl rfl (cs := #[.string r0.1, .bool r0.2]) rfl HS.out.br Try.underlying110 rfl (by kernel_rfl) ?_))
 refine (h1.out _).mono ?_
 rintro e U1 ⟨rfl, hb⟩
 replace HS := Aside0.mk (HS.out.below hb)
 clear hb
 go_wp2_with (first
  | ((with_reducible refine gate_dst (N := 7) rfl ?_); refine box_event rfl (N := 7) rfl (cs := #[.string ⟨#[]⟩, .bool false]) (t := 110) ?hr ?_; (case hr => first | (go_simp; done) | (go_simp; rfl)); intro ga hga W7 hbx hbl; have HS_ := Aside0.mk (HS.out.below hbl); have Zr := Aside0.mk hbx; have Fr := Aside0.mk (HS.out.fresh hga); clear HS hbl hbx hga; have HS := HS_; clear HS_)
  | ((with_reducible refine gate_store (t := 110) (p := 7) rfl ?_); refine store_ev rfl rfl rfl (cells := #[.string r1.1, .bool r1.2]) rfl rfl Zr.out (by kernel_rfl) rfl (by kernel_rfl) ?_; intro V7 hbx hgr; have HS_ := Aside0.mk (HS.out.reader (r' := r1) Zr.out hbx hgr Fr.out); clear HS Zr Fr hbx hgr; have HS := HS_; clear HS_)
  | ((with_reducible refine gate_dst (N := 16) rfl ?_); refine load_ev (N := 16) rfl rfl rfl (cs := #[.string r1.1, .bool r1.2]) rfl HS.out.br Try.underlying110 rfl (by kernel_rfl) ?_))
 refine (h2.out _).mono ?_
 rintro e U2 ⟨rfl, hb⟩
 replace HS := Aside0.mk (HS.out.below hb)
 clear hb

 go_upto_region 5 with (first
  | ((with_reducible refine gate_dst (N := 9) rfl ?_); refine box_event rfl (N := 9) rfl (cs := #[.string ⟨#[]⟩, .bool false]) (t := 110) ?hr ?_; (case hr => first | (go_simp; done) | (go_simp; rfl)); intro gb hgb W9 hbx hbl; have HS_ := Aside0.mk (HS.out.below hbl); have Zr := Aside0.mk hbx; have Fr := Aside0.mk (HS.out.fresh hgb); clear HS hbl hbx hgb; have HS := HS_; clear HS_)
  | ((with_reducible refine gate_store (t := 110) (p := 9) rfl ?_); refine store_ev rfl rfl rfl (cells := #[.string r2.1, .bool r2.2]) rfl rfl Zr.out (by kernel_rfl) rfl (by kernel_rfl) ?_; intro V9 hbx hgr; have HS_ := Aside0.mk (HS.out.reader (r' := r2) Zr.out hbx hgr Fr.out); clear HS Zr Fr hbx hgr; have HS := HS_; clear HS_)
  | ((with_reducible refine gate_store (t := 9) (p := 21) rfl ?_); have d0 := (blk_cell HS.out.b3 12).trans (show _ = some _ from rfl); have f0 := blk_frozen HS.out.b3 12; refine fstore_ev rfl rfl rfl (j := 12) (u := .string v1) HS.out.b3 ?hr ?_; (case hr => first | (go_simp; done) | (go_simp; rfl)); intro V21 hbx hgr; have HS_ := Aside0.mk (HS.out.field (y' := {x with grp := v1}) (yu' := .slice none 0 0) hbx hgr); clear HS hbx hgr d0 f0; have HS := HS_; clear HS_)
  | ((with_reducible refine gate_store (t := 9) (p := 23) rfl ?_); have d0 := (blk_cell HS.out.b3 13).trans (show _ = some _ from rfl); have f0 := blk_frozen HS.out.b3 13; refine fstore_ev rfl rfl rfl (j := 13) (u := .string v2) HS.out.b3 ?hr ?_; (case hr => first | (go_simp; done) | (go_simp; rfl)); intro V23 hbx hgr; have HS_ := Aside0.mk (HS.out.field (y' := {x with grp := v1, mem := v2}) (yu' := .slice none 0 0) hbx hgr); clear HS hbx hgr d0 f0; have HS := HS_; clear HS_))
 refine ret_pair _ _ _ _ (by kernel_rfl) rfl rfl rfl rfl rfl (by kernel_rfl) (fun _ _ _ _ _ h => h) (d0 := 24) (d1 := 25) (p0 := 3) (p1 := 9) (p2 := 4) (p3 := 5) (T1 := 45) (T2 := 110) rfl rfl rfl rfl rfl rfl rfl rfl rfl rfl rfl rfl HS.out.b3 HS.out.br HS.out.b4 HS.out.b5 Try.underlying45 rfl (by kernel_rfl) Try.underlying110 rfl (by kernel_rfl) rfl rfl (by kernel_rfl) (by kernel_rfl) rfl rfl rfl rfl rfl rfl HS.out.n34 (blk_types HS.out.b3 HS.out.b5 (by decide)) (blk_types HS.out.br HS.out.b4 (by decide)) HS.out.n5r (blk_types HS.out.b4 HS.out.b5 (by decide)) ?_
 intro V b4 b5 hgr
 have HL := Aside0.mk (hgr.below HS.out.bl HS.out.l4 HS.out.l5 HS.out.size)
 have B4 := Aside0.mk b4
 have B5 := Aside0.mk b5
 clear b4 b5 hgr HS
 go_wp2_with fail
 refine bodyPost_ret (results_cc' rfl _ _ g4 g5 45 110 (({x with grp := v1, mem := v2}).cs (.slice none 0 0)) #[.string r2.1, .bool r2.2] (0, 0) (0, 0) _ _ rfl B4.out Try.underlying45 rfl (by kernel_rfl) rfl B5.out Try.underlying110 rfl (by kernel_rfl)) rfl ?_
 rw [HF.out]
 exact ⟨rfl, HL.out⟩
theorem Sx.move {w : World} {y y' : Rq} {yu yu' : Value} {g3 g4 g5 gr g6 : Nat} {r : Rd} {ex : List (Nat × Obj)} {W W' : World} {zc : Array Value} (h : Sx w y yu g3 g4 g5 gr r ex W) (hz : W.heap[g6]? = some (.cells zc 45 (0, 0))) (hb : W'.heap[g6]? = some (.cells (y'.cs yu') 45 (0, 0))) (hg : W.grownBy W' (some g6)) (hf : g3 ≠ g6 ∧ g6 ≠ g4 ∧ w.heap.size ≤ g6 ∧ ∀ e ∈ ex, e.1 ≠ g6) : Sx w y' yu' g6 g4 g5 gr r ((g3, .cells (y.cs yu) 45 (0, 0)) :: ex) W' :=
 ⟨hb, grown_at hg h.b4 (Ne.symm hf.2.1), grown_at hg h.b5 (blk_types h.b5 hz (by decide)), grown_at hg h.br (blk_types h.br hz (by decide)), fun e he => by
  rcases List.mem_cons.1 he with rfl | he
  ·exact ⟨grown_at hg h.b3 hf.1, hf.1⟩
  ·exact ⟨grown_at hg (h.ex e he).1 (hf.2.2.2 e he), hf.2.2.2 e he⟩, below_put h.bl hf.2.2.1 hg h.size, hf.2.2.1, h.l4, h.l5, hf.2.1, h.n5r⟩
theorem put2 {W : World} {g j : Nat} {cs : Array Value} {t : TypeId} (h : W.heap[g]? = some (.cells cs t (0, 0))) (a b : Value) :
  ((W.setCell ⟨g, j, none⟩ a).setCell ⟨g, j + 1, none⟩ b).heap[g]? = some (.cells ((cs.setIfInBounds j a).setIfInBounds (j + 1) b) t (0, 0)) ∧ W.grownBy ((W.setCell ⟨g, j, none⟩ a).setCell ⟨g, j + 1, none⟩ b) (some g) :=
 ⟨blk_set (blk_set h j a) (j + 1) b, grown_more (grown_setCell W g j a) (grown_setCell _ g (j + 1) b)⟩
noncomputable def refF (x : Rq) (r : Rd) : Rst :=
 if x.kind = 3 then ⟨{x with sn := (qText r).1, sp := (qNum (qText r).2).1, sa := (qNum (qNum (qText r).2).2).1, ss := (qNum (qNum (qNum (qText r).2).2).2).1, sc := (qNum (qNum (qNum (qNum (qText r).2).2).2).2).1 == 1}, [], if (qNum (qNum (qNum (qNum (qText r).2).2).2).2).1 > 1 then (⟨#[]⟩, true) else (qNum (qNum (qNum (qNum (qText r).2).2).2).2).2⟩
 else if x.kind = 4 then ⟨{x with pt := (qText r).1}, [], (qText r).2⟩
 else if x.kind = 2 then ⟨{x with label := (qNum r).1, pt := (qPlace (qNum r).2).1.1, pp := (qPlace (qNum r).2).1.2, off := (qNum (qPlace (qNum r).2).2).1, most := (qNum (qNum (qPlace (qNum r).2).2).2).1}, [], (qNum (qNum (qPlace (qNum r).2).2).2).2⟩
 else if x.kind = 1 then ⟨{x with label := (qNum r).1, pt := (qPlace (qNum r).2).1.1, pp := (qPlace (qNum r).2).1.2, prod := (qNum (qPlace (qNum r).2).2).1, seq := (qNum (qNum (qPlace (qNum r).2).2).2).1}, (qPairs (qNum (qNum (qPlace (qNum r).2).2).2).2).1, (qPairs (qNum (qNum (qPlace (qNum r).2).2).2).2).2⟩
 else if x.kind = 6 then ⟨(memberF x r).1, [], (memberF x r).2⟩
 else if x.kind = 5 then ⟨{(memberF x r).1 with pt := (qText (memberF x r).2).1}, [], (qText (memberF x r).2).2⟩
 else if x.kind = 7 then ⟨{(memberF x r).1 with gen := (qNum (memberF x r).2).1}, [], (qNum (memberF x r).2).2⟩
 else if x.kind = 8 then ⟨{(memberF x r).1 with gen := (qNum (memberF x r).2).1, pt := (qPlace (qNum (memberF x r).2).2).1.1, pp := (qPlace (qNum (memberF x r).2).2).1.2, off := (qNum (qPlace (qNum (memberF x r).2).2).2).1}, [], (qNum (qPlace (qNum (memberF x r).2).2).2).2⟩
 else if x.kind = 10 then ⟨{x with pt := (qPlace r).1.1, pp := (qPlace r).1.2, off := (qNum (qPlace r).2).1, label := (qNum (qNum (qPlace r).2).2).1, tt := (qPlace (qNum (qNum (qPlace r).2).2).2).1.1, tp := (qPlace (qNum (qNum (qPlace r).2).2).2).1.2}, [], (qPlace (qNum (qNum (qPlace r).2).2).2).2⟩
 else if x.kind = 11 then ⟨{x with label := (qNum r).1}, [], (qNum r).2⟩
 else if x.kind = 9 then ⟨{x with label := (qNum r).1, grp := (qText (qNum r).2).1, pt := (qPlace (qText (qNum r).2).2).1.1, pp := (qPlace (qText (qNum r).2).2).1.2}, [], (qPlace (qText (qNum r).2).2).2⟩
 else if x.kind = 12 then ⟨{x with label := (qNum r).1, pt := (qPlace (qNum r).2).1.1, pp := (qPlace (qNum r).2).1.2}, [], (qPlace (qNum r).2).2⟩
 else ⟨x, [], (⟨#[]⟩, true)⟩
set_option maxHeartbeats 16000000 in
set_option maxRecDepth 100000 in
theorem low4_calls (x : Rq) (r0 : Rd) (w : World) (hz : r0.1.size ≤ 100000) (hk0 : x.kind = 4) :
  Calls Try.prog 82 #[.agg #[.string r0.1, .bool r0.2], .agg #[.int .i64 x.id, .int .i64 x.kind, .int .i64 x.label, .string x.pt, .int .i64 x.pp, .string x.tt, .int .i64 x.tp, .string x.sn, .int .i64 x.sp, .int .i64 x.sa, .int .i64 x.ss, .bool x.sc, .string x.grp, .string x.mem, .int .i64 x.gen, .int .i64 x.off, .int .i64 x.most, .int .i64 x.prod, .int .i64 x.seq, .slice none 0 0]] w fun e w' => ∃ u, e = .returned (.tuple #[(refF x r0).y.v u, .agg #[.string (refF x r0).r.1, .bool (refF x r0).r.2]]) ∧ Kd.R k102 102 w' w.heap.size (fun _ => True) u (refF x r0).ps ∧ Below w.heap.size w w' := by
 have z0 : r0.1.size ≤ 100000 := hz
 have h1 := fun W : World => qtext_calls r0 z0 W
 obtain ⟨v1, r1, e1⟩ : ∃ v r, qText r0 = (v, r) := ⟨_, _, rfl⟩
 rw [e1] at h1
 have h1 := Aside0.mk h1
 have HF : Aside0 (refF x r0 = ⟨{x with pt := v1}, [], r1⟩) := ⟨by unfold refF; rw [if_neg (show ¬ x.kind = 3 by omega), if_pos hk0]; simp only [e1]⟩
 have hk := Aside0.mk hk0
 clear e1 z0 hz hk0
 go_enter Try.func82, Try.ntmps82
 go_wp2_with (first
  | ((with_reducible refine gate_dst (N := 2) rfl ?_); refine box_event rfl (N := 2) rfl (cs := #[.string r0.1, .bool r0.2]) (t := 110) ?hr ?_; (case hr => first | (go_simp; done) | (go_simp; rfl)); intro gr0 hgr0 w1 hbx hbl; have X1 := Aside0.mk hbx; have L1 := Aside0.mk hbl; have M1 := Aside0.mk (Nat.le_of_eq hgr0.symm); clear hbx hbl hgr0)
  | ((with_reducible refine gate_dst (N := 3) rfl ?_); refine box_event rfl (N := 3) rfl (cs := #[.int .i64 x.id, .int .i64 x.kind, .int .i64 x.label, .string x.pt, .int .i64 x.pp, .string x.tt, .int .i64 x.tp, .string x.sn, .int .i64 x.sp, .int .i64 x.sa, .int .i64 x.ss, .bool x.sc, .string x.grp, .string x.mem, .int .i64 x.gen, .int .i64 x.off, .int .i64 x.most, .int .i64 x.prod, .int .i64 x.seq, .slice none 0 0]) (t := 45) ?hr ?_; (case hr => first | (go_simp; done) | (go_simp; rfl)); intro g3 hg3 w2 hbx hbl; have X2 := Aside0.mk (blk_below X1.out hbl); have Y2 := Aside0.mk hbx; have L2 := Aside0.mk (below_step L1.out hbl); have M2 := Aside0.mk (show w.heap.size ≤ g3 by rw [hg3]; exact L1.out.size); clear X1 L1 hbx hbl hg3)
  | ((with_reducible refine gate_dst (N := 4) rfl ?_); refine box_event rfl (N := 4) rfl (cs := #[.int .i64 0, .int .i64 0, .int .i64 0, .string ⟨#[]⟩, .int .i64 0, .string ⟨#[]⟩, .int .i64 0, .string ⟨#[]⟩, .int .i64 0, .int .i64 0, .int .i64 0, .bool false, .string ⟨#[]⟩, .string ⟨#[]⟩, .int .i64 0, .int .i64 0, .int .i64 0, .int .i64 0, .int .i64 0, .slice none 0 0]) (t := 45) ?hr ?_; (case hr => first | (go_simp; done) | (go_simp; rfl)); intro g4 hg4 w3 hbx hbl; have X3 := Aside0.mk (blk_below X2.out hbl); have Y3 := Aside0.mk (blk_below Y2.out hbl); have Z3 := Aside0.mk hbx; have L3 := Aside0.mk (below_step L2.out hbl); have M3 := Aside0.mk (show w.heap.size ≤ g4 by rw [hg4]; exact L2.out.size); have N3 := Aside0.mk (show g3 ≠ g4 by rw [hg4]; exact Nat.ne_of_lt (blk_lt Y2.out)); clear X2 Y2 L2 hbx hbl hg4)
  | ((with_reducible refine gate_dst (N := 5) rfl ?_); refine box_event rfl (N := 5) rfl (cs := #[.string ⟨#[]⟩, .bool false]) (t := 110) ?hr ?_; (case hr => first | (go_simp; done) | (go_simp; rfl)); intro g5 hg5 w4 hbx hbl; have HS : Aside0 (Sx w x (.slice none 0 0) g3 g4 g5 gr0 r0 [] w4) := ⟨⟨blk_below Y3.out hbl, blk_below Z3.out hbl, hbx, blk_below X3.out hbl, fun e he => by simp at he, below_step L3.out hbl, M2.out, M3.out, by rw [hg5]; exact L3.out.size, N3.out, by rw [hg5]; exact Nat.ne_of_lt (blk_lt X3.out)⟩⟩; clear X3 Y3 Z3 L3 M1 M2 M3 N3 hbx hbl hg5; have ck : w4.cell? ⟨g3, 1, none⟩ = some (.int .i64 4) := ((blk_cell HS.out.b3 1).trans (show _ = some (Value.int .i64 x.kind) from rfl)).trans (by rw [hk.out]))
  | ((with_reducible refine gate_dst (N := 74) rfl ?_); refine load_ev (N := 74) rfl rfl rfl (cs := #[.string r0.1, .bool r0.2]) rfl HS.out.br Try.underlying110 rfl (by kernel_rfl) ?_))
 clear ck
 refine (h1.out _).mono ?_
 rintro e U1 ⟨rfl, hb⟩
 replace HS := Aside0.mk (HS.out.below hb)
 clear hb
 go_upto_region 15 with (first
  | ((with_reducible refine gate_dst (N := 17) rfl ?_); refine box_event rfl (N := 17) rfl (cs := #[.string ⟨#[]⟩, .bool false]) (t := 110) ?hr ?_; (case hr => first | (go_simp; done) | (go_simp; rfl)); intro ga hga W17 hbx hbl; have HS_ := Aside0.mk (HS.out.below hbl); have Zr := Aside0.mk hbx; have Fr := Aside0.mk (HS.out.fresh hga); clear HS hbl hbx hga; have HS := HS_; clear HS_)
  | ((with_reducible refine gate_store (t := 110) (p := 17) rfl ?_); refine store_ev rfl rfl rfl (cells := #[.string r1.1, .bool r1.2]) rfl rfl Zr.out (by kernel_rfl) rfl (by kernel_rfl) ?_; intro V17 hbx hgr; have HS_ := Aside0.mk (HS.out.reader (r' := r1) Zr.out hbx hgr Fr.out); clear HS Zr Fr hbx hgr; have HS := HS_; clear HS_)
  | ((with_reducible refine gate_store (t := 9) (p := 80) rfl ?_); have d0 := (blk_cell HS.out.b3 3).trans (show _ = some _ from rfl); have f0 := blk_frozen HS.out.b3 3; refine fstore_ev rfl rfl rfl (j := 3) (u := .string v1) HS.out.b3 ?hr ?_; (case hr => first | (go_simp; done) | (go_simp; rfl)); intro V80 hbx hgr; have HS_ := Aside0.mk (HS.out.field (y' := {x with pt := v1}) (yu' := .slice none 0 0) hbx hgr); clear HS hbx hgr d0 f0; have HS := HS_; clear HS_))
 refine ret_pair _ _ _ _ (by kernel_rfl) rfl rfl rfl rfl rfl (by kernel_rfl) (fun _ _ _ _ _ h => h) (d0 := 81) (d1 := 82) (p0 := 3) (p1 := 17) (p2 := 4) (p3 := 5) (T1 := 45) (T2 := 110) rfl rfl rfl rfl rfl rfl rfl rfl rfl rfl rfl rfl HS.out.b3 HS.out.br HS.out.b4 HS.out.b5 Try.underlying45 rfl (by kernel_rfl) Try.underlying110 rfl (by kernel_rfl) rfl rfl (by kernel_rfl) (by kernel_rfl) rfl rfl rfl rfl rfl rfl HS.out.n34 (blk_types HS.out.b3 HS.out.b5 (by decide)) (blk_types HS.out.br HS.out.b4 (by decide)) HS.out.n5r (blk_types HS.out.b4 HS.out.b5 (by decide)) ?_
 intro V b4 b5 hgr
 have HL := Aside0.mk (hgr.below HS.out.bl HS.out.l4 HS.out.l5 HS.out.size)
 have B4 := Aside0.mk b4
 have B5 := Aside0.mk b5
 clear b4 b5 hgr HS
 go_wp2_with fail
 refine bodyPost_ret (results_cc' rfl _ _ g4 g5 45 110 (({x with pt := v1}).cs (.slice none 0 0)) #[.string r1.1, .bool r1.2] (0, 0) (0, 0) _ _ rfl B4.out Try.underlying45 rfl (by kernel_rfl) rfl B5.out Try.underlying110 rfl (by kernel_rfl)) rfl ?_
 rw [HF.out]
 exact ⟨_, rfl, Kd.R_nil _ _ _ _ _, HL.out⟩
set_option maxHeartbeats 16000000 in
set_option maxRecDepth 100000 in
theorem low3b_calls (x : Rq) (r0 : Rd) (w : World) (hz : r0.1.size ≤ 100000) (hk0 : x.kind = 3) (hv : (qNum (qNum (qNum (qNum (qText r0).2).2).2).2).1 > 1) :
  Calls Try.prog 82 #[.agg #[.string r0.1, .bool r0.2], .agg #[.int .i64 x.id, .int .i64 x.kind, .int .i64 x.label, .string x.pt, .int .i64 x.pp, .string x.tt, .int .i64 x.tp, .string x.sn, .int .i64 x.sp, .int .i64 x.sa, .int .i64 x.ss, .bool x.sc, .string x.grp, .string x.mem, .int .i64 x.gen, .int .i64 x.off, .int .i64 x.most, .int .i64 x.prod, .int .i64 x.seq, .slice none 0 0]] w fun e w' => ∃ u, e = .returned (.tuple #[(refF x r0).y.v u, .agg #[.string (refF x r0).r.1, .bool (refF x r0).r.2]]) ∧ Kd.R k102 102 w' w.heap.size (fun _ => True) u (refF x r0).ps ∧ Below w.heap.size w w' := by
 have z0 : r0.1.size ≤ 100000 := hz
 have h1 := fun W : World => qtext_calls r0 z0 W
 obtain ⟨v1, r1, e1⟩ : ∃ v r, qText r0 = (v, r) := ⟨_, _, rfl⟩
 rw [e1] at h1
 have h1 := Aside0.mk h1
 have z1 : r1.1.size ≤ 100000 := by have := qText_size r0; rw [e1] at this; exact Nat.le_trans this z0
 have h2 := fun W : World => qnum_calls r1 z1 W
 obtain ⟨v2, r2, e2⟩ : ∃ v r, qNum r1 = (v, r) := ⟨_, _, rfl⟩
 rw [e2] at h2
 have h2 := Aside0.mk h2
 have z2 : r2.1.size ≤ 100000 := by have := qNum_size r1; rw [e2] at this; exact Nat.le_trans this z1
 have h3 := fun W : World => qnum_calls r2 z2 W
 obtain ⟨v3, r3, e3⟩ : ∃ v r, qNum r2 = (v, r) := ⟨_, _, rfl⟩
 rw [e3] at h3
 have h3 := Aside0.mk h3
 have z3 : r3.1.size ≤ 100000 := by have := qNum_size r2; rw [e3] at this; exact Nat.le_trans this z2
 have h4 := fun W : World => qnum_calls r3 z3 W
 obtain ⟨v4, r4, e4⟩ : ∃ v r, qNum r3 = (v, r) := ⟨_, _, rfl⟩
 rw [e4] at h4
 have h4 := Aside0.mk h4
 have z4 : r4.1.size ≤ 100000 := by have := qNum_size r3; rw [e4] at this; exact Nat.le_trans this z3
 have h5 := fun W : World => qnum_calls r4 z4 W
 obtain ⟨v5, r5, e5⟩ : ∃ v r, qNum r4 = (v, r) := ⟨_, _, rfl⟩
 rw [e5] at h5
 have h5 := Aside0.mk h5
 simp only [e1, e2, e3, e4, e5] at hv
 have HF : Aside0 (refF x r0 = ⟨{x with sn := v1, sp := v2, sa := v3, ss := v4, sc := v5 == 1}, [], (⟨#[]⟩, true)⟩) := ⟨by unfold refF; rw [if_pos hk0]; simp only [e1, e2, e3, e4, e5]; rw [if_pos hv]⟩
 have hk := Aside0.mk hk0
 have hv1 : (1 : Int) < v5 := hv
 clear e1 e2 e3 e4 e5 z0 z1 z2 z3 z4 hz hk0 hv
 go_enter Try.func82, Try.ntmps82
 go_wp2_with (first
  | ((with_reducible refine gate_dst (N := 2) rfl ?_); refine box_event rfl (N := 2) rfl (cs := #[.string r0.1, .bool r0.2]) (t := 110) ?hr ?_; (case hr => first | (go_simp; done) | (go_simp; rfl)); intro gr0 hgr0 w1 hbx hbl; have X1 := Aside0.mk hbx; have L1 := Aside0.mk hbl; have M1 := Aside0.mk (Nat.le_of_eq hgr0.symm); clear hbx hbl hgr0)
  | ((with_reducible refine gate_dst (N := 3) rfl ?_); refine box_event rfl (N := 3) rfl (cs := #[.int .i64 x.id, .int .i64 x.kind, .int .i64 x.label, .string x.pt, .int .i64 x.pp, .string x.tt, .int .i64 x.tp, .string x.sn, .int .i64 x.sp, .int .i64 x.sa, .int .i64 x.ss, .bool x.sc, .string x.grp, .string x.mem, .int .i64 x.gen, .int .i64 x.off, .int .i64 x.most, .int .i64 x.prod, .int .i64 x.seq, .slice none 0 0]) (t := 45) ?hr ?_; (case hr => first | (go_simp; done) | (go_simp; rfl)); intro g3 hg3 w2 hbx hbl; have X2 := Aside0.mk (blk_below X1.out hbl); have Y2 := Aside0.mk hbx; have L2 := Aside0.mk (below_step L1.out hbl); have M2 := Aside0.mk (show w.heap.size ≤ g3 by rw [hg3]; exact L1.out.size); clear X1 L1 hbx hbl hg3)
  | ((with_reducible refine gate_dst (N := 4) rfl ?_); refine box_event rfl (N := 4) rfl (cs := #[.int .i64 0, .int .i64 0, .int .i64 0, .string ⟨#[]⟩, .int .i64 0, .string ⟨#[]⟩, .int .i64 0, .string ⟨#[]⟩, .int .i64 0, .int .i64 0, .int .i64 0, .bool false, .string ⟨#[]⟩, .string ⟨#[]⟩, .int .i64 0, .int .i64 0, .int .i64 0, .int .i64 0, .int .i64 0, .slice none 0 0]) (t := 45) ?hr ?_; (case hr => first | (go_simp; done) | (go_simp; rfl)); intro g4 hg4 w3 hbx hbl; have X3 := Aside0.mk (blk_below X2.out hbl); have Y3 := Aside0.mk (blk_below Y2.out hbl); have Z3 := Aside0.mk hbx; have L3 := Aside0.mk (below_step L2.out hbl); have M3 := Aside0.mk (show w.heap.size ≤ g4 by rw [hg4]; exact L2.out.size); have N3 := Aside0.mk (show g3 ≠ g4 by rw [hg4]; exact Nat.ne_of_lt (blk_lt Y2.out)); clear X2 Y2 L2 hbx hbl hg4)
  | ((with_reducible refine gate_dst (N := 5) rfl ?_); refine box_event rfl (N := 5) rfl (cs := #[.string ⟨#[]⟩, .bool false]) (t := 110) ?hr ?_; (case hr => first | (go_simp; done) | (go_simp; rfl)); intro g5 hg5 w4 hbx hbl; have HS : Aside0 (Sx w x (.slice none 0 0) g3 g4 g5 gr0 r0 [] w4) := ⟨⟨blk_below Y3.out hbl, blk_below Z3.out hbl, hbx, blk_below X3.out hbl, fun e he => by simp at he, below_step L3.out hbl, M2.out, M3.out, by rw [hg5]; exact L3.out.size, N3.out, by rw [hg5]; exact Nat.ne_of_lt (blk_lt X3.out)⟩⟩; clear X3 Y3 Z3 L3 M1 M2 M3 N3 hbx hbl hg5; have ck : w4.cell? ⟨g3, 1, none⟩ = some (.int .i64 3) := ((blk_cell HS.out.b3 1).trans (show _ = some (Value.int .i64 x.kind) from rfl)).trans (by rw [hk.out]))
  | ((with_reducible refine gate_dst (N := 33) rfl ?_); refine load_ev (N := 33) rfl rfl rfl (cs := #[.string r0.1, .bool r0.2]) rfl HS.out.br Try.underlying110 rfl (by kernel_rfl) ?_))
 clear ck
 refine (h1.out _).mono ?_
 rintro e U1 ⟨rfl, hb⟩
 replace HS := Aside0.mk (HS.out.below hb)
 clear hb
 go_wp2_with (first
  | ((with_reducible refine gate_dst (N := 7) rfl ?_); refine box_event rfl (N := 7) rfl (cs := #[.string ⟨#[]⟩, .bool false]) (t := 110) ?hr ?_; (case hr => first | (go_simp; done) | (go_simp; rfl)); intro ga hga W7 hbx hbl; have HS_ := Aside0.mk (HS.out.below hbl); have Zr := Aside0.mk hbx; have Fr := Aside0.mk (HS.out.fresh hga); clear HS hbl hbx hga; have HS := HS_; clear HS_)
  | ((with_reducible refine gate_store (t := 110) (p := 7) rfl ?_); refine store_ev rfl rfl rfl (cells := #[.string r1.1, .bool r1.2]) rfl rfl Zr.out (by kernel_rfl) rfl (by kernel_rfl) ?_; intro V7 hbx hgr; have HS_ := Aside0.mk (HS.out.reader (r' := r1) Zr.out hbx hgr Fr.out); clear HS Zr Fr hbx hgr; have HS := HS_; clear HS_)
  | ((with_reducible refine gate_dst (N := 38) rfl ?_); refine load_ev (N := 38) rfl rfl rfl (cs := #[.string r1.1, .bool r1.2]) rfl HS.out.br Try.underlying110 rfl (by kernel_rfl) ?_))
 refine (h2.out _).mono ?_
 rintro e U2 ⟨rfl, hb⟩
 replace HS := Aside0.mk (HS.out.below hb)
 clear hb
 go_wp2_with (first
  | ((with_reducible refine gate_dst (N := 9) rfl ?_); refine box_event rfl (N := 9) rfl (cs := #[.string ⟨#[]⟩, .bool false]) (t := 110) ?hr ?_; (case hr => first | (go_simp; done) | (go_simp; rfl)); intro gb hgb W9 hbx hbl; have HS_ := Aside0.mk (HS.out.below hbl); have Zr := Aside0.mk hbx; have Fr := Aside0.mk (HS.out.fresh hgb); clear HS hbl hbx hgb; have HS := HS_; clear HS_)
  | ((with_reducible refine gate_store (t := 110) (p := 9) rfl ?_); refine store_ev rfl rfl rfl (cells := #[.string r2.1, .bool r2.2]) rfl rfl Zr.out (by kernel_rfl) rfl (by kernel_rfl) ?_; intro V9 hbx hgr; have HS_ := Aside0.mk (HS.out.reader (r' := r2) Zr.out hbx hgr Fr.out); clear HS Zr Fr hbx hgr; have HS := HS_; clear HS_)
  | ((with_reducible refine gate_dst (N := 43) rfl ?_); refine load_ev (N := 43) rfl rfl rfl (cs := #[.string r2.1, .bool r2.2]) rfl HS.out.br Try.underlying110 rfl (by kernel_rfl) ?_))
 refine (h3.out _).mono ?_
 rintro e U3 ⟨rfl, hb⟩
 replace HS := Aside0.mk (HS.out.below hb)
 clear hb
 go_wp2_with (first
  | ((with_reducible refine gate_dst (N := 11) rfl ?_); refine box_event rfl (N := 11) rfl (cs := #[.string ⟨#[]⟩, .bool false]) (t := 110) ?hr ?_; (case hr => first | (go_simp; done) | (go_simp; rfl)); intro gc hgc W11 hbx hbl; have HS_ := Aside0.mk (HS.out.below hbl); have Zr := Aside0.mk hbx; have Fr := Aside0.mk (HS.out.fresh hgc); clear HS hbl hbx hgc; have HS := HS_; clear HS_)
  | ((with_reducible refine gate_store (t := 110) (p := 11) rfl ?_); refine store_ev rfl rfl rfl (cells := #[.string r3.1, .bool r3.2]) rfl rfl Zr.out (by kernel_rfl) rfl (by kernel_rfl) ?_; intro V11 hbx hgr; have HS_ := Aside0.mk (HS.out.reader (r' := r3) Zr.out hbx hgr Fr.out); clear HS Zr Fr hbx hgr; have HS := HS_; clear HS_)
  | ((with_reducible refine gate_dst (N := 48) rfl ?_); refine load_ev (N := 48) rfl rfl rfl (cs := #[.string r3.1, .bool r3.2]) rfl HS.out.br Try.underlying110 rfl (by kernel_rfl) ?_))
 refine (h4.out _).mono ?_
 rintro e U4 ⟨rfl, hb⟩
 replace HS := Aside0.mk (HS.out.below hb)
 clear hb
 go_wp2_with (first
  | ((with_reducible refine gate_dst (N := 13) rfl ?_); refine box_event rfl (N := 13) rfl (cs := #[.string ⟨#[]⟩, .bool false]) (t := 110) ?hr ?_; (case hr => first | (go_simp; done) | (go_simp; rfl)); intro gd hgd W13 hbx hbl; have HS_ := Aside0.mk (HS.out.below hbl); have Zr := Aside0.mk hbx; have Fr := Aside0.mk (HS.out.fresh hgd); clear HS hbl hbx hgd; have HS := HS_; clear HS_)
  | ((with_reducible refine gate_store (t := 110) (p := 13) rfl ?_); refine store_ev rfl rfl rfl (cells := #[.string r4.1, .bool r4.2]) rfl rfl Zr.out (by kernel_rfl) rfl (by kernel_rfl) ?_; intro V13 hbx hgr; have HS_ := Aside0.mk (HS.out.reader (r' := r4) Zr.out hbx hgr Fr.out); clear HS Zr Fr hbx hgr; have HS := HS_; clear HS_)
  | ((with_reducible refine gate_dst (N := 53) rfl ?_); refine load_ev (N := 53) rfl rfl rfl (cs := #[.string r4.1, .bool r4.2]) rfl HS.out.br Try.underlying110 rfl (by kernel_rfl) ?_))
 refine (h5.out _).mono ?_
 rintro e U5 ⟨rfl, hb⟩
 replace HS := Aside0.mk (HS.out.below hb)
 clear hb
 go_upto_region 8 with (first
  | ((with_reducible refine gate_dst (N := 15) rfl ?_); refine box_event rfl (N := 15) rfl (cs := #[.string ⟨#[]⟩, .bool false]) (t := 110) ?hr ?_; (case hr => first | (go_simp; done) | (go_simp; rfl)); intro ge hge W15 hbx hbl; have HS_ := Aside0.mk (HS.out.below hbl); have Zr := Aside0.mk hbx; have Fr := Aside0.mk (HS.out.fresh hge); clear HS hbl hbx hge; have HS := HS_; clear HS_)
  | ((with_reducible refine gate_store (t := 110) (p := 15) rfl ?_); refine store_ev rfl rfl rfl (cells := #[.string r5.1, .bool r5.2]) rfl rfl Zr.out (by kernel_rfl) rfl (by kernel_rfl) ?_; intro V15 hbx hgr; have HS_ := Aside0.mk (HS.out.reader (r' := r5) Zr.out hbx hgr Fr.out); clear HS Zr Fr hbx hgr; have HS := HS_; clear HS_))
 have d7 := (blk_cell HS.out.b3 7).trans (show _ = some _ from rfl)
 have f7 := blk_frozen HS.out.b3 7
 have d8 := (blk_cell HS.out.b3 8).trans (show _ = some _ from rfl)
 have f8 := blk_frozen HS.out.b3 8
 have d9 := (blk_cell HS.out.b3 9).trans (show _ = some _ from rfl)
 have f9 := blk_frozen HS.out.b3 9
 have d10 := (blk_cell HS.out.b3 10).trans (show _ = some _ from rfl)
 have f10 := blk_frozen HS.out.b3 10
 have d11 := (blk_cell HS.out.b3 11).trans (show _ = some _ from rfl)
 have f11 := blk_frozen HS.out.b3 11
 go_upto_region 9 with fail
 obtain ⟨hb5, hg5⟩ := put5 HS.out.b3 (.string v1) (.int .i64 v2) (.int .i64 v3) (.int .i64 v4) (.bool (v5 == 1))
 have HS_ := Aside0.mk (HS.out.field (y' := {x with sn := v1, sp := v2, sa := v3, ss := v4, sc := v5 == 1}) (yu' := .slice none 0 0) hb5 hg5)
 clear HS hb5 hg5 d7 f7 d8 f8 d9 f9 d10 f10 d11 f11
 have HS := HS_
 clear HS_
 go_wp2_with (first
  | ((with_reducible refine gate_dst (N := 67) rfl ?_); refine load_ev (N := 67) rfl rfl rfl (cs := ({x with sn := v1, sp := v2, sa := v3, ss := v4, sc := v5 == 1}).cs (.slice none 0 0)) rfl HS.out.b3 Try.underlying45 rfl (by kernel_rfl) ?_)
  | ((with_reducible refine gate_store (t := 45) (p := 4) rfl ?_); refine store_ev rfl rfl rfl (cells := ({x with sn := v1, sp := v2, sa := v3, ss := v4, sc := v5 == 1}).cs (.slice none 0 0)) rfl rfl HS.out.b4 (by kernel_rfl) rfl (by kernel_rfl) ?_; intro V1 hbx hgr; have B4 := Aside0.mk hbx; have Z5 := Aside0.mk (grown_at hgr HS.out.b5 (blk_types HS.out.b5 HS.out.b4 (by decide))); have HL := Aside0.mk (below_put HS.out.bl HS.out.l4 hgr HS.out.size); have L5 := Aside0.mk HS.out.l5; clear HS hbx hgr)
  | ((with_reducible refine gate_store (t := 110) (p := 5) rfl ?_); refine store_ev rfl rfl rfl (cells := #[.string ⟨#[]⟩, .bool true]) rfl rfl Z5.out (by kernel_rfl) rfl (by kernel_rfl) ?_; intro V2 hbx hgr; have B5 := Aside0.mk hbx; have B4_ := Aside0.mk (grown_at hgr B4.out (blk_types B4.out Z5.out (by decide))); have HL_ := Aside0.mk (below_put HL.out L5.out hgr HL.out.size); clear B4 Z5 HL L5 hbx hgr; have B4 := B4_; have HL := HL_; clear B4_ HL_))
 refine bodyPost_ret (results_cc' rfl _ _ g4 g5 45 110 (({x with sn := v1, sp := v2, sa := v3, ss := v4, sc := v5 == 1}).cs (.slice none 0 0)) #[.string ⟨#[]⟩, .bool true] (0, 0) (0, 0) _ _ rfl B4.out Try.underlying45 rfl (by kernel_rfl) rfl B5.out Try.underlying110 rfl (by kernel_rfl)) rfl ?_
 rw [HF.out]
 exact ⟨_, rfl, Kd.R_nil _ _ _ _ _, HL.out⟩
set_option maxHeartbeats 16000000 in
set_option maxRecDepth 100000 in
theorem low3a_calls (x : Rq) (r0 : Rd) (w : World) (hz : r0.1.size ≤ 100000) (hk0 : x.kind = 3) (hv : ¬ (qNum (qNum (qNum (qNum (qText r0).2).2).2).2).1 > 1) :
  Calls Try.prog 82 #[.agg #[.string r0.1, .bool r0.2], .agg #[.int .i64 x.id, .int .i64 x.kind, .int .i64 x.label, .string x.pt, .int .i64 x.pp, .string x.tt, .int .i64 x.tp, .string x.sn, .int .i64 x.sp, .int .i64 x.sa, .int .i64 x.ss, .bool x.sc, .string x.grp, .string x.mem, .int .i64 x.gen, .int .i64 x.off, .int .i64 x.most, .int .i64 x.prod, .int .i64 x.seq, .slice none 0 0]] w fun e w' => ∃ u, e = .returned (.tuple #[(refF x r0).y.v u, .agg #[.string (refF x r0).r.1, .bool (refF x r0).r.2]]) ∧ Kd.R k102 102 w' w.heap.size (fun _ => True) u (refF x r0).ps ∧ Below w.heap.size w w' := by
 have z0 : r0.1.size ≤ 100000 := hz
 have h1 := fun W : World => qtext_calls r0 z0 W
 obtain ⟨v1, r1, e1⟩ : ∃ v r, qText r0 = (v, r) := ⟨_, _, rfl⟩
 rw [e1] at h1
 have h1 := Aside0.mk h1
 have z1 : r1.1.size ≤ 100000 := by have := qText_size r0; rw [e1] at this; exact Nat.le_trans this z0
 have h2 := fun W : World => qnum_calls r1 z1 W
 obtain ⟨v2, r2, e2⟩ : ∃ v r, qNum r1 = (v, r) := ⟨_, _, rfl⟩
 rw [e2] at h2
 have h2 := Aside0.mk h2
 have z2 : r2.1.size ≤ 100000 := by have := qNum_size r1; rw [e2] at this; exact Nat.le_trans this z1
 have h3 := fun W : World => qnum_calls r2 z2 W
 obtain ⟨v3, r3, e3⟩ : ∃ v r, qNum r2 = (v, r) := ⟨_, _, rfl⟩
 rw [e3] at h3
 have h3 := Aside0.mk h3
 have z3 : r3.1.size ≤ 100000 := by have := qNum_size r2; rw [e3] at this; exact Nat.le_trans this z2
 have h4 := fun W : World => qnum_calls r3 z3 W
 obtain ⟨v4, r4, e4⟩ : ∃ v r, qNum r3 = (v, r) := ⟨_, _, rfl⟩
 rw [e4] at h4
 have h4 := Aside0.mk h4
 have z4 : r4.1.size ≤ 100000 := by have := qNum_size r3; rw [e4] at this; exact Nat.le_trans this z3
 have h5 := fun W : World => qnum_calls r4 z4 W
 obtain ⟨v5, r5, e5⟩ : ∃ v r, qNum r4 = (v, r) := ⟨_, _, rfl⟩
 rw [e5] at h5
 have h5 := Aside0.mk h5
 simp only [e1, e2, e3, e4, e5] at hv
 have HF : Aside0 (refF x r0 = ⟨{x with sn := v1, sp := v2, sa := v3, ss := v4, sc := v5 == 1}, [], r5⟩) := ⟨by unfold refF; rw [if_pos hk0]; simp only [e1, e2, e3, e4, e5]; rw [if_neg hv]⟩
 have hk := Aside0.mk hk0
 have hv1 : ¬ (1 : Int) < v5 := hv
 clear e1 e2 e3 e4 e5 z0 z1 z2 z3 z4 hz hk0 hv
 go_enter Try.func82, Try.ntmps82
 go_wp2_with (first
  | ((with_reducible refine gate_dst (N := 2) rfl ?_); refine box_event rfl (N := 2) rfl (cs := #[.string r0.1, .bool r0.2]) (t := 110) ?hr ?_; (case hr => first | (go_simp; done) | (go_simp; rfl)); intro gr0 hgr0 w1 hbx hbl; have X1 := Aside0.mk hbx; have L1 := Aside0.mk hbl; have M1 := Aside0.mk (Nat.le_of_eq hgr0.symm); clear hbx hbl hgr0)
  | ((with_reducible refine gate_dst (N := 3) rfl ?_); refine box_event rfl (N := 3) rfl (cs := #[.int .i64 x.id, .int .i64 x.kind, .int .i64 x.label, .string x.pt, .int .i64 x.pp, .string x.tt, .int .i64 x.tp, .string x.sn, .int .i64 x.sp, .int .i64 x.sa, .int .i64 x.ss, .bool x.sc, .string x.grp, .string x.mem, .int .i64 x.gen, .int .i64 x.off, .int .i64 x.most, .int .i64 x.prod, .int .i64 x.seq, .slice none 0 0]) (t := 45) ?hr ?_; (case hr => first | (go_simp; done) | (go_simp; rfl)); intro g3 hg3 w2 hbx hbl; have X2 := Aside0.mk (blk_below X1.out hbl); have Y2 := Aside0.mk hbx; have L2 := Aside0.mk (below_step L1.out hbl); have M2 := Aside0.mk (show w.heap.size ≤ g3 by rw [hg3]; exact L1.out.size); clear X1 L1 hbx hbl hg3)
  | ((with_reducible refine gate_dst (N := 4) rfl ?_); refine box_event rfl (N := 4) rfl (cs := #[.int .i64 0, .int .i64 0, .int .i64 0, .string ⟨#[]⟩, .int .i64 0, .string ⟨#[]⟩, .int .i64 0, .string ⟨#[]⟩, .int .i64 0, .int .i64 0, .int .i64 0, .bool false, .string ⟨#[]⟩, .string ⟨#[]⟩, .int .i64 0, .int .i64 0, .int .i64 0, .int .i64 0, .int .i64 0, .slice none 0 0]) (t := 45) ?hr ?_; (case hr => first | (go_simp; done) | (go_simp; rfl)); intro g4 hg4 w3 hbx hbl; have X3 := Aside0.mk (blk_below X2.out hbl); have Y3 := Aside0.mk (blk_below Y2.out hbl); have Z3 := Aside0.mk hbx; have L3 := Aside0.mk (below_step L2.out hbl); have M3 := Aside0.mk (show w.heap.size ≤ g4 by rw [hg4]; exact L2.out.size); have N3 := Aside0.mk (show g3 ≠ g4 by rw [hg4]; exact Nat.ne_of_lt (blk_lt Y2.out)); clear X2 Y2 L2 hbx hbl hg4)
  | ((with_reducible refine gate_dst (N := 5) rfl ?_); refine box_event rfl (N := 5) rfl (cs := #[.string ⟨#[]⟩, .bool false]) (t := 110) ?hr ?_; (case hr => first | (go_simp; done) | (go_simp; rfl)); intro g5 hg5 w4 hbx hbl; have HS : Aside0 (Sx w x (.slice none 0 0) g3 g4 g5 gr0 r0 [] w4) := ⟨⟨blk_below Y3.out hbl, blk_below Z3.out hbl, hbx, blk_below X3.out hbl, fun e he => by simp at he, below_step L3.out hbl, M2.out, M3.out, by rw [hg5]; exact L3.out.size, N3.out, by rw [hg5]; exact Nat.ne_of_lt (blk_lt X3.out)⟩⟩; clear X3 Y3 Z3 L3 M1 M2 M3 N3 hbx hbl hg5; have ck : w4.cell? ⟨g3, 1, none⟩ = some (.int .i64 3) := ((blk_cell HS.out.b3 1).trans (show _ = some (Value.int .i64 x.kind) from rfl)).trans (by rw [hk.out]))
  | ((with_reducible refine gate_dst (N := 33) rfl ?_); refine load_ev (N := 33) rfl rfl rfl (cs := #[.string r0.1, .bool r0.2]) rfl HS.out.br Try.underlying110 rfl (by kernel_rfl) ?_))
 clear ck
 refine (h1.out _).mono ?_
 rintro e U1 ⟨rfl, hb⟩
 replace HS := Aside0.mk (HS.out.below hb)
 clear hb
 go_wp2_with (first
  | ((with_reducible refine gate_dst (N := 7) rfl ?_); refine box_event rfl (N := 7) rfl (cs := #[.string ⟨#[]⟩, .bool false]) (t := 110) ?hr ?_; (case hr => first | (go_simp; done) | (go_simp; rfl)); intro ga hga W7 hbx hbl; have HS_ := Aside0.mk (HS.out.below hbl); have Zr := Aside0.mk hbx; have Fr := Aside0.mk (HS.out.fresh hga); clear HS hbl hbx hga; have HS := HS_; clear HS_)
  | ((with_reducible refine gate_store (t := 110) (p := 7) rfl ?_); refine store_ev rfl rfl rfl (cells := #[.string r1.1, .bool r1.2]) rfl rfl Zr.out (by kernel_rfl) rfl (by kernel_rfl) ?_; intro V7 hbx hgr; have HS_ := Aside0.mk (HS.out.reader (r' := r1) Zr.out hbx hgr Fr.out); clear HS Zr Fr hbx hgr; have HS := HS_; clear HS_)
  | ((with_reducible refine gate_dst (N := 38) rfl ?_); refine load_ev (N := 38) rfl rfl rfl (cs := #[.string r1.1, .bool r1.2]) rfl HS.out.br Try.underlying110 rfl (by kernel_rfl) ?_))
 refine (h2.out _).mono ?_
 rintro e U2 ⟨rfl, hb⟩
 replace HS := Aside0.mk (HS.out.below hb)
 clear hb
 go_wp2_with (first
  | ((with_reducible refine gate_dst (N := 9) rfl ?_); refine box_event rfl (N := 9) rfl (cs := #[.string ⟨#[]⟩, .bool false]) (t := 110) ?hr ?_; (case hr => first | (go_simp; done) | (go_simp; rfl)); intro gb hgb W9 hbx hbl; have HS_ := Aside0.mk (HS.out.below hbl); have Zr := Aside0.mk hbx; have Fr := Aside0.mk (HS.out.fresh hgb); clear HS hbl hbx hgb; have HS := HS_; clear HS_)
  | ((with_reducible refine gate_store (t := 110) (p := 9) rfl ?_); refine store_ev rfl rfl rfl (cells := #[.string r2.1, .bool r2.2]) rfl rfl Zr.out (by kernel_rfl) rfl (by kernel_rfl) ?_; intro V9 hbx hgr; have HS_ := Aside0.mk (HS.out.reader (r' := r2) Zr.out hbx hgr Fr.out); clear HS Zr Fr hbx hgr; have HS := HS_; clear HS_)
  | ((with_reducible refine gate_dst (N := 43) rfl ?_); refine load_ev (N := 43) rfl rfl rfl (cs := #[.string r2.1, .bool r2.2]) rfl HS.out.br Try.underlying110 rfl (by kernel_rfl) ?_))
 refine (h3.out _).mono ?_
 rintro e U3 ⟨rfl, hb⟩
 replace HS := Aside0.mk (HS.out.below hb)
 clear hb
 go_wp2_with (first
  | ((with_reducible refine gate_dst (N := 11) rfl ?_); refine box_event rfl (N := 11) rfl (cs := #[.string ⟨#[]⟩, .bool false]) (t := 110) ?hr ?_; (case hr => first | (go_simp; done) | (go_simp; rfl)); intro gc hgc W11 hbx hbl; have HS_ := Aside0.mk (HS.out.below hbl); have Zr := Aside0.mk hbx; have Fr := Aside0.mk (HS.out.fresh hgc); clear HS hbl hbx hgc; have HS := HS_; clear HS_)
  | ((with_reducible refine gate_store (t := 110) (p := 11) rfl ?_); refine store_ev rfl rfl rfl (cells := #[.string r3.1, .bool r3.2]) rfl rfl Zr.out (by kernel_rfl) rfl (by kernel_rfl) ?_; intro V11 hbx hgr; have HS_ := Aside0.mk (HS.out.reader (r' := r3) Zr.out hbx hgr Fr.out); clear HS Zr Fr hbx hgr; have HS := HS_; clear HS_)
  | ((with_reducible refine gate_dst (N := 48) rfl ?_); refine load_ev (N := 48) rfl rfl rfl (cs := #[.string r3.1, .bool r3.2]) rfl HS.out.br Try.underlying110 rfl (by kernel_rfl) ?_))
 refine (h4.out _).mono ?_
 rintro e U4 ⟨rfl, hb⟩
 replace HS := Aside0.mk (HS.out.below hb)
 clear hb
 go_wp2_with (first
  | ((with_reducible refine gate_dst (N := 13) rfl ?_); refine box_event rfl (N := 13) rfl (cs := #[.string ⟨#[]⟩, .bool false]) (t := 110) ?hr ?_; (case hr => first | (go_simp; done) | (go_simp; rfl)); intro gd hgd W13 hbx hbl; have HS_ := Aside0.mk (HS.out.below hbl); have Zr := Aside0.mk hbx; have Fr := Aside0.mk (HS.out.fresh hgd); clear HS hbl hbx hgd; have HS := HS_; clear HS_)
  | ((with_reducible refine gate_store (t := 110) (p := 13) rfl ?_); refine store_ev rfl rfl rfl (cells := #[.string r4.1, .bool r4.2]) rfl rfl Zr.out (by kernel_rfl) rfl (by kernel_rfl) ?_; intro V13 hbx hgr; have HS_ := Aside0.mk (HS.out.reader (r' := r4) Zr.out hbx hgr Fr.out); clear HS Zr Fr hbx hgr; have HS := HS_; clear HS_)
  | ((with_reducible refine gate_dst (N := 53) rfl ?_); refine load_ev (N := 53) rfl rfl rfl (cs := #[.string r4.1, .bool r4.2]) rfl HS.out.br Try.underlying110 rfl (by kernel_rfl) ?_))
 refine (h5.out _).mono ?_
 rintro e U5 ⟨rfl, hb⟩
 replace HS := Aside0.mk (HS.out.below hb)
 clear hb
 go_upto_region 8 with (first
  | ((with_reducible refine gate_dst (N := 15) rfl ?_); refine box_event rfl (N := 15) rfl (cs := #[.string ⟨#[]⟩, .bool false]) (t := 110) ?hr ?_; (case hr => first | (go_simp; done) | (go_simp; rfl)); intro ge hge W15 hbx hbl; have HS_ := Aside0.mk (HS.out.below hbl); have Zr := Aside0.mk hbx; have Fr := Aside0.mk (HS.out.fresh hge); clear HS hbl hbx hge; have HS := HS_; clear HS_)
  | ((with_reducible refine gate_store (t := 110) (p := 15) rfl ?_); refine store_ev rfl rfl rfl (cells := #[.string r5.1, .bool r5.2]) rfl rfl Zr.out (by kernel_rfl) rfl (by kernel_rfl) ?_; intro V15 hbx hgr; have HS_ := Aside0.mk (HS.out.reader (r' := r5) Zr.out hbx hgr Fr.out); clear HS Zr Fr hbx hgr; have HS := HS_; clear HS_))
 have d7 := (blk_cell HS.out.b3 7).trans (show _ = some _ from rfl)
 have f7 := blk_frozen HS.out.b3 7
 have d8 := (blk_cell HS.out.b3 8).trans (show _ = some _ from rfl)
 have f8 := blk_frozen HS.out.b3 8
 have d9 := (blk_cell HS.out.b3 9).trans (show _ = some _ from rfl)
 have f9 := blk_frozen HS.out.b3 9
 have d10 := (blk_cell HS.out.b3 10).trans (show _ = some _ from rfl)
 have f10 := blk_frozen HS.out.b3 10
 have d11 := (blk_cell HS.out.b3 11).trans (show _ = some _ from rfl)
 have f11 := blk_frozen HS.out.b3 11
 go_upto_region 9 with fail
 obtain ⟨hb5, hg5⟩ := put5 HS.out.b3 (.string v1) (.int .i64 v2) (.int .i64 v3) (.int .i64 v4) (.bool (v5 == 1))
 have HS_ := Aside0.mk (HS.out.field (y' := {x with sn := v1, sp := v2, sa := v3, ss := v4, sc := v5 == 1}) (yu' := .slice none 0 0) hb5 hg5)
 clear HS hb5 hg5 d7 f7 d8 f8 d9 f9 d10 f10 d11 f11
 have HS := HS_
 clear HS_
 go_upto_region 11 with fail
 refine ret_pair _ _ _ _ (by kernel_rfl) rfl rfl rfl rfl rfl (by kernel_rfl) (fun _ _ _ _ _ h => h) (d0 := 69) (d1 := 70) (p0 := 3) (p1 := 15) (p2 := 4) (p3 := 5) (T1 := 45) (T2 := 110) rfl rfl rfl rfl rfl rfl rfl rfl rfl rfl rfl rfl HS.out.b3 HS.out.br HS.out.b4 HS.out.b5 Try.underlying45 rfl (by kernel_rfl) Try.underlying110 rfl (by kernel_rfl) rfl rfl (by kernel_rfl) (by kernel_rfl) rfl rfl rfl rfl rfl rfl HS.out.n34 (blk_types HS.out.b3 HS.out.b5 (by decide)) (blk_types HS.out.br HS.out.b4 (by decide)) HS.out.n5r (blk_types HS.out.b4 HS.out.b5 (by decide)) ?_
 intro V b4 b5 hgr
 have HL := Aside0.mk (hgr.below HS.out.bl HS.out.l4 HS.out.l5 HS.out.size)
 have B4 := Aside0.mk b4
 have B5 := Aside0.mk b5
 clear b4 b5 hgr HS
 go_wp2_with fail
 refine bodyPost_ret (results_cc' rfl _ _ g4 g5 45 110 (({x with sn := v1, sp := v2, sa := v3, ss := v4, sc := v5 == 1}).cs (.slice none 0 0)) #[.string r5.1, .bool r5.2] (0, 0) (0, 0) _ _ rfl B4.out Try.underlying45 rfl (by kernel_rfl) rfl B5.out Try.underlying110 rfl (by kernel_rfl)) rfl ?_
 rw [HF.out]
 exact ⟨_, rfl, Kd.R_nil _ _ _ _ _, HL.out⟩
set_option maxHeartbeats 16000000 in
set_option maxRecDepth 100000 in
theorem low2_calls (x : Rq) (r0 : Rd) (w : World) (hz : r0.1.size ≤ 100000) (hk0 : x.kind = 2) :
  Calls Try.prog 82 #[.agg #[.string r0.1, .bool r0.2], .agg #[.int .i64 x.id, .int .i64 x.kind, .int .i64 x.label, .string x.pt, .int .i64 x.pp, .string x.tt, .int .i64 x.tp, .string x.sn, .int .i64 x.sp, .int .i64 x.sa, .int .i64 x.ss, .bool x.sc, .string x.grp, .string x.mem, .int .i64 x.gen, .int .i64 x.off, .int .i64 x.most, .int .i64 x.prod, .int .i64 x.seq, .slice none 0 0]] w fun e w' => ∃ u, e = .returned (.tuple #[(refF x r0).y.v u, .agg #[.string (refF x r0).r.1, .bool (refF x r0).r.2]]) ∧ Kd.R k102 102 w' w.heap.size (fun _ => True) u (refF x r0).ps ∧ Below w.heap.size w w' := by
 have z0 : r0.1.size ≤ 100000 := hz
 have h1 := fun W : World => qnum_calls r0 z0 W
 obtain ⟨v1, r1, e1⟩ : ∃ v r, qNum r0 = (v, r) := ⟨_, _, rfl⟩
 rw [e1] at h1
 have h1 := Aside0.mk h1
 have z1 : r1.1.size ≤ 100000 := by have := qNum_size r0; rw [e1] at this; exact Nat.le_trans this z0
 have h2 := fun W : World => qplace_calls r1 z1 W
 obtain ⟨v2, r2, e2⟩ : ∃ v r, qPlace r1 = (v, r) := ⟨_, _, rfl⟩
 rw [e2] at h2
 have h2 := Aside0.mk h2
 have z2 : r2.1.size ≤ 100000 := by have := qPlace_size r1; rw [e2] at this; exact Nat.le_trans this z1
 have h3 := fun W : World => qnum_calls r2 z2 W
 obtain ⟨v3, r3, e3⟩ : ∃ v r, qNum r2 = (v, r) := ⟨_, _, rfl⟩
 rw [e3] at h3
 have h3 := Aside0.mk h3
 have z3 : r3.1.size ≤ 100000 := by have := qNum_size r2; rw [e3] at this; exact Nat.le_trans this z2
 have h4 := fun W : World => qnum_calls r3 z3 W
 obtain ⟨v4, r4, e4⟩ : ∃ v r, qNum r3 = (v, r) := ⟨_, _, rfl⟩
 rw [e4] at h4
 have h4 := Aside0.mk h4
 have HF : Aside0 (refF x r0 = ⟨{x with label := v1, pt := v2.1, pp := v2.2, off := v3, most := v4}, [], r4⟩) := ⟨by unfold refF; rw [if_neg (show ¬ x.kind = 3 by omega), if_neg (show ¬ x.kind = 4 by omega), if_pos hk0]; simp only [e1, e2, e3, e4]⟩
 have hk := Aside0.mk hk0
 clear e1 e2 e3 e4 z0 z1 z2 z3 hz hk0
 go_enter Try.func82, Try.ntmps82
 go_wp2_with (first
  | ((with_reducible refine gate_dst (N := 2) rfl ?_); refine box_event rfl (N := 2) rfl (cs := #[.string r0.1, .bool r0.2]) (t := 110) ?hr ?_; (case hr => first | (go_simp; done) | (go_simp; rfl)); intro gr0 hgr0 w1 hbx hbl; have X1 := Aside0.mk hbx; have L1 := Aside0.mk hbl; have M1 := Aside0.mk (Nat.le_of_eq hgr0.symm); clear hbx hbl hgr0)
  | ((with_reducible refine gate_dst (N := 3) rfl ?_); refine box_event rfl (N := 3) rfl (cs := #[.int .i64 x.id, .int .i64 x.kind, .int .i64 x.label, .string x.pt, .int .i64 x.pp, .string x.tt, .int .i64 x.tp, .string x.sn, .int .i64 x.sp, .int .i64 x.sa, .int .i64 x.ss, .bool x.sc, .string x.grp, .string x.mem, .int .i64 x.gen, .int .i64 x.off, .int .i64 x.most, .int .i64 x.prod, .int .i64 x.seq, .slice none 0 0]) (t := 45) ?hr ?_; (case hr => first | (go_simp; done) | (go_simp; rfl)); intro g3 hg3 w2 hbx hbl; have X2 := Aside0.mk (blk_below X1.out hbl); have Y2 := Aside0.mk hbx; have L2 := Aside0.mk (below_step L1.out hbl); have M2 := Aside0.mk (show w.heap.size ≤ g3 by rw [hg3]; exact L1.out.size); clear X1 L1 hbx hbl hg3)
  | ((with_reducible refine gate_dst (N := 4) rfl ?_); refine box_event rfl (N := 4) rfl (cs := #[.int .i64 0, .int .i64 0, .int .i64 0, .string ⟨#[]⟩, .int .i64 0, .string ⟨#[]⟩, .int .i64 0, .string ⟨#[]⟩, .int .i64 0, .int .i64 0, .int .i64 0, .bool false, .string ⟨#[]⟩, .string ⟨#[]⟩, .int .i64 0, .int .i64 0, .int .i64 0, .int .i64 0, .int .i64 0, .slice none 0 0]) (t := 45) ?hr ?_; (case hr => first | (go_simp; done) | (go_simp; rfl)); intro g4 hg4 w3 hbx hbl; have X3 := Aside0.mk (blk_below X2.out hbl); have Y3 := Aside0.mk (blk_below Y2.out hbl); have Z3 := Aside0.mk hbx; have L3 := Aside0.mk (below_step L2.out hbl); have M3 := Aside0.mk (show w.heap.size ≤ g4 by rw [hg4]; exact L2.out.size); have N3 := Aside0.mk (show g3 ≠ g4 by rw [hg4]; exact Nat.ne_of_lt (blk_lt Y2.out)); clear X2 Y2 L2 hbx hbl hg4)
  | ((with_reducible refine gate_dst (N := 5) rfl ?_); refine box_event rfl (N := 5) rfl (cs := #[.string ⟨#[]⟩, .bool false]) (t := 110) ?hr ?_; (case hr => first | (go_simp; done) | (go_simp; rfl)); intro g5 hg5 w4 hbx hbl; have HS : Aside0 (Sx w x (.slice none 0 0) g3 g4 g5 gr0 r0 [] w4) := ⟨⟨blk_below Y3.out hbl, blk_below Z3.out hbl, hbx, blk_below X3.out hbl, fun e he => by simp at he, below_step L3.out hbl, M2.out, M3.out, by rw [hg5]; exact L3.out.size, N3.out, by rw [hg5]; exact Nat.ne_of_lt (blk_lt X3.out)⟩⟩; clear X3 Y3 Z3 L3 M1 M2 M3 N3 hbx hbl hg5; have ck : w4.cell? ⟨g3, 1, none⟩ = some (.int .i64 2) := ((blk_cell HS.out.b3 1).trans (show _ = some (Value.int .i64 x.kind) from rfl)).trans (by rw [hk.out]))
  | ((with_reducible refine gate_dst (N := 84) rfl ?_); refine load_ev (N := 84) rfl rfl rfl (cs := #[.string r0.1, .bool r0.2]) rfl HS.out.br Try.underlying110 rfl (by kernel_rfl) ?_))
 clear ck
 refine (h1.out _).mono ?_
 rintro e U1 ⟨rfl, hb⟩
 replace HS := Aside0.mk (HS.out.below hb)
 clear hb
 go_wp2_with (first
  | ((with_reducible refine gate_dst (N := 19) rfl ?_); refine box_event rfl (N := 19) rfl (cs := #[.string ⟨#[]⟩, .bool false]) (t := 110) ?hr ?_; (case hr => first | (go_simp; done) | (go_simp; rfl)); intro ga hga W19 hbx hbl; have HS_ := Aside0.mk (HS.out.below hbl); have Zr := Aside0.mk hbx; have Fr := Aside0.mk (HS.out.fresh hga); clear HS hbl hbx hga; have HS := HS_; clear HS_)
  | ((with_reducible refine gate_store (t := 110) (p := 19) rfl ?_); refine store_ev rfl rfl rfl (cells := #[.string r1.1, .bool r1.2]) rfl rfl Zr.out (by kernel_rfl) rfl (by kernel_rfl) ?_; intro V19 hbx hgr; have HS_ := Aside0.mk (HS.out.reader (r' := r1) Zr.out hbx hgr Fr.out); clear HS Zr Fr hbx hgr; have HS := HS_; clear HS_)
  | ((with_reducible refine gate_dst (N := 89) rfl ?_); refine load_ev (N := 89) rfl rfl rfl (cs := #[.string r1.1, .bool r1.2]) rfl HS.out.br Try.underlying110 rfl (by kernel_rfl) ?_))
 refine (h2.out _).mono ?_
 rintro e U2 ⟨rfl, hb⟩
 replace HS := Aside0.mk (HS.out.below hb)
 clear hb
 go_wp2_with (first
  | ((with_reducible refine gate_dst (N := 20) rfl ?_); refine box_event rfl (N := 20) rfl (cs := #[.string ⟨#[]⟩, .int .i64 0]) (t := 40) ?hr ?_; (case hr => first | (go_simp; done) | (go_simp; rfl)); intro gp hgp W20 hbx hbl; have HS_ := Aside0.mk (HS.out.below hbl); have Zp := Aside0.mk hbx; have Fp := Aside0.mk (HS.out.fresh hgp); clear HS hbl hbx hgp; have HS := HS_; clear HS_)
  | ((with_reducible refine gate_dst (N := 21) rfl ?_); refine box_event rfl (N := 21) rfl (cs := #[.string ⟨#[]⟩, .bool false]) (t := 110) ?hr ?_; (case hr => first | (go_simp; done) | (go_simp; rfl)); intro gb hgb W21 hbx hbl; have HS_ := Aside0.mk (HS.out.below hbl); have Zr := Aside0.mk hbx; have Fr := Aside0.mk (HS.out.fresh hgb); have Zq := Aside0.mk (blk_below Zp.out hbl); have Fq := Aside0.mk (show gp ≠ gb from by rw [hgb]; exact Nat.ne_of_lt (blk_lt Zp.out)); clear HS Zp hbl hbx hgb; have HS := HS_; clear HS_)
  | ((with_reducible refine gate_store (t := 40) (p := 20) rfl ?_); refine store_ev rfl rfl rfl (cells := #[.string v2.1, .int .i64 v2.2]) rfl rfl Zq.out (by kernel_rfl) rfl (by kernel_rfl) ?_; intro V20 hbx hgr; have HS_ := Aside0.mk (HS.out.place Zq.out hbx hgr Fp.out.2); have Zr_ := Aside0.mk (grown_at hgr Zr.out (blk_types Zr.out Zq.out (by decide))); have Fr_ := Aside0.mk (fresh_cons (ob := .cells #[.string v2.1, .int .i64 v2.2] 40 (0, 0)) Fr.out Fq.out); clear HS Zr Zq Fp Fq Fr hbx hgr; have HS := HS_; have Zr := Zr_; have Fr := Fr_; clear HS_ Zr_ Fr_)
  | ((with_reducible refine gate_store (t := 110) (p := 21) rfl ?_); refine store_ev rfl rfl rfl (cells := #[.string r2.1, .bool r2.2]) rfl rfl Zr.out (by kernel_rfl) rfl (by kernel_rfl) ?_; intro V21 hbx hgr; have HS_ := Aside0.mk (HS.out.reader (r' := r2) Zr.out hbx hgr Fr.out); clear HS Zr Fr hbx hgr; have HS := HS_; clear HS_)
  | ((with_reducible refine gate_dst (N := 94) rfl ?_); refine load_ev (N := 94) rfl rfl rfl (cs := #[.string r2.1, .bool r2.2]) rfl HS.out.br Try.underlying110 rfl (by kernel_rfl) ?_))
 refine (h3.out _).mono ?_
 rintro e U3 ⟨rfl, hb⟩
 replace HS := Aside0.mk (HS.out.below hb)
 clear hb
 go_wp2_with (first
  | ((with_reducible refine gate_dst (N := 23) rfl ?_); refine box_event rfl (N := 23) rfl (cs := #[.string ⟨#[]⟩, .bool false]) (t := 110) ?hr ?_; (case hr => first | (go_simp; done) | (go_simp; rfl)); intro gc hgc W23 hbx hbl; have HS_ := Aside0.mk (HS.out.below hbl); have Zr := Aside0.mk hbx; have Fr := Aside0.mk (HS.out.fresh hgc); clear HS hbl hbx hgc; have HS := HS_; clear HS_)
  | ((with_reducible refine gate_store (t := 110) (p := 23) rfl ?_); refine store_ev rfl rfl rfl (cells := #[.string r3.1, .bool r3.2]) rfl rfl Zr.out (by kernel_rfl) rfl (by kernel_rfl) ?_; intro V23 hbx hgr; have HS_ := Aside0.mk (HS.out.reader (r' := r3) Zr.out hbx hgr Fr.out); clear HS Zr Fr hbx hgr; have HS := HS_; clear HS_)
  | ((with_reducible refine gate_dst (N := 99) rfl ?_); refine load_ev (N := 99) rfl rfl rfl (cs := #[.string r3.1, .bool r3.2]) rfl HS.out.br Try.underlying110 rfl (by kernel_rfl) ?_))
 refine (h4.out _).mono ?_
 rintro e U4 ⟨rfl, hb⟩
 replace HS := Aside0.mk (HS.out.below hb)
 clear hb
 go_upto_region 21 with (first
  | ((with_reducible refine gate_dst (N := 25) rfl ?_); refine box_event rfl (N := 25) rfl (cs := #[.string ⟨#[]⟩, .bool false]) (t := 110) ?hr ?_; (case hr => first | (go_simp; done) | (go_simp; rfl)); intro gd hgd W25 hbx hbl; have HS_ := Aside0.mk (HS.out.below hbl); have Zr := Aside0.mk hbx; have Fr := Aside0.mk (HS.out.fresh hgd); clear HS hbl hbx hgd; have HS := HS_; clear HS_)
  | ((with_reducible refine gate_store (t := 110) (p := 25) rfl ?_); refine store_ev rfl rfl rfl (cells := #[.string r4.1, .bool r4.2]) rfl rfl Zr.out (by kernel_rfl) rfl (by kernel_rfl) ?_; intro V25 hbx hgr; have HS_ := Aside0.mk (HS.out.reader (r' := r4) Zr.out hbx hgr Fr.out); clear HS Zr Fr hbx hgr; have HS := HS_; clear HS_)
  | ((with_reducible refine gate_store (t := 3) (p := 104) rfl ?_); have d0 := (blk_cell HS.out.b3 2).trans (show _ = some _ from rfl); have f0 := blk_frozen HS.out.b3 2; refine fstore_ev rfl rfl rfl (j := 2) (u := .int .i64 v1) HS.out.b3 ?hr ?_; (case hr => first | (go_simp; done) | (go_simp; rfl)); intro V104 hbx hgr; have HS_ := Aside0.mk (HS.out.field (y' := {x with label := v1}) (yu' := .slice none 0 0) hbx hgr); clear HS hbx hgr d0 f0; have HS := HS_; clear HS_))
 have x0 := (HS.out.ex (gp, .cells #[.string v2.1, .int .i64 v2.2] 40 (0, 0)) (by simp)).1
 have q0 := (blk_cell x0 0).trans (show _ = some (Value.string v2.1) from rfl)
 have q1 := (blk_cell x0 1).trans (show _ = some (Value.int .i64 v2.2) from rfl)
 have d0 := (blk_cell HS.out.b3 3).trans (show _ = some _ from rfl)
 have d1 := (blk_cell HS.out.b3 4).trans (show _ = some _ from rfl)
 have f0 := blk_frozen HS.out.b3 3
 have f1 := blk_frozen HS.out.b3 4
 clear x0
 go_upto_region 22 with fail
 obtain ⟨hb2, hg2⟩ := put2 (j := 3) HS.out.b3 (.string v2.1) (.int .i64 v2.2)
 have HS_ := Aside0.mk (HS.out.field (y' := {x with label := v1, pt := v2.1, pp := v2.2}) (yu' := .slice none 0 0) hb2 hg2)
 clear HS q0 q1 d0 d1 f0 f1 hb2 hg2
 have HS := HS_
 clear HS_
 have ck := ((blk_cell HS.out.b3 1).trans (show _ = some (Value.int .i64 x.kind) from rfl)).trans (by rw [hk.out] : _ = some (Value.int .i64 2))
 go_upto_region 23 with fail
 clear ck
 go_upto_region 25 with (first
  | ((with_reducible refine gate_store (t := 3) (p := 111) rfl ?_); have d0 := (blk_cell HS.out.b3 15).trans (show _ = some _ from rfl); have f0 := blk_frozen HS.out.b3 15; refine fstore_ev rfl rfl rfl (j := 15) (u := .int .i64 v3) HS.out.b3 ?hr ?_; (case hr => first | (go_simp; done) | (go_simp; rfl)); intro V111 hbx hgr; have HS_ := Aside0.mk (HS.out.field (y' := {x with label := v1, pt := v2.1, pp := v2.2, off := v3}) (yu' := .slice none 0 0) hbx hgr); clear HS hbx hgr d0 f0; have HS := HS_; clear HS_)
  | ((with_reducible refine gate_store (t := 3) (p := 113) rfl ?_); have d0 := (blk_cell HS.out.b3 16).trans (show _ = some _ from rfl); have f0 := blk_frozen HS.out.b3 16; refine fstore_ev rfl rfl rfl (j := 16) (u := .int .i64 v4) HS.out.b3 ?hr ?_; (case hr => first | (go_simp; done) | (go_simp; rfl)); intro V113 hbx hgr; have HS_ := Aside0.mk (HS.out.field (y' := {x with label := v1, pt := v2.1, pp := v2.2, off := v3, most := v4}) (yu' := .slice none 0 0) hbx hgr); clear HS hbx hgr d0 f0; have HS := HS_; clear HS_))
 refine ret_pair _ _ _ _ (by kernel_rfl) rfl rfl rfl rfl rfl (by kernel_rfl) (fun _ _ _ _ _ h => h) (d0 := 114) (d1 := 115) (p0 := 3) (p1 := 25) (p2 := 4) (p3 := 5) (T1 := 45) (T2 := 110) rfl rfl rfl rfl rfl rfl rfl rfl rfl rfl rfl rfl HS.out.b3 HS.out.br HS.out.b4 HS.out.b5 Try.underlying45 rfl (by kernel_rfl) Try.underlying110 rfl (by kernel_rfl) rfl rfl (by kernel_rfl) (by kernel_rfl) rfl rfl rfl rfl rfl rfl HS.out.n34 (blk_types HS.out.b3 HS.out.b5 (by decide)) (blk_types HS.out.br HS.out.b4 (by decide)) HS.out.n5r (blk_types HS.out.b4 HS.out.b5 (by decide)) ?_
 intro V b4 b5 hgr
 have HL := Aside0.mk (hgr.below HS.out.bl HS.out.l4 HS.out.l5 HS.out.size)
 have B4 := Aside0.mk b4
 have B5 := Aside0.mk b5
 clear b4 b5 hgr HS
 go_wp2_with fail
 refine bodyPost_ret (results_cc' rfl _ _ g4 g5 45 110 (({x with label := v1, pt := v2.1, pp := v2.2, off := v3, most := v4}).cs (.slice none 0 0)) #[.string r4.1, .bool r4.2] (0, 0) (0, 0) _ _ rfl B4.out Try.underlying45 rfl (by kernel_rfl) rfl B5.out Try.underlying110 rfl (by kernel_rfl)) rfl ?_
 rw [HF.out]
 exact ⟨_, rfl, Kd.R_nil _ _ _ _ _, HL.out⟩
set_option maxHeartbeats 16000000 in
set_option maxRecDepth 100000 in
theorem low1_calls (x : Rq) (r0 : Rd) (w : World) (hz : r0.1.size ≤ 100000) (hk0 : x.kind = 1) :
  Calls Try.prog 82 #[.agg #[.string r0.1, .bool r0.2], .agg #[.int .i64 x.id, .int .i64 x.kind, .int .i64 x.label, .string x.pt, .int .i64 x.pp, .string x.tt, .int .i64 x.tp, .string x.sn, .int .i64 x.sp, .int .i64 x.sa, .int .i64 x.ss, .bool x.sc, .string x.grp, .string x.mem, .int .i64 x.gen, .int .i64 x.off, .int .i64 x.most, .int .i64 x.prod, .int .i64 x.seq, .slice none 0 0]] w fun e w' => ∃ u, e = .returned (.tuple #[(refF x r0).y.v u, .agg #[.string (refF x r0).r.1, .bool (refF x r0).r.2]]) ∧ Kd.R k102 102 w' w.heap.size (fun _ => True) u (refF x r0).ps ∧ Below w.heap.size w w' := by
 have z0 : r0.1.size ≤ 100000 := hz
 have h1 := fun W : World => qnum_calls r0 z0 W
 obtain ⟨v1, r1, e1⟩ : ∃ v r, qNum r0 = (v, r) := ⟨_, _, rfl⟩
 rw [e1] at h1
 have h1 := Aside0.mk h1
 have z1 : r1.1.size ≤ 100000 := by have := qNum_size r0; rw [e1] at this; exact Nat.le_trans this z0
 have h2 := fun W : World => qplace_calls r1 z1 W
 obtain ⟨v2, r2, e2⟩ : ∃ v r, qPlace r1 = (v, r) := ⟨_, _, rfl⟩
 rw [e2] at h2
 have h2 := Aside0.mk h2
 have z2 : r2.1.size ≤ 100000 := by have := qPlace_size r1; rw [e2] at this; exact Nat.le_trans this z1
 have h3 := fun W : World => qnum_calls r2 z2 W
 obtain ⟨v3, r3, e3⟩ : ∃ v r, qNum r2 = (v, r) := ⟨_, _, rfl⟩
 rw [e3] at h3
 have h3 := Aside0.mk h3
 have z3 : r3.1.size ≤ 100000 := by have := qNum_size r2; rw [e3] at this; exact Nat.le_trans this z2
 have h4 := fun W : World => qnum_calls r3 z3 W
 obtain ⟨v4, r4, e4⟩ : ∃ v r, qNum r3 = (v, r) := ⟨_, _, rfl⟩
 rw [e4] at h4
 have h4 := Aside0.mk h4
 have z4 : r4.1.size ≤ 100000 := by have := qNum_size r3; rw [e4] at this; exact Nat.le_trans this z3
 have h5 := fun W : World => qpairs_calls r4 z4 W
 obtain ⟨v5, r5, e5⟩ : ∃ v r, qPairs r4 = (v, r) := ⟨_, _, rfl⟩
 rw [e5] at h5
 have h5 := Aside0.mk h5
 have HF : Aside0 (refF x r0 = ⟨{x with label := v1, pt := v2.1, pp := v2.2, prod := v3, seq := v4}, v5, r5⟩) := ⟨by unfold refF; rw [if_neg (show ¬ x.kind = 3 by omega), if_neg (show ¬ x.kind = 4 by omega), if_neg (show ¬ x.kind = 2 by omega), if_pos hk0]; simp only [e1, e2, e3, e4, e5]⟩
 have hk := Aside0.mk hk0
 clear e1 e2 e3 e4 e5 z0 z1 z2 z3 z4 hz hk0
 go_enter Try.func82, Try.ntmps82
 go_wp2_with (first
  | ((with_reducible refine gate_dst (N := 2) rfl ?_); refine box_event rfl (N := 2) rfl (cs := #[.string r0.1, .bool r0.2]) (t := 110) ?hr ?_; (case hr => first | (go_simp; done) | (go_simp; rfl)); intro gr0 hgr0 w1 hbx hbl; have X1 := Aside0.mk hbx; have L1 := Aside0.mk hbl; have M1 := Aside0.mk (Nat.le_of_eq hgr0.symm); clear hbx hbl hgr0)
  | ((with_reducible refine gate_dst (N := 3) rfl ?_); refine box_event rfl (N := 3) rfl (cs := #[.int .i64 x.id, .int .i64 x.kind, .int .i64 x.label, .string x.pt, .int .i64 x.pp, .string x.tt, .int .i64 x.tp, .string x.sn, .int .i64 x.sp, .int .i64 x.sa, .int .i64 x.ss, .bool x.sc, .string x.grp, .string x.mem, .int .i64 x.gen, .int .i64 x.off, .int .i64 x.most, .int .i64 x.prod, .int .i64 x.seq, .slice none 0 0]) (t := 45) ?hr ?_; (case hr => first | (go_simp; done) | (go_simp; rfl)); intro g3 hg3 w2 hbx hbl; have X2 := Aside0.mk (blk_below X1.out hbl); have Y2 := Aside0.mk hbx; have L2 := Aside0.mk (below_step L1.out hbl); have M2 := Aside0.mk (show w.heap.size ≤ g3 by rw [hg3]; exact L1.out.size); clear X1 L1 hbx hbl hg3)
  | ((with_reducible refine gate_dst (N := 4) rfl ?_); refine box_event rfl (N := 4) rfl (cs := #[.int .i64 0, .int .i64 0, .int .i64 0, .string ⟨#[]⟩, .int .i64 0, .string ⟨#[]⟩, .int .i64 0, .string ⟨#[]⟩, .int .i64 0, .int .i64 0, .int .i64 0, .bool false, .string ⟨#[]⟩, .string ⟨#[]⟩, .int .i64 0, .int .i64 0, .int .i64 0, .int .i64 0, .int .i64 0, .slice none 0 0]) (t := 45) ?hr ?_; (case hr => first | (go_simp; done) | (go_simp; rfl)); intro g4 hg4 w3 hbx hbl; have X3 := Aside0.mk (blk_below X2.out hbl); have Y3 := Aside0.mk (blk_below Y2.out hbl); have Z3 := Aside0.mk hbx; have L3 := Aside0.mk (below_step L2.out hbl); have M3 := Aside0.mk (show w.heap.size ≤ g4 by rw [hg4]; exact L2.out.size); have N3 := Aside0.mk (show g3 ≠ g4 by rw [hg4]; exact Nat.ne_of_lt (blk_lt Y2.out)); clear X2 Y2 L2 hbx hbl hg4)
  | ((with_reducible refine gate_dst (N := 5) rfl ?_); refine box_event rfl (N := 5) rfl (cs := #[.string ⟨#[]⟩, .bool false]) (t := 110) ?hr ?_; (case hr => first | (go_simp; done) | (go_simp; rfl)); intro g5 hg5 w4 hbx hbl; have HS : Aside0 (Sx w x (.slice none 0 0) g3 g4 g5 gr0 r0 [] w4) := ⟨⟨blk_below Y3.out hbl, blk_below Z3.out hbl, hbx, blk_below X3.out hbl, fun e he => by simp at he, below_step L3.out hbl, M2.out, M3.out, by rw [hg5]; exact L3.out.size, N3.out, by rw [hg5]; exact Nat.ne_of_lt (blk_lt X3.out)⟩⟩; clear X3 Y3 Z3 L3 M1 M2 M3 N3 hbx hbl hg5; have ck : w4.cell? ⟨g3, 1, none⟩ = some (.int .i64 1) := ((blk_cell HS.out.b3 1).trans (show _ = some (Value.int .i64 x.kind) from rfl)).trans (by rw [hk.out]))
  | ((with_reducible refine gate_dst (N := 84) rfl ?_); refine load_ev (N := 84) rfl rfl rfl (cs := #[.string r0.1, .bool r0.2]) rfl HS.out.br Try.underlying110 rfl (by kernel_rfl) ?_))
 clear ck
 refine (h1.out _).mono ?_
 rintro e U1 ⟨rfl, hb⟩
 replace HS := Aside0.mk (HS.out.below hb)
 clear hb
 go_wp2_with (first
  | ((with_reducible refine gate_dst (N := 19) rfl ?_); refine box_event rfl (N := 19) rfl (cs := #[.string ⟨#[]⟩, .bool false]) (t := 110) ?hr ?_; (case hr => first | (go_simp; done) | (go_simp; rfl)); intro ga hga W19 hbx hbl; have HS_ := Aside0.mk (HS.out.below hbl); have Zr := Aside0.mk hbx; have Fr := Aside0.mk (HS.out.fresh hga); clear HS hbl hbx hga; have HS := HS_; clear HS_)
  | ((with_reducible refine gate_store (t := 110) (p := 19) rfl ?_); refine store_ev rfl rfl rfl (cells := #[.string r1.1, .bool r1.2]) rfl rfl Zr.out (by kernel_rfl) rfl (by kernel_rfl) ?_; intro V19 hbx hgr; have HS_ := Aside0.mk (HS.out.reader (r' := r1) Zr.out hbx hgr Fr.out); clear HS Zr Fr hbx hgr; have HS := HS_; clear HS_)
  | ((with_reducible refine gate_dst (N := 89) rfl ?_); refine load_ev (N := 89) rfl rfl rfl (cs := #[.string r1.1, .bool r1.2]) rfl HS.out.br Try.underlying110 rfl (by kernel_rfl) ?_))
 refine (h2.out _).mono ?_
 rintro e U2 ⟨rfl, hb⟩
 replace HS := Aside0.mk (HS.out.below hb)
 clear hb
 go_wp2_with (first
  | ((with_reducible refine gate_dst (N := 20) rfl ?_); refine box_event rfl (N := 20) rfl (cs := #[.string ⟨#[]⟩, .int .i64 0]) (t := 40) ?hr ?_; (case hr => first | (go_simp; done) | (go_simp; rfl)); intro gp hgp W20 hbx hbl; have HS_ := Aside0.mk (HS.out.below hbl); have Zp := Aside0.mk hbx; have Fp := Aside0.mk (HS.out.fresh hgp); clear HS hbl hbx hgp; have HS := HS_; clear HS_)
  | ((with_reducible refine gate_dst (N := 21) rfl ?_); refine box_event rfl (N := 21) rfl (cs := #[.string ⟨#[]⟩, .bool false]) (t := 110) ?hr ?_; (case hr => first | (go_simp; done) | (go_simp; rfl)); intro gb hgb W21 hbx hbl; have HS_ := Aside0.mk (HS.out.below hbl); have Zr := Aside0.mk hbx; have Fr := Aside0.mk (HS.out.fresh hgb); have Zq := Aside0.mk (blk_below Zp.out hbl); have Fq := Aside0.mk (show gp ≠ gb from by rw [hgb]; exact Nat.ne_of_lt (blk_lt Zp.out)); clear HS Zp hbl hbx hgb; have HS := HS_; clear HS_)
  | ((with_reducible refine gate_store (t := 40) (p := 20) rfl ?_); refine store_ev rfl rfl rfl (cells := #[.string v2.1, .int .i64 v2.2]) rfl rfl Zq.out (by kernel_rfl) rfl (by kernel_rfl) ?_; intro V20 hbx hgr; have HS_ := Aside0.mk (HS.out.place Zq.out hbx hgr Fp.out.2); have Zr_ := Aside0.mk (grown_at hgr Zr.out (blk_types Zr.out Zq.out (by decide))); have Fr_ := Aside0.mk (fresh_cons (ob := .cells #[.string v2.1, .int .i64 v2.2] 40 (0, 0)) Fr.out Fq.out); clear HS Zr Zq Fp Fq Fr hbx hgr; have HS := HS_; have Zr := Zr_; have Fr := Fr_; clear HS_ Zr_ Fr_)
  | ((with_reducible refine gate_store (t := 110) (p := 21) rfl ?_); refine store_ev rfl rfl rfl (cells := #[.string r2.1, .bool r2.2]) rfl rfl Zr.out (by kernel_rfl) rfl (by kernel_rfl) ?_; intro V21 hbx hgr; have HS_ := Aside0.mk (HS.out.reader (r' := r2) Zr.out hbx hgr Fr.out); clear HS Zr Fr hbx hgr; have HS := HS_; clear HS_)
  | ((with_reducible refine gate_dst (N := 94) rfl ?_); refine load_ev (N := 94) rfl rfl rfl (cs := #[.string r2.1, .bool r2.2]) rfl HS.out.br Try.underlying110 rfl (by kernel_rfl) ?_))
 refine (h3.out _).mono ?_
 rintro e U3 ⟨rfl, hb⟩
 replace HS := Aside0.mk (HS.out.below hb)
 clear hb
 go_wp2_with (first
  | ((with_reducible refine gate_dst (N := 23) rfl ?_); refine box_event rfl (N := 23) rfl (cs := #[.string ⟨#[]⟩, .bool false]) (t := 110) ?hr ?_; (case hr => first | (go_simp; done) | (go_simp; rfl)); intro gc hgc W23 hbx hbl; have HS_ := Aside0.mk (HS.out.below hbl); have Zr := Aside0.mk hbx; have Fr := Aside0.mk (HS.out.fresh hgc); clear HS hbl hbx hgc; have HS := HS_; clear HS_)
  | ((with_reducible refine gate_store (t := 110) (p := 23) rfl ?_); refine store_ev rfl rfl rfl (cells := #[.string r3.1, .bool r3.2]) rfl rfl Zr.out (by kernel_rfl) rfl (by kernel_rfl) ?_; intro V23 hbx hgr; have HS_ := Aside0.mk (HS.out.reader (r' := r3) Zr.out hbx hgr Fr.out); clear HS Zr Fr hbx hgr; have HS := HS_; clear HS_)
  | ((with_reducible refine gate_dst (N := 99) rfl ?_); refine load_ev (N := 99) rfl rfl rfl (cs := #[.string r3.1, .bool r3.2]) rfl HS.out.br Try.underlying110 rfl (by kernel_rfl) ?_))
 refine (h4.out _).mono ?_
 rintro e U4 ⟨rfl, hb⟩
 replace HS := Aside0.mk (HS.out.below hb)
 clear hb
 go_upto_region 21 with (first
  | ((with_reducible refine gate_dst (N := 25) rfl ?_); refine box_event rfl (N := 25) rfl (cs := #[.string ⟨#[]⟩, .bool false]) (t := 110) ?hr ?_; (case hr => first | (go_simp; done) | (go_simp; rfl)); intro gd hgd W25 hbx hbl; have HS_ := Aside0.mk (HS.out.below hbl); have Zr := Aside0.mk hbx; have Fr := Aside0.mk (HS.out.fresh hgd); clear HS hbl hbx hgd; have HS := HS_; clear HS_)
  | ((with_reducible refine gate_store (t := 110) (p := 25) rfl ?_); refine store_ev rfl rfl rfl (cells := #[.string r4.1, .bool r4.2]) rfl rfl Zr.out (by kernel_rfl) rfl (by kernel_rfl) ?_; intro V25 hbx hgr; have HS_ := Aside0.mk (HS.out.reader (r' := r4) Zr.out hbx hgr Fr.out); clear HS Zr Fr hbx hgr; have HS := HS_; clear HS_)
  | ((with_reducible refine gate_store (t := 3) (p := 104) rfl ?_); have d0 := (blk_cell HS.out.b3 2).trans (show _ = some _ from rfl); have f0 := blk_frozen HS.out.b3 2; refine fstore_ev rfl rfl rfl (j := 2) (u := .int .i64 v1) HS.out.b3 ?hr ?_; (case hr => first | (go_simp; done) | (go_simp; rfl)); intro V104 hbx hgr; have HS_ := Aside0.mk (HS.out.field (y' := {x with label := v1}) (yu' := .slice none 0 0) hbx hgr); clear HS hbx hgr d0 f0; have HS := HS_; clear HS_))
 have x0 := (HS.out.ex (gp, .cells #[.string v2.1, .int .i64 v2.2] 40 (0, 0)) (by simp)).1
 have q0 := (blk_cell x0 0).trans (show _ = some (Value.string v2.1) from rfl)
 have q1 := (blk_cell x0 1).trans (show _ = some (Value.int .i64 v2.2) from rfl)
 have d0 := (blk_cell HS.out.b3 3).trans (show _ = some _ from rfl)
 have d1 := (blk_cell HS.out.b3 4).trans (show _ = some _ from rfl)
 have f0 := blk_frozen HS.out.b3 3
 have f1 := blk_frozen HS.out.b3 4
 clear x0
 go_upto_region 22 with fail
 obtain ⟨hb2, hg2⟩ := put2 (j := 3) HS.out.b3 (.string v2.1) (.int .i64 v2.2)
 have HS_ := Aside0.mk (HS.out.field (y' := {x with label := v1, pt := v2.1, pp := v2.2}) (yu' := .slice none 0 0) hb2 hg2)
 clear HS q0 q1 d0 d1 f0 f1 hb2 hg2
 have HS := HS_
 clear HS_
 have ck := ((blk_cell HS.out.b3 1).trans (show _ = some (Value.int .i64 x.kind) from rfl)).trans (by rw [hk.out] : _ = some (Value.int .i64 1))
 go_upto_region 26 with fail
 clear ck
 go_wp2_with (first
  | ((with_reducible refine gate_store (t := 3) (p := 117) rfl ?_); have d0 := (blk_cell HS.out.b3 17).trans (show _ = some _ from rfl); have f0 := blk_frozen HS.out.b3 17; refine fstore_ev rfl rfl rfl (j := 17) (u := .int .i64 v3) HS.out.b3 ?hr ?_; (case hr => first | (go_simp; done) | (go_simp; rfl)); intro V117 hbx hgr; have HS_ := Aside0.mk (HS.out.field (y' := {x with label := v1, pt := v2.1, pp := v2.2, prod := v3}) (yu' := .slice none 0 0) hbx hgr); clear HS hbx hgr d0 f0; have HS := HS_; clear HS_)
  | ((with_reducible refine gate_store (t := 3) (p := 119) rfl ?_); have d0 := (blk_cell HS.out.b3 18).trans (show _ = some _ from rfl); have f0 := blk_frozen HS.out.b3 18; refine fstore_ev rfl rfl rfl (j := 18) (u := .int .i64 v4) HS.out.b3 ?hr ?_; (case hr => first | (go_simp; done) | (go_simp; rfl)); intro V119 hbx hgr; have HS_ := Aside0.mk (HS.out.field (y' := {x with label := v1, pt := v2.1, pp := v2.2, prod := v3, seq := v4}) (yu' := .slice none 0 0) hbx hgr); clear HS hbx hgr d0 f0; have HS := HS_; clear HS_)
  | ((with_reducible refine gate_dst (N := 121) rfl ?_); refine load_ev (N := 121) rfl rfl rfl (cs := #[.string r4.1, .bool r4.2]) rfl HS.out.br Try.underlying110 rfl (by kernel_rfl) ?_))
 have hsz := Aside0.mk HS.out.size
 refine (h5.out _).mono ?_
 rintro e U5 ⟨u0, rfl, hr, hb⟩
 replace HS := Aside0.mk (HS.out.below hb)
 have HR := Aside0.mk (Kd.R_lower hr hsz.out)
 clear hr hb hsz
 obtain ⟨B2, m2, hu⟩ := Kd.R_slice HR.out
 subst hu
 go_upto_region 30 with (first
  | ((with_reducible refine gate_dst (N := 27) rfl ?_); refine box_event rfl (N := 27) rfl (cs := #[.string ⟨#[]⟩, .bool false]) (t := 110) ?hr ?_; (case hr => first | (go_simp; done) | (go_simp; rfl)); intro ge hge W27 hbx hbl; have HS_ := Aside0.mk (HS.out.below hbl); have Zr := Aside0.mk hbx; have Fr := Aside0.mk (HS.out.fresh hge); have HR_ := Aside0.mk (Kd.R_below HR.out hbl); clear HS HR hbl hbx hge; have HS := HS_; have HR := HR_; clear HR_; clear HS_)
  | ((with_reducible refine gate_store (t := 110) (p := 27) rfl ?_); refine store_ev rfl rfl rfl (cells := #[.string r5.1, .bool r5.2]) rfl rfl Zr.out (by kernel_rfl) rfl (by kernel_rfl) ?_; intro V27 hbx hgr; have HS_ := Aside0.mk (HS.out.reader (r' := r5) Zr.out hbx hgr Fr.out); have HR_ := Aside0.mk (pairs_grown HR.out hgr (fun cells e => by rw [Zr.out] at e; simp at e)); clear HS HR Zr Fr hbx hgr; have HS := HS_; have HR := HR_; clear HR_; clear HS_)
  | ((with_reducible refine gate_store (t := 43) (p := 126) rfl ?_); have d0 := (blk_cell HS.out.b3 19).trans (show _ = some _ from rfl); have f0 := blk_frozen HS.out.b3 19; refine fstore_ev rfl rfl rfl (j := 19) (u := .slice B2 v5.length m2) HS.out.b3 ?hr ?_; (case hr => first | (go_simp; done) | (go_simp; rfl)); intro V126 hbx hgr; have HS_ := Aside0.mk (HS.out.field (y' := {x with label := v1, pt := v2.1, pp := v2.2, prod := v3, seq := v4}) (yu' := .slice B2 v5.length m2) hbx hgr); have HR_ := Aside0.mk (pairs_grown HR.out hgr (fun cells e => by rw [HS.out.b3] at e; simp at e)); clear HS HR hbx hgr d0 f0; have HR := HR_; clear HR_; have HS := HS_; clear HS_))
 refine ret_pair _ _ _ _ (by kernel_rfl) rfl rfl rfl rfl rfl (by kernel_rfl) (fun _ _ _ _ _ h => h) (d0 := 127) (d1 := 128) (p0 := 3) (p1 := 27) (p2 := 4) (p3 := 5) (T1 := 45) (T2 := 110) rfl rfl rfl rfl rfl rfl rfl rfl rfl rfl rfl rfl HS.out.b3 HS.out.br HS.out.b4 HS.out.b5 Try.underlying45 rfl (by kernel_rfl) Try.underlying110 rfl (by kernel_rfl) rfl rfl (by kernel_rfl) (by kernel_rfl) rfl rfl rfl rfl rfl rfl HS.out.n34 (blk_types HS.out.b3 HS.out.b5 (by decide)) (blk_types HS.out.br HS.out.b4 (by decide)) HS.out.n5r (blk_types HS.out.b4 HS.out.b5 (by decide)) ?_
 intro V b4 b5 hgr
 have HL := Aside0.mk (hgr.below HS.out.bl HS.out.l4 HS.out.l5 HS.out.size)
 have HR := Aside0.mk (hgr.pairs HR.out HS.out.b4 (by decide) HS.out.b5 (by decide))
 have B4 := Aside0.mk b4
 have B5 := Aside0.mk b5
 clear b4 b5 hgr HS
 go_wp2_with fail
 refine bodyPost_ret (results_cc' rfl _ _ g4 g5 45 110 (({x with label := v1, pt := v2.1, pp := v2.2, prod := v3, seq := v4}).cs (.slice B2 v5.length m2)) #[.string r5.1, .bool r5.2] (0, 0) (0, 0) _ _ rfl B4.out Try.underlying45 rfl (by kernel_rfl) rfl B5.out Try.underlying110 rfl (by kernel_rfl)) rfl ?_
 rw [HF.out]
 exact ⟨_, rfl, HR.out, HL.out⟩
end Go.Proofs.Ytlgihjhlkpmpnaa.Wire
