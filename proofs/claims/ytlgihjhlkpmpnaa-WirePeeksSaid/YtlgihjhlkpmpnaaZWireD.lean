import Derived.Test.YtlgihjhlkpmpnaaZWireC
namespace Go.Proofs.Ytlgihjhlkpmpnaa.Wire
set_option linter.unusedVariables false
set_option linter.unusedSimpArgs false
open Go.RowKit Go.Proofs.YtlgihjhlkpmpnaaW.PrintWords Go.Proofs.YtlgihjhlkpmpnaaW.PrintLast Go.Proofs.YtlgihjhlkpmpnaaW.PrintMore Go.Proofs.Ytlgihjhlkpmpnaa.PWire

theorem iterPos_of {W : World} {g pos : Nat} {s : ByteArray} (h : W.heap[g]? = some (.stringIter s pos)) : W.iterPos g = pos := by simp [World.iterPos, h]
/-- a request's pairs, as they are read -/
structure Prs (w : World) (A : Option Addr) (n k : Nat) (l : List S102) : Prop where
  c : Kd.C k102 w A n l
  a : A = none → k = 0
  b : n * 40 ≤ 140737488355328
theorem Prs.below {w W : World} {A : Option Addr} {n k : Nat} {l : List S102} (h : Prs w A n k l) (hb : Below w.heap.size w W) : Prs W A n k l := ⟨Kd.C_below h.c hb, h.a, h.b⟩
def cleanL (x : Rq) (l : List Int) : Rq := l.foldl (cleanStep x) (rq0 x.kind x.id)
def pairsL (l : List S102) (ls : List Int) : List S102 := if (66 : Int) ∈ ls then l else []
theorem cleanL_snoc (x : Rq) (ls : List Int) (c : Int) : cleanL x (ls ++ [c]) = cleanStep x (cleanL x ls) c := by simp [cleanL]
theorem lets_at (s : ByteArray) (pos : Nat) (h : pos < s.size) : (lets s).take (pos + 1) = (lets s).take pos ++ [((s[pos]'h).toNat : Int)] := by
  have e : s.data.toList[pos]? = some (s[pos]'h) := by
    rw [List.getElem?_eq_getElem (by simpa using h)]
    rfl
  rw [List.take_add_one]
  congr 1
  unfold lets
  rw [List.getElem?_map, e]
  rfl
theorem lets_all (s : ByteArray) (pos : Nat) (h : ¬ pos < s.size) : (lets s).take pos = lets s := List.take_of_length_le (by simp [lets]; omega)
theorem grown_more {a b c : World} {g : Nat} (h : a.grownBy b (some g)) (h' : b.grownBy c (some g)) : a.grownBy c (some g) :=
  ⟨h'.os.trans h.os, h'.tape.trans h.tape, h'.output.trans h.output, Nat.le_trans h.size h'.size, fun k hk hne => (h'.block k (Nat.lt_of_lt_of_le hk h.size) hne).trans (h.block k hk hne)⟩
theorem put5 {W : World} {g : Nat} {y : Rq} {u : Value} {t : TypeId} (h : W.heap[g]? = some (.cells (y.cs u) t (0, 0))) (a b c d e : Value) :
    (((((W.setCell ⟨g, 7, none⟩ a).setCell ⟨g, 8, none⟩ b).setCell ⟨g, 9, none⟩ c).setCell ⟨g, 10, none⟩ d).setCell ⟨g, 11, none⟩ e).heap[g]? = some (.cells ((((((y.cs u).setIfInBounds 7 a).setIfInBounds 8 b).setIfInBounds 9 c).setIfInBounds 10 d).setIfInBounds 11 e) t (0, 0)) ∧ W.grownBy (((((W.setCell ⟨g, 7, none⟩ a).setCell ⟨g, 8, none⟩ b).setCell ⟨g, 9, none⟩ c).setCell ⟨g, 10, none⟩ d).setCell ⟨g, 11, none⟩ e) (some g) :=
  ⟨blk_set (blk_set (blk_set (blk_set (blk_set h 7 a) 8 b) 9 c) 10 d) 11 e, by
    exact grown_more (grown_more (grown_more (grown_more (grown_setCell W g 7 a) (grown_setCell _ g 8 b)) (grown_setCell _ g 9 c)) (grown_setCell _ g 10 d)) (grown_setCell _ g 11 e)⟩
set_option maxHeartbeats 8000000 in
set_option maxRecDepth 100000 in
theorem clean_calls (x : Rq) (A : Option Addr) (n k : Nat) (l : List S102) (w : World) (hp : Prs w A n k l) :
    Calls Try.prog 33 #[.agg #[.int .i64 x.id, .int .i64 x.kind, .int .i64 x.label, .string x.pt, .int .i64 x.pp, .string x.tt, .int .i64 x.tp, .string x.sn, .int .i64 x.sp, .int .i64 x.sa, .int .i64 x.ss, .bool x.sc, .string x.grp, .string x.mem, .int .i64 x.gen, .int .i64 x.off, .int .i64 x.most, .int .i64 x.prod, .int .i64 x.seq, .slice A n k]] w fun e w' => ∃ u, e = .returned ((cleanL x (lets (formF x.kind))).v u) ∧ Kd.R k102 102 w' w.heap.size (fun _ => True) u (pairsL l (lets (formF x.kind))) ∧ Below w.heap.size w w' := by
  have HP := Aside0.mk hp
  have hasc := Aside0.mk (formF_ascii x.kind)
  have hform := Aside0.mk (fun W : World => wire_form.calls x.kind (formF x.kind) W (form_some x.kind))
  generalize formF x.kind = s at *
  clear hp
  go_enter Try.func33, Try.ntmps33
  go_wp2_with (first
    | ((with_reducible refine gate_dst (N := 1) rfl ?_); refine box_event rfl (N := 1) rfl (cs := #[.int .i64 x.id, .int .i64 x.kind, .int .i64 x.label, .string x.pt, .int .i64 x.pp, .string x.tt, .int .i64 x.tp, .string x.sn, .int .i64 x.sp, .int .i64 x.sa, .int .i64 x.ss, .bool x.sc, .string x.grp, .string x.mem, .int .i64 x.gen, .int .i64 x.off, .int .i64 x.most, .int .i64 x.prod, .int .i64 x.seq, .slice A n k]) (t := 45) ?hr ?_; (case hr => first | (go_simp; done) | (go_simp; rfl)); intro g1 hg1 w1 hbx hbl; have X1 := Aside0.mk hbx; have L1 := Aside0.mk hbl; clear hbx hbl hg1)
    | ((with_reducible refine gate_dst (N := 2) rfl ?_); refine box_event rfl (N := 2) rfl (cs := #[.int .i64 0, .int .i64 0, .int .i64 0, .string ⟨#[]⟩, .int .i64 0, .string ⟨#[]⟩, .int .i64 0, .string ⟨#[]⟩, .int .i64 0, .int .i64 0, .int .i64 0, .bool false, .string ⟨#[]⟩, .string ⟨#[]⟩, .int .i64 0, .int .i64 0, .int .i64 0, .int .i64 0, .int .i64 0, .slice none 0 0]) (t := 45) ?hr ?_; (case hr => first | (go_simp; done) | (go_simp; rfl)); intro g2 hg2 w2 hbx hbl; have X2 := Aside0.mk (blk_below X1.out hbl); have Y2 := Aside0.mk hbx; have L2 := Aside0.mk (below_step L1.out hbl); have G2 := Aside0.mk (show w.heap.size ≤ g2 by rw [hg2]; exact L1.out.size); have N2 := Aside0.mk (show g1 ≠ g2 by rw [hg2]; exact Nat.ne_of_lt (blk_lt X1.out)); clear X1 L1 hbx hbl hg2; have c0 : w2.cell? ⟨g1, 0, none⟩ = some (.int .i64 x.id) := (blk_cell X2.out 0).trans rfl; have c1 : w2.cell? ⟨g1, 1, none⟩ = some (.int .i64 x.kind) := (blk_cell X2.out 1).trans rfl)
    | ((with_reducible refine gate_dst (N := 3) rfl ?_); refine box_event rfl (N := 3) rfl (cs := #[.int .i64 0, .int .i64 0, .int .i64 0, .string ⟨#[]⟩, .int .i64 0, .string ⟨#[]⟩, .int .i64 0, .string ⟨#[]⟩, .int .i64 0, .int .i64 0, .int .i64 0, .bool false, .string ⟨#[]⟩, .string ⟨#[]⟩, .int .i64 0, .int .i64 0, .int .i64 0, .int .i64 0, .int .i64 0, .slice none 0 0]) (t := 45) ?hr ?_; (case hr => first | (go_simp; done) | (go_simp; rfl)); intro g3 hg3 w3 hbx hbl; have X3 := Aside0.mk (blk_below X2.out hbl); have Y3 := Aside0.mk (blk_below Y2.out hbl); have Z3 := Aside0.mk hbx; have L3 := Aside0.mk (below_step L2.out hbl); have G3 := Aside0.mk (show w.heap.size ≤ g3 by rw [hg3]; exact L2.out.size); have N3 := Aside0.mk (show g1 ≠ g3 by rw [hg3]; exact Nat.ne_of_lt (blk_lt X2.out)); have M3 := Aside0.mk (show g2 ≠ g3 by rw [hg3]; exact Nat.ne_of_lt (blk_lt Y2.out)); clear X2 Y2 L2 hbx hbl hg3 c0 c1)
    | ((with_reducible refine gate_store (t := 45) (p := 3) rfl ?_); refine Aside0.out ?_))
  constructor
  refine store_ev rfl rfl rfl (cells := (rq0 x.kind x.id).cs (.slice none 0 0)) rfl rfl Z3.out (by kernel_rfl) rfl (by kernel_rfl) ?_
  intro w4 hbx hgr
  have X4 := Aside0.mk (grown_at hgr X3.out N3.out)
  have Y4 := Aside0.mk (grown_at hgr Y3.out M3.out)
  have Z4 := Aside0.mk hbx
  have L4 := Aside0.mk (below_put L3.out G3.out hgr L3.out.size)
  clear hbx hgr X3 Y3 Z3 L3
  have c1 : w4.cell? ⟨g1, 1, none⟩ = some (.int .i64 x.kind) := (blk_cell X4.out 1).trans rfl
  go_wp2_with fail
  refine (hform.out _).mono ?_
  rintro e w5 ⟨rfl, hd⟩
  obtain ⟨nd, rfl⟩ := hd.out
  clear hd c1
  go_wp2_with ((with_reducible refine gate_dst (N := 18) rfl ?_); refine Aside0.out ?_)
  constructor
  refine range_ev (N := 18) rfl rfl (s := s) (by first | (go_simp; done) | (go_simp; rfl)) ?_
  intro gi hgi w6 hbi hbl
  have hbl' : Below w4.heap.size w4 w6 := below_step (pw_below_drewN (Below.refl _ _) nd) hbl
  have HS : Aside0 (St w x (rq0 x.kind x.id) (.slice A n k) (.slice none 0 0) #[.int .i64 0, .int .i64 0, .int .i64 0, .string ⟨#[]⟩, .int .i64 0, .string ⟨#[]⟩, .int .i64 0, .string ⟨#[]⟩, .int .i64 0, .int .i64 0, .int .i64 0, .bool false, .string ⟨#[]⟩, .string ⟨#[]⟩, .int .i64 0, .int .i64 0, .int .i64 0, .int .i64 0, .int .i64 0, .slice none 0 0] [] g1 g2 g3 gi s 0 w6) :=
    ⟨⟨blk_below X4.out hbl', blk_below Y4.out hbl', blk_below Z4.out hbl', hbi, below_step L4.out hbl', Kd.R_nil _ _ _ _ _, G2.out, G3.out, by rw [hgi]; exact Nat.le_trans L4.out.size (by simp), N3.out, M3.out⟩⟩
  clear X4 Y4 Z4 L4 G2 G3 N3 M3 hbi hbl hbl' hgi N2
  go_wp2_with fail
  go_frame
  go_loopw [5] (fun _ wr => ∃ (pos : Nat) (y : Rq) (yu : Value) (ps : List S102), pos ≤ s.size ∧ Aside0 (St w x y (.slice A n k) yu #[.int .i64 0, .int .i64 0, .int .i64 0, .string ⟨#[]⟩, .int .i64 0, .string ⟨#[]⟩, .int .i64 0, .string ⟨#[]⟩, .int .i64 0, .int .i64 0, .int .i64 0, .bool false, .string ⟨#[]⟩, .string ⟨#[]⟩, .int .i64 0, .int .i64 0, .int .i64 0, .int .i64 0, .int .i64 0, .slice none 0 0] ps g1 g2 g3 gi s pos wr) ∧ Aside0 (y = cleanL x ((lets s).take pos)) ∧ Aside0 (ps = pairsL l ((lets s).take pos))) (fun _ wr => s.size - wr.iterPos gi)
  case atStart => exact ⟨0, _, _, _, Nat.zero_le _, HS, ⟨rfl⟩, ⟨rfl⟩⟩
  case round =>
    clear HS
    obtain ⟨pos, y, yu, ps, hle, HS, HY, HPS⟩ := hrel
    by_cases hlt0 : pos < s.size
    · have hlt := Aside0.mk hlt0
      have hip := Aside0.mk (iterPos_of HS.out.bi)
      obtain ⟨c, hc⟩ : ∃ c : Int, ((s[pos]'hlt0).toNat : Int) = c := ⟨_, rfl⟩
      have HC : Aside0 (∃ h0 : pos < s.size, (s[pos]'h0).toNat < 128 ∧ ((s[pos]'h0).toNat : Int) = c) := ⟨hlt0, hasc.out pos hlt0, hc⟩
      have HLA := Aside0.mk (lets_at s pos hlt0)
      rw [hc] at HLA
      clear hc hlt0 hle
      obtain ⟨B, m, hyu⟩ := Kd.R_slice HS.out.rp
      subst hyu
      have hnum := Aside0.mk (fun W : World => number_calls x A n k c W)
      have htxt := Aside0.mk (fun W : World => text_calls x A n k c W)
      by_cases hN : (numF x c).2 = true
      · have hstep : Aside0 (cleanStep x y c = setNum y c (numF x c).1) := ⟨by unfold cleanStep; rw [if_pos hN]⟩
        obtain ⟨hT, n66, n67⟩ := numF_excl hN
        have e66 : (c == 66) = false := beq_eq_false_iff_ne.mpr n66
        have e67 : (c == 67) = false := beq_eq_false_iff_ne.mpr n67
        have hps : Aside0 (pairsL l ((lets s).take pos ++ [c]) = pairsL l ((lets s).take pos)) := ⟨by unfold pairsL; simp [Ne.symm n66]⟩
        rw [hN] at hnum
        rw [hT] at htxt
        clear n66 n67 hN hT
        generalize (numF x c).1 = nv at *
        generalize (textF x c).1 = tv at *
        go_wp2_with (first
          | ((with_reducible refine gate_dst (N := 19) rfl ?_); refine next_ev (N := 19) rfl rfl rfl rfl HS.out.bi HC.out ?_; intro W1 hbi hgr; have HS_ := Aside0.mk (HS.out.next hbi hgr); clear HS hbi hgr; have HS := HS_; clear HS_)
          | ((with_reducible refine gate_dst (N := 23) rfl ?_); refine load_ev (N := 23) rfl rfl rfl (cs := x.cs (.slice A n k)) rfl HS.out.b1 Try.underlying45 rfl (by kernel_rfl) ?_))
        refine (hnum.out _).mono ?_
        rintro e W2 ⟨rfl, hb⟩
        replace HS := Aside0.mk (HS.out.below hb)
        clear hb
        go_wp2_with (first
          | ((with_reducible refine gate_dst (N := 29) rfl ?_); refine load_ev (N := 29) rfl rfl rfl (cs := y.cs (.slice B ps.length m)) rfl HS.out.b3 Try.underlying45 rfl (by kernel_rfl) ?_))
        refine (withNumber_calls y B ps.length m c nv _).mono ?_
        rintro e W2 ⟨rfl, hb⟩
        replace HS := Aside0.mk (HS.out.below hb)
        clear hb
        go_wp2_with (first
          | ((with_reducible refine gate_store (t := 45) (p := 3) rfl ?_); refine store_ev rfl rfl rfl (cells := (setNum y c nv).cs (.slice B ps.length m)) rfl rfl HS.out.b3 (by kernel_rfl) rfl (by kernel_rfl) ?_; intro W1 hb3 hgr; have HS_ := Aside0.mk (HS.out.store hb3 hgr); clear HS hb3 hgr; have HS := HS_; clear HS_)
          | ((with_reducible refine gate_dst (N := 34) rfl ?_); refine load_ev (N := 34) rfl rfl rfl (cs := x.cs (.slice A n k)) rfl HS.out.b1 Try.underlying45 rfl (by kernel_rfl) ?_))
        refine (htxt.out _).mono ?_
        rintro e W2 ⟨rfl, hb⟩
        replace HS := Aside0.mk (HS.out.below hb)
        clear hb
        go_wp2_with fail
        go_roundw
        case rel => exact ⟨pos + 1, _, _, _, hlt.out, HS, ⟨by rw [HLA.out, cleanL_snoc, ← HY.out]; exact hstep.out.symm⟩, ⟨by rw [HLA.out]; rw [hps.out]; exact HPS.out⟩⟩
        case measure => rw [iterPos_of HS.out.bi, hip.out]; have := hlt.out; omega
      by_cases hT : (textF x c).2 = true
      · obtain ⟨hN', n66, n67⟩ := textF_excl hT
        have hstep : Aside0 (cleanStep x y c = setText y c (textF x c).1) := ⟨by unfold cleanStep; rw [if_neg hN, if_pos hT]⟩
        have e66 : (c == 66) = false := beq_eq_false_iff_ne.mpr n66
        have e67 : (c == 67) = false := beq_eq_false_iff_ne.mpr n67
        have hps : Aside0 (pairsL l ((lets s).take pos ++ [c]) = pairsL l ((lets s).take pos)) := ⟨by unfold pairsL; simp [Ne.symm n66]⟩
        rw [hN'] at hnum
        rw [hT] at htxt
        clear n66 n67 hN hT hN'
        generalize (numF x c).1 = nv at *
        generalize (textF x c).1 = tv at *
        go_wp2_with (first
          | ((with_reducible refine gate_dst (N := 19) rfl ?_); refine next_ev (N := 19) rfl rfl rfl rfl HS.out.bi HC.out ?_; intro W1 hbi hgr; have HS_ := Aside0.mk (HS.out.next hbi hgr); clear HS hbi hgr; have HS := HS_; clear HS_)
          | ((with_reducible refine gate_dst (N := 23) rfl ?_); refine load_ev (N := 23) rfl rfl rfl (cs := x.cs (.slice A n k)) rfl HS.out.b1 Try.underlying45 rfl (by kernel_rfl) ?_))
        refine (hnum.out _).mono ?_
        rintro e W2 ⟨rfl, hb⟩
        replace HS := Aside0.mk (HS.out.below hb)
        clear hb
        go_wp2_with (first
          | ((with_reducible refine gate_dst (N := 34) rfl ?_); refine load_ev (N := 34) rfl rfl rfl (cs := x.cs (.slice A n k)) rfl HS.out.b1 Try.underlying45 rfl (by kernel_rfl) ?_))
        refine (htxt.out _).mono ?_
        rintro e W2 ⟨rfl, hb⟩
        replace HS := Aside0.mk (HS.out.below hb)
        clear hb
        go_wp2_with (first
          | ((with_reducible refine gate_dst (N := 40) rfl ?_); refine load_ev (N := 40) rfl rfl rfl (cs := y.cs (.slice B ps.length m)) rfl HS.out.b3 Try.underlying45 rfl (by kernel_rfl) ?_))
        refine (withText_calls y B ps.length m c tv _).mono ?_
        rintro e W2 ⟨rfl, hb⟩
        replace HS := Aside0.mk (HS.out.below hb)
        clear hb
        go_wp2_with (first
          | ((with_reducible refine gate_store (t := 45) (p := 3) rfl ?_); refine store_ev rfl rfl rfl (cells := (setText y c tv).cs (.slice B ps.length m)) rfl rfl HS.out.b3 (by kernel_rfl) rfl (by kernel_rfl) ?_; intro W1 hb3 hgr; have HS_ := Aside0.mk (HS.out.store hb3 hgr); clear HS hb3 hgr; have HS := HS_; clear HS_))
        go_roundw
        case rel => exact ⟨pos + 1, _, _, _, hlt.out, HS, ⟨by rw [HLA.out, cleanL_snoc, ← HY.out]; exact hstep.out.symm⟩, ⟨by rw [HLA.out]; rw [hps.out]; exact HPS.out⟩⟩
        case measure => rw [iterPos_of HS.out.bi, hip.out]; have := hlt.out; omega
      have hN' : (numF x c).2 = false := by simpa using hN
      have hT' : (textF x c).2 = false := by simpa using hT
      rw [hN'] at hnum
      rw [hT'] at htxt
      clear hN' hT'
      generalize (numF x c).1 = nv at hnum
      generalize (textF x c).1 = tv at htxt
      by_cases h66 : c = 66
      · have hstep : Aside0 (cleanStep x y c = y) := ⟨by unfold cleanStep; rw [if_neg hN, if_neg hT, if_neg (by omega)]⟩
        have hps : Aside0 (pairsL l ((lets s).take pos ++ [c]) = l) := ⟨by unfold pairsL; rw [if_pos (by simp [h66])]⟩
        have e66 : (c == 66) = true := beq_iff_eq.mpr h66
        have e67 : (c == 67) = false := beq_eq_false_iff_ne.mpr (by omega)
        clear hN hT h66
        go_wp2_with (first
          | ((with_reducible refine gate_dst (N := 19) rfl ?_); refine next_ev (N := 19) rfl rfl rfl rfl HS.out.bi HC.out ?_; intro W1 hbi hgr; have HS_ := Aside0.mk (HS.out.next hbi hgr); clear HS hbi hgr; have HS := HS_; clear HS_)
          | ((with_reducible refine gate_dst (N := 23) rfl ?_); refine load_ev (N := 23) rfl rfl rfl (cs := x.cs (.slice A n k)) rfl HS.out.b1 Try.underlying45 rfl (by kernel_rfl) ?_))
        refine (hnum.out _).mono ?_
        rintro e W2 ⟨rfl, hb⟩
        replace HS := Aside0.mk (HS.out.below hb)
        clear hb
        go_wp2_with (first
          | ((with_reducible refine gate_dst (N := 34) rfl ?_); refine load_ev (N := 34) rfl rfl rfl (cs := x.cs (.slice A n k)) rfl HS.out.b1 Try.underlying45 rfl (by kernel_rfl) ?_))
        refine (htxt.out _).mono ?_
        rintro e W2 ⟨rfl, hb⟩
        replace HS := Aside0.mk (HS.out.below hb)
        clear hb
        have hsz := Aside0.mk HS.out.size
        have c19 : W2.cell? ⟨g1, 19, none⟩ = some (.slice A n k) := (blk_cell HS.out.b1 19).trans rfl
        go_wp2_with fail
        refine (clone_calls A n k l _ (HP.out.below HS.out.bl).c HP.out.a HP.out.b).mono ?_
        rintro e W3 ⟨u, rfl, hru, hb⟩
        replace HS := Aside0.mk (HS.out.below hb)
        have HR := Aside0.mk (Kd.R_lower hru hsz.out)
        clear hb hru c19
        obtain ⟨B2, m2, hu⟩ := Kd.R_slice HR.out
        subst hu
        have d19 : W3.cell? ⟨g3, 19, none⟩ = some (.slice B ps.length m) := (blk_cell HS.out.b3 19).trans rfl
        have f19 := blk_frozen HS.out.b3 19
        go_wp2_with (first
          | ((with_reducible refine gate_store (t := 43) (p := 50) rfl ?_); refine fstore_ev rfl rfl rfl (j := 19) (u := .slice B2 l.length m2) HS.out.b3 ?hr ?_; (case hr => first | (go_simp; done) | (go_simp; rfl)); intro W4 hb3 hgr; have HS_ := Aside0.mk (HS.out.putPairs HR.out hb3 hgr); clear HS hb3 hgr d19 f19; have HS := HS_; clear HS_))
        go_roundw
        case rel => exact ⟨pos + 1, _, _, _, hlt.out, HS, ⟨by rw [HLA.out, cleanL_snoc, ← HY.out]; exact hstep.out.symm⟩, ⟨by rw [HLA.out]; exact hps.out.symm⟩⟩
        case measure => rw [iterPos_of HS.out.bi, hip.out]; have := hlt.out; omega
      have hps : Aside0 (pairsL l ((lets s).take pos ++ [c]) = pairsL l ((lets s).take pos)) := ⟨by unfold pairsL; simp [Ne.symm h66]⟩
      have e66 : (c == 66) = false := beq_eq_false_iff_ne.mpr h66
      by_cases h67 : c = 67
      · have hstep : Aside0 (cleanStep x y c = {y with sn := x.sn, sp := x.sp, sa := x.sa, ss := x.ss, sc := x.sc}) := ⟨by unfold cleanStep; rw [if_neg hN, if_neg hT, if_pos h67]⟩
        have e67 : (c == 67) = true := beq_iff_eq.mpr h67
        clear hN hT h66 h67
        go_wp2_with (first
          | ((with_reducible refine gate_dst (N := 19) rfl ?_); refine next_ev (N := 19) rfl rfl rfl rfl HS.out.bi HC.out ?_; intro W1 hbi hgr; have HS_ := Aside0.mk (HS.out.next hbi hgr); clear HS hbi hgr; have HS := HS_; clear HS_)
          | ((with_reducible refine gate_dst (N := 23) rfl ?_); refine load_ev (N := 23) rfl rfl rfl (cs := x.cs (.slice A n k)) rfl HS.out.b1 Try.underlying45 rfl (by kernel_rfl) ?_))
        refine (hnum.out _).mono ?_
        rintro e W2 ⟨rfl, hb⟩
        replace HS := Aside0.mk (HS.out.below hb)
        clear hb
        go_wp2_with (first
          | ((with_reducible refine gate_dst (N := 34) rfl ?_); refine load_ev (N := 34) rfl rfl rfl (cs := x.cs (.slice A n k)) rfl HS.out.b1 Try.underlying45 rfl (by kernel_rfl) ?_))
        refine (htxt.out _).mono ?_
        rintro e W2 ⟨rfl, hb⟩
        replace HS := Aside0.mk (HS.out.below hb)
        clear hb
        have c7 : W2.cell? ⟨g1, 7, none⟩ = some (.string x.sn) := (blk_cell HS.out.b1 7).trans rfl
        have d7 : W2.cell? ⟨g3, 7, none⟩ = some (.string y.sn) := (blk_cell HS.out.b3 7).trans rfl
        have f7 := blk_frozen HS.out.b3 7
        have c8 : W2.cell? ⟨g1, 8, none⟩ = some (.int .i64 x.sp) := (blk_cell HS.out.b1 8).trans rfl
        have d8 : W2.cell? ⟨g3, 8, none⟩ = some (.int .i64 y.sp) := (blk_cell HS.out.b3 8).trans rfl
        have f8 := blk_frozen HS.out.b3 8
        have c9 : W2.cell? ⟨g1, 9, none⟩ = some (.int .i64 x.sa) := (blk_cell HS.out.b1 9).trans rfl
        have d9 : W2.cell? ⟨g3, 9, none⟩ = some (.int .i64 y.sa) := (blk_cell HS.out.b3 9).trans rfl
        have f9 := blk_frozen HS.out.b3 9
        have c10 : W2.cell? ⟨g1, 10, none⟩ = some (.int .i64 x.ss) := (blk_cell HS.out.b1 10).trans rfl
        have d10 : W2.cell? ⟨g3, 10, none⟩ = some (.int .i64 y.ss) := (blk_cell HS.out.b3 10).trans rfl
        have f10 := blk_frozen HS.out.b3 10
        have c11 : W2.cell? ⟨g1, 11, none⟩ = some (.bool x.sc) := (blk_cell HS.out.b1 11).trans rfl
        have d11 : W2.cell? ⟨g3, 11, none⟩ = some (.bool y.sc) := (blk_cell HS.out.b3 11).trans rfl
        have f11 := blk_frozen HS.out.b3 11
        go_wp2_with fail
        obtain ⟨hb5, hg5⟩ := put5 HS.out.b3 (.string x.sn) (.int .i64 x.sp) (.int .i64 x.sa) (.int .i64 x.ss) (.bool x.sc)
        have HS_ := Aside0.mk (HS.out.store (y' := {y with sn := x.sn, sp := x.sp, sa := x.sa, ss := x.ss, sc := x.sc}) hb5 hg5)
        clear HS
        have HS := HS_
        clear HS_ hb5 hg5 c7 d7 f7 c8 d8 f8 c9 d9 f9 c10 d10 f10 c11 d11 f11
        go_roundw
        case rel => exact ⟨pos + 1, _, _, _, hlt.out, HS, ⟨by rw [HLA.out, cleanL_snoc, ← HY.out]; exact hstep.out.symm⟩, ⟨by rw [HLA.out]; rw [hps.out]; exact HPS.out⟩⟩
        case measure => rw [iterPos_of HS.out.bi, hip.out]; have := hlt.out; omega
      have hstep : Aside0 (cleanStep x y c = y) := ⟨by unfold cleanStep; rw [if_neg hN, if_neg hT, if_neg h67]⟩
      have e67 : (c == 67) = false := beq_eq_false_iff_ne.mpr h67
      clear hN hT h66 h67
      go_wp2_with (first
        | ((with_reducible refine gate_dst (N := 19) rfl ?_); refine next_ev (N := 19) rfl rfl rfl rfl HS.out.bi HC.out ?_; intro W1 hbi hgr; have HS_ := Aside0.mk (HS.out.next hbi hgr); clear HS hbi hgr; have HS := HS_; clear HS_)
        | ((with_reducible refine gate_dst (N := 23) rfl ?_); refine load_ev (N := 23) rfl rfl rfl (cs := x.cs (.slice A n k)) rfl HS.out.b1 Try.underlying45 rfl (by kernel_rfl) ?_))
      refine (hnum.out _).mono ?_
      rintro e W2 ⟨rfl, hb⟩
      replace HS := Aside0.mk (HS.out.below hb)
      clear hb
      go_wp2_with (first
        | ((with_reducible refine gate_dst (N := 34) rfl ?_); refine load_ev (N := 34) rfl rfl rfl (cs := x.cs (.slice A n k)) rfl HS.out.b1 Try.underlying45 rfl (by kernel_rfl) ?_))
      refine (htxt.out _).mono ?_
      rintro e W2 ⟨rfl, hb⟩
      replace HS := Aside0.mk (HS.out.below hb)
      clear hb
      go_wp2_with fail
      go_roundw
      case rel => exact ⟨pos + 1, _, _, _, hlt.out, HS, ⟨by rw [HLA.out, cleanL_snoc, ← HY.out]; exact hstep.out.symm⟩, ⟨by rw [HLA.out]; rw [hps.out]; exact HPS.out⟩⟩
      case measure => rw [iterPos_of HS.out.bi, hip.out]; have := hlt.out; omega
    · have hpos : Aside0 ((lets s).take pos = lets s) := ⟨lets_all s pos hlt0⟩
      have hend := fun ty => Lib.run_next_end_at (P := Try.prog) wr gi s pos ty HS.out.bi hlt0
      rw [hpos.out] at HY HPS
      clear hpos hlt0 hle
      go_wp2_with (first
        | ((with_reducible refine gate_dst (N := 56) rfl ?_); refine load_ev (N := 56) rfl rfl rfl (cs := y.cs yu) rfl HS.out.b3 Try.underlying45 rfl (by kernel_rfl) ?_)
        | ((with_reducible refine gate_store (t := 45) (p := 2) rfl ?_); refine Aside0.out ?_))
      constructor
      obtain ⟨B, m, hyu⟩ := Kd.R_slice HS.out.rp
      subst hyu
      refine store_ev rfl rfl rfl (cells := y.cs (.slice B ps.length m)) rfl rfl HS.out.b2 (by kernel_rfl) rfl (by kernel_rfl) ?_
      intro W1 hb2 hgr
      have HR := Aside0.mk (pairs_grown HS.out.rp hgr (fun cells e => by rw [HS.out.b2] at e; simp at e))
      have HL := Aside0.mk (below_put HS.out.bl HS.out.h2 hgr HS.out.size)
      have HB := Aside0.mk hb2
      clear hb2 hgr HS hend
      go_wp2_with fail
      refine bodyPost_ret (results_cell_row rfl _ _ g2 45 (y.cs (.slice B ps.length m)) (0, 0) _ rfl HB.out Try.underlying45 rfl (by kernel_rfl)) rfl ?_
      exact ⟨_, by rw [← HY.out]; rfl, by rw [← HPS.out]; exact HR.out, HL.out⟩
end Go.Proofs.Ytlgihjhlkpmpnaa.Wire
