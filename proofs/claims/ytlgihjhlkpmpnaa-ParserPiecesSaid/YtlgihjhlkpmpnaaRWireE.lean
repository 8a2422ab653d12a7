import Derived.Test.YtlgihjhlkpmpnaaRWireD
namespace Go.Proofs.Ytlgihjhlkpmpnaa.Wire
set_option linter.unusedVariables false
set_option linter.unusedSimpArgs false
open Go.RowKit Go.Proofs.YtlgihjhlkpmpnaaW.PrintWords Go.Proofs.YtlgihjhlkpmpnaaW.PrintLast Go.Proofs.YtlgihjhlkpmpnaaW.PrintMore Go.Proofs.Ytlgihjhlkpmpnaa.PWire

structure Sm (w : World) (x : Rq) (xu : Value) (g1 gi : Nat) (s : ByteArray) (pos : Nat) (W : World) : Prop where
  b1 : W.heap[g1]? = some (.cells (x.cs xu) 45 (0, 0))
  bi : W.heap[gi]? = some (.stringIter s pos)
  bl : Below w.heap.size w W
  hi : w.heap.size ≤ gi
section
variable {w : World} {x : Rq} {xu : Value} {g1 gi : Nat} {s : ByteArray} {pos : Nat} {W W' : World}
theorem Sm.below (h : Sm w x xu g1 gi s pos W) (hb : Below W.heap.size W W') : Sm w x xu g1 gi s pos W' := ⟨blk_below h.b1 hb, blk_below h.bi hb, below_step h.bl hb, h.hi⟩
theorem Sm.next (h : Sm w x xu g1 gi s pos W) (hi : W'.heap[gi]? = some (.stringIter s (pos + 1))) (hg : W.grownBy W' (some gi)) : Sm w x xu g1 gi s (pos + 1) W' :=
  ⟨grown_at hg h.b1 (fun e => by have := h.bi; rw [← e, h.b1] at this; simp at this), hi, below_put h.bl h.hi hg h.bl.size, h.hi⟩
end
def upToB (n : Int) : Bool := decide (0 ≤ n) && decide (n ≤ 1099511627776)
theorem upTo_some (n : Int) : wire_upTo.f n = some (upToB n) := by
  unfold wire_upTo.f upToB
  by_cases h : n ≥ 0
  · rw [if_pos h, decide_eq_true (show 0 ≤ n from h)]; rfl
  · rw [if_neg h, decide_eq_false (show ¬ 0 ≤ n from h)]; rfl
theorem upTo_calls (n : Int) (W : World) : Calls Try.prog 67 #[.int .i64 n] W fun e w' => e = .returned (.bool (upToB n)) ∧ Below W.heap.size W w' :=
  (wire_upTo.calls n (upToB n) W (upTo_some n)).mono fun e w' h => ⟨h.1, by
    obtain ⟨nd, e⟩ := h.2.out
    rw [e]
    exact pw_below_drewN (Below.refl _ _) nd⟩
theorem form_calls (n : Int) (W : World) : Calls Try.prog 61 #[.int .i64 n] W fun e w' => e = .returned (.string (formF n)) ∧ Below W.heap.size W w' :=
  (wire_form.calls n (formF n) W (form_some n)).mono fun e w' h => ⟨h.1, by
    obtain ⟨nd, e⟩ := h.2.out
    rw [e]
    exact pw_below_drewN (Below.refl _ _) nd⟩
def pairB (p : S102) : Bool := decide (p.f0.size ≤ 255) && decide (p.f1.size ≤ 255)
def pairsB (l : List S102) : Bool := decide (l.length ≤ 16) && l.all pairB
theorem pairs_loop (l : List S102) (hl : l.length ≤ 140737488355328) : ∀ d i, i + d = l.length → ∀ k, d < k → wire_pairs.l0 k l l (l.length : Int) (i : Int) = some (decide (l.length ≤ 16) && (l.drop i).all pairB) := by
  intro d
  induction d with
  | zero =>
    intro i hi k hk
    obtain ⟨k, rfl⟩ : ∃ m, k = m + 1 := ⟨k - 1, by omega⟩
    simp only [wire_pairs.l0]
    rw [if_neg (by omega), List.drop_of_length_le (by omega)]
    have e : ((l.length : Int) ≤ 16) ↔ l.length ≤ 16 := by omega
    simp [e]
  | succ d ih =>
    intro i hi k hk
    obtain ⟨k, rfl⟩ : ∃ m, k = m + 1 := ⟨k - 1, by omega⟩
    simp only [wire_pairs.l0]
    rw [if_pos (by omega), if_pos (by omega), if_pos (by omega)]
    have hrd : rd_T102 l (i : Int) = l[i]'(by omega) := by
      unfold rd_T102
      rw [Int.toNat_natCast, List.getD_eq_getElem?_getD, List.getElem?_eq_getElem (by omega)]
      rfl
    rw [hrd, List.drop_eq_getElem_cons (by omega), List.all_cons]
    have hw : wrap64 ((i : Int) + 1) = ((i + 1 : Nat) : Int) := by unfold wrap64; omega
    generalize l[i]'(by omega) = p
    rw [show pairB p = (decide (p.f0.size ≤ 255) && decide (p.f1.size ≤ 255)) from rfl]
    by_cases h1 : p.f0.size ≤ 255
    · by_cases h2 : p.f1.size ≤ 255
      · rw [if_neg (by omega), if_neg (by omega), hw, ih (i + 1) (by omega) k (by omega)]
        simp [h1, h2]
      · rw [if_neg (by omega), if_pos (by omega)]
        simp [h1, h2]
    · rw [if_pos (by omega)]
      simp [h1]
theorem pairsB_calls {A : Option Addr} {k : Nat} {l : List S102} {w : World} (h : Prs w A l.length k l) (hk : l.length ≤ k) :
    Calls Try.prog 68 #[.slice A l.length k] w fun e w' => e = .returned (.bool (pairsB l)) ∧ Below w.heap.size w w' :=
  wire_pairs.calls (l.length + 1) A k l (pairsB l) w h.c hk (by
    unfold wire_pairs.f
    have h1 := h.b
    have := pairs_loop l (by omega) l.length 0 (by omega) (l.length + 1) (by omega)
    simpa [pairsB] using this)
def specB (x : Rq) : Bool := decide (x.sn.size ≤ 64) && upToB x.sp && upToB x.sa && upToB x.ss
/-- may a letter's field be? -/
def okLetter (x : Rq) (l : List S102) (c : Int) : Bool := upToB (numF x c).1 && decide ((textF x c).1.size ≤ 64) && (if c = 66 then pairsB l else true) && (if c = 67 then specB x else true)
def mayB (x : Rq) (l : List S102) : Bool := !(lets (formF x.kind)).isEmpty && decide (0 ≤ x.id) && decide (x.id ≤ 65535) && (lets (formF x.kind)).all (okLetter x l)
theorem may_bad {x : Rq} {l : List S102} {ls : List Int} {pos : Nat} {c : Int} (hl : ls.take (pos + 1) = ls.take pos ++ [c]) (hc : okLetter x l c = false) : ls.all (okLetter x l) = false := by
  rw [← List.take_append_drop (pos + 1) ls, hl]
  simp [hc]

set_option maxHeartbeats 16000000 in
set_option maxRecDepth 100000 in
theorem may_calls (x : Rq) (A : Option Addr) (k : Nat) (l : List S102) (w : World) (hp : Prs w A l.length k l) (hk : l.length ≤ k) :
    Calls Try.prog 34 #[.agg #[.int .i64 x.id, .int .i64 x.kind, .int .i64 x.label, .string x.pt, .int .i64 x.pp, .string x.tt, .int .i64 x.tp, .string x.sn, .int .i64 x.sp, .int .i64 x.sa, .int .i64 x.ss, .bool x.sc, .string x.grp, .string x.mem, .int .i64 x.gen, .int .i64 x.off, .int .i64 x.most, .int .i64 x.prod, .int .i64 x.seq, .slice A l.length k]] w fun e w' => e = .returned (.bool (mayB x l)) ∧ Below w.heap.size w w' := by
  have HP := Aside0.mk hp
  have HK := Aside0.mk hk
  have hasc := Aside0.mk (formF_ascii x.kind)
  have hform := Aside0.mk (fun W : World => form_calls x.kind W)
  have hund : ∀ b, some undef = some (Value.bool b) → False := fun b h => by simp [undef] at h
  have HR : Aside0 (mayB x l = (!(lets (formF x.kind)).isEmpty && decide (0 ≤ x.id) && decide (x.id ≤ 65535) && (lets (formF x.kind)).all (okLetter x l))) := ⟨rfl⟩
  have hemp : Aside0 ((lets (formF x.kind)).isEmpty = (formF x.kind).toList.isEmpty) := ⟨by rw [ByteArray.toList_eq]; simp [lets]⟩
  generalize formF x.kind = s at *
  generalize mayB x l = res at *
  clear hp hk

  by_cases h0 : s.toList.isEmpty = true
  · have hres : Aside0 (res = false) := ⟨by rw [HR.out, hemp.out, h0]; rfl⟩
    have h1 : s.toList = [] := List.isEmpty_iff.mp h0
    clear h0 HR hemp
    go_enter Try.func34, Try.ntmps34
    go_wp2_with (first
      | ((with_reducible refine gate_dst (N := 1) rfl ?_); refine box_event rfl (N := 1) rfl (cs := #[.int .i64 x.id, .int .i64 x.kind, .int .i64 x.label, .string x.pt, .int .i64 x.pp, .string x.tt, .int .i64 x.tp, .string x.sn, .int .i64 x.sp, .int .i64 x.sa, .int .i64 x.ss, .bool x.sc, .string x.grp, .string x.mem, .int .i64 x.gen, .int .i64 x.off, .int .i64 x.most, .int .i64 x.prod, .int .i64 x.seq, .slice A l.length k]) (t := 45) ?hr ?_; (case hr => first | (go_simp; done) | (go_simp; rfl)); intro g1 hg1 w1 hbx hbl; have X1 := Aside0.mk hbx; have L1 := Aside0.mk hbl; clear hbx hbl hg1; have c1 : w1.cell? ⟨g1, 1, none⟩ = some (.int .i64 x.kind) := (blk_cell X1.out 1).trans rfl))
    refine (hform.out _).mono ?_
    rintro e w2 ⟨rfl, hb⟩
    have X2 := Aside0.mk (blk_below X1.out hb)
    have L2 := Aside0.mk (below_step L1.out hb)
    clear hb X1 L1 c1
    have c0 : w2.cell? ⟨g1, 0, none⟩ = some (.int .i64 x.id) := (blk_cell X2.out 0).trans rfl
    go_wp2_with fail
    go_ret
    exact ⟨by rw [hres.out] <;> rfl, L2.out⟩

  have h0' : s.toList.isEmpty = false := by simpa using h0
  have h0n : (!s.toList.isEmpty) = true := by simpa using h0
  have h1n : ¬ s.toList = [] := fun e => h0 (List.isEmpty_iff.mpr e)
  rw [hemp.out, h0'] at HR
  clear h0 hemp
  by_cases hi0 : 0 ≤ x.id
  case neg =>
    have hres : Aside0 (res = false) := ⟨by rw [HR.out, decide_eq_false hi0]; simp⟩
    have hlt0 : x.id < 0 := by omega
    clear HR hi0
    go_enter Try.func34, Try.ntmps34
    go_wp2_with (first
      | ((with_reducible refine gate_dst (N := 1) rfl ?_); refine box_event rfl (N := 1) rfl (cs := #[.int .i64 x.id, .int .i64 x.kind, .int .i64 x.label, .string x.pt, .int .i64 x.pp, .string x.tt, .int .i64 x.tp, .string x.sn, .int .i64 x.sp, .int .i64 x.sa, .int .i64 x.ss, .bool x.sc, .string x.grp, .string x.mem, .int .i64 x.gen, .int .i64 x.off, .int .i64 x.most, .int .i64 x.prod, .int .i64 x.seq, .slice A l.length k]) (t := 45) ?hr ?_; (case hr => first | (go_simp; done) | (go_simp; rfl)); intro g1 hg1 w1 hbx hbl; have X1 := Aside0.mk hbx; have L1 := Aside0.mk hbl; clear hbx hbl hg1; have c1 : w1.cell? ⟨g1, 1, none⟩ = some (.int .i64 x.kind) := (blk_cell X1.out 1).trans rfl))
    refine (hform.out _).mono ?_
    rintro e w2 ⟨rfl, hb⟩
    have X2 := Aside0.mk (blk_below X1.out hb)
    have L2 := Aside0.mk (below_step L1.out hb)
    clear hb X1 L1 c1
    have c0 : w2.cell? ⟨g1, 0, none⟩ = some (.int .i64 x.id) := (blk_cell X2.out 0).trans rfl
    go_wp2_with fail
    go_ret
    exact ⟨by rw [hres.out] <;> rfl, L2.out⟩

  by_cases hi1 : x.id ≤ 65535
  case neg =>
    have hres : Aside0 (res = false) := ⟨by rw [HR.out, decide_eq_false hi1]; simp⟩
    have hlt1 : ¬ x.id ≤ 65535 := hi1
    clear HR
    go_enter Try.func34, Try.ntmps34
    go_wp2_with (first
      | ((with_reducible refine gate_dst (N := 1) rfl ?_); refine box_event rfl (N := 1) rfl (cs := #[.int .i64 x.id, .int .i64 x.kind, .int .i64 x.label, .string x.pt, .int .i64 x.pp, .string x.tt, .int .i64 x.tp, .string x.sn, .int .i64 x.sp, .int .i64 x.sa, .int .i64 x.ss, .bool x.sc, .string x.grp, .string x.mem, .int .i64 x.gen, .int .i64 x.off, .int .i64 x.most, .int .i64 x.prod, .int .i64 x.seq, .slice A l.length k]) (t := 45) ?hr ?_; (case hr => first | (go_simp; done) | (go_simp; rfl)); intro g1 hg1 w1 hbx hbl; have X1 := Aside0.mk hbx; have L1 := Aside0.mk hbl; clear hbx hbl hg1; have c1 : w1.cell? ⟨g1, 1, none⟩ = some (.int .i64 x.kind) := (blk_cell X1.out 1).trans rfl))
    refine (hform.out _).mono ?_
    rintro e w2 ⟨rfl, hb⟩
    have X2 := Aside0.mk (blk_below X1.out hb)
    have L2 := Aside0.mk (below_step L1.out hb)
    clear hb X1 L1 c1
    have c0 : w2.cell? ⟨g1, 0, none⟩ = some (.int .i64 x.id) := (blk_cell X2.out 0).trans rfl
    go_wp2_with fail
    go_ret
    exact ⟨by rw [hres.out] <;> rfl, L2.out⟩

  rw [decide_eq_true hi0, decide_eq_true hi1] at HR
  have hge1 : ¬ x.id < 0 := by omega
  go_enter Try.func34, Try.ntmps34
  go_wp2_with (first
    | ((with_reducible refine gate_dst (N := 1) rfl ?_); refine box_event rfl (N := 1) rfl (cs := #[.int .i64 x.id, .int .i64 x.kind, .int .i64 x.label, .string x.pt, .int .i64 x.pp, .string x.tt, .int .i64 x.tp, .string x.sn, .int .i64 x.sp, .int .i64 x.sa, .int .i64 x.ss, .bool x.sc, .string x.grp, .string x.mem, .int .i64 x.gen, .int .i64 x.off, .int .i64 x.most, .int .i64 x.prod, .int .i64 x.seq, .slice A l.length k]) (t := 45) ?hr ?_; (case hr => first | (go_simp; done) | (go_simp; rfl)); intro g1 hg1 w1 hbx hbl; have X1 := Aside0.mk hbx; have L1 := Aside0.mk hbl; clear hbx hbl hg1; have c1 : w1.cell? ⟨g1, 1, none⟩ = some (.int .i64 x.kind) := (blk_cell X1.out 1).trans rfl))
  refine (hform.out _).mono ?_
  rintro e w2 ⟨rfl, hb⟩
  have X2 := Aside0.mk (blk_below X1.out hb)
  have L2 := Aside0.mk (below_step L1.out hb)
  clear hb X1 L1 c1
  have c0 : w2.cell? ⟨g1, 0, none⟩ = some (.int .i64 x.id) := (blk_cell X2.out 0).trans rfl

  have c1 : w2.cell? ⟨g1, 1, none⟩ = some (.int .i64 x.kind) := (blk_cell X2.out 1).trans rfl

  go_wp2_with fail
  refine (hform.out _).mono ?_
  rintro e w3 ⟨rfl, hb⟩
  have X3 := Aside0.mk (blk_below X2.out hb)
  have L3 := Aside0.mk (below_step L2.out hb)
  clear hb X2 L2 c1 c0 hi0 hi1 hge1 h0' h0n h1n
  go_wp2_with ((with_reducible refine gate_dst (N := 26) rfl ?_); refine Aside0.out ?_)
  constructor
  refine range_ev (N := 26) rfl rfl (s := s) (by first | (go_simp; done) | (go_simp; rfl)) ?_
  intro gi hgi w6 hbi hbl
  have HS : Aside0 (Sm w x (.slice A l.length k) g1 gi s 0 w6) := ⟨⟨blk_below X3.out hbl, hbi, below_step L3.out hbl, by rw [hgi]; exact L3.out.size⟩⟩
  clear X3 L3 hbi hbl hgi
  go_wp2_with fail
  go_frame
  go_loopw [4] (fun _ wr => ∃ (pos : Nat), pos ≤ s.size ∧ Aside0 (Sm w x (.slice A l.length k) g1 gi s pos wr) ∧ Aside0 (((lets s).take pos).all (okLetter x l) = true)) (fun _ wr => s.size - wr.iterPos gi)
  case atStart => exact ⟨0, Nat.zero_le _, HS, ⟨rfl⟩⟩
  case round =>
    clear HS
    obtain ⟨pos, hle, HS, HY⟩ := hrel
    by_cases hlt0 : pos < s.size
    · have hlt := Aside0.mk hlt0
      have hip := Aside0.mk (iterPos_of HS.out.bi)
      obtain ⟨c, hc⟩ : ∃ c : Int, ((s[pos]'hlt0).toNat : Int) = c := ⟨_, rfl⟩
      have HC : Aside0 (∃ h0 : pos < s.size, (s[pos]'h0).toNat < 128 ∧ ((s[pos]'h0).toNat : Int) = c) := ⟨hlt0, hasc.out pos hlt0, hc⟩
      have HLA := Aside0.mk (lets_at s pos hlt0)
      rw [hc] at HLA
      clear hc hlt0 hle
      have hnum := Aside0.mk (fun W : World => number_calls x A l.length k c W)
      have htxt := Aside0.mk (fun W : World => text_calls x A l.length k c W)
      have hok : Aside0 (okLetter x l c = (upToB (numF x c).1 && decide ((textF x c).1.size ≤ 64) && (if c = 66 then pairsB l else true) && (if c = 67 then specB x else true))) := ⟨rfl⟩
      generalize (numF x c).1 = nv at *
      generalize (textF x c).1 = tv at *
      generalize (numF x c).2 = nb at *
      generalize (textF x c).2 = tb at *
      have hup := Aside0.mk (fun W : World => upTo_calls nv W)
      have bad : Aside0 (okLetter x l c = false → res = false) := ⟨fun h => by rw [HR.out, may_bad HLA.out h]; rfl⟩
      have good : Aside0 (okLetter x l c = true → ((lets s).take (pos + 1)).all (okLetter x l) = true) := ⟨fun h => by rw [HLA.out, List.all_append, HY.out]; simp [h]⟩
      by_cases hu : upToB nv = true
      case neg =>
        have hu' : upToB nv = false := by simpa using hu
        have hbad : Aside0 (okLetter x l c = false) := ⟨by rw [hok.out, hu']; simp⟩
        rw [hu'] at hup
        clear hu hu' good hok
        go_wp2_with (first
          | ((with_reducible refine gate_dst (N := 27) rfl ?_); refine next_ev (N := 27) rfl rfl rfl rfl HS.out.bi HC.out ?_; intro W1 hbi hgr; have HS_ := Aside0.mk (HS.out.next hbi hgr); clear HS hbi hgr; have HS := HS_; clear HS_)
          | ((with_reducible refine gate_dst (N := 31) rfl ?_); refine load_ev (N := 31) rfl rfl rfl (cs := x.cs (.slice A l.length k)) rfl HS.out.b1 Try.underlying45 rfl (by kernel_rfl) ?_))
        refine (hnum.out _).mono ?_
        rintro e W2 ⟨rfl, hb⟩
        replace HS := Aside0.mk (HS.out.below hb)
        clear hb
        go_wp2_with (first
          | ((with_reducible refine gate_dst (N := 37) rfl ?_); refine load_ev (N := 37) rfl rfl rfl (cs := x.cs (.slice A l.length k)) rfl HS.out.b1 Try.underlying45 rfl (by kernel_rfl) ?_))
        refine (htxt.out _).mono ?_
        rintro e W2 ⟨rfl, hb⟩
        replace HS := Aside0.mk (HS.out.below hb)
        clear hb
        go_wp2_with fail
        refine (hup.out _).mono ?_
        rintro e W2 ⟨rfl, hb⟩
        replace HS := Aside0.mk (HS.out.below hb)
        clear hb
        go_wp2_with fail
        go_ret
        exact ⟨by rw [bad.out hbad.out] <;> rfl, HS.out.bl⟩

      rw [hu] at hup
      by_cases ht : tv.size ≤ 64
      case neg =>
        have hbad : Aside0 (okLetter x l c = false) := ⟨by rw [hok.out, decide_eq_false ht]; simp⟩
        have ht1 : decide ((tv.size : Int) > 64) = true := by simp; omega
        have ht2 : (64 : Int) < (tv.size : Int) := by omega
        clear hu ht good hok
        go_wp2_with (first
          | ((with_reducible refine gate_dst (N := 27) rfl ?_); refine next_ev (N := 27) rfl rfl rfl rfl HS.out.bi HC.out ?_; intro W1 hbi hgr; have HS_ := Aside0.mk (HS.out.next hbi hgr); clear HS hbi hgr; have HS := HS_; clear HS_)
          | ((with_reducible refine gate_dst (N := 31) rfl ?_); refine load_ev (N := 31) rfl rfl rfl (cs := x.cs (.slice A l.length k)) rfl HS.out.b1 Try.underlying45 rfl (by kernel_rfl) ?_))
        refine (hnum.out _).mono ?_
        rintro e W2 ⟨rfl, hb⟩
        replace HS := Aside0.mk (HS.out.below hb)
        clear hb
        go_wp2_with (first
          | ((with_reducible refine gate_dst (N := 37) rfl ?_); refine load_ev (N := 37) rfl rfl rfl (cs := x.cs (.slice A l.length k)) rfl HS.out.b1 Try.underlying45 rfl (by kernel_rfl) ?_))
        refine (htxt.out _).mono ?_
        rintro e W2 ⟨rfl, hb⟩
        replace HS := Aside0.mk (HS.out.below hb)
        clear hb
        go_wp2_with fail
        refine (hup.out _).mono ?_
        rintro e W2 ⟨rfl, hb⟩
        replace HS := Aside0.mk (HS.out.below hb)
        clear hb
        go_wp2_with fail
        go_ret
        exact ⟨by rw [bad.out hbad.out] <;> rfl, HS.out.bl⟩

      have ht1 : ¬ (64 : Int) < (tv.size : Int) := by omega
      rw [hu, decide_eq_true ht] at hok
      clear hu ht
      by_cases h66 : c = 66
      case pos =>
        have hpc := Aside0.mk (fun W (hW : Below w.heap.size w W) => pairsB_calls (HP.out.below hW) HK.out)
        have e66 : (c == 66) = true := beq_iff_eq.mpr h66
        have e67 : (c == 67) = false := beq_eq_false_iff_ne.mpr (by omega)
        rw [if_pos h66, if_neg (by omega)] at hok
        clear h66
        by_cases hpb : pairsB l = true
        case neg =>
          have hpb' : pairsB l = false := by simpa using hpb
          rw [hpb'] at hpc
          have hbad : Aside0 (okLetter x l c = false) := ⟨by rw [hok.out, hpb']; rfl⟩
          clear hpb hpb' good hok
          go_wp2_with (first
            | ((with_reducible refine gate_dst (N := 27) rfl ?_); refine next_ev (N := 27) rfl rfl rfl rfl HS.out.bi HC.out ?_; intro W1 hbi hgr; have HS_ := Aside0.mk (HS.out.next hbi hgr); clear HS hbi hgr; have HS := HS_; clear HS_)
            | ((with_reducible refine gate_dst (N := 31) rfl ?_); refine load_ev (N := 31) rfl rfl rfl (cs := x.cs (.slice A l.length k)) rfl HS.out.b1 Try.underlying45 rfl (by kernel_rfl) ?_))
          refine (hnum.out _).mono ?_
          rintro e W2 ⟨rfl, hb⟩
          replace HS := Aside0.mk (HS.out.below hb)
          clear hb
          go_wp2_with (first
            | ((with_reducible refine gate_dst (N := 37) rfl ?_); refine load_ev (N := 37) rfl rfl rfl (cs := x.cs (.slice A l.length k)) rfl HS.out.b1 Try.underlying45 rfl (by kernel_rfl) ?_))
          refine (htxt.out _).mono ?_
          rintro e W2 ⟨rfl, hb⟩
          replace HS := Aside0.mk (HS.out.below hb)
          clear hb
          go_wp2_with fail
          refine (hup.out _).mono ?_
          rintro e W2 ⟨rfl, hb⟩
          replace HS := Aside0.mk (HS.out.below hb)
          clear hb
          have c19 : W2.cell? ⟨g1, 19, none⟩ = some (.slice A l.length k) := (blk_cell HS.out.b1 19).trans rfl
          go_wp2_with fail
          refine (hpc.out _ HS.out.bl).mono ?_
          rintro e W2 ⟨rfl, hb⟩
          replace HS := Aside0.mk (HS.out.below hb)
          clear hb
          clear c19
          go_wp2_with fail
          go_ret
          exact ⟨by rw [bad.out hbad.out] <;> rfl, HS.out.bl⟩

        rw [hpb] at hpc
        have hgood : Aside0 (okLetter x l c = true) := ⟨by rw [hok.out, hpb]; rfl⟩
        clear hpb bad hok
        go_wp2_with (first
          | ((with_reducible refine gate_dst (N := 27) rfl ?_); refine next_ev (N := 27) rfl rfl rfl rfl HS.out.bi HC.out ?_; intro W1 hbi hgr; have HS_ := Aside0.mk (HS.out.next hbi hgr); clear HS hbi hgr; have HS := HS_; clear HS_)
          | ((with_reducible refine gate_dst (N := 31) rfl ?_); refine load_ev (N := 31) rfl rfl rfl (cs := x.cs (.slice A l.length k)) rfl HS.out.b1 Try.underlying45 rfl (by kernel_rfl) ?_))
        refine (hnum.out _).mono ?_
        rintro e W2 ⟨rfl, hb⟩
        replace HS := Aside0.mk (HS.out.below hb)
        clear hb
        go_wp2_with (first
          | ((with_reducible refine gate_dst (N := 37) rfl ?_); refine load_ev (N := 37) rfl rfl rfl (cs := x.cs (.slice A l.length k)) rfl HS.out.b1 Try.underlying45 rfl (by kernel_rfl) ?_))
        refine (htxt.out _).mono ?_
        rintro e W2 ⟨rfl, hb⟩
        replace HS := Aside0.mk (HS.out.below hb)
        clear hb
        go_wp2_with fail
        refine (hup.out _).mono ?_
        rintro e W2 ⟨rfl, hb⟩
        replace HS := Aside0.mk (HS.out.below hb)
        clear hb
        have c19 : W2.cell? ⟨g1, 19, none⟩ = some (.slice A l.length k) := (blk_cell HS.out.b1 19).trans rfl
        go_wp2_with fail
        refine (hpc.out _ HS.out.bl).mono ?_
        rintro e W2 ⟨rfl, hb⟩
        replace HS := Aside0.mk (HS.out.below hb)
        clear hb
        clear c19
        go_wp2_with fail
        go_roundw
        case rel => exact ⟨pos + 1, hlt.out, HS, ⟨good.out hgood.out⟩⟩
        case measure => rw [iterPos_of HS.out.bi, hip.out]; have := hlt.out; omega

      rw [if_neg h66] at hok
      have e66 : (c == 66) = false := beq_eq_false_iff_ne.mpr h66
      by_cases h67 : c = 67
      case neg =>
        have hgood : Aside0 (okLetter x l c = true) := ⟨by rw [hok.out, if_neg h67]; rfl⟩
        have e67 : (c == 67) = false := beq_eq_false_iff_ne.mpr h67
        clear h66 h67 bad hok
        go_wp2_with (first
          | ((with_reducible refine gate_dst (N := 27) rfl ?_); refine next_ev (N := 27) rfl rfl rfl rfl HS.out.bi HC.out ?_; intro W1 hbi hgr; have HS_ := Aside0.mk (HS.out.next hbi hgr); clear HS hbi hgr; have HS := HS_; clear HS_)
          | ((with_reducible refine gate_dst (N := 31) rfl ?_); refine load_ev (N := 31) rfl rfl rfl (cs := x.cs (.slice A l.length k)) rfl HS.out.b1 Try.underlying45 rfl (by kernel_rfl) ?_))
        refine (hnum.out _).mono ?_
        rintro e W2 ⟨rfl, hb⟩
        replace HS := Aside0.mk (HS.out.below hb)
        clear hb
        go_wp2_with (first
          | ((with_reducible refine gate_dst (N := 37) rfl ?_); refine load_ev (N := 37) rfl rfl rfl (cs := x.cs (.slice A l.length k)) rfl HS.out.b1 Try.underlying45 rfl (by kernel_rfl) ?_))
        refine (htxt.out _).mono ?_
        rintro e W2 ⟨rfl, hb⟩
        replace HS := Aside0.mk (HS.out.below hb)
        clear hb
        go_wp2_with fail
        refine (hup.out _).mono ?_
        rintro e W2 ⟨rfl, hb⟩
        replace HS := Aside0.mk (HS.out.below hb)
        clear hb
        go_wp2_with fail
        go_roundw
        case rel => exact ⟨pos + 1, hlt.out, HS, ⟨good.out hgood.out⟩⟩
        case measure => rw [iterPos_of HS.out.bi, hip.out]; have := hlt.out; omega

      rw [if_pos h67] at hok
      have e67 : (c == 67) = true := beq_iff_eq.mpr h67
      clear h66 h67
      have hsp := Aside0.mk (fun W : World => upTo_calls x.sp W)
      have hsa := Aside0.mk (fun W : World => upTo_calls x.sa W)
      have hss := Aside0.mk (fun W : World => upTo_calls x.ss W)
      have hspec : Aside0 (specB x = (decide (x.sn.size ≤ 64) && upToB x.sp && upToB x.sa && upToB x.ss)) := ⟨rfl⟩
      by_cases hn : x.sn.size ≤ 64
      case neg =>
        have hbad : Aside0 (okLetter x l c = false) := ⟨by rw [hok.out, hspec.out, decide_eq_false hn]; simp⟩
        have hn2 : (64 : Int) < (x.sn.size : Int) := by omega
        clear hn good hok
        go_wp2_with (first
          | ((with_reducible refine gate_dst (N := 27) rfl ?_); refine next_ev (N := 27) rfl rfl rfl rfl HS.out.bi HC.out ?_; intro W1 hbi hgr; have HS_ := Aside0.mk (HS.out.next hbi hgr); clear HS hbi hgr; have HS := HS_; clear HS_)
          | ((with_reducible refine gate_dst (N := 31) rfl ?_); refine load_ev (N := 31) rfl rfl rfl (cs := x.cs (.slice A l.length k)) rfl HS.out.b1 Try.underlying45 rfl (by kernel_rfl) ?_))
        refine (hnum.out _).mono ?_
        rintro e W2 ⟨rfl, hb⟩
        replace HS := Aside0.mk (HS.out.below hb)
        clear hb
        go_wp2_with (first
          | ((with_reducible refine gate_dst (N := 37) rfl ?_); refine load_ev (N := 37) rfl rfl rfl (cs := x.cs (.slice A l.length k)) rfl HS.out.b1 Try.underlying45 rfl (by kernel_rfl) ?_))
        refine (htxt.out _).mono ?_
        rintro e W2 ⟨rfl, hb⟩
        replace HS := Aside0.mk (HS.out.below hb)
        clear hb
        go_wp2_with fail
        refine (hup.out _).mono ?_
        rintro e W2 ⟨rfl, hb⟩
        replace HS := Aside0.mk (HS.out.below hb)
        clear hb
        have c7 : W2.cell? ⟨g1, 7, none⟩ = some (.string x.sn) := (blk_cell HS.out.b1 7).trans rfl
        go_wp2_with fail
        go_ret
        exact ⟨by rw [bad.out hbad.out] <;> rfl, HS.out.bl⟩

      have hn1 : ¬ (64 : Int) < (x.sn.size : Int) := by omega
      rw [decide_eq_true hn] at hspec
      clear hn
      by_cases hq0 : upToB x.sp = true
      case neg =>
        have hq' : upToB x.sp = false := by simpa using hq0
        rw [hq'] at hsp
        have hbad : Aside0 (okLetter x l c = false) := ⟨by rw [hok.out, hspec.out, hq']; simp⟩
        clear hq0 hq' good hok
        go_wp2_with (first
          | ((with_reducible refine gate_dst (N := 27) rfl ?_); refine next_ev (N := 27) rfl rfl rfl rfl HS.out.bi HC.out ?_; intro W1 hbi hgr; have HS_ := Aside0.mk (HS.out.next hbi hgr); clear HS hbi hgr; have HS := HS_; clear HS_)
          | ((with_reducible refine gate_dst (N := 31) rfl ?_); refine load_ev (N := 31) rfl rfl rfl (cs := x.cs (.slice A l.length k)) rfl HS.out.b1 Try.underlying45 rfl (by kernel_rfl) ?_))
        refine (hnum.out _).mono ?_
        rintro e W2 ⟨rfl, hb⟩
        replace HS := Aside0.mk (HS.out.below hb)
        clear hb
        go_wp2_with (first
          | ((with_reducible refine gate_dst (N := 37) rfl ?_); refine load_ev (N := 37) rfl rfl rfl (cs := x.cs (.slice A l.length k)) rfl HS.out.b1 Try.underlying45 rfl (by kernel_rfl) ?_))
        refine (htxt.out _).mono ?_
        rintro e W2 ⟨rfl, hb⟩
        replace HS := Aside0.mk (HS.out.below hb)
        clear hb
        go_wp2_with fail
        refine (hup.out _).mono ?_
        rintro e W2 ⟨rfl, hb⟩
        replace HS := Aside0.mk (HS.out.below hb)
        clear hb
        have c7 : W2.cell? ⟨g1, 7, none⟩ = some (.string x.sn) := (blk_cell HS.out.b1 7).trans rfl
        have c8 : W2.cell? ⟨g1, 8, none⟩ = some (.int .i64 x.sp) := (blk_cell HS.out.b1 8).trans rfl
        go_wp2_with fail
        refine (hsp.out _).mono ?_
        rintro e W2 ⟨rfl, hb⟩
        replace HS := Aside0.mk (HS.out.below hb)
        clear hb
        clear c7 c8
        go_wp2_with fail
        go_ret
        exact ⟨by rw [bad.out hbad.out] <;> rfl, HS.out.bl⟩

      rw [hq0] at hspec hsp
      clear hq0
      by_cases hq1 : upToB x.sa = true
      case neg =>
        have hq' : upToB x.sa = false := by simpa using hq1
        rw [hq'] at hsa
        have hbad : Aside0 (okLetter x l c = false) := ⟨by rw [hok.out, hspec.out, hq']; simp⟩
        clear hq1 hq' good hok
        go_wp2_with (first
          | ((with_reducible refine gate_dst (N := 27) rfl ?_); refine next_ev (N := 27) rfl rfl rfl rfl HS.out.bi HC.out ?_; intro W1 hbi hgr; have HS_ := Aside0.mk (HS.out.next hbi hgr); clear HS hbi hgr; have HS := HS_; clear HS_)
          | ((with_reducible refine gate_dst (N := 31) rfl ?_); refine load_ev (N := 31) rfl rfl rfl (cs := x.cs (.slice A l.length k)) rfl HS.out.b1 Try.underlying45 rfl (by kernel_rfl) ?_))
        refine (hnum.out _).mono ?_
        rintro e W2 ⟨rfl, hb⟩
        replace HS := Aside0.mk (HS.out.below hb)
        clear hb
        go_wp2_with (first
          | ((with_reducible refine gate_dst (N := 37) rfl ?_); refine load_ev (N := 37) rfl rfl rfl (cs := x.cs (.slice A l.length k)) rfl HS.out.b1 Try.underlying45 rfl (by kernel_rfl) ?_))
        refine (htxt.out _).mono ?_
        rintro e W2 ⟨rfl, hb⟩
        replace HS := Aside0.mk (HS.out.below hb)
        clear hb
        go_wp2_with fail
        refine (hup.out _).mono ?_
        rintro e W2 ⟨rfl, hb⟩
        replace HS := Aside0.mk (HS.out.below hb)
        clear hb
        have c7 : W2.cell? ⟨g1, 7, none⟩ = some (.string x.sn) := (blk_cell HS.out.b1 7).trans rfl
        have c8 : W2.cell? ⟨g1, 8, none⟩ = some (.int .i64 x.sp) := (blk_cell HS.out.b1 8).trans rfl
        go_wp2_with fail
        refine (hsp.out _).mono ?_
        rintro e W2 ⟨rfl, hb⟩
        replace HS := Aside0.mk (HS.out.below hb)
        clear hb
        clear c7 c8
        have c9 : W2.cell? ⟨g1, 9, none⟩ = some (.int .i64 x.sa) := (blk_cell HS.out.b1 9).trans rfl
        go_wp2_with fail
        refine (hsa.out _).mono ?_
        rintro e W2 ⟨rfl, hb⟩
        replace HS := Aside0.mk (HS.out.below hb)
        clear hb
        clear c9
        go_wp2_with fail
        go_ret
        exact ⟨by rw [bad.out hbad.out] <;> rfl, HS.out.bl⟩

      rw [hq1] at hspec hsa
      clear hq1
      by_cases hq2 : upToB x.ss = true
      case neg =>
        have hq' : upToB x.ss = false := by simpa using hq2
        rw [hq'] at hss
        have hbad : Aside0 (okLetter x l c = false) := ⟨by rw [hok.out, hspec.out, hq']; simp⟩
        clear hq2 hq' good hok
        go_wp2_with (first
          | ((with_reducible refine gate_dst (N := 27) rfl ?_); refine next_ev (N := 27) rfl rfl rfl rfl HS.out.bi HC.out ?_; intro W1 hbi hgr; have HS_ := Aside0.mk (HS.out.next hbi hgr); clear HS hbi hgr; have HS := HS_; clear HS_)
          | ((with_reducible refine gate_dst (N := 31) rfl ?_); refine load_ev (N := 31) rfl rfl rfl (cs := x.cs (.slice A l.length k)) rfl HS.out.b1 Try.underlying45 rfl (by kernel_rfl) ?_))
        refine (hnum.out _).mono ?_
        rintro e W2 ⟨rfl, hb⟩
        replace HS := Aside0.mk (HS.out.below hb)
        clear hb
        go_wp2_with (first
          | ((with_reducible refine gate_dst (N := 37) rfl ?_); refine load_ev (N := 37) rfl rfl rfl (cs := x.cs (.slice A l.length k)) rfl HS.out.b1 Try.underlying45 rfl (by kernel_rfl) ?_))
        refine (htxt.out _).mono ?_
        rintro e W2 ⟨rfl, hb⟩
        replace HS := Aside0.mk (HS.out.below hb)
        clear hb
        go_wp2_with fail
        refine (hup.out _).mono ?_
        rintro e W2 ⟨rfl, hb⟩
        replace HS := Aside0.mk (HS.out.below hb)
        clear hb
        have c7 : W2.cell? ⟨g1, 7, none⟩ = some (.string x.sn) := (blk_cell HS.out.b1 7).trans rfl
        have c8 : W2.cell? ⟨g1, 8, none⟩ = some (.int .i64 x.sp) := (blk_cell HS.out.b1 8).trans rfl
        go_wp2_with fail
        refine (hsp.out _).mono ?_
        rintro e W2 ⟨rfl, hb⟩
        replace HS := Aside0.mk (HS.out.below hb)
        clear hb
        clear c7 c8
        have c9 : W2.cell? ⟨g1, 9, none⟩ = some (.int .i64 x.sa) := (blk_cell HS.out.b1 9).trans rfl
        go_wp2_with fail
        refine (hsa.out _).mono ?_
        rintro e W2 ⟨rfl, hb⟩
        replace HS := Aside0.mk (HS.out.below hb)
        clear hb
        clear c9
        have c10 : W2.cell? ⟨g1, 10, none⟩ = some (.int .i64 x.ss) := (blk_cell HS.out.b1 10).trans rfl
        go_wp2_with fail
        refine (hss.out _).mono ?_
        rintro e W2 ⟨rfl, hb⟩
        replace HS := Aside0.mk (HS.out.below hb)
        clear hb
        clear c10
        go_wp2_with fail
        go_ret
        exact ⟨by rw [bad.out hbad.out] <;> rfl, HS.out.bl⟩

      rw [hq2] at hspec hss
      clear hq2
      have hgood : Aside0 (okLetter x l c = true) := ⟨by rw [hok.out, hspec.out]; rfl⟩
      clear bad hok
      go_wp2_with (first
        | ((with_reducible refine gate_dst (N := 27) rfl ?_); refine next_ev (N := 27) rfl rfl rfl rfl HS.out.bi HC.out ?_; intro W1 hbi hgr; have HS_ := Aside0.mk (HS.out.next hbi hgr); clear HS hbi hgr; have HS := HS_; clear HS_)
        | ((with_reducible refine gate_dst (N := 31) rfl ?_); refine load_ev (N := 31) rfl rfl rfl (cs := x.cs (.slice A l.length k)) rfl HS.out.b1 Try.underlying45 rfl (by kernel_rfl) ?_))
      refine (hnum.out _).mono ?_
      rintro e W2 ⟨rfl, hb⟩
      replace HS := Aside0.mk (HS.out.below hb)
      clear hb
      go_wp2_with (first
        | ((with_reducible refine gate_dst (N := 37) rfl ?_); refine load_ev (N := 37) rfl rfl rfl (cs := x.cs (.slice A l.length k)) rfl HS.out.b1 Try.underlying45 rfl (by kernel_rfl) ?_))
      refine (htxt.out _).mono ?_
      rintro e W2 ⟨rfl, hb⟩
      replace HS := Aside0.mk (HS.out.below hb)
      clear hb
      go_wp2_with fail
      refine (hup.out _).mono ?_
      rintro e W2 ⟨rfl, hb⟩
      replace HS := Aside0.mk (HS.out.below hb)
      clear hb
      have c7 : W2.cell? ⟨g1, 7, none⟩ = some (.string x.sn) := (blk_cell HS.out.b1 7).trans rfl
      have c8 : W2.cell? ⟨g1, 8, none⟩ = some (.int .i64 x.sp) := (blk_cell HS.out.b1 8).trans rfl
      go_wp2_with fail
      refine (hsp.out _).mono ?_
      rintro e W2 ⟨rfl, hb⟩
      replace HS := Aside0.mk (HS.out.below hb)
      clear hb
      clear c7 c8
      have c9 : W2.cell? ⟨g1, 9, none⟩ = some (.int .i64 x.sa) := (blk_cell HS.out.b1 9).trans rfl
      go_wp2_with fail
      refine (hsa.out _).mono ?_
      rintro e W2 ⟨rfl, hb⟩
      replace HS := Aside0.mk (HS.out.below hb)
      clear hb
      clear c9
      have c10 : W2.cell? ⟨g1, 10, none⟩ = some (.int .i64 x.ss) := (blk_cell HS.out.b1 10).trans rfl
      go_wp2_with fail
      refine (hss.out _).mono ?_
      rintro e W2 ⟨rfl, hb⟩
      replace HS := Aside0.mk (HS.out.below hb)
      clear hb
      clear c10
      go_wp2_with fail
      go_roundw
      case rel => exact ⟨pos + 1, hlt.out, HS, ⟨good.out hgood.out⟩⟩
      case measure => rw [iterPos_of HS.out.bi, hip.out]; have := hlt.out; omega

    · have hpos : Aside0 ((lets s).take pos = lets s) := ⟨lets_all s pos hlt0⟩
      have hend := fun ty => Lib.run_next_end_at (P := Try.prog) wr gi s pos ty HS.out.bi hlt0
      rw [hpos.out] at HY
      have hres : Aside0 (res = true) := ⟨by rw [HR.out, HY.out]; rfl⟩
      clear hpos hlt0 hle
      go_wp2_with fail
      go_ret
      exact ⟨by rw [hres.out] <;> rfl, HS.out.bl⟩
end Go.Proofs.Ytlgihjhlkpmpnaa.Wire
