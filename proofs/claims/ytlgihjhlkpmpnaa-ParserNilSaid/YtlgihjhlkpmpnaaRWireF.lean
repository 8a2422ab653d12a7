import Derived.Test.YtlgihjhlkpmpnaaRWireE
namespace Go.Proofs.Ytlgihjhlkpmpnaa.Wire
set_option linter.unusedVariables false
set_option linter.unusedSimpArgs false
open Go.RowKit Go.Proofs.YtlgihjhlkpmpnaaW.PrintWords Go.Proofs.YtlgihjhlkpmpnaaW.PrintLast Go.Proofs.YtlgihjhlkpmpnaaW.PrintMore Go.Proofs.Ytlgihjhlkpmpnaa.Hand Go.Proofs.Ytlgihjhlkpmpnaa.PWire

def chainS (n : Int) : ByteArray := strOfNums (chainF 10 n)
theorem chainF_len : ∀ (k : Nat) (v : Int), (chainF k v).length ≤ k
  | 0, _ => by simp [chainF]
  | k + 1, v => by
    unfold chainF
    split
    · simp
    · have := chainF_len k (v / 128)
      simp
      exact this
theorem strOfNums_size (l : List Int) : (strOfNums l).size = l.length := by simp [strOfNums, ByteArray.size]
theorem chainS_size (n : Int) : (chainS n).size ≤ 10 := by unfold chainS; rw [strOfNums_size]; exact chainF_len 10 n
theorem chain_some (n : Int) (h0 : 0 ≤ n) (h1 : n ≤ 1099511627776) : nums_Chain.f n = some (chainS n) := by
  unfold nums_Chain.f chainS u64top
  rw [if_pos ⟨h0, by omega⟩]
theorem u64_same (n : Int) (h0 : 0 ≤ n) (h1 : n ≤ 1099511627776) : IntKind.u64.wrap n = n := u64_fits n h0 (by omega)
theorem chain_calls (n : Int) (W : World) (h0 : 0 ≤ n) (h1 : n ≤ 1099511627776) : Calls Try.prog 85 #[.int .i64 n] W fun e w' => e = .returned (.string (chainS n)) ∧ Below W.heap.size W w' :=
  wire_chain.calls n (chainS n) W (by unfold wire_chain.f; rw [u64_same n h0 h1, chain_some n h0 h1]; rfl)
def textS (s : ByteArray) : ByteArray := chainS (s.size : Int) ++ s
theorem textS_size (s : ByteArray) : (textS s).size ≤ 10 + s.size := by
  unfold textS
  rw [ByteArray.size_append]
  have := chainS_size (s.size : Int)
  omega
theorem text_some (s : ByteArray) (h : s.size ≤ 1000000) : nums_Text.f s = some (textS s) := by
  unfold nums_Text.f textS
  rw [u64_same _ (by omega) (by omega), chain_some _ (by omega) (by omega)]
  have := chainS_size (s.size : Int)
  simp only [Option.bind_some]
  rw [if_pos (by omega)]
theorem textS_calls (s : ByteArray) (W : World) (h : s.size ≤ 1000000) : Calls Try.prog 86 #[.string s] W fun e w' => e = .returned (.string (textS s)) ∧ Below W.heap.size W w' := nums_Text.calls s (textS s) W (text_some s h)
def flagS (b : Bool) : ByteArray := chainS (if b then 1 else 0)
theorem flagS_calls (b : Bool) (W : World) : Calls Try.prog 87 #[.bool b] W fun e w' => e = .returned (.string (flagS b)) ∧ Below W.heap.size W w' := wire_flag.calls b (flagS b) W (by
  unfold wire_flag.f wire_chain.f flagS
  cases b
  · rw [if_neg (by simp), u64_same 0 (by omega) (by omega), chain_some 0 (by omega) (by omega)]; rfl
  · rw [if_pos rfl, u64_same 1 (by omega) (by omega), chain_some 1 (by omega) (by omega)]; rfl)
def pairS (p : S102) : ByteArray := (flagS p.f2 ++ textS p.f0) ++ textS p.f1
def pairsS (l : List S102) : ByteArray := l.foldl (fun o p => o ++ pairS p) ⟨#[]⟩
def specS (x : Rq) : ByteArray := (((textS x.sn ++ chainS x.sp) ++ chainS x.sa) ++ chainS x.ss) ++ flagS x.sc
/-- a letter's bytes -/
def letterS (x : Rq) (l : List S102) (c : Int) : ByteArray :=
  if (numF x c).2 = true then chainS (numF x c).1 else if (textF x c).2 = true then textS (textF x c).1 else if c = 66 then chainS (l.length : Int) ++ pairsS l else if c = 67 then specS x else ⟨#[]⟩
def bodyS (x : Rq) (l : List S102) (ls : List Int) : ByteArray := ls.foldl (fun o c => o ++ letterS x l c) ⟨#[]⟩
theorem bodyS_snoc (x : Rq) (l : List S102) (ls : List Int) (c : Int) : bodyS x l (ls ++ [c]) = bodyS x l ls ++ letterS x l c := by simp [bodyS]
theorem fold_app {α : Type} (f : α → ByteArray) (l : List α) : ∀ o : ByteArray, l.foldl (fun o p => o ++ f p) o = o ++ l.foldl (fun o p => o ++ f p) ⟨#[]⟩ := by
  induction l with
  | nil => intro o; simp; exact (ByteArray.append_empty).symm
  | cons a l ih =>
    intro o
    simp only [List.foldl_cons]
    rw [ih (o ++ f a), ih (⟨#[]⟩ ++ f a), ByteArray.append_assoc]
    congr 1
theorem pairsS_take (l : List S102) (i : Nat) (h : i < l.length) : pairsS (l.take (i + 1)) = pairsS (l.take i) ++ pairS l[i] := by
  unfold pairsS
  rw [List.take_succ_eq_append_getElem h, List.foldl_append]
  rfl
theorem pairS_size {p : S102} (h : pairB p = true) : (pairS p).size ≤ 540 := by
  unfold pairB at h
  simp only [Bool.and_eq_true, decide_eq_true_eq] at h
  unfold pairS flagS
  rw [ByteArray.size_append, ByteArray.size_append]
  have h1 := chainS_size (if p.f2 then 1 else 0)
  have h2 := textS_size p.f0
  have h3 := textS_size p.f1
  omega
theorem pairsS_size : ∀ (l : List S102), l.all pairB = true → (pairsS l).size ≤ 540 * l.length
  | [], _ => Nat.zero_le _
  | p :: l, h => by
    rw [List.all_cons, Bool.and_eq_true] at h
    have h1 := pairsS_size l h.2
    have h2 := pairS_size h.1
    unfold pairsS
    rw [List.foldl_cons, fold_app, ByteArray.size_append, ByteArray.size_append]
    simp only [List.length_cons]
    unfold pairsS at h1
    have : (⟨#[]⟩ : ByteArray).size = 0 := rfl
    omega
structure Sf (w : World) (x : Rq) (xu : Value) (g1 gi : Nat) (s : ByteArray) (pos : Nat) (gp : Nat) (pc : Array Value) (W : World) : Prop where
  m : Sm w x xu g1 gi s pos W
  bp : W.heap[gp]? = some (.cells pc 102 (0, 0))
theorem Sf.below {w : World} {x : Rq} {xu : Value} {g1 gi : Nat} {s : ByteArray} {pos gp : Nat} {pc : Array Value} {W W' : World} (h : Sf w x xu g1 gi s pos gp pc W) (hb : Below W.heap.size W W') : Sf w x xu g1 gi s pos gp pc W' := ⟨h.m.below hb, blk_below h.bp hb⟩
theorem letter_size {x : Rq} {l : List S102} {c : Int} (h : okLetter x l c = true) : (letterS x l c).size ≤ 9000 := by
  unfold okLetter at h
  simp only [Bool.and_eq_true, decide_eq_true_eq] at h
  obtain ⟨⟨⟨h1, h2⟩, h3⟩, h4⟩ := h
  unfold letterS
  split
  · have := chainS_size (numF x c).1; omega
  split
  · have := textS_size (textF x c).1; omega
  split
  · rename_i h66
    rw [if_pos h66] at h3
    unfold pairsB at h3
    simp only [Bool.and_eq_true, decide_eq_true_eq] at h3
    have h5 := pairsS_size l h3.2
    have h6 := chainS_size (l.length : Int)
    rw [ByteArray.size_append]
    omega
  split
  · rename_i h67
    rw [if_pos h67] at h4
    unfold specB at h4
    simp only [Bool.and_eq_true, decide_eq_true_eq] at h4
    unfold specS flagS
    rw [ByteArray.size_append, ByteArray.size_append, ByteArray.size_append, ByteArray.size_append]
    have h5 := textS_size x.sn
    have h6 := chainS_size x.sp
    have h7 := chainS_size x.sa
    have h8 := chainS_size x.ss
    have h9 := chainS_size (if x.sc then 1 else 0)
    omega
  · show (0 : Nat) ≤ 9000
    omega
theorem all_at {ls : List Int} {p : Int → Bool} (h : ls.all p = true) {pos : Nat} {c : Int} (hl : ls.take (pos + 1) = ls.take pos ++ [c]) : p c = true := by
  rw [← List.take_append_drop (pos + 1) ls, hl] at h
  rw [List.all_append, List.all_append] at h
  simp only [Bool.and_eq_true] at h
  simpa using h.1.2
theorem upToB_le {n : Int} (h : upToB n = true) : 0 ≤ n ∧ n ≤ 1099511627776 := by
  unfold upToB at h
  simpa using h

set_option maxHeartbeats 16000000 in
set_option maxRecDepth 100000 in
theorem fields_calls (x : Rq) (A : Option Addr) (k : Nat) (l : List S102) (w : World) (hp : Prs w A l.length k l) (hk : l.length ≤ k) (hm : mayB x l = true) :
    Calls Try.prog 56 #[.agg #[.int .i64 x.id, .int .i64 x.kind, .int .i64 x.label, .string x.pt, .int .i64 x.pp, .string x.tt, .int .i64 x.tp, .string x.sn, .int .i64 x.sp, .int .i64 x.sa, .int .i64 x.ss, .bool x.sc, .string x.grp, .string x.mem, .int .i64 x.gen, .int .i64 x.off, .int .i64 x.most, .int .i64 x.prod, .int .i64 x.seq, .slice A l.length k]] w fun e w' => e = .returned (.string (bodyS x l (lets (formF x.kind)))) ∧ Below w.heap.size w w' := by
  have HP := Aside0.mk hp
  have HK := Aside0.mk hk
  have hasc := Aside0.mk (formF_ascii x.kind)
  have hform := Aside0.mk (fun W : World => form_calls x.kind W)
  have hall : Aside0 ((lets (formF x.kind)).all (okLetter x l) = true) := ⟨by
    unfold mayB at hm
    simp only [Bool.and_eq_true] at hm
    exact hm.2⟩
  have hs6 : (formF x.kind).size ≤ 6 := formF_cases x.kind (Q := fun s => s.size ≤ 6) (by decide)
  generalize formF x.kind = s at *
  clear hp hk hm
  go_enter Try.func56, Try.ntmps56
  go_wp2_with (first
    | ((with_reducible refine gate_dst (N := 1) rfl ?_); refine box_event rfl (N := 1) rfl (cs := #[.int .i64 x.id, .int .i64 x.kind, .int .i64 x.label, .string x.pt, .int .i64 x.pp, .string x.tt, .int .i64 x.tp, .string x.sn, .int .i64 x.sp, .int .i64 x.sa, .int .i64 x.ss, .bool x.sc, .string x.grp, .string x.mem, .int .i64 x.gen, .int .i64 x.off, .int .i64 x.most, .int .i64 x.prod, .int .i64 x.seq, .slice A l.length k]) (t := 45) ?hr ?_; (case hr => first | (go_simp; done) | (go_simp; rfl)); intro g1 hg1 w1 hbx hbl; have X1 := Aside0.mk hbx; have L1 := Aside0.mk hbl; clear hbx hbl hg1; have c1 : w1.cell? ⟨g1, 1, none⟩ = some (.int .i64 x.kind) := (blk_cell X1.out 1).trans rfl))
  refine (hform.out _).mono ?_
  rintro e w3 ⟨rfl, hb⟩
  have X3 := Aside0.mk (blk_below X1.out hb)
  have L3 := Aside0.mk (below_step L1.out hb)
  clear hb X1 L1 c1
  go_wp2_with ((with_reducible refine gate_dst (N := 15) rfl ?_); refine Aside0.out ?_)
  constructor
  refine range_ev (N := 15) rfl rfl (s := s) (by first | (go_simp; done) | (go_simp; rfl)) ?_
  intro gi hgi w6 hbi hbl
  have HS : Aside0 (Sm w x (.slice A l.length k) g1 gi s 0 w6) := ⟨⟨blk_below X3.out hbl, hbi, below_step L3.out hbl, by rw [hgi]; exact L3.out.size⟩⟩
  clear X3 L3 hbi hbl hgi
  go_wp2_with fail
  go_frame
  go_loopw [3, 53] (fun ov _ wr => ∃ (pos : Nat) (out : ByteArray), ov = .string out ∧ pos ≤ s.size ∧ out.size ≤ 9000 * pos ∧ Aside0 (Sm w x (.slice A l.length k) g1 gi s pos wr) ∧ Aside0 (out = bodyS x l ((lets s).take pos))) (fun _ _ wr => s.size - wr.iterPos gi)
  case atStart => exact ⟨0, _, rfl, Nat.zero_le _, Nat.le_refl _, HS, ⟨rfl⟩⟩
  case round =>
    clear HS
    obtain ⟨pos, out, rfl, hle, hoz, HS, HY⟩ := hrel
    by_cases hlt0 : pos < s.size
    · have hlt := Aside0.mk hlt0
      have hip := Aside0.mk (iterPos_of HS.out.bi)
      obtain ⟨c, hc⟩ : ∃ c : Int, ((s[pos]'hlt0).toNat : Int) = c := ⟨_, rfl⟩
      have HC : Aside0 (∃ h0 : pos < s.size, (s[pos]'h0).toNat < 128 ∧ ((s[pos]'h0).toNat : Int) = c) := ⟨hlt0, hasc.out pos hlt0, hc⟩
      have HLA := Aside0.mk (lets_at s pos hlt0)
      rw [hc] at HLA
      have hozz : out.size ≤ 54000 := by omega
      have hoz := Aside0.mk hoz
      have hokc := all_at hall.out HLA.out
      have hlsz := letter_size hokc
      have hnext : Aside0 (∀ t : ByteArray, t = letterS x l c → out ++ t = bodyS x l ((lets s).take (pos + 1)) ∧ (out ++ t).size ≤ 9000 * (pos + 1)) := ⟨fun t ht => ⟨by rw [ht, HLA.out, bodyS_snoc, ← HY.out], by rw [ht, ByteArray.size_append]; have := hoz.out; omega⟩⟩
      clear hc hlt0 hle HY hs6
      have hnum := Aside0.mk (fun W : World => number_calls x A l.length k c W)
      have htxt := Aside0.mk (fun W : World => text_calls x A l.length k c W)
      have hlet : Aside0 (letterS x l c = (if (numF x c).2 = true then chainS (numF x c).1 else if (textF x c).2 = true then textS (textF x c).1 else if c = 66 then chainS (l.length : Int) ++ pairsS l else if c = 67 then specS x else ⟨#[]⟩)) := ⟨rfl⟩
      unfold okLetter at hokc
      simp only [Bool.and_eq_true, decide_eq_true_eq] at hokc
      obtain ⟨⟨⟨ok1, ok2⟩, ok3⟩, ok4⟩ := hokc
      by_cases hN : (numF x c).2 = true
      · obtain ⟨hT, n66, n67⟩ := numF_excl hN
        have e66 : (c == 66) = false := beq_eq_false_iff_ne.mpr n66
        have e67 : (c == 67) = false := beq_eq_false_iff_ne.mpr n67
        rw [if_pos hN] at hlet
        rw [hN] at hnum
        rw [hT] at htxt
        obtain ⟨q1, q2⟩ := upToB_le ok1
        have hch := Aside0.mk (fun W : World => chain_calls (numF x c).1 W q1 q2)
        clear n66 n67 hN hT ok1 ok2 ok3 ok4 q1 q2
        generalize (textF x c).1 = tv at *
        generalize (numF x c).1 = nv at *
        have hcz := chainS_size nv
        generalize chainS nv = cs at *
        have hadd : out.size + cs.size ≤ 9223372036854775807 := by omega
        clear hlsz
        go_wp2_with (first
          | ((with_reducible refine gate_dst (N := 16) rfl ?_); refine next_ev (N := 16) rfl rfl rfl rfl HS.out.bi HC.out ?_; intro W1 hbi hgr; have HS_ := Aside0.mk (HS.out.next hbi hgr); clear HS hbi hgr; have HS := HS_; clear HS_)
          | ((with_reducible refine gate_dst (N := 20) rfl ?_); refine load_ev (N := 20) rfl rfl rfl (cs := x.cs (.slice A l.length k)) rfl HS.out.b1 Try.underlying45 rfl (by kernel_rfl) ?_))
        refine (hnum.out _).mono ?_
        rintro e W2 ⟨rfl, hb⟩
        replace HS := Aside0.mk (HS.out.below hb)
        clear hb
        go_wp2_with fail
        refine (hch.out _).mono ?_
        rintro e W2 ⟨rfl, hb⟩
        replace HS := Aside0.mk (HS.out.below hb)
        clear hb
        go_wp2_with (first
          | ((with_reducible refine gate_dst (N := 31) rfl ?_); refine load_ev (N := 31) rfl rfl rfl (cs := x.cs (.slice A l.length k)) rfl HS.out.b1 Try.underlying45 rfl (by kernel_rfl) ?_))
        refine (htxt.out _).mono ?_
        rintro e W2 ⟨rfl, hb⟩
        replace HS := Aside0.mk (HS.out.below hb)
        clear hb
        go_wp2_with fail
        obtain ⟨hY2, hz2⟩ := hnext.out (cs) (hlet.out.symm)
        have HY2 := Aside0.mk hY2
        clear hY2
        go_roundw
        case rel => exact ⟨pos + 1, _, rfl, hlt.out, hz2, HS, HY2⟩
        case measure => rw [iterPos_of HS.out.bi, hip.out]; have := hlt.out; omega

      by_cases hT : (textF x c).2 = true
      · obtain ⟨hN', n66, n67⟩ := textF_excl hT
        have e66 : (c == 66) = false := beq_eq_false_iff_ne.mpr n66
        have e67 : (c == 67) = false := beq_eq_false_iff_ne.mpr n67
        rw [if_neg hN, if_pos hT] at hlet
        rw [hN'] at hnum
        rw [hT] at htxt
        have hch := Aside0.mk (fun W : World => textS_calls (textF x c).1 W (by omega))
        have hcz := textS_size (textF x c).1
        clear n66 n67 hN hT hN' ok1 ok3 ok4
        generalize (numF x c).1 = nv at *
        generalize (textF x c).1 = tv at *
        generalize textS tv = cs at *
        have hadd : out.size + cs.size ≤ 9223372036854775807 := by omega
        clear hlsz ok2
        go_wp2_with (first
          | ((with_reducible refine gate_dst (N := 16) rfl ?_); refine next_ev (N := 16) rfl rfl rfl rfl HS.out.bi HC.out ?_; intro W1 hbi hgr; have HS_ := Aside0.mk (HS.out.next hbi hgr); clear HS hbi hgr; have HS := HS_; clear HS_)
          | ((with_reducible refine gate_dst (N := 20) rfl ?_); refine load_ev (N := 20) rfl rfl rfl (cs := x.cs (.slice A l.length k)) rfl HS.out.b1 Try.underlying45 rfl (by kernel_rfl) ?_))
        refine (hnum.out _).mono ?_
        rintro e W2 ⟨rfl, hb⟩
        replace HS := Aside0.mk (HS.out.below hb)
        clear hb
        go_wp2_with (first
          | ((with_reducible refine gate_dst (N := 31) rfl ?_); refine load_ev (N := 31) rfl rfl rfl (cs := x.cs (.slice A l.length k)) rfl HS.out.b1 Try.underlying45 rfl (by kernel_rfl) ?_))
        refine (htxt.out _).mono ?_
        rintro e W2 ⟨rfl, hb⟩
        replace HS := Aside0.mk (HS.out.below hb)
        clear hb
        go_wp2_with fail
        refine (hch.out _).mono ?_
        rintro e W2 ⟨rfl, hb⟩
        replace HS := Aside0.mk (HS.out.below hb)
        clear hb
        go_wp2_with fail
        obtain ⟨hY2, hz2⟩ := hnext.out (cs) (hlet.out.symm)
        have HY2 := Aside0.mk hY2
        clear hY2
        go_roundw
        case rel => exact ⟨pos + 1, _, rfl, hlt.out, hz2, HS, HY2⟩
        case measure => rw [iterPos_of HS.out.bi, hip.out]; have := hlt.out; omega

      have hN' : (numF x c).2 = false := by simpa using hN
      have hT' : (textF x c).2 = false := by simpa using hT
      rw [if_neg hN, if_neg hT] at hlet
      rw [hN'] at hnum
      rw [hT'] at htxt
      clear hN' hT' hN hT ok1 ok2
      generalize (numF x c).1 = nv at hnum
      generalize (textF x c).1 = tv at htxt
      by_cases h66 : c = 66
      · rw [if_pos h66] at hlet ok3
        have e66 : (c == 66) = true := beq_iff_eq.mpr h66
        have e67 : (c == 67) = false := beq_eq_false_iff_ne.mpr (by omega)
        clear h66 ok4
        unfold pairsB at ok3
        simp only [Bool.and_eq_true, decide_eq_true_eq] at ok3
        obtain ⟨l16, lall⟩ := ok3
        have lall := Aside0.mk lall
        have hch := Aside0.mk (fun W : World => chain_calls (l.length : Int) W (by omega) (by omega))
        have hcz := chainS_size (l.length : Int)
        generalize hcs : chainS (l.length : Int) = cs at *
        clear hcs
        have hadd : out.size + cs.size ≤ 9223372036854775807 := by omega
        clear hlsz
        go_wp2_with (first
          | ((with_reducible refine gate_dst (N := 16) rfl ?_); refine next_ev (N := 16) rfl rfl rfl rfl HS.out.bi HC.out ?_; intro W1 hbi hgr; have HS_ := Aside0.mk (HS.out.next hbi hgr); clear HS hbi hgr; have HS := HS_; clear HS_)
          | ((with_reducible refine gate_dst (N := 20) rfl ?_); refine load_ev (N := 20) rfl rfl rfl (cs := x.cs (.slice A l.length k)) rfl HS.out.b1 Try.underlying45 rfl (by kernel_rfl) ?_))
        refine (hnum.out _).mono ?_
        rintro e W2 ⟨rfl, hb⟩
        replace HS := Aside0.mk (HS.out.below hb)
        clear hb
        go_wp2_with (first
          | ((with_reducible refine gate_dst (N := 31) rfl ?_); refine load_ev (N := 31) rfl rfl rfl (cs := x.cs (.slice A l.length k)) rfl HS.out.b1 Try.underlying45 rfl (by kernel_rfl) ?_))
        refine (htxt.out _).mono ?_
        rintro e W2 ⟨rfl, hb⟩
        replace HS := Aside0.mk (HS.out.below hb)
        clear hb
        have c19 : W2.cell? ⟨g1, 19, none⟩ = some (.slice A l.length k) := (blk_cell HS.out.b1 19).trans rfl
        go_wp2_with fail
        refine (hch.out _).mono ?_
        rintro e W2 ⟨rfl, hb⟩
        replace HS := Aside0.mk (HS.out.below hb)
        clear hb
        clear c19
        have c19 : W2.cell? ⟨g1, 19, none⟩ = some (.slice A l.length k) := (blk_cell HS.out.b1 19).trans rfl
        go_wp2_with fail
        clear c19 hadd
        have HZ : Aside0 (((out ++ cs).size) = out.size + cs.size) := ⟨ByteArray.size_append⟩
        have ho1 : (out ++ cs).size ≤ 60000 := by rw [HZ.out]; omega
        obtain ⟨o1, ho1e⟩ : ∃ o1, out ++ cs = o1 := ⟨_, rfl⟩
        rw [ho1e] at ho1 ⊢
        have ho1e := Aside0.mk ho1e
        clear HZ
        obtain ⟨wo, rfl⟩ : ∃ wo : World, wo = wr := ⟨_, rfl⟩

        go_loopw [3, 53] (fun ov iv wr => ∃ (i : Nat) (o2 : ByteArray), ov = .string o2 ∧ iv = .int .i64 i ∧ i ≤ l.length ∧ o2.size ≤ 60000 + 540 * i ∧ Aside0 (o2 = o1 ++ pairsS (l.take i)) ∧ Aside0 (Sm w x (.slice A l.length k) g1 gi s (pos + 1) wr)) (fun _ iv _ => l.length - (intOf iv).toNat)
        case atStart => exact ⟨0, _, rfl, rfl, Nat.zero_le _, by omega, ⟨by simp [pairsS]; exact ByteArray.append_empty.symm⟩, HS⟩
        case round =>
          clear HS
          obtain ⟨i, o2, rfl, rfl, hil, ho2, HO, HS⟩ := hrel
          by_cases hli : i < l.length
          · obtain ⟨ad, hA, q0, q1, q2⟩ := at_T102 (HP.out.below HS.out.bl).c (i : Int) (by omega) (by omega)
            subst hA
            have hrd : rd_T102 l (i : Int) = l[i] := by
              unfold rd_T102
              rw [Int.toNat_natCast, List.getD_eq_getElem?_getD, List.getElem?_eq_getElem hli]
              rfl
            rw [hrd] at q0 q1 q2
            simp only [Int.toNat_natCast] at q0 q1 q2
            have hpb : pairB l[i] = true := List.all_eq_true.mp lall.out _ (List.getElem_mem hli)
            have hps := pairS_size hpb
            have HT := Aside0.mk (pairsS_take l i hli)
            have HPS : Aside0 (pairS l[i] = (flagS l[i].f2 ++ textS l[i].f0) ++ textS l[i].f1) := ⟨rfl⟩
            unfold pairB at hpb
            simp only [Bool.and_eq_true, decide_eq_true_eq] at hpb
            obtain ⟨hb0, hb1⟩ := hpb
            clear hrd
            generalize hpi : l[i] = pr at *
            clear hpi
            have hfl := Aside0.mk (fun W : World => flagS_calls pr.f2 W)
            have htk := Aside0.mk (fun W : World => textS_calls pr.f0 W (by omega))
            have htv := Aside0.mk (fun W : World => textS_calls pr.f1 W (by omega))
            have z1 : (flagS pr.f2).size ≤ 10 := chainS_size _
            have z2 := textS_size pr.f0
            have z3 := textS_size pr.f1
            generalize flagS pr.f2 = tf at *
            generalize textS pr.f0 = tk at *
            generalize textS pr.f1 = tv at *
            obtain ⟨key, hkey⟩ : ∃ key, pr.f0 = key := ⟨_, rfl⟩
            obtain ⟨val, hval⟩ : ∃ val, pr.f1 = val := ⟨_, rfl⟩
            obtain ⟨gone, hgone⟩ : ∃ gone, pr.f2 = gone := ⟨_, rfl⟩
            rw [hkey] at q0 htk hb0 z2
            rw [hval] at q1 htv hb1 z3
            rw [hgone] at q2 hfl
            clear hkey hval hgone
            have a1 : tf.size + tk.size ≤ 9223372036854775807 := by omega
            have a2 : tf.size + tk.size + tv.size ≤ 9223372036854775807 := by omega
            have a3 : o2.size + (tf.size + tk.size + tv.size) ≤ 9223372036854775807 := by omega
            clear z1 z2 z3 hb0 hb1
            have n1 : ¬ 9223372036854775807 < tf.size + tk.size := by omega
            have n2 : ¬ 9223372036854775807 < tf.size + tk.size + tv.size := by omega
            have n3 : ¬ 9223372036854775807 < o2.size + (tf.size + tk.size + tv.size) := by omega
            have n2' : ¬ 9223372036854775807 < (tf ++ tk).size + tv.size := by rw [ByteArray.size_append]; exact n2
            have n3' : ¬ 9223372036854775807 < o2.size + (tf ++ tk ++ tv).size := by rw [ByteArray.size_append, ByteArray.size_append]; exact n3
            clear a1 a2 a3
            go_upto_region 17 with fail
            have hal := below_alloc (Below.refl wr.heap.size wr) (.cells #[.string key, .string val, .bool gone] 102)
            have HF : Aside0 (Sf w x (.slice (some ad) l.length k) g1 gi s (pos + 1) wr.heap.size #[.string key, .string val, .bool gone] (wr.alloc (.cells #[.string key, .string val, .bool gone] 102)).drew) := ⟨⟨HS.out.below (below_drew hal), blk_new wr _⟩⟩
            clear hal HS q0 q1 q2
            generalize wr.alloc (.cells #[.string key, .string val, .bool gone] 102) = W1 at *
            generalize wr.heap.size = gp at *
            have hS : ∀ W : World, Sf w x (.slice (some ad) l.length k) g1 gi s (pos + 1) gp #[.string key, .string val, .bool gone] W → W.cell? ⟨gp, 0, none⟩ = some (.string key) ∧ W.cell? ⟨gp, 1, none⟩ = some (.string val) ∧ W.cell? ⟨gp, 2, none⟩ = some (.bool gone) := fun W h => ⟨(blk_cell h.bp 0).trans rfl, (blk_cell h.bp 1).trans rfl, (blk_cell h.bp 2).trans rfl⟩
            replace hS := Aside0.mk hS
            go_region_held3 (fun w' => w'.cell? ⟨gp, 0, none⟩ = some (.string key) ∧ w'.cell? ⟨gp, 1, none⟩ = some (.string val) ∧ w'.cell? ⟨gp, 2, none⟩ = some (.bool gone))
              (exact hS.out _ HF.out)
              (first | (go_at_call 87; refine (hfl.out _).mono ?_; rintro e w' ⟨rfl, hb⟩; have n0_ := Aside0.mk (HF.out.below hb); clear HF hb; have HF := n0_; clear n0_) | (go_at_call 86; (with_reducible refine (htk.out _).mono ?_); rintro e w' ⟨rfl, hb⟩; have n0_ := Aside0.mk (HF.out.below hb); clear HF hb; have HF := n0_; clear n0_) | (go_at_call 86; (with_reducible refine (htv.out _).mono ?_); rintro e w' ⟨rfl, hb⟩; have n0_ := Aside0.mk (HF.out.below hb); clear HF hb; have HF := n0_; clear n0_))
            clear n1 n2 n3 n2' n3' hS hfl htk htv
            have HO2 : Aside0 (o2 ++ (tf ++ tk ++ tv) = o1 ++ pairsS (l.take (i + 1))) := ⟨by rw [HO.out, HT.out, HPS.out]; simp only [ByteArray.append_assoc]⟩
            have hz2 : (o2 ++ (tf ++ tk ++ tv)).size ≤ 60000 + 540 * (i + 1) := by
              rw [HPS.out] at hps
              rw [ByteArray.size_append]
              omega
            have HS := Aside0.mk HF.out.m
            clear HF HO hps HT HPS ho2 ho1 hcz hozz
            generalize o2 ++ (tf ++ tk ++ tv) = o3 at *
            go_wp2_with fail
            go_roundw
            case rel => exact ⟨i + 1, _, rfl, by go_num, by omega, hz2, HO2, HS⟩
            case measure => simp [intOf]; omega
          · have hie : i = l.length := by omega
            have HO2 : Aside0 (o2 = out ++ (cs ++ pairsS l)) := ⟨by rw [HO.out, ← ho1e.out, hie, List.take_length, ByteArray.append_assoc]⟩
            obtain ⟨hY2, hz2⟩ := hnext.out (cs ++ pairsS l) hlet.out.symm
            rw [← HO2.out] at hY2 hz2
            have HY2 := Aside0.mk hY2
            clear hY2 HO HO2 hie ho2
            go_wp2_with fail
            go_roundw
            case rel => exact ⟨pos + 1, _, rfl, hlt.out, hz2, HS, HY2⟩
            case measure => rw [iterPos_of HS.out.bi, hip.out]; have := hlt.out; omega
      rw [if_neg h66] at hlet
      have e66 : (c == 66) = false := beq_eq_false_iff_ne.mpr h66
      clear ok3
      by_cases h67 : c = 67
      · rw [if_pos h67] at hlet ok4
        have e67 : (c == 67) = true := beq_iff_eq.mpr h67
        clear h66 h67
        unfold specB at ok4
        simp only [Bool.and_eq_true, decide_eq_true_eq] at ok4
        obtain ⟨⟨⟨k1, k2⟩, k3⟩, k4⟩ := ok4
        obtain ⟨k2, k2'⟩ := upToB_le k2
        obtain ⟨k3, k3'⟩ := upToB_le k3
        obtain ⟨k4, k4'⟩ := upToB_le k4
        have hsp : Aside0 (specS x = (((textS x.sn ++ chainS x.sp) ++ chainS x.sa) ++ chainS x.ss) ++ flagS x.sc) := ⟨rfl⟩
        have h1 := Aside0.mk (fun W : World => textS_calls x.sn W (by omega))
        have h2 := Aside0.mk (fun W : World => chain_calls x.sp W k2 k2')
        have h3 := Aside0.mk (fun W : World => chain_calls x.sa W k3 k3')
        have h4 := Aside0.mk (fun W : World => chain_calls x.ss W k4 k4')
        have h5 := Aside0.mk (fun W : World => flagS_calls x.sc W)
        have z1 := textS_size x.sn
        have z2 := chainS_size x.sp
        have z3 := chainS_size x.sa
        have z4 := chainS_size x.ss
        have z5 : (flagS x.sc).size ≤ 10 := chainS_size _
        generalize textS x.sn = t1 at *
        generalize chainS x.sp = t2 at *
        generalize chainS x.sa = t3 at *
        generalize chainS x.ss = t4 at *
        generalize flagS x.sc = t5 at *
        have n1 : ¬ 9223372036854775807 < t1.size + t2.size := by omega
        have n2 : ¬ 9223372036854775807 < t1.size + t2.size + t3.size := by omega
        have n3 : ¬ 9223372036854775807 < t1.size + t2.size + t3.size + t4.size := by omega
        have n4 : ¬ 9223372036854775807 < t1.size + t2.size + t3.size + t4.size + t5.size := by omega
        have n5 : ¬ 9223372036854775807 < out.size + (t1.size + t2.size + t3.size + t4.size + t5.size) := by omega
        clear z1 z2 z3 z4 z5 k1 k2 k2' k3 k3' k4 k4'
        go_wp2_with (first
          | ((with_reducible refine gate_dst (N := 16) rfl ?_); refine next_ev (N := 16) rfl rfl rfl rfl HS.out.bi HC.out ?_; intro W1 hbi hgr; have HS_ := Aside0.mk (HS.out.next hbi hgr); clear HS hbi hgr; have HS := HS_; clear HS_)
          | ((with_reducible refine gate_dst (N := 20) rfl ?_); refine load_ev (N := 20) rfl rfl rfl (cs := x.cs (.slice A l.length k)) rfl HS.out.b1 Try.underlying45 rfl (by kernel_rfl) ?_))
        refine (hnum.out _).mono ?_
        rintro e W2 ⟨rfl, hb⟩
        replace HS := Aside0.mk (HS.out.below hb)
        clear hb
        go_wp2_with (first
          | ((with_reducible refine gate_dst (N := 31) rfl ?_); refine load_ev (N := 31) rfl rfl rfl (cs := x.cs (.slice A l.length k)) rfl HS.out.b1 Try.underlying45 rfl (by kernel_rfl) ?_))
        refine (htxt.out _).mono ?_
        rintro e W2 ⟨rfl, hb⟩
        replace HS := Aside0.mk (HS.out.below hb)
        clear hb
        go_upto_region 20 with fail
        have HD := Aside0.mk (HS.out.below (below_drew (Below.refl _ _)))
        clear HS
        have HS := HD
        clear HD
        obtain ⟨v1, e1⟩ : ∃ v, x.sn = v := ⟨_, rfl⟩
        obtain ⟨v2, e2⟩ : ∃ v, x.sp = v := ⟨_, rfl⟩
        obtain ⟨v3, e3⟩ : ∃ v, x.sa = v := ⟨_, rfl⟩
        obtain ⟨v4, e4⟩ : ∃ v, x.ss = v := ⟨_, rfl⟩
        obtain ⟨v5, e5⟩ : ∃ v, x.sc = v := ⟨_, rfl⟩
        have hS : ∀ W : World, Sm w x (.slice A l.length k) g1 gi s (pos + 1) W → W.cell? ⟨g1, 7, none⟩ = some (.string v1) ∧ W.cell? ⟨g1, 8, none⟩ = some (.int .i64 v2) ∧ W.cell? ⟨g1, 9, none⟩ = some (.int .i64 v3) ∧ W.cell? ⟨g1, 10, none⟩ = some (.int .i64 v4) ∧ W.cell? ⟨g1, 11, none⟩ = some (.bool v5) := fun W h => by
          rw [← e1, ← e2, ← e3, ← e4, ← e5]
          exact ⟨(blk_cell h.b1 7).trans rfl, (blk_cell h.b1 8).trans rfl, (blk_cell h.b1 9).trans rfl, (blk_cell h.b1 10).trans rfl, (blk_cell h.b1 11).trans rfl⟩
        replace hS := Aside0.mk hS
        rw [e1] at h1
        rw [e2] at h2
        rw [e3] at h3
        rw [e4] at h4
        rw [e5] at h5
        clear e1 e2 e3 e4 e5
        go_region_held3 (fun w' => w'.cell? ⟨g1, 7, none⟩ = some (.string v1) ∧ w'.cell? ⟨g1, 8, none⟩ = some (.int .i64 v2) ∧ w'.cell? ⟨g1, 9, none⟩ = some (.int .i64 v3) ∧ w'.cell? ⟨g1, 10, none⟩ = some (.int .i64 v4) ∧ w'.cell? ⟨g1, 11, none⟩ = some (.bool v5))
          (exact hS.out _ HS.out)
          (first | (go_at_call 87; (with_reducible refine (h5.out _).mono ?_); rintro e w' ⟨rfl, hb⟩; have n0_ := Aside0.mk (HS.out.below hb); clear HS hb; have HS := n0_; clear n0_) | (go_at_call 86; (with_reducible refine (h1.out _).mono ?_); rintro e w' ⟨rfl, hb⟩; have n0_ := Aside0.mk (HS.out.below hb); clear HS hb; have HS := n0_; clear n0_) | (go_at_call 85; (with_reducible refine (h2.out _).mono ?_); rintro e w' ⟨rfl, hb⟩; have n0_ := Aside0.mk (HS.out.below hb); clear HS hb; have HS := n0_; clear n0_) | (go_at_call 85; (with_reducible refine (h3.out _).mono ?_); rintro e w' ⟨rfl, hb⟩; have n0_ := Aside0.mk (HS.out.below hb); clear HS hb; have HS := n0_; clear n0_) | (go_at_call 85; (with_reducible refine (h4.out _).mono ?_); rintro e w' ⟨rfl, hb⟩; have n0_ := Aside0.mk (HS.out.below hb); clear HS hb; have HS := n0_; clear n0_))
        clear n1 n2 n3 n4 n5 hS h1 h2 h3 h4 h5
        rw [hsp.out] at hlet
        go_wp2_with fail
        obtain ⟨hY2, hz2⟩ := hnext.out (t1 ++ t2 ++ t3 ++ t4 ++ t5) (hlet.out.symm)
        have HY2 := Aside0.mk hY2
        clear hY2
        go_roundw
        case rel => exact ⟨pos + 1, _, rfl, hlt.out, hz2, HS, HY2⟩
        case measure => rw [iterPos_of HS.out.bi, hip.out]; have := hlt.out; omega

      rw [if_neg h67] at hlet
      have e67 : (c == 67) = false := beq_eq_false_iff_ne.mpr h67
      clear h66 h67 ok4
      go_wp2_with (first
        | ((with_reducible refine gate_dst (N := 16) rfl ?_); refine next_ev (N := 16) rfl rfl rfl rfl HS.out.bi HC.out ?_; intro W1 hbi hgr; have HS_ := Aside0.mk (HS.out.next hbi hgr); clear HS hbi hgr; have HS := HS_; clear HS_)
        | ((with_reducible refine gate_dst (N := 20) rfl ?_); refine load_ev (N := 20) rfl rfl rfl (cs := x.cs (.slice A l.length k)) rfl HS.out.b1 Try.underlying45 rfl (by kernel_rfl) ?_))
      refine (hnum.out _).mono ?_
      rintro e W2 ⟨rfl, hb⟩
      replace HS := Aside0.mk (HS.out.below hb)
      clear hb
      go_wp2_with (first
        | ((with_reducible refine gate_dst (N := 31) rfl ?_); refine load_ev (N := 31) rfl rfl rfl (cs := x.cs (.slice A l.length k)) rfl HS.out.b1 Try.underlying45 rfl (by kernel_rfl) ?_))
      refine (htxt.out _).mono ?_
      rintro e W2 ⟨rfl, hb⟩
      replace HS := Aside0.mk (HS.out.below hb)
      clear hb
      go_wp2_with fail
      obtain ⟨hY2, hz2⟩ := hnext.out (⟨#[]⟩) (hlet.out.symm)
      rw [show out ++ (⟨#[]⟩ : ByteArray) = out from ByteArray.append_empty] at hY2 hz2
      have HY2 := Aside0.mk hY2
      clear hY2
      go_roundw
      case rel => exact ⟨pos + 1, _, rfl, hlt.out, hz2, HS, HY2⟩
      case measure => rw [iterPos_of HS.out.bi, hip.out]; have := hlt.out; omega

    · have hpos : Aside0 ((lets s).take pos = lets s) := ⟨lets_all s pos hlt0⟩
      have hend := fun ty => Lib.run_next_end_at (P := Try.prog) wr gi s pos ty HS.out.bi hlt0
      rw [hpos.out] at HY
      clear hpos hlt0 hle
      go_wp2_with fail
      go_ret
      exact ⟨by rw [HY.out] <;> rfl, HS.out.bl⟩
end Go.Proofs.Ytlgihjhlkpmpnaa.Wire
