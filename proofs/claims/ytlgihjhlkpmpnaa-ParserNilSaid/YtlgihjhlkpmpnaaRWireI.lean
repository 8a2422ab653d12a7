import Derived.Test.YtlgihjhlkpmpnaaRWireH
import Derived.Test.YtlgihjhlkpmpnaaRPureGen2
namespace Go.Proofs.Ytlgihjhlkpmpnaa.Wire
set_option linter.unusedVariables false
set_option linter.unusedSimpArgs false
open Go.RowKit Go.Proofs.YtlgihjhlkpmpnaaW.PrintWords Go.Proofs.YtlgihjhlkpmpnaaW.PrintLast Go.Proofs.YtlgihjhlkpmpnaaW.PrintMore Go.Proofs.Ytlgihjhlkpmpnaa.Hand Go.Proofs.Ytlgihjhlkpmpnaa.PWire Go.Proofs.Ytlgihjhlkpmpnaa.PureNums

theorem load_evg {P : Program} {ops : Array Oper} {rest : List Oper} {o : Oper} {a : Act} {Q : Exit → Act → World → Prop} {W : World} {N : Tmp} (hN : o.dst = some N) {ty : TypeId} {p : Tmp} (ho : o.op = .load ty (.tmp p)) {g : Nat} (hx : a.eval (.tmp p) = .pointer (some ⟨g, 0, none⟩)) {t : TypeId} {cs : Array Value} {d : TypeDesc} (hg : W.heap[g]? = some (.cells cs t (0, 0)))
    (hu : P.underlying ty = some d) (hd : (match d with | .struct _ | .array _ _ => true | _ => false) = true) (hi : (P.info? ty).map (·.size) = some cs.size) (hw : Region.wanted o (yielded ops a.tmps) = true)
    (h : wpList P ops Q rest (a.put o.dst (.agg cs)) W) : wpList P ops Q (o :: rest) a W := by
  unfold wpList
  rw [if_pos hw]
  left
  unfold Oper.wp
  rw [load_run ho hx hg hu hd hi]
  exact h
theorem bt_extract (s : ByteArray) (a b : Nat) (i : Nat) (h : i < b - a) (hb : b ≤ s.size) : bt (s.extract a b) (i : Int) = bt s ((a + i : Nat) : Int) := by
  unfold bt
  rw [dif_pos (by rw [Int.toNat_natCast, ByteArray.size_extract]; omega), dif_pos (by rw [Int.toNat_natCast]; omega)]
  congr 2
  simp only [Int.toNat_natCast]
  exact ByteArray.getElem_extract ..
def be2 (s : ByteArray) (i : Nat) : Int := bt s (i : Int) * 256 + bt s ((i + 1 : Nat) : Int)
theorem be2_range (s : ByteArray) (i : Nat) : 0 ≤ be2 s i ∧ be2 s i ≤ 65535 := by
  have h1 := bt_range s (i : Int)
  have h2 := bt_range s ((i + 1 : Nat) : Int)
  unfold be2
  omega
def peekI (s : ByteArray) : Int := if s.size < 2 then 0 else be2 s 0 + 2
theorem read2 (s : ByteArray) (a : Nat) (h : a + 2 ≤ s.size) (k : Nat) (hk : 20 ≤ k) : nums_Read.f k (s.extract a (a + 2)) = some (be2 s a, 0) := by
  have hz : (s.extract a (a + 2)).size = 2 := by rw [ByteArray.size_extract]; omega
  rw [read_eq _ k hk, hz, if_neg (by omega)]
  have h0 := bt_extract s a (a + 2) 0 (by omega) h
  have h1 := bt_extract s a (a + 2) 1 (by omega) h
  show some (256 * (256 * 0 + bt (s.extract a (a + 2)) ((0 : Nat) : Int)) + bt (s.extract a (a + 2)) ((1 : Nat) : Int), (0 : Int)) = _
  rw [h0, h1]
  unfold be2
  have e : (256 * (256 * 0 + bt s ((a + 0 : Nat) : Int)) + bt s ((a + 1 : Nat) : Int)) = bt s (a : Int) * 256 + bt s ((a + 1 : Nat) : Int) := by
    rw [Nat.add_zero]
    omega
  rw [e]
theorem peek_some (s : ByteArray) (k : Nat) (hk : 20 ≤ k) : wire_Peek.f k s = some (peekI s) := by
  unfold wire_Peek.f peekI
  by_cases h : s.size < 2
  · rw [if_pos (by omega), if_pos h]
  · have hr := be2_range s 0
    rw [if_neg (by omega), if_neg h, if_pos (by omega), if_pos (by omega)]
    have := read2 s 0 (by omega) k hk
    rw [Nat.zero_add] at this
    rw [this]
    simp only [Option.bind_some]
    rw [w64 (be2 s 0) (by omega) (by omega), w64 _ (by omega) (by omega)]
theorem peek_calls (s : ByteArray) (W : World) : Calls Try.prog 26 #[.string s] W fun e w' => e = .returned (.int .i64 (peekI s)) ∧ Below W.heap.size W w' :=
  (wire_Peek.calls 20 s (peekI s) W (peek_some s 20 (Nat.le_refl _))).mono fun e w' h => ⟨h.1, by
    obtain ⟨nd, e⟩ := h.2.out
    rw [e]
    exact pw_below_drewN (Below.refl _ _) nd⟩
theorem read_calls (s : ByteArray) (a : Nat) (h : a + 2 ≤ s.size) (W : World) : Calls Try.prog 53 #[.string (s.extract a (a + 2))] W fun e w' => e = .returned (.tuple #[.int .u64 (be2 s a), .int .i64 0]) ∧ Below W.heap.size W w' :=
  (nums_Read.calls 20 (s.extract a (a + 2)) (be2 s a) 0 W (read2 s a h 20 (Nat.le_refl _))).mono fun e w' h => ⟨h.1, by
    obtain ⟨nd, e⟩ := h.2.out
    rw [e]
    exact pw_below_drewN (Below.refl _ _) nd⟩
/-- two bytes, the great one first -/
def fix2 (n : Int) : ByteArray := strOfNums (fixedL 2 n 2)
theorem fix2_size (n : Int) : (fix2 n).size = 2 := by unfold fix2; rw [strOfNums_size, fixedL_length]
theorem fix2_calls (n : Int) (W : World) (h0 : 0 ≤ n) (h1 : n ≤ 65535) : Calls Try.prog 57 #[.int .u64 n, .int .i64 2] W fun e w' => e = .returned (.tuple #[.string (fix2 n), .int .i64 0]) ∧ Below W.heap.size W w' :=
  nums_Fixed.calls n 2 (fix2 n) 0 W (by
    unfold nums_Fixed.f fitsB u64top
    rw [if_pos ⟨⟨h0, by omega⟩, by omega, by omega⟩, if_pos (by rw [decide_eq_true_eq]; exact ⟨by omega, by omega, by show n < 256 ^ 2; omega⟩)]
    rfl)
theorem bodyS_size (x : Rq) (l : List S102) : ∀ ls : List Int, ls.all (okLetter x l) = true → (bodyS x l ls).size ≤ 9000 * ls.length := by
  intro ls
  induction ls with
  | nil => intro _; exact Nat.le_refl _
  | cons c ls ih =>
    intro h
    rw [List.all_cons, Bool.and_eq_true] at h
    have h1 := letter_size h.1
    have h2 := ih h.2
    unfold bodyS at h2 ⊢
    rw [List.foldl_cons, fold_app, ByteArray.size_append, ByteArray.size_append]
    simp only [List.length_cons]
    have : (⟨#[]⟩ : ByteArray).size = 0 := rfl
    omega
theorem may_parts {x : Rq} {l : List S102} (h : mayB x l = true) : 0 ≤ x.id ∧ x.id ≤ 65535 ∧ (lets (formF x.kind)).all (okLetter x l) = true ∧ lets (formF x.kind) ≠ [] := by
  unfold mayB at h
  simp only [Bool.and_eq_true, decide_eq_true_eq, Bool.not_eq_true'] at h
  exact ⟨h.1.1.2, h.1.2, h.2, fun e => by rw [e] at h; simp at h⟩
theorem form_len (k : Int) : (lets (formF k)).length ≤ 6 := by
  have : (formF k).size ≤ 6 := formF_cases k (Q := fun s => s.size ≤ 6) (by decide)
  unfold lets
  rw [List.length_map, data_length]
  exact this
theorem form_kind (k : Int) (h : lets (formF k) ≠ []) : 1 ≤ k ∧ k ≤ 12 := by
  apply Decidable.byContradiction
  intro hk
  apply h
  unfold formF wire_form.f
  rw [if_neg (by omega), if_neg (by omega), if_neg (by omega), if_neg (by omega), if_neg (by omega), if_neg (by omega), if_neg (by omega), if_neg (by omega), if_neg (by omega), if_neg (by omega), if_neg (by omega), if_neg (by omega)]
  rfl
def bodyOf (x : Rq) (l : List S102) : ByteArray := bodyS x l (lets (formF x.kind))
theorem bodyOf_size {x : Rq} {l : List S102} (h : mayB x l = true) : (bodyOf x l).size ≤ 54000 := by
  have h1 := bodyS_size x l _ (may_parts h).2.2.1
  have h2 := form_len x.kind
  unfold bodyOf
  omega
def encS (x : Rq) (l : List S102) : ByteArray := ((fix2 (3 + (bodyOf x l).size) ++ strOfNums [x.kind]) ++ fix2 x.id) ++ bodyOf x l
def encW (x : Rq) (l : List S102) : ByteArray × Int := if mayB x l = true then (if 5 + (bodyOf x l).size > 1000 then (⟨#[]⟩, 2) else (encS x l, 0)) else (⟨#[]⟩, 1)

set_option maxHeartbeats 16000000 in
set_option maxRecDepth 100000 in
theorem encode_calls (x : Rq) (A : Option Addr) (k : Nat) (l : List S102) (w : World) (hp : Prs w A l.length k l) (hk : l.length ≤ k) :
    Calls Try.prog 28 #[.agg #[.int .i64 x.id, .int .i64 x.kind, .int .i64 x.label, .string x.pt, .int .i64 x.pp, .string x.tt, .int .i64 x.tp, .string x.sn, .int .i64 x.sp, .int .i64 x.sa, .int .i64 x.ss, .bool x.sc, .string x.grp, .string x.mem, .int .i64 x.gen, .int .i64 x.off, .int .i64 x.most, .int .i64 x.prod, .int .i64 x.seq, .slice A l.length k]] w fun e w' => e = .returned (.tuple #[.string (encW x l).1, .int .i64 (encW x l).2]) ∧ Below w.heap.size w w' := by
  have HP := Aside0.mk hp
  have HK := Aside0.mk hk
  have hmay := Aside0.mk (fun (W : World) (hW : Below w.heap.size w W) => may_calls x A k l W (hp.below hW) hk)
  clear hp hk
  by_cases hm : mayB x l = true
  case neg =>
    have hres : Aside0 (encW x l = (⟨#[]⟩, 1)) := ⟨by unfold encW; rw [if_neg hm]⟩
    have hm' : mayB x l = false := by simpa using hm
    rw [hm'] at hmay
    clear hm hm'
    go_enter Try.func28, Try.ntmps28
    go_wp2_with (first
      | ((with_reducible refine gate_dst (N := 1) rfl ?_); refine box_event rfl (N := 1) rfl (cs := #[.int .i64 x.id, .int .i64 x.kind, .int .i64 x.label, .string x.pt, .int .i64 x.pp, .string x.tt, .int .i64 x.tp, .string x.sn, .int .i64 x.sp, .int .i64 x.sa, .int .i64 x.ss, .bool x.sc, .string x.grp, .string x.mem, .int .i64 x.gen, .int .i64 x.off, .int .i64 x.most, .int .i64 x.prod, .int .i64 x.seq, .slice A l.length k]) (t := 45) ?hr ?_; (case hr => first | (go_simp; done) | (go_simp; rfl)); intro g1 hg1 w1 hbx hbl; have X := Aside0.mk hbx; have L := Aside0.mk hbl; clear hbx hbl hg1)
      | ((with_reducible refine gate_dst (N := 9) rfl ?_); refine load_ev (N := 9) rfl rfl rfl (cs := x.cs (.slice A l.length k)) rfl X.out Try.underlying45 rfl (by kernel_rfl) ?_))
    refine (hmay.out _ L.out).mono ?_
    rintro e w2 ⟨rfl, hb⟩
    have n0_ := Aside0.mk (blk_below X.out hb)
    have n1_ := Aside0.mk (below_step L.out hb)
    clear X L hb
    have X := n0_
    have L := n1_
    clear n0_ n1_
    go_wp2_with fail
    go_ret2
    exact ⟨by rw [hres.out] <;> rfl, L.out⟩
  rw [hm] at hmay
  have hfld := Aside0.mk (fun (W : World) (hW : Below w.heap.size w W) => fields_calls x A k l W (HP.out.below hW) HK.out hm)
  have hbz := bodyOf_size hm
  obtain ⟨i0, i1, _, hne⟩ := may_parts hm
  obtain ⟨k0, k1⟩ := form_kind _ hne
  have hdef : Aside0 (encW x l = (if 5 + (bodyOf x l).size > 1000 then (⟨#[]⟩, 2) else (((fix2 (3 + (bodyOf x l).size) ++ strOfNums [x.kind]) ++ fix2 x.id) ++ bodyOf x l, 0))) := ⟨by unfold encW; rw [if_pos hm]; rfl⟩
  clear hne hm
  have hb0 : Aside0 (bodyS x l (lets (formF x.kind)) = bodyOf x l) := ⟨rfl⟩
  rw [hb0.out] at hfld
  clear hb0
  generalize bodyOf x l = bd at *
  by_cases hl : 5 + bd.size > 1000
  case pos =>
    rw [if_pos hl] at hdef
    have hl1 : (1000 : Int) < 5 + (bd.size : Int) := by omega
    have hl2 : IntKind.i64.wrap (5 + (bd.size : Int)) = 5 + (bd.size : Int) := IntWalk.i64_in _ (by omega)
    clear hl i0 i1 k0 k1
    go_enter Try.func28, Try.ntmps28
    go_wp2_with (first
      | ((with_reducible refine gate_dst (N := 1) rfl ?_); refine box_event rfl (N := 1) rfl (cs := #[.int .i64 x.id, .int .i64 x.kind, .int .i64 x.label, .string x.pt, .int .i64 x.pp, .string x.tt, .int .i64 x.tp, .string x.sn, .int .i64 x.sp, .int .i64 x.sa, .int .i64 x.ss, .bool x.sc, .string x.grp, .string x.mem, .int .i64 x.gen, .int .i64 x.off, .int .i64 x.most, .int .i64 x.prod, .int .i64 x.seq, .slice A l.length k]) (t := 45) ?hr ?_; (case hr => first | (go_simp; done) | (go_simp; rfl)); intro g1 hg1 w1 hbx hbl; have X := Aside0.mk hbx; have L := Aside0.mk hbl; clear hbx hbl hg1)
      | ((with_reducible refine gate_dst (N := 9) rfl ?_); refine load_ev (N := 9) rfl rfl rfl (cs := x.cs (.slice A l.length k)) rfl X.out Try.underlying45 rfl (by kernel_rfl) ?_))
    refine (hmay.out _ L.out).mono ?_
    rintro e w2 ⟨rfl, hb⟩
    have n0_ := Aside0.mk (blk_below X.out hb)
    have n1_ := Aside0.mk (below_step L.out hb)
    clear X L hb
    have X := n0_
    have L := n1_
    clear n0_ n1_
    go_wp2_with (first
      | ((with_reducible refine gate_dst (N := 12) rfl ?_); refine load_ev (N := 12) rfl rfl rfl (cs := x.cs (.slice A l.length k)) rfl X.out Try.underlying45 rfl (by kernel_rfl) ?_))
    refine (hfld.out _ L.out).mono ?_
    rintro e w3 ⟨rfl, hb⟩
    have n0_ := Aside0.mk (blk_below X.out hb)
    have n1_ := Aside0.mk (below_step L.out hb)
    clear X L hb
    have X := n0_
    have L := n1_
    clear n0_ n1_
    go_wp2_with fail
    go_ret2
    exact ⟨by rw [hdef.out] <;> rfl, L.out⟩
  rw [if_neg hl] at hdef
  have hl1 : ¬ (1000 : Int) < 5 + (bd.size : Int) := by omega
  have hl2 : IntKind.i64.wrap (5 + (bd.size : Int)) = 5 + (bd.size : Int) := IntWalk.i64_in _ (by omega)
  have hl3 : IntKind.i64.wrap (3 + (bd.size : Int)) = 3 + (bd.size : Int) := IntWalk.i64_in _ (by omega)
  have hl4 : IntKind.u64.wrap (3 + (bd.size : Int)) = 3 + (bd.size : Int) := u64_same _ (by omega) (by omega)
  have hl5 : IntKind.u64.wrap x.id = x.id := u64_same _ i0 (by omega)
  have hl6 : IntKind.u8.wrap x.kind = x.kind := by rw [IntKind.wrap_u8]; omega
  have hf1 := Aside0.mk (fun W : World => fix2_calls (3 + (bd.size : Int)) W (by omega) (by omega))
  have hf2 := Aside0.mk (fun W : World => fix2_calls x.id W i0 i1)
  have z1 := fix2_size (3 + (bd.size : Int))
  have z2 := fix2_size x.id
  generalize fix2 (3 + (bd.size : Int)) = f1 at *
  generalize fix2 x.id = f2 at *
  obtain ⟨kd, hkd⟩ : ∃ kd, x.kind = kd := ⟨_, rfl⟩
  have hcv := fun W : World => run_convert_bytes_arg (P := Try.prog) (W.alloc (.cells #[.int .u8 kd] 5)) 114 5 Try.underlying114 Try.underlying5 W.heap.size 0 1 1 [kd] (by simp) (by
    intro i hi
    obtain rfl : i = 0 := by simp at hi; omega
    exact (blk_cell (blk_new W _) 0).trans rfl) 9 Try.underlying9
  rw [hkd] at hl6 k0 k1 hdef
  have HKD := Aside0.mk hkd
  have zk : (strOfNums [kd]).size = 1 := by rw [strOfNums_size]; rfl
  have n1 : f1.size + (strOfNums [kd]).size ≤ 9223372036854775807 := by omega
  have n2 : f1.size + (strOfNums [kd]).size + f2.size ≤ 9223372036854775807 := by omega
  have n3 : f1.size + (strOfNums [kd]).size + f2.size + bd.size ≤ 9223372036854775807 := by omega
  clear hl i0 i1 k0 k1 hkd z1 z2 zk
  go_enter Try.func28, Try.ntmps28
  go_wp2_with (first
    | ((with_reducible refine gate_dst (N := 1) rfl ?_); refine box_event rfl (N := 1) rfl (cs := #[.int .i64 x.id, .int .i64 x.kind, .int .i64 x.label, .string x.pt, .int .i64 x.pp, .string x.tt, .int .i64 x.tp, .string x.sn, .int .i64 x.sp, .int .i64 x.sa, .int .i64 x.ss, .bool x.sc, .string x.grp, .string x.mem, .int .i64 x.gen, .int .i64 x.off, .int .i64 x.most, .int .i64 x.prod, .int .i64 x.seq, .slice A l.length k]) (t := 45) ?hr ?_; (case hr => first | (go_simp; done) | (go_simp; rfl)); intro g1 hg1 w1 hbx hbl; have X := Aside0.mk hbx; have L := Aside0.mk hbl; clear hbx hbl hg1)
    | ((with_reducible refine gate_dst (N := 9) rfl ?_); refine load_ev (N := 9) rfl rfl rfl (cs := x.cs (.slice A l.length k)) rfl X.out Try.underlying45 rfl (by kernel_rfl) ?_))
  refine (hmay.out _ L.out).mono ?_
  rintro e w2 ⟨rfl, hb⟩
  have n0_ := Aside0.mk (blk_below X.out hb)
  have n1_ := Aside0.mk (below_step L.out hb)
  clear X L hb
  have X := n0_
  have L := n1_
  clear n0_ n1_
  go_wp2_with (first
    | ((with_reducible refine gate_dst (N := 12) rfl ?_); refine load_ev (N := 12) rfl rfl rfl (cs := x.cs (.slice A l.length k)) rfl X.out Try.underlying45 rfl (by kernel_rfl) ?_))
  refine (hfld.out _ L.out).mono ?_
  rintro e w3 ⟨rfl, hb⟩
  have n0_ := Aside0.mk (blk_below X.out hb)
  have n1_ := Aside0.mk (below_step L.out hb)
  clear X L hb
  have X := n0_
  have L := n1_
  clear n0_ n1_
  go_wp2_with fail
  refine (hf1.out _).mono ?_
  rintro e w4 ⟨rfl, hb⟩
  have n0_ := Aside0.mk (blk_below X.out hb)
  have n1_ := Aside0.mk (below_step L.out hb)
  clear X L hb
  have X := n0_
  have L := n1_
  clear n0_ n1_
  have c0 : w4.cell? ⟨g1, 0, none⟩ = some (.int .i64 x.id) := (blk_cell X.out 0).trans rfl
  go_wp2_with fail
  refine (hf2.out _).mono ?_
  rintro e w5 ⟨rfl, hb⟩
  have n0_ := Aside0.mk (blk_below X.out hb)
  have n1_ := Aside0.mk (below_step L.out hb)
  clear X L hb
  have X := n0_
  have L := n1_
  clear n0_ n1_
  clear c0
  have c1 : w5.cell? ⟨g1, 1, none⟩ = some (.int .i64 kd) := by rw [← HKD.out]; exact (blk_cell X.out 1).trans rfl
  go_wp2_with fail
  go_ret2
  exact ⟨by rw [hdef.out] <;> rfl, L.out.alloc L.out.size _⟩
structure DecR where
  err : Int
  n : Int
  y : Rq
  ps : List S102
noncomputable def decSt (s : ByteArray) : Rst := reqL (rq0 (bt s 2) (be2 s 3)) (s.extract 5 (peekI s).toNat, false) (lets (formF (bt s 2)))
/-- what Decode tells -/
noncomputable def decW (s : ByteArray) : DecR :=
  if peekI s > 1000 then ⟨38, 0, rq0 0 0, []⟩ else if peekI s = 0 ∨ (s.size : Int) < peekI s then ⟨3, 0, rq0 0 0, []⟩ else if peekI s < 5 then ⟨38, 0, rq0 0 0, []⟩
  else if (decSt s).r.2 = true then ⟨38, 0, rq0 0 0, []⟩ else if (decSt s).r.1.toList ≠ [] then ⟨38, 0, rq0 0 0, []⟩ else if mayB (decSt s).y (decSt s).ps = true then ⟨0, peekI s, (decSt s).y, (decSt s).ps⟩ else ⟨38, 0, rq0 0 0, []⟩
theorem results_ctt {P : Program} {fn : Func} {p u v : Tmp} {ty : TypeId} (h : fn.results = #[.cell p ty, .tmp u, .tmp v]) (tmps : Array Value) (w : World) (g : Nat) (t : TypeId) (cs : Array Value) (fr : Nat × Nat) (d : TypeDesc)
    (hp : tmps.getD p undef = .pointer (some ⟨g, 0, none⟩)) (hg : w.heap[g]? = some (.cells cs t fr))
    (hu : P.underlying ty = some d) (hd : (match d with | .struct _ | .array _ _ => true | _ => false) = true) (hi : (P.info? ty).map (·.size) = some cs.size) :
    (results fn tmps).run P w = .ok (.tuple #[.agg cs, tmps.getD u undef, tmps.getD v undef]) w := by
  have hp' : tmps[p]?.getD undef = .pointer (some ⟨g, 0, none⟩) := by simpa using hp
  simp [results, h, hp', asAddr, run_loadVar_row w g t ty cs fr d hg hu hd hi]
theorem reqStep_ps (t : Rst) (c : Int) (h : t.ps.length ≤ 17) : (reqStep t c).ps.length ≤ 17 := by
  unfold reqStep
  split
  · exact h
  split
  · exact h
  split
  · show (rdPairs t.r).1.length ≤ 17
    unfold rdPairs
    rw [rdPairN_len]
    unfold mn
    simp
    omega
  split
  · exact h
  exact h
theorem reqL_ps (y : Rq) (r : Rd) (ls : List Int) : (reqL y r ls).ps.length ≤ 17 := by
  have : ∀ (ls : List Int) (t : Rst), t.ps.length ≤ 17 → (ls.foldl reqStep t).ps.length ≤ 17 := by
    intro ls
    induction ls with
    | nil => intro t h; exact h
    | cons c ls ih => intro t h; exact ih _ (reqStep_ps t c h)
  exact this ls _ (by simp)
theorem R_nilcap {α : Type} {d : Kd α} {e base : Nat} {ok : Nat → Prop} {W : World} {A : Option Addr} {n m : Nat} {xs : List α} (h : d.R e W base ok (.slice A n m) xs) : A = none → m = 0 := by
  intro hA
  subst hA
  obtain ⟨_, inner, ⟨_, hv⟩, _⟩ := h
  rcases hv with ⟨hv, _⟩ | ⟨g, cap, cur, hv, _⟩
  · injection hv
  · injection hv with h1
    exact absurd h1 (by simp)
theorem prs_of_R {base : Nat} {ok : Nat → Prop} {W : World} {A : Option Addr} {m : Nat} {ps : List S102} (h : Kd.R k102 102 W base ok (.slice A ps.length m) ps) (hl : ps.length ≤ 1000000000) : Prs W A ps.length m ps ∧ ps.length ≤ m := by
  obtain ⟨_, h2, h3⟩ := Kd.R_reads' h
  exact ⟨⟨h3, R_nilcap h, by omega⟩, h2⟩
set_option maxHeartbeats 16000000 in
set_option maxRecDepth 100000 in
theorem decode_calls (s : ByteArray) (w : World) (hz : s.size ≤ 100000000) :
    Calls Try.prog 24 #[.string s] w fun e w' => ∃ u, e = .returned (.tuple #[(decW s).y.v u, .int .i64 (decW s).n, .int .i64 (decW s).err]) ∧ Kd.R k102 102 w' w.heap.size (fun _ => True) u (decW s).ps ∧ Below w.heap.size w w' := by
  have hp0 : 0 ≤ peekI s ∧ peekI s ≤ 65537 := by
    have := be2_range s 0
    unfold peekI
    split <;> omega
  have hpk := Aside0.mk (fun W : World => peek_calls s W)
  have hdef : Aside0 (decW s = (if peekI s > 1000 then ⟨38, 0, rq0 0 0, []⟩ else if peekI s = 0 ∨ (s.size : Int) < peekI s then ⟨3, 0, rq0 0 0, []⟩ else if peekI s < 5 then ⟨38, 0, rq0 0 0, []⟩
  else if (decSt s).r.2 = true then ⟨38, 0, rq0 0 0, []⟩ else if (decSt s).r.1.toList ≠ [] then ⟨38, 0, rq0 0 0, []⟩ else if mayB (decSt s).y (decSt s).ps = true then ⟨0, peekI s, (decSt s).y, (decSt s).ps⟩ else ⟨38, 0, rq0 0 0, []⟩)) := ⟨rfl⟩
  have hst : Aside0 (decSt s = reqL (rq0 (bt s 2) (be2 s 3)) (s.extract 5 (peekI s).toNat, false) (lets (formF (bt s 2)))) := ⟨rfl⟩
  generalize hsz : peekI s = sz at *
  clear hsz
  by_cases h1 : sz > 1000
  case pos =>
    rw [if_pos h1] at hdef
    have h1' : (1000 : Int) < sz := h1
    clear h1 hst
    go_enter Try.func24, Try.ntmps24
    go_wp2_with (first
      | ((with_reducible refine gate_dst (N := 2) rfl ?_); refine box_event rfl (N := 2) rfl (cs := #[.int .i64 0, .int .i64 0, .int .i64 0, .string ⟨#[]⟩, .int .i64 0, .string ⟨#[]⟩, .int .i64 0, .string ⟨#[]⟩, .int .i64 0, .int .i64 0, .int .i64 0, .bool false, .string ⟨#[]⟩, .string ⟨#[]⟩, .int .i64 0, .int .i64 0, .int .i64 0, .int .i64 0, .int .i64 0, .slice none 0 0]) (t := 45) ?hr ?_; (case hr => first | (go_simp; done) | (go_simp; rfl)); intro g2 hg2 w1 hbx hbl; have X := Aside0.mk hbx; have L := Aside0.mk hbl; have G := Aside0.mk (Nat.le_of_eq hg2.symm); clear hbx hbl hg2))
    refine (hpk.out _).mono ?_
    rintro e w2 ⟨rfl, hb⟩
    have n0_ := Aside0.mk (blk_below X.out hb)
    have n1_ := Aside0.mk (below_step L.out hb)
    clear X L hb
    have X := n0_
    have L := n1_
    clear n0_ n1_
    go_wp2_with (first
      | ((with_reducible refine gate_store (t := 45) (p := 2) rfl ?_); refine store_ev rfl rfl rfl (cells := #[.int .i64 0, .int .i64 0, .int .i64 0, .string ⟨#[]⟩, .int .i64 0, .string ⟨#[]⟩, .int .i64 0, .string ⟨#[]⟩, .int .i64 0, .int .i64 0, .int .i64 0, .bool false, .string ⟨#[]⟩, .string ⟨#[]⟩, .int .i64 0, .int .i64 0, .int .i64 0, .int .i64 0, .int .i64 0, .slice none 0 0]) rfl rfl X.out (by kernel_rfl) rfl (by kernel_rfl) ?_; intro w9 hbx hgr; have X9 := Aside0.mk hbx; have L9 := Aside0.mk (below_put L.out G.out hgr L.out.size); clear hbx hgr X L))
    refine bodyPost_ret (results_ctt rfl _ _ g2 45 #[.int .i64 0, .int .i64 0, .int .i64 0, .string ⟨#[]⟩, .int .i64 0, .string ⟨#[]⟩, .int .i64 0, .string ⟨#[]⟩, .int .i64 0, .int .i64 0, .int .i64 0, .bool false, .string ⟨#[]⟩, .string ⟨#[]⟩, .int .i64 0, .int .i64 0, .int .i64 0, .int .i64 0, .int .i64 0, .slice none 0 0] (0, 0) _ rfl X9.out Try.underlying45 rfl (by kernel_rfl)) rfl ?_
    rw [hdef.out]
    exact ⟨_, rfl, Kd.R_nil _ _ _ _ _, L9.out⟩

  rw [if_neg h1] at hdef
  have h1' : ¬ (1000 : Int) < sz := h1
  by_cases h2 : sz = 0 ∨ (s.size : Int) < sz
  case pos =>
    rw [if_pos h2] at hdef
    clear hst h1
    by_cases h0 : sz = 0
    case pos =>
      have h3 : (sz == 0) = true := beq_iff_eq.mpr h0
      clear h0 h2 h1'
      have h1' : ¬ (1000 : Int) < sz := by have := beq_iff_eq.mp h3; omega
      have hund : ∀ b, some undef = some (Value.bool b) → False := fun b h => by simp [undef] at h
      go_enter Try.func24, Try.ntmps24
      go_wp2_with (first
        | ((with_reducible refine gate_dst (N := 2) rfl ?_); refine box_event rfl (N := 2) rfl (cs := #[.int .i64 0, .int .i64 0, .int .i64 0, .string ⟨#[]⟩, .int .i64 0, .string ⟨#[]⟩, .int .i64 0, .string ⟨#[]⟩, .int .i64 0, .int .i64 0, .int .i64 0, .bool false, .string ⟨#[]⟩, .string ⟨#[]⟩, .int .i64 0, .int .i64 0, .int .i64 0, .int .i64 0, .int .i64 0, .slice none 0 0]) (t := 45) ?hr ?_; (case hr => first | (go_simp; done) | (go_simp; rfl)); intro g2 hg2 w1 hbx hbl; have X := Aside0.mk hbx; have L := Aside0.mk hbl; have G := Aside0.mk (Nat.le_of_eq hg2.symm); clear hbx hbl hg2))
      refine (hpk.out _).mono ?_
      rintro e w2 ⟨rfl, hb⟩
      have n0_ := Aside0.mk (blk_below X.out hb)
      have n1_ := Aside0.mk (below_step L.out hb)
      clear X L hb
      have X := n0_
      have L := n1_
      clear n0_ n1_
      go_wp2_with (first
        | ((with_reducible refine gate_store (t := 45) (p := 2) rfl ?_); refine store_ev rfl rfl rfl (cells := #[.int .i64 0, .int .i64 0, .int .i64 0, .string ⟨#[]⟩, .int .i64 0, .string ⟨#[]⟩, .int .i64 0, .string ⟨#[]⟩, .int .i64 0, .int .i64 0, .int .i64 0, .bool false, .string ⟨#[]⟩, .string ⟨#[]⟩, .int .i64 0, .int .i64 0, .int .i64 0, .int .i64 0, .int .i64 0, .slice none 0 0]) rfl rfl X.out (by kernel_rfl) rfl (by kernel_rfl) ?_; intro w9 hbx hgr; have X9 := Aside0.mk hbx; have L9 := Aside0.mk (below_put L.out G.out hgr L.out.size); clear hbx hgr X L))
      refine bodyPost_ret (results_ctt rfl _ _ g2 45 #[.int .i64 0, .int .i64 0, .int .i64 0, .string ⟨#[]⟩, .int .i64 0, .string ⟨#[]⟩, .int .i64 0, .string ⟨#[]⟩, .int .i64 0, .int .i64 0, .int .i64 0, .bool false, .string ⟨#[]⟩, .string ⟨#[]⟩, .int .i64 0, .int .i64 0, .int .i64 0, .int .i64 0, .int .i64 0, .slice none 0 0] (0, 0) _ rfl X9.out Try.underlying45 rfl (by kernel_rfl)) rfl ?_
      rw [hdef.out]
      exact ⟨_, rfl, Kd.R_nil _ _ _ _ _, L9.out⟩

    have h3 : (sz == 0) = false := beq_eq_false_iff_ne.mpr h0
    have h4 : (s.size : Int) < sz := by omega
    clear h0 h2
    go_enter Try.func24, Try.ntmps24
    go_wp2_with (first
      | ((with_reducible refine gate_dst (N := 2) rfl ?_); refine box_event rfl (N := 2) rfl (cs := #[.int .i64 0, .int .i64 0, .int .i64 0, .string ⟨#[]⟩, .int .i64 0, .string ⟨#[]⟩, .int .i64 0, .string ⟨#[]⟩, .int .i64 0, .int .i64 0, .int .i64 0, .bool false, .string ⟨#[]⟩, .string ⟨#[]⟩, .int .i64 0, .int .i64 0, .int .i64 0, .int .i64 0, .int .i64 0, .slice none 0 0]) (t := 45) ?hr ?_; (case hr => first | (go_simp; done) | (go_simp; rfl)); intro g2 hg2 w1 hbx hbl; have X := Aside0.mk hbx; have L := Aside0.mk hbl; have G := Aside0.mk (Nat.le_of_eq hg2.symm); clear hbx hbl hg2))
    refine (hpk.out _).mono ?_
    rintro e w2 ⟨rfl, hb⟩
    have n0_ := Aside0.mk (blk_below X.out hb)
    have n1_ := Aside0.mk (below_step L.out hb)
    clear X L hb
    have X := n0_
    have L := n1_
    clear n0_ n1_
    go_wp2_with (first
      | ((with_reducible refine gate_store (t := 45) (p := 2) rfl ?_); refine store_ev rfl rfl rfl (cells := #[.int .i64 0, .int .i64 0, .int .i64 0, .string ⟨#[]⟩, .int .i64 0, .string ⟨#[]⟩, .int .i64 0, .string ⟨#[]⟩, .int .i64 0, .int .i64 0, .int .i64 0, .bool false, .string ⟨#[]⟩, .string ⟨#[]⟩, .int .i64 0, .int .i64 0, .int .i64 0, .int .i64 0, .int .i64 0, .slice none 0 0]) rfl rfl X.out (by kernel_rfl) rfl (by kernel_rfl) ?_; intro w9 hbx hgr; have X9 := Aside0.mk hbx; have L9 := Aside0.mk (below_put L.out G.out hgr L.out.size); clear hbx hgr X L))
    refine bodyPost_ret (results_ctt rfl _ _ g2 45 #[.int .i64 0, .int .i64 0, .int .i64 0, .string ⟨#[]⟩, .int .i64 0, .string ⟨#[]⟩, .int .i64 0, .string ⟨#[]⟩, .int .i64 0, .int .i64 0, .int .i64 0, .bool false, .string ⟨#[]⟩, .string ⟨#[]⟩, .int .i64 0, .int .i64 0, .int .i64 0, .int .i64 0, .int .i64 0, .slice none 0 0] (0, 0) _ rfl X9.out Try.underlying45 rfl (by kernel_rfl)) rfl ?_
    rw [hdef.out]
    exact ⟨_, rfl, Kd.R_nil _ _ _ _ _, L9.out⟩

  rw [if_neg h2] at hdef
  have h3 : (sz == 0) = false := beq_eq_false_iff_ne.mpr (by omega)
  have h4 : ¬ (s.size : Int) < sz := by omega
  by_cases h5 : sz < 5
  case pos =>
    rw [if_pos h5] at hdef
    clear h2 h1 hst
    go_enter Try.func24, Try.ntmps24
    go_wp2_with (first
      | ((with_reducible refine gate_dst (N := 2) rfl ?_); refine box_event rfl (N := 2) rfl (cs := #[.int .i64 0, .int .i64 0, .int .i64 0, .string ⟨#[]⟩, .int .i64 0, .string ⟨#[]⟩, .int .i64 0, .string ⟨#[]⟩, .int .i64 0, .int .i64 0, .int .i64 0, .bool false, .string ⟨#[]⟩, .string ⟨#[]⟩, .int .i64 0, .int .i64 0, .int .i64 0, .int .i64 0, .int .i64 0, .slice none 0 0]) (t := 45) ?hr ?_; (case hr => first | (go_simp; done) | (go_simp; rfl)); intro g2 hg2 w1 hbx hbl; have X := Aside0.mk hbx; have L := Aside0.mk hbl; have G := Aside0.mk (Nat.le_of_eq hg2.symm); clear hbx hbl hg2))
    refine (hpk.out _).mono ?_
    rintro e w2 ⟨rfl, hb⟩
    have n0_ := Aside0.mk (blk_below X.out hb)
    have n1_ := Aside0.mk (below_step L.out hb)
    clear X L hb
    have X := n0_
    have L := n1_
    clear n0_ n1_
    go_wp2_with (first
      | ((with_reducible refine gate_store (t := 45) (p := 2) rfl ?_); refine store_ev rfl rfl rfl (cells := #[.int .i64 0, .int .i64 0, .int .i64 0, .string ⟨#[]⟩, .int .i64 0, .string ⟨#[]⟩, .int .i64 0, .string ⟨#[]⟩, .int .i64 0, .int .i64 0, .int .i64 0, .bool false, .string ⟨#[]⟩, .string ⟨#[]⟩, .int .i64 0, .int .i64 0, .int .i64 0, .int .i64 0, .int .i64 0, .slice none 0 0]) rfl rfl X.out (by kernel_rfl) rfl (by kernel_rfl) ?_; intro w9 hbx hgr; have X9 := Aside0.mk hbx; have L9 := Aside0.mk (below_put L.out G.out hgr L.out.size); clear hbx hgr X L))
    refine bodyPost_ret (results_ctt rfl _ _ g2 45 #[.int .i64 0, .int .i64 0, .int .i64 0, .string ⟨#[]⟩, .int .i64 0, .string ⟨#[]⟩, .int .i64 0, .string ⟨#[]⟩, .int .i64 0, .int .i64 0, .int .i64 0, .bool false, .string ⟨#[]⟩, .string ⟨#[]⟩, .int .i64 0, .int .i64 0, .int .i64 0, .int .i64 0, .int .i64 0, .slice none 0 0] (0, 0) _ rfl X9.out Try.underlying45 rfl (by kernel_rfl)) rfl ?_
    rw [hdef.out]
    exact ⟨_, rfl, Kd.R_nil _ _ _ _ _, L9.out⟩

  rw [if_neg h5] at hdef
  obtain ⟨n, rfl⟩ : ∃ n : Nat, sz = (n : Int) := ⟨sz.toNat, by omega⟩
  have hn5 : 5 ≤ n := by omega
  have hns : n ≤ s.size := by omega
  have hi5 : (5 : Int) ≤ (s.size : Int) := by omega
  have hi6 : (5 : Int) ≤ (n : Int) := by omega
  have hi7 : (n : Int) ≤ (s.size : Int) := by omega
  have hi2 : (2 : Int) < (s.size : Int) := by omega
  have hrd := Aside0.mk (fun W : World => read_calls s 3 (by omega) W)
  have hbe := be2_range s 3
  have hbt := bt_range s 2
  have hat : ∀ h : 2 < s.size, ((s[2]'h).toNat : Int) = bt s 2 := fun h => bt_at s 2 h
  have hw1 : IntKind.i64.wrap (be2 s 3) = be2 s 3 := IntWalk.i64_in _ (by omega)
  have hw2 : IntKind.i64.wrap (bt s 2) = bt s 2 := IntWalk.i64_in _ (by omega)
  have hez : (s.extract 5 n).size ≤ 100000 := by rw [ByteArray.size_extract]; omega
  rw [Int.toNat_natCast] at hst
  have hrq := Aside0.mk (fun (gb : Nat) (W : World) (hI : IsS108 w W gb (s.extract 5 n) false) (hB : Below w.heap.size w W) => request_calls (rq0 (bt s 2) (be2 s 3)) (s.extract 5 n, false) gb w W hI hB hez)
  rw [show (rq0 (bt s 2) (be2 s 3)).kind = bt s 2 from rfl, ← hst.out] at hrq
  have hpl : (decSt s).ps.length ≤ 17 := by rw [hst.out]; exact reqL_ps _ _ _
  generalize decSt s = st at *
  clear h1 h2 h5 hst hez
  generalize be2 s 3 = idn at *
  go_enter Try.func24, Try.ntmps24
  go_wp2_with (first
    | ((with_reducible refine gate_dst (N := 2) rfl ?_); refine box_event rfl (N := 2) rfl (cs := #[.int .i64 0, .int .i64 0, .int .i64 0, .string ⟨#[]⟩, .int .i64 0, .string ⟨#[]⟩, .int .i64 0, .string ⟨#[]⟩, .int .i64 0, .int .i64 0, .int .i64 0, .bool false, .string ⟨#[]⟩, .string ⟨#[]⟩, .int .i64 0, .int .i64 0, .int .i64 0, .int .i64 0, .int .i64 0, .slice none 0 0]) (t := 45) ?hr ?_; (case hr => first | (go_simp; done) | (go_simp; rfl)); intro g2 hg2 w1 hbx hbl; have X := Aside0.mk hbx; have L := Aside0.mk hbl; have G := Aside0.mk (Nat.le_of_eq hg2.symm); clear hbx hbl hg2))
  refine (hpk.out _).mono ?_
  rintro e w2 ⟨rfl, hb⟩
  have n0_ := Aside0.mk (blk_below X.out hb)
  have n1_ := Aside0.mk (below_step L.out hb)
  clear X L hb
  have X := n0_
  have L := n1_
  clear n0_ n1_
  go_wp2_with fail
  refine (hrd.out _).mono ?_
  rintro e w3 ⟨rfl, hb⟩
  have n0_ := Aside0.mk (blk_below X.out hb)
  have n1_ := Aside0.mk (below_step L.out hb)
  clear X L hb
  have X := n0_
  have L := n1_
  clear n0_ n1_
  go_wp2_with (first
    | ((with_reducible refine gate_dst (N := 40) rfl ?_); refine box_event rfl (N := 40) rfl (cs := #[.string (s.extract 5 n), .bool false]) (t := 108) ?hr ?_; (case hr => first | (go_simp; done) | (go_simp; rfl)); intro g8 hg8 w4 hbx hbl; have X4 := Aside0.mk (blk_below X.out hbl); have I4 : Aside0 (IsS108 w w4 g8 (s.extract 5 n) false) := ⟨⟨hbx, by rw [hg8]; exact L.out.size⟩⟩; have L4 := Aside0.mk (below_step L.out hbl); have N4 := Aside0.mk (show g2 ≠ g8 by rw [hg8]; exact Nat.ne_of_lt (blk_lt X.out)); clear X L hbx hbl hg8))
  generalize bt s 2 = kd at *
  refine (hrq.out g8 _ I4.out L4.out).mono ?_
  rintro e w5 ⟨u, rfl, hr, hI, hb, hk⟩
  have X := Aside0.mk (blk_keep X4.out hk N4.out)
  have I := Aside0.mk hI
  have L := Aside0.mk hb
  have R := Aside0.mk (Kd.R_lower hr L4.out.size)
  clear X4 I4 L4 hr hI hb hk hrq hrd hpk
  obtain ⟨B, m, hu⟩ := Kd.R_slice R.out
  subst hu
  go_wp2_with (first
    | ((with_reducible refine gate_dst (N := 9) rfl ?_); refine box_event rfl (N := 9) rfl (cs := #[.int .i64 0, .int .i64 0, .int .i64 0, .string ⟨#[]⟩, .int .i64 0, .string ⟨#[]⟩, .int .i64 0, .string ⟨#[]⟩, .int .i64 0, .int .i64 0, .int .i64 0, .bool false, .string ⟨#[]⟩, .string ⟨#[]⟩, .int .i64 0, .int .i64 0, .int .i64 0, .int .i64 0, .int .i64 0, .slice none 0 0]) (t := 45) ?hr ?_; (case hr => first | (go_simp; done) | (go_simp; rfl)); intro g9 hg9 w6 hbx hbl; have n0_ := Aside0.mk (blk_below X.out hbl); have n1_ := Aside0.mk (I.out.below hbl); have n2_ := Aside0.mk (below_step L.out hbl); have n3_ := Aside0.mk (Kd.R_below R.out hbl); have Y := Aside0.mk hbx; have GY := Aside0.mk (show w.heap.size ≤ g9 by rw [hg9]; exact L.out.size); have N9 := Aside0.mk (show g2 ≠ g9 by rw [hg9]; exact Nat.ne_of_lt (blk_lt X.out)); have N8 := Aside0.mk (show g8 ≠ g9 by rw [hg9]; exact Nat.ne_of_lt (blk_lt I.out.1)); clear X I L R hbx hbl hg9; have X := n0_; have I := n1_; have L := n2_; have R := n3_; clear n0_ n1_ n2_ n3_)
    | ((with_reducible refine gate_store (t := 45) (p := 9) rfl ?_); refine Aside0.out ?_))

  constructor
  refine store_ev rfl rfl rfl (cells := st.y.cs (.slice B st.ps.length m)) rfl rfl Y.out (by kernel_rfl) rfl (by kernel_rfl) ?_
  intro w7 hbx hgr
  have n0_ := Aside0.mk (grown_at hgr X.out N9.out)
  have n1_ : Aside0 (IsS108 w w7 g8 st.r.1 st.r.2) := ⟨⟨grown_at hgr I.out.1 N8.out, I.out.2⟩⟩
  have n2_ := Aside0.mk (below_put L.out GY.out hgr L.out.size)
  have n3_ := Aside0.mk (pairs_grown R.out hgr (fun cells e => by rw [Y.out] at e; simp at e))
  have n4_ := Aside0.mk hbx
  clear X I L R Y hbx hgr
  have X := n0_
  have I := n1_
  have L := n2_
  have R := n3_
  have Y := n4_
  clear n0_ n1_ n2_ n3_ n4_
  obtain ⟨rs, hrs⟩ : ∃ rs, st.r.1 = rs := ⟨_, rfl⟩
  obtain ⟨rb, hrb⟩ : ∃ rb, st.r.2 = rb := ⟨_, rfl⟩
  rw [hrs, hrb] at I hdef
  clear hrs hrb
  have c80 : w7.cell? ⟨g8, 0, none⟩ = some (.string rs) := (blk_cell I.out.1 0).trans rfl
  have c81 : w7.cell? ⟨g8, 1, none⟩ = some (.bool rb) := (blk_cell I.out.1 1).trans rfl
  have hund : ∀ b, some undef = some (Value.bool b) → False := fun b h => by simp [undef] at h
  by_cases hb1 : rb = true
  case pos =>
    rw [if_pos hb1] at hdef
    subst hb1
    go_wp2_with (first
      | ((with_reducible refine gate_store (t := 45) (p := 2) rfl ?_); refine store_ev rfl rfl rfl (cells := #[.int .i64 0, .int .i64 0, .int .i64 0, .string ⟨#[]⟩, .int .i64 0, .string ⟨#[]⟩, .int .i64 0, .string ⟨#[]⟩, .int .i64 0, .int .i64 0, .int .i64 0, .bool false, .string ⟨#[]⟩, .string ⟨#[]⟩, .int .i64 0, .int .i64 0, .int .i64 0, .int .i64 0, .int .i64 0, .slice none 0 0]) rfl rfl X.out (by kernel_rfl) rfl (by kernel_rfl) ?_; intro w9 hbx hgr; have X9 := Aside0.mk hbx; have L9 := Aside0.mk (below_put L.out G.out hgr L.out.size); clear hbx hgr X L))
    refine bodyPost_ret (results_ctt rfl _ _ g2 45 #[.int .i64 0, .int .i64 0, .int .i64 0, .string ⟨#[]⟩, .int .i64 0, .string ⟨#[]⟩, .int .i64 0, .string ⟨#[]⟩, .int .i64 0, .int .i64 0, .int .i64 0, .bool false, .string ⟨#[]⟩, .string ⟨#[]⟩, .int .i64 0, .int .i64 0, .int .i64 0, .int .i64 0, .int .i64 0, .slice none 0 0] (0, 0) _ rfl X9.out Try.underlying45 rfl (by kernel_rfl)) rfl ?_
    rw [hdef.out]
    exact ⟨_, rfl, Kd.R_nil _ _ _ _ _, L9.out⟩

  rw [if_neg hb1] at hdef
  obtain rfl : rb = false := by simpa using hb1
  clear hb1
  by_cases he : rs.toList ≠ []
  case pos =>
    rw [if_pos he] at hdef
    have he1 : (!rs.toList.isEmpty) = true := by simpa using he
    have he2 : rs.toList.isEmpty = false := by simpa using he
    go_wp2_with (first
      | ((with_reducible refine gate_store (t := 45) (p := 2) rfl ?_); refine store_ev rfl rfl rfl (cells := #[.int .i64 0, .int .i64 0, .int .i64 0, .string ⟨#[]⟩, .int .i64 0, .string ⟨#[]⟩, .int .i64 0, .string ⟨#[]⟩, .int .i64 0, .int .i64 0, .int .i64 0, .bool false, .string ⟨#[]⟩, .string ⟨#[]⟩, .int .i64 0, .int .i64 0, .int .i64 0, .int .i64 0, .int .i64 0, .slice none 0 0]) rfl rfl X.out (by kernel_rfl) rfl (by kernel_rfl) ?_; intro w9 hbx hgr; have X9 := Aside0.mk hbx; have L9 := Aside0.mk (below_put L.out G.out hgr L.out.size); clear hbx hgr X L))
    refine bodyPost_ret (results_ctt rfl _ _ g2 45 #[.int .i64 0, .int .i64 0, .int .i64 0, .string ⟨#[]⟩, .int .i64 0, .string ⟨#[]⟩, .int .i64 0, .string ⟨#[]⟩, .int .i64 0, .int .i64 0, .int .i64 0, .bool false, .string ⟨#[]⟩, .string ⟨#[]⟩, .int .i64 0, .int .i64 0, .int .i64 0, .int .i64 0, .int .i64 0, .slice none 0 0] (0, 0) _ rfl X9.out Try.underlying45 rfl (by kernel_rfl)) rfl ?_
    rw [hdef.out]
    exact ⟨_, rfl, Kd.R_nil _ _ _ _ _, L9.out⟩

  rw [if_neg he] at hdef
  have he0 : rs.toList = [] := by simpa using he
  have he1 : (!rs.toList.isEmpty) = false := by rw [he0]; rfl
  have he2 : rs.toList.isEmpty = true := by rw [he0]; rfl
  clear he
  have hprs := Aside0.mk (prs_of_R R.out (by omega))
  have hmay := Aside0.mk (may_calls st.y B m st.ps w7 hprs.out.1 hprs.out.2)
  clear hpl
  by_cases hm : mayB st.y st.ps = true
  case neg =>
    rw [if_neg hm] at hdef
    have hm' : mayB st.y st.ps = false := by simpa using hm
    rw [hm'] at hmay
    clear hm hm'
    go_wp2_with (first
      | ((with_reducible refine gate_dst (N := 61) rfl ?_); refine load_evg (N := 61) rfl rfl (cs := st.y.cs (.slice B st.ps.length m)) rfl Y.out Try.underlying45 rfl (by kernel_rfl) ?hw ?_; (case hw => first | rfl | go_simp)))
    refine (hmay.out).mono ?_
    rintro e w8 ⟨rfl, hb⟩
    have n0_ := Aside0.mk (blk_below X.out hb)
    have n1_ := Aside0.mk (below_step L.out hb)
    clear X L hb
    have X := n0_
    have L := n1_
    clear n0_ n1_
    go_wp2_with (first
      | ((with_reducible refine gate_store (t := 45) (p := 2) rfl ?_); refine store_ev rfl rfl rfl (cells := #[.int .i64 0, .int .i64 0, .int .i64 0, .string ⟨#[]⟩, .int .i64 0, .string ⟨#[]⟩, .int .i64 0, .string ⟨#[]⟩, .int .i64 0, .int .i64 0, .int .i64 0, .bool false, .string ⟨#[]⟩, .string ⟨#[]⟩, .int .i64 0, .int .i64 0, .int .i64 0, .int .i64 0, .int .i64 0, .slice none 0 0]) rfl rfl X.out (by kernel_rfl) rfl (by kernel_rfl) ?_; intro w9 hbx hgr; have X9 := Aside0.mk hbx; have L9 := Aside0.mk (below_put L.out G.out hgr L.out.size); clear hbx hgr X L))
    refine bodyPost_ret (results_ctt rfl _ _ g2 45 #[.int .i64 0, .int .i64 0, .int .i64 0, .string ⟨#[]⟩, .int .i64 0, .string ⟨#[]⟩, .int .i64 0, .string ⟨#[]⟩, .int .i64 0, .int .i64 0, .int .i64 0, .bool false, .string ⟨#[]⟩, .string ⟨#[]⟩, .int .i64 0, .int .i64 0, .int .i64 0, .int .i64 0, .int .i64 0, .slice none 0 0] (0, 0) _ rfl X9.out Try.underlying45 rfl (by kernel_rfl)) rfl ?_
    rw [hdef.out]
    exact ⟨_, rfl, Kd.R_nil _ _ _ _ _, L9.out⟩

  rw [if_pos hm] at hdef
  rw [hm] at hmay
  clear hm
  go_wp2_with (first
    | ((with_reducible refine gate_dst (N := 61) rfl ?_); refine load_evg (N := 61) rfl rfl (cs := st.y.cs (.slice B st.ps.length m)) rfl Y.out Try.underlying45 rfl (by kernel_rfl) ?hw ?_; (case hw => first | rfl | go_simp)))
  refine (hmay.out).mono ?_
  rintro e w8 ⟨rfl, hb⟩
  have X8 := Aside0.mk (blk_below X.out hb)
  have L8 := Aside0.mk (below_step L.out hb)
  have R8 := Aside0.mk (Kd.R_below R.out hb)
  have Y8 := Aside0.mk (blk_below Y.out hb)
  clear X L R Y hb
  go_wp2_with (first
    | ((with_reducible refine gate_dst (N := 66) rfl ?_); refine load_ev (N := 66) rfl rfl rfl (cs := st.y.cs (.slice B st.ps.length m)) rfl Y8.out Try.underlying45 rfl (by kernel_rfl) ?_)
    | ((with_reducible refine gate_store (t := 45) (p := 2) rfl ?_); refine store_ev rfl rfl rfl (cells := st.y.cs (.slice B st.ps.length m)) rfl rfl X8.out (by kernel_rfl) rfl (by kernel_rfl) ?_; intro w9 hbx hgr; have X9 := Aside0.mk hbx; have L9 := Aside0.mk (below_put L8.out G.out hgr L8.out.size); have R9 := Aside0.mk (pairs_grown R8.out hgr (fun cells e => by rw [X8.out] at e; simp at e)); clear hbx hgr X8 L8 R8))
  refine bodyPost_ret (results_ctt rfl _ _ g2 45 (st.y.cs (.slice B st.ps.length m)) (0, 0) _ rfl X9.out Try.underlying45 rfl (by kernel_rfl)) rfl ?_
  rw [hdef.out]
  exact ⟨_, rfl, R9.out, L9.out⟩

end Go.Proofs.Ytlgihjhlkpmpnaa.Wire
