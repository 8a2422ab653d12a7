import Derived.Test.YtlgihjhlkpmpnaaRWireQb
import Derived.Deep.Slices
namespace Go.Proofs.Ytlgihjhlkpmpnaa.Wire
set_option linter.unusedVariables false
set_option linter.unusedSimpArgs false
open Go.RowKit Go.Proofs.YtlgihjhlkpmpnaaW.PrintWords Go.Proofs.YtlgihjhlkpmpnaaW.PrintLast Go.Proofs.YtlgihjhlkpmpnaaW.PrintMore Go.Proofs.Ytlgihjhlkpmpnaa.Hand Go.Proofs.Ytlgihjhlkpmpnaa.PWire Go.Proofs.Ytlgihjhlkpmpnaa.PureNums
/-- whole numbers in a row -/
structure Ints (w : World) (A : Option Addr) (n : Nat) (l : List Int) : Prop where
  len : l.length = n
  mx : n ≤ 9223372036854775807
  row : ∀ (i : Nat) (h : i < l.length), ∃ a, A = some a ∧ w.cell? (a.add i) = some (.int .i64 l[i])
theorem loadm_run' {P : Program} {o : Oper} {a : Act} {W : World} {ty : TypeId} {p : Tmp} (ho : o.op = .load ty (.tmp p)) {b : Addr} {cs : Array Value} (hx : a.eval (.tmp p) = .pointer (some b)) {d : TypeDesc} (hc : ∀ (j : Nat) (v : Value), cs[j]? = some v → W.cell? (b.add j) = some v)
    (hu : P.underlying ty = some d) (hd : (match d with | .struct _ | .array _ _ => true | _ => false) = true) (hi : (P.info? ty).map (·.size) = some cs.size) : (execOp a.eval o).run P W = .ok (.value (.agg cs)) W := by
  have hl : (loadCells b cs.toList.length).run P W = .ok cs.toList.toArray W :=
    run_loadCells_list (P := P) W b cs.toList (fun j v hv => hc j v (by simpa using hv))
  have hv : (loadVar ty b).run P W = .ok (.agg cs) W := by
    cases hq : P.info? ty with
    | none => simp [hq] at hi
    | some i =>
      have hs : i.size = cs.size := by simpa [hq] using hi
      have hagg : (isAgg ty).run P W = .ok true W := by
        unfold isAgg
        rw [Sem.run_bind, run_underlying hu W]
        cases d <;> simp_all
      simp only [Array.length_toList, Array.toArray_toList] at hl
      simp [loadVar, Sem.run_bind, hagg, sizeOf, typeInfo, hq, hs, hl]
  unfold execOp
  simp only [ho, hx, Instr.loadAt, Instr.sureAddr, Sem.run_bind, Sem.run_pure, Result.andThen_ok, hv]
theorem at_req {w : World} {A : Option Addr} {n : Nat} {xs : List RQ} (h : Kd.C kRq w A n xs) (i : Nat) (hi : i < n) (hx : i < xs.length) :
    ∃ ad A' c', A = some ad ∧ (∀ (j : Nat) (u : Value), ((xs[i].1.cs (.slice A' xs[i].2.length c'))[j]? = some u) → w.cell? ((ad.add (i * 20)).add j) = some u) ∧ Kd.C k102 w A' xs[i].2.length xs[i].2 := by
  obtain ⟨ad, c, hA, _, hK, hc⟩ := Kd.C_get h xs[i] (i : Int) (by omega) (by omega)
  rw [Int.toNat_natCast] at hK hc
  have e : xs.getD i xs[i] = xs[i] := by rw [List.getD_eq_getElem?_getD, List.getElem?_eq_getElem hx]; rfl
  rw [e] at hK
  obtain ⟨A', c', rfl, _, hC⟩ := hK
  refine ⟨ad, A', c', hA, fun j u hu => ?_, hC⟩
  rw [Go.Deep.add_add]
  exact hc j u ((Array.getElem?_toList ..).trans hu)
theorem reads_of {W : World} {base : Nat} {A : Option Addr} {m c : Nat} {ys : List RQ} (h : Kd.R kRq 45 W base (fun _ => True) (.slice A m c) ys) : ReadsRow (fun x cs => kRq.M W base (fun _ => True) x cs) kRq.sz W A m ys := by
  obtain ⟨A', c', he, hl, hr⟩ := OwnRow.reads h.2
  injection he with h1 h2 h3
  subst h1 h2 h3
  exact hr.imp_ (Below.refl _ _) (fun _ _ hp => kRq.M_mono (fun _ _ => trivial) hp)
/-- what is told and what is to come are all -/
def Inv (gl : List RQ) (hd : ByteArray) (b : Bool) (rest : ByteArray) (L : List RQ) (B : Bool) : Prop :=
  gl ++ (tellN 1000 (hd ++ (if b then ⟨#[]⟩ else rest)) b).1 = L ∧ (tellN 1000 (hd ++ (if b then ⟨#[]⟩ else rest)) b).2.2 = B
theorem app_nil' (s : ByteArray) : s ++ (⟨#[]⟩ : ByteArray) = s := ByteArray.append_empty
theorem feed_in (hd : ByteArray) (b : Bool) (s : ByteArray) (h : hd.size + s.size ≤ 4000) : (feedB hd b s).1 = hd ++ (if b then ⟨#[]⟩ else s) := by
  cases b with
  | true => exact (app_nil' hd).symm
  | false =>
    show (feedR hd s).1 = hd ++ s
    unfold feedR
    rw [if_neg (by omega)]
theorem inv_step {gl : List RQ} {hd : ByteArray} {b : Bool} {rest : ByteArray} {L : List RQ} {B : Bool} (h : Inv gl hd b rest L B) (k : Nat) (hk : k ≤ rest.size) (hz : hd.size + rest.size ≤ 3000) :
    Inv (gl ++ (tellN 1000 (feedB hd b (rest.extract 0 k)).1 b).1) (tellN 1000 (feedB hd b (rest.extract 0 k)).1 b).2.1 (tellN 1000 (feedB hd b (rest.extract 0 k)).1 b).2.2 (rest.extract k rest.size) L B := by
  have hz1 : (rest.extract 0 k).size = k := by rw [ByteArray.size_extract]; omega
  have hz2 : (rest.extract k rest.size).size = rest.size - k := by rw [ByteArray.size_extract]; omega
  rw [feed_in hd b _ (by omega)]
  unfold Inv at h ⊢
  cases b with
  | true =>
    simp only [if_true, tell_true, app_nil', List.append_nil] at h ⊢
    exact h
  | false =>
    simp only [Bool.false_eq_true, if_false] at h ⊢
    have hs := tell_split 1000 (hd ++ rest.extract 0 k) (rest.extract k rest.size) (by rw [ByteArray.size_append]; omega)
    have e : hd ++ rest.extract 0 k ++ rest.extract k rest.size = hd ++ rest := by
      rw [ByteArray.append_assoc, ← split_mid rest 0 k rest.size (by omega) hk]
      congr 1
      exact ByteArray.extract_zero_size
    rw [e] at hs
    rw [hs.1, hs.2] at h
    rw [List.append_assoc]
    exact h
theorem inv_end {gl : List RQ} {hd : ByteArray} {b : Bool} {rest : ByteArray} {L : List RQ} {B : Bool} (h : Inv gl hd b rest L B) (hz : hd.size + rest.size ≤ 3000) :
    gl ++ (tellN 1000 (feedB hd b rest).1 b).1 = L ∧ (tellN 1000 (feedB hd b rest).1 b).2.2 = B := by
  rw [feed_in hd b rest (by omega)]
  exact h
theorem tell_small (k : Nat) (h : ByteArray) (b : Bool) : (tellN k h b).2.1.size ≤ h.size := by
  cases b with
  | true => rw [tell_true]; exact Nat.le_refl _
  | false => exact tell_size k h
theorem tell_few (h : ByteArray) (b : Bool) : (tellN 1000 h b).1.length ≤ 1000 := tell_len 1000 h b
set_option maxHeartbeats 64000000 in
set_option maxRecDepth 100000 in
theorem pieces_calls (s : ByteArray) (l : List Int) (A : Option Addr) (n k : Nat) (w : World) (hp : Ints w A n l) :
    Calls Try.prog 4 #[.string s, .slice A n k] w fun e w' => e = .returned (.bool true) ∧ Below w.heap.size w w' := by
  have hund : ∀ b, some undef = some (Value.bool b) → False := fun b h => by simp [undef] at h
  have HP := Aside0.mk hp
  have hnl := hp.len
  have hmx := hp.mx
  have hhf := Aside0.mk (fun W : World => half_calls W)
  have hnw := Aside0.mk (fun W : World => new_calls W)
  clear hp
  by_cases hs1 : (3000 : Int) < (s.size : Int)
  · go_enter Try.func4, Try.ntmps4
    go_wp2_with fail
    refine (hhf.out _).mono ?_
    rintro e w2 ⟨rfl, hb2⟩
    go_wp2_with fail
    go_ret
    exact ⟨rfl, hb2⟩
  by_cases hn1 : (40 : Int) < (n : Int)
  · go_enter Try.func4, Try.ntmps4
    go_wp2_with fail
    refine (hhf.out _).mono ?_
    rintro e w2 ⟨rfl, hb2⟩
    go_wp2_with fail
    go_ret
    exact ⟨rfl, hb2⟩
  have hs : s.size ≤ 3000 := by omega
  have hn : n ≤ 40 := by omega
  have hf0 : feedB ⟨#[]⟩ false s = (s, 0) := by
    have e : (⟨#[]⟩ : ByteArray) ++ s = s := ByteArray.empty_append
    show feedR ⟨#[]⟩ s = _
    unfold feedR
    rw [if_neg (by have h0 : (⟨#[]⟩ : ByteArray).size = 0 := rfl; omega), e]
  have f1 := Aside0.mk (fun (g : Nat) (W : World) (h : W.heap[g]? = some (prow ⟨#[]⟩ false)) => feed_calls g ⟨#[]⟩ false s W h (by decide) (by omega))
  rw [hf0] at f1
  clear hf0
  have t1 := Aside0.mk (fun (g : Nat) (W : World) (h : W.heap[g]? = some (prow s false)) => told_calls g s false W h (by omega))
  obtain ⟨T0, hT0⟩ : ∃ T0, tellN 1000 s false = T0 := ⟨_, rfl⟩
  have hLn := tell_few s false
  rw [hT0] at t1 hLn
  obtain ⟨L, hE, B⟩ := T0
  simp only at t1 hLn
  have hI0 : Aside0 (Inv [] ⟨#[]⟩ false s L B) := ⟨by
    have e : (⟨#[]⟩ : ByteArray) ++ s = s := ByteArray.empty_append
    unfold Inv
    simp only [Bool.false_eq_true, if_false, e, hT0]
    first | exact ⟨List.nil_append _, rfl⟩ | exact ⟨List.nil_append _, trivial⟩⟩
  clear hT0
  go_enter Try.func4, Try.ntmps4
  go_wp2_with fail
  refine (hnw.out _).mono ?_
  rintro e w1 ⟨gp, rfl, hgs, hG, hb⟩
  have HB := Aside0.mk hb
  have GPL := Aside0.mk hgs
  have P := Aside0.mk hG
  clear hb hgs hG
  go_wp2_with fail
  refine (hnw.out _).mono ?_
  rintro e w2 ⟨gq, rfl, hgs, hG, hb⟩
  have GQL := Aside0.mk (Nat.le_trans HB.out.size hgs)
  have D := Aside0.mk (show gp ≠ gq from Nat.ne_of_lt (Nat.lt_of_lt_of_le (blk_lt P.out) hgs))
  have Q := Aside0.mk hG
  have n_P := Aside0.mk (blk_below P.out hb)
  have n_HB := Aside0.mk (below_step HB.out hb)
  clear P HB hb hG hgs hnw
  have P := n_P
  have HB := n_HB
  clear n_P n_HB
  go_wp2_with fail
  refine (f1.out gp _ P.out).mono ?_
  rintro e w3 ⟨rfl, hG, hF⟩
  have n_Q := Aside0.mk (grown_at hF Q.out (Ne.symm D.out))
  have n_HB := Aside0.mk (below_put HB.out GPL.out hF HB.out.size)
  have n_P := Aside0.mk (hG)
  clear Q HB P hG hF f1
  have Q := n_Q
  have HB := n_HB
  have P := n_P
  clear n_Q n_HB n_P
  go_wp2_with fail
  refine (t1.out gp _ P.out).mono ?_
  rintro e w4 ⟨uw, rfl, hR, hG, hF⟩
  obtain ⟨Aw, cw, hu⟩ := Kd.R_slice hR
  subst hu
  have RW := Aside0.mk (Kd.R_lower hR HB.out.size)
  have n_Q := Aside0.mk (grown_at hF Q.out (Ne.symm D.out))
  have n_HB := Aside0.mk (below_put HB.out GPL.out hF HB.out.size)
  have n_P := Aside0.mk (hG)
  clear Q HB P hG hF t1 hR
  have Q := n_Q
  have HB := n_HB
  have P := n_P
  clear n_Q n_HB n_P
  have QT := Aside0.mk (blk_lt Q.out)
  go_wp2_with fail
  go_loopw [9, 10, 35] (fun gv rv iv wr => ∃ (i : Nat) (gl : List RQ) (rest hd : ByteArray) (b : Bool), rv = .string rest ∧ iv = .int .i64 i ∧ i ≤ n ∧ Aside0 (hd.size + rest.size ≤ 3000) ∧ Aside0 (gl.length ≤ 1000 * i) ∧ Aside0 (Inv gl hd b rest L B) ∧ Aside0 (Kd.R kRq 45 wr w4.heap.size (fun _ => True) gv gl) ∧ Aside0 (wr.heap[gq]? = some (prow hd b)) ∧ Aside0 (w4.grownBy wr (some gq))) (fun _ _ iv _ => n - (intOf iv).toNat)
  case atStart => exact ⟨0, [], s, ⟨#[]⟩, false, rfl, rfl, Nat.zero_le _, ⟨by have h0 : (⟨#[]⟩ : ByteArray).size = 0 := rfl; omega⟩, ⟨Nat.zero_le _⟩, hI0, ⟨Kd.R_nil _ _ _ _ _⟩, Q, ⟨far_refl _ _⟩⟩
  case round =>
    have QW := Q
    clear Q hI0
    obtain ⟨i, gl, rest, hd, b, rfl, rfl, hil, HZ, HN, HI, R, Q, F⟩ := hrel
    by_cases hlt : i < n

    · obtain ⟨ad, hAd, hc⟩ := HP.out.row i (by omega)
      have HBr := Aside0.mk (below_put HB.out GQL.out F.out HB.out.size)
      have hci := cell_of HBr.out hc (Nat.le_refl _)
      clear hc
      subst hAd
      generalize l[i] = m at *
      obtain ⟨m2, hm3, h20⟩ : ∃ m2 : Int, (if m < 0 then (0 : Int) else m) = m2 ∧ 0 ≤ m2 := ⟨_, rfl, by split <;> omega⟩
      obtain ⟨c, hk3, hkz⟩ : ∃ c : Nat, (if (rest.size : Int) < m2 then (rest.size : Int) else m2) = (c : Int) ∧ c ≤ rest.size := ⟨(if (rest.size : Int) < m2 then (rest.size : Int) else m2).toNat, by split <;> omega, by split <;> omega⟩
      have hI2 := Aside0.mk (inv_step HI.out c hkz HZ.out)
      have hz1 : (rest.extract 0 c).size = c := by rw [ByteArray.size_extract]; omega
      have hz2 : (rest.extract c rest.size).size = rest.size - c := by rw [ByteArray.size_extract]; omega
      have hfd := Aside0.mk (fun (W : World) (h : W.heap[gq]? = some (prow hd b)) => feed_calls gq hd b (rest.extract 0 c) W h (by have := HZ.out; omega) (by have := HZ.out; omega))
      have hfz : (feedB hd b (rest.extract 0 c)).1.size ≤ hd.size + c := by
        rw [feed_in hd b _ (by have := HZ.out; omega), ByteArray.size_append]
        split
        · show hd.size + 0 ≤ hd.size + c
          omega
        · omega
      have htd := Aside0.mk (fun (W : World) (h : W.heap[gq]? = some (prow (feedB hd b (rest.extract 0 c)).1 b)) => told_calls gq (feedB hd b (rest.extract 0 c)).1 b W h (by have := HZ.out; omega))
      have htz := tell_small 1000 (feedB hd b (rest.extract 0 c)).1 b
      have htf := tell_few (feedB hd b (rest.extract 0 c)).1 b
      have hZ2 : Aside0 ((tellN 1000 (feedB hd b (rest.extract 0 c)).1 b).2.1.size + (rest.extract c rest.size).size ≤ 3000) := ⟨by have := HZ.out; omega⟩
      obtain ⟨fd, hfd2⟩ : ∃ x, feedB hd b (rest.extract 0 c) = x := ⟨_, rfl⟩
      simp only [hfd2] at hI2 hfd htd hZ2 htf
      obtain ⟨T1, hT1⟩ : ∃ x, tellN 1000 fd.1 b = x := ⟨_, rfl⟩
      simp only [hT1] at hI2 htd hZ2 htf
      obtain ⟨tl, th, tb⟩ := T1
      simp only at hI2 htd hZ2 htf
      have HN2 : Aside0 ((gl ++ tl).length ≤ 1000 * (i + 1)) := ⟨by rw [List.length_append]; have := HN.out; omega⟩
      have hlen : (gl.length + tl.length) * 216 ≤ 140737488355328 := by have := HN.out; omega
      clear hz1 hz2 hfz htz htf hT1 hfd2 HI HZ HN
      go_wp2_with fail
      refine (hfd.out _ Q.out).mono ?_
      rintro e w5 ⟨rfl, hG, hF⟩
      have n_R := Aside0.mk (reqs_grown R.out hF Q.out (by decide) (by decide))
      have n_F := Aside0.mk (far_trans F.out hF)
      have n_Q := Aside0.mk (hG)
      clear R F Q hG hF hfd hci HBr
      have R := n_R
      have F := n_F
      have Q := n_Q
      clear n_R n_F n_Q
      go_wp2_with fail
      refine (htd.out _ Q.out).mono ?_
      rintro e w6 ⟨u, rfl, hR2, hG, hF⟩
      obtain ⟨A2, c2, hu⟩ := Kd.R_slice hR2
      subst hu
      have R2 := Aside0.mk (Kd.R_lower hR2 F.out.size)
      have n_R := Aside0.mk (reqs_grown R.out hF Q.out (by decide) (by decide))
      have n_F := Aside0.mk (far_trans F.out hF)
      have n_Q := Aside0.mk (hG)
      clear R F Q hG hF htd hR2
      have R := n_R
      have F := n_F
      have Q := n_Q
      clear n_R n_F n_Q
      go_wp2_with (first
        | ((with_reducible refine gate_builtin (b := .append) (xs := #[.tmp 52, .tmp 54]) rfl ?_); at_builtin; refine Kd.R_append_rows kRq (w0 := w6) w4.heap.size rfl (.tmp 52) (.tmp 54) 37 45 (.agg #[.int .i64 0, .int .i64 0, .int .i64 0, .string ⟨#[]⟩, .int .i64 0, .string ⟨#[]⟩, .int .i64 0, .string ⟨#[]⟩, .int .i64 0, .int .i64 0, .int .i64 0, .bool false, .string ⟨#[]⟩, .string ⟨#[]⟩, .int .i64 0, .int .i64 0, .int .i64 0, .int .i64 0, .int .i64 0, .slice none 0 0]) 216 rfl Try.underlying37 info45 rfl (by decide) (by decide) _ gl tl A2 _ c2 (fun _ => True) (fun k => some k ≠ _) rfl rfl R.out (reads_of R2.out) (fun x cs hx => own_ne R.out hx) (fun _ hk => ⟨trivial, hk⟩) (fun _ _ => trivial) (Below.refl _ _) F.out.size ?aL ?_; (case aL => omega); intro v1 w7 ho hb hgr hat; have n_Q := Aside0.mk (row_own R.out hgr Q.out (by decide)); have n_F := Aside0.mk (far_own F.out R.out hgr); clear R R2 Q F hgr hat hb; have R := Aside0.mk ho; have Q := n_Q; have F := n_F; clear n_Q n_F ho))
      go_roundw
      case rel => exact ⟨i + 1, gl ++ tl, _, th, tb, rfl, by go_num, by omega, hZ2, HN2, hI2, R, Q, F⟩
      case measure => simp [intOf]; omega
    · obtain rfl : i = n := by omega
      clear hlt hil
      have hfd := Aside0.mk (fun (W : World) (h : W.heap[gq]? = some (prow hd b)) => feed_calls gq hd b rest W h (by have := HZ.out; omega) (by have := HZ.out; omega))
      have hE2 := Aside0.mk (inv_end HI.out HZ.out)
      have hfz : (feedB hd b rest).1.size ≤ 4000 := feedB_size hd b rest (by have := HZ.out; omega)
      have htd := Aside0.mk (fun (W : World) (h : W.heap[gq]? = some (prow (feedB hd b rest).1 b)) => told_calls gq (feedB hd b rest).1 b W h hfz)
      have htf := tell_few (feedB hd b rest).1 b
      obtain ⟨fd, hfd2⟩ : ∃ x, feedB hd b rest = x := ⟨_, rfl⟩
      simp only [hfd2] at hE2 hfd htd htf
      obtain ⟨T1, hT1⟩ : ∃ x, tellN 1000 fd.1 b = x := ⟨_, rfl⟩
      simp only [hT1] at hE2 htd htf
      obtain ⟨tl, th, tb⟩ := T1
      simp only at hE2 htd htf
      have hlen : (gl.length + tl.length) * 216 ≤ 140737488355328 := by have := HN.out; omega
      obtain ⟨hEL, hEB⟩ := hE2.out
      clear hfz htf hT1 hfd2 HI HZ HN hE2
      go_wp2_with fail
      refine (hfd.out _ Q.out).mono ?_
      rintro e w5 ⟨rfl, hG, hF⟩
      have n_R := Aside0.mk (reqs_grown R.out hF Q.out (by decide) (by decide))
      have n_F := Aside0.mk (far_trans F.out hF)
      have n_Q := Aside0.mk (hG)
      clear R F Q hG hF hfd
      have R := n_R
      have F := n_F
      have Q := n_Q
      clear n_R n_F n_Q
      go_wp2_with fail
      refine (htd.out _ Q.out).mono ?_
      rintro e w6 ⟨u, rfl, hR2, hG, hF⟩
      obtain ⟨A2, c2, hu⟩ := Kd.R_slice hR2
      subst hu
      have R2 := Aside0.mk (Kd.R_lower hR2 F.out.size)
      have n_R := Aside0.mk (reqs_grown R.out hF Q.out (by decide) (by decide))
      have n_F := Aside0.mk (far_trans F.out hF)
      have n_Q := Aside0.mk (hG)
      clear R F Q hG hF htd hR2
      have R := n_R
      have F := n_F
      have Q := n_Q
      clear n_R n_F n_Q
      go_upto_region 19 with (first
        | ((with_reducible refine gate_builtin (b := .append) (xs := #[.tmp 60, .tmp 62]) rfl ?_); at_builtin; refine Kd.R_append_rows kRq (w0 := w6) w4.heap.size rfl (.tmp 60) (.tmp 62) 37 45 (.agg #[.int .i64 0, .int .i64 0, .int .i64 0, .string ⟨#[]⟩, .int .i64 0, .string ⟨#[]⟩, .int .i64 0, .string ⟨#[]⟩, .int .i64 0, .int .i64 0, .int .i64 0, .bool false, .string ⟨#[]⟩, .string ⟨#[]⟩, .int .i64 0, .int .i64 0, .int .i64 0, .int .i64 0, .int .i64 0, .slice none 0 0]) 216 rfl Try.underlying37 info45 rfl (by decide) (by decide) _ gl tl A2 _ c2 (fun _ => True) (fun k => some k ≠ _) rfl rfl R.out (reads_of R2.out) (fun x cs hx => own_ne R.out hx) (fun _ hk => ⟨trivial, hk⟩) (fun _ _ => trivial) (Below.refl _ _) F.out.size ?aL ?_; (case aL => omega); intro v1 w7 ho hb hgr hat; have n_Q := Aside0.mk (row_own R.out hgr Q.out (by decide)); have n_F := Aside0.mk (far_own F.out R.out hgr); clear R R2 Q F hgr hat hb; have R := Aside0.mk ho; have Q := n_Q; have F := n_F; clear n_Q n_F ho))
      rw [hEL] at R
      rw [hEB] at Q
      obtain ⟨Ag, cg, hu⟩ := Kd.R_slice R.out
      subst hu
      have CG := Aside0.mk (Kd.R_reads' R.out).2.2
      have CW := Aside0.mk (Kd.R_reads' (reqs_grown RW.out F.out QW.out (by decide) (by decide))).2.2
      have PP := Aside0.mk (grown_at F.out P.out D.out)
      have HL := Aside0.mk (below_put HB.out GQL.out F.out HB.out.size)
      clear R RW F P HB QW HP hEL hEB
      have hL9 : L.length ≤ 9223372036854775807 := by omega
      go_wp2_with fail
      go_loopw [71] (fun iv wr => ∃ i : Nat, iv = .int .i64 i ∧ i ≤ L.length ∧ Aside0 (Below w7.heap.size w7 wr)) (fun iv _ => L.length - (intOf iv).toNat)
      case atStart => exact ⟨0, rfl, Nat.zero_le _, ⟨Below.refl _ _⟩⟩
      case round =>
        obtain ⟨i, rfl, hil, HS⟩ := hrel
        by_cases hlt : i < L.length
        · obtain ⟨aw, W1, e1, hAw, hw, hcw⟩ := at_req (Kd.C_below CW.out HS.out) i hlt hlt
          obtain ⟨ag, G1, e2, hAg, hg, hcg⟩ := at_req (Kd.C_below CG.out HS.out) i hlt hlt
          subst hAw
          subst hAg
          have HW := Aside0.mk hw
          have HG := Aside0.mk hg
          clear hw hg
          have hsm := Aside0.mk (fun (U : World) (h : Below wr.heap.size wr U) => same_calls L[i].1 W1 G1 e1 e2 L[i].2 U (Kd.C_below hcw h) (Kd.C_below hcg h))
          clear hcw hcg
          obtain ⟨rq, hrq⟩ : ∃ rq, L[i] = rq := ⟨_, rfl⟩
          simp only [hrq] at HW HG hsm
          clear hrq
          obtain ⟨y, ps⟩ := rq
          simp only at HW HG hsm
          have HX := Aside0.mk (Below.refl wr.heap.size wr)
          go_upto_region 24 with (first
            | ((with_reducible refine gate_dst (N := 75) rfl ?_); refine load_evm' (N := 75) rfl rfl rfl (cs := #[.int .i64 y.id, .int .i64 y.kind, .int .i64 y.label, .string y.pt, .int .i64 y.pp, .string y.tt, .int .i64 y.tp, .string y.sn, .int .i64 y.sp, .int .i64 y.sa, .int .i64 y.ss, .bool y.sc, .string y.grp, .string y.mem, .int .i64 y.gen, .int .i64 y.off, .int .i64 y.most, .int .i64 y.prod, .int .i64 y.seq, .slice W1 ps.length e1]) rfl HW.out Try.underlying45 rfl (by kernel_rfl) ?_)
            | ((with_reducible refine gate_dst (N := 15) rfl ?_); refine box_event rfl (N := 15) rfl (cs := #[.int .i64 0, .int .i64 0, .int .i64 0, .string ⟨#[]⟩, .int .i64 0, .string ⟨#[]⟩, .int .i64 0, .string ⟨#[]⟩, .int .i64 0, .int .i64 0, .int .i64 0, .bool false, .string ⟨#[]⟩, .string ⟨#[]⟩, .int .i64 0, .int .i64 0, .int .i64 0, .int .i64 0, .int .i64 0, .slice none 0 0]) (t := 45) ?hr ?_; (case hr => first | (go_simp; done) | (go_simp; rfl)); intro g15 hg15 x1 hbx hbl; have G15 := Aside0.mk (show wr.heap.size ≤ g15 by rw [hg15]; exact HX.out.size); have n_HX := Aside0.mk (below_step HX.out hbl); clear HX; have HX := n_HX; clear n_HX; have Y := Aside0.mk hbx; clear hbx hbl hg15)
            | ((with_reducible refine gate_store (t := 45) (p := 15) rfl ?_); refine store_ev rfl rfl rfl (cells := #[.int .i64 y.id, .int .i64 y.kind, .int .i64 y.label, .string y.pt, .int .i64 y.pp, .string y.tt, .int .i64 y.tp, .string y.sn, .int .i64 y.sp, .int .i64 y.sa, .int .i64 y.ss, .bool y.sc, .string y.grp, .string y.mem, .int .i64 y.gen, .int .i64 y.off, .int .i64 y.most, .int .i64 y.prod, .int .i64 y.seq, .slice W1 ps.length e1]) rfl rfl Y.out (by kernel_rfl) rfl (by kernel_rfl) ?_; intro x2 hbx hgr; have n_HX := Aside0.mk (below_put HX.out G15.out hgr HX.out.size); have n_Y := Aside0.mk (hbx); clear HX Y hbx hgr; have HX := n_HX; have Y := n_Y; clear n_HX n_Y))
          have n_HG : Aside0 (∀ (j : Nat) (u : Value), (#[.int .i64 y.id, .int .i64 y.kind, .int .i64 y.label, .string y.pt, .int .i64 y.pp, .string y.tt, .int .i64 y.tp, .string y.sn, .int .i64 y.sp, .int .i64 y.sa, .int .i64 y.ss, .bool y.sc, .string y.grp, .string y.mem, .int .i64 y.gen, .int .i64 y.off, .int .i64 y.most, .int .i64 y.prod, .int .i64 y.seq, .slice G1 ps.length e2] : Array Value)[j]? = some u → x2.drew.cell? ((ag.add (i * 20)).add j) = some u) := ⟨fun j u h => cell_of HX.out (HG.out j u h) (Nat.le_refl _)⟩
          clear HG HW
          have HG := n_HG
          clear n_HG
          have n_HX := Aside0.mk (below_step HX.out (below_drew (Below.refl _ _)))
          have n_Y := Aside0.mk (blk_drew Y.out)
          clear HX Y 
          have HX := n_HX
          have Y := n_Y
          clear n_HX n_Y
          refine start_ (n := 7) (S := fun w' => w'.heap[g15]? = some (.cells #[.int .i64 y.id, .int .i64 y.kind, .int .i64 y.label, .string y.pt, .int .i64 y.pp, .string y.tt, .int .i64 y.tp, .string y.sn, .int .i64 y.sp, .int .i64 y.sa, .int .i64 y.ss, .bool y.sc, .string y.grp, .string y.mem, .int .i64 y.gen, .int .i64 y.off, .int .i64 y.most, .int .i64 y.prod, .int .i64 y.seq, .slice W1 ps.length e1] 45 (0, 0)) ∧ (∀ (j : Nat) (u : Value), (#[.int .i64 y.id, .int .i64 y.kind, .int .i64 y.label, .string y.pt, .int .i64 y.pp, .string y.tt, .int .i64 y.tp, .string y.sn, .int .i64 y.sp, .int .i64 y.sa, .int .i64 y.ss, .bool y.sc, .string y.grp, .string y.mem, .int .i64 y.gen, .int .i64 y.off, .int .i64 y.most, .int .i64 y.prod, .int .i64 y.seq, .slice G1 ps.length e2] : Array Value)[j]? = some u → w'.cell? ((ag.add (i * 20)).add j) = some u)) (ds := []) #[false, false, false, false, false, false, false] (by kernel_rfl) rfl rfl ⟨Y.out, HG.out⟩ (fun _ => ?_)
          generalize x2.drew = V at *
          refine take_ (i := 0) (N := some 76) (v := .agg #[.int .i64 y.id, .int .i64 y.kind, .int .i64 y.label, .string y.pt, .int .i64 y.pp, .string y.tt, .int .i64 y.tp, .string y.sn, .int .i64 y.sp, .int .i64 y.sa, .int .i64 y.ss, .bool y.sc, .string y.grp, .string y.mem, .int .i64 y.gen, .int .i64 y.off, .int .i64 y.most, .int .i64 y.prod, .int .i64 y.seq, .slice W1 ps.length e1]) #[true, false, false, false, false, false, false] rfl rfl (by kernel_rfl) (fun _ _ _ h => h) (Or.inl ⟨by rfl, fun w' hS => load_run' (p := 15) rfl rfl hS.1 Try.underlying45 rfl (by kernel_rfl)⟩) ⟨Y.out, HG.out⟩ rfl ?_
          refine norm_ (a' := ?_) ?_ ?_
          rotate_left
          · simp only [Act.put, List.setIfInBounds_toArray, List.set_cons_zero, List.set_cons_succ]
            rfl
          refine pure_ (i := 1) (N := some 77) (v := ?_) (a' := ?_) #[true, true, false, false, false, false, false] rfl rfl (by kernel_rfl) (fun _ _ _ h => h) (Or.inl ⟨by rfl, ?_⟩) ?_ ?_
          rotate_left
          · intro w'
            go_simp
            with_reducible rfl
          rotate_left
          · simp only [Act.put, List.setIfInBounds_toArray, List.set_cons_zero, List.set_cons_succ]
            rfl
          refine pure_ (i := 2) (N := some 78) (v := ?_) (a' := ?_) #[true, true, true, false, false, false, false] rfl rfl (by kernel_rfl) (fun _ _ _ h => h) (Or.inl ⟨by rfl, ?_⟩) ?_ ?_
          rotate_left
          · intro w'
            go_simp
            with_reducible rfl
          rotate_left
          · simp only [Act.put, List.setIfInBounds_toArray, List.set_cons_zero, List.set_cons_succ]
            rfl
          refine pure_ (i := 3) (N := some 79) (v := ?_) (a' := ?_) #[true, true, true, true, false, false, false] rfl rfl (by kernel_rfl) (fun _ _ _ h => h) (Or.inl ⟨by rfl, ?_⟩) ?_ ?_
          rotate_left
          · intro w'
            go_simp
            with_reducible rfl
          rotate_left
          · simp only [Act.put, List.setIfInBounds_toArray, List.set_cons_zero, List.set_cons_succ]
            rfl
          refine take_ (i := 4) (N := some 80) (v := .agg #[.int .i64 y.id, .int .i64 y.kind, .int .i64 y.label, .string y.pt, .int .i64 y.pp, .string y.tt, .int .i64 y.tp, .string y.sn, .int .i64 y.sp, .int .i64 y.sa, .int .i64 y.ss, .bool y.sc, .string y.grp, .string y.mem, .int .i64 y.gen, .int .i64 y.off, .int .i64 y.most, .int .i64 y.prod, .int .i64 y.seq, .slice G1 ps.length e2]) #[true, true, true, true, true, false, false] rfl rfl (by kernel_rfl) (fun _ _ _ h => h) (Or.inl ⟨by rfl, fun w' hS => loadm_run' (p := 79) rfl rfl hS.2 Try.underlying45 rfl (by kernel_rfl)⟩) ⟨Y.out, HG.out⟩ rfl ?_
          refine norm_ (a' := ?_) ?_ ?_
          rotate_left
          · simp only [Act.put, List.setIfInBounds_toArray, List.set_cons_zero, List.set_cons_succ]
            rfl
          refine one_ (i := 5) (N := some 81) #[true, true, true, true, true, true, false] rfl rfl (by kernel_rfl) (by simp) (fun K hK => ?_)
          refine goes_ Try.func21 (by kernel_rfl) rfl #[.agg #[.int .i64 y.id, .int .i64 y.kind, .int .i64 y.label, .string y.pt, .int .i64 y.pp, .string y.tt, .int .i64 y.tp, .string y.sn, .int .i64 y.sp, .int .i64 y.sa, .int .i64 y.ss, .bool y.sc, .string y.grp, .string y.mem, .int .i64 y.gen, .int .i64 y.off, .int .i64 y.most, .int .i64 y.prod, .int .i64 y.seq, .slice W1 ps.length e1], .agg #[.int .i64 y.id, .int .i64 y.kind, .int .i64 y.label, .string y.pt, .int .i64 y.pp, .string y.tt, .int .i64 y.tp, .string y.sn, .int .i64 y.sp, .int .i64 y.sa, .int .i64 y.ss, .bool y.sc, .string y.grp, .string y.mem, .int .i64 y.gen, .int .i64 y.off, .int .i64 y.most, .int .i64 y.prod, .int .i64 y.seq, .slice G1 ps.length e2]] (by rfl) rfl rfl (by simp only [List.map_toArray, List.map_cons, List.map_nil] <;> rfl) ?_
          refine (hsm.out _ HX.out).mono ?_
          rintro e V1 ⟨rfl, hb⟩
          have n_HX := Aside0.mk (below_step HX.out hb)
          have n_Y := Aside0.mk (blk_below Y.out hb)
          have n_HG := Aside0.mk (fun j u h => cell_of hb (HG.out j u h) (Nat.le_refl _))
          clear HX Y HG hb
          have HX := n_HX
          have Y := n_Y
          have HG := n_HG
          clear n_HX n_Y n_HG
          refine ⟨_, rfl, hK.out _ _ ⟨Y.out, HG.out⟩ (fun _ => ?_)⟩
          clear hK K
          refine norm_ (a' := ?_) ?_ ?_
          rotate_left
          · simp only [Act.put, List.setIfInBounds_toArray, List.set_cons_zero, List.set_cons_succ]
            rfl
          refine pure_ (i := 6) (N := some 82) (v := ?_) (a' := ?_) #[true, true, true, true, true, true, true] rfl rfl (by kernel_rfl) (fun _ _ _ h => h) (Or.inl ⟨by rfl, ?_⟩) ?_ ?_
          rotate_left
          · intro w'
            go_simp
            with_reducible rfl
          rotate_left
          · simp only [Act.put, List.setIfInBounds_toArray, List.set_cons_zero, List.set_cons_succ]
            rfl
          refine done_ (by kernel_rfl) ?_
          have HS2 := Aside0.mk (below_step HS.out HX.out)
          clear HX Y HG hsm HS
          go_wp2_with fail
          go_roundw
          case rel => exact ⟨i + 1, by go_num, by omega, HS2⟩
          case measure => simp [intOf]; omega
        · obtain rfl : i = L.length := by omega
          clear hlt hil
          have P2 := Aside0.mk (blk_below PP.out HS.out)
          have Q2 := Aside0.mk (blk_below Q.out HS.out)
          have L2 := Aside0.mk (below_step HL.out HS.out)
          clear PP Q HL HS CW CG
          go_wp2_with fail
          refine (broken_calls gp hE B _ P2.out).mono ?_
          rintro e v1 ⟨rfl, rfl⟩
          go_wp2_with fail
          refine (broken_calls gq th B _ Q2.out).mono ?_
          rintro e v2 ⟨rfl, rfl⟩
          go_wp2_with fail
          refine (hhf.out _).mono ?_
          rintro e v3 ⟨rfl, hb⟩
          have L3 := Aside0.mk (below_step L2.out hb)
          clear hb L2
          go_wp2_with fail
          go_ret
          exact ⟨by simp <;> rfl, L3.out⟩
end Go.Proofs.Ytlgihjhlkpmpnaa.Wire
