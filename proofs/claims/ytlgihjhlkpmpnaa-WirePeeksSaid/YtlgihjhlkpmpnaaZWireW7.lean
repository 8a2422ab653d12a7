import Derived.Test.YtlgihjhlkpmpnaaZWireE31
import Derived.Test.YtlgihjhlkpmpnaaZWireZ8
namespace Go.Proofs.Ytlgihjhlkpmpnaa.Wire
set_option linter.unusedVariables false
set_option linter.unusedSimpArgs false
open Go.RowKit Go.Proofs.YtlgihjhlkpmpnaaW.PrintWords Go.Proofs.YtlgihjhlkpmpnaaW.PrintLast Go.Proofs.YtlgihjhlkpmpnaaW.PrintMore Go.Proofs.Ytlgihjhlkpmpnaa.Hand Go.Proofs.Ytlgihjhlkpmpnaa.PWire Go.Proofs.Ytlgihjhlkpmpnaa.PureNums
/-- a request with its pairs -/
structure RP where
  x : Rq
  A : Option Addr
  k : Nat
  l : List S102
def RP.cs (r : RP) : Array Value := r.x.cs (.slice r.A r.l.length r.k)
def RP.enc (r : RP) : ByteArray := encS r.x r.l
def RP.good (r : RP) : Bool := smallB r.x r.l && mayB r.x r.l && decide (r.enc.size ≤ 1000)
def encL : List RP → ByteArray
  | [] => ⟨#[]⟩
  | r :: rs => r.enc ++ encL rs
theorem encL_snoc (rs : List RP) (r : RP) : encL (rs ++ [r]) = encL rs ++ r.enc := by
  induction rs with
  | nil =>
    show r.enc ++ ByteArray.empty = ByteArray.empty ++ r.enc
    rw [ByteArray.append_empty, ByteArray.empty_append]
  | cons a rs ih =>
    show a.enc ++ encL (rs ++ [r]) = (a.enc ++ encL rs) ++ r.enc
    rw [ih, ByteArray.append_assoc]
theorem encL_size (rs : List RP) (h : rs.all RP.good = true) : (encL rs).size ≤ 1000 * rs.length := by
  induction rs with
  | nil => exact Nat.le_refl _
  | cons a rs ih =>
    simp only [List.all_cons, Bool.and_eq_true] at h
    have h1 := ih h.2
    have h2 := h.1
    unfold RP.good at h2
    simp only [Bool.and_eq_true, decide_eq_true_eq] at h2
    show (a.enc ++ encL rs).size ≤ _
    rw [ByteArray.size_append, List.length_cons]
    omega
/-- requests in a row -/
structure Rqs (w : World) (A : Option Addr) (n : Nat) (rs : List RP) : Prop where
  len : rs.length = n
  mx : n ≤ 9223372036854775807
  row : ∀ (i : Nat) (h : i < rs.length), ∃ a, A = some a ∧ ∀ (j : Nat) (u : Value), (rs[i].cs)[j]? = some u → w.cell? ((a.add (i * 20)).add j) = some u
  prs : ∀ (i : Nat) (h : i < rs.length), Prs w rs[i].A rs[i].l.length rs[i].k rs[i].l ∧ rs[i].l.length ≤ rs[i].k
theorem peek_enc (x : Rq) (l : List S102) (hm : mayB x l = true) (hl : (encS x l).size ≤ 1000) (more : ByteArray) : peekI (encS x l ++ more) = (encS x l).size := by
  have hz := encS_size x l
  have h := dec_enc x l hm (by omega) more
  unfold decW at h
  rw [← hz] at h
  split at h
  · exact absurd (congrArg (·.err) h) (by simp)
  split at h
  · exact absurd (congrArg (·.err) h) (by simp)
  split at h
  · exact absurd (congrArg (·.err) h) (by simp)
  split at h
  · exact absurd (congrArg (·.err) h) (by simp)
  split at h
  · exact absurd (congrArg (·.err) h) (by simp)
  split at h
  · exact congrArg (·.n) h
  · exact absurd (congrArg (·.err) h) (by simp)
theorem extract_rest (a b : ByteArray) : (a ++ b).extract a.size (a.size + b.size) = b := by
  have h := extract_mid a b ⟨#[]⟩
  have e : a ++ b ++ (⟨#[]⟩ : ByteArray) = a ++ b := ByteArray.append_empty
  rw [e] at h
  rw [str_toList, str_toList] at h
  exact ByteArray.ext (Array.ext' h)
theorem cellOf {B : Nat} {w w' : World} (h : Below B w w') {a : Addr} {v : Value} (hc : w.cell? a = some v) (hB : w.heap.size ≤ B) : w'.cell? a = some v := by
  rw [h.cell (Nat.lt_of_lt_of_le (World.block_lt_of_cell? w a hc) hB)]
  exact hc
theorem load_evm {P : Program} {ops : Array Oper} {rest : List Oper} {o : Oper} {a : Act} {Q : Exit → Act → World → Prop} {W : World} {N : Tmp} (hN : o.dst = some N) (hgd : o.guard = none) {ty : TypeId} {p : Tmp} (ho : o.op = .load ty (.tmp p)) {b : Addr} {cs : Array Value} (hx : a.eval (.tmp p) = .pointer (some b)) {d : TypeDesc} (hc : ∀ (j : Nat) (v : Value), cs[j]? = some v → W.cell? (b.add j) = some v)
    (hu : P.underlying ty = some d) (hd : (match d with | .struct _ | .array _ _ => true | _ => false) = true) (hi : (P.info? ty).map (·.size) = some cs.size)
    (h : wpList P ops Q rest (a.put o.dst (.agg cs)) W) : wpList P ops Q (o :: rest) a W := by
  have hl : (loadCells b cs.toList.length).run P W = .ok cs.toList.toArray W :=
    run_loadCells_list (P := P) W b cs.toList (fun j v hv => hc j v (by simpa using hv))
  have hv : (loadVar ty b).run P W = .ok (.agg cs) W := by
    cases hq : P.info? ty with
    | none => simp [hq] at hi
    | some i =>
      have hs : i.size = cs.size := by simpa [hq] using hi
      have hagg : (isAgg ty).run P W = .ok true W := by
        unfold isAgg
        rw [Sem.run_bind, run_underlying hu W]
        cases d <;> simp_all
      simp only [Array.length_toList, Array.toArray_toList] at hl
      simp [loadVar, Sem.run_bind, hagg, sizeOf, typeInfo, hq, hs, hl]
  have hw : Region.wanted o (yielded ops a.tmps) = true := by simp [Region.wanted, hgd]
  unfold wpList
  rw [if_pos hw]
  left
  unfold Oper.wp
  have hr : (execOp a.eval o).run P W = .ok (.value (.agg cs)) W := by
    unfold execOp
    simp only [ho, hx, Instr.loadAt, Instr.sureAddr, Sem.run_bind, Sem.run_pure, Result.andThen_ok, hv]
  rw [hr]
  exact h
set_option maxHeartbeats 32000000 in
set_option maxRecDepth 100000 in
theorem peeks_calls (rs : List RP) (A : Option Addr) (n k : Nat) (w : World) (hp : Rqs w A n rs) :
    Calls Try.prog 7 #[.slice A n k] w fun e w' => e = .returned (.bool true) ∧ Below w.heap.size w w' := by
  have hund : ∀ b, some undef = some (Value.bool b) → False := fun b h => by simp [undef] at h
  have HP := Aside0.mk hp
  have hmx := hp.mx
  have hnl := hp.len
  have hlist := Aside0.mk (fun W : World => list_calls W)
  clear hp
  by_cases hm8 : (8 : Int) < (n : Int)
  · go_enter Try.func7, Try.ntmps7
    go_wp2_with fail
    refine (hlist.out _).mono ?_
    rintro e wz ⟨rfl, hb⟩
    have L := Aside0.mk (below_step (Below.refl _ _) hb)
    clear hb
    go_wp2_with fail
    exact bodyPost_ret (results_tmp rfl _ _ _) rfl ⟨rfl, L.out⟩
  have hn8 : n ≤ 8 := by omega
  go_enter Try.func7, Try.ntmps7
  go_wp2_with fail
  go_loopw [3, 17] (fun sv iv wr => ∃ i : Nat, sv = .string (encL (rs.take i)) ∧ iv = .int .i64 i ∧ i ≤ n ∧ Aside0 ((rs.take i).all RP.good = true) ∧ Aside0 (Below w.heap.size w wr)) (fun _ iv _ => n - (intOf iv).toNat)
  case atStart => exact ⟨0, rfl, rfl, Nat.zero_le _, ⟨rfl⟩, ⟨by repeat (first | exact Below.refl _ _ | apply below_alloc | apply below_drew)⟩⟩
  case round =>
    obtain ⟨i, rfl, rfl, hil, HA, HB⟩ := hrel
    by_cases hlt : i < n
    · obtain ⟨ad, hAd, hcs⟩ := HP.out.row i (by omega)
      obtain ⟨hpp, hk⟩ := HP.out.prs i (by omega)
      have hcs' : Aside0 (∀ (j : Nat) (v : Value), (rs[i].cs)[j]? = some v → wr.cell? ((ad.add (i * 20)).add j) = some v) := ⟨fun j v hv => cellOf HB.out (hcs j v hv) (Nat.le_refl _)⟩
      clear hcs
      have hsum : encL (rs.take (i + 1)) = encL (rs.take i) ++ rs[i].enc := by rw [List.take_succ_eq_append_getElem (by omega), encL_snoc]
      have hgo : Aside0 (rs[i].good = true → (rs.take (i + 1)).all RP.good = true) := ⟨fun h => by rw [List.take_succ_eq_append_getElem (by omega), List.all_append, HA.out]; simpa using h⟩
      have hsz : (encL (rs.take i)).size ≤ 8000 := Nat.le_trans (encL_size _ HA.out) (by rw [List.length_take]; omega)
      have hrel2 : Aside0 (∀ z, encL (rs.take (i + 1)) = z → rs[i].enc.size ≤ 1000 → z = encL (rs.take i) ++ rs[i].enc) := ⟨fun z h _ => by rw [← h, hsum]⟩
      subst hAd
      generalize hr : rs[i] = r at *
      obtain ⟨x, B, m, l⟩ := r
      have HS1 := Aside0.mk hsum
      generalize encL (rs.take i) = s0 at *
      simp only [RP.cs, RP.enc, RP.good] at hcs' hpp hk hgo HS1
      clear hsum hrel2 hr
      have HPP := Aside0.mk hpp
      have hlg := Aside0.mk (fun (W : World) (hW : Below w.heap.size w W) => large_calls x B m l W (hpp.below hW))
      have hmy := Aside0.mk (fun (W : World) (hW : Below w.heap.size w W) => qmay_calls x B m l W (hpp.below hW))
      have hqe := Aside0.mk (fun (hs : smallB x l = true) (hmy : mayB x l = true) (W : World) (hW : Below w.heap.size w W) => qencode_calls x B m l W (hpp.below hW) (by
        unfold smallB at hs
        simp only [Bool.and_eq_true, decide_eq_true_eq] at hs
        omega) hmy)
      clear hpp
      obtain ⟨es, hes⟩ : ∃ es, encS x l = es := ⟨_, rfl⟩
      simp only [hes] at hqe hgo HS1
      clear hes
      go_wp2_with (first
        | ((with_reducible refine gate_dst (N := 20) rfl ?_); refine load_evm (N := 20) rfl rfl rfl (cs := #[.int .i64 x.id, .int .i64 x.kind, .int .i64 x.label, .string x.pt, .int .i64 x.pp, .string x.tt, .int .i64 x.tp, .string x.sn, .int .i64 x.sp, .int .i64 x.sa, .int .i64 x.ss, .bool x.sc, .string x.grp, .string x.mem, .int .i64 x.gen, .int .i64 x.off, .int .i64 x.most, .int .i64 x.prod, .int .i64 x.seq, .slice B l.length m]) rfl hcs'.out Try.underlying45 rfl (by kernel_rfl) ?_)
        | ((with_reducible refine gate_dst (N := 5) rfl ?_); refine box_event rfl (N := 5) rfl (cs := #[.int .i64 0, .int .i64 0, .int .i64 0, .string ⟨#[]⟩, .int .i64 0, .string ⟨#[]⟩, .int .i64 0, .string ⟨#[]⟩, .int .i64 0, .int .i64 0, .int .i64 0, .bool false, .string ⟨#[]⟩, .string ⟨#[]⟩, .int .i64 0, .int .i64 0, .int .i64 0, .int .i64 0, .int .i64 0, .slice none 0 0]) (t := 45) ?hr ?_; (case hr => first | (go_simp; done) | (go_simp; rfl)); intro g5 hg5 w1 hbx hbl; have n_HB := Aside0.mk (below_step HB.out hbl); have Gg5 := Aside0.mk (show w.heap.size ≤ g5 by rw [hg5]; exact HB.out.size); have Yg5 := Aside0.mk hbx; clear HB hbx hbl hg5; have HB := n_HB; clear n_HB)
        | ((with_reducible refine gate_store (t := 45) (p := 5) rfl ?_); refine store_ev rfl rfl rfl (cells := #[.int .i64 x.id, .int .i64 x.kind, .int .i64 x.label, .string x.pt, .int .i64 x.pp, .string x.tt, .int .i64 x.tp, .string x.sn, .int .i64 x.sp, .int .i64 x.sa, .int .i64 x.ss, .bool x.sc, .string x.grp, .string x.mem, .int .i64 x.gen, .int .i64 x.off, .int .i64 x.most, .int .i64 x.prod, .int .i64 x.seq, .slice B l.length m]) rfl rfl Yg5.out (by kernel_rfl) rfl (by kernel_rfl) ?_; intro w2 hbx hgr; have n_HB := Aside0.mk (below_put HB.out Gg5.out hgr HB.out.size); have n_Yg5 := Aside0.mk hbx; clear HB Yg5 hbx hgr; have HB := n_HB; have Yg5 := n_Yg5; clear n_HB n_Yg5)
        | ((with_reducible refine gate_dst (N := 21) rfl ?_); refine load_ev (N := 21) rfl rfl rfl (cs := #[.int .i64 x.id, .int .i64 x.kind, .int .i64 x.label, .string x.pt, .int .i64 x.pp, .string x.tt, .int .i64 x.tp, .string x.sn, .int .i64 x.sp, .int .i64 x.sa, .int .i64 x.ss, .bool x.sc, .string x.grp, .string x.mem, .int .i64 x.gen, .int .i64 x.off, .int .i64 x.most, .int .i64 x.prod, .int .i64 x.seq, .slice B l.length m]) rfl Yg5.out Try.underlying45 rfl (by kernel_rfl) ?_))
      refine (hlg.out _ HB.out).mono ?_
      rintro e w3 ⟨rfl, hb⟩
      have n_HB := Aside0.mk (below_step HB.out hb)
      have n_Yg5 := Aside0.mk (blk_below Yg5.out hb)
      clear HB Yg5 hb hlg
      have HB := n_HB
      have Yg5 := n_Yg5
      clear n_HB n_Yg5
      cases hsmall : smallB x l with
      | false =>
        clear hmy hqe hgo
        go_wp2_with fail
        refine (hlist.out _).mono ?_
        rintro e wz ⟨rfl, hb⟩
        have L := Aside0.mk (below_step HB.out hb)
        clear hb
        go_wp2_with fail
        exact bodyPost_ret (results_tmp rfl _ _ _) rfl ⟨rfl, L.out⟩
      | true =>
        go_wp2_with (first
          | ((with_reducible refine gate_dst (N := 24) rfl ?_); refine load_evg (N := 24) rfl rfl (cs := #[.int .i64 x.id, .int .i64 x.kind, .int .i64 x.label, .string x.pt, .int .i64 x.pp, .string x.tt, .int .i64 x.tp, .string x.sn, .int .i64 x.sp, .int .i64 x.sa, .int .i64 x.ss, .bool x.sc, .string x.grp, .string x.mem, .int .i64 x.gen, .int .i64 x.off, .int .i64 x.most, .int .i64 x.prod, .int .i64 x.seq, .slice B l.length m]) rfl Yg5.out Try.underlying45 rfl (by kernel_rfl) ?hw ?_; (case hw => first | rfl | go_simp)))
        refine (hmy.out _ HB.out).mono ?_
        rintro e w4 ⟨rfl, hb⟩
        have n_HB := Aside0.mk (below_step HB.out hb)
        have n_Yg5 := Aside0.mk (blk_below Yg5.out hb)
        clear HB Yg5 hb hmy
        have HB := n_HB
        have Yg5 := n_Yg5
        clear n_HB n_Yg5
        cases hmay : mayB x l with
        | false =>
          clear hqe hgo
          go_wp2_with fail
          refine (hlist.out _).mono ?_
          rintro e wz ⟨rfl, hb⟩
          have L := Aside0.mk (below_step HB.out hb)
          clear hb
          go_wp2_with fail
          exact bodyPost_ret (results_tmp rfl _ _ _) rfl ⟨rfl, L.out⟩
        | true =>
          have hqe2 := Aside0.mk (hqe.out hsmall hmay)
          rw [hsmall, hmay] at hgo
          clear hqe
          go_wp2_with (first
            | ((with_reducible refine gate_dst (N := 29) rfl ?_); refine load_evg (N := 29) rfl rfl (cs := #[.int .i64 x.id, .int .i64 x.kind, .int .i64 x.label, .string x.pt, .int .i64 x.pp, .string x.tt, .int .i64 x.tp, .string x.sn, .int .i64 x.sp, .int .i64 x.sa, .int .i64 x.ss, .bool x.sc, .string x.grp, .string x.mem, .int .i64 x.gen, .int .i64 x.off, .int .i64 x.most, .int .i64 x.prod, .int .i64 x.seq, .slice B l.length m]) rfl Yg5.out Try.underlying45 rfl (by kernel_rfl) ?hw ?_; (case hw => first | rfl | go_simp)))
          refine (hqe2.out _ HB.out).mono ?_
          rintro e w5 ⟨rfl, hb⟩
          have n_HB := Aside0.mk (below_step HB.out hb)
          have n_Yg5 := Aside0.mk (blk_below Yg5.out hb)
          clear HB Yg5 hb
          have HB := n_HB
          have Yg5 := n_Yg5
          clear n_HB n_Yg5
          by_cases hbig : (1000 : Int) < (es.size : Int)
          · clear hqe2 hgo
            go_wp2_with fail
            refine (hlist.out _).mono ?_
            rintro e wz ⟨rfl, hb⟩
            have L := Aside0.mk (below_step HB.out hb)
            clear hb
            go_wp2_with fail
            exact bodyPost_ret (results_tmp rfl _ _ _) rfl ⟨rfl, L.out⟩
          · have hA2 := Aside0.mk (hgo.out (by simp; omega))
            have hl2 : ¬ 9223372036854775807 < s0.size + es.size := by omega
            clear hgo
            go_wp2_with (first
              | ((with_reducible refine gate_dst (N := 36) rfl ?_); refine load_ev (N := 36) rfl rfl rfl (cs := #[.int .i64 x.id, .int .i64 x.kind, .int .i64 x.label, .string x.pt, .int .i64 x.pp, .string x.tt, .int .i64 x.tp, .string x.sn, .int .i64 x.sp, .int .i64 x.sa, .int .i64 x.ss, .bool x.sc, .string x.grp, .string x.mem, .int .i64 x.gen, .int .i64 x.off, .int .i64 x.most, .int .i64 x.prod, .int .i64 x.seq, .slice B l.length m]) rfl Yg5.out Try.underlying45 rfl (by kernel_rfl) ?_))
            refine (hqe2.out _ HB.out).mono ?_
            rintro e w6 ⟨rfl, hb⟩
            have n_HB := Aside0.mk (below_step HB.out hb)
            clear HB hb hqe2
            have HB := n_HB
            clear n_HB
            go_wp2_with fail
            go_roundw
            case rel => exact ⟨i + 1, by rw [HS1.out], by go_num, by omega, hA2, HB⟩
            case measure => simp [intOf]; omega
    · obtain rfl : i = n := by omega
      clear hlt hil
      rw [List.take_of_length_le (by omega)] at HA
      rw [List.take_of_length_le (show rs.length ≤ i by omega)]
      go_wp2_with fail
      go_loopw [3, 42] (fun sv jv wv => ∃ j : Nat, sv = .string (encL (rs.drop j)) ∧ jv = .int .i64 j ∧ j ≤ i ∧ Aside0 (Below w.heap.size w wv)) (fun _ jv _ => i - (intOf jv).toNat)
      case atStart => exact ⟨0, rfl, rfl, Nat.zero_le _, HB⟩
      case round =>
        clear HB
        obtain ⟨j, rfl, rfl, hjl, HB⟩ := hrel
        by_cases hlt : j < i
        · obtain ⟨ad, hAd, hcs⟩ := HP.out.row j (by omega)
          obtain ⟨hpp, hk⟩ := HP.out.prs j (by omega)
          have hcs' : Aside0 (∀ (t : Nat) (v : Value), (rs[j].cs)[t]? = some v → wr.cell? ((ad.add (j * 20)).add t) = some v) := ⟨fun t v hv => cellOf HB.out (hcs t v hv) (Nat.le_refl _)⟩
          clear hcs
          have hgood : rs[j].good = true := List.all_eq_true.1 HA.out _ (List.getElem_mem (by omega))
          have hsum : encL (rs.drop j) = rs[j].enc ++ encL (rs.drop (j + 1)) := by rw [List.drop_eq_getElem_cons (by omega)]; rfl
          have hsz : (encL (rs.drop (j + 1))).size ≤ 8000 := Nat.le_trans (encL_size _ (List.all_eq_true.2 fun r hr => List.all_eq_true.1 HA.out r (List.mem_of_mem_drop hr))) (by rw [List.length_drop]; omega)
          rw [hsum]
          clear hsum
          subst hAd
          have hrest : Aside0 (∀ z, z = encL (rs.drop (j + 1)) → ∃ j' : Nat, Value.string z = .string (encL (rs.drop j')) ∧ j' = j + 1) := ⟨fun z hz => ⟨j + 1, by rw [hz], rfl⟩⟩
          generalize rs[j] = r at *
          obtain ⟨x, B, m, l⟩ := r
          generalize hrst : encL (rs.drop (j + 1)) = rest at *
          have Hrst := Aside0.mk hrst
          simp only [RP.cs, RP.enc, RP.good, Bool.and_eq_true, decide_eq_true_eq] at hcs' hpp hk hgood ⊢
          obtain ⟨⟨hsmall, hmay⟩, hl⟩ := hgood
          have hl : (encS x l).size ≤ 1000 := of_decide_eq_true hl
          have hz5 := encS_size x l
          have hqe := Aside0.mk (fun (W : World) (hW : Below w.heap.size w W) => qencode_calls x B m l W (hpp.below hW) (by
            unfold smallB at hsmall
            simp only [Bool.and_eq_true, decide_eq_true_eq] at hsmall
            omega) hmay)
          have hdc := Aside0.mk (fun W : World => decode_calls (encS x l ++ rest) W (by rw [ByteArray.size_append]; omega))
          have hpk := Aside0.mk (fun W : World => peek_calls (encS x l ++ rest) W)
          rw [peek_enc x l hmay hl rest] at hpk
          have hqc := Aside0.mk (fun W : World => qclean_calls x B l.length m W)
          obtain ⟨B2, m2, hv, hC⟩ := cleanV_all hpp
          rw [hv] at hqc
          clear hv
          have hext : Aside0 ((encS x l ++ rest).extract (encS x l).size ((encS x l).size + rest.size) = rest) := ⟨extract_rest _ _⟩
          simp only [dec_enc x l hmay (by omega) rest, ← hz5] at hdc
          obtain ⟨y, hy⟩ : ∃ y, cleanL x (lets (formF x.kind)) = y := ⟨_, rfl⟩
          obtain ⟨ps, hps⟩ : ∃ ps, pairsL l (lets (formF x.kind)) = ps := ⟨_, rfl⟩
          simp only [hy, hps] at hdc hqc hC
          clear hy hps
          have HC2 := Aside0.mk hC
          have hsame := Aside0.mk (fun (W : World) (C : Option Addr) (c : Nat) (h1 : Kd.R k102 102 W w.heap.size (fun _ => True) (.slice C ps.length c) ps) (h2 : Below w.heap.size w W) => same_calls y C B2 c m2 ps W (Kd.R_reads' h1).2.2 (Kd.C_below HC2.out h2))
          have hsz2 : (encS x l ++ rest).size = (encS x l).size + rest.size := ByteArray.size_append
          obtain ⟨es, hes⟩ : ∃ es, encS x l = es := ⟨_, rfl⟩
          simp only [hes] at hqe hdc hpk hext hsz2 hl ⊢
          clear hes
          obtain ⟨s0, hs0⟩ : ∃ s0, es ++ rest = s0 := ⟨_, rfl⟩
          simp only [hs0] at hdc hpk hext hsz2 ⊢
          clear hs0
          clear hpp hC hsmall hmay hz5 hrst
          go_wp2_with (first
            | ((with_reducible refine gate_dst (N := 45) rfl ?_); refine load_evm (N := 45) rfl rfl rfl (cs := #[.int .i64 x.id, .int .i64 x.kind, .int .i64 x.label, .string x.pt, .int .i64 x.pp, .string x.tt, .int .i64 x.tp, .string x.sn, .int .i64 x.sp, .int .i64 x.sa, .int .i64 x.ss, .bool x.sc, .string x.grp, .string x.mem, .int .i64 x.gen, .int .i64 x.off, .int .i64 x.most, .int .i64 x.prod, .int .i64 x.seq, .slice B l.length m]) rfl hcs'.out Try.underlying45 rfl (by kernel_rfl) ?_)
            | ((with_reducible refine gate_dst (N := 7) rfl ?_); refine box_event rfl (N := 7) rfl (cs := #[.int .i64 0, .int .i64 0, .int .i64 0, .string ⟨#[]⟩, .int .i64 0, .string ⟨#[]⟩, .int .i64 0, .string ⟨#[]⟩, .int .i64 0, .int .i64 0, .int .i64 0, .bool false, .string ⟨#[]⟩, .string ⟨#[]⟩, .int .i64 0, .int .i64 0, .int .i64 0, .int .i64 0, .int .i64 0, .slice none 0 0]) (t := 45) ?hr ?_; (case hr => first | (go_simp; done) | (go_simp; rfl)); intro g7 hg7 w1 hbx hbl; have n_HB := Aside0.mk (below_step HB.out hbl); have Gg7 := Aside0.mk (show w.heap.size ≤ g7 by rw [hg7]; exact HB.out.size); have Yg7 := Aside0.mk hbx; clear HB hbx hbl hg7; have HB := n_HB; clear n_HB)
            | ((with_reducible refine gate_store (t := 45) (p := 7) rfl ?_); refine store_ev rfl rfl rfl (cells := #[.int .i64 x.id, .int .i64 x.kind, .int .i64 x.label, .string x.pt, .int .i64 x.pp, .string x.tt, .int .i64 x.tp, .string x.sn, .int .i64 x.sp, .int .i64 x.sa, .int .i64 x.ss, .bool x.sc, .string x.grp, .string x.mem, .int .i64 x.gen, .int .i64 x.off, .int .i64 x.most, .int .i64 x.prod, .int .i64 x.seq, .slice B l.length m]) rfl rfl Yg7.out (by kernel_rfl) rfl (by kernel_rfl) ?_; intro w2 hbx hgr; have n_HB := Aside0.mk (below_put HB.out Gg7.out hgr HB.out.size); have n_Yg7 := Aside0.mk hbx; clear HB Yg7 hbx hgr; have HB := n_HB; have Yg7 := n_Yg7; clear n_HB n_Yg7))
          refine (hdc.out _).mono ?_
          rintro e w3 ⟨u, rfl, hr, hb⟩
          obtain ⟨C, c, hu⟩ := Kd.R_slice hr
          subst hu
          have R := Aside0.mk (Kd.R_lower hr HB.out.size)
          have n_HB := Aside0.mk (below_step HB.out hb)
          have n_Yg7 := Aside0.mk (blk_below Yg7.out hb)
          clear HB Yg7 hb hr hdc
          have HB := n_HB
          have Yg7 := n_Yg7
          clear n_HB n_Yg7
          go_upto_region 15 with (first
            | ((with_reducible refine gate_dst (N := 8) rfl ?_); refine box_event rfl (N := 8) rfl (cs := #[.int .i64 0, .int .i64 0, .int .i64 0, .string ⟨#[]⟩, .int .i64 0, .string ⟨#[]⟩, .int .i64 0, .string ⟨#[]⟩, .int .i64 0, .int .i64 0, .int .i64 0, .bool false, .string ⟨#[]⟩, .string ⟨#[]⟩, .int .i64 0, .int .i64 0, .int .i64 0, .int .i64 0, .int .i64 0, .slice none 0 0]) (t := 45) ?hr ?_; (case hr => first | (go_simp; done) | (go_simp; rfl)); intro g8 hg8 w4 hbx hbl; have n_HB := Aside0.mk (below_step HB.out hbl); have n_R := Aside0.mk (Kd.R_below R.out hbl); have n_Yg7 := Aside0.mk (blk_below Yg7.out hbl); have D := Aside0.mk (show g7 ≠ g8 by rw [hg8]; exact Nat.ne_of_lt (blk_lt Yg7.out)); have Gg8 := Aside0.mk (show w.heap.size ≤ g8 by rw [hg8]; exact HB.out.size); have Yg8 := Aside0.mk hbx; clear HB R Yg7 hbx hbl hg8; have HB := n_HB; have R := n_R; have Yg7 := n_Yg7; clear n_HB n_R n_Yg7)
            | ((with_reducible refine gate_store (t := 45) (p := 8) rfl ?_); refine store_ev rfl rfl rfl (cells := #[.int .i64 y.id, .int .i64 y.kind, .int .i64 y.label, .string y.pt, .int .i64 y.pp, .string y.tt, .int .i64 y.tp, .string y.sn, .int .i64 y.sp, .int .i64 y.sa, .int .i64 y.ss, .bool y.sc, .string y.grp, .string y.mem, .int .i64 y.gen, .int .i64 y.off, .int .i64 y.most, .int .i64 y.prod, .int .i64 y.seq, .slice C ps.length c]) rfl rfl Yg8.out (by kernel_rfl) rfl (by kernel_rfl) ?_; intro w5 hbx hgr; have n_HB := Aside0.mk (below_put HB.out Gg8.out hgr HB.out.size); have n_R := Aside0.mk (pairs_grown R.out hgr (fun cells e => by rw [Yg8.out] at e; simp at e)); have n_Yg7 := Aside0.mk (grown_at hgr Yg7.out D.out); have n_Yg8 := Aside0.mk hbx; clear HB R Yg7 Yg8 hbx hgr; have HB := n_HB; have R := n_R; have Yg7 := n_Yg7; have Yg8 := n_Yg8; clear n_HB n_R n_Yg7 n_Yg8))
          have n_HB := Aside0.mk (below_step HB.out (below_drew (Below.refl _ _)))
          have n_Yg7 := Aside0.mk (blk_below Yg7.out (below_drew (Below.refl _ _)))
          have n_Yg8 := Aside0.mk (blk_below Yg8.out (below_drew (Below.refl _ _)))
          have n_R := Aside0.mk (Kd.R_below R.out (below_drew (Below.refl _ _)))
          clear HB Yg7 Yg8 R
          have HB := n_HB
          have Yg7 := n_Yg7
          have Yg8 := n_Yg8
          have R := n_R
          clear n_HB n_Yg7 n_Yg8 n_R
          refine start_ (n := 22) (S := fun w' => w'.heap[g7]? = some (.cells (x.cs (.slice B l.length m)) 45 (0, 0)) ∧ w'.heap[g8]? = some (.cells (y.cs (.slice C ps.length c)) 45 (0, 0))) (ds := []) #[false, false, false, false, false, false, false, false, false, false, false, false, false, false, false, false, false, false, false, false, false, false] (by kernel_rfl) rfl rfl ⟨Yg7.out, Yg8.out⟩ (fun _ => ?_)
          generalize w5.drew = V at *
          refine pure_ (i := 0) (N := some 52) (v := ?_) (a' := ?_) #[true, false, false, false, false, false, false, false, false, false, false, false, false, false, false, false, false, false, false, false, false, false] rfl rfl (by kernel_rfl) (fun _ _ _ h => h) (Or.inl ⟨by rfl, ?_⟩) ?_ ?_
          rotate_left
          · intro w'
            go_simp
            with_reducible rfl
          rotate_left
          · simp only [Act.put, List.setIfInBounds_toArray, List.set_cons_zero, List.set_cons_succ]
            rfl
          refine pure_ (i := 1) (N := some 53) (v := ?_) (a' := ?_) #[true, true, false, false, false, false, false, false, false, false, false, false, false, false, false, false, false, false, false, false, false, false] rfl rfl (by kernel_rfl) (fun _ _ _ h => h) (Or.inl ⟨by rfl, ?_⟩) ?_ ?_
          rotate_left
          · intro w'
            go_simp
            with_reducible rfl
          rotate_left
          · simp only [Act.put, List.setIfInBounds_toArray, List.set_cons_zero, List.set_cons_succ]
            rfl
          refine pure_ (i := 2) (N := some 54) (v := ?_) (a' := ?_) #[true, true, true, false, false, false, false, false, false, false, false, false, false, false, false, false, false, false, false, false, false, false] rfl rfl (by kernel_rfl) (fun _ _ _ h => h) (Or.inl ⟨by rfl, ?_⟩) ?_ ?_
          rotate_left
          · intro w'
            go_simp
            with_reducible rfl
          rotate_left
          · simp only [Act.put, List.setIfInBounds_toArray, List.set_cons_zero, List.set_cons_succ]
            rfl
          refine pure_ (i := 3) (N := some 55) (v := ?_) (a' := ?_) #[true, true, true, true, false, false, false, false, false, false, false, false, false, false, false, false, false, false, false, false, false, false] rfl rfl (by kernel_rfl) (fun _ _ _ h => h) (Or.inl ⟨by rfl, ?_⟩) ?_ ?_
          rotate_left
          · intro w'
            go_simp
            with_reducible rfl
          rotate_left
          · simp only [Act.put, List.setIfInBounds_toArray, List.set_cons_zero, List.set_cons_succ]
            rfl
          refine pure_ (i := 4) (N := some 56) (v := ?_) (a' := ?_) #[true, true, true, true, true, false, false, false, false, false, false, false, false, false, false, false, false, false, false, false, false, false] rfl rfl (by kernel_rfl) (fun _ _ _ h => h) (Or.inl ⟨by rfl, ?_⟩) ?_ ?_
          rotate_left
          · intro w'
            go_simp
            with_reducible rfl
          rotate_left
          · simp only [Act.put, List.setIfInBounds_toArray, List.set_cons_zero, List.set_cons_succ]
            rfl
          refine one_ (i := 5) (N := some 57) #[true, true, true, true, true, true, false, false, false, false, false, false, false, false, false, false, false, false, false, false, false, false] rfl rfl (by kernel_rfl) (by simp) (fun K hK => ?_)
          refine goes_ Try.func26 (by kernel_rfl) rfl #[.string s0] (by rfl) rfl rfl (by simp only [List.map_toArray, List.map_cons, List.map_nil] <;> rfl) ?_
          refine (hpk.out _).mono ?_
          rintro e V1 ⟨rfl, hb⟩
          have n_HB := Aside0.mk (below_step HB.out hb)
          have n_Yg7 := Aside0.mk (blk_below Yg7.out hb)
          have n_Yg8 := Aside0.mk (blk_below Yg8.out hb)
          have n_R := Aside0.mk (Kd.R_below R.out hb)
          clear HB Yg7 Yg8 R hb
          have HB := n_HB
          have Yg7 := n_Yg7
          have Yg8 := n_Yg8
          have R := n_R
          clear n_HB n_Yg7 n_Yg8 n_R
          refine ⟨_, rfl, hK.out _ _ ⟨Yg7.out, Yg8.out⟩ (fun _ => ?_)⟩
          clear hK K
          refine norm_ (a' := ?_) ?_ ?_
          rotate_left
          · simp only [Act.put, List.setIfInBounds_toArray, List.set_cons_zero, List.set_cons_succ]
            rfl
          refine pure_ (i := 6) (N := some 58) (v := ?_) (a' := ?_) #[true, true, true, true, true, true, true, false, false, false, false, false, false, false, false, false, false, false, false, false, false, false] rfl rfl (by kernel_rfl) (fun _ _ _ h => h) (Or.inl ⟨by rfl, ?_⟩) ?_ ?_
          rotate_left
          · intro w'
            go_simp
            with_reducible rfl
          rotate_left
          · simp only [Act.put, List.setIfInBounds_toArray, List.set_cons_zero, List.set_cons_succ]
            rfl
          refine pure_ (i := 7) (N := some 59) (v := ?_) (a' := ?_) #[true, true, true, true, true, true, true, true, false, false, false, false, false, false, false, false, false, false, false, false, false, false] rfl rfl (by kernel_rfl) (fun _ _ _ h => h) (Or.inl ⟨by rfl, ?_⟩) ?_ ?_
          rotate_left
          · intro w'
            go_simp
            with_reducible rfl
          rotate_left
          · simp only [Act.put, List.setIfInBounds_toArray, List.set_cons_zero, List.set_cons_succ]
            rfl
          refine pure_ (i := 8) (N := some 60) (v := ?_) (a' := ?_) #[true, true, true, true, true, true, true, true, true, false, false, false, false, false, false, false, false, false, false, false, false, false] rfl rfl (by kernel_rfl) (fun _ _ _ h => h) (Or.inl ⟨by rfl, ?_⟩) ?_ ?_
          rotate_left
          · intro w'
            go_simp
            with_reducible rfl
          rotate_left
          · simp only [Act.put, List.setIfInBounds_toArray, List.set_cons_zero, List.set_cons_succ]
            rfl
          refine pure_ (i := 9) (N := some 61) (v := ?_) (a' := ?_) #[true, true, true, true, true, true, true, true, true, true, false, false, false, false, false, false, false, false, false, false, false, false] rfl rfl (by kernel_rfl) (fun _ _ _ h => h) (Or.inl ⟨by rfl, ?_⟩) ?_ ?_
          rotate_left
          · intro w'
            go_simp
            with_reducible rfl
          rotate_left
          · simp only [Act.put, List.setIfInBounds_toArray, List.set_cons_zero, List.set_cons_succ]
            rfl
          refine take_ (i := 10) (N := some 62) (v := .agg (x.cs (.slice B l.length m))) #[true, true, true, true, true, true, true, true, true, true, true, false, false, false, false, false, false, false, false, false, false, false] rfl rfl (by kernel_rfl) (fun _ _ _ h => h) (Or.inl ⟨by rfl, fun w' hS => load_run' (p := 7) rfl rfl hS.1 Try.underlying45 rfl (by kernel_rfl)⟩) ⟨Yg7.out, Yg8.out⟩ rfl ?_
          refine norm_ (a' := ?_) ?_ ?_
          rotate_left
          · simp only [Act.put, List.setIfInBounds_toArray, List.set_cons_zero, List.set_cons_succ]
            rfl
          refine one_ (i := 11) (N := some 63) #[true, true, true, true, true, true, true, true, true, true, true, true, false, false, false, false, false, false, false, false, false, false] rfl rfl (by kernel_rfl) (by simp) (fun K hK => ?_)
          refine goes_ Try.func31 (by kernel_rfl) rfl #[.agg (x.cs (.slice B l.length m))] (by rfl) rfl rfl (by simp only [List.map_toArray, List.map_cons, List.map_nil] <;> rfl) ?_
          refine (hqe.out _ HB.out).mono ?_
          rintro e V2 ⟨rfl, hb⟩
          have n_HB := Aside0.mk (below_step HB.out hb)
          have n_Yg7 := Aside0.mk (blk_below Yg7.out hb)
          have n_Yg8 := Aside0.mk (blk_below Yg8.out hb)
          have n_R := Aside0.mk (Kd.R_below R.out hb)
          clear HB Yg7 Yg8 R hb
          have HB := n_HB
          have Yg7 := n_Yg7
          have Yg8 := n_Yg8
          have R := n_R
          clear n_HB n_Yg7 n_Yg8 n_R
          refine ⟨_, rfl, hK.out _ _ ⟨Yg7.out, Yg8.out⟩ (fun _ => ?_)⟩
          clear hK K
          refine norm_ (a' := ?_) ?_ ?_
          rotate_left
          · simp only [Act.put, List.setIfInBounds_toArray, List.set_cons_zero, List.set_cons_succ]
            rfl
          refine pure_ (i := 12) (N := some 64) (v := ?_) (a' := ?_) #[true, true, true, true, true, true, true, true, true, true, true, true, true, false, false, false, false, false, false, false, false, false] rfl rfl (by kernel_rfl) (fun _ _ _ h => h) (Or.inl ⟨by rfl, ?_⟩) ?_ ?_
          rotate_left
          · intro w'
            go_simp
            with_reducible rfl
          rotate_left
          · simp only [Act.put, List.setIfInBounds_toArray, List.set_cons_zero, List.set_cons_succ]
            rfl
          refine pure_ (i := 13) (N := some 65) (v := ?_) (a' := ?_) #[true, true, true, true, true, true, true, true, true, true, true, true, true, true, false, false, false, false, false, false, false, false] rfl rfl (by kernel_rfl) (fun _ _ _ h => h) (Or.inl ⟨by rfl, ?_⟩) ?_ ?_
          rotate_left
          · intro w'
            go_simp
            with_reducible rfl
          rotate_left
          · simp only [Act.put, List.setIfInBounds_toArray, List.set_cons_zero, List.set_cons_succ]
            rfl
          refine pure_ (i := 14) (N := some 66) (v := ?_) (a' := ?_) #[true, true, true, true, true, true, true, true, true, true, true, true, true, true, true, false, false, false, false, false, false, false] rfl rfl (by kernel_rfl) (fun _ _ _ h => h) (Or.inl ⟨by rfl, ?_⟩) ?_ ?_
          rotate_left
          · intro w'
            go_simp
            with_reducible rfl
          rotate_left
          · simp only [Act.put, List.setIfInBounds_toArray, List.set_cons_zero, List.set_cons_succ]
            rfl
          refine pure_ (i := 15) (N := some 67) (v := ?_) (a' := ?_) #[true, true, true, true, true, true, true, true, true, true, true, true, true, true, true, true, false, false, false, false, false, false] rfl rfl (by kernel_rfl) (fun _ _ _ h => h) (Or.inl ⟨by rfl, ?_⟩) ?_ ?_
          rotate_left
          · intro w'
            go_simp
            with_reducible rfl
          rotate_left
          · simp only [Act.put, List.setIfInBounds_toArray, List.set_cons_zero, List.set_cons_succ]
            rfl
          refine take_ (i := 16) (N := some 68) (v := .agg (y.cs (.slice C ps.length c))) #[true, true, true, true, true, true, true, true, true, true, true, true, true, true, true, true, true, false, false, false, false, false] rfl rfl (by kernel_rfl) (fun _ _ _ h => h) (Or.inl ⟨by rfl, fun w' hS => load_run' (p := 8) rfl rfl hS.2 Try.underlying45 rfl (by kernel_rfl)⟩) ⟨Yg7.out, Yg8.out⟩ rfl ?_
          refine norm_ (a' := ?_) ?_ ?_
          rotate_left
          · simp only [Act.put, List.setIfInBounds_toArray, List.set_cons_zero, List.set_cons_succ]
            rfl
          refine take_ (i := 17) (N := some 69) (v := .agg (x.cs (.slice B l.length m))) #[true, true, true, true, true, true, true, true, true, true, true, true, true, true, true, true, true, true, false, false, false, false] rfl rfl (by kernel_rfl) (fun _ _ _ h => h) (Or.inl ⟨by rfl, fun w' hS => load_run' (p := 7) rfl rfl hS.1 Try.underlying45 rfl (by kernel_rfl)⟩) ⟨Yg7.out, Yg8.out⟩ rfl ?_
          refine norm_ (a' := ?_) ?_ ?_
          rotate_left
          · simp only [Act.put, List.setIfInBounds_toArray, List.set_cons_zero, List.set_cons_succ]
            rfl
          refine one_ (i := 18) (N := some 70) #[true, true, true, true, true, true, true, true, true, true, true, true, true, true, true, true, true, true, true, false, false, false] rfl rfl (by kernel_rfl) (by simp) (fun K hK => ?_)
          refine goes_ Try.func32 (by kernel_rfl) rfl #[.agg (x.cs (.slice B l.length m))] (by rfl) rfl rfl (by simp only [List.map_toArray, List.map_cons, List.map_nil] <;> rfl) ?_
          refine (hqc.out _).mono ?_
          rintro e V3 ⟨rfl, hb⟩
          have n_HB := Aside0.mk (below_step HB.out hb)
          have n_Yg7 := Aside0.mk (blk_below Yg7.out hb)
          have n_Yg8 := Aside0.mk (blk_below Yg8.out hb)
          have n_R := Aside0.mk (Kd.R_below R.out hb)
          clear HB Yg7 Yg8 R hb
          have HB := n_HB
          have Yg7 := n_Yg7
          have Yg8 := n_Yg8
          have R := n_R
          clear n_HB n_Yg7 n_Yg8 n_R
          refine ⟨_, rfl, hK.out _ _ ⟨Yg7.out, Yg8.out⟩ (fun _ => ?_)⟩
          clear hK K
          refine norm_ (a' := ?_) ?_ ?_
          rotate_left
          · simp only [Act.put, List.setIfInBounds_toArray, List.set_cons_zero, List.set_cons_succ]
            rfl
          refine one_ (i := 19) (N := some 71) #[true, true, true, true, true, true, true, true, true, true, true, true, true, true, true, true, true, true, true, true, false, false] rfl rfl (by kernel_rfl) (by simp) (fun K hK => ?_)
          refine goes_ Try.func21 (by kernel_rfl) rfl #[.agg (y.cs (.slice C ps.length c)), .agg (y.cs (.slice B2 ps.length m2))] (by rfl) rfl rfl (by simp only [List.map_toArray, List.map_cons, List.map_nil] <;> rfl) ?_
          refine (hsame.out _ C c R.out HB.out).mono ?_
          rintro e V4 ⟨rfl, hb⟩
          have n_HB := Aside0.mk (below_step HB.out hb)
          have n_Yg7 := Aside0.mk (blk_below Yg7.out hb)
          have n_Yg8 := Aside0.mk (blk_below Yg8.out hb)
          have n_R := Aside0.mk (Kd.R_below R.out hb)
          clear HB Yg7 Yg8 R hb
          have HB := n_HB
          have Yg7 := n_Yg7
          have Yg8 := n_Yg8
          have R := n_R
          clear n_HB n_Yg7 n_Yg8 n_R
          refine ⟨_, rfl, hK.out _ _ ⟨Yg7.out, Yg8.out⟩ (fun _ => ?_)⟩
          clear hK K
          refine norm_ (a' := ?_) ?_ ?_
          rotate_left
          · simp only [Act.put, List.setIfInBounds_toArray, List.set_cons_zero, List.set_cons_succ]
            rfl
          refine pure_ (i := 20) (N := some 72) (v := ?_) (a' := ?_) #[true, true, true, true, true, true, true, true, true, true, true, true, true, true, true, true, true, true, true, true, true, false] rfl rfl (by kernel_rfl) (fun _ _ _ h => h) (Or.inl ⟨by rfl, ?_⟩) ?_ ?_
          rotate_left
          · intro w'
            go_simp
            with_reducible rfl
          rotate_left
          · simp only [Act.put, List.setIfInBounds_toArray, List.set_cons_zero, List.set_cons_succ]
            rfl
          refine pure_ (i := 21) (N := some 73) (v := ?_) (a' := ?_) #[true, true, true, true, true, true, true, true, true, true, true, true, true, true, true, true, true, true, true, true, true, true] rfl rfl (by kernel_rfl) (fun _ _ _ h => h) (Or.inl ⟨by rfl, ?_⟩) ?_ ?_
          rotate_left
          · intro w'
            go_simp
            with_reducible rfl
          rotate_left
          · simp only [Act.put, List.setIfInBounds_toArray, List.set_cons_zero, List.set_cons_succ]
            rfl
          refine done_ (by kernel_rfl) ?_
          clear hpk hqe hqc hsame Yg7 Yg8 R HC2 hcs' HP
          go_wp2_with fail
          go_roundw
          case rel => exact ⟨j + 1, by rw [Hrst.out, hext.out], by go_num, by omega, HB⟩
          case measure => simp [intOf]; omega
        · obtain rfl : j = i := by omega
          have hnil : encL (rs.drop j) = ⟨#[]⟩ := by rw [List.drop_of_length_le (show rs.length ≤ j by omega)]; rfl
          rw [hnil]
          clear hnil
          have hpk := Aside0.mk (fun W : World => peek_calls ⟨#[]⟩ W)
          have hp0 : peekI ⟨#[]⟩ = 0 := rfl
          rw [hp0] at hpk
          clear hp0
          go_wp2_with fail
          refine (hpk.out _).mono ?_
          rintro e w3 ⟨rfl, hb⟩
          have L := Aside0.mk (below_step HB.out hb)
          clear hb HB hpk
          go_wp2_with fail
          refine (hlist.out _).mono ?_
          rintro e wz ⟨rfl, hb⟩
          have L := Aside0.mk (below_step L.out hb)
          clear hb
          go_wp2_with fail
          exact bodyPost_ret (results_tmp rfl _ _ _) rfl ⟨rfl, L.out⟩
end Go.Proofs.Ytlgihjhlkpmpnaa.Wire
