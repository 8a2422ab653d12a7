import Derived.Test.YtlgihjhlkpmpnaaQWirePd
-- halved
namespace Go.Proofs.Ytlgihjhlkpmpnaa.Wire
set_option linter.unusedVariables false
set_option linter.unusedSimpArgs false
open Go.RowKit Go.Proofs.YtlgihjhlkpmpnaaW.PrintWords Go.Proofs.YtlgihjhlkpmpnaaW.PrintLast Go.Proofs.YtlgihjhlkpmpnaaW.PrintMore Go.Proofs.Ytlgihjhlkpmpnaa.Hand Go.Proofs.Ytlgihjhlkpmpnaa.PWire Go.Proofs.Ytlgihjhlkpmpnaa.PureNums
/-- a call: Feed(s), then so many times Next -/
structure AP where
 s : ByteArray
 n : Int
structure Acts (w : World) (A : Option Addr) (n : Nat) (l : List AP) : Prop where
 len : l.length = n
 mx : n ≤ 9223372036854775807
 row : ∀ (i : Nat) (h : i < l.length), ∃ a, A = some a ∧ ∀ (j : Nat) (u : Value), (#[.string l[i].s, .int .i64 l[i].n] : Array Value)[j]? = some u → w.cell? ((a.add (i * 2)).add j) = some u
def actBad (p : AP) : Bool := decide (4100 < p.s.size) || decide (40 < p.n)
def actsBig (l : List AP) : Bool := decide (40 < l.length) || l.any actBad
theorem cell_of {B : Nat} {w w' : World} (h : Below B w w') {a : Addr} {v : Value} (hc : w.cell? a = some v) (hB : w.heap.size ≤ B) : w'.cell? a = some v := by
 rw [h.cell (Nat.lt_of_lt_of_le (World.block_lt_of_cell? w a hc) hB)]
 exact hc
theorem load_evm' {P : Program} {ops : Array Oper} {rest : List Oper} {o : Oper} {a : Act} {Q : Exit → Act → World → Prop} {W : World} {N : Tmp} (hN : o.dst = some N) (hgd : o.guard = none) {ty : TypeId} {p : Tmp} (ho : o.op = .load ty (.tmp p)) {b : Addr} {cs : Array Value} (hx : a.eval (.tmp p) = .pointer (some b)) {d : TypeDesc} (hc : ∀ (j : Nat) (v : Value), cs[j]? = some v → W.cell? (b.add j) = some v)
  (hu : P.underlying ty = some d) (hd : (match d with | .struct _ | .array _ _ => true | _ => false) = true) (hi : (P.info? ty).map (·.size) = some cs.size)
  (h : wpList P ops Q rest (a.put o.dst (.agg cs)) W) : wpList P ops Q (o :: rest) a W := by
 have hl : (loadCells b cs.toList.length).run P W = .ok cs.toList.toArray W :=
  run_loadCells_list (P := P) W b cs.toList (fun j v hv => hc j v (by simpa using hv))
 have hv : (loadVar ty b).run P W = .ok (.agg cs) W := by
  cases hq : P.info? ty with
  | none => simp [hq] at hi
  | some i =>
   have hs : i.size = cs.size := by simpa [hq] using hi
   have hagg : (isAgg ty).run P W = .ok true W := by
    unfold isAgg
    rw [Sem.run_bind, run_underlying hu W]
    cases d <;> simp_all
   simp only [Array.length_toList, Array.toArray_toList] at hl
   simp [loadVar, Sem.run_bind, hagg, sizeOf, typeInfo, hq, hs, hl]
 have hw : Region.wanted o (yielded ops a.tmps) = true := by simp [Region.wanted, hgd]
 unfold wpList
 rw [if_pos hw]
 left
 unfold Oper.wp
 have hr : (execOp a.eval o).run P W = .ok (.value (.agg cs)) W := by
  unfold execOp
  simp only [ho, hx, Instr.loadAt, Instr.sureAddr, Sem.run_bind, Sem.run_pure, Result.andThen_ok, hv]
 rw [hr]
 exact h
theorem nextH_size (held : ByteArray) (br : Bool) : (nextH held br).size ≤ held.size := by
 cases br with
 | true => exact Nat.le_refl _
 | false =>
  show (cutS held).size ≤ _
  unfold cutS
  rw [ByteArray.size_extract]
  omega
theorem snext_any (g : Nat) (held : ByteArray) (br : Bool) (w : World) (hg : w.heap[g]? = some (prow held br)) (hz : held.size ≤ 100000000) :
  Calls Try.prog 17 #[.agg #[.string held, .bool br], .pointer (some ⟨g, 0, none⟩)] w fun e w' => e = .returned (.tuple #[.agg #[.string (nextH held br), .bool (nextB held br)], .bool true]) ∧ w'.heap[g]? = some (prow (nextH held br) (nextB held br)) ∧ w.grownBy w' (some g) := by
 cases br with
 | true => exact snext_broken g held w hg hz
 | false => exact snext_calls g held w hg hz
theorem feedB_size (held : ByteArray) (br : Bool) (s : ByteArray) (h : held.size ≤ 4000) : (feedB held br s).1.size ≤ 4000 := by
 unfold feedB feedR
 split
 ·exact h
 ·split
  ·exact h
  ·show (held ++ s).size ≤ 4000
   rw [ByteArray.size_append]
   omega
set_option maxHeartbeats 16000000 in
set_option maxRecDepth 100000 in
theorem lacts_calls (l : List AP) (A : Option Addr) (n k : Nat) (w : World) (hp : Acts w A n l) :
  Calls Try.prog 13 #[.slice A n k] w fun e w' => e = .returned (.bool (actsBig l)) ∧ Below w.heap.size w w' := by
 have hund : ∀ b, some undef = some (Value.bool b) → False := fun b h => by simp [undef] at h
 have HP := Aside0.mk hp
 have hnl := hp.len
 have hmx := hp.mx
 have hdef : Aside0 (actsBig l = (decide (40 < l.length) || l.any actBad)) := ⟨rfl⟩
 generalize actsBig l = res at *
 clear hp
 by_cases h40 : (40 : Int) < (n : Int)
 ·have hF : Aside0 (res = true) := ⟨by rw [hdef.out, decide_eq_true (show 40 < l.length by omega)]; rfl⟩
  go_enter Try.func13, Try.ntmps13
  go_wp2_with fail
  go_ret
  exact ⟨by rw [hF.out] <;> rfl, Below.refl _ _⟩
 rw [decide_eq_false (show ¬ 40 < l.length by omega), Bool.false_or] at hdef
 go_enter Try.func13, Try.ntmps13
 go_wp2_with fail
 go_loopw [10] (fun iv wr => ∃ i : Nat, iv = .int .i64 i ∧ i ≤ n ∧ Aside0 ((l.take i).any actBad = false) ∧ Aside0 (Below w.heap.size w wr)) (fun iv _ => n - (intOf iv).toNat)
 case atStart => exact ⟨0, rfl, Nat.zero_le _, ⟨rfl⟩, ⟨by repeat (first | exact Below.refl _ _ | apply below_alloc | apply below_drew)⟩⟩
 case round =>
  obtain ⟨i, rfl, hil, HA, HB⟩ := hrel
  by_cases hlt : i < n
  ·obtain ⟨ad, hAd, hcs⟩ := HP.out.row i (by omega)
   have hcs' : Aside0 (∀ (j : Nat) (v : Value), (#[.string l[i].s, .int .i64 l[i].n] : Array Value)[j]? = some v → wr.cell? ((ad.add (i * 2)).add j) = some v) := ⟨fun j v hv => cell_of HB.out (hcs j v hv) (Nat.le_refl _)⟩
   clear hcs
   have hnx : Aside0 ((l.take (i + 1)).any actBad = actBad l[i]) := ⟨by rw [List.take_succ_eq_append_getElem (by omega), List.any_append, HA.out]; simp⟩
   have hbad : Aside0 (actBad l[i] = true → res = true) := ⟨fun h => by rw [hdef.out]; exact List.any_eq_true.2 ⟨l[i], List.getElem_mem (by omega), h⟩⟩
   have hpb : Aside0 (actBad l[i] = (decide (4100 < l[i].s.size) || decide (40 < l[i].n))) := ⟨rfl⟩
   subst hAd
   obtain ⟨pr, hpr⟩ : ∃ pr, l[i] = pr := ⟨_, rfl⟩
   simp only [hpr] at hcs' hnx hbad hpb
   clear hpr HA
   obtain ⟨s, m⟩ := pr
   simp only at hcs' hpb
   by_cases k0 : (4100 : Int) < (s.size : Int)
   case pos =>
    have hF := Aside0.mk (hbad.out (by rw [hpb.out, decide_eq_true (show 4100 < s.size by omega)]; rfl))
    clear hpb hbad hnx
    go_wp2_with (first
     | ((with_reducible refine gate_dst (N := 13) rfl ?_); refine load_evm' (N := 13) rfl rfl rfl (cs := #[.string s, .int .i64 m]) rfl hcs'.out Try.underlying30 rfl (by kernel_rfl) ?_)
     | ((with_reducible refine gate_dst (N := 4) rfl ?_); refine box_event rfl (N := 4) rfl (cs := #[.string ⟨#[]⟩, .int .i64 0]) (t := 30) ?hr ?_; (case hr => first | (go_simp; done) | (go_simp; rfl)); intro g4 hg4 w1 hbx hbl; have n_HB := Aside0.mk (below_step HB.out hbl); have G4 := Aside0.mk (show w.heap.size ≤ g4 by rw [hg4]; exact HB.out.size); have Y := Aside0.mk hbx; clear HB hbx hbl hg4; have HB := n_HB; clear n_HB)
     | ((with_reducible refine gate_store (t := 30) (p := 4) rfl ?_); refine store_ev rfl rfl rfl (cells := #[.string s, .int .i64 m]) rfl rfl Y.out (by kernel_rfl) rfl (by kernel_rfl) ?_; intro w2 hbx hgr; have n_HB := Aside0.mk (below_put HB.out G4.out hgr HB.out.size); have n_Y := Aside0.mk hbx; clear HB Y hbx hgr; have HB := n_HB; have Y := n_Y; clear n_HB n_Y; have y0 : w2.cell? ⟨g4, 0, none⟩ = some (.string s) := (blk_cell Y.out 0).trans rfl; have y1 : w2.cell? ⟨g4, 1, none⟩ = some (.int .i64 m) := (blk_cell Y.out 1).trans rfl))
    go_ret
    exact ⟨by rw [hF.out] <;> rfl, HB.out⟩
   by_cases k1 : (40 : Int) < m
   case pos =>
    have hF := Aside0.mk (hbad.out (by rw [hpb.out, decide_eq_true k1]; simp))
    clear hpb hbad hnx
    go_wp2_with (first
     | ((with_reducible refine gate_dst (N := 13) rfl ?_); refine load_evm' (N := 13) rfl rfl rfl (cs := #[.string s, .int .i64 m]) rfl hcs'.out Try.underlying30 rfl (by kernel_rfl) ?_)
     | ((with_reducible refine gate_dst (N := 4) rfl ?_); refine box_event rfl (N := 4) rfl (cs := #[.string ⟨#[]⟩, .int .i64 0]) (t := 30) ?hr ?_; (case hr => first | (go_simp; done) | (go_simp; rfl)); intro g4 hg4 w1 hbx hbl; have n_HB := Aside0.mk (below_step HB.out hbl); have G4 := Aside0.mk (show w.heap.size ≤ g4 by rw [hg4]; exact HB.out.size); have Y := Aside0.mk hbx; clear HB hbx hbl hg4; have HB := n_HB; clear n_HB)
     | ((with_reducible refine gate_store (t := 30) (p := 4) rfl ?_); refine store_ev rfl rfl rfl (cells := #[.string s, .int .i64 m]) rfl rfl Y.out (by kernel_rfl) rfl (by kernel_rfl) ?_; intro w2 hbx hgr; have n_HB := Aside0.mk (below_put HB.out G4.out hgr HB.out.size); have n_Y := Aside0.mk hbx; clear HB Y hbx hgr; have HB := n_HB; have Y := n_Y; clear n_HB n_Y; have y0 : w2.cell? ⟨g4, 0, none⟩ = some (.string s) := (blk_cell Y.out 0).trans rfl; have y1 : w2.cell? ⟨g4, 1, none⟩ = some (.int .i64 m) := (blk_cell Y.out 1).trans rfl))
    go_ret
    exact ⟨by rw [hF.out] <;> rfl, HB.out⟩
   have hA2 : Aside0 ((l.take (i + 1)).any actBad = false) := ⟨by rw [hnx.out, hpb.out, decide_eq_false (show ¬ 4100 < s.size by omega), decide_eq_false k1]; rfl⟩
   clear hpb hbad hnx
   go_wp2_with (first
    | ((with_reducible refine gate_dst (N := 13) rfl ?_); refine load_evm' (N := 13) rfl rfl rfl (cs := #[.string s, .int .i64 m]) rfl hcs'.out Try.underlying30 rfl (by kernel_rfl) ?_)
    | ((with_reducible refine gate_dst (N := 4) rfl ?_); refine box_event rfl (N := 4) rfl (cs := #[.string ⟨#[]⟩, .int .i64 0]) (t := 30) ?hr ?_; (case hr => first | (go_simp; done) | (go_simp; rfl)); intro g4 hg4 w1 hbx hbl; have n_HB := Aside0.mk (below_step HB.out hbl); have G4 := Aside0.mk (show w.heap.size ≤ g4 by rw [hg4]; exact HB.out.size); have Y := Aside0.mk hbx; clear HB hbx hbl hg4; have HB := n_HB; clear n_HB)
    | ((with_reducible refine gate_store (t := 30) (p := 4) rfl ?_); refine store_ev rfl rfl rfl (cells := #[.string s, .int .i64 m]) rfl rfl Y.out (by kernel_rfl) rfl (by kernel_rfl) ?_; intro w2 hbx hgr; have n_HB := Aside0.mk (below_put HB.out G4.out hgr HB.out.size); have n_Y := Aside0.mk hbx; clear HB Y hbx hgr; have HB := n_HB; have Y := n_Y; clear n_HB n_Y; have y0 : w2.cell? ⟨g4, 0, none⟩ = some (.string s) := (blk_cell Y.out 0).trans rfl; have y1 : w2.cell? ⟨g4, 1, none⟩ = some (.int .i64 m) := (blk_cell Y.out 1).trans rfl))
   go_roundw
   case rel => exact ⟨i + 1, by go_num, by omega, hA2, HB⟩
   case measure => simp [intOf]; omega
  ·have hie : l.take i = l := List.take_of_length_le (by omega)
   rw [hie] at HA
   have hF : Aside0 (res = false) := ⟨by rw [hdef.out, HA.out]⟩
   clear hie HA hil
   go_wp2_with fail
   go_ret
   exact ⟨by rw [hF.out] <;> rfl, HB.out⟩
set_option maxHeartbeats 64000000 in
set_option maxRecDepth 100000 in
theorem pacts_calls (l : List AP) (A : Option Addr) (n k : Nat) (w : World) (hp : Acts w A n l) :
  Calls Try.prog 3 #[.slice A n k] w fun e w' => e = .returned (.bool true) ∧ Below w.heap.size w w' := by
 have hund : ∀ b, some undef = some (Value.bool b) → False := fun b h => by simp [undef] at h
 have HP := Aside0.mk hp
 have hnl := hp.len
 have hmx := hp.mx
 have hlg := Aside0.mk (lacts_calls l A n k w hp)
 have hhf := Aside0.mk (fun W : World => half_calls W)
 clear hp
 cases hbig : actsBig l with
 | true =>
  rw [hbig] at hlg
  clear hbig
  go_enter Try.func3, Try.ntmps3
  go_wp2_with fail
  refine hlg.out.mono ?_
  rintro e w1 ⟨rfl, hb⟩
  go_wp2_with fail
  refine (hhf.out _).mono ?_
  rintro e w2 ⟨rfl, hb2⟩
  have L := Aside0.mk (below_step hb hb2)
  clear hb hb2
  go_wp2_with fail
  go_ret
  exact ⟨rfl, L.out⟩
 | false =>
  rw [hbig] at hlg
  have hall : Aside0 (∀ (i : Nat) (h : i < l.length), l[i].s.size ≤ 4100 ∧ l[i].n ≤ 40) := ⟨fun i h => by
   unfold actsBig at hbig
   rw [Bool.or_eq_false_iff] at hbig
   have := List.any_eq_false.1 hbig.2 l[i] (List.getElem_mem h)
   unfold actBad at this
   simp only [Bool.or_eq_true, decide_eq_true_eq, not_or] at this
   omega⟩
  clear hbig
  have hnw := Aside0.mk (fun W : World => new_calls W)
  go_enter Try.func3, Try.ntmps3
  go_wp2_with fail
  refine hlg.out.mono ?_
  rintro e w1 ⟨rfl, hb⟩
  have HB := Aside0.mk hb
  clear hb hlg
  go_wp2_with fail
  refine (hnw.out _).mono ?_
  rintro e w2 ⟨g, rfl, hgs, hG, hb⟩
  have GL := Aside0.mk (Nat.le_trans HB.out.size hgs)
  have G := Aside0.mk hG
  have n_HB := Aside0.mk (below_step HB.out hb)
  clear HB hb hG hgs hnw
  have HB := n_HB
  clear n_HB
  go_wp2_with (first
   | ((with_reducible refine gate_dst (N := 4) rfl ?_); refine box_event rfl (N := 4) rfl (cs := #[.string ⟨#[]⟩, .bool false]) (t := 28) ?hr ?_; (case hr => first | (go_simp; done) | (go_simp; rfl)); intro g4 hg4 w3 hbx hbl; have G4 := Aside0.mk (show w.heap.size ≤ g4 by rw [hg4]; exact HB.out.size); have D := Aside0.mk (show g ≠ g4 by rw [hg4]; exact Nat.ne_of_lt (blk_lt G.out)); have n_HB := Aside0.mk (below_step HB.out hbl); have n_G := Aside0.mk (blk_below G.out hbl); clear HB G; have HB := n_HB; have G := n_G; clear n_HB n_G; have Y := Aside0.mk hbx; clear hbx hbl hg4)
   | ((with_reducible refine gate_store (t := 28) (p := 4) rfl ?_); refine store_ev rfl rfl rfl (cells := #[.string ⟨#[]⟩, .bool false]) rfl rfl Y.out (by kernel_rfl) rfl (by kernel_rfl) ?_; intro w4 hbx hgr; have n_HB := Aside0.mk (below_put HB.out G4.out hgr HB.out.size); have n_G := Aside0.mk (grown_at hgr G.out D.out); have n_Y := Aside0.mk (hbx); clear HB G Y hbx hgr; have HB := n_HB; have G := n_G; have Y := n_Y; clear n_HB n_G n_Y))
  go_loopw [17] (fun iv wr => ∃ (i : Nat) (hd : ByteArray) (br : Bool), iv = .int .i64 i ∧ i ≤ n ∧ Aside0 (hd.size ≤ 4000) ∧ Aside0 (wr.heap[g]? = some (prow hd br)) ∧ Aside0 (wr.heap[g4]? = some (.cells #[.string hd, .bool br] 28 (0, 0))) ∧ Aside0 (Below w.heap.size w wr)) (fun iv _ => n - (intOf iv).toNat)
  case atStart => exact ⟨0, ⟨#[]⟩, false, rfl, Nat.zero_le _, ⟨Nat.zero_le _⟩, G, Y, HB⟩
  case round =>
   clear HB G Y
   obtain ⟨i, hd, br, rfl, hil, HZ, G, Y, HB⟩ := hrel
   by_cases hlt : i < n

   ·obtain ⟨ad, hAd, hcs⟩ := HP.out.row i (by omega)
    have hcs' : Aside0 (∀ (j : Nat) (v : Value), (#[.string l[i].s, .int .i64 l[i].n] : Array Value)[j]? = some v → wr.cell? ((ad.add (i * 2)).add j) = some v) := ⟨fun j v hv => cell_of HB.out (hcs j v hv) (Nat.le_refl _)⟩
    clear hcs
    have hsz := hall.out i (by omega)
    subst hAd
    obtain ⟨pr, hpr⟩ : ∃ pr, l[i] = pr := ⟨_, rfl⟩
    simp only [hpr] at hcs' hsz
    clear hpr
    obtain ⟨s, m⟩ := pr
    simp only at hcs' hsz
    obtain ⟨hs1, hm1⟩ := hsz
    have hfd := Aside0.mk (fun (W : World) (h : W.heap[g]? = some (prow hd br)) => feed_calls g hd br s W h HZ.out (by omega))
    have hnz := Aside0.mk (feedB_size hd br s HZ.out)
    have hz0 : hd.size ≤ 4000 := HZ.out
    go_wp2_with (first
     | ((with_reducible refine gate_dst (N := 20) rfl ?_); refine load_evm' (N := 20) rfl rfl rfl (cs := #[.string s, .int .i64 m]) rfl hcs'.out Try.underlying30 rfl (by kernel_rfl) ?_)
     | ((with_reducible refine gate_dst (N := 6) rfl ?_); refine box_event rfl (N := 6) rfl (cs := #[.string ⟨#[]⟩, .int .i64 0]) (t := 30) ?hr ?_; (case hr => first | (go_simp; done) | (go_simp; rfl)); intro g6 hg6 w5 hbx hbl; have G6 := Aside0.mk (show w.heap.size ≤ g6 by rw [hg6]; exact HB.out.size); have D6 := Aside0.mk (show g ≠ g6 by rw [hg6]; exact Nat.ne_of_lt (blk_lt G.out)); have D46 := Aside0.mk (show g4 ≠ g6 by rw [hg6]; exact Nat.ne_of_lt (blk_lt Y.out)); have n_HB := Aside0.mk (below_step HB.out hbl); have n_G := Aside0.mk (blk_below G.out hbl); have n_Y := Aside0.mk (blk_below Y.out hbl); clear HB G Y; have HB := n_HB; have G := n_G; have Y := n_Y; clear n_HB n_G n_Y; have X := Aside0.mk hbx; clear hbx hbl hg6)
     | ((with_reducible refine gate_store (t := 30) (p := 6) rfl ?_); refine store_ev rfl rfl rfl (cells := #[.string s, .int .i64 m]) rfl rfl X.out (by kernel_rfl) rfl (by kernel_rfl) ?_; intro w6 hbx hgr; have n_HB := Aside0.mk (below_put HB.out G6.out hgr HB.out.size); have n_G := Aside0.mk (grown_at hgr G.out D6.out); have n_Y := Aside0.mk (grown_at hgr Y.out D46.out); have n_X := Aside0.mk (hbx); clear HB G Y X hbx hgr; have HB := n_HB; have G := n_G; have Y := n_Y; have X := n_X; clear n_HB n_G n_Y n_X; have x0 : w6.cell? ⟨g6, 0, none⟩ = some (.string s) := (blk_cell X.out 0).trans rfl))
    refine (hfd.out _ G.out).mono ?_
    rintro e w7 ⟨rfl, hG, hF⟩
    clear x0
    have n_HB := Aside0.mk (below_put HB.out GL.out hF HB.out.size)
    have n_Y := Aside0.mk (grown_at hF Y.out (Ne.symm D.out))
    have n_X := Aside0.mk (grown_at hF X.out (Ne.symm D6.out))
    have n_G := Aside0.mk (hG)
    clear HB Y X G hG hF hfd hcs'
    have HB := n_HB
    have Y := n_Y
    have X := n_X
    have G := n_G
    clear n_HB n_Y n_X n_G
    obtain ⟨m2, hm2, h20⟩ : ∃ m2 : Int, Aside0 ((if m < 0 then (0 : Int) else m) = m2) ∧ 0 ≤ m2 := ⟨_, ⟨rfl⟩, by split <;> omega⟩
    rcases (show br = true ∨ (br = false ∧ 4000 < hd.size + s.size) ∨ (br = false ∧ ¬ 4000 < hd.size + s.size) by cases br <;> simp <;> omega) with rfl | ⟨rfl, hl4⟩ | ⟨rfl, hl4⟩
    focus
     have hR : feedB hd true s = (hd, 38) := rfl
     rw [hR] at G
     simp only [hR]
     clear hR hnz
     have x0 : w7.cell? ⟨g6, 0, none⟩ = some (.string s) := (blk_cell X.out 0).trans rfl
     have x1 : w7.cell? ⟨g6, 1, none⟩ = some (.int .i64 m) := (blk_cell X.out 1).trans rfl
     have y0 : w7.cell? ⟨g4, 0, none⟩ = some (.string hd) := (blk_cell Y.out 0).trans rfl
     have y1 : w7.cell? ⟨g4, 1, none⟩ = some (.bool true) := (blk_cell Y.out 1).trans rfl
     have z0 : w7.frozen? ⟨g4, 0, none⟩ = false := blk_frozen Y.out 0
     have hm3 : (if m < 0 then (0 : Int) else m) = m2 := hm2.out
     go_wp2_with fail
    rotate_left
    focus
     have hR : feedB hd false s = (hd, 2) := by show feedR hd s = _; unfold feedR; rw [if_pos hl4]
     have t4 : (4000 : Int) < (hd.size : Int) + (s.size : Int) := by omega
     rw [hR] at G
     simp only [hR]
     clear hR hnz
     have x0 : w7.cell? ⟨g6, 0, none⟩ = some (.string s) := (blk_cell X.out 0).trans rfl
     have x1 : w7.cell? ⟨g6, 1, none⟩ = some (.int .i64 m) := (blk_cell X.out 1).trans rfl
     have y0 : w7.cell? ⟨g4, 0, none⟩ = some (.string hd) := (blk_cell Y.out 0).trans rfl
     have y1 : w7.cell? ⟨g4, 1, none⟩ = some (.bool false) := (blk_cell Y.out 1).trans rfl
     have z0 : w7.frozen? ⟨g4, 0, none⟩ = false := blk_frozen Y.out 0
     have hm3 : (if m < 0 then (0 : Int) else m) = m2 := hm2.out
     go_wp2_with fail
    rotate_left
    focus
     have hR : feedB hd false s = (hd ++ s, 0) := by show feedR hd s = _; unfold feedR; rw [if_neg hl4]
     have t4 : ¬ (4000 : Int) < (hd.size : Int) + (s.size : Int) := by omega
     have t5 : ¬ 9223372036854775807 < hd.size + s.size := by omega
     rw [hR] at G hnz
     simp only [hR]
     clear hR HZ
     have HZ := hnz
     clear hnz
     have x0 : w7.cell? ⟨g6, 0, none⟩ = some (.string s) := (blk_cell X.out 0).trans rfl
     have x1 : w7.cell? ⟨g6, 1, none⟩ = some (.int .i64 m) := (blk_cell X.out 1).trans rfl
     have y0 : w7.cell? ⟨g4, 0, none⟩ = some (.string hd) := (blk_cell Y.out 0).trans rfl
     have y1 : w7.cell? ⟨g4, 1, none⟩ = some (.bool false) := (blk_cell Y.out 1).trans rfl
     have z0 : w7.frozen? ⟨g4, 0, none⟩ = false := blk_frozen Y.out 0
     have hm3 : (if m < 0 then (0 : Int) else m) = m2 := hm2.out
     go_wp2_with (first
      | ((with_reducible refine gate_store (t := 9) (p := 32) rfl ?_); refine fstore_ev rfl rfl rfl (g := g4) (j := 0) (u := .string (hd ++ s)) Y.out ?hr ?_; (case hr => first | (go_simp; done) | (go_simp; rfl)); intro w8 hbx hgr; have n_HB := Aside0.mk (below_put HB.out G4.out hgr HB.out.size); have n_G := Aside0.mk (grown_at hgr G.out D.out); have n_X := Aside0.mk (grown_at hgr X.out (Ne.symm D46.out)); have n_Y := Aside0.mk (hbx); clear HB G X Y hbx hgr x0 x1 y0 y1 z0; have HB := n_HB; have G := n_G; have X := n_X; have Y := n_Y; clear n_HB n_G n_X n_Y; have x0 : w8.cell? ⟨g6, 0, none⟩ = some (.string s) := (blk_cell X.out 0).trans rfl; have x1 : w8.cell? ⟨g6, 1, none⟩ = some (.int .i64 m) := (blk_cell X.out 1).trans rfl; have y0 := (); have y1 := (); have z0 := ()))
    all_goals
     clear x0 x1 y0 y1 z0
     go_loopw [52] (fun jv wr => ∃ (j : Nat) (hd : ByteArray) (br : Bool), jv = .int .i64 j ∧ (j : Int) ≤ m2 ∧ Aside0 (hd.size ≤ 4000) ∧ Aside0 (wr.heap[g]? = some (prow hd br)) ∧ Aside0 (wr.heap[g4]? = some (.cells #[.string hd, .bool br] 28 (0, 0))) ∧ Aside0 (Below w.heap.size w wr)) (fun jv _ => (m2 - intOf jv).toNat)
     case atStart => exact ⟨0, _, _, rfl, by omega, HZ, G, Y, HB⟩
     case round =>
      clear HB G Y HZ
      obtain ⟨j, hd, br, rfl, hjl, HZ, G, Y, HB⟩ := hrel
      by_cases hjt : (j : Int) < m2
      ·have hsn := Aside0.mk (fun (W : World) (h : W.heap[g]? = some (prow hd br)) => snext_any g hd br W h (by have := HZ.out; omega))
       have hz2 := Aside0.mk (Nat.le_trans (nextH_size hd br) HZ.out)
       obtain ⟨hd2, hh2⟩ : ∃ x, nextH hd br = x := ⟨_, rfl⟩
       obtain ⟨br2, hb2⟩ : ∃ x, nextB hd br = x := ⟨_, rfl⟩
       simp only [hh2, hb2] at hsn hz2
       clear hh2 hb2
       go_wp2_with (first
        | ((with_reducible refine gate_dst (N := 55) rfl ?_); refine load_ev (N := 55) rfl rfl rfl (cs := #[.string hd, .bool br]) rfl Y.out Try.underlying28 rfl (by kernel_rfl) ?_))
       refine (hsn.out _ G.out).mono ?_
       rintro e v1 ⟨rfl, hG, hF⟩
       have n_HB := Aside0.mk (below_put HB.out GL.out hF HB.out.size)
       have n_Y := Aside0.mk (grown_at hF Y.out (Ne.symm D.out))
       have n_G := Aside0.mk (hG)
       clear HB Y G hG hF hsn
       have HB := n_HB
       have Y := n_Y
       have G := n_G
       clear n_HB n_Y n_G
       go_upto_region 22 with (first
        | ((with_reducible refine gate_dst (N := 8) rfl ?_); refine box_event rfl (N := 8) rfl (cs := #[.string ⟨#[]⟩, .bool false]) (t := 28) ?hr ?_; (case hr => first | (go_simp; done) | (go_simp; rfl)); intro g8 hg8 v2 hbx hbl; have G8 := Aside0.mk (show w.heap.size ≤ g8 by rw [hg8]; exact HB.out.size); have D8 := Aside0.mk (show g ≠ g8 by rw [hg8]; exact Nat.ne_of_lt (blk_lt G.out)); have D48 := Aside0.mk (show g4 ≠ g8 by rw [hg8]; exact Nat.ne_of_lt (blk_lt Y.out)); have n_HB := Aside0.mk (below_step HB.out hbl); have n_G := Aside0.mk (blk_below G.out hbl); have n_Y := Aside0.mk (blk_below Y.out hbl); clear HB G Y; have HB := n_HB; have G := n_G; have Y := n_Y; clear n_HB n_G n_Y; have U := Aside0.mk hbx; clear hbx hbl hg8)
        | ((with_reducible refine gate_store (t := 28) (p := 8) rfl ?_); refine store_ev rfl rfl rfl (cells := #[.string hd2, .bool br2]) rfl rfl U.out (by kernel_rfl) rfl (by kernel_rfl) ?_; intro v3 hbx hgr; have n_HB := Aside0.mk (below_put HB.out G8.out hgr HB.out.size); have n_G := Aside0.mk (grown_at hgr G.out D8.out); have n_Y := Aside0.mk (grown_at hgr Y.out D48.out); have n_U := Aside0.mk (hbx); clear HB G Y U hbx hgr; have HB := n_HB; have G := n_G; have Y := n_Y; have U := n_U; clear n_HB n_G n_Y n_U)
        | ((with_reducible refine gate_dst (N := 60) rfl ?_); refine load_ev (N := 60) rfl rfl rfl (cs := #[.string hd2, .bool br2]) rfl U.out Try.underlying28 rfl (by kernel_rfl) ?_)
        | ((with_reducible refine gate_store (t := 28) (p := 4) rfl ?_); refine store_ev rfl rfl rfl (cells := #[.string hd2, .bool br2]) rfl rfl Y.out (by kernel_rfl) rfl (by kernel_rfl) ?_; intro v4 hbx hgr; have n_HB := Aside0.mk (below_put HB.out G4.out hgr HB.out.size); have n_G := Aside0.mk (grown_at hgr G.out D.out); have n_Y := Aside0.mk (hbx); clear HB G Y hbx hgr U; have HB := n_HB; have G := n_G; have Y := n_Y; clear n_HB n_G n_Y))
       have n_HB := Aside0.mk (below_step HB.out (below_drew (Below.refl _ _)))
       have n_G := Aside0.mk (blk_drew G.out)
       have n_Y := Aside0.mk (blk_drew Y.out)
       clear HB G Y 
       have HB := n_HB
       have G := n_G
       have Y := n_Y
       clear n_HB n_G n_Y
       refine start_ (n := 17) (S := fun w' => w'.heap[g4]? = some (.cells #[.string hd2, .bool br2] 28 (0, 0))) (ds := []) #[false, false, false, false, false, false, false, false, false, false, false, false, false, false, false, false, false] (by kernel_rfl) rfl rfl Y.out (fun _ => ?_)
       generalize v4.drew = V at *
       refine pure_ (i := 0) (N := some 61) (v := ?_) (a' := ?_) #[true, false, false, false, false, false, false, false, false, false, false, false, false, false, false, false, false] rfl rfl (by kernel_rfl) (fun _ _ _ h => h) (Or.inl ⟨by rfl, ?_⟩) ?_ ?_
       rotate_left
       ·intro w'
        go_simp
        with_reducible rfl
       rotate_left
       ·simp only [Act.put, List.setIfInBounds_toArray, List.set_cons_zero, List.set_cons_succ]
        rfl
       refine pure_ (i := 1) (N := some 62) (v := ?_) (a' := ?_) #[true, true, false, false, false, false, false, false, false, false, false, false, false, false, false, false, false] rfl rfl (by kernel_rfl) (fun _ _ _ h => h) (Or.inl ⟨by rfl, ?_⟩) ?_ ?_
       rotate_left
       ·intro w'
        go_simp
        with_reducible rfl
       rotate_left
       ·simp only [Act.put, List.setIfInBounds_toArray, List.set_cons_zero, List.set_cons_succ]
        rfl
       refine pure_ (i := 2) (N := some 63) (v := ?_) (a' := ?_) #[true, true, true, false, false, false, false, false, false, false, false, false, false, false, false, false, false] rfl rfl (by kernel_rfl) (fun _ _ _ h => h) (Or.inl ⟨by rfl, ?_⟩) ?_ ?_
       rotate_left
       ·intro w'
        go_simp
        with_reducible rfl
       rotate_left
       ·simp only [Act.put, List.setIfInBounds_toArray, List.set_cons_zero, List.set_cons_succ]
        rfl
       refine pure_ (i := 3) (N := some 64) (v := ?_) (a' := ?_) #[true, true, true, true, false, false, false, false, false, false, false, false, false, false, false, false, false] rfl rfl (by kernel_rfl) (fun _ _ _ h => h) (Or.inl ⟨by rfl, ?_⟩) ?_ ?_
       rotate_left
       ·intro w'
        go_simp
        with_reducible rfl
       rotate_left
       ·simp only [Act.put, List.setIfInBounds_toArray, List.set_cons_zero, List.set_cons_succ]
        rfl
       refine pure_ (i := 5) (N := some 66) (v := ?_) (a' := ?_) #[true, true, true, true, false, true, false, false, false, false, false, false, false, false, false, false, false] rfl rfl (by kernel_rfl) (fun _ _ _ h => h) (Or.inl ⟨by rfl, ?_⟩) ?_ ?_
       rotate_left
       ·intro w'
        go_simp
        with_reducible rfl
       rotate_left
       ·simp only [Act.put, List.setIfInBounds_toArray, List.set_cons_zero, List.set_cons_succ]
        rfl
       refine take_ (i := 6) (N := some 67) (v := .string hd2) #[true, true, true, true, false, true, true, false, false, false, false, false, false, false, false, false, false] rfl rfl (by kernel_rfl) (fun _ _ _ h => h) (Or.inl ⟨by rfl, fun w' hS => ?_⟩) Y.out rfl ?_
       ·have hcell : w'.cell? ⟨g4, 0, none⟩ = some (.string hd2) := (blk_cell hS 0).trans rfl
        first
        | (go_simp; done)
        | (go_simp; rfl)
       refine norm_ (a' := ?_) ?_ ?_
       rotate_left
       ·simp only [Act.put, List.setIfInBounds_toArray, List.set_cons_zero, List.set_cons_succ]
        rfl
       refine pure_ (i := 7) (N := some 68) (v := ?_) (a' := ?_) #[true, true, true, true, false, true, true, true, false, false, false, false, false, false, false, false, false] rfl rfl (by kernel_rfl) (fun _ _ _ h => h) (Or.inl ⟨by rfl, ?_⟩) ?_ ?_
       rotate_left
       ·intro w'
        go_simp
        with_reducible rfl
       rotate_left
       ·simp only [Act.put, List.setIfInBounds_toArray, List.set_cons_zero, List.set_cons_succ]
        rfl
       refine one_ (i := 4) (N := some 65) #[true, true, true, true, true, true, true, true, false, false, false, false, false, false, false, false, false] rfl rfl (by kernel_rfl) (by simp) (fun K hK => ?_)
       refine goes_ Try.func18 (by kernel_rfl) rfl #[.pointer (some ⟨g, 0, none⟩)] (by rfl) rfl rfl (by simp only [List.map_toArray, List.map_cons, List.map_nil] <;> rfl) ?_
       refine (held_calls g hd2 br2 _ G.out).mono ?_
       rintro e V1 ⟨rfl, rfl⟩
       refine ⟨_, rfl, hK.out _ _ Y.out (fun _ => ?_)⟩
       clear hK K
       refine norm_ (a' := ?_) ?_ ?_
       rotate_left
       ·simp only [Act.put, List.setIfInBounds_toArray, List.set_cons_zero, List.set_cons_succ]
        rfl
       refine pure_ (i := 8) (N := some 69) (v := ?_) (a' := ?_) #[true, true, true, true, true, true, true, true, true, false, false, false, false, false, false, false, false] rfl rfl (by kernel_rfl) (fun _ _ _ h => h) (Or.inl ⟨by rfl, ?_⟩) ?_ ?_
       rotate_left
       ·intro w'
        go_simp
        with_reducible rfl
       rotate_left
       ·simp only [Act.put, List.setIfInBounds_toArray, List.set_cons_zero, List.set_cons_succ]
        rfl
       refine pure_ (i := 9) (N := some 70) (v := ?_) (a' := ?_) #[true, true, true, true, true, true, true, true, true, true, false, false, false, false, false, false, false] rfl rfl (by kernel_rfl) (fun _ _ _ h => h) (Or.inl ⟨by rfl, ?_⟩) ?_ ?_
       rotate_left
       ·intro w'
        go_simp
        with_reducible rfl
       rotate_left
       ·simp only [Act.put, List.setIfInBounds_toArray, List.set_cons_zero, List.set_cons_succ]
        rfl
       refine pure_ (i := 10) (N := some 71) (v := ?_) (a' := ?_) #[true, true, true, true, true, true, true, true, true, true, true, false, false, false, false, false, false] rfl rfl (by kernel_rfl) (fun _ _ _ h => h) (Or.inl ⟨by rfl, ?_⟩) ?_ ?_
       rotate_left
       ·intro w'
        go_simp
        with_reducible rfl
       rotate_left
       ·simp only [Act.put, List.setIfInBounds_toArray, List.set_cons_zero, List.set_cons_succ]
        rfl
       refine pure_ (i := 11) (N := some 72) (v := ?_) (a' := ?_) #[true, true, true, true, true, true, true, true, true, true, true, true, false, false, false, false, false] rfl rfl (by kernel_rfl) (fun _ _ _ h => h) (Or.inl ⟨by rfl, ?_⟩) ?_ ?_
       rotate_left
       ·intro w'
        go_simp
        with_reducible rfl
       rotate_left
       ·simp only [Act.put, List.setIfInBounds_toArray, List.set_cons_zero, List.set_cons_succ]
        rfl
       refine pure_ (i := 13) (N := some 74) (v := ?_) (a' := ?_) #[true, true, true, true, true, true, true, true, true, true, true, true, false, true, false, false, false] rfl rfl (by kernel_rfl) (fun _ _ _ h => h) (Or.inl ⟨by rfl, ?_⟩) ?_ ?_
       rotate_left
       ·intro w'
        go_simp
        with_reducible rfl
       rotate_left
       ·simp only [Act.put, List.setIfInBounds_toArray, List.set_cons_zero, List.set_cons_succ]
        rfl
       refine take_ (i := 14) (N := some 75) (v := .bool br2) #[true, true, true, true, true, true, true, true, true, true, true, true, false, true, true, false, false] rfl rfl (by kernel_rfl) (fun _ _ _ h => h) (Or.inl ⟨by rfl, fun w' hS => ?_⟩) Y.out rfl ?_
       ·have hcell : w'.cell? ⟨g4, 1, none⟩ = some (.bool br2) := (blk_cell hS 1).trans rfl
        first
        | (go_simp; done)
        | (go_simp; rfl)
       refine norm_ (a' := ?_) ?_ ?_
       rotate_left
       ·simp only [Act.put, List.setIfInBounds_toArray, List.set_cons_zero, List.set_cons_succ]
        rfl
       refine one_ (i := 12) (N := some 73) #[true, true, true, true, true, true, true, true, true, true, true, true, true, true, true, false, false] rfl rfl (by kernel_rfl) (by simp) (fun K hK => ?_)
       refine goes_ Try.func19 (by kernel_rfl) rfl #[.pointer (some ⟨g, 0, none⟩)] (by rfl) rfl rfl (by simp only [List.map_toArray, List.map_cons, List.map_nil] <;> rfl) ?_
       refine (broken_calls g hd2 br2 _ G.out).mono ?_
       rintro e V2 ⟨rfl, rfl⟩
       refine ⟨_, rfl, hK.out _ _ Y.out (fun _ => ?_)⟩
       clear hK K
       refine norm_ (a' := ?_) ?_ ?_
       rotate_left
       ·simp only [Act.put, List.setIfInBounds_toArray, List.set_cons_zero, List.set_cons_succ]
        rfl
       refine pure_ (i := 15) (N := some 76) (v := ?_) (a' := ?_) #[true, true, true, true, true, true, true, true, true, true, true, true, true, true, true, true, false] rfl rfl (by kernel_rfl) (fun _ _ _ h => h) (Or.inl ⟨by rfl, ?_⟩) ?_ ?_
       rotate_left
       ·intro w'
        go_simp
        with_reducible rfl
       rotate_left
       ·simp only [Act.put, List.setIfInBounds_toArray, List.set_cons_zero, List.set_cons_succ]
        rfl
       refine pure_ (i := 16) (N := some 77) (v := ?_) (a' := ?_) #[true, true, true, true, true, true, true, true, true, true, true, true, true, true, true, true, true] rfl rfl (by kernel_rfl) (fun _ _ _ h => h) (Or.inl ⟨by rfl, ?_⟩) ?_ ?_
       rotate_left
       ·intro w'
        go_simp
        with_reducible rfl
       rotate_left
       ·simp only [Act.put, List.setIfInBounds_toArray, List.set_cons_zero, List.set_cons_succ]
        rfl
       refine done_ (by kernel_rfl) ?_
       go_wp2_with fail
       go_roundw
       case rel => exact ⟨j + 1, hd2, br2, by go_num, by omega, hz2, G, Y, HB⟩
       case measure => simp [intOf]; omega
      ·go_wp2_with fail
       go_roundw
       case rel => exact ⟨i + 1, hd, br, by go_num, by omega, HZ, G, Y, HB⟩
       case measure => simp [intOf]; omega
   ·go_upto_region 26 with fail
    have n_HB := Aside0.mk (below_step HB.out (below_drew (Below.refl _ _)))
    have n_G := Aside0.mk (blk_drew G.out)
    have n_Y := Aside0.mk (blk_drew Y.out)
    clear HB G Y 
    have HB := n_HB
    have G := n_G
    have Y := n_Y
    clear n_HB n_G n_Y
    refine start_ (n := 17) (S := fun w' => w'.heap[g4]? = some (.cells #[.string hd, .bool br] 28 (0, 0))) (ds := []) #[false, false, false, false, false, false, false, false, false, false, false, false, false, false, false, false, false] (by kernel_rfl) rfl rfl Y.out (fun _ => ?_)
    generalize wr.drew = V at *
    refine pure_ (i := 0) (N := some 80) (v := ?_) (a' := ?_) #[true, false, false, false, false, false, false, false, false, false, false, false, false, false, false, false, false] rfl rfl (by kernel_rfl) (fun _ _ _ h => h) (Or.inl ⟨by rfl, ?_⟩) ?_ ?_
    rotate_left
    ·intro w'
     go_simp
     with_reducible rfl
    rotate_left
    ·simp only [Act.put, List.setIfInBounds_toArray, List.set_cons_zero, List.set_cons_succ]
     rfl
    refine pure_ (i := 2) (N := some 82) (v := ?_) (a' := ?_) #[true, false, true, false, false, false, false, false, false, false, false, false, false, false, false, false, false] rfl rfl (by kernel_rfl) (fun _ _ _ h => h) (Or.inl ⟨by rfl, ?_⟩) ?_ ?_
    rotate_left
    ·intro w'
     go_simp
     with_reducible rfl
    rotate_left
    ·simp only [Act.put, List.setIfInBounds_toArray, List.set_cons_zero, List.set_cons_succ]
     rfl
    refine take_ (i := 3) (N := some 83) (v := .string hd) #[true, false, true, true, false, false, false, false, false, false, false, false, false, false, false, false, false] rfl rfl (by kernel_rfl) (fun _ _ _ h => h) (Or.inl ⟨by rfl, fun w' hS => ?_⟩) Y.out rfl ?_
    ·have hcell : w'.cell? ⟨g4, 0, none⟩ = some (.string hd) := (blk_cell hS 0).trans rfl
     first
     | (go_simp; done)
     | (go_simp; rfl)
    refine norm_ (a' := ?_) ?_ ?_
    rotate_left
    ·simp only [Act.put, List.setIfInBounds_toArray, List.set_cons_zero, List.set_cons_succ]
     rfl
    refine pure_ (i := 4) (N := some 84) (v := ?_) (a' := ?_) #[true, false, true, true, true, false, false, false, false, false, false, false, false, false, false, false, false] rfl rfl (by kernel_rfl) (fun _ _ _ h => h) (Or.inl ⟨by rfl, ?_⟩) ?_ ?_
    rotate_left
    ·intro w'
     go_simp
     with_reducible rfl
    rotate_left
    ·simp only [Act.put, List.setIfInBounds_toArray, List.set_cons_zero, List.set_cons_succ]
     rfl
    refine one_ (i := 1) (N := some 81) #[true, true, true, true, true, false, false, false, false, false, false, false, false, false, false, false, false] rfl rfl (by kernel_rfl) (by simp) (fun K hK => ?_)
    refine goes_ Try.func18 (by kernel_rfl) rfl #[.pointer (some ⟨g, 0, none⟩)] (by rfl) rfl rfl (by simp only [List.map_toArray, List.map_cons, List.map_nil] <;> rfl) ?_
    refine (held_calls g hd br _ G.out).mono ?_
    rintro e V1 ⟨rfl, rfl⟩
    refine ⟨_, rfl, hK.out _ _ Y.out (fun _ => ?_)⟩
    clear hK K
    refine norm_ (a' := ?_) ?_ ?_
    rotate_left
    ·simp only [Act.put, List.setIfInBounds_toArray, List.set_cons_zero, List.set_cons_succ]
     rfl
    refine pure_ (i := 5) (N := some 85) (v := ?_) (a' := ?_) #[true, true, true, true, true, true, false, false, false, false, false, false, false, false, false, false, false] rfl rfl (by kernel_rfl) (fun _ _ _ h => h) (Or.inl ⟨by rfl, ?_⟩) ?_ ?_
    rotate_left
    ·intro w'
     go_simp
     with_reducible rfl
    rotate_left
    ·simp only [Act.put, List.setIfInBounds_toArray, List.set_cons_zero, List.set_cons_succ]
     rfl
    refine pure_ (i := 6) (N := some 86) (v := ?_) (a' := ?_) #[true, true, true, true, true, true, true, false, false, false, false, false, false, false, false, false, false] rfl rfl (by kernel_rfl) (fun _ _ _ h => h) (Or.inl ⟨by rfl, ?_⟩) ?_ ?_
    rotate_left
    ·intro w'
     go_simp
     with_reducible rfl
    rotate_left
    ·simp only [Act.put, List.setIfInBounds_toArray, List.set_cons_zero, List.set_cons_succ]
     rfl
    refine pure_ (i := 7) (N := some 87) (v := ?_) (a' := ?_) #[true, true, true, true, true, true, true, true, false, false, false, false, false, false, false, false, false] rfl rfl (by kernel_rfl) (fun _ _ _ h => h) (Or.inl ⟨by rfl, ?_⟩) ?_ ?_
    rotate_left
    ·intro w'
     go_simp
     with_reducible rfl
    rotate_left
    ·simp only [Act.put, List.setIfInBounds_toArray, List.set_cons_zero, List.set_cons_succ]
     rfl
    refine pure_ (i := 9) (N := some 89) (v := ?_) (a' := ?_) #[true, true, true, true, true, true, true, true, false, true, false, false, false, false, false, false, false] rfl rfl (by kernel_rfl) (fun _ _ _ h => h) (Or.inl ⟨by rfl, ?_⟩) ?_ ?_
    rotate_left
    ·intro w'
     go_simp
     with_reducible rfl
    rotate_left
    ·simp only [Act.put, List.setIfInBounds_toArray, List.set_cons_zero, List.set_cons_succ]
     rfl
    refine take_ (i := 10) (N := some 90) (v := .bool br) #[true, true, true, true, true, true, true, true, false, true, true, false, false, false, false, false, false] rfl rfl (by kernel_rfl) (fun _ _ _ h => h) (Or.inl ⟨by rfl, fun w' hS => ?_⟩) Y.out rfl ?_
    ·have hcell : w'.cell? ⟨g4, 1, none⟩ = some (.bool br) := (blk_cell hS 1).trans rfl
     first
     | (go_simp; done)
     | (go_simp; rfl)
    refine norm_ (a' := ?_) ?_ ?_
    rotate_left
    ·simp only [Act.put, List.setIfInBounds_toArray, List.set_cons_zero, List.set_cons_succ]
     rfl
    refine one_ (i := 8) (N := some 88) #[true, true, true, true, true, true, true, true, true, true, true, false, false, false, false, false, false] rfl rfl (by kernel_rfl) (by simp) (fun K hK => ?_)
    refine goes_ Try.func19 (by kernel_rfl) rfl #[.pointer (some ⟨g, 0, none⟩)] (by rfl) rfl rfl (by simp only [List.map_toArray, List.map_cons, List.map_nil] <;> rfl) ?_
    refine (broken_calls g hd br _ G.out).mono ?_
    rintro e V2 ⟨rfl, rfl⟩
    refine ⟨_, rfl, hK.out _ _ Y.out (fun _ => ?_)⟩
    clear hK K
    refine norm_ (a' := ?_) ?_ ?_
    rotate_left
    ·simp only [Act.put, List.setIfInBounds_toArray, List.set_cons_zero, List.set_cons_succ]
     rfl
    refine pure_ (i := 11) (N := some 91) (v := ?_) (a' := ?_) #[true, true, true, true, true, true, true, true, true, true, true, true, false, false, false, false, false] rfl rfl (by kernel_rfl) (fun _ _ _ h => h) (Or.inl ⟨by rfl, ?_⟩) ?_ ?_
    rotate_left
    ·intro w'
     go_simp
     with_reducible rfl
    rotate_left
    ·simp only [Act.put, List.setIfInBounds_toArray, List.set_cons_zero, List.set_cons_succ]
     rfl
    refine pure_ (i := 12) (N := some 92) (v := ?_) (a' := ?_) #[true, true, true, true, true, true, true, true, true, true, true, true, true, false, false, false, false] rfl rfl (by kernel_rfl) (fun _ _ _ h => h) (Or.inl ⟨by rfl, ?_⟩) ?_ ?_
    rotate_left
    ·intro w'
     go_simp
     with_reducible rfl
    rotate_left
    ·simp only [Act.put, List.setIfInBounds_toArray, List.set_cons_zero, List.set_cons_succ]
     rfl
    refine pure_ (i := 13) (N := some 93) (v := ?_) (a' := ?_) #[true, true, true, true, true, true, true, true, true, true, true, true, true, true, false, false, false] rfl rfl (by kernel_rfl) (fun _ _ _ h => h) (Or.inl ⟨by rfl, ?_⟩) ?_ ?_
    rotate_left
    ·intro w'
     go_simp
     with_reducible rfl
    rotate_left
    ·simp only [Act.put, List.setIfInBounds_toArray, List.set_cons_zero, List.set_cons_succ]
     rfl
    refine one_ (i := 14) (N := some 94) #[true, true, true, true, true, true, true, true, true, true, true, true, true, true, true, false, false] rfl rfl (by kernel_rfl) (by simp) (fun K hK => ?_)
    refine goes_ Try.func14 (by kernel_rfl) rfl #[] (by rfl) rfl rfl (by simp only [List.map_toArray, List.map_cons, List.map_nil] <;> rfl) ?_
    refine (hhf.out _).mono ?_
    rintro e V3 ⟨rfl, hb⟩
    have n_HB := Aside0.mk (below_step HB.out hb)
    have n_Y := Aside0.mk (blk_below Y.out hb)
    clear HB Y hb
    have HB := n_HB
    have Y := n_Y
    clear n_HB n_Y
    refine ⟨_, rfl, hK.out _ _ Y.out (fun _ => ?_)⟩
    clear hK K
    refine norm_ (a' := ?_) ?_ ?_
    rotate_left
    ·simp only [Act.put, List.setIfInBounds_toArray, List.set_cons_zero, List.set_cons_succ]
     rfl
    refine pure_ (i := 15) (N := some 95) (v := ?_) (a' := ?_) #[true, true, true, true, true, true, true, true, true, true, true, true, true, true, true, true, false] rfl rfl (by kernel_rfl) (fun _ _ _ h => h) (Or.inl ⟨by rfl, ?_⟩) ?_ ?_
    rotate_left
    ·intro w'
     go_simp
     with_reducible rfl
    rotate_left
    ·simp only [Act.put, List.setIfInBounds_toArray, List.set_cons_zero, List.set_cons_succ]
     rfl
    refine pure_ (i := 16) (N := some 2) (v := ?_) (a' := ?_) #[true, true, true, true, true, true, true, true, true, true, true, true, true, true, true, true, true] rfl rfl (by kernel_rfl) (fun _ _ _ h => h) (Or.inl ⟨by rfl, ?_⟩) ?_ ?_
    rotate_left
    ·intro w'
     go_simp
     with_reducible rfl
    rotate_left
    ·simp only [Act.put, List.setIfInBounds_toArray, List.set_cons_zero, List.set_cons_succ]
     rfl
    refine done_ (by kernel_rfl) ?_
    go_wp2_with fail
    go_ret
    exact ⟨by simp <;> rfl, HB.out⟩
end Go.Proofs.Ytlgihjhlkpmpnaa.Wire
