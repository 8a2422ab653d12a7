import Derived.Test.YtlgihjhlkpmpnaaZWireY1
import Derived.Test.YtlgihjhlkpmpnaaZWireZA
import Derived.Deep.RegionHeld
namespace Go.Proofs.Ytlgihjhlkpmpnaa.Wire
set_option linter.unusedVariables false
set_option linter.unusedSimpArgs false
open Go.RowKit Go.Proofs.YtlgihjhlkpmpnaaW.PrintWords Go.Proofs.YtlgihjhlkpmpnaaW.PrintLast Go.Proofs.YtlgihjhlkpmpnaaW.PrintMore Go.Proofs.Ytlgihjhlkpmpnaa.Hand Go.Proofs.Ytlgihjhlkpmpnaa.PWire Go.Proofs.Ytlgihjhlkpmpnaa.PureNums
theorem qbody_calls (x : Rq) (A : Option Addr) (k : Nat) (l : List S102) (w : World) (hp : Prs w A l.length k l) (hz : x.pt.size ≤ 1000 ∧ x.tt.size ≤ 1000 ∧ x.sn.size ≤ 1000 ∧ x.grp.size ≤ 1000 ∧ x.mem.size ≤ 1000) (hm : mayB x l = true) :
    Calls Try.prog 59 #[.agg #[.int .i64 x.id, .int .i64 x.kind, .int .i64 x.label, .string x.pt, .int .i64 x.pp, .string x.tt, .int .i64 x.tp, .string x.sn, .int .i64 x.sp, .int .i64 x.sa, .int .i64 x.ss, .bool x.sc, .string x.grp, .string x.mem, .int .i64 x.gen, .int .i64 x.off, .int .i64 x.most, .int .i64 x.prod, .int .i64 x.seq, .slice A l.length k]] w fun e w' => e = .returned (.string (bodyOf x l)) ∧ Below w.heap.size w w' := by
  obtain ⟨_, _, _, hne⟩ := may_parts hm
  have hk := form_kind _ hne
  rcases (show x.kind = 1 ∨ x.kind = 2 ∨ x.kind = 3 ∨ x.kind = 4 ∨ x.kind = 5 ∨ x.kind = 6 ∨ x.kind = 7 ∨ x.kind = 8 ∨ x.kind = 9 ∨ x.kind = 10 ∨ x.kind = 11 ∨ x.kind = 12 by omega) with h | h | h | h | h | h | h | h | h | h | h | h
  · exact qbody_calls1 x A k l w hp h hz hm
  · exact qbody_calls2 x A k l w hp h hz hm
  · exact qbody_calls3 x A k l w hp h hz hm
  · exact qbody_calls4 x A k l w hp h hz hm
  · exact qbody_calls5 x A k l w hp h hz hm
  · exact qbody_calls6 x A k l w hp h hz hm
  · exact qbody_calls7 x A k l w hp h hz hm
  · exact qbody_calls8 x A k l w hp h hz hm
  · exact qbody_calls9 x A k l w hp h hz hm
  · exact qbody_calls10 x A k l w hp h hz hm
  · exact qbody_calls11 x A k l w hp h hz hm
  · exact qbody_calls12 x A k l w hp h hz hm
theorem fx_calls (n : Int) (W : World) (h0 : 0 ≤ n) (h1 : n ≤ 65535) : Calls Try.prog 60 #[.int .u64 n, .int .i64 2] W fun e w' => e = .returned (.string (fix2 n)) ∧ Below W.heap.size W w' :=
  (weighlockref01_Fixed.calls 20 n 2 (fix2 n) W (ref_fixed n 2 (by omega) h0 (by omega) 20 (Nat.le_refl _))).mono fun e w' h => ⟨h.1, by
    first
      | exact h.2
      | (obtain ⟨nd, e⟩ := h.2.out
         rw [e]
         exact pw_below_drewN (Below.refl _ _) nd)⟩
set_option maxHeartbeats 16000000 in
set_option maxRecDepth 100000 in
theorem qencode_calls (x : Rq) (A : Option Addr) (k : Nat) (l : List S102) (w : World) (hp : Prs w A l.length k l) (hz : x.pt.size ≤ 1000 ∧ x.tt.size ≤ 1000 ∧ x.sn.size ≤ 1000 ∧ x.grp.size ≤ 1000 ∧ x.mem.size ≤ 1000) (hm : mayB x l = true) :
    Calls Try.prog 31 #[.agg #[.int .i64 x.id, .int .i64 x.kind, .int .i64 x.label, .string x.pt, .int .i64 x.pp, .string x.tt, .int .i64 x.tp, .string x.sn, .int .i64 x.sp, .int .i64 x.sa, .int .i64 x.ss, .bool x.sc, .string x.grp, .string x.mem, .int .i64 x.gen, .int .i64 x.off, .int .i64 x.most, .int .i64 x.prod, .int .i64 x.seq, .slice A l.length k]] w fun e w' => e = .returned (.string (encS x l)) ∧ Below w.heap.size w w' := by
  have hbd := Aside0.mk (fun (W : World) (hW : Below w.heap.size w W) => qbody_calls x A k l W (hp.below hW) hz hm)
  have hbz := bodyOf_size hm
  obtain ⟨i0, i1, _, hne⟩ := may_parts hm
  obtain ⟨k0, k1⟩ := form_kind _ hne
  have hdef : Aside0 (encS x l = ((fix2 (3 + (bodyOf x l).size) ++ strOfNums [x.kind]) ++ fix2 x.id) ++ bodyOf x l) := ⟨rfl⟩
  clear hne hm hp hz
  generalize bodyOf x l = bd at *
  have e3 : (bd.size : Int) + 3 = 3 + (bd.size : Int) := by omega
  have hl3 : IntKind.i64.wrap ((bd.size : Int) + 3) = 3 + (bd.size : Int) := by rw [e3]; exact IntWalk.i64_in _ (by omega)
  have hl4 : IntKind.u64.wrap (3 + (bd.size : Int)) = 3 + (bd.size : Int) := u64_same _ (by omega) (by omega)
  have hl5 : IntKind.u64.wrap x.id = x.id := u64_same _ i0 (by omega)
  have hl6 : IntKind.u8.wrap x.kind = x.kind := by rw [IntKind.wrap_u8]; omega
  have hf1 := Aside0.mk (fun W : World => fx_calls (3 + (bd.size : Int)) W (by omega) (by omega))
  have hf2 := Aside0.mk (fun W : World => fx_calls x.id W i0 i1)
  have z1 := fix2_size (3 + (bd.size : Int))
  have z2 := fix2_size x.id
  generalize fix2 (3 + (bd.size : Int)) = f1 at *
  generalize fix2 x.id = f2 at *
  obtain ⟨kd, hkd⟩ : ∃ kd, x.kind = kd := ⟨_, rfl⟩
  obtain ⟨idn, hid⟩ : ∃ idn, x.id = idn := ⟨_, rfl⟩
  have hcv := fun W : World => run_convert_bytes_arg (P := Try.prog) (W.alloc (.cells #[.int .u8 kd] 5)) 114 5 Try.underlying114 Try.underlying5 W.heap.size 0 1 1 [kd] (by simp) (by
    intro i hi
    obtain rfl : i = 0 := by simp at hi; omega
    exact (blk_cell (blk_new W _) 0).trans rfl) 9 Try.underlying9
  have hcvd := fun W : World => run_convert_bytes_arg (P := Try.prog) (W.alloc (.cells #[.int .u8 kd] 5)).drew 114 5 Try.underlying114 Try.underlying5 W.heap.size 0 1 1 [kd] (by simp) (by
    intro i hi
    obtain rfl : i = 0 := by simp at hi; omega
    exact (blk_cell (blk_drew (blk_new W _)) 0).trans rfl) 9 Try.underlying9
  rw [hkd] at hl6 k0 k1 hdef
  rw [hid] at hl5 hf2
  have HKD := Aside0.mk hkd
  have HID := Aside0.mk hid
  have zk : (strOfNums [kd]).size = 1 := by rw [strOfNums_size]; rfl
  have n1 : ¬ 9223372036854775807 < f1.size + (strOfNums [kd]).size := by omega
  have n2 : ¬ 9223372036854775807 < f1.size + (strOfNums [kd]).size + f2.size := by omega
  have n3 : ¬ 9223372036854775807 < f1.size + (strOfNums [kd]).size + f2.size + bd.size := by omega
  clear i0 i1 k0 k1 hkd hid z1 z2 zk e3
  go_enter Try.func31, Try.ntmps31
  go_wp2_with (first
    | ((with_reducible refine gate_dst (N := 1) rfl ?_); refine box_event rfl (N := 1) rfl (cs := #[.int .i64 x.id, .int .i64 x.kind, .int .i64 x.label, .string x.pt, .int .i64 x.pp, .string x.tt, .int .i64 x.tp, .string x.sn, .int .i64 x.sp, .int .i64 x.sa, .int .i64 x.ss, .bool x.sc, .string x.grp, .string x.mem, .int .i64 x.gen, .int .i64 x.off, .int .i64 x.most, .int .i64 x.prod, .int .i64 x.seq, .slice A l.length k]) (t := 45) ?hr ?_; (case hr => first | (go_simp; done) | (go_simp; rfl)); intro g1 hg1 w1 hbx hbl; have HS : Aside0 (Sz w x (.slice A l.length k) g1 w1) := ⟨⟨hbx, hbl⟩⟩; clear hbx hbl hg1)
    | ((with_reducible refine gate_dst (N := 4) rfl ?_); refine load_ev (N := 4) rfl rfl rfl (cs := x.cs (.slice A l.length k)) rfl HS.out.b3 Try.underlying45 rfl (by kernel_rfl) ?_))
  refine (hbd.out _ HS.out.bl).mono ?_
  rintro e w2 ⟨rfl, hb⟩
  have n_HS := Aside0.mk (HS.out.below hb)
  clear HS hb hbd
  have HS := n_HS
  clear n_HS
  go_upto_region 2 with fail
  have hS : Aside0 (∀ W : World, Sz w x (.slice A l.length k) g1 W → W.cell? ⟨g1, 0, none⟩ = some (.int .i64 idn) ∧ W.cell? ⟨g1, 1, none⟩ = some (.int .i64 kd)) := ⟨fun W h => by
    rw [← HKD.out, ← HID.out]
    exact ⟨(blk_cell h.b3 0).trans rfl, (blk_cell h.b3 1).trans rfl⟩⟩
  go_region_held (fun w' => w'.cell? ⟨g1, 0, none⟩ = some (.int .i64 idn) ∧ w'.cell? ⟨g1, 1, none⟩ = some (.int .i64 kd))
    (first | exact hS.out _ HS.out | exact hS.out _ (HS.out.below (below_alloc (Below.refl _ _) _)) | exact hS.out _ (HS.out.below (below_drew (below_alloc (Below.refl _ _) _))) | exact hS.out _ (HS.out.below (below_drew (Below.refl _ _))))
    (first | (go_at_call 60; (with_reducible refine (hf1.out _).mono ?_); rintro e w' ⟨rfl, hb⟩; first | (have n_HB := Aside0.mk (blk_below HB.out hb); have n_HS := Aside0.mk (HS.out.below hb); clear HS HB hb; have HS := n_HS; have HB := n_HB; clear n_HS n_HB; have hcv2 := run_convert_bytes_arg (P := Try.prog) w' 114 5 Try.underlying114 Try.underlying5 _ 0 1 1 [kd] (by simp) (by intro i hi; obtain rfl : i = 0 := (by simp at hi; omega); exact (blk_cell HB.out 0).trans rfl) 9 Try.underlying9) | (have n_HB := Aside0.mk (blk_below (blk_drew HB.out) hb); have n_HS := Aside0.mk ((HS.out.below (below_drew (Below.refl _ _))).below hb); clear HS HB hb; have HS := n_HS; have HB := n_HB; clear n_HS n_HB; have hcv2 := run_convert_bytes_arg (P := Try.prog) w' 114 5 Try.underlying114 Try.underlying5 _ 0 1 1 [kd] (by simp) (by intro i hi; obtain rfl : i = 0 := (by simp at hi; omega); exact (blk_cell HB.out 0).trans rfl) 9 Try.underlying9) | (have n_HS := Aside0.mk (HS.out.below hb); clear HS hb; have HS := n_HS; clear n_HS) | (have n_HS := Aside0.mk ((HS.out.below (below_drew (Below.refl _ _))).below hb); clear HS hb; have HS := n_HS; clear n_HS) | (have HB := Aside0.mk (blk_below (blk_new _ (.cells #[.int .u8 kd] 5)) hb); have n_HS := Aside0.mk ((HS.out.below (below_alloc (Below.refl _ _) (.cells #[.int .u8 kd] 5))).below hb); clear HS hb; have HS := n_HS; clear n_HS; have hcv2 := run_convert_bytes_arg (P := Try.prog) w' 114 5 Try.underlying114 Try.underlying5 _ 0 1 1 [kd] (by simp) (by intro i hi; obtain rfl : i = 0 := (by simp at hi; omega); exact (blk_cell HB.out 0).trans rfl) 9 Try.underlying9) | (have HB := Aside0.mk (blk_below (blk_drew (blk_new _ (.cells #[.int .u8 kd] 5))) hb); have n_HS := Aside0.mk ((HS.out.below (below_drew (below_alloc (Below.refl _ _) (.cells #[.int .u8 kd] 5)))).below hb); clear HS hb; have HS := n_HS; clear n_HS; have hcv2 := run_convert_bytes_arg (P := Try.prog) w' 114 5 Try.underlying114 Try.underlying5 _ 0 1 1 [kd] (by simp) (by intro i hi; obtain rfl : i = 0 := (by simp at hi; omega); exact (blk_cell HB.out 0).trans rfl) 9 Try.underlying9)) | (go_at_call 60; (with_reducible refine (hf2.out _).mono ?_); rintro e w' ⟨rfl, hb⟩; first | (have n_HB := Aside0.mk (blk_below HB.out hb); have n_HS := Aside0.mk (HS.out.below hb); clear HS HB hb; have HS := n_HS; have HB := n_HB; clear n_HS n_HB; have hcv2 := run_convert_bytes_arg (P := Try.prog) w' 114 5 Try.underlying114 Try.underlying5 _ 0 1 1 [kd] (by simp) (by intro i hi; obtain rfl : i = 0 := (by simp at hi; omega); exact (blk_cell HB.out 0).trans rfl) 9 Try.underlying9) | (have n_HB := Aside0.mk (blk_below (blk_drew HB.out) hb); have n_HS := Aside0.mk ((HS.out.below (below_drew (Below.refl _ _))).below hb); clear HS HB hb; have HS := n_HS; have HB := n_HB; clear n_HS n_HB; have hcv2 := run_convert_bytes_arg (P := Try.prog) w' 114 5 Try.underlying114 Try.underlying5 _ 0 1 1 [kd] (by simp) (by intro i hi; obtain rfl : i = 0 := (by simp at hi; omega); exact (blk_cell HB.out 0).trans rfl) 9 Try.underlying9) | (have n_HS := Aside0.mk (HS.out.below hb); clear HS hb; have HS := n_HS; clear n_HS) | (have n_HS := Aside0.mk ((HS.out.below (below_drew (Below.refl _ _))).below hb); clear HS hb; have HS := n_HS; clear n_HS) | (have HB := Aside0.mk (blk_below (blk_new _ (.cells #[.int .u8 kd] 5)) hb); have n_HS := Aside0.mk ((HS.out.below (below_alloc (Below.refl _ _) (.cells #[.int .u8 kd] 5))).below hb); clear HS hb; have HS := n_HS; clear n_HS; have hcv2 := run_convert_bytes_arg (P := Try.prog) w' 114 5 Try.underlying114 Try.underlying5 _ 0 1 1 [kd] (by simp) (by intro i hi; obtain rfl : i = 0 := (by simp at hi; omega); exact (blk_cell HB.out 0).trans rfl) 9 Try.underlying9) | (have HB := Aside0.mk (blk_below (blk_drew (blk_new _ (.cells #[.int .u8 kd] 5))) hb); have n_HS := Aside0.mk ((HS.out.below (below_drew (below_alloc (Below.refl _ _) (.cells #[.int .u8 kd] 5)))).below hb); clear HS hb; have HS := n_HS; clear n_HS; have hcv2 := run_convert_bytes_arg (P := Try.prog) w' 114 5 Try.underlying114 Try.underlying5 _ 0 1 1 [kd] (by simp) (by intro i hi; obtain rfl : i = 0 := (by simp at hi; omega); exact (blk_cell HB.out 0).trans rfl) 9 Try.underlying9)))
  all_goals first | (go_ret; exact ⟨by rw [hdef.out] <;> rfl, by first | exact HS.out.bl | exact (HS.out.below (below_alloc (Below.refl _ _) _)).bl | exact (HS.out.below (below_drew (below_alloc (Below.refl _ _) _))).bl | exact (HS.out.below (below_drew (Below.refl _ _))).bl⟩) | (go_wp2_with fail; go_ret; exact ⟨by rw [hdef.out] <;> rfl, by first | exact HS.out.bl | exact (HS.out.below (below_alloc (Below.refl _ _) _)).bl | exact (HS.out.below (below_drew (below_alloc (Below.refl _ _) _))).bl | exact (HS.out.below (below_drew (Below.refl _ _))).bl⟩)
end Go.Proofs.Ytlgihjhlkpmpnaa.Wire
