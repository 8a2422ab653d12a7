import Derived.Test.YtlgihjhlkpmpnaaQWireQ
import Derived.Test.YtlgihjhlkpmpnaaQWireP
-- halved
namespace Go.Proofs.Ytlgihjhlkpmpnaa.Wire
set_option linter.unusedVariables false
set_option linter.unusedSimpArgs false
open Go.RowKit Go.Proofs.YtlgihjhlkpmpnaaW.PrintWords Go.Proofs.YtlgihjhlkpmpnaaW.PrintLast Go.Proofs.YtlgihjhlkpmpnaaW.PrintMore Go.Proofs.Ytlgihjhlkpmpnaa.Hand Go.Proofs.Ytlgihjhlkpmpnaa.PWire Go.Proofs.Ytlgihjhlkpmpnaa.PureNums
theorem finD_bad {n : Int} {t : Rst} (h : t.r.2 = true) : finD n t = ⟨38, 0, rq0 0 0, []⟩ := by unfold finD; rw [if_pos h]
theorem finD_may {n : Int} {t : Rst} (h : mayB t.y t.ps = false) : finD n t = ⟨38, 0, rq0 0 0, []⟩ := by
 unfold finD
 split
 ·rfl
 split
 ·rfl
 rw [if_neg (by rw [h]; simp)]
theorem may_pairs {y : Rq} {ps : List S102} (hk : y.kind = 1) (h : 16 < ps.length) : mayB y ps = false := by
 rw [Bool.eq_false_iff]
 intro hm
 have := (may_parts hm).2.2.1
 have e : lets (formF y.kind) = [76, 84, 80, 82, 83, 66] := by rw [hk]; rfl
 rw [e, List.all_eq_true] at this
 have h66 := this 66 (by simp)
 unfold okLetter at h66
 simp only [Bool.and_eq_true, if_true] at h66
 have h2 := h66.1.2
 unfold pairsB at h2
 simp only [Bool.and_eq_true, decide_eq_true_eq] at h2
 omega
theorem pairs_rel {a b : Rd} (h : Rel a b) (hv : ¬ (qNum b).1 > 16) : (rdPairs a).2.2 = (qPairs b).2.2 ∧ ((rdPairs a).2.2 = false → rdPairs a = qPairs b) := by
 obtain ⟨h1, h2⟩ := num_rel h
 have hr := qNum_range b
 unfold rdPairs qPairs
 rw [if_neg hv, h1]
 have e : mn (qNum b).1 17 = (qNum b).1 := by unfold mn; omega
 rw [e]
 exact pairN_rel _ [] _ _ h2
theorem pairs_big {a b : Rd} (h : Rel a b) (hv : (qNum b).1 > 16) : (rdPairs a).1.length = 17 ∧ (qPairs b).2.2 = true := by
 obtain ⟨h1, _⟩ := num_rel h
 unfold rdPairs qPairs
 rw [if_pos hv, h1, rdPairN_len]
 refine ⟨?_, rfl⟩
 have e : mn (qNum b).1 17 = 17 := by unfold mn; omega
 rw [e]
 rfl
theorem spec_rel {a b : Rd} (h : Rel a b) : (rdSpec a).1.n = (qText b).1 ∧ (rdSpec a).1.p = (qNum (qText b).2).1 ∧ (rdSpec a).1.a = (qNum (qNum (qText b).2).2).1 ∧ (rdSpec a).1.z = (qNum (qNum (qNum (qText b).2).2).2).1 ∧ (rdSpec a).1.c = ((qNum (qNum (qNum (qNum (qText b).2).2).2).2).1 == 1) ∧ Rel (rdSpec a).2 (if (qNum (qNum (qNum (qNum (qText b).2).2).2).2).1 > 1 then (⟨#[]⟩, true) else (qNum (qNum (qNum (qNum (qText b).2).2).2).2).2) := by
 obtain ⟨t1, r1⟩ := text_rel h
 obtain ⟨t2, r2⟩ := num_rel r1
 obtain ⟨t3, r3⟩ := num_rel r2
 obtain ⟨t4, r4⟩ := num_rel r3
 obtain ⟨t5, r5, r6⟩ := flag_rel r4
 unfold rdSpec
 refine ⟨t1, t2, t3, t4, t5, ?_⟩
 split
 ·rename_i hv
  exact ⟨r5 hv, fun e => by rw [r5 hv] at e; simp at e⟩
 ·rename_i hv
  exact r6 hv
set_option maxHeartbeats 1000000 in
theorem st_eq1 (i n : Int) (a : Rd) : finD n (reqL (rq0 1 i) a (lets (formF 1))) = finD n (refF (rq0 1 i) a) := by
  rw [show lets (formF 1) = [76, 84, 80, 82, 83, 66] from rfl]
  unfold refF
  rw [if_neg (show ¬ (rq0 1 i).kind = 3 from (by decide : ¬ (1 : Int) = 3)), if_neg (show ¬ (rq0 1 i).kind = 4 from (by decide : ¬ (1 : Int) = 4)), if_neg (show ¬ (rq0 1 i).kind = 2 from (by decide : ¬ (1 : Int) = 2)), if_pos (show (rq0 1 i).kind = 1 from rfl)]
  simp only [reqL, List.foldl_cons, List.foldl_nil, step66, step76, step80, step82, step83, step84, qPlace, memberF]
  obtain ⟨t1, r1⟩ := num_rel (Rel.refl a)
  obtain ⟨t2, r2⟩ := text_rel r1
  obtain ⟨t3, r3⟩ := num_rel r2
  obtain ⟨t4, r4⟩ := num_rel r3
  obtain ⟨t5, r5⟩ := num_rel r4
  by_cases hv : (qNum (qNum (qNum (qNum (qText (qNum a).2).2).2).2).2).1 > 16
  ·obtain ⟨b1, b2⟩ := pairs_big r5 hv
   exact (finD_may (may_pairs rfl (by simp only; rw [b1]; decide))).trans (finD_bad b2).symm
  ·obtain ⟨b1, b2⟩ := pairs_rel r5 hv
   exact finD_rel ⟨b1, fun e => by simp only at e ⊢; rw [b2 e]⟩ (fun e => ⟨by simp only [t1, t2, t3, t4, t5], by simp only at e ⊢; rw [b2 e]⟩)
set_option maxHeartbeats 1000000 in
theorem st_eq2 (i n : Int) (a : Rd) : finD n (reqL (rq0 2 i) a (lets (formF 2))) = finD n (refF (rq0 2 i) a) := by
  rw [show lets (formF 2) = [76, 84, 80, 79, 77] from rfl]
  unfold refF
  rw [if_neg (show ¬ (rq0 2 i).kind = 3 from (by decide : ¬ (2 : Int) = 3)), if_neg (show ¬ (rq0 2 i).kind = 4 from (by decide : ¬ (2 : Int) = 4)), if_pos (show (rq0 2 i).kind = 2 from rfl)]
  simp only [reqL, List.foldl_cons, List.foldl_nil, step76, step77, step79, step80, step84, qPlace, memberF]
  obtain ⟨t1, r1⟩ := num_rel (Rel.refl a)
  obtain ⟨t2, r2⟩ := text_rel r1
  obtain ⟨t3, r3⟩ := num_rel r2
  obtain ⟨t4, r4⟩ := num_rel r3
  obtain ⟨t5, r5⟩ := num_rel r4
  exact finD_rel r5 (fun _ => ⟨by simp only [t1, t2, t3, t4, t5], rfl⟩)
set_option maxHeartbeats 1000000 in
theorem st_eq3 (i n : Int) (a : Rd) : finD n (reqL (rq0 3 i) a (lets (formF 3))) = finD n (refF (rq0 3 i) a) := by
  rw [show lets (formF 3) = [67] from rfl]
  unfold refF
  rw [if_pos (show (rq0 3 i).kind = 3 from rfl)]
  simp only [reqL, List.foldl_cons, List.foldl_nil, step67, qPlace, memberF]
  obtain ⟨t1, t2, t3, t4, t5, r1⟩ := spec_rel (Rel.refl a)
  exact finD_rel r1 (fun _ => ⟨by simp only [t1, t2, t3, t4, t5], rfl⟩)
set_option maxHeartbeats 1000000 in
theorem st_eq4 (i n : Int) (a : Rd) : finD n (reqL (rq0 4 i) a (lets (formF 4))) = finD n (refF (rq0 4 i) a) := by
  rw [show lets (formF 4) = [84] from rfl]
  unfold refF
  rw [if_neg (show ¬ (rq0 4 i).kind = 3 from (by decide : ¬ (4 : Int) = 3)), if_pos (show (rq0 4 i).kind = 4 from rfl)]
  simp only [reqL, List.foldl_cons, List.foldl_nil, step84, qPlace, memberF]
  obtain ⟨t1, r1⟩ := text_rel (Rel.refl a)
  exact finD_rel r1 (fun _ => ⟨by simp only [t1], rfl⟩)
set_option maxHeartbeats 1000000 in
theorem st_eq5 (i n : Int) (a : Rd) : finD n (reqL (rq0 5 i) a (lets (formF 5))) = finD n (refF (rq0 5 i) a) := by
  rw [show lets (formF 5) = [71, 78, 84] from rfl]
  unfold refF
  rw [if_neg (show ¬ (rq0 5 i).kind = 3 from (by decide : ¬ (5 : Int) = 3)), if_neg (show ¬ (rq0 5 i).kind = 4 from (by decide : ¬ (5 : Int) = 4)), if_neg (show ¬ (rq0 5 i).kind = 2 from (by decide : ¬ (5 : Int) = 2)), if_neg (show ¬ (rq0 5 i).kind = 1 from (by decide : ¬ (5 : Int) = 1)), if_neg (show ¬ (rq0 5 i).kind = 6 from (by decide : ¬ (5 : Int) = 6)), if_pos (show (rq0 5 i).kind = 5 from rfl)]
  simp only [reqL, List.foldl_cons, List.foldl_nil, step71, step78, step84, qPlace, memberF]
  obtain ⟨t1, r1⟩ := text_rel (Rel.refl a)
  obtain ⟨t2, r2⟩ := text_rel r1
  obtain ⟨t3, r3⟩ := text_rel r2
  exact finD_rel r3 (fun _ => ⟨by simp only [t1, t2, t3], rfl⟩)
set_option maxHeartbeats 1000000 in
theorem st_eq6 (i n : Int) (a : Rd) : finD n (reqL (rq0 6 i) a (lets (formF 6))) = finD n (refF (rq0 6 i) a) := by
  rw [show lets (formF 6) = [71, 78] from rfl]
  unfold refF
  rw [if_neg (show ¬ (rq0 6 i).kind = 3 from (by decide : ¬ (6 : Int) = 3)), if_neg (show ¬ (rq0 6 i).kind = 4 from (by decide : ¬ (6 : Int) = 4)), if_neg (show ¬ (rq0 6 i).kind = 2 from (by decide : ¬ (6 : Int) = 2)), if_neg (show ¬ (rq0 6 i).kind = 1 from (by decide : ¬ (6 : Int) = 1)), if_pos (show (rq0 6 i).kind = 6 from rfl)]
  simp only [reqL, List.foldl_cons, List.foldl_nil, step71, step78, qPlace, memberF]
  obtain ⟨t1, r1⟩ := text_rel (Rel.refl a)
  obtain ⟨t2, r2⟩ := text_rel r1
  exact finD_rel r2 (fun _ => ⟨by simp only [t1, t2], rfl⟩)
set_option maxHeartbeats 1000000 in
theorem st_eq7 (i n : Int) (a : Rd) : finD n (reqL (rq0 7 i) a (lets (formF 7))) = finD n (refF (rq0 7 i) a) := by
  rw [show lets (formF 7) = [71, 78, 69] from rfl]
  unfold refF
  rw [if_neg (show ¬ (rq0 7 i).kind = 3 from (by decide : ¬ (7 : Int) = 3)), if_neg (show ¬ (rq0 7 i).kind = 4 from (by decide : ¬ (7 : Int) = 4)), if_neg (show ¬ (rq0 7 i).kind = 2 from (by decide : ¬ (7 : Int) = 2)), if_neg (show ¬ (rq0 7 i).kind = 1 from (by decide : ¬ (7 : Int) = 1)), if_neg (show ¬ (rq0 7 i).kind = 6 from (by decide : ¬ (7 : Int) = 6)), if_neg (show ¬ (rq0 7 i).kind = 5 from (by decide : ¬ (7 : Int) = 5)), if_pos (show (rq0 7 i).kind = 7 from rfl)]
  simp only [reqL, List.foldl_cons, List.foldl_nil, step69, step71, step78, qPlace, memberF]
  obtain ⟨t1, r1⟩ := text_rel (Rel.refl a)
  obtain ⟨t2, r2⟩ := text_rel r1
  obtain ⟨t3, r3⟩ := num_rel r2
  exact finD_rel r3 (fun _ => ⟨by simp only [t1, t2, t3], rfl⟩)
set_option maxHeartbeats 1000000 in
theorem st_eq8 (i n : Int) (a : Rd) : finD n (reqL (rq0 8 i) a (lets (formF 8))) = finD n (refF (rq0 8 i) a) := by
  rw [show lets (formF 8) = [71, 78, 69, 84, 80, 79] from rfl]
  unfold refF
  rw [if_neg (show ¬ (rq0 8 i).kind = 3 from (by decide : ¬ (8 : Int) = 3)), if_neg (show ¬ (rq0 8 i).kind = 4 from (by decide : ¬ (8 : Int) = 4)), if_neg (show ¬ (rq0 8 i).kind = 2 from (by decide : ¬ (8 : Int) = 2)), if_neg (show ¬ (rq0 8 i).kind = 1 from (by decide : ¬ (8 : Int) = 1)), if_neg (show ¬ (rq0 8 i).kind = 6 from (by decide : ¬ (8 : Int) = 6)), if_neg (show ¬ (rq0 8 i).kind = 5 from (by decide : ¬ (8 : Int) = 5)), if_neg (show ¬ (rq0 8 i).kind = 7 from (by decide : ¬ (8 : Int) = 7)), if_pos (show (rq0 8 i).kind = 8 from rfl)]
  simp only [reqL, List.foldl_cons, List.foldl_nil, step69, step71, step78, step79, step80, step84, qPlace, memberF]
  obtain ⟨t1, r1⟩ := text_rel (Rel.refl a)
  obtain ⟨t2, r2⟩ := text_rel r1
  obtain ⟨t3, r3⟩ := num_rel r2
  obtain ⟨t4, r4⟩ := text_rel r3
  obtain ⟨t5, r5⟩ := num_rel r4
  obtain ⟨t6, r6⟩ := num_rel r5
  exact finD_rel r6 (fun _ => ⟨by simp only [t1, t2, t3, t4, t5, t6], rfl⟩)
set_option maxHeartbeats 1000000 in
theorem st_eq9 (i n : Int) (a : Rd) : finD n (reqL (rq0 9 i) a (lets (formF 9))) = finD n (refF (rq0 9 i) a) := by
  rw [show lets (formF 9) = [76, 71, 84, 80] from rfl]
  unfold refF
  rw [if_neg (show ¬ (rq0 9 i).kind = 3 from (by decide : ¬ (9 : Int) = 3)), if_neg (show ¬ (rq0 9 i).kind = 4 from (by decide : ¬ (9 : Int) = 4)), if_neg (show ¬ (rq0 9 i).kind = 2 from (by decide : ¬ (9 : Int) = 2)), if_neg (show ¬ (rq0 9 i).kind = 1 from (by decide : ¬ (9 : Int) = 1)), if_neg (show ¬ (rq0 9 i).kind = 6 from (by decide : ¬ (9 : Int) = 6)), if_neg (show ¬ (rq0 9 i).kind = 5 from (by decide : ¬ (9 : Int) = 5)), if_neg (show ¬ (rq0 9 i).kind = 7 from (by decide : ¬ (9 : Int) = 7)), if_neg (show ¬ (rq0 9 i).kind = 8 from (by decide : ¬ (9 : Int) = 8)), if_neg (show ¬ (rq0 9 i).kind = 10 from (by decide : ¬ (9 : Int) = 10)), if_neg (show ¬ (rq0 9 i).kind = 11 from (by decide : ¬ (9 : Int) = 11)), if_pos (show (rq0 9 i).kind = 9 from rfl)]
  simp only [reqL, List.foldl_cons, List.foldl_nil, step71, step76, step80, step84, qPlace, memberF]
  obtain ⟨t1, r1⟩ := num_rel (Rel.refl a)
  obtain ⟨t2, r2⟩ := text_rel r1
  obtain ⟨t3, r3⟩ := text_rel r2
  obtain ⟨t4, r4⟩ := num_rel r3
  exact finD_rel r4 (fun _ => ⟨by simp only [t1, t2, t3, t4], rfl⟩)
set_option maxHeartbeats 1000000 in
theorem st_eq10 (i n : Int) (a : Rd) : finD n (reqL (rq0 10 i) a (lets (formF 10))) = finD n (refF (rq0 10 i) a) := by
  rw [show lets (formF 10) = [84, 80, 79, 76, 116, 112] from rfl]
  unfold refF
  rw [if_neg (show ¬ (rq0 10 i).kind = 3 from (by decide : ¬ (10 : Int) = 3)), if_neg (show ¬ (rq0 10 i).kind = 4 from (by decide : ¬ (10 : Int) = 4)), if_neg (show ¬ (rq0 10 i).kind = 2 from (by decide : ¬ (10 : Int) = 2)), if_neg (show ¬ (rq0 10 i).kind = 1 from (by decide : ¬ (10 : Int) = 1)), if_neg (show ¬ (rq0 10 i).kind = 6 from (by decide : ¬ (10 : Int) = 6)), if_neg (show ¬ (rq0 10 i).kind = 5 from (by decide : ¬ (10 : Int) = 5)), if_neg (show ¬ (rq0 10 i).kind = 7 from (by decide : ¬ (10 : Int) = 7)), if_neg (show ¬ (rq0 10 i).kind = 8 from (by decide : ¬ (10 : Int) = 8)), if_pos (show (rq0 10 i).kind = 10 from rfl)]
  simp only [reqL, List.foldl_cons, List.foldl_nil, step112, step116, step76, step79, step80, step84, qPlace, memberF]
  obtain ⟨t1, r1⟩ := text_rel (Rel.refl a)
  obtain ⟨t2, r2⟩ := num_rel r1
  obtain ⟨t3, r3⟩ := num_rel r2
  obtain ⟨t4, r4⟩ := num_rel r3
  obtain ⟨t5, r5⟩ := text_rel r4
  obtain ⟨t6, r6⟩ := num_rel r5
  exact finD_rel r6 (fun _ => ⟨by simp only [t1, t2, t3, t4, t5, t6], rfl⟩)
set_option maxHeartbeats 1000000 in
theorem st_eq11 (i n : Int) (a : Rd) : finD n (reqL (rq0 11 i) a (lets (formF 11))) = finD n (refF (rq0 11 i) a) := by
  rw [show lets (formF 11) = [76] from rfl]
  unfold refF
  rw [if_neg (show ¬ (rq0 11 i).kind = 3 from (by decide : ¬ (11 : Int) = 3)), if_neg (show ¬ (rq0 11 i).kind = 4 from (by decide : ¬ (11 : Int) = 4)), if_neg (show ¬ (rq0 11 i).kind = 2 from (by decide : ¬ (11 : Int) = 2)), if_neg (show ¬ (rq0 11 i).kind = 1 from (by decide : ¬ (11 : Int) = 1)), if_neg (show ¬ (rq0 11 i).kind = 6 from (by decide : ¬ (11 : Int) = 6)), if_neg (show ¬ (rq0 11 i).kind = 5 from (by decide : ¬ (11 : Int) = 5)), if_neg (show ¬ (rq0 11 i).kind = 7 from (by decide : ¬ (11 : Int) = 7)), if_neg (show ¬ (rq0 11 i).kind = 8 from (by decide : ¬ (11 : Int) = 8)), if_neg (show ¬ (rq0 11 i).kind = 10 from (by decide : ¬ (11 : Int) = 10)), if_pos (show (rq0 11 i).kind = 11 from rfl)]
  simp only [reqL, List.foldl_cons, List.foldl_nil, step76, qPlace, memberF]
  obtain ⟨t1, r1⟩ := num_rel (Rel.refl a)
  exact finD_rel r1 (fun _ => ⟨by simp only [t1], rfl⟩)
set_option maxHeartbeats 1000000 in
theorem st_eq12 (i n : Int) (a : Rd) : finD n (reqL (rq0 12 i) a (lets (formF 12))) = finD n (refF (rq0 12 i) a) := by
  rw [show lets (formF 12) = [76, 84, 80] from rfl]
  unfold refF
  rw [if_neg (show ¬ (rq0 12 i).kind = 3 from (by decide : ¬ (12 : Int) = 3)), if_neg (show ¬ (rq0 12 i).kind = 4 from (by decide : ¬ (12 : Int) = 4)), if_neg (show ¬ (rq0 12 i).kind = 2 from (by decide : ¬ (12 : Int) = 2)), if_neg (show ¬ (rq0 12 i).kind = 1 from (by decide : ¬ (12 : Int) = 1)), if_neg (show ¬ (rq0 12 i).kind = 6 from (by decide : ¬ (12 : Int) = 6)), if_neg (show ¬ (rq0 12 i).kind = 5 from (by decide : ¬ (12 : Int) = 5)), if_neg (show ¬ (rq0 12 i).kind = 7 from (by decide : ¬ (12 : Int) = 7)), if_neg (show ¬ (rq0 12 i).kind = 8 from (by decide : ¬ (12 : Int) = 8)), if_neg (show ¬ (rq0 12 i).kind = 10 from (by decide : ¬ (12 : Int) = 10)), if_neg (show ¬ (rq0 12 i).kind = 11 from (by decide : ¬ (12 : Int) = 11)), if_neg (show ¬ (rq0 12 i).kind = 9 from (by decide : ¬ (12 : Int) = 9)), if_pos (show (rq0 12 i).kind = 12 from rfl)]
  simp only [reqL, List.foldl_cons, List.foldl_nil, step76, step80, step84, qPlace, memberF]
  obtain ⟨t1, r1⟩ := num_rel (Rel.refl a)
  obtain ⟨t2, r2⟩ := text_rel r1
  obtain ⟨t3, r3⟩ := num_rel r2
  exact finD_rel r3 (fun _ => ⟨by simp only [t1, t2, t3], rfl⟩)
theorem st_eq (k i n : Int) (a : Rd) : finD n (reqL (rq0 k i) a (lets (formF k))) = finD n (refF (rq0 k i) a) := by
 by_cases hout : k < 1 ∨ 12 < k
 ·have hne : lets (formF k) = [] := Decidable.byContradiction fun h => by have := form_kind _ h; omega
  have e2 : refF (rq0 k i) a = ⟨rq0 k i, [], (⟨#[]⟩, true)⟩ := by
   unfold refF
   rw [show (rq0 k i).kind = k from rfl, if_neg (by omega), if_neg (by omega), if_neg (by omega), if_neg (by omega), if_neg (by omega), if_neg (by omega), if_neg (by omega), if_neg (by omega), if_neg (by omega), if_neg (by omega), if_neg (by omega), if_neg (by omega)]
  rw [hne, e2, finD_bad (t := ⟨rq0 k i, [], (⟨#[]⟩, true)⟩) rfl]
  refine finD_may ?_
  rw [Bool.eq_false_iff]
  intro hm
  exact (may_parts hm).2.2.2 hne
 rcases (show k = 1 ∨ k = 2 ∨ k = 3 ∨ k = 4 ∨ k = 5 ∨ k = 6 ∨ k = 7 ∨ k = 8 ∨ k = 9 ∨ k = 10 ∨ k = 11 ∨ k = 12 by omega) with rfl | rfl | rfl | rfl | rfl | rfl | rfl | rfl | rfl | rfl | rfl | rfl
 ·exact st_eq1 i n a
 ·exact st_eq2 i n a
 ·exact st_eq3 i n a
 ·exact st_eq4 i n a
 ·exact st_eq5 i n a
 ·exact st_eq6 i n a
 ·exact st_eq7 i n a
 ·exact st_eq8 i n a
 ·exact st_eq9 i n a
 ·exact st_eq10 i n a
 ·exact st_eq11 i n a
 ·exact st_eq12 i n a
theorem decWQ (s : ByteArray) : decW s = decQ s := by
 unfold decW decQ
 by_cases h1 : peekI s > 1000
 ·rw [if_pos h1, if_pos h1]
 rw [if_neg h1, if_neg h1]
 by_cases h2 : peekI s = 0 ∨ (s.size : Int) < peekI s
 ·rw [if_pos h2, if_pos h2]
 rw [if_neg h2, if_neg h2]
 by_cases h3 : peekI s < 5
 ·rw [if_pos h3, if_pos h3]
 rw [if_neg h3, if_neg h3]
 have e : be2 s 3 = bt s 3 * 256 + bt s 4 := rfl
 have h := st_eq (bt s 2) (be2 s 3) (peekI s) (s.extract 5 (peekI s).toNat, false)
 unfold decSt decQst
 rw [e] at h ⊢
 exact h
end Go.Proofs.Ytlgihjhlkpmpnaa.Wire
