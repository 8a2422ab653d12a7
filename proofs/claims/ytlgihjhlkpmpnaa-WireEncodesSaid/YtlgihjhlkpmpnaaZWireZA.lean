import Derived.Test.YtlgihjhlkpmpnaaZWireZ
namespace Go.Proofs.Ytlgihjhlkpmpnaa.Wire
set_option linter.unusedVariables false
set_option linter.unusedSimpArgs false
open Go.RowKit Go.Proofs.YtlgihjhlkpmpnaaW.PrintWords Go.Proofs.YtlgihjhlkpmpnaaW.PrintLast Go.Proofs.YtlgihjhlkpmpnaaW.PrintMore Go.Proofs.Ytlgihjhlkpmpnaa.Hand Go.Proofs.Ytlgihjhlkpmpnaa.PWire Go.Proofs.Ytlgihjhlkpmpnaa.PureNums
theorem cleanStep_kind (x y : Rq) (c : Int) : (cleanStep x y c).kind = y.kind ∧ (cleanStep x y c).id = y.id := by
  unfold cleanStep
  split
  · exact setNum_kind _ _ _
  split
  · exact setText_kind _ _ _
  split
  · exact ⟨rfl, rfl⟩
  exact ⟨rfl, rfl⟩
theorem cleanL_kind (x : Rq) (ls : List Int) : (cleanL x ls).kind = x.kind ∧ (cleanL x ls).id = x.id := by
  have : ∀ (ls : List Int) (y : Rq), (ls.foldl (cleanStep x) y).kind = y.kind ∧ (ls.foldl (cleanStep x) y).id = y.id := by
    intro ls
    induction ls with
    | nil => intro y; exact ⟨rfl, rfl⟩
    | cons c ls ih =>
      intro y
      have h1 := ih (cleanStep x y c)
      have h2 := cleanStep_kind x y c
      exact ⟨h1.1.trans h2.1, h1.2.trans h2.2⟩
  exact this ls _
theorem clean_idem (x : Rq) (h1 : 1 ≤ x.kind) (h2 : x.kind ≤ 12) : cleanL (cleanL x (lets (formF x.kind))) (lets (formF x.kind)) = cleanL x (lets (formF x.kind)) := by
  rcases (show x.kind = 1 ∨ x.kind = 2 ∨ x.kind = 3 ∨ x.kind = 4 ∨ x.kind = 5 ∨ x.kind = 6 ∨ x.kind = 7 ∨ x.kind = 8 ∨ x.kind = 9 ∨ x.kind = 10 ∨ x.kind = 11 ∨ x.kind = 12 by omega) with h | h | h | h | h | h | h | h | h | h | h | h
  · have hl : lets (formF x.kind) = [76, 84, 80, 82, 83, 66] := by rw [h]; rfl
    have hc : ∀ x : Rq, cleanL x [76, 84, 80, 82, 83, 66] = {rq0 x.kind x.id with label := x.label, pt := x.pt, pp := x.pp, prod := x.prod, seq := x.seq} := fun x => rfl
    rw [hl, hc x, hc]
    try rfl
  · have hl : lets (formF x.kind) = [76, 84, 80, 79, 77] := by rw [h]; rfl
    have hc : ∀ x : Rq, cleanL x [76, 84, 80, 79, 77] = {rq0 x.kind x.id with label := x.label, pt := x.pt, pp := x.pp, off := x.off, most := x.most} := fun x => rfl
    rw [hl, hc x, hc]
    try rfl
  · have hl : lets (formF x.kind) = [67] := by rw [h]; rfl
    have hc : ∀ x : Rq, cleanL x [67] = {rq0 x.kind x.id with sn := x.sn, sp := x.sp, sa := x.sa, ss := x.ss, sc := x.sc} := fun x => rfl
    rw [hl, hc x, hc]
    try rfl
  · have hl : lets (formF x.kind) = [84] := by rw [h]; rfl
    have hc : ∀ x : Rq, cleanL x [84] = {rq0 x.kind x.id with pt := x.pt} := fun x => rfl
    rw [hl, hc x, hc]
    try rfl
  · have hl : lets (formF x.kind) = [71, 78, 84] := by rw [h]; rfl
    have hc : ∀ x : Rq, cleanL x [71, 78, 84] = {rq0 x.kind x.id with grp := x.grp, mem := x.mem, pt := x.pt} := fun x => rfl
    rw [hl, hc x, hc]
    try rfl
  · have hl : lets (formF x.kind) = [71, 78] := by rw [h]; rfl
    have hc : ∀ x : Rq, cleanL x [71, 78] = {rq0 x.kind x.id with grp := x.grp, mem := x.mem} := fun x => rfl
    rw [hl, hc x, hc]
    try rfl
  · have hl : lets (formF x.kind) = [71, 78, 69] := by rw [h]; rfl
    have hc : ∀ x : Rq, cleanL x [71, 78, 69] = {rq0 x.kind x.id with grp := x.grp, mem := x.mem, gen := x.gen} := fun x => rfl
    rw [hl, hc x, hc]
    try rfl
  · have hl : lets (formF x.kind) = [71, 78, 69, 84, 80, 79] := by rw [h]; rfl
    have hc : ∀ x : Rq, cleanL x [71, 78, 69, 84, 80, 79] = {rq0 x.kind x.id with grp := x.grp, mem := x.mem, gen := x.gen, pt := x.pt, pp := x.pp, off := x.off} := fun x => rfl
    rw [hl, hc x, hc]
    try rfl
  · have hl : lets (formF x.kind) = [76, 71, 84, 80] := by rw [h]; rfl
    have hc : ∀ x : Rq, cleanL x [76, 71, 84, 80] = {rq0 x.kind x.id with label := x.label, grp := x.grp, pt := x.pt, pp := x.pp} := fun x => rfl
    rw [hl, hc x, hc]
    try rfl
  · have hl : lets (formF x.kind) = [84, 80, 79, 76, 116, 112] := by rw [h]; rfl
    have hc : ∀ x : Rq, cleanL x [84, 80, 79, 76, 116, 112] = {rq0 x.kind x.id with pt := x.pt, pp := x.pp, off := x.off, label := x.label, tt := x.tt, tp := x.tp} := fun x => rfl
    rw [hl, hc x, hc]
    try rfl
  · have hl : lets (formF x.kind) = [76] := by rw [h]; rfl
    have hc : ∀ x : Rq, cleanL x [76] = {rq0 x.kind x.id with label := x.label} := fun x => rfl
    rw [hl, hc x, hc]
    try rfl
  · have hl : lets (formF x.kind) = [76, 84, 80] := by rw [h]; rfl
    have hc : ∀ x : Rq, cleanL x [76, 84, 80] = {rq0 x.kind x.id with label := x.label, pt := x.pt, pp := x.pp} := fun x => rfl
    rw [hl, hc x, hc]
    try rfl
theorem pairsL_idem (l : List S102) (ls : List Int) : pairsL (pairsL l ls) ls = pairsL l ls := by
  unfold pairsL
  by_cases h : (66 : Int) ∈ ls
  · rw [if_pos h, if_pos h]
  · rw [if_neg h, if_neg h]
theorem may_clean (x : Rq) (l : List S102) (hm : mayB x l = true) : mayB (cleanL x (lets (formF x.kind))) (pairsL l (lets (formF x.kind))) = true := by
  obtain ⟨i0, i1, _, hne⟩ := may_parts hm
  obtain ⟨k0, k1⟩ := form_kind _ hne
  have hk := cleanL_kind x (lets (formF x.kind))
  have h := mayR_eq (cleanL x (lets (formF x.kind))) (pairsL l (lets (formF x.kind))) (by omega) (by omega) (by omega) (by omega)
  rw [hk.1, clean_idem x k0 k1, pairsL_idem, mayR_eq x l k0 k1 i0 i1, hm] at h
  exact h.symm
theorem enc_split (x : Rq) (l : List S102) (more : ByteArray) : encS x l ++ more = strOfNums [(3 + (bodyOf x l).size : Int) / 256 % 256, (3 + (bodyOf x l).size : Int) % 256, x.kind, x.id / 256 % 256, x.id % 256] ++ (bodyOf x l ++ more) := by
  unfold encS
  rw [fix2_list, fix2_list, ← str_append, ← str_append, ByteArray.append_assoc]
  rfl
theorem dec_enc (x : Rq) (l : List S102) (hm : mayB x l = true) (hl : 5 + (bodyOf x l).size ≤ 1000) (more : ByteArray) : decW (encS x l ++ more) = ⟨0, ((5 + (bodyOf x l).size : Nat) : Int), cleanL x (lets (formF x.kind)), pairsL l (lets (formF x.kind))⟩ := by
  obtain ⟨i0, i1, _, hne⟩ := may_parts hm
  obtain ⟨k0, k1⟩ := form_kind _ hne
  have hsz : (encS x l ++ more).size = 5 + (bodyOf x l).size + more.size := by
    rw [enc_split, ByteArray.size_append, ByteArray.size_append, strOfNums_size]
    simp only [List.length_cons, List.length_nil]
    omega
  have hb : ∀ (i : Nat) (hi : i < 5), bt (encS x l ++ more) (i : Int) = [(3 + (bodyOf x l).size : Int) / 256 % 256, (3 + (bodyOf x l).size : Int) % 256, x.kind, x.id / 256 % 256, x.id % 256][i]'hi := by
    intro i hi
    rw [enc_split]
    refine bt_str [(3 + (bodyOf x l).size : Int) / 256 % 256, (3 + (bodyOf x l).size : Int) % 256, x.kind, x.id / 256 % 256, x.id % 256] (bodyOf x l ++ more) i hi ?_ ?_
    · rcases (show i = 0 ∨ i = 1 ∨ i = 2 ∨ i = 3 ∨ i = 4 by omega) with rfl | rfl | rfl | rfl | rfl <;> simp only [List.getElem_cons_zero, List.getElem_cons_succ] <;> omega
    · rcases (show i = 0 ∨ i = 1 ∨ i = 2 ∨ i = 3 ∨ i = 4 by omega) with rfl | rfl | rfl | rfl | rfl <;> simp only [List.getElem_cons_zero, List.getElem_cons_succ] <;> omega
  have b0 := hb 0 (by omega)
  have b1 := hb 1 (by omega)
  have b2 := hb 2 (by omega)
  have b3 := hb 3 (by omega)
  have b4 := hb 4 (by omega)
  simp only [List.getElem_cons_zero, List.getElem_cons_succ] at b0 b1 b2 b3 b4
  have p0 : be2 (encS x l ++ more) 0 = 3 + (bodyOf x l).size := by
    unfold be2
    show bt _ ((0 : Nat) : Int) * 256 + bt _ ((1 : Nat) : Int) = _
    rw [b0, b1]; omega
  have p3 : be2 (encS x l ++ more) 3 = x.id := by
    unfold be2
    show bt _ ((3 : Nat) : Int) * 256 + bt _ ((4 : Nat) : Int) = _
    rw [b3, b4]; omega
  have hp : peekI (encS x l ++ more) = ((5 + (bodyOf x l).size : Nat) : Int) := by
    unfold peekI
    rw [if_neg (by omega), p0]; omega
  have hx : (encS x l ++ more).extract 5 (5 + (bodyOf x l).size) = bodyOf x l := by
    rw [enc_split, ← ByteArray.append_assoc]
    have := extract_mid (strOfNums [(3 + (bodyOf x l).size : Int) / 256 % 256, (3 + (bodyOf x l).size : Int) % 256, x.kind, x.id / 256 % 256, x.id % 256]) (bodyOf x l) more
    rw [strOfNums_size] at this
    simp only [List.length_cons, List.length_nil] at this
    rw [ByteArray.toList_eq, ByteArray.toList_eq] at this
    exact ba_ext this
  have hst : decSt (encS x l ++ more) = ⟨cleanL x (lets (formF x.kind)), pairsL l (lets (formF x.kind)), (⟨#[]⟩, false)⟩ := by
    unfold decSt
    rw [hp, Int.toNat_natCast, hx, p3, show bt (encS x l ++ more) 2 = x.kind from b2]
    exact req_fwd x l hm
  unfold decW
  rw [hst, hp]
  rw [if_neg (by omega), if_neg (by rw [hsz]; omega), if_neg (by omega)]
  simp only
  rw [if_neg (by simp), if_neg (by rw [ByteArray.toList_eq]; simp), if_pos (may_clean x l hm)]
end Go.Proofs.Ytlgihjhlkpmpnaa.Wire
