import Derived.Test.YtohhlkabejangaaAs4
namespace Go.Proofs.Ytohhlkabejangaa.As
open Go.RowKit Go.Maps Go.Sort Go.ChangeShapes Go.Proofs.YtohhlkabejangaaW.PrintWords Go.Proofs.YtohhlkabejangaaW.PrintLast Go.Proofs.YtohhlkabejangaaW.PrintMore Go.Proofs.Ytohhlkabejangaa.PAs
open Go.WideElems (Fit rd rg pl rd_val elemAt)
set_option linter.unusedVariables false
set_option linter.unusedSimpArgs false
/-- the look-up with ok, and what it tells -/
theorem groups_ok {P : Program} {w : World} {k base e b n : Nat} {q : IntKind} {D : DataW Unit} {t E : TypeId} {key : Value} {kl : Lit} (h : w.ownsGroups P k base e q b n D) (K : Keyed P k) (ht : P.underlying t = some (.map k E)) (hz : (zeroValue E).run P w = .ok (.slice none 0 0) w) (hkey : keyOf P k key = some kl) :
    ∃ v zs, (Instr.lookup t (.map (some b)) key true).run P w = .ok (.tuple #[v, .bool (Maps.has D kl)]) w ∧ D.atKey kl .nil = rowDatum q v zs ∧ w.ownsInts base e q v zs := by
  obtain ⟨es, clock, hb, F, hs, rfl, hbb, hlen, hap⟩ := h
  rcases Maps.fit_look true K ht hz hb F hkey with ⟨hrun, _, hat⟩ | ⟨e0, y, hm0, h3, hrun, hR, hat, _⟩
  · exact ⟨.slice none 0 0, [], by rw [hrun, has_false_of_atKey hat]; rfl, hat _, World.ownsInts_nil _ _ _ _⟩
  · obtain ⟨zs, ho, rfl⟩ := rowElem_inv hR
    exact ⟨e0.val, zs, by rw [hrun, has_true_of_atKey hat]; rfl, hat _, ho⟩
theorem wpList_groups_ok {P : Program} (w : World) {ops : Array Oper} {rest : List Oper} {o : Oper} {a : Act} {Q : Exit → Act → World → Prop}
    (hg : o.guard = none) (m x : Operand) (t : TypeId) (hop : o.op = Op.lookup t m x true)
    (k E e : TypeId) (q : IntKind) (K : Keyed P k) (ht : P.underlying t = some (.map k E)) (hz : (zeroValue E).run P w = .ok (.slice none 0 0) w) (base b n : Nat) (D : DataW Unit)
    (hm : a.eval m = .map (some b)) (hown : w.ownsGroups P k base e q b n D) (key : Value) (kl : Lit) (hx : a.eval x = key) (hkey : keyOf P k key = some kl)
    (hK : ∀ v zs, D.atKey kl .nil = rowDatum q v zs → w.ownsInts base e q v zs → wpList P ops Q rest (a.put o.dst (.tuple #[v, .bool (Maps.has D kl)])) w) :
    wpList P ops Q (o :: rest) a w := by
  refine wpList_plain hg fun K' hK' => ?_
  obtain ⟨v, zs, hrun, hat, hoi⟩ := groups_ok hown K ht hz hkey
  unfold Oper.wp
  simp [execOp, hop, hm, hx, hrun, Result.andThen]
  exact hK' _ _ (hK v zs hat hoi)
theorem ints_lower {w : World} {B B' e : Nat} {q : IntKind} {v : Value} {zs : List Int} (h : w.ownsInts B e q v zs) (hb : B' ≤ B) : w.ownsInts B' e q v zs := ⟨own_less h.1 hb, h.2⟩
set_option maxHeartbeats 16000000 in
set_option maxRecDepth 100000 in
theorem of_bad (A : Option Addr) (c : Nat) (l : List ByteArray) (n z : Int) (s : ByteArray) (w : World) (hA : Kd.C Kd.string w A l.length l) (hl : l.length ≤ 1000) (hz : ∀ s ∈ l, s.size ≤ 1000) (h0 : wrongL l ≠ 0 ∨ n < 0 ∨ n > 4) (hzz : z = if wrongL l = 0 then 1 else wrongL l) :
    Calls Try.prog 19 #[.slice A l.length c, .int .i64 n, .string s] w fun e w' => e = .returned (.tuple #[.slice none 0 0, .int .i64 z]) ∧ Below w.heap.size w w' := by
  have hs := range_bad A c l n z w hA hl hz h0 hzz
  have hz0 : z ≠ 0 := by
    rw [hzz]
    split
    · decide
    · assumption
  have c1 : (z == 0) = false := beq_eq_false_iff_ne.2 hz0
  have c2 : (z != 0) = true := bne_iff_ne.2 hz0
  have c3 : decide (z ≠ 0) = true := decide_eq_true hz0
  have hs := Aside0.mk hs
  clear hA hz hzz h0
  go_enter Try.func19, Try.ntmps19
  go_wp2_with fail
  refine hs.out.mono ?_
  rintro e w1 ⟨rfl, hB⟩
  have HB := Aside0.mk hB
  clear hs hB
  go_wp2_with fail
  exact bodyPost_ret (v := .tuple #[.slice none 0 0, .int .i64 z]) (by simp [results, Try.results19, go_sem]) rfl ⟨rfl, HB.out⟩
/-- what Of tells by a map -/
def ofZ (D : DataW Unit) (s : ByteArray) : Int := if Maps.has D (.string s.toList) = true then 0 else 6
def OfP (D : DataW Unit) (s : ByteArray) (w w' : World) (v : Value) : Prop :=
  ∃ zs, w'.ownsInts w.heap.size 3 .i64 v zs ∧ (Maps.has D (.string s.toList) = true → D.atKey (.string s.toList) .nil = rowDatum .i64 v zs) ∧ (Maps.has D (.string s.toList) = false → v = .slice none 0 0 ∧ zs = [])
set_option maxHeartbeats 16000000 in
set_option maxRecDepth 100000 in
theorem of_calls (A : Option Addr) (c : Nat) (l : List ByteArray) (n : Nat) (s : ByteArray) (hs : s.size ≤ 1000) (w : World) (hA : Kd.C Kd.string w A l.length l) (hl : l.length ≤ 1000) (hz : ∀ s ∈ l, s.size ≤ 1000) (hw : wrongL l = 0) (hn : n ≤ 4) :
    Calls Try.prog 19 #[.slice A l.length c, .int .i64 (n : Int), .string s] w fun e w' => ∃ v, e = .returned (.tuple #[v, .int .i64 (ofZ (datG (rowsG n (srt l) l.length)) s)]) ∧ OfP (datG (rowsG n (srt l) l.length)) s w w' v ∧ Below w.heap.size w w' := by
  have hr := range_calls A c l n w hA hl hz hw hn
  generalize datG (rowsG n (srt l) l.length) = D at hr ⊢
  have hr := Aside0.mk hr
  have hkey : keyOf Try.prog 9 (.string s) = some (.string s.toList) := by
    have := key_str s.toList (by rw [str_toList, data_length]; exact hs)
    rwa [enc_str] at this
  have HKEY := Aside0.mk hkey
  clear hA hz hw hkey
  go_enter Try.func19, Try.ntmps19
  go_wp2_with fail
  refine hr.out.mono ?_
  rintro e w1 ⟨b, q, rfl, hb, hq, hG, hB⟩
  have HG := Aside0.mk hG
  have HB := Aside0.mk hB
  clear hr hG hB
  have hcase : Maps.has D (.string s.toList) = true ∨ Maps.has D (.string s.toList) = false := by cases Maps.has D (.string s.toList) <;> simp
  rcases hcase with hh | hh
  · have hofz : ofZ D s = 0 := if_pos hh
    have HOZ := Aside0.mk hofz
    have HH := Aside0.mk hh
    clear hofz hh
    go_wp2_with (first
      | (at_lookup; refine wpList_groups_ok _ rfl _ _ 25 rfl 9 29 3 .i64 str_law Try.underlying25 (zeroIS _) (b + 1) b q D rfl HG.out _ _ rfl HKEY.out ?_; intro v zs hat hoi; rw [HH.out]; have HAT := Aside0.mk hat; have HOI := Aside0.mk hoi; clear hat hoi))
    exact bodyPost_ret (v := .tuple #[v, .int .i64 0]) (by simp [results, Try.results19, go_sem]) rfl ⟨v, by rw [HOZ.out], ⟨zs, ints_lower HOI.out (by omega), fun _ => HAT.out, fun h => (by rw [HH.out] at h; cases h)⟩, HB.out⟩
  · have hofz : ofZ D s = 6 := if_neg (by rw [hh]; decide)
    have HOZ := Aside0.mk hofz
    have HH := Aside0.mk hh
    clear hofz hh
    go_wp2_with (first
      | (at_lookup; refine wpList_groups_ok _ rfl _ _ 25 rfl 9 29 3 .i64 str_law Try.underlying25 (zeroIS _) (b + 1) b q D rfl HG.out _ _ rfl HKEY.out ?_; intro v zs hat hoi; rw [HH.out]; have HAT := Aside0.mk hat; have HOI := Aside0.mk hoi; clear hat hoi))
    exact bodyPost_ret (v := .tuple #[.slice none 0 0, .int .i64 6]) (by simp [results, Try.results19, go_sem]) rfl ⟨.slice none 0 0, by rw [HOZ.out], ⟨[], World.ownsInts_nil _ _ _ _, fun h => (by rw [HH.out] at h; cases h), fun _ => ⟨rfl, rfl⟩⟩, HB.out⟩
end Go.Proofs.Ytohhlkabejangaa.As
