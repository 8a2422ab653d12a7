import Derived.Test.YtlgihjhlkpmpnaaRWireB
import Derived.Lib.OthersKept
namespace Go.Proofs.Ytlgihjhlkpmpnaa.Wire
set_option linter.unusedVariables false
set_option linter.unusedSimpArgs false
open Go.RowKit Go.Proofs.YtlgihjhlkpmpnaaW.PrintWords Go.Proofs.YtlgihjhlkpmpnaaW.PrintLast Go.Proofs.YtlgihjhlkpmpnaaW.PrintMore Go.Proofs.Ytlgihjhlkpmpnaa.PWire

def Rq.cs (x : Rq) (u : Value) : Array Value := #[.int .i64 x.id, .int .i64 x.kind, .int .i64 x.label, .string x.pt, .int .i64 x.pp, .string x.tt, .int .i64 x.tp, .string x.sn, .int .i64 x.sp, .int .i64 x.sa, .int .i64 x.ss, .bool x.sc, .string x.grp, .string x.mem, .int .i64 x.gen, .int .i64 x.off, .int .i64 x.most, .int .i64 x.prod, .int .i64 x.seq, u]
/-- a string's iterator goes one letter on -/
theorem next_ev {P : Program} {ops : Array Oper} {rest : List Oper} {o : Oper} {a : Act} {Q : Exit → Act → World → Prop} {W : World} {N : Tmp} (hN : o.dst = some N) (hgd : o.guard = none) {p : Tmp} (ho : o.op = .next (.tmp p) true) {g pos : Nat} {s : ByteArray} (hx : a.eval (.tmp p) = .pointer (some ⟨g, 0, none⟩))
    (hg : W.heap[g]? = some (.stringIter s pos)) {c : Int} (hb : ∃ h0 : pos < s.size, (s[pos]'h0).toNat < 128 ∧ ((s[pos]'h0).toNat : Int) = c)
    (h : ∀ W', W'.heap[g]? = some (.stringIter s (pos + 1)) → W.grownBy W' (some g) → wpList P ops Q rest (a.put o.dst (.tuple #[.bool true, .int .i64 pos, .int .i32 c])) W') : wpList P ops Q (o :: rest) a W := by
  obtain ⟨h0, ha, hc⟩ := hb
  subst hc
  exact Kd.event_run hgd (by
    unfold execOp
    simp only [ho, hx, Sem.run_bind, Lib.run_next_ascii_at W g s pos o.type hg h0 ha, Result.andThen]
    rfl) (h _ (Lib.iterAt_heap W g s pos (pos + 1) hg) ⟨rfl, rfl, rfl, by rw [Lib.iterAt_size]; exact Nat.le_refl _, fun i _ hne => Lib.iterAt_other W g i s (pos + 1) (fun e => hne (by rw [e]))⟩)
theorem range_ev {P : Program} {ops : Array Oper} {rest : List Oper} {o : Oper} {a : Act} {Q : Exit → Act → World → Prop} {W : World} {N : Tmp} (hN : o.dst = some N) (hgd : o.guard = none)
    {s : ByteArray} (hrun : (execOp a.eval o).run P W = .ok (.value (.pointer (some ⟨W.heap.size, 0, none⟩))) (W.iter s 0))
    (h : ∀ g, g = W.heap.size → ∀ W', W'.heap[g]? = some (.stringIter s 0) → Below W.heap.size W W' → wpList P ops Q rest (a.put o.dst (.pointer (some ⟨g, 0, none⟩))) W') : wpList P ops Q (o :: rest) a W :=
  Kd.event_run hgd hrun (h _ rfl _ (blk_new W _) (below_alloc (Below.refl _ _) _))
theorem pairs_grown {w W W' : World} {g : Nat} {u : Value} {ps : List S102} (h : Kd.R k102 102 W w.heap.size (fun _ => True) u ps) (hg : W.grownBy W' (some g)) (hne : ∀ cells, W.heap[g]? ≠ some (.cells cells 102 (0, 0))) : Kd.R k102 102 W' w.heap.size (fun _ => True) u ps :=
  Kd.R_mono (Kd.R_move (Kd.R_bound h) (fun k hk => hg.block k hk.2.2.1 (fun e => by
    obtain ⟨q, hq, cells, hc⟩ := hk.2.2.2
    have hE : k102.E = [] := rfl
    rw [hE, List.mem_singleton] at hq
    subst hq
    exact hne cells (by rw [← Option.some.inj e]; exact hc)))) (fun _ _ => trivial)
/-- the state of Clean's loop -/
structure St (w : World) (x y : Rq) (xu yu : Value) (zs : Array Value) (ps : List S102) (g1 g2 g3 gi : Nat) (s : ByteArray) (pos : Nat) (W : World) : Prop where
  b1 : W.heap[g1]? = some (.cells (x.cs xu) 45 (0, 0))
  b2 : W.heap[g2]? = some (.cells zs 45 (0, 0))
  b3 : W.heap[g3]? = some (.cells (y.cs yu) 45 (0, 0))
  bi : W.heap[gi]? = some (.stringIter s pos)
  bl : Below w.heap.size w W
  rp : Kd.R k102 102 W w.heap.size (fun _ => True) yu ps
  h2 : w.heap.size ≤ g2
  h3 : w.heap.size ≤ g3
  hi : w.heap.size ≤ gi
  n13 : g1 ≠ g3
  n23 : g2 ≠ g3
section
variable {w : World} {x y : Rq} {xu yu : Value} {zs : Array Value} {ps : List S102} {g1 g2 g3 gi : Nat} {s : ByteArray} {pos : Nat} {W W' : World}
theorem St.size (h : St w x y xu yu zs ps g1 g2 g3 gi s pos W) : w.heap.size ≤ W.heap.size := h.bl.size
theorem St.below (h : St w x y xu yu zs ps g1 g2 g3 gi s pos W) (hb : Below W.heap.size W W') : St w x y xu yu zs ps g1 g2 g3 gi s pos W' :=
  ⟨blk_below h.b1 hb, blk_below h.b2 hb, blk_below h.b3 hb, blk_below h.bi hb, below_step h.bl hb, Kd.R_below h.rp hb, h.h2, h.h3, h.hi, h.n13, h.n23⟩
theorem St.next (h : St w x y xu yu zs ps g1 g2 g3 gi s pos W) (hi : W'.heap[gi]? = some (.stringIter s (pos + 1))) (hg : W.grownBy W' (some gi)) : St w x y xu yu zs ps g1 g2 g3 gi s (pos + 1) W' :=
  have ne : ∀ {g : Nat} {cs : Array Value} {t : TypeId}, W.heap[g]? = some (.cells cs t (0, 0)) → g ≠ gi := fun hc e => by rw [e, h.bi] at hc; simp at hc
  ⟨grown_at hg h.b1 (ne h.b1), grown_at hg h.b2 (ne h.b2), grown_at hg h.b3 (ne h.b3), hi, below_put h.bl h.hi hg h.size, pairs_grown h.rp hg (fun cells e => by rw [h.bi] at e; simp at e), h.h2, h.h3, h.hi, h.n13, h.n23⟩
theorem St.store {y' : Rq} (h : St w x y xu yu zs ps g1 g2 g3 gi s pos W) (h3 : W'.heap[g3]? = some (.cells (y'.cs yu) 45 (0, 0))) (hg : W.grownBy W' (some g3)) : St w x y' xu yu zs ps g1 g2 g3 gi s pos W' :=
  ⟨grown_at hg h.b1 h.n13, grown_at hg h.b2 h.n23, h3, grown_at hg h.bi (fun e => by have := h.bi; rw [e, h.b3] at this; simp at this), below_put h.bl h.h3 hg h.size, pairs_grown h.rp hg (fun cells e => by rw [h.b3] at e; simp at e), h.h2, h.h3, h.hi, h.n13, h.n23⟩
theorem St.putPairs {yu' : Value} {ps' : List S102} (h : St w x y xu yu zs ps g1 g2 g3 gi s pos W) (hr : Kd.R k102 102 W w.heap.size (fun _ => True) yu' ps') (h3 : W'.heap[g3]? = some (.cells (y.cs yu') 45 (0, 0))) (hg : W.grownBy W' (some g3)) : St w x y xu yu' zs ps' g1 g2 g3 gi s pos W' :=
  ⟨grown_at hg h.b1 h.n13, grown_at hg h.b2 h.n23, h3, grown_at hg h.bi (fun e => by have := h.bi; rw [e, h.b3] at this; simp at this), below_put h.bl h.h3 hg h.size, pairs_grown hr hg (fun cells e => by rw [h.b3] at e; simp at e), h.h2, h.h3, h.hi, h.n13, h.n23⟩
end
/-- one letter of Clean -/
def cleanStep (x y : Rq) (c : Int) : Rq :=
  if (numF x c).2 = true then setNum y c (numF x c).1 else if (textF x c).2 = true then setText y c (textF x c).1 else if c = 67 then {y with sn := x.sn, sp := x.sp, sa := x.sa, ss := x.ss, sc := x.sc} else y
def lets (s : ByteArray) : List Int := s.data.toList.map fun b => (b.toNat : Int)
def formF (k : Int) : ByteArray := (wire_form.f k).getD ⟨#[]⟩
theorem form_cases {Q : ByteArray → Prop} (k : Int) (h : Q ⟨#[76, 84, 80, 82, 83, 66]⟩ ∧ Q ⟨#[76, 84, 80, 79, 77]⟩ ∧ Q ⟨#[67]⟩ ∧ Q ⟨#[84]⟩ ∧ Q ⟨#[71, 78, 84]⟩ ∧ Q ⟨#[71, 78]⟩ ∧ Q ⟨#[71, 78, 69]⟩ ∧ Q ⟨#[71, 78, 69, 84, 80, 79]⟩ ∧ Q ⟨#[76, 71, 84, 80]⟩ ∧ Q ⟨#[84, 80, 79, 76, 116, 112]⟩ ∧ Q ⟨#[76]⟩ ∧ Q ⟨#[76, 84, 80]⟩ ∧ Q ⟨#[]⟩) : ∃ r, wire_form.f k = some r ∧ Q r := by
  obtain ⟨a1, a2, a3, a4, a5, a6, a7, a8, a9, a10, a11, a12, a13⟩ := h
  unfold wire_form.f
  by_cases h1 : k = 1
  · rw [if_pos h1]; exact ⟨_, rfl, a1⟩
  rw [if_neg h1]
  by_cases h2 : k = 2
  · rw [if_pos h2]; exact ⟨_, rfl, a2⟩
  rw [if_neg h2]
  by_cases h3 : k = 3
  · rw [if_pos h3]; exact ⟨_, rfl, a3⟩
  rw [if_neg h3]
  by_cases h4 : k = 4
  · rw [if_pos h4]; exact ⟨_, rfl, a4⟩
  rw [if_neg h4]
  by_cases h5 : k = 5
  · rw [if_pos h5]; exact ⟨_, rfl, a5⟩
  rw [if_neg h5]
  by_cases h6 : k = 6
  · rw [if_pos h6]; exact ⟨_, rfl, a6⟩
  rw [if_neg h6]
  by_cases h7 : k = 7
  · rw [if_pos h7]; exact ⟨_, rfl, a7⟩
  rw [if_neg h7]
  by_cases h8 : k = 8
  · rw [if_pos h8]; exact ⟨_, rfl, a8⟩
  rw [if_neg h8]
  by_cases h9 : k = 9
  · rw [if_pos h9]; exact ⟨_, rfl, a9⟩
  rw [if_neg h9]
  by_cases h10 : k = 10
  · rw [if_pos h10]; exact ⟨_, rfl, a10⟩
  rw [if_neg h10]
  by_cases h11 : k = 11
  · rw [if_pos h11]; exact ⟨_, rfl, a11⟩
  rw [if_neg h11]
  by_cases h12 : k = 12
  · rw [if_pos h12]; exact ⟨_, rfl, a12⟩
  rw [if_neg h12]
  exact ⟨_, rfl, a13⟩
theorem form_some (k : Int) : wire_form.f k = some (formF k) := by
  obtain ⟨r, hr, _⟩ := form_cases (Q := fun _ => True) k (by simp)
  unfold formF
  rw [hr]
  rfl
theorem formF_cases {Q : ByteArray → Prop} (k : Int) (h : Q ⟨#[76, 84, 80, 82, 83, 66]⟩ ∧ Q ⟨#[76, 84, 80, 79, 77]⟩ ∧ Q ⟨#[67]⟩ ∧ Q ⟨#[84]⟩ ∧ Q ⟨#[71, 78, 84]⟩ ∧ Q ⟨#[71, 78]⟩ ∧ Q ⟨#[71, 78, 69]⟩ ∧ Q ⟨#[71, 78, 69, 84, 80, 79]⟩ ∧ Q ⟨#[76, 71, 84, 80]⟩ ∧ Q ⟨#[84, 80, 79, 76, 116, 112]⟩ ∧ Q ⟨#[76]⟩ ∧ Q ⟨#[76, 84, 80]⟩ ∧ Q ⟨#[]⟩) : Q (formF k) := by
  obtain ⟨r, hr, hq⟩ := form_cases k h
  unfold formF
  rw [hr]
  exact hq
theorem numF_excl {x : Rq} {c : Int} (h : (numF x c).2 = true) : (textF x c).2 = false ∧ c ≠ 66 ∧ c ≠ 67 := by
  unfold numF at h
  repeat' split at h
  all_goals first | (simp at h; done) | (subst_vars; simp [textF])
theorem textF_excl {x : Rq} {c : Int} (h : (textF x c).2 = true) : (numF x c).2 = false ∧ c ≠ 66 ∧ c ≠ 67 := by
  unfold textF at h
  repeat' split at h
  all_goals first | (simp at h; done) | (subst_vars; simp [numF])
def asciiB (s : ByteArray) : Prop := ∀ i (h : i < s.size), (s[i]'h).toNat < 128
theorem formF_ascii (k : Int) : asciiB (formF k) := formF_cases k (by
  unfold asciiB
  decide)
end Go.Proofs.Ytlgihjhlkpmpnaa.Wire
