import Derived.Test.YtlgihjhlkpmpnaaZWireJ
import Derived.Test.YtlgihjhlkpmpnaaZWireK
namespace Go.Proofs.Ytlgihjhlkpmpnaa.Wire
set_option linter.unusedVariables false
set_option linter.unusedSimpArgs false
open Go.RowKit Go.Proofs.YtlgihjhlkpmpnaaW.PrintWords Go.Proofs.YtlgihjhlkpmpnaaW.PrintLast Go.Proofs.YtlgihjhlkpmpnaaW.PrintMore Go.Proofs.Ytlgihjhlkpmpnaa.Hand Go.Proofs.Ytlgihjhlkpmpnaa.PWire Go.Proofs.Ytlgihjhlkpmpnaa.PureNums

noncomputable def qNum (r : Rd) : Int × Rd := if r.2 = true then (0, ⟨#[]⟩, true) else if (un r.1).2.2 = 0 then (if (un r.1).1 > 1099511627776 then (0, ⟨#[]⟩, true) else ((un r.1).1, r.1.extract (un r.1).2.1.toNat r.1.size, false)) else (0, ⟨#[]⟩, true)
noncomputable def qText (r : Rd) : ByteArray × Rd := if r.2 = true then (⟨#[]⟩, ⟨#[]⟩, true) else if (ux r.1).2.2 = 0 then ((ux r.1).1, r.1.extract (ux r.1).2.1.toNat r.1.size, false) else (⟨#[]⟩, ⟨#[]⟩, true)
noncomputable def qPlace (r : Rd) : (ByteArray × Int) × Rd := (((qText r).1, (qNum (qText r).2).1), (qNum (qText r).2).2)
noncomputable def qPairN : Nat → List S102 → Rd → List S102 × Rd
  | 0, l, r => (l, r)
  | n + 1, l, r => if (qNum r).1 > 1 then ([], ⟨#[]⟩, true) else qPairN n (l ++ [⟨(qText (qNum r).2).1, (qText (qText (qNum r).2).2).1, (qNum r).1 == 1⟩]) (qText (qText (qNum r).2).2).2
noncomputable def qPairs (r : Rd) : List S102 × Rd := if (qNum r).1 > 16 then ([], ⟨#[]⟩, true) else qPairN (qNum r).1.toNat [] (qNum r).2
/-- a request that is being read by the reference -/
structure Sx (w : World) (y : Rq) (yu : Value) (g3 g4 g5 gr : Nat) (r : Rd) (ex : List (Nat × Obj)) (W : World) : Prop where
  b3 : W.heap[g3]? = some (.cells (y.cs yu) 45 (0, 0))
  b4 : W.heap[g4]? = some (.cells #[.int .i64 0, .int .i64 0, .int .i64 0, .string ⟨#[]⟩, .int .i64 0, .string ⟨#[]⟩, .int .i64 0, .string ⟨#[]⟩, .int .i64 0, .int .i64 0, .int .i64 0, .bool false, .string ⟨#[]⟩, .string ⟨#[]⟩, .int .i64 0, .int .i64 0, .int .i64 0, .int .i64 0, .int .i64 0, .slice none 0 0] 45 (0, 0))
  b5 : W.heap[g5]? = some (.cells #[.string ⟨#[]⟩, .bool false] 110 (0, 0))
  br : W.heap[gr]? = some (.cells #[.string r.1, .bool r.2] 110 (0, 0))
  ex : ∀ e ∈ ex, W.heap[e.1]? = some e.2 ∧ e.1 ≠ g3
  bl : Below w.heap.size w W
  l3 : w.heap.size ≤ g3
  l4 : w.heap.size ≤ g4
  l5 : w.heap.size ≤ g5
  n34 : g3 ≠ g4
  n5r : gr ≠ g5
section
variable {w : World} {y y' : Rq} {yu yu' : Value} {g3 g4 g5 gr : Nat} {r r' : Rd} {ex : List (Nat × Obj)} {W W' : World}
theorem blk_types {g h : Nat} {cs cs' : Array Value} {t t' : TypeId} (h1 : W.heap[g]? = some (.cells cs t (0, 0))) (h2 : W.heap[h]? = some (.cells cs' t' (0, 0))) (hne : t ≠ t') : g ≠ h := fun e => by
  rw [e, h2] at h1
  injection h1 with h1
  injection h1 with _ h1
  exact hne h1.symm
theorem Sx.size (h : Sx w y yu g3 g4 g5 gr r ex W) : w.heap.size ≤ W.heap.size := h.bl.size
theorem Sx.below (h : Sx w y yu g3 g4 g5 gr r ex W) (hb : Below W.heap.size W W') : Sx w y yu g3 g4 g5 gr r ex W' :=
  ⟨blk_below h.b3 hb, blk_below h.b4 hb, blk_below h.b5 hb, blk_below h.br hb, fun e he => ⟨blk_below (h.ex e he).1 hb, (h.ex e he).2⟩, below_step h.bl hb, h.l3, h.l4, h.l5, h.n34, h.n5r⟩
theorem Sx.field (h : Sx w y yu g3 g4 g5 gr r ex W) (h3 : W'.heap[g3]? = some (.cells (y'.cs yu') 45 (0, 0))) (hg : W.grownBy W' (some g3)) : Sx w y' yu' g3 g4 g5 gr r ex W' :=
  ⟨h3, grown_at hg h.b4 (Ne.symm h.n34), grown_at hg h.b5 (blk_types h.b5 h.b3 (by decide)), grown_at hg h.br (blk_types h.br h.b3 (by decide)), fun e he => ⟨grown_at hg (h.ex e he).1 (h.ex e he).2, (h.ex e he).2⟩, below_put h.bl h.l3 hg h.size, h.l3, h.l4, h.l5, h.n34, h.n5r⟩
theorem Sx.reader {g' : Nat} {zc : Array Value} (h : Sx w y yu g3 g4 g5 gr r ex W) (hz : W.heap[g']? = some (.cells zc 110 (0, 0))) (hb : W'.heap[g']? = some (.cells #[.string r'.1, .bool r'.2] 110 (0, 0))) (hg : W.grownBy W' (some g')) (hf : g' ≠ g5 ∧ w.heap.size ≤ g' ∧ ∀ e ∈ ex, e.1 ≠ g') : Sx w y yu g3 g4 g5 g' r' ex W' :=
  ⟨grown_at hg h.b3 (blk_types h.b3 hz (by decide)), grown_at hg h.b4 (blk_types h.b4 hz (by decide)), grown_at hg h.b5 (Ne.symm hf.1), hb, fun e he => ⟨grown_at hg (h.ex e he).1 (hf.2.2 e he), (h.ex e he).2⟩, below_put h.bl hf.2.1 hg h.size, h.l3, h.l4, h.l5, h.n34, hf.1⟩
theorem Sx.place {gp : Nat} {zc pc : Array Value} (h : Sx w y yu g3 g4 g5 gr r ex W) (hz : W.heap[gp]? = some (.cells zc 40 (0, 0))) (hb : W'.heap[gp]? = some (.cells pc 40 (0, 0))) (hg : W.grownBy W' (some gp)) (hf : w.heap.size ≤ gp ∧ ∀ e ∈ ex, e.1 ≠ gp) : Sx w y yu g3 g4 g5 gr r ((gp, .cells pc 40 (0, 0)) :: ex) W' :=
  ⟨grown_at hg h.b3 (blk_types h.b3 hz (by decide)), grown_at hg h.b4 (blk_types h.b4 hz (by decide)), grown_at hg h.b5 (blk_types h.b5 hz (by decide)), grown_at hg h.br (blk_types h.br hz (by decide)), fun e he => by
    rcases List.mem_cons.1 he with rfl | he
    · exact ⟨hb, blk_types hz h.b3 (by decide)⟩
    · exact ⟨grown_at hg (h.ex e he).1 (hf.2 e he), (h.ex e he).2⟩, below_put h.bl hf.1 hg h.size, h.l3, h.l4, h.l5, h.n34, h.n5r⟩
end
noncomputable def memberF (x : Rq) (r : Rd) : Rq × Rd := ({x with grp := (qText r).1, mem := (qText (qText r).2).1}, (qText (qText r).2).2)
theorem Sx.move {w : World} {y y' : Rq} {yu yu' : Value} {g3 g4 g5 gr g6 : Nat} {r : Rd} {ex : List (Nat × Obj)} {W W' : World} {zc : Array Value} (h : Sx w y yu g3 g4 g5 gr r ex W) (hz : W.heap[g6]? = some (.cells zc 45 (0, 0))) (hb : W'.heap[g6]? = some (.cells (y'.cs yu') 45 (0, 0))) (hg : W.grownBy W' (some g6)) (hf : g3 ≠ g6 ∧ g6 ≠ g4 ∧ w.heap.size ≤ g6 ∧ ∀ e ∈ ex, e.1 ≠ g6) : Sx w y' yu' g6 g4 g5 gr r ((g3, .cells (y.cs yu) 45 (0, 0)) :: ex) W' :=
  ⟨hb, grown_at hg h.b4 (Ne.symm hf.2.1), grown_at hg h.b5 (blk_types h.b5 hz (by decide)), grown_at hg h.br (blk_types h.br hz (by decide)), fun e he => by
    rcases List.mem_cons.1 he with rfl | he
    · exact ⟨grown_at hg h.b3 hf.1, hf.1⟩
    · exact ⟨grown_at hg (h.ex e he).1 (hf.2.2.2 e he), hf.2.2.2 e he⟩, below_put h.bl hf.2.2.1 hg h.size, hf.2.2.1, h.l4, h.l5, hf.2.1, h.n5r⟩
theorem put2 {W : World} {g j : Nat} {cs : Array Value} {t : TypeId} (h : W.heap[g]? = some (.cells cs t (0, 0))) (a b : Value) :
    ((W.setCell ⟨g, j, none⟩ a).setCell ⟨g, j + 1, none⟩ b).heap[g]? = some (.cells ((cs.setIfInBounds j a).setIfInBounds (j + 1) b) t (0, 0)) ∧ W.grownBy ((W.setCell ⟨g, j, none⟩ a).setCell ⟨g, j + 1, none⟩ b) (some g) :=
  ⟨blk_set (blk_set h j a) (j + 1) b, grown_more (grown_setCell W g j a) (grown_setCell _ g (j + 1) b)⟩
noncomputable def refF (x : Rq) (r : Rd) : Rst :=
  if x.kind = 3 then ⟨{x with sn := (qText r).1, sp := (qNum (qText r).2).1, sa := (qNum (qNum (qText r).2).2).1, ss := (qNum (qNum (qNum (qText r).2).2).2).1, sc := (qNum (qNum (qNum (qNum (qText r).2).2).2).2).1 == 1}, [], if (qNum (qNum (qNum (qNum (qText r).2).2).2).2).1 > 1 then (⟨#[]⟩, true) else (qNum (qNum (qNum (qNum (qText r).2).2).2).2).2⟩
  else if x.kind = 4 then ⟨{x with pt := (qText r).1}, [], (qText r).2⟩
  else if x.kind = 2 then ⟨{x with label := (qNum r).1, pt := (qPlace (qNum r).2).1.1, pp := (qPlace (qNum r).2).1.2, off := (qNum (qPlace (qNum r).2).2).1, most := (qNum (qNum (qPlace (qNum r).2).2).2).1}, [], (qNum (qNum (qPlace (qNum r).2).2).2).2⟩
  else if x.kind = 1 then ⟨{x with label := (qNum r).1, pt := (qPlace (qNum r).2).1.1, pp := (qPlace (qNum r).2).1.2, prod := (qNum (qPlace (qNum r).2).2).1, seq := (qNum (qNum (qPlace (qNum r).2).2).2).1}, (qPairs (qNum (qNum (qPlace (qNum r).2).2).2).2).1, (qPairs (qNum (qNum (qPlace (qNum r).2).2).2).2).2⟩
  else if x.kind = 6 then ⟨(memberF x r).1, [], (memberF x r).2⟩
  else if x.kind = 5 then ⟨{(memberF x r).1 with pt := (qText (memberF x r).2).1}, [], (qText (memberF x r).2).2⟩
  else if x.kind = 7 then ⟨{(memberF x r).1 with gen := (qNum (memberF x r).2).1}, [], (qNum (memberF x r).2).2⟩
  else if x.kind = 8 then ⟨{(memberF x r).1 with gen := (qNum (memberF x r).2).1, pt := (qPlace (qNum (memberF x r).2).2).1.1, pp := (qPlace (qNum (memberF x r).2).2).1.2, off := (qNum (qPlace (qNum (memberF x r).2).2).2).1}, [], (qNum (qPlace (qNum (memberF x r).2).2).2).2⟩
  else if x.kind = 10 then ⟨{x with pt := (qPlace r).1.1, pp := (qPlace r).1.2, off := (qNum (qPlace r).2).1, label := (qNum (qNum (qPlace r).2).2).1, tt := (qPlace (qNum (qNum (qPlace r).2).2).2).1.1, tp := (qPlace (qNum (qNum (qPlace r).2).2).2).1.2}, [], (qPlace (qNum (qNum (qPlace r).2).2).2).2⟩
  else if x.kind = 11 then ⟨{x with label := (qNum r).1}, [], (qNum r).2⟩
  else if x.kind = 9 then ⟨{x with label := (qNum r).1, grp := (qText (qNum r).2).1, pt := (qPlace (qText (qNum r).2).2).1.1, pp := (qPlace (qText (qNum r).2).2).1.2}, [], (qPlace (qText (qNum r).2).2).2⟩
  else if x.kind = 12 then ⟨{x with label := (qNum r).1, pt := (qPlace (qNum r).2).1.1, pp := (qPlace (qNum r).2).1.2}, [], (qPlace (qNum r).2).2⟩
  else ⟨x, [], (⟨#[]⟩, true)⟩
end Go.Proofs.Ytlgihjhlkpmpnaa.Wire
