import Derived.Lib.SmallJoins
import Derived.Deep.Slices
import Derived.Deep.Fields
import Derived.ChangeSame
namespace Go.Proofs.Ytohhlkabejangaa.StructRow
open Go.RowKit Go.Joins Go.ChangeShapes Go.WideShapes Go.Deep
/- Structs of one-cell fields by value, opened and shut, whatever the number of fields. -/
section
variable {H : Type} {enc : TypeId × Value → H} {P : Program} {w : World} {base : Nat} {spare : Nat → Bool} {held : Bool}
theorem open_fields {r : Reach} {b0 : Nat} {t : TypeId} {fs : Array Field} {v : Value} {d : DataW H} {p : List MemPlace} (hs : P.underlying t = some (.struct fs)) (hone : oneCellFields P fs = true) (hC : P.cellsOf t = fs.size)
    (hv : Value.okWide P w r b0 t v) (h : DataW.Trod enc P w base spare held t v d p) :
    ∃ (cs : List Value) (ys : List (DataW H × List MemPlace)) (n : Nat), v = .agg ⟨cs⟩ ∧ cs.length = fs.size ∧ ys.length = fs.size ∧ d = .agg (ys.map (·.1)) ∧ p = ys.flatMap (·.2) ∧
      ∀ (j : Nat) (f : Field) (c : Value), fs[j]? = some f → cs[j]? = some c → ∃ y, ys[j]? = some y ∧ DataW.trod enc P w base spare held n f.type [c] = some y := by
  obtain ⟨cs, rfl, hsz⟩ := okWide_struct hs hv
  obtain ⟨l⟩ := cs
  obtain ⟨fuel, hf⟩ := h
  obtain ⟨xs, n, _, hx, _, hlen, hg⟩ := DataW.trod_struct hs hf
  simp only [Prod.mk.injEq] at hx
  refine ⟨l, xs, n, rfl, by simpa using hsz.trans hC, hlen, hx.1, hx.2, fun j f c hj hc => ?_⟩
  obtain ⟨ho, hk⟩ := hone_of hone j f hj
  have h1 := hg j f hj
  have hjl : j < xs.length := by rw [hlen]; exact (Array.getElem?_eq_some_iff.1 hj).1
  have hjc : j < l.length := (List.getElem?_eq_some_iff.1 hc).1
  rw [ho, hk] at h1
  have e1 : (Value.agg ⟨l⟩).cells.toList = l := rfl
  rw [e1, List.drop_eq_getElem_cons hjc] at h1
  have e2 : l[j] = c := (List.getElem?_eq_some_iff.1 hc).2
  rw [e2] at h1
  exact ⟨xs[j], List.getElem?_eq_getElem hjl, by rw [List.getElem?_eq_getElem hjl] at h1; exact h1⟩
theorem mapM_get {α β : Type} (g : α → Option β) : ∀ (l : List α) (ys : List β), l.length = ys.length → (∀ (j : Nat) (a : α) (y : β), l[j]? = some a → ys[j]? = some y → g a = some y) → l.mapM g = some ys
  | [], [], _, _ => rfl
  | a :: l, y :: ys, hl, h => by
    have h0 := h 0 a y rfl rfl
    have ht := mapM_get g l ys (by simpa using hl) (fun j b z hb hz => h (j + 1) b z (by simpa using hb) (by simpa using hz))
    simp [List.mapM_cons, h0, ht]
theorem shut_fields {t : TypeId} {fs : Array Field} {cs : List Value} {ys : List (DataW H × List MemPlace)} {n : Nat} (hs : P.underlying t = some (.struct fs)) (hone : oneCellFields P fs = true) (hC : P.cellsOf t = fs.size)
    (h1 : cs.length = fs.size) (h2 : ys.length = fs.size) (h : ∀ (j : Nat) (f : Field) (c : Value) (y : DataW H × List MemPlace), fs[j]? = some f → cs[j]? = some c → ys[j]? = some y → DataW.trod enc P w base spare held n f.type [c] = some y) :
    DataW.Trod enc P w base spare held t (.agg ⟨cs⟩) (.agg (ys.map (·.1))) (ys.flatMap (·.2)) := by
  refine ⟨n + 1, ?_⟩
  have e1 : (Value.agg ⟨cs⟩).cells.toList = cs := rfl
  rw [e1]
  refine trod_struct_mk hs (by rw [h1, hC]) (mapM_get _ _ _ (by simp [h2]) fun j f y hf hy => ?_)
  have hj : fs[j]? = some f := by simpa using hf
  obtain ⟨ho, hk⟩ := hone_of hone j f hj
  have hjl : j < cs.length := by rw [h1]; exact (Array.getElem?_eq_some_iff.1 hj).1
  rw [ho, hk, List.drop_eq_getElem_cons hjl]
  exact h j f _ y hj (List.getElem?_eq_getElem hjl) hy
/-- each field read by its own cell -/
def Reads (enc : TypeId × Value → H) (P : Program) (w : World) (base : Nat) (spare : Nat → Bool) (held : Bool) (n : Nat) : List Field → List Value → List (DataW H × List MemPlace) → Prop
  | [], [], [] => True
  | f :: fs, c :: cs, y :: ys => DataW.trod enc P w base spare held n f.type [c] = some y ∧ Reads enc P w base spare held n fs cs ys
  | _, _, _ => False
theorem Reads.get {n : Nat} : ∀ {fs : List Field} {cs : List Value} {ys : List (DataW H × List MemPlace)}, Reads enc P w base spare held n fs cs ys → ∀ (j : Nat) (f : Field) (c : Value) (y : DataW H × List MemPlace), fs[j]? = some f → cs[j]? = some c → ys[j]? = some y → DataW.trod enc P w base spare held n f.type [c] = some y
  | f :: fs, c :: cs, y :: ys, h, 0, _, _, _, hf, hc, hy => by
    obtain rfl := Option.some.inj hf
    obtain rfl := Option.some.inj hc
    obtain rfl := Option.some.inj hy
    exact h.1
  | f :: fs, c :: cs, y :: ys, h, j + 1, _, _, _, hf, hc, hy => Reads.get h.2 j _ _ _ (by simpa using hf) (by simpa using hc) (by simpa using hy)
theorem reads_of {n : Nat} : ∀ {fs : List Field} {cs : List Value} {ys : List (DataW H × List MemPlace)}, cs.length = fs.length → ys.length = fs.length → (∀ (j : Nat) (f : Field) (c : Value), fs[j]? = some f → cs[j]? = some c → ∃ y, ys[j]? = some y ∧ DataW.trod enc P w base spare held n f.type [c] = some y) → Reads enc P w base spare held n fs cs ys
  | [], [], [], _, _, _ => trivial
  | f :: fs, c :: cs, y :: ys, h1, h2, h => by
    obtain ⟨y', e, h0⟩ := h 0 f c rfl rfl
    obtain rfl := Option.some.inj e
    exact ⟨h0, reads_of (by simpa using h1) (by simpa using h2) fun j f' c' a b => by simpa using h (j + 1) f' c' (by simpa using a) (by simpa using b)⟩
/-- a struct by value, opened -/
theorem open_struct {r : Reach} {b0 : Nat} {t : TypeId} {fs : Array Field} {v : Value} {d : DataW H} {p : List MemPlace} (hs : P.underlying t = some (.struct fs)) (hone : oneCellFields P fs = true) (hC : P.cellsOf t = fs.size)
    (hv : Value.okWide P w r b0 t v) (h : DataW.Trod enc P w base spare held t v d p) :
    ∃ (cs : List Value) (ys : List (DataW H × List MemPlace)) (n : Nat), v = .agg ⟨cs⟩ ∧ cs.length = fs.size ∧ ys.length = fs.size ∧ d = .agg (ys.map (·.1)) ∧ p = ys.flatMap (·.2) ∧ Reads enc P w base spare held n fs.toList cs ys := by
  obtain ⟨cs, ys, n, h1, h2, h3, h4, h5, h6⟩ := open_fields hs hone hC hv h
  exact ⟨cs, ys, n, h1, h2, h3, h4, h5, reads_of (by simpa using h2) (by simpa using h3) fun j f c a b => h6 j f c (by simpa using a) b⟩
/-- .. and shut -/
theorem shut_struct {t : TypeId} {fs : Array Field} {cs : List Value} {ys : List (DataW H × List MemPlace)} (n : Nat) (hs : P.underlying t = some (.struct fs)) (hone : oneCellFields P fs = true) (hC : P.cellsOf t = fs.size)
    (h1 : cs.length = fs.size) (h2 : ys.length = fs.size) (h : Reads enc P w base spare held n fs.toList cs ys) : DataW.Trod enc P w base spare held t (.agg ⟨cs⟩) (.agg (ys.map (·.1))) (ys.flatMap (·.2)) :=
  shut_fields hs hone hC h1 h2 fun j f c y a b e => h.get j f c y (by simpa using a) b e
theorem trod_string1 {t : TypeId} {s : ByteArray} (ht : P.underlying t = some .string) (hs : s.size ≤ maxLen) : DataW.trod enc P w base spare held 1 t [.string s] = some (.lit (.string s.data.toList), []) := by simp [DataW.trod, ht, hs]
theorem trod_int1 {t : TypeId} {k : IntKind} {x : Int} (ht : P.underlying t = some (.int k)) (hx : (Lit.int k x).wf = true) : DataW.trod enc P w base spare held 1 t [.int k x] = some (.lit (.int k x), []) := by simp [DataW.trod, ht, hx]
theorem trod_bool1 {t : TypeId} {b : Bool} (ht : P.underlying t = some .bool) : DataW.trod enc P w base spare held 1 t [.bool b] = some (.lit (.bool b), []) := by simp [DataW.trod, ht]
theorem list1 {α : Type} {l : List α} (h : l.length = 1) : ∃ a, l = [a] := by
  match l, h with
  | [a], _ => exact ⟨a, rfl⟩
theorem list2 {α : Type} {l : List α} (h : l.length = 2) : ∃ a b, l = [a, b] := by
  match l, h with
  | [a, b], _ => exact ⟨a, b, rfl⟩
theorem list3 {α : Type} {l : List α} (h : l.length = 3) : ∃ a b c, l = [a, b, c] := by
  match l, h with
  | [a, b, c], _ => exact ⟨a, b, c, rfl⟩
theorem list4 {α : Type} {l : List α} (h : l.length = 4) : ∃ a b c d, l = [a, b, c, d] := by
  match l, h with
  | [a, b, c, d], _ => exact ⟨a, b, c, d, rfl⟩
theorem list5 {α : Type} {l : List α} (h : l.length = 5) : ∃ a b c d e, l = [a, b, c, d, e] := by
  match l, h with
  | [a, b, c, d, e], _ => exact ⟨a, b, c, d, e, rfl⟩
end
end Go.Proofs.Ytohhlkabejangaa.StructRow
