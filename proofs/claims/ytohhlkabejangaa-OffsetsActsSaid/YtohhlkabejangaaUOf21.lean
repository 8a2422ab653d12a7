import Derived.Test.YtohhlkabejangaaUOf20
import Derived.Test.YtohhlkabejangaaUOfG
-- halved
namespace Go.Proofs.Ytohhlkabejangaa.Of
set_option linter.unusedVariables false
set_option linter.unusedSimpArgs false
open Go.RowKit Go.Maps Go.Sort Go.Lib Go.Shelf Go.Proofs.YtohhlkabejangaaW.PrintWords Go.Proofs.YtohhlkabejangaaW.PrintLast Go.Proofs.YtohhlkabejangaaW.PrintMore Go.Proofs.Ytohhlkabejangaa.Hand Go.Proofs.Ytohhlkabejangaa.POf Go.Proofs.Ytohhlkabejangaa.Wire
open Go.Proofs.YtohhlkabejangaaW.PrintWords.Kd renaming R_below → zrB, R_mono → zrM
structure Ls (W : World) (base : Nat) (A : Option Addr) (c : Nat) (T : List Rw) : Prop where
 own : Kd.R k166 166 W base (fun _ => True) (.slice A T.length c) (lS T)
theorem Ls.c {W : World} {base : Nat} {A : Option Addr} {c : Nat} {T : List Rw} (h : Ls W base A c T) : T.length ≤ c := (Kd.R_reads' h.own).2.1
theorem Ls.r {W : World} {base : Nat} {A : Option Addr} {c : Nat} {T : List Rw} (h : Ls W base A c T) : Kd.C k166 W A T.length (lS T) := by
 have := (Kd.R_reads' h.own).2.2
 rwa [lS_len] at this
theorem Ls.later {W W' : World} {base : Nat} {A : Option Addr} {c : Nat} {T : List Rw} (h : Ls W base A c T) (k : Below W.heap.size W W') : Ls W' base A c T := ⟨zrB h.own k⟩
theorem Ls.map {W W' : World} {base b : Nat} {A : Option Addr} {c : Nat} {T : List Rw} (h : Ls W base A c T) (hm : ∀ cells t f, W.heap[b]? ≠ some (.cells cells t f)) (hg : W.grownBy W' (some b)) : Ls W' base A c T :=
 ⟨zrM (Kd.R_step (Kd.R_bound h.own) (fun i hi hlt => hg.block i hlt (fun e => by
  obtain ⟨_, _, _, t, _, cells, hc⟩ := hi
  rw [Option.some.inj e] at hc
  exact hm _ _ _ hc))) (fun _ _ => trivial)⟩
theorem Ls.nil (W : World) (base : Nat) : Ls W base none 0 [] := ⟨Kd.R_nil _ _ _ _ _⟩
theorem Tab.at_blocks {W W' : World} {a b : Nat} {T : List Rw} (h : Tab W a b T) (ha : W'.heap[a]? = W.heap[a]?) (hb : W'.heap[b]? = W.heap[b]?) : Tab W' a b T := by
 obtain ⟨n, D, ⟨es, clock, h1, h2⟩, h3⟩ := h.own
 exact ⟨ha.trans h.cell, n, D, ⟨es, clock, hb.trans h1, h2⟩, h3⟩
theorem rapply_calls (w0 W : World) (T : List Rw) (hn : T.length ≤ 45) (hok : okT T) (hr : T.Pairwise (fun a b => kLt a.k b.k)) (A : Option Addr) (c : Nat) (kind : Int) (s : ByteArray) (hs : s.size ≤ 400) (hB : Below w0.heap.size w0 W) (hL : Ls W w0.heap.size A c T) :
  Calls Try.prog 51 #[.slice A T.length c, .agg #[.int .i64 kind, .string s]] W fun e w' => ∃ A' c', e = .returned (.agg #[.slice A' (appT T kind s).length c', .bool (appB T kind s)]) ∧ Ls w' w0.heap.size A' c' (appT T kind s) ∧ Below w0.heap.size w0 w' ∧
   (∀ (i : Nat) (o : Obj), W.heap[i]? = some o → (∀ cells : Array Value, o ≠ Obj.cells cells 166 (0, 0)) → w'.heap[i]? = some o) := by
 have ho : Kd.R k166 166 W w0.heap.size (fun i => ∃ cells, W.heap[i]? = some (.cells cells 166 (0, 0))) (.slice A T.length c) (lS T) :=
  zrM (Kd.R_bound hL.own) (fun i hi => by
   obtain ⟨_, _, _, t, ht, cells, hc⟩ := hi
   have hE : (k166).E = [] := rfl
   rw [hE] at ht
   obtain rfl := List.mem_singleton.1 ht
   exact ⟨cells, hc⟩)
 refine (weighlockref24_Apply.calls 1200 _ _ (lS T) kind s _ _ w0 W hB ho (rapply_f T hn hok hr kind s hs)).mono ?_
 rintro e w' ⟨v, rfl, hR, hb, hk⟩
 obtain ⟨A', c', rfl, hc', hC'⟩ := Kd.R_reads hR
 rw [lS_len] at hR
 refine ⟨A', c', by rw [lS_len], ⟨zrM hR (fun _ _ => trivial)⟩, hb, fun i o hi hne => ?_⟩
 exact (hk.2 i (Array.getElem?_eq_some_iff.1 hi).1 (fun ⟨cells, hc⟩ => by
  rw [hi] at hc
  exact hne cells (Option.some.inj hc))).trans hi
theorem rentry_calls (T : List Rw) (hn : T.length ≤ 45) (hok : okT T) (A : Option Addr) (c : Nat) (kind n : Int) (k0 k1 : ByteArray) (k2 fk : Int) (fp : ByteArray) (h0 : k0.size ≤ 100) (h1 : k1.size ≤ 100) (W : World) (hC : Kd.C k166 W A T.length (lS T)) (hc : T.length ≤ c) :
  Calls Try.prog 50 #[.slice A T.length c, .agg #[.int .i64 kind, .int .i64 n, .string k0, .string k1, .int .i64 k2, .int .i64 fk, .string fp]] W fun e w' => e = .returned (.agg #[.int .i64 (madE T kind n k0 k1 k2 fk fp).kind, .string (madE T kind n k0 k1 k2 fk fp).pl, .int .i64 (madE T kind n k0 k1 k2 fk fp).err]) ∧ Below W.heap.size W w' := by
 have h := weighlocklaw24_entry.calls 1200 A c (lS T) kind n k0 k1 k2 fk fp _ _ _ W (by rw [lS_len]; exact hC) (by rw [lS_len]; exact hc) (rentryA_f T hn hok kind n k0 k1 k2 fk fp h0 h1)
 rw [lS_len] at h
 exact h
theorem rfind_calls (T : List Rw) (hn : T.length ≤ 45) (A : Option Addr) (c : Nat) (g t : ByteArray) (p : Int) (W : World) (hC : Kd.C k166 W A T.length (lS T)) (hc : T.length ≤ c) :
  Calls Try.prog 52 #[.slice A T.length c, .string g, .agg #[.string t, .int .i64 p]] W fun e w' => e = .returned (.int .i64 (findT T ⟨g, t, p⟩)) ∧ Below W.heap.size W w' := by
 have h := weighlockref24_Find.calls 200 A c (lS T) g t p _ W (by rw [lS_len]; exact hC) (by rw [lS_len]; exact hc) (rfind_f T (by omega) g t p 200 (by omega))
 rw [lS_len] at h
 refine h.mono ?_
 rintro e w' h
 first
  | exact h
  | (obtain ⟨rfl, ⟨nd, rfl⟩⟩ := h; exact ⟨rfl, pw_below_drewN (Below.refl _ _) nd⟩)
theorem at_fr {w : World} {A : Option Addr} {n : Nat} {T : List Rw} (h : Kd.C k79 w A n (T.map frT)) (i : Nat) (hi : i < n) (hx : i < T.length) :
  ∃ ad, A = some ad ∧ (∀ (j : Nat) (u : Value), (#[.int .i64 1, .string (entS T[i].k.g T[i].k.t T[i].k.p T[i].v)] : Array Value)[j]? = some u → w.cell? ((ad.add (i * 2)).add j) = some u) := by
 obtain ⟨ad, c, e, hs, hK, hc⟩ := Kd.C_get h z79 (i : Int) (by omega) (by omega)
 have hq := k79_open hK
 rw [Int.toNat_natCast] at hc hq
 have hgd : (T.map frT).getD i z79 = frT T[i] := by rw [List.getD_eq_getElem?_getD, List.getElem?_map, List.getElem?_eq_getElem hx]; rfl
 rw [hgd] at hq
 subst hq
 refine ⟨ad, e, fun j u hu => ?_⟩
 rw [Go.Deep.add_add]
 exact hc j u (by simpa [frT] using hu)
end Go.Proofs.Ytohhlkabejangaa.Of
