import Derived.Test.YteopponjfkeagaaLat13
import Derived.Test.YteopponjfkeagaaLat23
namespace Go.Proofs.Yteopponjfkeagaa.Lat
open Go.RowKit Go.Maps Go.Proofs.YteopponjfkeagaaW.PrintWords Go.Proofs.YteopponjfkeagaaW.PrintLast Go.Proofs.YteopponjfkeagaaW.PrintMore Go.Proofs.Yteopponjfkeagaa.PLattice
set_option linter.unusedVariables false
set_option linter.unusedSimpArgs false

theorem WrongIs.one {f : List (List Bool)} {r r' : Int} (h : WrongIs f r) (h' : WrongIs f r') : r = r' := by
  rcases h with ⟨a, rfl⟩ | ⟨a, b, rfl⟩ | ⟨a, b, c, rfl⟩ | ⟨a, b, c, d, rfl⟩ <;> rcases h' with ⟨a', rfl⟩ | ⟨a', b', rfl⟩ | ⟨a', b', c', rfl⟩ | ⟨a', b', c', d', rfl⟩ <;>
    first | rfl | exact absurd ‹sq f› ‹¬ sq f› | exact absurd ‹orderP _ _› ‹¬ orderP _ _› | exact absurd ⟨‹full _ (lt _ _)›, ‹full _ (gt _ _)›⟩ ‹¬ (full _ _ ∧ full _ _)›
/-- what New tells, beside what is wrong -/
theorem news_tells {f : List (List Bool)} {e : Ending} {w' : World} (h : NewTells f e w') :
    ∃ (o : Option Addr) (r : Int), e = .returned (.tuple #[.pointer o, .int .i64 r]) ∧ WrongIs f r ∧ ((o = none ∧ (r = 1 ∨ r = 4 ∨ r = 6)) ∨ (r = 0 ∧ ∃ g, o = some ⟨g, 0, none⟩ ∧ IsLat w' g f.length (flR f f.length))) := by
  rcases h with ⟨a, rfl⟩ | ⟨a, b, rfl⟩ | ⟨a, b, c, rfl⟩ | ⟨a, b, c, d, g, rfl, hl⟩
  · exact ⟨none, 1, rfl, .inl ⟨a, rfl⟩, .inl ⟨rfl, .inl rfl⟩⟩
  · exact ⟨none, 4, rfl, .inr (.inl ⟨a, b, rfl⟩), .inl ⟨rfl, .inr (.inl rfl)⟩⟩
  · exact ⟨none, 6, rfl, .inr (.inr (.inl ⟨a, b, c, rfl⟩)), .inl ⟨rfl, .inr (.inr rfl)⟩⟩
  · exact ⟨_, 0, rfl, .inr (.inr (.inr ⟨a, b, c, d, rfl⟩)), .inr ⟨rfl, g, rfl, hl⟩⟩
/-- just if nothing is wrong: a table that is one, an order, and has all joins and meets -/
structure Good (f : List (List Bool)) : Prop where
  s : sq f
  o : orderP f.length (flR f f.length)
  j : full f.length (lt f.length (flR f f.length))
  m : full f.length (gt f.length (flR f f.length))
theorem WrongIs.good {f : List (List Bool)} (h : WrongIs f 0) : Good f := by
  rcases h with ⟨a, h⟩ | ⟨a, b, h⟩ | ⟨a, b, c, h⟩ | ⟨a, b, c, d, _⟩
  · exact absurd h (by decide)
  · exact absurd h (by decide)
  · exact absurd h (by decide)
  · exact ⟨a, b, c, d⟩
theorem Good.new {f : List (List Bool)} (h : Good f) {e : Ending} {w' : World} (hn : NewTells f e w') : ∃ g, e = .returned (.tuple #[P g, .int .i64 0]) ∧ IsLat w' g f.length (flR f f.length) := by
  rcases hn with ⟨a, _⟩ | ⟨_, b, _⟩ | ⟨_, _, c, _⟩ | ⟨_, _, _, _, hn⟩
  · exact absurd h.s a
  · exact absurd h.o b
  · exact absurd ⟨h.j, h.m⟩ c
  · exact hn
set_option maxHeartbeats 4000000 in
theorem news_core {A : Option Addr} {c : Nat} (f : List (List Bool)) (w : World) (hC : Kd.C (Kd.slice 4 Kd.bool) w A f.length f) (hc : f.length ≤ c) :
    Calls Try.prog 3 #[.slice A f.length c] w fun e w' => e = .returned (.bool true) ∧ Below w.heap.size w w' := by
  obtain ⟨k, r, hr, h40⟩ := large_f f (Kd.C_max hC)
  have HC := Aside0.mk hC
  have HK := Aside0.mk hr
  have H40 := Aside0.mk h40
  clear hC hr h40
  go_enter Try.func3, Try.ntmps3
  go_wp2_with fail
  refine (weighlocklaw04_large.calls k A c f r w HC.out hc HK.out).mono ?_
  rintro e w1 ⟨rfl, hd⟩
  have HB := Aside0.mk hd.below
  clear hd
  cases r
  · go_wp2_with fail
    refine (New_calls f (Kd.C_below HC.out HB.out)).mono ?_
    rintro e w2 ⟨hnew, hb⟩
    replace HB := Aside0.mk (below_step HB.out hb)
    clear hb
    obtain ⟨o, r, rfl, hw, ho⟩ := news_tells hnew
    obtain ⟨r', hr', hw'⟩ := Wrong_f f (H40.out trivial)
    obtain rfl := hw.one hw'
    have HR := Aside0.mk hr'
    clear hw hw' hr' hnew
    go_wp2_with fail
    refine (weighlockref04_Wrong.calls 400 A c f r _ (Kd.C_below HC.out HB.out) hc HR.out).mono ?_
    rintro e w3 ⟨rfl, hd⟩
    replace HB := Aside0.mk (below_step HB.out hd)
    clear hd HR H40 HK
    have fin : ∀ W, Below w.heap.size w W → Calls Try.prog 16 #[] W fun e w' => e = .returned (.bool true) ∧ Below w.heap.size w w' := fun W hW => (four_calls W).mono fun e w' h => ⟨h.1, below_step hW h.2⟩
    have FIN := Aside0.mk fin
    clear fin
    rcases ho with ⟨rfl, rfl | rfl | rfl⟩ | ⟨rfl, g, rfl, hl⟩
    all_goals
      go_wp2_with fail
      refine (FIN.out _ HB.out).mono ?_
      rintro e w4 ⟨rfl, hb⟩
      go_wp2_with fail
      go_ret
      exact ⟨rfl, hb⟩
  · go_wp2_with fail
    refine (four_calls _).mono ?_
    rintro e w2 ⟨rfl, hb⟩
    replace HB := Aside0.mk (below_step HB.out hb)
    clear hb
    go_wp2_with fail
    go_ret
    exact ⟨rfl, HB.out⟩
theorem news_walk (a0 : Option Addr) (len0 cap0 : Nat) (z0 : List (List Bool)) (w : World) (w0 : z0.length = len0 ∧ len0 ≤ cap0 ∧ Kd.C (Kd.slice 4 Kd.bool) w a0 len0 z0) : Calls Try.prog 3 #[.slice a0 len0 cap0] w fun e w' => e = .returned (.bool true) ∧ Below w.heap.size w w' := by
  obtain ⟨rfl, h1, h2⟩ := w0
  exact news_core z0 w h2 h1
end Go.Proofs.Yteopponjfkeagaa.Lat
