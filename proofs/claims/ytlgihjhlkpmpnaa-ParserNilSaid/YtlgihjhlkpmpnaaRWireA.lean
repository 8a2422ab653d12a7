import Derived.Test.YtlgihjhlkpmpnaaRWireEv
namespace Go.Proofs.Ytlgihjhlkpmpnaa.Wire
set_option linter.unusedVariables false
set_option linter.unusedSimpArgs false
open Go.RowKit Go.Proofs.YtlgihjhlkpmpnaaW.PrintWords Go.Proofs.YtlgihjhlkpmpnaaW.PrintLast Go.Proofs.YtlgihjhlkpmpnaaW.PrintMore Go.Proofs.Ytlgihjhlkpmpnaa.PWire

/-- a request but for its pairs -/
structure Rq where
  id : Int
  kind : Int
  label : Int
  pt : ByteArray
  pp : Int
  tt : ByteArray
  tp : Int
  sn : ByteArray
  sp : Int
  sa : Int
  ss : Int
  sc : Bool
  grp : ByteArray
  mem : ByteArray
  gen : Int
  off : Int
  most : Int
  prod : Int
  seq : Int
def rq0 (k i : Int) : Rq := ⟨i, k, 0, ⟨#[]⟩, 0, ⟨#[]⟩, 0, ⟨#[]⟩, 0, 0, 0, false, ⟨#[]⟩, ⟨#[]⟩, 0, 0, 0, 0, 0⟩
def Rq.v (x : Rq) (u : Value) : Value := .agg #[.int .i64 x.id, .int .i64 x.kind, .int .i64 x.label, .string x.pt, .int .i64 x.pp, .string x.tt, .int .i64 x.tp, .string x.sn, .int .i64 x.sp, .int .i64 x.sa, .int .i64 x.ss, .bool x.sc, .string x.grp, .string x.mem, .int .i64 x.gen, .int .i64 x.off, .int .i64 x.most, .int .i64 x.prod, .int .i64 x.seq, u]
/-- a field that is a number -/
def numF (x : Rq) (c : Int) : Int × Bool :=
  if c = 76 then (x.label, true) else if c = 80 then (x.pp, true) else if c = 79 then (x.off, true) else if c = 77 then (x.most, true) else if c = 69 then (x.gen, true) else if c = 82 then (x.prod, true) else if c = 83 then (x.seq, true) else if c = 112 then (x.tp, true) else (0, false)
/-- a field that is a text -/
def textF (x : Rq) (c : Int) : ByteArray × Bool :=
  if c = 84 then (x.pt, true) else if c = 71 then (x.grp, true) else if c = 78 then (x.mem, true) else if c = 116 then (x.tt, true) else (⟨#[]⟩, false)
def setNum (x : Rq) (c n : Int) : Rq :=
  if c = 76 then {x with label := n} else if c = 80 then {x with pp := n} else if c = 79 then {x with off := n} else if c = 77 then {x with most := n} else if c = 69 then {x with gen := n} else if c = 82 then {x with prod := n} else if c = 83 then {x with seq := n} else if c = 112 then {x with tp := n} else x
def setText (x : Rq) (c : Int) (s : ByteArray) : Rq :=
  if c = 84 then {x with pt := s} else if c = 71 then {x with grp := s} else if c = 78 then {x with mem := s} else if c = 116 then {x with tt := s} else x

set_option maxHeartbeats 8000000 in
set_option maxRecDepth 100000 in
theorem number_calls (x : Rq) (A : Option Addr) (n k : Nat) (c : Int) (w : World) :
    Calls Try.prog 62 #[.agg #[.int .i64 x.id, .int .i64 x.kind, .int .i64 x.label, .string x.pt, .int .i64 x.pp, .string x.tt, .int .i64 x.tp, .string x.sn, .int .i64 x.sp, .int .i64 x.sa, .int .i64 x.ss, .bool x.sc, .string x.grp, .string x.mem, .int .i64 x.gen, .int .i64 x.off, .int .i64 x.most, .int .i64 x.prod, .int .i64 x.seq, .slice A n k], .int .i32 c] w fun e w' => e = .returned (.tuple #[.int .i64 (numF x c).1, .bool (numF x c).2]) ∧ Below w.heap.size w w' := by
  unfold numF
  by_cases h76 : c = 76
  · subst h76
    go_enter Try.func62, Try.ntmps62
    go_wp2
    go_ret2
    exact ⟨rfl, (Below.refl _ _).alloc (Nat.le_refl _) _⟩
  by_cases h80 : c = 80
  · subst h80
    go_enter Try.func62, Try.ntmps62
    go_wp2
    go_ret2
    exact ⟨rfl, (Below.refl _ _).alloc (Nat.le_refl _) _⟩
  by_cases h79 : c = 79
  · subst h79
    go_enter Try.func62, Try.ntmps62
    go_wp2
    go_ret2
    exact ⟨rfl, (Below.refl _ _).alloc (Nat.le_refl _) _⟩
  by_cases h77 : c = 77
  · subst h77
    go_enter Try.func62, Try.ntmps62
    go_wp2
    go_ret2
    exact ⟨rfl, (Below.refl _ _).alloc (Nat.le_refl _) _⟩
  by_cases h69 : c = 69
  · subst h69
    go_enter Try.func62, Try.ntmps62
    go_wp2
    go_ret2
    exact ⟨rfl, (Below.refl _ _).alloc (Nat.le_refl _) _⟩
  by_cases h82 : c = 82
  · subst h82
    go_enter Try.func62, Try.ntmps62
    go_wp2
    go_ret2
    exact ⟨rfl, (Below.refl _ _).alloc (Nat.le_refl _) _⟩
  by_cases h83 : c = 83
  · subst h83
    go_enter Try.func62, Try.ntmps62
    go_wp2
    go_ret2
    exact ⟨rfl, (Below.refl _ _).alloc (Nat.le_refl _) _⟩
  by_cases h112 : c = 112
  · subst h112
    go_enter Try.func62, Try.ntmps62
    go_wp2
    go_ret2
    exact ⟨rfl, (Below.refl _ _).alloc (Nat.le_refl _) _⟩
  have e76 : (c == 76) = false := beq_eq_false_iff_ne.mpr h76
  rw [if_neg h76]
  have e80 : (c == 80) = false := beq_eq_false_iff_ne.mpr h80
  rw [if_neg h80]
  have e79 : (c == 79) = false := beq_eq_false_iff_ne.mpr h79
  rw [if_neg h79]
  have e77 : (c == 77) = false := beq_eq_false_iff_ne.mpr h77
  rw [if_neg h77]
  have e69 : (c == 69) = false := beq_eq_false_iff_ne.mpr h69
  rw [if_neg h69]
  have e82 : (c == 82) = false := beq_eq_false_iff_ne.mpr h82
  rw [if_neg h82]
  have e83 : (c == 83) = false := beq_eq_false_iff_ne.mpr h83
  rw [if_neg h83]
  have e112 : (c == 112) = false := beq_eq_false_iff_ne.mpr h112
  rw [if_neg h112]
  clear h76 h80 h79 h77 h69 h82 h83 h112
  go_enter Try.func62, Try.ntmps62
  go_wp2
  go_ret2
  exact ⟨rfl, (Below.refl _ _).alloc (Nat.le_refl _) _⟩

set_option maxHeartbeats 8000000 in
set_option maxRecDepth 100000 in
theorem text_calls (x : Rq) (A : Option Addr) (n k : Nat) (c : Int) (w : World) :
    Calls Try.prog 64 #[.agg #[.int .i64 x.id, .int .i64 x.kind, .int .i64 x.label, .string x.pt, .int .i64 x.pp, .string x.tt, .int .i64 x.tp, .string x.sn, .int .i64 x.sp, .int .i64 x.sa, .int .i64 x.ss, .bool x.sc, .string x.grp, .string x.mem, .int .i64 x.gen, .int .i64 x.off, .int .i64 x.most, .int .i64 x.prod, .int .i64 x.seq, .slice A n k], .int .i32 c] w fun e w' => e = .returned (.tuple #[.string (textF x c).1, .bool (textF x c).2]) ∧ Below w.heap.size w w' := by
  unfold textF
  by_cases h84 : c = 84
  · subst h84
    go_enter Try.func64, Try.ntmps64
    go_wp2
    go_ret2
    exact ⟨rfl, (Below.refl _ _).alloc (Nat.le_refl _) _⟩
  by_cases h71 : c = 71
  · subst h71
    go_enter Try.func64, Try.ntmps64
    go_wp2
    go_ret2
    exact ⟨rfl, (Below.refl _ _).alloc (Nat.le_refl _) _⟩
  by_cases h78 : c = 78
  · subst h78
    go_enter Try.func64, Try.ntmps64
    go_wp2
    go_ret2
    exact ⟨rfl, (Below.refl _ _).alloc (Nat.le_refl _) _⟩
  by_cases h116 : c = 116
  · subst h116
    go_enter Try.func64, Try.ntmps64
    go_wp2
    go_ret2
    exact ⟨rfl, (Below.refl _ _).alloc (Nat.le_refl _) _⟩
  have e84 : (c == 84) = false := beq_eq_false_iff_ne.mpr h84
  rw [if_neg h84]
  have e71 : (c == 71) = false := beq_eq_false_iff_ne.mpr h71
  rw [if_neg h71]
  have e78 : (c == 78) = false := beq_eq_false_iff_ne.mpr h78
  rw [if_neg h78]
  have e116 : (c == 116) = false := beq_eq_false_iff_ne.mpr h116
  rw [if_neg h116]
  clear h84 h71 h78 h116
  go_enter Try.func64, Try.ntmps64
  go_wp2
  go_ret2
  exact ⟨rfl, (Below.refl _ _).alloc (Nat.le_refl _) _⟩

end Go.Proofs.Ytlgihjhlkpmpnaa.Wire
