import Derived.Test.YtlgihjhlkpmpnaaZWireQ
import Derived.Test.YtlgihjhlkpmpnaaZWireO
namespace Go.Proofs.Ytlgihjhlkpmpnaa.Wire
set_option linter.unusedVariables false
set_option linter.unusedSimpArgs false
open Go.RowKit Go.Proofs.YtlgihjhlkpmpnaaW.PrintWords Go.Proofs.YtlgihjhlkpmpnaaW.PrintLast Go.Proofs.YtlgihjhlkpmpnaaW.PrintMore Go.Proofs.Ytlgihjhlkpmpnaa.Hand Go.Proofs.Ytlgihjhlkpmpnaa.PWire Go.Proofs.Ytlgihjhlkpmpnaa.PureNums
theorem ba_ext {a b : ByteArray} (h : a.data.toList = b.data.toList) : a = b := by
  apply ByteArray.ext
  exact Array.toList_inj.1 h
theorem ext_list (s : ByteArray) (a b : Nat) : (s.extract a b).data.toList = (s.data.toList.drop a).take (b - a) := by
  rw [ByteArray.data_extract]
  simp
theorem let76 (x : Rq) (l : List S102) : letterS x l 76 = chainS x.label := rfl
theorem let80 (x : Rq) (l : List S102) : letterS x l 80 = chainS x.pp := rfl
theorem let79 (x : Rq) (l : List S102) : letterS x l 79 = chainS x.off := rfl
theorem let77 (x : Rq) (l : List S102) : letterS x l 77 = chainS x.most := rfl
theorem let69 (x : Rq) (l : List S102) : letterS x l 69 = chainS x.gen := rfl
theorem let82 (x : Rq) (l : List S102) : letterS x l 82 = chainS x.prod := rfl
theorem let83 (x : Rq) (l : List S102) : letterS x l 83 = chainS x.seq := rfl
theorem let112 (x : Rq) (l : List S102) : letterS x l 112 = chainS x.tp := rfl
theorem let84 (x : Rq) (l : List S102) : letterS x l 84 = textS x.pt := rfl
theorem let71 (x : Rq) (l : List S102) : letterS x l 71 = textS x.grp := rfl
theorem let78 (x : Rq) (l : List S102) : letterS x l 78 = textS x.mem := rfl
theorem let116 (x : Rq) (l : List S102) : letterS x l 116 = textS x.tt := rfl
theorem let66 (x : Rq) (l : List S102) : letterS x l 66 = chainS (l.length : Int) ++ pairsS l := rfl
end Go.Proofs.Ytlgihjhlkpmpnaa.Wire
