/- weirmem's mark of a number: a text. -/
import Derived.Test.YtcnebgokbjpjnaaGreatTab
import Derived.Test.YtcnebgokbjpjnaaGreatArith
import Derived.Test.YtcnebgokbjpjnaaGreatToText
set_option linter.unusedVariables false
set_option linter.unusedSimpArgs false
set_option maxRecDepth 100000
namespace Go.Proofs.YtcnebgokbjpjnaaGreat
open Go

def textN (i : Nat) : List Int := [IntKind.u8.wrap (IntKind.i64.wrap (97 + (i : Int).tmod 26)), IntKind.u8.wrap (IntKind.i64.wrap (97 + (IntKind.i64.wrap ((i : Int).tdiv 26)).tmod 26)), IntKind.u8.wrap (IntKind.i64.wrap (97 + (IntKind.i64.wrap ((i : Int).tdiv 676)).tmod 26))]
def textS (i : Nat) : ByteArray := ⟨#[109, 97, 114, 107, 32]⟩ ++ strOfNums (textN i)
theorem text_ok {w : World} {i : Nat} (hi : i ≤ 1099511627776) {R : VWK} (h : ∀ w', Grow w w' → R (.string (textS i)) w') : CallsV Tryz.prog 81 [.int .i64 (i : Int)] w R := by
  have g := Grow.alloc w (.cells #[.int .u8 (IntKind.u8.wrap (IntKind.i64.wrap (97 + (i : Int).tmod 26))), .int .u8 (IntKind.u8.wrap (IntKind.i64.wrap (97 + (IntKind.i64.wrap ((i : Int).tdiv 26)).tmod 26))), .int .u8 (IntKind.u8.wrap (IntKind.i64.wrap (97 + (IntKind.i64.wrap ((i : Int).tdiv 676)).tmod 26)))] 5)
  have hb := Blk.new' w 5 #[.int .u8 (IntKind.u8.wrap (IntKind.i64.wrap (97 + (i : Int).tmod 26))), .int .u8 (IntKind.u8.wrap (IntKind.i64.wrap (97 + (IntKind.i64.wrap ((i : Int).tdiv 26)).tmod 26))), .int .u8 (IntKind.u8.wrap (IntKind.i64.wrap (97 + (IntKind.i64.wrap ((i : Int).tdiv 676)).tmod 26)))]
  have hR := Rd.of_cells _ _ 3 _ _ hb rfl
  have hsz : (strOfNums (textN i)).size = 3 := strOfNums_size _
  refine calls_of_wpC mixed Tryz.func81 rfl (by kernel_rfl) ?_
  intro e he
  have he0 := he 0
  simp only [List.getD_cons_zero, List.getD_cons_succ] at he0
  clear he
  repeat (first | rw [c_seq] | simp -dsimp only [↓RE,RU,RL,if_true,if_false,forall_const,implies_true,Nat.reduceLeDiff,Nat.reduceLT,pureOp,binPure,intBin,strBin,eqPure,isConstO,unPure,sliceLo,sliceHi,slicePure,slice3Pure,lenPure,capPure,minPure,maxPure,buildP,resK,endV,yieldE,↓reduceIte,Nat.reduceEqDiff,reduceCtorEq,Nat.reduceAdd,Nat.reduceMul,Nat.reduceSub,Int.reduceLT,Int.reduceLE,Int.reduceToNat,Int.reduceAdd,Int.reduceSub,Int.reduceMul,ne_eq,decide_true,decide_false,tf81, he0])
  refine ⟨by decide, by decide, by decide, by decide, by decide, genK_totext (e := 5) (c := 3) (xs := textN i) rfl (by kernel_rfl) (by kernel_rfl) (by kernel_rfl) (by simp -dsimp only [↓RE,RU,RL,if_true,if_false,↓reduceIte,Nat.reduceEqDiff,reduceCtorEq,decide_true,decide_false, he0]) hR ?_⟩
  repeat (first | rw [c_seq] | simp -dsimp only [↓RE,RU,RL,if_true,if_false,forall_const,implies_true,Nat.reduceLeDiff,Nat.reduceLT,pureOp,binPure,intBin,strBin,eqPure,isConstO,unPure,sliceLo,sliceHi,slicePure,slice3Pure,lenPure,capPure,minPure,maxPure,buildP,resK,endV,yieldE,↓reduceIte,Nat.reduceEqDiff,reduceCtorEq,Nat.reduceAdd,Nat.reduceMul,Nat.reduceSub,Int.reduceLT,Int.reduceLE,Int.reduceToNat,Int.reduceAdd,Int.reduceSub,Int.reduceMul,ne_eq,decide_true,decide_false,tf81, he0])
  exact ⟨by rw [hsz]; decide, h _ g⟩

end Go.Proofs.YtcnebgokbjpjnaaGreat
