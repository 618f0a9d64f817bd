/- A calculus of one's own over the kit's weakest preconditions: frames as functions from slots to values, pure operations by evaluation, memory operations as conditions on cells. -/
import Derived.WalkKit
import Derived.Stop.Asserts
import Derived.Laws.Externs
import Derived.OrdersHeld
import Derived.Still
import Derived.StillTail
import Derived.Deep.Draws
set_option linter.unusedVariables false
set_option linter.unusedSimpArgs false
namespace Go.Proofs.YtcnebgokbjpjnaaGreat
open Go

/-! ### frames as functions -/

abbrev Env := Nat → Value
def upd (e : Env) (d : Nat) (v : Value) : Env := fun i => if i = d then v else e i
theorem upd_at (e : Env) (d : Nat) (v : Value) (i : Nat) : upd e d v i = if i = d then v else e i := rfl
def put (e : Env) (dst : Option Tmp) (v : Value) : Env := match dst with | some d => upd e d v | none => e
theorem put_some (e : Env) (d : Nat) (v : Value) : put e (some d) v = upd e d v := rfl
theorem put_none (e : Env) (v : Value) : put e none v = e := rfl
def ev (e : Env) : Operand → Value
  | .tmp t => e t
  | .const v => v
  | .global g => .pointer (some ⟨g, 0, none⟩)
  | .func f => .func (.func f) #[] #[]
theorem ev_tmp (e : Env) (t : Nat) : ev e (.tmp t) = e t := rfl
theorem ev_const (e : Env) (v : Value) : ev e (.const v) = v := rfl
theorem ev_func (e : Env) (f : Nat) : ev e (.func f) = .func (.func f) #[] #[] := rfl
theorem ev_global (e : Env) (g : Nat) : ev e (.global g) = .pointer (some ⟨g, 0, none⟩) := rfl

def envOf (a : Act) : Env := fun i => a.tmps.getD i undef
theorem eval_envOf (a : Act) : a.eval = ev (envOf a) := by funext x; cases x <;> rfl
theorem put_size (a : Act) (dst : Option Tmp) (v : Value) : (a.put dst v).tmps.size = a.tmps.size := by
  cases dst <;> simp [Act.put]
theorem put_defers' (a : Act) (dst : Option Tmp) (v : Value) : (a.put dst v).defers = a.defers := by
  cases dst <;> simp [Act.put]
theorem envOf_put {a : Act} {dst : Option Tmp} {v : Value} (h : ∀ d, dst = some d → d < a.tmps.size) : envOf (a.put dst v) = put (envOf a) dst v := by
  cases dst with
  | none => rfl
  | some d =>
    funext i
    have hd := h d rfl
    simp only [envOf, Act.put, put, upd, Array.getD_eq_getD_getElem?]
    by_cases hi : i = d
    · subst hi; simp [hd]
    · rw [if_neg hi, Array.getElem?_setIfInBounds_ne (by omega)]

/-! ### what is asked of the program's tables: closed facts -/

def isAggT (P : Program) (t : TypeId) : Option Bool :=
  match P.underlying t with
  | some (.struct _) | some (.array _ _) => some true
  | some _ => some false
  | none => none
def cellsT (P : Program) (t : TypeId) : Option Nat := (P.info? t).map (·.size)
def bytesT (P : Program) (t : TypeId) : Option Nat := (P.info? t).map (·.bytes)
def zeroT (P : Program) (t : TypeId) : Option Value := (P.info? t).bind (·.zero)
/-- where a field lies: only fields that have cells. -/
def fieldOff (P : Program) (s : TypeId) (f : Nat) : Option Nat :=
  match P.underlying s with
  | some (.struct fs) => match fs[f]? with
    | some fd => match cellsT P fd.type with
      | some (_ + 1) => some fd.offset
      | _ => none
    | none => none
  | _ => none
/-- a field of a struct value: its cells' place, their number, and whether it is a struct or an array. -/
def fieldAt (P : Program) (s : TypeId) (f : Nat) : Option (Nat × Nat × Bool) :=
  match P.underlying s with
  | some (.struct fs) => match fs[f]? with
    | some fd => match cellsT P fd.type, isAggT P fd.type with
      | some n, some g => some (fd.offset, n, g)
      | _, _ => none
    | none => none
  | _ => none
inductive IxT where
  | arr (len size : Nat) (agg : Bool)
  | sl (size : Nat)
  | str
def indexT (P : Program) (t : TypeId) : Option IxT :=
  match P.underlying t with
  | some (.array n e) => match cellsT P e, isAggT P e with
    | some s, some g => some (.arr n s g)
    | _, _ => none
  | some (.slice e) => (cellsT P e).map .sl
  | some .string => some .str
  | _ => none
/-- the element's type of a slice type. -/
def elemT (P : Program) (t : TypeId) : Option TypeId :=
  match P.underlying t with
  | some (.slice e) => some e
  | _ => none
inductive CvT where
  | toInt (k : IntKind)
  | strStr
  | other
def convT (P : Program) (s d : TypeId) : CvT :=
  match P.underlying s, P.underlying d with
  | some _, some (.int k) => .toInt k
  | some _, some .string => .strStr
  | _, _ => .other
def ifaceT (P : Program) (t : TypeId) : Option Bool :=
  match P.underlying t with
  | some (.interface _) => some true
  | some _ => some false
  | none => none
inductive LenT where
  | str | sl | arr (n : Nat) | other
def lenT (P : Program) (t : TypeId) : LenT :=
  match P.underlying t with
  | some .string => .str
  | some (.slice _) => .sl
  | some (.array n _) => .arr n
  | _ => .other
inductive EqT where
  | bool | ptr | sl | iface | struct | map | other
def eqT (P : Program) (t : TypeId) : EqT :=
  match P.underlying t with
  | some .bool => .bool
  | some (.pointer _) => .ptr
  | some (.slice _) => .sl
  | some (.interface _) => .iface
  | some (.struct _) => .struct
  | some (.map _ _) => .map
  | _ => .other
def callable (P : Program) (g : FuncId) : Bool :=
  match P.funcs[g]? with
  | some fn => !(fn.name == "runtime.NumGoroutine") && fn.body.isSome
  | none => false

/-! ### pure operations -/

def bitsOp (op : BinOp) (k : IntKind) (a b : Int) : Int :=
  k.wrap ((match op with
    | .and => BitVec.ofInt k.bits a &&& BitVec.ofInt k.bits b
    | .or => BitVec.ofInt k.bits a ||| BitVec.ofInt k.bits b
    | .xor => BitVec.ofInt k.bits a ^^^ BitVec.ofInt k.bits b
    | _ => BitVec.ofInt k.bits a &&& ~~~(BitVec.ofInt k.bits b)).toNat : Int)
def shlOp (k : IntKind) (a b : Int) : Int := k.wrap (a * 2 ^ (Nat.min b.toNat k.bits))
def shrOp (k : IntKind) (a b : Int) : Int := a.fdiv (2 ^ (Nat.min b.toNat k.bits))

def intBin (op : BinOp) (k : IntKind) (a b : Int) : Option Value :=
  match op with
  | .add => some (.int k (k.wrap (a + b)))
  | .sub => some (.int k (k.wrap (a - b)))
  | .mul => some (.int k (k.wrap (a * b)))
  | .quo => if b = 0 then none else some (.int k (k.wrap (a.tdiv b)))
  | .rem => if b = 0 then none else some (.int k (a.tmod b))
  | .and => some (.int k (bitsOp .and k a b))
  | .or => some (.int k (bitsOp .or k a b))
  | .xor => some (.int k (bitsOp .xor k a b))
  | .andNot => some (.int k (bitsOp .andNot k a b))
  | .eql => some (.bool (decide (a = b)))
  | .neq => some (.bool (!decide (a = b)))
  | .lss => some (.bool (decide (a < b)))
  | .leq => some (.bool (decide (a ≤ b)))
  | .gtr => some (.bool (decide (b < a)))
  | .geq => some (.bool (decide (b ≤ a)))
  | _ => none
def strBin (op : BinOp) (a b : ByteArray) : Option Value :=
  match op with
  | .eql => some (.bool (a.toList == b.toList))
  | .neq => some (.bool !(a.toList == b.toList))
  | .lss => some (.bool (Op.bytesLess a.toList b.toList))
  | .leq => some (.bool (Op.bytesLess a.toList b.toList || a.toList == b.toList))
  | .gtr => some (.bool !(Op.bytesLess a.toList b.toList || a.toList == b.toList))
  | .geq => some (.bool !(Op.bytesLess a.toList b.toList))
  | .add => if ((a.size + b.size : Nat) : Int) > 9223372036854775807 then none else some (.string (a ++ b))
  | _ => none
/-- '==' of what is neither two numbers nor two strings. -/
def eqPure (P : Program) (t : TypeId) (x y : Value) : Option Bool :=
  match eqT P t, x, y with
  | .bool, .bool a, .bool b => some (a == b)
  | .ptr, .pointer none, .pointer b => some b.isNone
  | .ptr, .pointer (some _), .pointer none => some false
  | .sl, .slice none _ _, .slice b _ _ => some b.isNone
  | .sl, .slice (some _) _ _, .slice none _ _ => some false
  | .iface, .iface _ _, .nilIface => some false
  | .iface, .nilIface, .iface _ _ => some false
  | .map, .map none, .map b => some b.isNone
  | .map, .map (some _), .map none => some false
  | _, _, _ => none
/-- a part of a struct value. -/
def partP (P : Program) (t : TypeId) (cs : Array Value) (off : Nat) : Option Value :=
  match isAggT P t, cellsT P t with
  | some true, some n => some (.agg (cs.extract off (off + n)))
  | some false, _ => cs[off]?
  | _, _ => none
def eqFs (P : Program) (r : TypeId → Value → Value → Option Bool) (xs ys : Array Value) : List Field → Option Bool
  | [] => some true
  | f :: fs => if f.name = "_" then eqFs P r xs ys fs else
    match partP P f.type xs f.offset, partP P f.type ys f.offset with
    | some a, some b => match r f.type a b with
      | some true => eqFs P r xs ys fs
      | some false => some false
      | none => none
    | _, _ => none
/-- '==' of structs of numbers, bools, strings and such structs. -/
def eqDeep (P : Program) : Nat → TypeId → Value → Value → Option Bool
  | 0, _, _, _ => none
  | n + 1, t, x, y => match P.underlying t, x, y with
    | some .bool, .bool a, .bool b => some (a == b)
    | some (.int _), .int k a, .int k' b => if k = k' then some (decide (a = b)) else none
    | some .string, .string a, .string b => some (a.toList == b.toList)
    | some (.struct fs), .agg xs, .agg ys => if P.stoodInHeld t then none else eqFs P (eqDeep P n) xs ys fs.toList
    | _, _, _ => none
def eqAgg (P : Program) (t : TypeId) (x y : Value) : Option Bool := if P.eqGuardType P.depth t then none else eqDeep P 8 t x y
def isConstO : Operand → Bool
  | .const _ => true
  | _ => false
def binPure (P : Program) (op : BinOp) (t : TypeId) (xo yo : Operand) (x y : Value) : Option Value :=
  match x, y with
  | .int k a, .int k' b => match op with
    | .shl => if b < 0 then none else some (.int k (shlOp k a b))
    | .shr => if b < 0 then none else some (.int k (shrOp k a b))
    | _ => if k = k' then intBin op k a b else none
  | .string a, .string b => strBin op a b
  | .nilIface, .nilIface => match op, eqT P t with
    | .eql, .iface => if isConstO xo || isConstO yo then some (.bool true) else none
    | .neq, .iface => if isConstO xo || isConstO yo then some (.bool false) else none
    | _, _ => none
  | .agg xs, .agg ys => match op with
    | .eql => (eqAgg P t (.agg xs) (.agg ys)).map .bool
    | .neq => (eqAgg P t (.agg xs) (.agg ys)).map fun b => .bool !b
    | _ => none
  | x, y => match op with
    | .eql => (eqPure P t x y).map .bool
    | .neq => (eqPure P t x y).map fun b => .bool !b
    | _ => none
/-- a struct or array literal: the zero cells, and where each part lies. -/
def buildT (P : Program) (t : TypeId) : Option (Array Value × List (Nat × Nat)) :=
  match zeroT P t, P.underlying t with
  | some z, some (.struct fs) => (fs.toList.mapM fun f => (cellsT P f.type).map fun n => (f.offset, n)).map fun l => (z.cells, l)
  | some z, some (.array n e) => (cellsT P e).map fun s => (z.cells, (List.range n).map fun i => (i * s, s))
  | _, _ => none
def buildP (P : Program) (t : TypeId) (parts : List (Nat × Value)) : Option Value :=
  match buildT P t with
  | some (z, pl) => (Instr.fill (fun i => pl[i]?) z parts).map .agg
  | none => none
/-- a slice literal's elements' type, their size, the zero cells. -/
def bsT (P : Program) (t : TypeId) (len : Nat) : Option (TypeId × Nat × Array Value) :=
  match P.underlying t with
  | some (.slice e) => match cellsT P e, zeroT P e with
    | some s, some z => if len * s > 16777216 then none else some (e, s, (Array.range (len * s)).map (fun i => z.cells[i % z.cells.size]!))
    | _, _ => none
  | _ => none
def assertT (P : Program) (t : TypeId) : Option Value :=
  match P.underlying t with
  | some (.interface _) => none
  | some _ => zeroT P t
  | none => none
def unPure (op : UnOp) (x : Value) : Option Value :=
  match op, x with
  | .neg, .int k n => some (.int k (k.wrap (0 - n)))
  | .xor, .int k n => some (.int k (bitsOp .xor k (if k.signed then -1 else k.max) n))
  | .not, .bool b => some (.bool !b)
  | _, _ => none
def sliceLo : Option Value → Option Int
  | none => some 0
  | some (.int _ i) => some i
  | _ => none
def sliceHi (n : Nat) : Option Value → Option Int
  | none => some n
  | some (.int _ i) => some i
  | _ => none
def slicePure (P : Program) (t : TypeId) (x : Value) (lo hi : Option Value) : Option Value :=
  match indexT P t, x with
  | some .str, .string s => match sliceLo lo, sliceHi s.size hi with
    | some l, some h => if 0 ≤ l ∧ l ≤ h ∧ h ≤ s.size then some (.string (s.extract l.toNat h.toNat)) else none
    | _, _ => none
  | some (.sl sz), .slice a len cap => match sliceLo lo, sliceHi len hi with
    | some l, some h => if 0 ≤ l ∧ l ≤ h ∧ h ≤ cap then some (.slice (if cap = l.toNat then a else a.map (·.add (l.toNat * sz))) (h.toNat - l.toNat) (cap - l.toNat)) else none
    | _, _ => none
  | some (.arr n sz _), .pointer (some a) => match sliceLo lo, sliceHi n hi with
    | some l, some h => if 0 ≤ l ∧ l ≤ h ∧ h ≤ n then some (.slice (some (if n = l.toNat then a else a.add (l.toNat * sz))) (h.toNat - l.toNat) (n - l.toNat)) else none
    | _, _ => none
  | _, _ => none
/-- s[l:h:m]. -/
def slice3Pure (P : Program) (t : TypeId) (x : Value) (lo : Option Value) (hi mx : Value) : Option Value :=
  match indexT P t, x with
  | some (.sl sz), .slice a _ cap => match sliceLo lo, hi, mx with
    | some l, .int _ h, .int _ m => if 0 ≤ l ∧ l ≤ h ∧ h ≤ m ∧ m ≤ cap then some (.slice (if m.toNat = l.toNat then a else a.map (·.add (l.toNat * sz))) (h.toNat - l.toNat) (m.toNat - l.toNat)) else none
    | _, _, _ => none
  | _, _ => none
def lenPure (P : Program) (t : TypeId) (x : Value) : Option Value :=
  match lenT P t, x with
  | .str, .string s => some (.int .i64 s.size)
  | .sl, .slice _ n _ => some (.int .i64 n)
  | _, _ => none
def capPure (P : Program) (t : TypeId) (x : Value) : Option Value :=
  match lenT P t, x with
  | .sl, .slice _ _ c => some (.int .i64 c)
  | _, _ => none
def minPure : List Value → Option Value
  | [.int k x, .int _ y] => some (.int k (if y < x then y else x))
  | _ => none
def maxPure : List Value → Option Value
  | [.int k x, .int _ y] => some (.int k (if y > x then y else x))
  | _ => none

def pureOp (P : Program) (op : Go.Op) (ρ : Operand → Value) : Option Value :=
  match op with
  | .move x | .assign x => some (ρ x)
  | .pick c a b => match ρ c with
    | .bool t => some (if t then ρ a else ρ b)
    | _ => none
  | .nilCheck x => match ρ x with
    | .pointer (some a) => some (.pointer (some a))
    | .func (.func f) a b => some (.func (.func f) a b)
    | .iface t v => some (.iface t v)
    | _ => none
  | .binOp op t x y _ => binPure P op t x y (ρ x) (ρ y)
  | .unOp op _ x => unPure op (ρ x)
  | .convert s d x => match convT P s d, ρ x with
    | .toInt k, .int _ n => some (.int k (k.wrap n))
    | .strStr, .string s => some (.string s)
    | _, _ => none
  | .makeInterface t x => match ifaceT P t with
    | some false => some (.iface t (ρ x))
    | _ => none
  | .makeFunc fn first captured => some (.func fn (first.map ρ) (captured.map ρ))
  | .slice t x lo hi none => slicePure P t (ρ x) (lo.map ρ) (hi.map ρ)
  | .slice t x lo (some hi) (some mx) => slice3Pure P t (ρ x) (lo.map ρ) (ρ hi) (ρ mx)
  | .fieldAddr s x f => match ρ x, fieldOff P s f with
    | .pointer (some a), some o => some (.pointer (some (a.add o)))
    | _, _ => none
  | .field s x f => match ρ x, fieldAt P s f with
    | .agg cs, some (o, n, true) => some (.agg (cs.extract o (o + n)))
    | .agg cs, some (o, _, false) => cs[o]?
    | _, _ => none
  | .indexAddr t x i => match indexT P t, ρ x, ρ i with
    | some (.sl sz), .slice (some a) len _, .int _ i => if 0 ≤ i ∧ i < len then some (.pointer (some (a.add (i.toNat * sz)))) else none
    | some (.arr n sz _), .pointer (some a), .int _ i => if 0 ≤ i ∧ i < n then some (.pointer (some (a.add (i.toNat * sz)))) else none
    | _, _, _ => none
  | .index t x i => match indexT P t, ρ x, ρ i with
    | some .str, .string s, .int _ i => if 0 ≤ i ∧ i < s.size then some (.int .u8 (s.data.toList.getD i.toNat 0).toNat) else none
    | some (.arr n sz true), .agg cs, .int _ i => if 0 ≤ i ∧ i < n then some (.agg (cs.extract (i.toNat * sz) (i.toNat * sz + sz))) else none
    | some (.arr n sz false), .agg cs, .int _ i => if 0 ≤ i ∧ i < n then cs[i.toNat * sz]? else none
    | _, _, _ => none
  | .build t parts => buildP P t (parts.toList.map fun p => (p.1, ρ p.2))
  | .typeAssert x _ t true => match assertT P t, ρ x with
    | some z, .nilIface => some (.tuple #[z, .bool false])
    | some z, .iface t' v => if t' = t then some (.tuple #[v, .bool true]) else some (.tuple #[z, .bool false])
    | _, _ => none
  | .typeAssert x _ t false => match assertT P t, ρ x with
    | some _, .iface t' v => if t' = t then some v else none
    | _, _ => none
  | .extract t i => match ρ t with
    | .tuple vs => vs[i]?
    | _ => none
  | .call { callee := .builtin .len, args, argTypes } => match argTypes.toList, args.toList with
    | [t], [x] => lenPure P t (ρ x)
    | _, _ => none
  | .call { callee := .builtin .cap, args, argTypes } => match argTypes.toList, args.toList with
    | [t], [x] => capPure P t (ρ x)
    | _, _ => none
  | .call { callee := .builtin .min, args, .. } => minPure (args.toList.map ρ)
  | .call { callee := .builtin .max, args, .. } => maxPure (args.toList.map ρ)
  | _ => none


theorem bits_back (op : BinOp) (k : IntKind) (a b : Int) (h : op = .and ∨ op = .or ∨ op = .xor ∨ op = .andNot) (P : Program) (w : World) :
    (Go.Op.intBits op k a b).run P w = .ok (.int k (bitsOp op k a b)) w := by
  rcases h with rfl | rfl | rfl | rfl <;> rfl

theorem run_intBin {P : Program} {op : BinOp} {t : TypeId} {k : IntKind} {a b : Int} {v : Value} (h : intBin op k a b = some v) (w : World) :
    (binOp op t (.int k a) (.int k b)).run P w = .ok v w := by
  cases op <;> simp only [intBin] at h
  case quo => split at h; · cases h
              · rename_i hb; injection h with h; subst h; simp [binOp, Go.Op.intDiv, hb]
  case rem => split at h; · cases h
              · rename_i hb; injection h with h; subst h; simp [binOp, Go.Op.intDiv, hb]
  case and => injection h with h; subst h; simp only [binOp, ne_eq, not_true_eq_false, if_false]; exact bits_back _ _ _ _ (by simp) P w
  case or => injection h with h; subst h; simp only [binOp, ne_eq, not_true_eq_false, if_false]; exact bits_back _ _ _ _ (by simp) P w
  case xor => injection h with h; subst h; simp only [binOp, ne_eq, not_true_eq_false, if_false]; exact bits_back _ _ _ _ (by simp) P w
  case andNot => injection h with h; subst h; simp only [binOp, ne_eq, not_true_eq_false, if_false]; exact bits_back _ _ _ _ (by simp) P w
  case shl => cases h
  case shr => cases h
  all_goals (injection h with h; subst h; simp [binOp, Go.Op.intArith, Go.Op.intCmp])
  all_goals rfl

theorem run_eqPureIn {P : Program} {t : TypeId} {x y : Value} {b : Bool} (h : eqPure P t x y = some b) (w : World) (n : Nat) : (Go.Op.equalIn (n + 1) t x y).run P w = .ok b w := by
  unfold eqPure eqT at h
  generalize hu : P.underlying t = u at h
  cases u with
  | none => simp at h
  | some d =>
    cases d <;> dsimp only at h <;> try (simp at h; done)
    all_goals (split at h <;> first | (cases h; done) | (simp_all [Go.Op.equalIn, run_underlying hu]; done) | skip)

theorem run_eqPure {P : Program} {t : TypeId} {x y : Value} {b : Bool} (h : eqPure P t x y = some b) (w : World) : (Go.Op.equal t x y).run P w = .ok b w :=
  run_eqPureIn h w 9999

theorem eqPure_guard {P : Program} (op : BinOp) {t : TypeId} {xo yo : Operand} {x y : Value} {b : Bool} (h : eqPure P t x y = some b) (w : World) : (eqGuard op t xo yo x y).run P w = .ok () w := by
  unfold eqPure at h
  unfold eqGuard
  split at h <;> first | (cases h; done) | (cases op <;> rfl)

theorem eqPure_bin {P : Program} {t : TypeId} {x y : Value} {b : Bool} (h : eqPure P t x y = some b) (w : World) :
    (binOp .eql t x y).run P w = .ok (.bool b) w ∧ (binOp .neq t x y).run P w = .ok (.bool !b) w := by
  have he := run_eqPure h w
  unfold eqPure at h
  split at h <;> first | (cases h; done) | (constructor <;> simp [binOp, he])


theorem run_shift {P : Program} {t : TypeId} {k yk : IntKind} {a b : Int} (hb : ¬ b < 0) (w : World) :
    (binOp .shl t (.int k a) (.int yk b)).run P w = .ok (.int k (shlOp k a b)) w ∧ (binOp .shr t (.int k a) (.int yk b)).run P w = .ok (.int k (shrOp k a b)) w := by
  constructor <;> (simp only [binOp, Go.Op.shift, hb, if_false]; rfl)

theorem run_strBin {P : Program} {op : BinOp} {t : TypeId} {a b : ByteArray} {v : Value} (h : strBin op a b = some v) (w : World) :
    (binOp op t (.string a) (.string b)).run P w = .ok v w := by
  cases op <;> simp only [strBin] at h <;> try (cases h; done)
  case add =>
    split at h
    · cases h
    · rename_i hb; injection h with h; subst h
      have hm : (IntKind.i64.max : Int) = 9223372036854775807 := by decide
      simp only [binOp, Go.Op.stringOp, hm, hb, if_false]
      rfl
  all_goals (injection h with h; subst h; rfl)

theorem run_part {P : Program} {t : TypeId} {cs : Array Value} {off : Nat} {v : Value} (h : partP P t cs off = some v) (w : World) : (part t cs off).run P w = .ok v w := by
  unfold partP isAggT cellsT at h
  unfold part isAgg sizeOf typeInfo
  cases hu : P.underlying t with
  | none => simp [hu] at h
  | some d =>
    cases hi : P.info? t with
    | none =>
      cases d <;> simp [hu, hi] at h <;> (simp [run_underlying hu]; rw [h]; simp)
    | some i =>
      cases d <;> simp [hu, hi] at h <;> first
        | (subst h; simp [run_underlying hu, hi]; done)
        | (simp [run_underlying hu]; rw [h]; simp)

theorem run_eqFs {P : Program} {r : TypeId → Value → Value → Option Bool} {n : Nat} (hr : ∀ t x y b, r t x y = some b → ∀ w, (Go.Op.equalIn n t x y).run P w = .ok b w)
    (xs ys : Array Value) : ∀ (fs : List Field) (b : Bool), eqFs P r xs ys fs = some b → ∀ w, (Go.Op.eqFields n xs ys fs).run P w = .ok b w
  | [], b, h, w => by simp only [eqFs] at h; injection h with h; subst h; rfl
  | f :: fs, b, h, w => by
    simp only [eqFs] at h
    unfold Go.Op.eqFields
    split at h
    · rename_i hn
      rw [if_neg (by simp [hn])]
      exact run_eqFs hr xs ys fs b h w
    · rename_i hn
      rw [if_pos hn]
      split at h
      · rename_i a c ha hc
        rw [Sem.run_bind, run_part ha]
        simp only [Result.andThen_ok]
        rw [Sem.run_bind, run_part hc]
        simp only [Result.andThen_ok]
        split at h
        · rename_i hb
          rw [Sem.run_bind, hr _ _ _ _ hb]
          simp only [Result.andThen_ok]
          exact run_eqFs hr xs ys fs b h w
        · rename_i hb
          injection h with h; subst h
          rw [Sem.run_bind, hr _ _ _ _ hb]
          rfl
        · cases h
      · cases h

theorem run_eqDeep {P : Program} : ∀ (n : Nat) (t : TypeId) (x y : Value) (b : Bool), eqDeep P n t x y = some b → ∀ m w, (Go.Op.equalIn (n + m) t x y).run P w = .ok b w
  | 0, _, _, _, _, h, _, _ => by cases h
  | n + 1, t, x, y, b, h, m, w => by
    rw [show n + 1 + m = (n + m) + 1 by omega]
    unfold eqDeep at h
    split at h
    · rename_i hu; injection h with h; subst h; simp [Go.Op.equalIn, run_underlying hu]
    · rename_i hu
      split at h
      · rename_i hk; injection h with h; subst h; simp [Go.Op.equalIn, run_underlying hu, hk]; rfl
      · cases h
    · rename_i hu; injection h with h; subst h; simp [Go.Op.equalIn, run_underlying hu, beq_toListBytes]
    · rename_i fs xs ys hu
      split at h
      · cases h
      · rename_i hs
        have hf : P.fieldsOf t = fs := by unfold Program.fieldsOf; simp [hu]
        rw [run_equalIn_struct w (n + m) t xs ys (by rw [hf]; exact hu) (by simpa using hs), hf]
        exact run_eqFs (fun t x y b hb w => run_eqDeep n t x y b hb m w) xs ys _ b h w
    · cases h

theorem run_eqAgg {P : Program} {t : TypeId} {xs ys : Array Value} {xo yo : Operand} {b : Bool} (h : eqAgg P t (.agg xs) (.agg ys) = some b) (w : World) :
    (eqGuard .eql t xo yo (.agg xs) (.agg ys) >>= fun _ => binOp .eql t (.agg xs) (.agg ys)).run P w = .ok (.bool b) w ∧
    (eqGuard .neq t xo yo (.agg xs) (.agg ys) >>= fun _ => binOp .neq t (.agg xs) (.agg ys)).run P w = .ok (.bool !b) w := by
  unfold eqAgg at h
  split at h
  · cases h
  · rename_i hg
    have hg' : P.eqGuardType P.depth t = false := by simpa using hg
    have hd := run_eqDeep 8 t _ _ b h 9992 w
    constructor
    · rw [Sem.run_bind, run_eqGuard_agg w .eql t xo yo xs ys hg']
      simp only [Result.andThen_ok]
      rw [run_eql_struct, hd]; rfl
    · rw [Sem.run_bind, run_eqGuard_agg w .neq t xo yo xs ys hg']
      simp only [Result.andThen_ok]
      rw [run_neq_struct, hd]; rfl

theorem run_binPure {P : Program} {op : BinOp} {t : TypeId} {xo yo : Operand} {x y v : Value} (h : binPure P op t xo yo x y = some v) (w : World) :
    (eqGuard op t xo yo x y >>= fun _ => binOp op t x y).run P w = .ok v w := by
  unfold binPure at h
  split at h
  · -- ints
    have hg : ∀ k a k' b, (eqGuard op t xo yo (.int k a) (.int k' b)).run P w = .ok () w := by intro k a k' b; cases op <;> rfl
    rw [Sem.run_bind, hg]
    simp only [Result.andThen_ok]
    split at h
    · split at h
      · cases h
      · rename_i hb; injection h with h; subst h; exact (run_shift hb w).1
    · split at h
      · cases h
      · rename_i hb; injection h with h; subst h; exact (run_shift hb w).2
    · split at h
      · rename_i hk; subst hk; exact run_intBin h w
      · cases h
  · have hg : ∀ a b, (eqGuard op t xo yo (.string a) (.string b)).run P w = .ok () w := by intro a b; cases op <;> rfl
    rw [Sem.run_bind, hg]
    exact run_strBin h w
  · -- two nils
    have hc : (isConstO xo || isConstO yo) = true → ∀ o, o = .eql ∨ o = .neq → (eqGuard o t xo yo .nilIface .nilIface).run P w = .ok () w := by
      intro hh o ho
      unfold isConstO at hh
      rcases ho with rfl | rfl <;> (unfold eqGuard; cases xo <;> cases yo <;> first | rfl | (simp at hh))
    have he : eqT P t = .iface → ∀ o, o = .eql ∨ o = .neq → (binOp o t .nilIface .nilIface).run P w = .ok (.bool (o == .eql)) w := by
      intro hh o ho
      unfold eqT at hh
      have : ∃ ms, P.underlying t = some (.interface ms) := by
        cases hu : P.underlying t with
        | none => simp [hu] at hh
        | some d => cases d <;> simp [hu] at hh ⊢
      obtain ⟨ms, hu⟩ := this
      have h1 : ∀ n, (Go.Op.equalIn (n + 1) t .nilIface .nilIface).run P w = .ok true w := by
        intro n; simp [Go.Op.equalIn, run_underlying hu]
      have h2 := h1 9999
      rcases ho with rfl | rfl <;> simp [binOp, Go.Op.equal, Go.Op.maxDepth, h2]
    split at h
    · rename_i hq
      split at h
      · rename_i hcc; injection h with h; subst h; rw [Sem.run_bind, hc hcc _ (.inl rfl)]; exact he hq _ (.inl rfl)
      · cases h
    · rename_i hq
      split at h
      · rename_i hcc; injection h with h; subst h; rw [Sem.run_bind, hc hcc _ (.inr rfl)]; exact he hq _ (.inr rfl)
      · cases h
    · cases h
  · split at h
    · obtain ⟨b, hb, rfl⟩ := Option.map_eq_some_iff.1 h; exact (run_eqAgg hb w).1
    · obtain ⟨b, hb, rfl⟩ := Option.map_eq_some_iff.1 h; exact (run_eqAgg hb w).2
    · cases h
  · split at h
    · obtain ⟨b, hb, rfl⟩ := Option.map_eq_some_iff.1 h
      rw [Sem.run_bind, eqPure_guard _ hb]; exact (eqPure_bin hb w).1
    · obtain ⟨b, hb, rfl⟩ := Option.map_eq_some_iff.1 h
      rw [Sem.run_bind, eqPure_guard _ hb]; exact (eqPure_bin hb w).2
    · cases h


theorem run_asInt (P : Program) (w : World) (k : IntKind) (n : Int) : (asIntOf (.int k n)).run P w = .ok (k, n) w := rfl
theorem run_sliceBound {P : Program} {w : World} {k : IntKind} {i : Int} {y : Nat} {c : BoundsCode} (h0 : 0 ≤ i) (h1 : i ≤ y) : (Instr.sliceBound (.int k i) y c).run P w = .ok i.toNat w := by
  unfold Instr.sliceBound
  rw [Sem.run_bind, run_asInt]
  simp only [Result.andThen_ok, h0, h1, and_self, if_true]
  rfl

theorem run_sliceBounds {P : Program} {w : World} {s : Bool} {len cap : Nat} {lo hi : Option Value} {l h : Int} (hl : sliceLo lo = some l) (hh : sliceHi len hi = some h)
    (h0 : 0 ≤ l) (h1 : l ≤ h) (h2 : h ≤ cap) : (Instr.sliceBounds s len cap lo hi none).run P w = .ok (l.toNat, h.toNat, cap) w := by
  cases lo with
  | none =>
    simp only [sliceLo] at hl; injection hl with hl; subst hl
    cases hi with
    | none =>
      simp only [sliceHi] at hh; injection hh with hh; subst hh
      rfl
    | some v =>
      cases v <;> simp only [sliceHi] at hh <;> try (cases hh; done)
      injection hh with hh; subst hh
      unfold Instr.sliceBounds
      simp only [Sem.run_bind, Sem.run_pure, Result.andThen_ok]
      rw [run_sliceBound (by omega) h2]
      rfl
  | some u =>
    cases u <;> simp only [sliceLo] at hl <;> try (cases hl; done)
    injection hl with hl; subst hl
    cases hi with
    | none =>
      simp only [sliceHi] at hh; injection hh with hh; subst hh
      unfold Instr.sliceBounds
      simp only [Sem.run_bind, Sem.run_pure, Result.andThen_ok]
      rw [run_sliceBound (by omega) (by omega)]
      rfl
    | some v =>
      cases v <;> simp only [sliceHi] at hh <;> try (cases hh; done)
      injection hh with hh; subst hh
      unfold Instr.sliceBounds
      simp only [Sem.run_bind, Sem.run_pure, Result.andThen_ok]
      rw [run_sliceBound (by omega) h2]
      simp only [Result.andThen_ok, Sem.run_bind]
      rw [run_sliceBound (by omega) (by omega)]
      rfl

theorem run_slicePure {P : Program} {t : TypeId} {x v : Value} {lo hi : Option Value} (h : slicePure P t x lo hi = some v) (w : World) :
    (Instr.sliceAt t x lo hi none).run P w = .ok v w := by
  unfold slicePure indexT cellsT at h
  unfold Instr.sliceAt Instr.slice
  cases hu : P.underlying t with
  | none => simp [hu] at h
  | some d =>
    cases d <;> simp only [hu] at h <;> try (simp at h; done)
    case string =>
      split at h <;> first | (cases h; done) | skip
      all_goals rename_i he
      all_goals first | (cases he; done) | skip
      rename_i s _
      split at h
      · rename_i l hh hl hhi
        split at h
        · rename_i hb
          injection h with h; subst h
          rw [Sem.run_bind, run_underlying hu]
          simp only [Result.andThen_ok]
          rw [Sem.run_bind, run_underlying hu]
          simp only [Result.andThen_ok, Option.isSome_none, Bool.false_eq_true, if_false]
          simp only [Sem.run_bind]
          rw [run_sliceBounds hl hhi hb.1 hb.2.1 hb.2.2]
          rfl
        · cases h
      · cases h
    case slice e =>
      cases hi2 : P.info? e with
      | none => simp [hi2] at h
      | some ie =>
      simp only [hi2, Option.map_some] at h
      split at h <;> first | (cases h; done) | skip
      all_goals rename_i he
      all_goals first | (cases he; done) | skip
      rename_i sz a len cap _ _
      injection he with he
      injection he with he
      split at h
      · rename_i l hh hl hhi
        split at h
        · rename_i hb
          injection h with h; subst h
          rw [Sem.run_bind, run_underlying hu]
          simp only [Result.andThen_ok]
          rw [Sem.run_bind, run_underlying hu]
          simp only [Result.andThen_ok]
          rw [Sem.run_bind, run_sliceBounds hl hhi hb.1 hb.2.1 hb.2.2]
          simp [sizeOf, typeInfo, hi2, he]
        · cases h
      · cases h
    case array n e =>
      cases hi2 : P.info? e with
      | none => simp [hi2] at h
      | some ie =>
      simp only [hi2, Option.map_some] at h
      split at h <;> first | (cases h; done) | skip
      all_goals rename_i he
      all_goals first | (split at he <;> cases he; done) | skip
      all_goals first | (cases he; done) | skip
      rename_i n' sz g a
      have hen : n = n' ∧ ie.size = sz := by
        split at he
        · injection he with he; injection he with h1 h2 h3; rename_i hx _; injection hx with hx; exact ⟨h1, hx.trans h2⟩
        · cases he
      obtain ⟨rfl, hsz⟩ := hen
      split at h
      · rename_i l hh hl hhi
        split at h
        · rename_i hb
          injection h with h; subst h
          rw [Sem.run_bind, run_underlying hu]
          simp only [Result.andThen_ok]
          rw [Sem.run_bind]
          simp only [Instr.sureAddr, Sem.run_pure, Result.andThen_ok]
          rw [Sem.run_bind, run_sliceBounds hl hhi hb.1 hb.2.1 hb.2.2]
          simp [sizeOf, typeInfo, hi2, hsz]
        · cases h
      · cases h


theorem run_slice3Pure {P : Program} {t : TypeId} {x v : Value} {lo : Option Value} {hi mx : Value} (h : slice3Pure P t x lo hi mx = some v) (w : World) :
    (Instr.sliceAt t x lo (some hi) (some mx)).run P w = .ok v w := by
  unfold slice3Pure indexT cellsT at h
  unfold Instr.sliceAt Instr.slice
  cases hu : P.underlying t with
  | none => simp [hu] at h
  | some d =>
    cases d <;> simp only [hu] at h <;> try (simp at h; done)
    case array n e =>
      exfalso
      cases hi2 : P.info? e with
      | none => simp [hi2] at h
      | some ie =>
        simp only [hi2, Option.map_some] at h
        split at h <;> first | (cases h; done) | (rename_i he; split at he <;> cases he)
    case slice e =>
      cases hi2 : P.info? e with
      | none => simp [hi2] at h
      | some ie =>
      simp only [hi2, Option.map_some] at h
      split at h <;> first | (cases h; done) | skip
      rename_i sz a len cap he
      injection he with he
      injection he with he
      split at h
      · rename_i l kh hh km m hl
        split at h
        · rename_i hb
          injection h with h; subst h
          obtain ⟨h0, h1, h2, h3⟩ := hb
          have hbnd : (Instr.sliceBounds true len cap lo (some (.int kh hh)) (some (.int km m))).run P w = .ok (l.toNat, hh.toNat, m.toNat) w := by
            unfold Instr.sliceBounds
            rw [Sem.run_bind]
            simp only [if_true]
            rw [run_sliceBound (by omega) h3]
            simp only [Result.andThen_ok, Sem.run_bind]
            rw [run_sliceBound (by omega) (by omega)]
            simp only [Result.andThen_ok]
            cases lo with
            | none => simp only [sliceLo] at hl; injection hl with hl; subst hl; rfl
            | some u =>
              cases u <;> simp only [sliceLo] at hl <;> try (cases hl; done)
              injection hl with hl; subst hl
              simp only []
              rw [Sem.run_bind, run_sliceBound (by omega) (by omega)]
              rfl
          rw [Sem.run_bind, run_underlying hu]
          simp only [Result.andThen_ok]
          rw [Sem.run_bind, run_underlying hu]
          simp only [Result.andThen_ok]
          rw [Sem.run_bind, hbnd]
          simp [sizeOf, typeInfo, hi2, he]
        · cases h
      · cases h

theorem fill_congr {p q : Nat → Option (Nat × Nat)} (h : ∀ i x, p i = some x → q i = some x) : ∀ (l : List (Nat × Value)) (c r : Array Value), Instr.fill p c l = some r → Instr.fill q c l = some r
  | [], _, _, h0 => h0
  | (i, v) :: l, c, r, h0 => by
    unfold Instr.fill at h0 ⊢
    cases hp : p i with
    | none => simp [hp] at h0
    | some x =>
      obtain ⟨off, size⟩ := x
      simp only [hp, h i _ hp] at h0 ⊢
      split at h0
      · cases h0
      · rename_i hc
        rw [if_neg hc]
        exact fill_congr h l _ r h0

theorem run_mapM_places {P : Program} {w : World} : ∀ (fs : List Field) (l : List (Nat × Nat)), (fs.mapM fun f => (cellsT P f.type).map fun n => (f.offset, n)) = some l →
    (fs.mapM fun f => (do pure (f.offset, ← sizeOf f.type) : Sem (Nat × Nat))).run P w = .ok l w
  | [], l, h => by simp at h; subst h; rfl
  | f :: fs, l, h => by
    rw [List.mapM_cons] at h ⊢
    cases hc : cellsT P f.type with
    | none => simp [hc] at h
    | some n =>
      cases hr : (fs.mapM fun f => (cellsT P f.type).map fun n => (f.offset, n)) with
      | none => simp [hc, hr] at h
      | some l' =>
        simp [hc, hr] at h
        subst h
        have ih := run_mapM_places (w := w) fs l' hr
        have hs : (sizeOf f.type).run P w = .ok n w := by
          unfold cellsT at hc
          cases hi : P.info? f.type with
          | none => simp [hi] at hc
          | some i => simp [hi] at hc; simp [sizeOf, typeInfo, hi, hc]
        simp only [Sem.run_bind, hs, Result.andThen_ok, Sem.run_pure, ih]

theorem run_buildP {P : Program} {t : TypeId} {parts : Array (Nat × Value)} {v : Value} (h : buildP P t parts.toList = some v) (w : World) : (Instr.build t parts).run P w = .ok v w := by
  unfold buildP at h
  split at h
  · rename_i z pl hb
    obtain ⟨r, hr, rfl⟩ := Option.map_eq_some_iff.1 h
    unfold buildT zeroT at hb
    cases hi : P.info? t with
    | none => simp [hi] at hb
    | some i =>
      cases hz : i.zero with
      | none => simp [hi, hz] at hb
      | some zv =>
        cases hu : P.underlying t with
        | none => simp [hi, hz, hu] at hb
        | some d =>
          cases d <;> simp only [hi, hz, hu, Option.bind_some] at hb <;> try (cases hb; done)
          case struct fs =>
            obtain ⟨l, hl, he⟩ := Option.map_eq_some_iff.1 hb
            injection he with h1 h2
            subst h1; subst h2
            have h1 := run_mapM_places (w := w) _ _ hl
            unfold Instr.build
            simp only [Sem.run_bind, zeroValue, typeInfo, run_program, Result.andThen_ok, hi, Sem.run_pure, hz, run_underlying hu]
            rw [Array.mapM_eq_mapM_toList, Sem.run_map]
            have h1' := h1
            rw [h1']
            simp only [Result.andThen_ok, List.getElem?_toArray, hr, Sem.run_pure]
          case array n e =>
            obtain ⟨s, hs, he⟩ := Option.map_eq_some_iff.1 hb
            injection he with h1 h2
            subst h1; subst h2
            have hsz : (sizeOf e).run P w = .ok s w := by
              unfold cellsT at hs
              cases hi2 : P.info? e with
              | none => simp [hi2] at hs
              | some i => simp [hi2] at hs; simp [sizeOf, typeInfo, hi2, hs]
            have hr2 := fill_congr (q := fun i => some (i * s, s)) (fun i x hx => by
              simp only [List.getElem?_map, List.getElem?_range] at hx
              by_cases hin : i < n
              · rw [List.getElem?_range hin] at hx; simpa using hx
              · rw [List.getElem?_eq_none (by simp; omega)] at hx; cases hx) _ _ _ hr
            unfold Instr.build
            simp only [Sem.run_bind, zeroValue, typeInfo, run_program, Result.andThen_ok, hi, Sem.run_pure, hz, run_underlying hu, hsz, hr2]
  · cases h


theorem run_lenPure {P : Program} {t ty : TypeId} {x v : Value} (h : lenPure P t x = some v) (w : World) : (Go.Builtin.len_ #[t] ty #[x]).run P w = .ok v w := by
  unfold lenPure lenT at h
  cases hu : P.underlying t with
  | none => simp [hu] at h
  | some d =>
    cases d <;> simp only [hu] at h <;> try (simp at h; done)
    case string =>
      cases x <;> simp at h
      subst h; simp [Go.Builtin.len_, run_underlying hu, goInt]
    case slice e =>
      cases x <;> simp at h
      subst h; simp [Go.Builtin.len_, run_underlying hu, goInt]

theorem run_capPure {P : Program} {t ty : TypeId} {x v : Value} (h : capPure P t x = some v) (w : World) : (Go.Builtin.cap_ #[t] ty #[x]).run P w = .ok v w := by
  unfold capPure lenT at h
  cases hu : P.underlying t with
  | none => simp [hu] at h
  | some d =>
    cases d <;> simp only [hu] at h <;> try (simp at h; done)
    case slice e =>
      cases x <;> simp at h
      subst h; simp [Go.Builtin.cap_, run_underlying hu, goInt]
theorem run_minPure {P : Program} {ats : Array TypeId} {ty : TypeId} {l : List Value} {v : Value} (h : minPure l = some v) (w : World) : (Go.Builtin.min_ ats ty l.toArray).run P w = .ok v w := by
  unfold minPure at h
  split at h
  · injection h with h; subst h; simp [Go.Builtin.min_, Go.Builtin.min2]
  · cases h
theorem run_maxPure {P : Program} {ats : Array TypeId} {ty : TypeId} {l : List Value} {v : Value} (h : maxPure l = some v) (w : World) : (Go.Builtin.max_ ats ty l.toArray).run P w = .ok v w := by
  unfold maxPure at h
  split at h
  · injection h with h; subst h; simp [Go.Builtin.max_, Go.Builtin.max2]
  · cases h

theorem run_fieldAddr {P : Program} {s : TypeId} {a : Addr} {f o : Nat} (h : fieldOff P s f = some o) (w : World) : (Instr.fieldAt s (.pointer (some a)) f).run P w = .ok (.pointer (some (a.add o))) w := by
  unfold fieldOff at h
  split at h
  · rename_i fs hu
    split at h
    · rename_i fd hf
      split at h
      · rename_i n hc
        injection h with h; subst h
        have hsz : (sizeOf fd.type).run P w = .ok (n + 1) w := by
          unfold cellsT at hc
          cases hi2 : P.info? fd.type with
          | none => simp [hi2] at hc
          | some i => simp [hi2] at hc; simp [sizeOf, typeInfo, hi2, hc]
        simp [Instr.fieldAt, run_underlying hu, hf, Instr.sureAddr, fieldPlace, hsz]
      · cases h
    · cases h
  · cases h

theorem run_sizeOf {P : Program} {t n : Nat} (h : cellsT P t = some n) (w : World) : (sizeOf t).run P w = .ok n w := by
  unfold cellsT at h
  cases hi : P.info? t with
  | none => simp [hi] at h
  | some i => simp [hi] at h; simp [sizeOf, typeInfo, hi, h]
theorem run_isAgg {P : Program} {t : TypeId} {b : Bool} (h : isAggT P t = some b) (w : World) : (isAgg t).run P w = .ok b w := by
  unfold isAggT at h
  unfold isAgg
  cases hu : P.underlying t with
  | none => simp [hu] at h
  | some d => cases d <;> simp [hu] at h <;> subst h <;> simp [run_underlying hu]

theorem run_partOf {P : Program} {t : TypeId} {cs : Array Value} {off n : Nat} {b : Bool} {v : Value} (hn : cellsT P t = some n) (hb : isAggT P t = some b)
    (h : (if b then some (.agg (cs.extract off (off + n))) else cs[off]?) = some v) (w : World) : (part t cs off).run P w = .ok v w := by
  unfold part
  rw [Sem.run_bind, run_isAgg hb]
  cases b
  · simp at h; simp [h]
  · simp at h; subst h; simp [run_sizeOf hn]

theorem run_fieldOf {P : Program} {s : TypeId} {cs : Array Value} {f o n : Nat} {b : Bool} {v : Value} (h : fieldAt P s f = some (o, n, b))
    (hv : (if b then some (.agg (cs.extract o (o + n))) else cs[o]?) = some v) (w : World) : (Instr.field s (.agg cs) f).run P w = .ok v w := by
  unfold fieldAt at h
  split at h
  · rename_i fs hu
    split at h
    · rename_i fd hf
      split at h
      · rename_i n' g hc hg
        injection h with h
        injection h with h1 h2
        injection h2 with h2 h3
        subst h1; subst h2; subst h3
        simp only [Instr.field, Sem.run_bind, run_underlying hu, Result.andThen_ok, hf, asAgg, Sem.run_pure]
        exact run_partOf hc hg hv w
      · cases h
    · cases h
  · cases h

theorem run_indexSl {P : Program} {t : TypeId} {a : Addr} {len cap sz : Nat} {k : IntKind} {i : Int} (h : indexT P t = some (.sl sz)) (hi : 0 ≤ i ∧ i < len) (w : World) :
    (Instr.indexAt t (.slice (some a) len cap) (.int k i)).run P w = .ok (.pointer (some (a.add (i.toNat * sz)))) w := by
  unfold indexT at h
  split at h
  · split at h
    · cases h
    · cases h
  · rename_i e hu
    obtain ⟨n, hn, he⟩ := Option.map_eq_some_iff.1 h
    injection he with he; subst he
    simp [Instr.indexAt, run_underlying hu, asIntOf, run_sizeOf hn, hi]
  · cases h
  · cases h
theorem run_indexArr {P : Program} {t : TypeId} {a : Addr} {n sz : Nat} {g : Bool} {k : IntKind} {i : Int} (h : indexT P t = some (.arr n sz g)) (hi : 0 ≤ i ∧ i < n) (w : World) :
    (Instr.indexAt t (.pointer (some a)) (.int k i)).run P w = .ok (.pointer (some (a.add (i.toNat * sz)))) w := by
  unfold indexT at h
  split at h
  · rename_i m e hu
    split at h
    · rename_i s g' hs hg
      injection h with h; injection h with h1 h2 h3
      subst h1; subst h2; subst h3
      simp [Instr.indexAt, run_underlying hu, asIntOf, run_sizeOf hs, Instr.sureAddr, hi]
    · cases h
  · rename_i e hu
    obtain ⟨n, hn, he⟩ := Option.map_eq_some_iff.1 h
    cases he
  · cases h
  · cases h
theorem run_indexStr {P : Program} {t : TypeId} {s : ByteArray} {k : IntKind} {i : Int} (h : indexT P t = some .str) (hi : 0 ≤ i ∧ i < s.size) (w : World) :
    (Instr.index t (.string s) (.int k i)).run P w = .ok (.int .u8 (s.data.toList.getD i.toNat 0).toNat) w := by
  unfold indexT at h
  split at h
  · split at h
    · cases h
    · cases h
  · rename_i e hu
    obtain ⟨n, hn, he⟩ := Option.map_eq_some_iff.1 h
    cases he
  · rename_i hu
    have hlt : i.toNat < s.size := by omega
    have e1 : s[i.toNat]? = some s[i.toNat] := getElem?_pos s i.toNat hlt
    have e2 : s.data.toList.getD i.toNat 0 = s[i.toNat] := by
      rw [List.getD_eq_getElem?_getD]
      have : s.data.toList[i.toNat]? = some (s.data[i.toNat]'hlt) := by simp [hlt]
      rw [this]; rfl
    simp only [Instr.index, Sem.run_bind, run_asInt, Result.andThen_ok, run_underlying hu, hi.1, if_true, e1, e2, Sem.run_pure]
  · cases h
theorem run_indexAgg {P : Program} {t : TypeId} {cs : Array Value} {n sz : Nat} {g : Bool} {k : IntKind} {i : Int} {v : Value} (h : indexT P t = some (.arr n sz g)) (hi : 0 ≤ i ∧ i < n)
    (hv : (if g then some (.agg (cs.extract (i.toNat * sz) (i.toNat * sz + sz))) else cs[i.toNat * sz]?) = some v) (w : World) :
    (Instr.index t (.agg cs) (.int k i)).run P w = .ok v w := by
  unfold indexT at h
  split at h
  · rename_i m e hu
    split at h
    · rename_i s g' hs hg
      injection h with h; injection h with h1 h2 h3
      subst h1; subst h2; subst h3
      simp only [Instr.index, Sem.run_bind, run_asInt, Result.andThen_ok, run_underlying hu, hi.1, hi.2, and_self, if_true, run_sizeOf hs]
      exact run_partOf hs hg hv w
    · cases h
  · rename_i e hu
    obtain ⟨n, hn, he⟩ := Option.map_eq_some_iff.1 h
    cases he
  · cases h
  · cases h

theorem run_assertT {P : Program} {t xt : TypeId} {z : Value} (h : assertT P t = some z) (w : World) :
    (Instr.typeAssert .nilIface xt t true).run P w = .ok (.tuple #[z, .bool false]) w ∧
    (∀ t' v, t' = t → (Instr.typeAssert (.iface t' v) xt t true).run P w = .ok (.tuple #[v, .bool true]) w ∧ (Instr.typeAssert (.iface t' v) xt t false).run P w = .ok v w) ∧
    (∀ t' v, t' ≠ t → (Instr.typeAssert (.iface t' v) xt t true).run P w = .ok (.tuple #[z, .bool false]) w) := by
  unfold assertT zeroT at h
  cases hu : P.underlying t with
  | none => simp [hu] at h
  | some d =>
    cases hi : P.info? t with
    | none => cases d <;> simp [hu, hi] at h
    | some i =>
      cases d <;> simp [hu, hi] at h <;>
        (refine ⟨?_, fun t' v e => ⟨?_, ?_⟩, fun t' v e => ?_⟩ <;> simp [Instr.typeAssert, run_underlying hu, zeroValue, typeInfo, hi, h, *])

theorem pureOp_sound {P : Program} {o : Oper} {ρ : Operand → Value} {v : Value} (h : pureOp P o.op ρ = some v) (w : World) : (execOp ρ o).run P w = .ok (.value v) w := by
  unfold execOp
  cases hop : o.op <;> simp only [hop, pureOp] at h ⊢ <;> try (cases h; done)
  case move x => injection h with h; subst h; rfl
  case assign x => injection h with h; subst h; rfl
  case pick c a b =>
    split at h
    · rename_i t ht; injection h with h; subst h; rw [ht]; rfl
    · cases h
  case build t parts =>
    have := run_buildP (parts := parts.map fun x => (x.1, ρ x.2)) (by simpa using h) w
    simp only [Sem.run_bind]
    rw [this]; rfl
  case nilCheck x =>
    split at h <;> first | (cases h; done) | (rename_i hx; injection h with h; subst h; rw [hx]; rfl)
  case binOp op t x y yt => 
    have := run_binPure h w
    simp only [Sem.run_bind] at this ⊢
    rw [this]; rfl
  case unOp op t x =>
    unfold unPure at h
    split at h <;> first | (cases h; done) | (rename_i hx; injection h with h; subst h; rw [hx]; first | rfl | (simp [Go.Op.unary, Go.Op.intArith]; done))
  case convert s d x =>
    split at h
    · rename_i k n hc hx
      injection h with h; subst h
      rw [hx]
      unfold convT at hc
      split at hc
      · rename_i ds k' hs hd
        injection hc with hc; subst hc
        simp [convert, run_underlying hs, run_underlying hd, Go.Conv.intToInt]
      · cases hc
      · cases hc
    · rename_i s' hc hx
      injection h with h; subst h
      rw [hx]
      unfold convT at hc
      split at hc
      · cases hc
      · rename_i ds hs hd
        simp [convert, run_underlying hs, run_underlying hd]
      · cases hc
    · cases h
  case makeInterface t x =>
    split at h
    · rename_i hc
      injection h with h; subst h
      unfold ifaceT at hc
      cases hu : P.underlying t with
      | none => simp [hu] at hc
      | some d => cases d <;> simp [hu] at hc <;> simp [Instr.makeInterface, run_underlying hu]
    · cases h
  case makeFunc => injection h with h; subst h; rfl
  case slice t x lo hi mx =>
    cases mx with
    | some _ =>
      cases hi with
      | none => cases h
      | some _ =>
        simp only [pureOp] at h
        have := run_slice3Pure h w
        simp only [Sem.run_bind, Option.map_some]
        rw [this]; rfl
    | none =>
      simp only [pureOp] at h
      have := run_slicePure h w
      simp only [Sem.run_bind, Option.map_none]
      rw [this]; rfl
  case fieldAddr s x f =>
    split at h
    · rename_i a o hx ho
      injection h with h; subst h
      rw [hx]
      simp only [Sem.run_bind]
      rw [run_fieldAddr ho]; rfl
    · cases h
  case field s x f =>
    split at h
    · rename_i cs o n hx ho
      rw [hx]
      simp only [Sem.run_bind]
      rw [run_fieldOf ho (v := v) (by simpa using h)]; rfl
    · rename_i cs o n hx ho
      rw [hx]
      simp only [Sem.run_bind]
      rw [run_fieldOf ho (v := v) (by simpa using h)]; rfl
    · cases h
  case indexAddr t x i =>
    split at h
    · rename_i sz a len cap k i ht hx hi
      split at h
      · rename_i hb
        injection h with h; subst h
        rw [hx, hi]
        simp only [Sem.run_bind]
        rw [run_indexSl ht hb]; rfl
      · cases h
    · rename_i n sz g a k i ht hx hi
      split at h
      · rename_i hb
        injection h with h; subst h
        rw [hx, hi]
        simp only [Sem.run_bind]
        rw [run_indexArr ht hb]; rfl
      · cases h
    · cases h
  case index t x i =>
    split at h
    · rename_i s k i ht hx hi
      split at h
      · rename_i hb
        injection h with h; subst h
        rw [hx, hi]
        simp only [Sem.run_bind]
        rw [run_indexStr ht hb]; rfl
      · cases h
    · rename_i n sz cs k i ht hx hi
      split at h
      · rename_i hb
        rw [hx, hi]
        simp only [Sem.run_bind]
        rw [run_indexAgg ht hb (v := v) (by simpa using h)]; rfl
      · cases h
    · rename_i n sz cs k i ht hx hi
      split at h
      · rename_i hb
        rw [hx, hi]
        simp only [Sem.run_bind]
        rw [run_indexAgg ht hb (v := v) (by simpa using h)]; rfl
      · cases h
    · cases h
  case typeAssert x xt t ok =>
    cases ok with
    | true =>
      simp only [pureOp] at h
      split at h
      · rename_i z hz hx
        injection h with h; subst h
        rw [hx]
        simp only [Sem.run_bind]
        rw [(run_assertT (xt := xt) hz w).1]; rfl
      · rename_i z t' v' hz hx
        rw [hx]
        simp only [Sem.run_bind]
        split at h
        · rename_i e; injection h with h; subst h
          rw [((run_assertT (xt := xt) hz w).2.1 t' v' e).1]; rfl
        · rename_i e; injection h with h; subst h
          rw [(run_assertT (xt := xt) hz w).2.2 t' v' e]; rfl
      · cases h
    | false =>
      simp only [pureOp] at h
      split at h
      · rename_i z t' v' hz hx
        rw [hx]
        simp only [Sem.run_bind]
        split at h
        · rename_i e; injection h with h; subst h
          rw [((run_assertT (xt := xt) hz w).2.1 t' v' e).2]; rfl
        · cases h
      · cases h
  case extract t i =>
    split at h
    · rename_i vs hx
      rw [hx]
      simp only [Instr.extract, h]
      rfl
    · cases h
  case call c =>
    obtain ⟨callee, args, ats⟩ := c
    obtain ⟨l⟩ := args
    obtain ⟨lt⟩ := ats
    cases callee with
    | value f => cases h
    | invoke r m => cases h
    | builtin b =>
      cases b <;> simp only [pureOp] at h <;> try (cases h; done)
      case len =>
        split at h
        · rename_i t x
          have := run_lenPure (ty := o.type) h w
          simp only [resolve, invoke, builtin, Sem.run_bind, Sem.run_pure, Result.andThen_ok, List.map_toArray, List.map_cons, List.map_nil, this]
        · cases h
      case cap =>
        split at h
        · rename_i t x
          have := run_capPure (ty := o.type) h w
          simp only [resolve, invoke, builtin, Sem.run_bind, Sem.run_pure, Result.andThen_ok, List.map_toArray, List.map_cons, List.map_nil, this]
        · cases h
      case min =>
        have := run_minPure (P := P) (ats := lt.toArray) (ty := o.type) h w
        simp only [resolve, invoke, builtin, Sem.run_bind, Sem.run_pure, Result.andThen_ok, List.map_toArray, this]
      case max =>
        have := run_maxPure (P := P) (ats := lt.toArray) (ty := o.type) h w
        simp only [resolve, invoke, builtin, Sem.run_bind, Sem.run_pure, Result.andThen_ok, List.map_toArray, this]


/-! ### operations on memory, calls -/

/-- a token that hangs on what follows: so no rule looks into it before its turn. -/
inductive Tok {α : Type} (a : α) : Type where
  | mk
abbrev VK := Value → Prop
abbrev VWK := Value → World → Prop
abbrev WK := World → Prop

def pureK (x : Option Value) (K : VK) (_ : Tok K) : Prop := ∃ v, x = some v ∧ K v
theorem pureK_some (v : Value) (K : VK) (tk : Tok K) : pureK (some v) K tk = K v := by simp [pureK]
theorem pureK_none (K : VK) (tk : Tok K) : pureK none K tk = False := by simp [pureK]
theorem pureK_ite (c : Prop) [Decidable c] (x : Option Value) (K : VK) (tk : Tok K) : pureK (if c then x else none) K tk = (c ∧ pureK x K tk) := by
  by_cases h : c <;> simp [pureK, h]
theorem pureK_ite' (c : Prop) [Decidable c] (x : Option Value) (K : VK) (tk : Tok K) : pureK (if c then none else x) K tk = (¬ c ∧ pureK x K tk) := by
  by_cases h : c <;> simp [pureK, h]
theorem pureK_intro {x : Option Value} {v : Value} {K : VK} {tk : Tok K} (h : x = some v) (hk : K v) : pureK x K tk := ⟨v, h, hk⟩
def ptrK (x : Value) (K : Addr → Prop) (_ : Tok K) : Prop := ∃ a, x = .pointer (some a) ∧ K a
theorem ptrK_some (a : Addr) (K : Addr → Prop) (tk : Tok K) : ptrK (.pointer (some a)) K tk = K a := by simp [ptrK]
theorem ptrK_none (K : Addr → Prop) (tk : Tok K) : ptrK (.pointer none) K tk = False := by simp [ptrK]
def boolK (x : Value) (X Y : Prop) (_ : Tok X) (_ : Tok Y) : Prop := ∃ t, x = .bool t ∧ (t = true → X) ∧ (t = false → Y)
section
variable (X Y : Prop) (tx : Tok X) (ty : Tok Y)
theorem boolK_true : boolK (.bool true) X Y tx ty = X := by simp [boolK]
theorem boolK_false : boolK (.bool false) X Y tx ty = Y := by simp [boolK]
theorem boolK_decide (c : Prop) [Decidable c] : boolK (.bool (decide c)) X Y tx ty = ((c → X) ∧ (¬ c → Y)) := by simp [boolK]
theorem boolK_ndecide (c : Prop) [Decidable c] : boolK (.bool (!decide c)) X Y tx ty = ((¬ c → X) ∧ (c → Y)) := by by_cases h : c <;> simp [boolK, h]
theorem boolK_any (b : Bool) : boolK (.bool b) X Y tx ty = ((b = true → X) ∧ (b = false → Y)) := by simp [boolK]
def guardK (y : Option Bool) (want : Bool) (X Y : Prop) (_ : Tok X) (_ : Tok Y) : Prop := (y = some want → X) ∧ (y ≠ some want → Y)
theorem guardK_tt : guardK (some true) true X Y tx ty = X := by simp [guardK]
theorem guardK_ff : guardK (some false) false X Y tx ty = X := by simp [guardK]
theorem guardK_tf : guardK (some true) false X Y tx ty = Y := by simp [guardK]
theorem guardK_ft : guardK (some false) true X Y tx ty = Y := by simp [guardK]
theorem guardK_none (want : Bool) : guardK none want X Y tx ty = Y := by simp [guardK]
theorem guardK_decide (c : Prop) [Decidable c] : guardK (some (decide c)) true X Y tx ty = ((c → X) ∧ (¬ c → Y)) := by simp [guardK]
theorem guardK_decide' (c : Prop) [Decidable c] : guardK (some (decide c)) false X Y tx ty = ((¬ c → X) ∧ (c → Y)) := by simp [guardK]
theorem guardK_ndecide (c : Prop) [Decidable c] : guardK (some (!decide c)) true X Y tx ty = ((¬ c → X) ∧ (c → Y)) := by by_cases h : c <;> simp [guardK, h]
theorem guardK_ndecide' (c : Prop) [Decidable c] : guardK (some (!decide c)) false X Y tx ty = ((c → X) ∧ (¬ c → Y)) := by by_cases h : c <;> simp [guardK, h]
theorem guardK_any (b : Bool) : guardK (some b) true X Y tx ty = ((b = true → X) ∧ (b = false → Y)) := by cases b <;> simp [guardK]
theorem guardK_any' (b : Bool) : guardK (some b) false X Y tx ty = ((b = false → X) ∧ (b = true → Y)) := by cases b <;> simp [guardK]
end

/-- the call returns: with what is known of the value and the world. -/
def CallsV (P : Program) (f : FuncId) (args : List Value) (w : World) (K : VWK) : Prop :=
  Calls P f args.toArray w fun e w' => ∃ v, e = .returned v ∧ K v w'
theorem CallsV.mono {P : Program} {f : FuncId} {args : List Value} {w : World} {K K' : VWK} (h : CallsV P f args w K) (hk : ∀ v w', K v w' → K' v w') : CallsV P f args w K' :=
  Calls.mono h fun _ _ ⟨v, he, hK⟩ => ⟨v, he, hk v _ hK⟩
def callG (P : Program) (f : FuncId) (args : List Value) (w : World) (K : VWK) (_ : Tok K) : Prop := CallsV P f args w K

/-- the n cells from a on. -/
def aggK (w : World) (a : Addr) (n : Option Nat) (K : VK) (_ : Tok K) : Prop :=
  ∃ cs : List Value, n = some cs.length ∧ (∀ j v, cs[j]? = some v → w.cell? (a.add j) = some v) ∧ K (.agg cs.toArray)
/-- one cell written. -/
def cellSt (w : World) (a : Addr) (v : Value) (K : WK) (_ : Tok K) : Prop := (∃ u, w.cell? a = some u) ∧ w.frozen? a = false ∧ K (w.setCell a v)
def aggSt (P : Program) (w : World) (a : Addr) (cs : List Value) (K : WK) (_ : Tok K) : Prop := ∃ w', (storeCells a cs).run P w = .ok () w' ∧ K w'
def ldK (P : Program) (t : TypeId) (w : World) (a : Addr) (K : VK) (_ : Tok K) : Prop :=
  match isAggT P t with
  | some false => pureK (w.cell? a) K .mk
  | some true => aggK w a (cellsT P t) K .mk
  | none => False
theorem ldK_cell {P : Program} {t : TypeId} (h : isAggT P t = some false) (w : World) (a : Addr) (K : VK) (tk : Tok K) : ldK P t w a K tk = pureK (w.cell? a) K .mk := by simp [ldK, h]
theorem ldK_agg {P : Program} {t : TypeId} (h : isAggT P t = some true) (w : World) (a : Addr) (K : VK) (tk : Tok K) : ldK P t w a K tk = aggK w a (cellsT P t) K .mk := by simp [ldK, h]
def stK (P : Program) (t : TypeId) (w : World) (a : Addr) (v : Value) (K : WK) (_ : Tok K) : Prop :=
  match v with
  | .agg cs => cellsT P t = some cs.size ∧ aggSt P w a cs.toList K .mk
  | .tuple _ => False
  | v => cellsT P t = some 1 ∧ cellSt w a v K .mk
theorem stK_one {P : Program} {t : TypeId} (h : cellsT P t = some 1) (w : World) (a : Addr) (K : WK) (tk : Tok K) (v : Value) (hv : v.oneCell' = true) : stK P t w a v K tk = cellSt w a v K .mk := by cases v <;> simp [stK, h, Value.oneCell'] at hv ⊢
theorem stK_int {P : Program} {t : TypeId} (h : cellsT P t = some 1) (w : World) (a : Addr) (K : WK) (tk : Tok K) (k : IntKind) (n : Int) : stK P t w a (.int k n) K tk = cellSt w a (.int k n) K .mk := by simp [stK, h]
theorem stK_bool {P : Program} {t : TypeId} (h : cellsT P t = some 1) (w : World) (a : Addr) (K : WK) (tk : Tok K) (b : Bool) : stK P t w a (.bool b) K tk = cellSt w a (.bool b) K .mk := by simp [stK, h]
theorem stK_string {P : Program} {t : TypeId} (h : cellsT P t = some 1) (w : World) (a : Addr) (K : WK) (tk : Tok K) (s : ByteArray) : stK P t w a (.string s) K tk = cellSt w a (.string s) K .mk := by simp [stK, h]
theorem stK_pointer {P : Program} {t : TypeId} (h : cellsT P t = some 1) (w : World) (a : Addr) (K : WK) (tk : Tok K) (p : Option Addr) : stK P t w a (.pointer p) K tk = cellSt w a (.pointer p) K .mk := by simp [stK, h]
theorem stK_slice {P : Program} {t : TypeId} (h : cellsT P t = some 1) (w : World) (a : Addr) (K : WK) (tk : Tok K) (p : Option Addr) (n c : Nat) : stK P t w a (.slice p n c) K tk = cellSt w a (.slice p n c) K .mk := by simp [stK, h]
theorem stK_map {P : Program} {t : TypeId} (h : cellsT P t = some 1) (w : World) (a : Addr) (K : WK) (tk : Tok K) (p : Option Nat) : stK P t w a (.map p) K tk = cellSt w a (.map p) K .mk := by simp [stK, h]
theorem stK_iface {P : Program} {t : TypeId} (h : cellsT P t = some 1) (w : World) (a : Addr) (K : WK) (tk : Tok K) (u : TypeId) (v : Value) : stK P t w a (.iface u v) K tk = cellSt w a (.iface u v) K .mk := by simp [stK, h]
theorem stK_nilIface {P : Program} {t : TypeId} (h : cellsT P t = some 1) (w : World) (a : Addr) (K : WK) (tk : Tok K) : stK P t w a .nilIface K tk = cellSt w a .nilIface K .mk := by simp [stK, h]
theorem stK_func {P : Program} {t : TypeId} (h : cellsT P t = some 1) (w : World) (a : Addr) (K : WK) (tk : Tok K) (f : Fn) (x y : Array Value) : stK P t w a (.func f x y) K tk = cellSt w a (.func f x y) K .mk := by simp [stK, h]
theorem stK_agg {P : Program} {t : TypeId} {n : Nat} (h : cellsT P t = some n) (w : World) (a : Addr) (cs : Array Value) (K : WK) (tk : Tok K) : stK P t w a (.agg cs) K tk = (n = cs.size ∧ aggSt P w a cs.toList K .mk) := by simp [stK, h]
/-- any other operation: by its run. -/
def genK (P : Program) (o : Oper) (ρ : Operand → Value) (w : World) (K : VWK) (_ : Tok (ρ, K)) : Prop :=
  ∃ v w', ((execOp ρ o).run P w = .ok (.value v) w' ∨ ((execOp ρ o).run P w = .ok .skip w' ∧ v = undef)) ∧ K v w'
def appK (P : Program) (ats : List TypeId) (ty : TypeId) (xs : List Value) (w : World) (K : VWK) (_ : Tok K) : Prop :=
  ∃ v w', (Builtin.append_ ats.toArray ty xs.toArray).run P w = .ok v w' ∧ K v w'
/-- a call of what the model answers by itself. -/
def extK (P : Program) (g : FuncId) (xs : List Value) (w : World) (K : VWK) (_ : Tok K) : Prop := ∃ v w', (callFunc g xs.toArray).run P w = .ok (.value v) w' ∧ K v w'
def goK (P : Program) (g : FuncId) (xs : List Value) (w : World) (K : VWK) (_ : Tok K) : Prop := if callable P g = true then CallsV P g xs w K else extK P g xs w K .mk
def callK (P : Program) (f : Value) (xs : List Value) (w : World) (K : VWK) (_ : Tok K) : Prop :=
  match f with
  | .func (.func g) first captured => goK P g (first.toList ++ xs ++ captured.toList) w K .mk
  | _ => False
theorem callK_func {P : Program} {g : FuncId} (h : callable P g = true) (xs : List Value) (w : World) (K : VWK) (tk : Tok K) : callK P (.func (.func g) #[] #[]) xs w K tk = callG P g xs w K .mk := by simp [callK, goK, callG, h]
theorem callK_clos {P : Program} {g : FuncId} (h : callable P g = true) (c : Array Value) (xs : List Value) (w : World) (K : VWK) (tk : Tok K) : callK P (.func (.func g) #[] c) xs w K tk = callG P g (xs ++ c.toList) w K .mk := by simp [callK, goK, callG, h]
theorem callK_ext {P : Program} {g : FuncId} (h : callable P g = false) (xs : List Value) (w : World) (K : VWK) (tk : Tok K) : callK P (.func (.func g) #[] #[]) xs w K tk = extK P g xs w K .mk := by simp [callK, goK, h]
/-- a method called through an interface. -/
def invK (P : Program) (x : Value) (name : String) (xs : List Value) (w : World) (K : VWK) (_ : Tok K) : Prop :=
  match x with
  | .iface t v => ∃ g r, (method (P.types.size + Made.depth) t v name).run P w = .ok (g, r) w ∧ goK P g (r :: xs) w K .mk
  | _ => False
theorem invK_func {P : Program} {t : TypeId} {v r : Value} {name : String} {g : FuncId} {xs : List Value} {w : World} {K : VWK} {tk : Tok K} (hm : (method (P.types.size + Made.depth) t v name).run P w = .ok (g, r) w) (hc : callable P g = true)
    (h : CallsV P g (r :: xs) w K) : invK P (.iface t v) name xs w K tk := ⟨g, r, hm, by rw [goK, if_pos hc]; exact h⟩
theorem invK_ext {P : Program} {t : TypeId} {v r : Value} {name : String} {g : FuncId} {xs : List Value} {w : World} {K : VWK} {tk : Tok K} (hm : (method (P.types.size + Made.depth) t v name).run P w = .ok (g, r) w) (hc : callable P g = false)
    (h : extK P g (r :: xs) w K .mk) : invK P (.iface t v) name xs w K tk := ⟨g, r, hm, by rw [goK, if_neg (by rw [hc]; simp)]; exact h⟩
/-- a type assertion: to an interface by its run. -/
def tasK (c : Option Bool) (G X : Prop) (_ : Tok G) (_ : Tok X) : Prop := if c = some true then G else X
theorem tasK_true (G X : Prop) (a : Tok G) (b : Tok X) : tasK (some true) G X a b = G := by simp [tasK]
theorem tasK_false (G X : Prop) (a : Tok G) (b : Tok X) : tasK (some false) G X a b = X := by simp [tasK]
def newK (w : World) (x : Option Value) (t : TypeId) (K : VWK) (_ : Tok K) : Prop := ∃ z, x = some z ∧ K (.pointer (some ⟨w.heap.size, 0, none⟩)) (w.alloc (.cells z.cells t))
theorem newK_some (w : World) (z : Value) (t : TypeId) (K : VWK) (tk : Tok K) : newK w (some z) t K tk = K (.pointer (some ⟨w.heap.size, 0, none⟩)) (w.alloc (.cells z.cells t)) := by simp [newK]
def bslK (w : World) (b : Option (TypeId × Nat × Array Value)) (len : Nat) (parts : List (Nat × Value)) (K : VWK) (_ : Tok K) : Prop :=
  ∃ e s z cs, b = some (e, s, z) ∧ Instr.fill (fun i => some (i * s, s)) z parts = some cs ∧ K (.slice (some ⟨w.heap.size, 0, none⟩) len len) (w.alloc (.cells cs e))
def fillK (x : Option (Array Value)) (K : Array Value → Prop) (_ : Tok K) : Prop := ∃ cs, x = some cs ∧ K cs
theorem fillK_some (cs : Array Value) (K : Array Value → Prop) (tk : Tok K) : fillK (some cs) K tk = K cs := by simp [fillK]
theorem bslK_some (w : World) (e : TypeId) (s : Nat) (z : Array Value) (len : Nat) (parts : List (Nat × Value)) (K : VWK) (tk : Tok K) :
    bslK w (some (e, s, z)) len parts K tk = fillK (Instr.fill (fun i => some (i * s, s)) z parts) (fun cs => K (.slice (some ⟨w.heap.size, 0, none⟩) len len) (w.alloc (.cells cs e))) .mk := by
  apply propext; constructor
  · rintro ⟨e', s', z', cs, h1, h2, h3⟩; cases h1; exact ⟨cs, h2, h3⟩
  · rintro ⟨cs, h2, h3⟩; exact ⟨e, s, z, cs, rfl, h2, h3⟩
def convK (c : CvT) (x : Value) (G X : Prop) (_ : Tok G) (_ : Tok X) : Prop := match c, x with
  | .other, _ => G
  | .strStr, .slice .. => G
  | .strStr, .int .. => G
  | _, _ => X
section
variable (G X : Prop) (tg : Tok G) (tx : Tok X)
theorem convK_int (k k' : IntKind) (n : Int) : convK (.toInt k) (.int k' n) G X tg tx = X := rfl
theorem convK_str (s : ByteArray) : convK .strStr (.string s) G X tg tx = X := rfl
theorem convK_bytes (a : Option Addr) (n c : Nat) : convK .strStr (.slice a n c) G X tg tx = G := rfl
theorem convK_other (x : Value) : convK .other x G X tg tx = G := rfl
end

def wpO (P : Program) (o : Oper) (ρ : Operand → Value) (w : World) (K : VWK) : Prop :=
  match o.op with
  | .load t x => ptrK (ρ x) (fun a => ldK P t w a (fun v => K v w) .mk) .mk
  | .store t x y => ptrK (ρ x) (fun a => stK P t w a (ρ y) (fun w' => K undef w') .mk) .mk
  | .alloc t => newK w (zeroT P t) t K .mk
  | .box t x => newK w (some (ρ x)) t K .mk
  | .buildSlice t len parts => bslK w (bsT P t len) len (parts.toList.map fun p => (p.1, ρ p.2)) K .mk
  | .call { callee := .value f, args, .. } => callK P (ρ f) (args.toList.map ρ) w K .mk
  | .call { callee := .builtin .append, args, argTypes } => appK P argTypes.toList o.type (args.toList.map ρ) w K .mk
  | .call { callee := .invoke x name, args, .. } => invK P (ρ x) name (args.toList.map ρ) w K .mk
  | .typeAssert x s t ok => tasK (ifaceT P t) (genK P o ρ w K .mk) (pureK (pureOp P (.typeAssert x s t ok) ρ) (fun v => K v w) .mk) .mk .mk
  | .call { callee := .builtin .copy, .. } | .call { callee := .builtin .delete, .. } | .call { callee := .builtin .clear, .. } | .makeSlice .. | .makeMap .. | .lookup .. | .mapUpdate .. | .insert .. | .range .. | .next .. | .entry .. | .mapEntry .. | .entryStore .. => genK P o ρ w K .mk
  | .convert s d x => convK (convT P s d) (ρ x) (genK P o ρ w K .mk) (pureK (pureOp P (.convert s d x) ρ) (fun v => K v w) .mk) .mk .mk
  | op => pureK (pureOp P op ρ) (fun v => K v w) .mk

theorem upon_pure {P : Program} {o : Oper} {ρ : Operand → Value} {a : Act} {w : World} {K : Value → World → Prop} {K' : Act → World → Prop} {Q : Exit → Act → World → Prop}
    (hK : ∀ v w', K v w' → K' (a.put o.dst v) w') (h : pureK (pureOp P o.op ρ) (fun v => K v w) .mk) : o.upon P a K' Q ((execOp ρ o).run P w) := by
  obtain ⟨v, hv, hk⟩ := h
  rw [pureOp_sound hv w]
  exact hK _ _ hk

theorem upon_gen {P : Program} {o : Oper} {ρ : Operand → Value} {a : Act} {w : World} {K : Value → World → Prop} {K' : Act → World → Prop} {Q : Exit → Act → World → Prop}
    (hK : ∀ v w', K v w' → K' (a.put o.dst v) w') (h : genK P o ρ w K .mk) : o.upon P a K' Q ((execOp ρ o).run P w) := by
  obtain ⟨v, w', hv | ⟨hv, rfl⟩, hk⟩ := h
  · rw [hv]; exact hK _ _ hk
  · rw [hv]; exact hK _ _ hk

theorem run_loadVar_of {P : Program} {t : TypeId} {w : World} {a : Addr} {K : Value → Prop} {tk : Tok K} (h : ldK P t w a K tk) : ∃ v, (loadVar t a).run P w = .ok v w ∧ K v := by
  unfold ldK at h
  split at h
  · rename_i hg
    obtain ⟨v, hv, hk⟩ := h
    refine ⟨v, ?_, hk⟩
    unfold loadVar
    rw [Sem.run_bind, run_isAgg hg]
    simp [hv]
  · rename_i hg
    obtain ⟨cs, hn, hc, hk⟩ := h
    refine ⟨_, ?_, hk⟩
    unfold loadVar
    rw [Sem.run_bind, run_isAgg hg]
    have := run_loadCells_list (P := P) (w := w) a cs hc
    simp only [Result.andThen_ok, if_true, Sem.run_bind, run_sizeOf hn, this, Sem.run_pure]
  · cases h

theorem run_storeVar_of {P : Program} {t : TypeId} {w : World} {a : Addr} {v : Value} {K : World → Prop} {tk : Tok K} (h : stK P t w a v K tk) : ∃ w', (storeVar t a v).run P w = .ok () w' ∧ K w' := by
  have one : ∀ v : Value, v.oneCell' = true → (cellsT P t = some 1 ∧ (∃ u, w.cell? a = some u) ∧ w.frozen? a = false ∧ K (w.setCell a v)) → ∃ w', (storeVar t a v).run P w = .ok () w' ∧ K w' := by
    intro v hv ⟨hn, ⟨u, hu⟩, hf, hk⟩
    refine ⟨_, ?_, hk⟩
    have hc : v.cells = #[v] := by cases v <;> first | rfl | (simp [Value.oneCell'] at hv)
    unfold storeVar
    simp only [Sem.run_bind, run_sizeOf hn, Result.andThen_ok, hc, List.size_toArray, List.length_cons, List.length_nil, Nat.zero_add, ne_eq, not_true_eq_false, if_false]
    simp [storeCells, Addr.add, run_store P w a v .plain hv, hu, hf]
  unfold stK at h
  split at h
  · rename_i cs
    obtain ⟨hn, w', hr, hk⟩ := h
    refine ⟨w', ?_, hk⟩
    unfold storeVar
    simp [run_sizeOf hn, Value.cells, hr]
  · cases h
  · rename_i h1 h2
    refine one v ?_ h
    cases v <;> first | rfl | (exact absurd rfl (h1 _)) | (exact absurd rfl (h2 _))

theorem run_callFunc {P : Program} {g : FuncId} {args : Array Value} {w : World} (h : callable P g = true) : (callFunc g args).run P w = .ok (.enter g args) w := by
  unfold callable at h
  split at h
  · rename_i fn hf
    simp only [Bool.and_eq_true, Bool.not_eq_true'] at h
    unfold callFunc
    simp [hf, h.1]
    cases hb : fn.body with
    | none => simp [hb] at h
    | some b => simp; simpa using h.1
  · cases h

theorem upon_go {P : Program} {o : Oper} {a : Act} {g : FuncId} {xs : List Value} {w : World} {K : Value → World → Prop} {K' : Act → World → Prop} {Q : Exit → Act → World → Prop}
    (hK : ∀ v w', K v w' → K' (a.put o.dst v) w') (h : goK P g xs w K .mk) : o.upon P a K' Q ((callFunc g xs.toArray).run P w) := by
  unfold goK at h
  split at h
  · rename_i hc
    rw [run_callFunc hc]
    exact Calls.mono h fun e w' ⟨v, he, hk⟩ => by subst he; exact hK _ _ hk
  · obtain ⟨v, w', hr, hk⟩ := h
    rw [hr]
    exact hK _ _ hk

theorem wpO_sound {P : Program} {o : Oper} {a : Act} {w : World} {K : Value → World → Prop} {K' : Act → World → Prop} {Q : Exit → Act → World → Prop}
    (hK : ∀ v w', K v w' → K' (a.put o.dst v) w') (h : wpO P o a.eval w K) : o.wp P a w K' Q := by
  unfold Oper.wp
  unfold wpO at h
  split at h
  case h_1 t x hop =>
    obtain ⟨ad, hx, hl⟩ := h
    obtain ⟨v, hr, hk⟩ := run_loadVar_of hl
    have : (execOp a.eval o).run P w = .ok (.value v) w := by
      unfold execOp
      simp only [hop, hx, Instr.loadAt, Instr.sureAddr, Sem.run_bind, Sem.run_pure, Result.andThen_ok, hr]
    rw [this]; exact hK _ _ hk
  case h_2 t x y hop =>
    obtain ⟨ad, hx, hl⟩ := h
    obtain ⟨w', hr, hk⟩ := run_storeVar_of hl
    have : (execOp a.eval o).run P w = .ok .skip w' := by
      unfold execOp
      simp only [hop, hx, Instr.storeAt, Instr.sureAddr, Sem.run_bind, Sem.run_pure, Result.andThen_ok, hr]
    rw [this]; exact hK _ _ hk
  case h_3 t hop =>
    obtain ⟨z, hz, hk⟩ := h
    have : (execOp a.eval o).run P w = .ok (.value (.pointer (some ⟨w.heap.size, 0, none⟩))) (w.alloc (.cells z.cells t)) := by
      unfold zeroT at hz
      obtain ⟨i, hi, hz⟩ := Option.bind_eq_some_iff.1 hz
      unfold execOp
      simp only [hop, Instr.alloc, zeroValue, typeInfo, Sem.run_bind, run_program, Result.andThen_ok, hi, hz, Sem.run_pure, newVar, newRow, run_newObj]
      rfl
    rw [this]; exact hK _ _ hk
  case h_4 t x hop =>
    rw [newK_some] at h
    have : (execOp a.eval o).run P w = .ok (.value (.pointer (some ⟨w.heap.size, 0, none⟩))) (w.alloc (.cells (a.eval x).cells t)) := by
      unfold execOp
      simp only [hop, Instr.box, Sem.run_bind, Result.andThen_ok, Sem.run_pure, newVar, newRow, run_newObj]
      rfl
    rw [this]; exact hK _ _ h
  case h_5 t len parts hop =>
    obtain ⟨e, s, z, cs, hb, hf, hk⟩ := h
    have : (execOp a.eval o).run P w = .ok (.value (.slice (some ⟨w.heap.size, 0, none⟩) len len)) (w.alloc (.cells cs e)) := by
      unfold bsT at hb
      split at hb
      · rename_i e' hu
        split at hb
        · rename_i s' z' hs hz
          split at hb
          · cases hb
          · rename_i hle
            injection hb with hb
            injection hb with h1 hb
            injection hb with h2 hb
            subst h1; subst h2; subst hb
            unfold zeroT at hz
            obtain ⟨i, hi, hz⟩ := Option.bind_eq_some_iff.1 hz
            have hpow : (2 : Nat) ^ 24 = 16777216 := by decide
            have hf' : Instr.fill (fun i => some (i * s', s')) ((Array.range (len * s')).map fun i => (if len * s' = 0 then (#[] : Array Value) else z'.cells)[i % (if len * s' = 0 then (#[] : Array Value) else z'.cells).size]!) (parts.map fun (i, x) => (i, a.eval x)).toList = some cs := by
              by_cases h0 : len * s' = 0
              · rw [h0] at hf ⊢
                have h00 : Array.range 0 = #[] := rfl
                simpa only [h00, List.map_toArray, List.map_nil, Array.toList_map] using hf
              · rw [if_neg h0]; simpa using hf
            unfold execOp
            simp only [hop, Instr.buildSlice, Sem.run_bind, run_underlying hu, Result.andThen_ok, run_sizeOf hs, hpow, hle, if_false, Sem.run_ite, Sem.run_pure, zeroValue, typeInfo, run_program, hi, hz]
            by_cases h0 : len * s' = 0
            · rw [if_pos h0] at hf'
              simp only [h0, if_true, Result.andThen_ok] at hf' ⊢
              simp only [hf', Sem.run_bind, newRow, run_newObj, Result.andThen_ok, Sem.run_pure]
              rfl
            · rw [if_neg h0] at hf'
              simp only [h0, if_false, Result.andThen_ok] at hf' ⊢
              simp only [hf', Sem.run_bind, newRow, run_newObj, Result.andThen_ok, Sem.run_pure]
              rfl
        · cases hb
      · cases hb
    rw [this]; exact hK _ _ hk
  case h_6 f args ats hop =>
    unfold callK at h
    split at h
    · rename_i g first captured hf
      have : (execOp a.eval o).run P w = (callFunc g (first.toList ++ args.toList.map a.eval ++ captured.toList).toArray).run P w := by
        unfold execOp
        simp only [hop, resolve, hf, Deferred.ofValue, Sem.run_bind, Sem.run_pure, Result.andThen_ok, invoke]
        congr 2
        apply Array.ext'
        simp
      rw [this]
      exact upon_go hK h
    · cases h
  case h_7 args ats hop =>
    obtain ⟨v, w', hr, hk⟩ := h
    have : (execOp a.eval o).run P w = .ok (.value v) w' := by
      unfold execOp
      have e : args.map a.eval = (args.toList.map a.eval).toArray := by apply Array.ext'; simp
      simp only [hop, resolve, invoke, builtin, Sem.run_bind, Sem.run_pure, Result.andThen_ok, e]
      simp only [Array.toArray_toList] at hr
      rw [hr]; rfl
    rw [this]; exact hK _ _ hk
  case h_8 x name args ats hop =>
    unfold invK at h
    split at h
    · rename_i t v hx
      obtain ⟨g, r, hm, h⟩ := h
      have : (execOp a.eval o).run P w = (callFunc g (r :: args.toList.map a.eval).toArray).run P w := by
        have e : #[r] ++ (#[a.eval x] ++ args.map a.eval).extract 1 (#[a.eval x] ++ args.map a.eval).size = (r :: args.toList.map a.eval).toArray := by
          apply Array.ext'
          simp
          exact List.take_of_length_le (by simp)
        have h0 : (#[a.eval x] ++ args.map a.eval)[0]? = some (a.eval x) := by rw [Array.getElem?_append_left (by simp)]; rfl
        rw [hx] at e h0
        unfold execOp
        simp only [hop, resolve, hx, Sem.run_bind, Sem.run_pure, Result.andThen_ok, invoke, h0, callMethod, run_program, hm, e]
      rw [this]
      exact upon_go hK h
    · cases h
  case h_9 x s t ok hop =>
    unfold tasK at h
    split at h
    · exact upon_gen hK h
    · exact upon_pure hK (by rw [hop]; exact h)
  all_goals first | exact upon_gen hK h | exact upon_pure hK h | (rename_i hop; unfold convK at h; split at h <;> first | exact upon_gen hK h | exact upon_pure hK (by rw [hop]; exact h))


/-! ### regions, code -/

inductive Ex where
  | normal
  | exit (id : Nat)
  | ret

def yieldE (ops : Array Oper) (e : Env) (j : Nat) : Option Bool :=
  match (ops[j]?).bind (·.dst) with
  | some d => match e d with
    | .bool b => some b
    | _ => none
  | none => none

def wpOs (P : Program) (ops : Array Oper) (Q : Env → World → Prop) : List Oper → Env → World → Prop
  | [], e, w => Q e w
  | o :: r, e, w => match o.guard with
    | none => wpO P o (ev e) w fun v w' => wpOs P ops Q r (put e o.dst v) w'
    | some (j, want) => guardK (yieldE ops e j) want (wpO P o (ev e) w fun v w' => wpOs P ops Q r (put e o.dst v) w') (wpOs P ops Q r (put e o.dst undef) w) .mk .mk

def dstsFit (n : Nat) (ops : Array Oper) : Bool := ops.all fun o => match o.dst with | some d => decide (d < n) | none => true

def liftQ (n : Nat) (Q : Ex → Env → World → Prop) : Exit → Act → World → Prop
  | .normal, a, w => a.defers = [] ∧ a.tmps.size = n ∧ Q .normal (envOf a) w
  | .exit i, a, w => a.defers = [] ∧ a.tmps.size = n ∧ Q (.exit i) (envOf a) w
  | .ret, a, w => a.defers = [] ∧ a.tmps.size = n ∧ Q .ret (envOf a) w
  | _, _, _ => False

def onlyN (Q : Env → World → Prop) : Ex → Env → World → Prop
  | .normal => Q
  | _ => fun _ _ => False
/-- a region that draws its order: semantically. -/
def wpDraw (P : Program) (ops : Array Oper) (Q : Env → World → Prop) (e : Env) (w : World) (_ : Tok (Q, e, w)) : Prop :=
  ∀ a : Act, a.defers = [] → envOf a = e → dstsFit a.tmps.size ops = true →
    wpAny P .any ops (liftQ a.tmps.size (onlyN Q)) ops.size (Array.replicate ops.size false) a { w with drawn := w.drawn + 1 }

def wpLoop (body : (Ex → Env → World → Prop) → Env → World → Prop) (Q : Ex → Env → World → Prop) (e : Env) (w : World) (_ : Tok (body, Q, e, w)) : Prop :=
  ∃ (I : Env → World → Prop) (μ : Env → World → Nat), I e w ∧ ∀ e w, I e w → body (fun ex e' w' => match ex with
    | .normal => I e' w' ∧ μ e' w' < μ e w
    | ex => Q ex e' w') e w

def wpC (P : Program) : Code → (Ex → Env → World → Prop) → Env → World → Prop
  | .skip, Q, e, w => Q .normal e w
  | .region _ ops false, Q, e, w => wpOs P ops (Q .normal) ops.toList e w
  | .region _ ops true, Q, e, w => wpDraw P ops (Q .normal) e w .mk
  | .seq a b, Q, e, w => wpC P a (fun ex e w => match ex with | .normal => wpC P b Q e w | .exit i => Q (.exit i) e w | .ret => Q .ret e w) e w
  | .cond c x y, Q, e, w => boolK (ev e c) (wpC P x Q e w) (wpC P y Q e w) .mk .mk
  | .block id b, Q, e, w => wpC P b (fun ex e w => match ex with | .normal => Q .normal e w | .exit j => if j = id then Q .normal e w else Q (.exit j) e w | .ret => Q .ret e w) e w
  | .loop b, Q, e, w => wpLoop (wpC P b) Q e w .mk
  | .exit id, Q, e, w => Q (.exit id) e w
  | .ret, Q, e, w => Q .ret e w
  | _, _, _, _ => False

/-- all slots that are written lie in the frame. -/
def fits (n : Nat) : Code → Bool
  | .region _ ops _ => dstsFit n ops
  | .seq a b => fits n a && fits n b
  | .cond _ x y => fits n x && fits n y
  | .block _ b => fits n b
  | .loop b => fits n b
  | _ => true

theorem yielded_env (ops : Array Oper) (a : Act) (j : Nat) : yielded ops a.tmps j = yieldE ops (envOf a) j := by
  unfold yielded yieldE
  cases (ops[j]?).bind (·.dst) with
  | none => rfl
  | some d =>
    simp only [Option.bind_some, envOf, Array.getD_eq_getD_getElem?]
    cases a.tmps[d]? with
    | none => rfl
    | some v => cases v <;> rfl

theorem dstsFit_mem {n : Nat} {ops : Array Oper} (h : dstsFit n ops = true) {o : Oper} (ho : o ∈ ops.toList) : ∀ d, o.dst = some d → d < n := by
  intro d hd
  have := Array.all_eq_true_iff_forall_mem.1 h o (by simpa using ho)
  simpa [hd] using this

theorem wpOs_sound {P : Program} {ops : Array Oper} {n : Nat} {Q : Ex → Env → World → Prop} (hf : dstsFit n ops = true) : ∀ (l : List Oper), (∀ o ∈ l, o ∈ ops.toList) →
    ∀ (a : Act) (w : World), a.defers = [] → a.tmps.size = n → wpOs P ops (Q .normal) l (envOf a) w → wpList P ops (liftQ n Q) l a w
  | [], _, a, w, hd, hs, h => ⟨hd, hs, h⟩
  | o :: r, hm, a, w, hd, hs, h => by
    have hdst := dstsFit_mem hf (hm o (by simp))
    have step : ∀ v w', wpOs P ops (Q .normal) r (put (envOf a) o.dst v) w' → wpList P ops (liftQ n Q) r (a.put o.dst v) w' := fun v w' h' =>
      wpOs_sound hf r (fun x hx => hm x (by simp [hx])) _ _ (by rw [put_defers']; exact hd) (by rw [put_size]; exact hs) (by rw [envOf_put (by rw [hs]; exact hdst)]; exact h')
    unfold wpList
    unfold wpOs at h
    split at h
    · rename_i hg
      rw [if_pos (by simp [Region.wanted, hg])]
      exact .inl (wpO_sound step (by rw [eval_envOf]; exact h))
    · rename_i j want hg
      by_cases hy : yieldE ops (envOf a) j = some want
      · rw [if_pos (by simp [Region.wanted, hg, yielded_env, hy])]
        exact .inl (wpO_sound step (by rw [eval_envOf]; exact h.1 hy))
      · rw [if_neg (by simp [Region.wanted, hg, yielded_env, hy])]
        exact step _ _ (h.2 hy)

theorem wpC_sound {P : Program} (hm : P.follows .mixedOrders = true) {n : Nat} : ∀ (c : Code), fits n c = true → ∀ (Q : Ex → Env → World → Prop) (a : Act) (w : World), a.defers = [] → a.tmps.size = n →
    wpC P c Q (envOf a) w → c.wp P (liftQ n Q) a w
  | .skip, _, Q, a, w, hd, hs, h => wp_skip ⟨hd, hs, h⟩
  | .region id ops false, hf, Q, a, w, hd, hs, h => wp_region_list (wpOs_sound hf ops.toList (fun _ h => h) a w hd hs (by simpa only [wpC] using h))
  | .region id ops true, hf, Q, a, w, hd, hs, h => by
    simp only [wpC] at h
    have h1 := h a hd rfl (by rw [hs]; exact hf)
    have h2 := wp_region_any (id := id) hm h1
    refine wp_mono h2 ?_
    intro ex a' w' hq
    cases ex <;> simp only [liftQ, onlyN, and_false] at hq
    exact ⟨hq.1, by rw [hq.2.1, hs], hq.2.2⟩
  | .seq x y, hf, Q, a, w, hd, hs, h => by
    simp only [wpC] at h
    simp only [fits, Bool.and_eq_true] at hf
    refine wp_seq (wp_mono (wpC_sound hm x hf.1 _ a w hd hs h) ?_)
    intro ex a' w' hq
    cases ex <;> simp only [liftQ] at hq <;> simp only [Exit.then, liftQ]
    · exact wpC_sound hm y hf.2 Q a' w' hq.1 hq.2.1 hq.2.2
    · exact hq
    · exact hq
  | .cond c x y, hf, Q, a, w, hd, hs, h => by
    simp only [wpC] at h
    simp only [fits, Bool.and_eq_true] at hf
    obtain ⟨t, ht, h1, h2⟩ := h
    exact wp_cond_split (t := t) (by rw [eval_envOf]; exact ht) (fun h => wpC_sound hm x hf.1 Q a w hd hs (h1 h)) (fun h => wpC_sound hm y hf.2 Q a w hd hs (h2 h))
  | .block id b, hf, Q, a, w, hd, hs, h => by
    simp only [wpC] at h
    refine wp_block (wp_mono (wpC_sound hm b (by simpa only [fits] using hf) _ a w hd hs h) ?_)
    intro ex a' w' hq
    cases ex <;> simp only [liftQ] at hq <;> simp only [Exit.inBlock, liftQ]
    · exact hq
    · rename_i j
      by_cases hj : j = id
      · simp only [hj, if_true] at hq ⊢; exact hq
      · simp only [hj, if_false] at hq ⊢; exact hq
    · exact hq
  | .loop b, hf, Q, a, w, hd, hs, h => by
    simp only [wpC] at h
    obtain ⟨I, μ, h0, hr⟩ := h
    refine wp_loop (fun a w => a.defers = [] ∧ a.tmps.size = n ∧ I (envOf a) w) (fun a w => μ (envOf a) w) ⟨hd, hs, h0⟩ ?_
    rintro a w ⟨hd, hs, hI⟩
    refine wp_mono (wpC_sound hm b (by simpa only [fits] using hf) _ a w hd hs (hr _ _ hI)) ?_
    intro ex a' w' hq
    cases ex <;> simp only [liftQ] at hq <;> simp only [Exit.then, liftQ]
    · exact ⟨⟨hq.1, hq.2.1, hq.2.2.1⟩, hq.2.2.2⟩
    · exact hq
    · exact hq
  | .exit id, _, Q, a, w, hd, hs, h => wp_exit ⟨hd, hs, h⟩
  | .ret, _, Q, a, w, hd, hs, h => wp_ret ⟨hd, hs, h⟩
  | .rangeFunc .., _, _, _, _, _, _, h => by simp only [wpC] at h
  | .scope .., _, _, _, _, _, _, h => by simp only [wpC] at h
  | .label .., _, _, _, _, _, _, h => by simp only [wpC] at h
  | .goto .., _, _, _, _, _, _, h => by simp only [wpC] at h
  | .refuse .., _, _, _, _, _, _, h => by simp only [wpC] at h

theorem pureK_mono {x : Option Value} {K K' : VK} {t : Tok K} {t' : Tok K'} (h : ∀ v, K v → K' v) (hx : pureK x K t) : pureK x K' t' := hx.imp fun v hv => ⟨hv.1, h v hv.2⟩
theorem ptrK_mono {x : Value} {K K' : Addr → Prop} {t : Tok K} {t' : Tok K'} (h : ∀ v, K v → K' v) (hx : ptrK x K t) : ptrK x K' t' := hx.imp fun v hv => ⟨hv.1, h v hv.2⟩
theorem ldK_mono {P : Program} {ty : TypeId} {w : World} {a : Addr} {K K' : VK} {t : Tok K} {t' : Tok K'} (h : ∀ v, K v → K' v) (hx : ldK P ty w a K t) : ldK P ty w a K' t' := by
  unfold ldK at hx ⊢
  split at hx
  · exact pureK_mono h hx
  · exact hx.imp fun cs hc => ⟨hc.1, hc.2.1, h _ hc.2.2⟩
  · cases hx
theorem stK_mono {P : Program} {ty : TypeId} {w : World} {a : Addr} {v : Value} {K K' : WK} {t : Tok K} {t' : Tok K'} (h : ∀ v, K v → K' v) (hx : stK P ty w a v K t) : stK P ty w a v K' t' := by
  unfold stK at hx ⊢
  split at hx
  · exact ⟨hx.1, hx.2.imp fun w' hw => ⟨hw.1, h _ hw.2⟩⟩
  · cases hx
  · exact ⟨hx.1, hx.2.1, hx.2.2.1, h _ hx.2.2.2⟩
theorem genK_mono {P : Program} {o : Oper} {ρ : Operand → Value} {w : World} {K K' : VWK} {t : Tok (ρ, K)} {t' : Tok (ρ, K')} (h : ∀ v w, K v w → K' v w) (hx : genK P o ρ w K t) : genK P o ρ w K' t' :=
  hx.imp fun v hv => hv.imp fun w' hw => ⟨hw.1, h _ _ hw.2⟩
theorem goK_mono {P : Program} {g : FuncId} {xs : List Value} {w : World} {K K' : VWK} {t : Tok K} {t' : Tok K'} (h : ∀ v w, K v w → K' v w) (hx : goK P g xs w K t) : goK P g xs w K' t' := by
  unfold goK at hx ⊢
  split
  · rename_i hc; rw [if_pos hc] at hx; exact hx.mono h
  · rename_i hc; rw [if_neg hc] at hx; exact hx.imp fun v hv => hv.imp fun w' hw => ⟨hw.1, h _ _ hw.2⟩
theorem callK_mono {P : Program} {f : Value} {xs : List Value} {w : World} {K K' : VWK} {t : Tok K} {t' : Tok K'} (h : ∀ v w, K v w → K' v w) (hx : callK P f xs w K t) : callK P f xs w K' t' := by
  cases f <;> simp only [callK] at hx ⊢
  rename_i fn a b
  cases fn <;> simp only [] at hx ⊢
  exact goK_mono h hx
theorem invK_mono {P : Program} {x : Value} {name : String} {xs : List Value} {w : World} {K K' : VWK} {t : Tok K} {t' : Tok K'} (h : ∀ v w, K v w → K' v w) (hx : invK P x name xs w K t) : invK P x name xs w K' t' := by
  cases x <;> simp only [invK] at hx ⊢
  obtain ⟨g, r, hm, hg⟩ := hx
  exact ⟨g, r, hm, goK_mono h hg⟩
theorem wpO_mono {P : Program} {o : Oper} {ρ : Operand → Value} {w : World} {K K' : VWK} (h : ∀ v w, K v w → K' v w) (hx : wpO P o ρ w K) : wpO P o ρ w K' := by
  unfold wpO at hx ⊢
  split at hx <;> first
    | exact genK_mono h hx
    | exact pureK_mono (fun v => h v w) hx
    | exact ptrK_mono (fun a => ldK_mono fun v => h v w) hx
    | exact ptrK_mono (fun a => stK_mono fun w' => h _ w') hx
    | exact hx.imp fun z hz => ⟨hz.1, h _ _ hz.2⟩
    | (obtain ⟨e, s, z, cs, h1, h2, h3⟩ := hx; exact ⟨e, s, z, cs, h1, h2, h _ _ h3⟩)
    | exact callK_mono h hx
    | exact invK_mono h hx
    | (unfold tasK at hx ⊢; split at hx <;> first | (rename_i hc; rw [if_pos hc]; exact genK_mono h hx) | (rename_i hc; rw [if_neg hc]; exact pureK_mono (fun v => h v w) hx))
    | exact hx.imp fun v hv => hv.imp fun w' hw => ⟨hw.1, h _ _ hw.2⟩
    | (unfold convK at hx ⊢; split at hx <;> first | exact genK_mono h hx | exact pureK_mono (fun v => h v w) hx)
theorem wpOs_mono {P : Program} {ops : Array Oper} {Q Q' : Env → World → Prop} (h : ∀ e w, Q e w → Q' e w) : ∀ (l : List Oper) (e : Env) (w : World), wpOs P ops Q l e w → wpOs P ops Q' l e w
  | [], e, w, hx => h e w hx
  | o :: r, e, w, hx => by
    unfold wpOs at hx ⊢
    split at hx
    · exact wpO_mono (fun v w' => wpOs_mono h r _ w') hx
    · exact ⟨fun hy => wpO_mono (fun v w' => wpOs_mono h r _ w') (hx.1 hy), fun hy => wpOs_mono h r _ w (hx.2 hy)⟩
theorem liftQ_mono {n : Nat} {Q Q' : Ex → Env → World → Prop} (h : ∀ ex e w, Q ex e w → Q' ex e w) (ex : Exit) (a : Act) (w : World) (hx : liftQ n Q ex a w) : liftQ n Q' ex a w := by
  cases ex <;> simp only [liftQ] at hx ⊢ <;> exact ⟨hx.1, hx.2.1, h _ _ _ hx.2.2⟩
theorem wpAny_monoN {P : Program} {ops : Array Oper} {n : Nat} {Q Q' : Env → World → Prop} (h : ∀ e w, Q e w → Q' e w) : ∀ (fuel : Nat) (listed : Array Bool) (a : Act) (w : World),
    wpAny P .any ops (liftQ n (onlyN Q)) fuel listed a w → wpAny P .any ops (liftQ n (onlyN Q')) fuel listed a w := by
  have hN : ∀ ex e w, onlyN Q ex e w → onlyN Q' ex e w := by intro ex e w hx; cases ex <;> first | exact h e w hx | exact hx
  have hop : ∀ (i : Nat) (K K' : Act → World → Prop) (a : Act) (w : World), (∀ a w, K a w → K' a w) → wpOp P ops (liftQ n (onlyN Q)) i K a w → wpOp P ops (liftQ n (onlyN Q')) i K' a w := by
    intro i K K' a w hk hx
    unfold wpOp at hx ⊢
    split at hx
    · rename_i ho; exact hk _ _ hx
    · rename_i o ho
      split at hx
      · rename_i hw
        rw [if_pos hw]
        rcases hx with hx | ⟨_, a0, w0, hq⟩
        · left
          unfold Oper.wp at hx ⊢
          generalize (execOp a.eval o).run P w = r at *
          cases r with
          | ok nx w' =>
            cases nx <;> simp only [Oper.upon] at hx ⊢ <;> first
              | exact hk _ _ hx
              | exact Calls.mono hx (fun e w'' he => by cases e <;> first | exact hk _ _ he | exact he.elim | (obtain ⟨_, _, hq⟩ := he; exact hq.elim))
              | exact Rows.mono hx (fun _ _ he => hk _ _ he)
          | halt x w' => cases x <;> simp only [Oper.upon] at hx ⊢ <;> exact hx.elim
        · exact hq.elim
      · rename_i hw
        rw [if_neg hw]
        exact hk _ _ hx
  intro fuel
  induction fuel with
  | zero => intro listed a w hx; exact ⟨hx.1, liftQ_mono hN _ _ _ hx.2⟩
  | succ fuel ih =>
    intro listed a w hx
    exact ⟨fun h0 => liftQ_mono hN _ _ _ (hx.1 h0), fun i hi => hop i _ _ a w (fun a' w' => ih _ a' w') (hx.2 i hi)⟩
theorem wpC_mono {P : Program} {Q Q' : Ex → Env → World → Prop} (h : ∀ ex e w, Q ex e w → Q' ex e w) : ∀ (c : Code) (e : Env) (w : World), wpC P c Q e w → wpC P c Q' e w := by
  intro c
  induction c generalizing Q Q' with
  | skip => intro e w hx; exact h _ _ _ hx
  | region id ops d =>
    intro e w hx
    cases d with
    | false => exact wpOs_mono (h .normal) _ _ _ hx
    | true => exact fun a hd he hf => wpAny_monoN (h .normal) _ _ _ _ (hx a hd he hf)
  | seq a b iha ihb =>
    intro e w hx
    refine iha ?_ e w hx
    intro ex e w hq
    cases ex
    · exact ihb h e w hq
    · exact h _ _ _ hq
    · exact h _ _ _ hq
  | cond c x y ihx ihy =>
    intro e w hx
    obtain ⟨t, ht, h1, h2⟩ := hx
    exact ⟨t, ht, fun hh => ihx h e w (h1 hh), fun hh => ihy h e w (h2 hh)⟩
  | block id b ih =>
    intro e w hx
    refine ih ?_ e w hx
    intro ex e w hq
    cases ex with
    | normal => exact h _ _ _ hq
    | exit j => dsimp only at hq ⊢; split at hq <;> (rename_i hj; simp only [hj, if_true, if_false]; exact h _ _ _ hq)
    | ret => exact h _ _ _ hq
  | loop b ih =>
    intro e w hx
    obtain ⟨I, μ, h0, hr⟩ := hx
    refine ⟨I, μ, h0, fun e w hI => ih ?_ e w (hr e w hI)⟩
    intro ex e' w' hq
    cases ex
    · exact hq
    · exact h _ _ _ hq
    · exact h _ _ _ hq
  | exit id => intro e w hx; exact h _ _ _ hx
  | ret => intro e w hx; exact h _ _ _ hx
  | rangeFunc => intro e w hx; cases hx
  | scope b ih => intro e w hx; cases hx
  | label => intro e w hx; cases hx
  | goto => intro e w hx; cases hx
  | refuse => intro e w hx; cases hx

/-! ### functions -/

def resK (P : Program) : List ResultVar → Env → World → (List Value → Prop) → Prop
  | [], _, _, K => K []
  | .tmp t :: r, e, w, K => resK P r e w fun vs => K (e t :: vs)
  | .cell t ty :: r, e, w, K => ptrK (e t) (fun a => ldK P ty w a (fun v => resK P r e w fun vs => K (v :: vs)) .mk) .mk
def endV : List Value → Value
  | [v] => v
  | vs => .tuple vs.toArray

def resOne (a : Act) : ResultVar → Sem Value
  | .tmp t => pure (a.tmps.getD t undef)
  | .cell x t => do loadVar t (← asAddr (a.tmps.getD x undef))
theorem results_one (fn : Func) (a : Act) : results fn a.tmps = (do
    let vs ← fn.results.mapM (resOne a)
    pure (if h : vs.size = 1 then vs[0] else .tuple vs)) := by
  unfold results
  congr 2

theorem run_resK {P : Program} {w : World} {a : Act} : ∀ (rs : List ResultVar) (K : List Value → Prop), resK P rs (envOf a) w K →
    ∃ vs, (rs.mapM (resOne a)).run P w = .ok vs w ∧ K vs
  | [], K, h => ⟨[], rfl, h⟩
  | .tmp t :: r, K, h => by
    obtain ⟨vs, hr, hk⟩ := run_resK r _ h
    refine ⟨_, ?_, hk⟩
    rw [List.mapM_cons]
    simp only [resOne, Sem.run_bind, Sem.run_pure, Result.andThen_ok, hr]
    rfl
  | .cell t ty :: r, K, h => by
    obtain ⟨ad, ha, hl⟩ := h
    obtain ⟨v, hv, hk⟩ := run_loadVar_of hl
    obtain ⟨vs, hr, hk⟩ := run_resK r _ hk
    refine ⟨_, ?_, hk⟩
    have ha' : a.tmps.getD t undef = .pointer (some ad) := ha
    rw [List.mapM_cons]
    simp only [Sem.run_bind]
    simp only [resOne, Sem.run_bind, ha', asAddr, Sem.run_pure, Result.andThen_ok, hv]
    rw [hr]
    rfl

theorem calls_of_wpC {P : Program} (hm : P.follows .mixedOrders = true) {f : FuncId} {fn : Func} {c : Code} {args : List Value} {w : World} {R : Value → World → Prop}
    (hf : P.funcs[f]? = some fn) (hb : fn.body = some c) (hfit : (fits fn.ntmps c && decide (args.length ≤ fn.ntmps)) = true)
    (h : ∀ e : Env, (∀ i, e i = args.getD i undef) → wpC P c (fun ex e w => match ex with
      | .exit _ => False
      | _ => resK P fn.results.toList e w fun vs => R (endV vs) w) e w) : CallsV P f args w R := by
  simp only [Bool.and_eq_true, decide_eq_true_eq] at hfit
  refine calls_of_wp hf hb ?_
  have hsz : (args.toArray ++ Array.replicate (fn.ntmps - args.toArray.size) undef).size = fn.ntmps := by simp; omega
  refine wp_mono (wpC_sound hm c hfit.1 _ _ w rfl hsz (h _ ?_)) ?_
  · intro i
    simp only [envOf, Array.getD_eq_getD_getElem?]
    rw [List.getD_eq_getElem?_getD]
    by_cases hi : i < args.length
    · rw [Array.getElem?_append_left (by simpa using hi)]; simp
    · rw [Array.getElem?_append_right (by simpa using hi), List.getElem?_eq_none (by omega), Array.getElem?_replicate]
      split <;> rfl
  · intro ex a' w' hq
    have fin : ∀ a' : Act, a'.defers = [] → resK P fn.results.toList (envOf a') w' (fun vs => R (endV vs) w') → a'.defers = [] ∧ ∃ v, (results fn a'.tmps).run P w' = .ok v w' ∧ ∃ v', Ending.returned v = .returned v' ∧ R v' w' := by
      intro a' hd hr
      obtain ⟨vs, hv, hk⟩ := run_resK _ _ hr
      refine ⟨hd, endV vs, ?_, _, rfl, hk⟩
      rw [results_one, Sem.run_bind, Array.mapM_eq_mapM_toList, Sem.run_map]
      rw [hv]
      simp only [Result.andThen_ok]
      match vs with
      | [] => rfl
      | [v] => rfl
      | v :: u :: r => simp [endV]
    cases ex <;> simp only [liftQ] at hq <;> simp only [bodyPost]
    · exact fin a' hq.1 hq.2.2
    · exact hq.2.2
    · exact fin a' hq.1 hq.2.2


/-! ### a region that draws its order: by a plan -/

def cellY (S : World → Prop) (a : Addr) (K : VK) (_ : Tok (S, K)) : Prop := ∃ v, (∀ w, S w → w.cell? a = some v) ∧ K v
def aggY (S : World → Prop) (a : Addr) (n : Option Nat) (K : VK) (_ : Tok (S, K)) : Prop :=
  ∃ cs : List Value, n = some cs.length ∧ (∀ w, S w → ∀ j v, cs[j]? = some v → w.cell? (a.add j) = some v) ∧ K (.agg cs.toArray)
def ldY (P : Program) (t : TypeId) (S : World → Prop) (a : Addr) (K : VK) (_ : Tok (S, K)) : Prop :=
  match isAggT P t with
  | some false => cellY S a K .mk
  | some true => aggY S a (cellsT P t) K .mk
  | none => False
theorem ldY_cell {P : Program} {t : TypeId} (h : isAggT P t = some false) (S : World → Prop) (a : Addr) (K : VK) (tk : Tok (S, K)) : ldY P t S a K tk = cellY S a K .mk := by simp [ldY, h]
theorem ldY_agg {P : Program} {t : TypeId} (h : isAggT P t = some true) (S : World → Prop) (a : Addr) (K : VK) (tk : Tok (S, K)) : ldY P t S a K tk = aggY S a (cellsT P t) K .mk := by simp [ldY, h]
/-- an operation of the model's that yields one value in every world that meets S, by its own run. -/
def genY (P : Program) (S : World → Prop) (o : Oper) (ρ : Operand → Value) (K : VK) (_ : Tok (S, ρ, K)) : Prop := ∃ v, (∀ w, S w → (execOp ρ o).run P w = .ok (.value v) w) ∧ K v
/-- the operation yields one value in every world that meets S, and does nothing else. -/
def yO (P : Program) (S : World → Prop) (o : Oper) (ρ : Operand → Value) (K : VK) : Prop :=
  match o.op with
  | .load t x => ptrK (ρ x) (fun a => ldY P t S a K .mk) .mk
  | .convert s d x => convK (convT P s d) (ρ x) (genY P S o ρ K .mk) (pureK (pureOp P (.convert s d x) ρ) K .mk) .mk .mk
  | op => pureK (pureOp P op ρ) K .mk
/-- first the operations that yield whatever else has happened (true), each other one where it alone may come up (false). -/
def wpPlan (P : Program) (ops : Array Oper) (S : World → Prop) (Q : Env → World → Prop) : List (Nat × Bool) → Env → World → Prop
  | [], e, w => Q e w
  | (i, true) :: r, e, w => match ops[i]? with
    | some o => match o.guard with
      | none => yO P S o (ev e) fun v => wpPlan P ops S Q r (put e o.dst v) w
      | some (j, want) => guardK (yieldE ops e j) want (yO P S o (ev e) fun v => wpPlan P ops S Q r (put e o.dst v) w) (wpPlan P ops S Q r (put e o.dst undef) w) .mk .mk
    | none => False
  | (i, false) :: r, e, w => match ops[i]? with
    | some o => match o.guard with
      | none => wpO P o (ev e) w fun v w' => S w' ∧ wpPlan P ops S Q r (put e o.dst v) w'
      | some (j, want) => guardK (yieldE ops e j) want (wpO P o (ev e) w fun v w' => S w' ∧ wpPlan P ops S Q r (put e o.dst v) w') (wpPlan P ops S Q r (put e o.dst undef) w) .mk .mk
    | none => False
def planOk (ops : Array Oper) : List (Nat × Bool) → Array Bool → Bool
  | [], listed => (Region.ready .any ops listed).isEmpty
  | (i, true) :: r, listed => (Region.ready .any ops listed).contains i && Region.free .any ops listed i && planOk ops r (listed.setIfInBounds i true)
  | (i, false) :: r, listed => (Region.ready .any ops listed == [i]) && planOk ops r (listed.setIfInBounds i true)

theorem run_yO {P : Program} {S : World → Prop} {o : Oper} {a : Act} {K : Value → Prop} (h : yO P S o a.eval K) : ∃ v, (∀ w, S w → (execOp a.eval o).run P w = .ok (.value v) w) ∧ K v := by
  unfold yO at h
  split at h
  · rename_i t x hop
    obtain ⟨ad, hx, hl⟩ := h
    have key : ∃ v, (∀ w, S w → (loadVar t ad).run P w = .ok v w) ∧ K v := by
      unfold ldY at hl
      split at hl
      · rename_i hg
        obtain ⟨v, hv, hk⟩ := hl
        exact ⟨v, fun w hw => (run_loadVar_of (K := fun u => u = v) (tk := .mk) (by unfold ldK; rw [hg]; exact ⟨v, hv w hw, rfl⟩)).elim fun u hu => by rw [hu.1, hu.2], hk⟩
      · rename_i hg
        obtain ⟨cs, hn, hv, hk⟩ := hl
        exact ⟨_, fun w hw => (run_loadVar_of (K := fun u => u = .agg cs.toArray) (tk := .mk) (by unfold ldK; rw [hg]; exact ⟨cs, hn, hv w hw, rfl⟩)).elim fun u hu => by rw [hu.1, hu.2], hk⟩
      · cases hl
    obtain ⟨v, hv, hk⟩ := key
    refine ⟨v, fun w hw => ?_, hk⟩
    unfold execOp
    simp only [hop, hx, Instr.loadAt, Instr.sureAddr, Sem.run_bind, Sem.run_pure, Result.andThen_ok, hv w hw]
  · rename_i s d x hop
    unfold convK at h
    split at h
    · exact h
    · exact h
    · exact h
    · obtain ⟨v, hv, hk⟩ := h
      exact ⟨v, fun w _ => pureOp_sound (by rw [hop]; exact hv) w, hk⟩
  · obtain ⟨v, hv, hk⟩ := h
    exact ⟨v, fun w _ => pureOp_sound hv w, hk⟩

theorem wpPlan_sound {P : Program} {ops : Array Oper} {S : World → Prop} {Q : Env → World → Prop} {n : Nat} (hs : Region.noSelect ops = true) (hf : dstsFit n ops = true) :
    ∀ (plan : List (Nat × Bool)) (listed : Array Bool) (a : Act) (w : World), planOk ops plan listed = true → a.defers = [] → a.tmps.size = n → S w → wpPlan P ops S Q plan (envOf a) w →
    wpAnyH P .any ops (liftQ n (onlyN Q)) S plan.length listed a w
  | [], listed, a, w, hp, hd, hz, hS, h => wpAnyH_done (by simpa [planOk] using hp) ⟨hd, hz, h⟩ _
  | (i, true) :: r, listed, a, w, hp, hd, hz, hS, h => by
    simp only [planOk, Bool.and_eq_true] at hp
    unfold wpPlan at h
    cases ho : ops[i]? with
    | none => simp [ho] at h
    | some o =>
      have hdst := dstsFit_mem hf (o := o) (by have := Array.mem_of_getElem? ho; simpa using this)
      simp only [ho] at h
      have fin : ∀ v, YieldsIf P ops S o v a → wpPlan P ops S Q r (put (envOf a) o.dst v) w → wpAnyH P .any ops (liftQ n (onlyN Q)) S (r.length + 1) listed a w := fun v hy hk =>
        wpAnyH_take ho hs hp.1.2 hp.1.1 (fun c a w hq => hq.elim) hy hS
          (wpPlan_sound hs hf r _ _ w hp.2 (by rw [put_defers']; exact hd) (by rw [put_size]; exact hz) hS (by rw [envOf_put (by rw [hz]; exact hdst)]; exact hk))
      split at h
      · rename_i hg
        rw [← eval_envOf] at h
        obtain ⟨v, hv, hk⟩ := run_yO h
        exact fin v (.inl ⟨by simp [Region.wanted, hg], hv⟩) hk
      · rename_i j want hg
        by_cases hy : yieldE ops (envOf a) j = some want
        · have h := h.1 hy
          rw [← eval_envOf] at h
          obtain ⟨v, hv, hk⟩ := run_yO h
          exact fin v (.inl ⟨by simp [Region.wanted, hg, yielded_env, hy], hv⟩) hk
        · exact fin undef (.inr ⟨by simp [Region.wanted, hg, yielded_env, hy], rfl⟩) (h.2 hy)
  | (i, false) :: r, listed, a, w, hp, hd, hz, hS, h => by
    simp only [planOk, Bool.and_eq_true] at hp
    unfold wpPlan at h
    cases ho : ops[i]? with
    | none => simp [ho] at h
    | some o =>
      have hdst := dstsFit_mem hf (o := o) (by have := Array.mem_of_getElem? ho; simpa using this)
      simp only [ho] at h
      refine wpAnyH_all (rs := [i]) (by simpa using hp.1) (by simp) (fun k hk => ?_)
      obtain rfl : k = i := by simpa using hk
      unfold wpOp
      simp only [ho]
      have step : ∀ v w', S w' ∧ wpPlan P ops S Q r (put (envOf a) o.dst v) w' → S w' ∧ wpAnyH P .any ops (liftQ n (onlyN Q)) S r.length (listed.setIfInBounds k true) (a.put o.dst v) w' := fun v w' h' =>
        ⟨h'.1, wpPlan_sound hs hf r _ _ w' hp.2 (by rw [put_defers']; exact hd) (by rw [put_size]; exact hz) h'.1 (by rw [envOf_put (by rw [hz]; exact hdst)]; exact h'.2)⟩
      split at h
      · rename_i hg
        rw [if_pos (by simp [Region.wanted, hg])]
        exact .inl (wpO_sound step (by rw [eval_envOf]; exact h))
      · rename_i j want hg
        by_cases hy : yieldE ops (envOf a) j = some want
        · rw [if_pos (by simp [Region.wanted, hg, yielded_env, hy])]
          exact .inl (wpO_sound step (by rw [eval_envOf]; exact h.1 hy))
        · rw [if_neg (by simp [Region.wanted, hg, yielded_env, hy])]
          exact step _ _ ⟨hS, h.2 hy⟩

theorem wpDraw_plan {P : Program} {ops : Array Oper} {Q : Env → World → Prop} {e : Env} {w : World} (S : World → Prop) (plan : List (Nat × Bool))
    (hok : (Region.noSelect ops && planOk ops plan (Array.replicate ops.size false) && (plan.length == ops.size)) = true) (hS : S w.drew) (h : wpPlan P ops S Q plan e w.drew) {tk : Tok (Q, e, w)} : wpDraw P ops Q e w tk := by
  simp only [Bool.and_eq_true, beq_iff_eq] at hok
  intro a hd he hf
  subst he
  have := wpAny_of_held _ _ _ _ (wpPlan_sound (n := a.tmps.size) hok.1.1 hf plan _ a w.drew hok.1.2 hd rfl hS h)
  rw [hok.2] at this
  exact this


/-- a loop's relation and measure, kept shut till they are wanted. -/
def hold (p : Prop) (_ : Tok p) : Prop := p
theorem hold_intro {p : Prop} {tk : Tok p} (h : p) : hold p tk := h
theorem wpLoop_intro {body : (Ex → Env → World → Prop) → Env → World → Prop} {Q : Ex → Env → World → Prop} {e : Env} {w : World} (I : Env → World → Prop) (μ : Env → World → Nat)
    (h0 : I e w) (h : ∀ e w, I e w → body (fun ex e' w' => match ex with
      | .normal => hold (I e' w' ∧ μ e' w' < μ e w) .mk
      | ex => Q ex e' w') e w) {tk : Tok (body, Q, e, w)} : wpLoop body Q e w tk := ⟨I, μ, h0, h⟩


/-! ### the rules of a walk -/

section rules
variable {P : Program} {ops : Array Oper} {Q : Env → World → Prop} {r : List Oper} {e : Env} {w : World} {d : Option Tmp} {ty : TypeId} {pos : String} {af : Array Edge}
theorem s_nil : wpOs P ops Q [] e w = Q e w := rfl
theorem s_guard {op : Go.Op} {j : Nat} {want : Bool} : wpOs P ops Q (⟨d, op, ty, pos, af, some (j, want)⟩ :: r) e w = guardK (yieldE ops e j) want (wpOs P ops Q (⟨d, op, ty, pos, af, none⟩ :: r) e w) (wpOs P ops Q r (put e d undef) w) .mk .mk := rfl
theorem s_move {x : Operand} : wpOs P ops Q (⟨d, .move x, ty, pos, af, none⟩ :: r) e w = wpOs P ops Q r (put e d (ev e x)) w := by simp [wpOs, wpO, pureOp, pureK]
theorem s_assign {x : Operand} : wpOs P ops Q (⟨d, .assign x, ty, pos, af, none⟩ :: r) e w = wpOs P ops Q r (put e d (ev e x)) w := by simp [wpOs, wpO, pureOp, pureK]
theorem s_pick {a b c : Operand} : wpOs P ops Q (⟨d, .pick c a b, ty, pos, af, none⟩ :: r) e w = boolK (ev e c) (wpOs P ops Q r (put e d (ev e a)) w) (wpOs P ops Q r (put e d (ev e b)) w) .mk .mk := by
  simp only [wpOs, wpO, pureOp, pureK, boolK]
  cases ev e c <;> simp
  rename_i b
  cases b <;> simp
theorem s_alloc {t : TypeId} : wpOs P ops Q (⟨d, .alloc t, ty, pos, af, none⟩ :: r) e w = newK w (zeroT P t) t (fun v w' => wpOs P ops Q r (put e d v) w') .mk := rfl
theorem s_box {t : TypeId} {x : Operand} : wpOs P ops Q (⟨d, .box t x, ty, pos, af, none⟩ :: r) e w = newK w (some (ev e x)) t (fun v w' => wpOs P ops Q r (put e d v) w') .mk := by simp [wpOs, wpO, newK]
theorem s_build {t : TypeId} {ps : Array (Nat × Operand)} : wpOs P ops Q (⟨d, .build t ps, ty, pos, af, none⟩ :: r) e w = pureK (buildP P t (ps.toList.map fun p => (p.1, ev e p.2))) (fun v => wpOs P ops Q r (put e d v) w) .mk := rfl
theorem s_buildSlice {t : TypeId} {n : Nat} {ps : Array (Nat × Operand)} : wpOs P ops Q (⟨d, .buildSlice t n ps, ty, pos, af, none⟩ :: r) e w = bslK w (bsT P t n) n (ps.toList.map fun p => (p.1, ev e p.2)) (fun v w' => wpOs P ops Q r (put e d v) w') .mk := rfl
theorem s_load {t : TypeId} {x : Operand} : wpOs P ops Q (⟨d, .load t x, ty, pos, af, none⟩ :: r) e w = ptrK (ev e x) (fun a => ldK P t w a (fun v => wpOs P ops Q r (put e d v) w) .mk) .mk := rfl
theorem s_store {t : TypeId} {x y : Operand} : wpOs P ops Q (⟨none, .store t x y, ty, pos, af, none⟩ :: r) e w = ptrK (ev e x) (fun a => stK P t w a (ev e y) (fun w' => wpOs P ops Q r e w') .mk) .mk := rfl
theorem s_nilCheck {x : Operand} : wpOs P ops Q (⟨d, .nilCheck x, ty, pos, af, none⟩ :: r) e w = pureK (pureOp P (.nilCheck x) (ev e)) (fun v => wpOs P ops Q r (put e d v) w) .mk := rfl
theorem s_binOp {op : BinOp} {t u : TypeId} {x y : Operand} : wpOs P ops Q (⟨d, .binOp op t x y u, ty, pos, af, none⟩ :: r) e w = pureK (binPure P op t x y (ev e x) (ev e y)) (fun v => wpOs P ops Q r (put e d v) w) .mk := rfl
theorem s_unOp {op : UnOp} {t : TypeId} {x : Operand} : wpOs P ops Q (⟨d, .unOp op t x, ty, pos, af, none⟩ :: r) e w = pureK (unPure op (ev e x)) (fun v => wpOs P ops Q r (put e d v) w) .mk := rfl
theorem s_convert {s t : TypeId} {x : Operand} : wpOs P ops Q (⟨d, .convert s t x, ty, pos, af, none⟩ :: r) e w =
    convK (convT P s t) (ev e x) (genK P ⟨d, .convert s t x, ty, pos, af, none⟩ (ev e) w (fun v w' => wpOs P ops Q r (put e d v) w') .mk) (pureK (pureOp P (.convert s t x) (ev e)) (fun v => wpOs P ops Q r (put e d v) w) .mk) .mk .mk := rfl
theorem s_makeInterface {t : TypeId} {x : Operand} : wpOs P ops Q (⟨d, .makeInterface t x, ty, pos, af, none⟩ :: r) e w = pureK (pureOp P (.makeInterface t x) (ev e)) (fun v => wpOs P ops Q r (put e d v) w) .mk := rfl
theorem s_makeFunc {fn : Fn} {a b : Array Operand} : wpOs P ops Q (⟨d, .makeFunc fn a b, ty, pos, af, none⟩ :: r) e w = pureK (pureOp P (.makeFunc fn a b) (ev e)) (fun v => wpOs P ops Q r (put e d v) w) .mk := rfl
theorem s_slice {t : TypeId} {x : Operand} {lo hi : Option Operand} : wpOs P ops Q (⟨d, .slice t x lo hi none, ty, pos, af, none⟩ :: r) e w = pureK (slicePure P t (ev e x) (lo.map (ev e)) (hi.map (ev e))) (fun v => wpOs P ops Q r (put e d v) w) .mk := rfl
theorem s_fieldAddr {t : TypeId} {x : Operand} {f : Nat} : wpOs P ops Q (⟨d, .fieldAddr t x f, ty, pos, af, none⟩ :: r) e w = pureK (pureOp P (.fieldAddr t x f) (ev e)) (fun v => wpOs P ops Q r (put e d v) w) .mk := rfl
theorem s_field {t : TypeId} {x : Operand} {f : Nat} : wpOs P ops Q (⟨d, .field t x f, ty, pos, af, none⟩ :: r) e w = pureK (pureOp P (.field t x f) (ev e)) (fun v => wpOs P ops Q r (put e d v) w) .mk := rfl
theorem s_indexAddr {t : TypeId} {x i : Operand} : wpOs P ops Q (⟨d, .indexAddr t x i, ty, pos, af, none⟩ :: r) e w = pureK (pureOp P (.indexAddr t x i) (ev e)) (fun v => wpOs P ops Q r (put e d v) w) .mk := rfl
theorem s_index {t : TypeId} {x i : Operand} : wpOs P ops Q (⟨d, .index t x i, ty, pos, af, none⟩ :: r) e w = pureK (pureOp P (.index t x i) (ev e)) (fun v => wpOs P ops Q r (put e d v) w) .mk := rfl
theorem s_typeAssert {x : Operand} {a b : TypeId} {ok : Bool} : wpOs P ops Q (⟨d, .typeAssert x a b ok, ty, pos, af, none⟩ :: r) e w =
    tasK (ifaceT P b) (genK P ⟨d, .typeAssert x a b ok, ty, pos, af, none⟩ (ev e) w (fun v w' => wpOs P ops Q r (put e d v) w') .mk) (pureK (pureOp P (.typeAssert x a b ok) (ev e)) (fun v => wpOs P ops Q r (put e d v) w) .mk) .mk .mk := rfl
theorem s_slice3 {t : TypeId} {x h m : Operand} {lo : Option Operand} : wpOs P ops Q (⟨d, .slice t x lo (some h) (some m), ty, pos, af, none⟩ :: r) e w = pureK (slice3Pure P t (ev e x) (lo.map (ev e)) (ev e h) (ev e m)) (fun v => wpOs P ops Q r (put e d v) w) .mk := rfl
theorem s_makeSlice {t : TypeId} {x y : Operand} : wpOs P ops Q (⟨d, .makeSlice t x y, ty, pos, af, none⟩ :: r) e w = genK P ⟨d, .makeSlice t x y, ty, pos, af, none⟩ (ev e) w (fun v w' => wpOs P ops Q r (put e d v) w') .mk := rfl
theorem s_makeMap {t : TypeId} {x : Option Operand} : wpOs P ops Q (⟨d, .makeMap t x, ty, pos, af, none⟩ :: r) e w = genK P ⟨d, .makeMap t x, ty, pos, af, none⟩ (ev e) w (fun v w' => wpOs P ops Q r (put e d v) w') .mk := rfl
theorem s_lookup {t : TypeId} {x y : Operand} {b : Bool} : wpOs P ops Q (⟨d, .lookup t x y b, ty, pos, af, none⟩ :: r) e w = genK P ⟨d, .lookup t x y b, ty, pos, af, none⟩ (ev e) w (fun v w' => wpOs P ops Q r (put e d v) w') .mk := rfl
theorem s_mapUpdate {t : TypeId} {x y z : Operand} : wpOs P ops Q (⟨d, .mapUpdate t x y z, ty, pos, af, none⟩ :: r) e w = genK P ⟨d, .mapUpdate t x y z, ty, pos, af, none⟩ (ev e) w (fun v w' => wpOs P ops Q r (put e d v) w') .mk := rfl
theorem s_insert {t : TypeId} {x y z : Operand} : wpOs P ops Q (⟨d, .insert t x y z, ty, pos, af, none⟩ :: r) e w = genK P ⟨d, .insert t x y z, ty, pos, af, none⟩ (ev e) w (fun v w' => wpOs P ops Q r (put e d v) w') .mk := rfl
theorem s_range {t : TypeId} {x : Operand} : wpOs P ops Q (⟨d, .range t x, ty, pos, af, none⟩ :: r) e w = genK P ⟨d, .range t x, ty, pos, af, none⟩ (ev e) w (fun v w' => wpOs P ops Q r (put e d v) w') .mk := rfl
theorem s_next {x : Operand} {b : Bool} : wpOs P ops Q (⟨d, .next x b, ty, pos, af, none⟩ :: r) e w = genK P ⟨d, .next x b, ty, pos, af, none⟩ (ev e) w (fun v w' => wpOs P ops Q r (put e d v) w') .mk := rfl
theorem s_entry {x : Operand} : wpOs P ops Q (⟨d, .entry x, ty, pos, af, none⟩ :: r) e w = genK P ⟨d, .entry x, ty, pos, af, none⟩ (ev e) w (fun v w' => wpOs P ops Q r (put e d v) w') .mk := rfl
theorem s_mapEntry {t : TypeId} {x y : Operand} : wpOs P ops Q (⟨d, .mapEntry t x y, ty, pos, af, none⟩ :: r) e w = genK P ⟨d, .mapEntry t x y, ty, pos, af, none⟩ (ev e) w (fun v w' => wpOs P ops Q r (put e d v) w') .mk := rfl
theorem s_entryStore {t : TypeId} {x y z : Operand} : wpOs P ops Q (⟨d, .entryStore t x y z, ty, pos, af, none⟩ :: r) e w = genK P ⟨d, .entryStore t x y z, ty, pos, af, none⟩ (ev e) w (fun v w' => wpOs P ops Q r (put e d v) w') .mk := rfl
theorem s_copy {as : Array Operand} {ats : Array TypeId} : wpOs P ops Q (⟨d, .call ⟨.builtin .copy, as, ats⟩, ty, pos, af, none⟩ :: r) e w = genK P ⟨d, .call ⟨.builtin .copy, as, ats⟩, ty, pos, af, none⟩ (ev e) w (fun v w' => wpOs P ops Q r (put e d v) w') .mk := rfl
theorem s_delete {as : Array Operand} {ats : Array TypeId} : wpOs P ops Q (⟨d, .call ⟨.builtin .delete, as, ats⟩, ty, pos, af, none⟩ :: r) e w = genK P ⟨d, .call ⟨.builtin .delete, as, ats⟩, ty, pos, af, none⟩ (ev e) w (fun v w' => wpOs P ops Q r (put e d v) w') .mk := rfl
theorem s_clear {as : Array Operand} {ats : Array TypeId} : wpOs P ops Q (⟨d, .call ⟨.builtin .clear, as, ats⟩, ty, pos, af, none⟩ :: r) e w = genK P ⟨d, .call ⟨.builtin .clear, as, ats⟩, ty, pos, af, none⟩ (ev e) w (fun v w' => wpOs P ops Q r (put e d v) w') .mk := rfl
theorem s_invoke {x : Operand} {name : String} {as : Array Operand} {ats : Array TypeId} : wpOs P ops Q (⟨d, .call ⟨.invoke x name, as, ats⟩, ty, pos, af, none⟩ :: r) e w = invK P (ev e x) name (as.toList.map (ev e)) w (fun v w' => wpOs P ops Q r (put e d v) w') .mk := rfl
theorem s_extract {x : Operand} {i : Nat} : wpOs P ops Q (⟨d, .extract x i, ty, pos, af, none⟩ :: r) e w = pureK (pureOp P (.extract x i) (ev e)) (fun v => wpOs P ops Q r (put e d v) w) .mk := rfl
theorem s_call {f : Operand} {as : Array Operand} {ats : Array TypeId} : wpOs P ops Q (⟨d, .call ⟨.value f, as, ats⟩, ty, pos, af, none⟩ :: r) e w = callK P (ev e f) (as.toList.map (ev e)) w (fun v w' => wpOs P ops Q r (put e d v) w') .mk := rfl
theorem s_append {as : Array Operand} {ats : Array TypeId} : wpOs P ops Q (⟨d, .call ⟨.builtin .append, as, ats⟩, ty, pos, af, none⟩ :: r) e w = appK P ats.toList ty (as.toList.map (ev e)) w (fun v w' => wpOs P ops Q r (put e d v) w') .mk := rfl
theorem s_len {x : Operand} {t : TypeId} : wpOs P ops Q (⟨d, .call ⟨.builtin .len, #[x], #[t]⟩, ty, pos, af, none⟩ :: r) e w = pureK (lenPure P t (ev e x)) (fun v => wpOs P ops Q r (put e d v) w) .mk := rfl
theorem s_cap {x : Operand} {t : TypeId} : wpOs P ops Q (⟨d, .call ⟨.builtin .cap, #[x], #[t]⟩, ty, pos, af, none⟩ :: r) e w = pureK (capPure P t (ev e x)) (fun v => wpOs P ops Q r (put e d v) w) .mk := rfl
theorem s_min {as : Array Operand} {ats : Array TypeId} : wpOs P ops Q (⟨d, .call ⟨.builtin .min, as, ats⟩, ty, pos, af, none⟩ :: r) e w = pureK (minPure (as.toList.map (ev e))) (fun v => wpOs P ops Q r (put e d v) w) .mk := rfl
theorem s_max {as : Array Operand} {ats : Array TypeId} : wpOs P ops Q (⟨d, .call ⟨.builtin .max, as, ats⟩, ty, pos, af, none⟩ :: r) e w = pureK (maxPure (as.toList.map (ev e))) (fun v => wpOs P ops Q r (put e d v) w) .mk := rfl
end rules

section coderules
variable {P : Program} {Q : Ex → Env → World → Prop} {e : Env} {w : World}
theorem c_skip : wpC P .skip Q e w = Q .normal e w := rfl
theorem c_region {id : Nat} {ops : Array Oper} : wpC P (.region id ops false) Q e w = wpOs P ops (Q .normal) ops.toList e w := rfl
theorem c_draw {id : Nat} {ops : Array Oper} : wpC P (.region id ops true) Q e w = wpDraw P ops (Q .normal) e w .mk := rfl
theorem c_seq {a b : Code} : wpC P (.seq a b) Q e w = wpC P a (fun ex e w => match ex with | .normal => wpC P b Q e w | .exit i => Q (.exit i) e w | .ret => Q .ret e w) e w := rfl
theorem c_cond {c : Operand} {x y : Code} : wpC P (.cond c x y) Q e w = boolK (ev e c) (wpC P x Q e w) (wpC P y Q e w) .mk .mk := rfl
theorem c_block {id : Nat} {b : Code} : wpC P (.block id b) Q e w = wpC P b (fun ex e w => match ex with | .normal => Q .normal e w | .exit j => if j = id then Q .normal e w else Q (.exit j) e w | .ret => Q .ret e w) e w := rfl
theorem c_loop {b : Code} : wpC P (.loop b) Q e w = wpLoop (wpC P b) Q e w .mk := rfl
theorem c_exit {id : Nat} : wpC P (.exit id) Q e w = Q (.exit id) e w := rfl
theorem c_ret : wpC P .ret Q e w = Q .ret e w := rfl
end coderules
/-! ### a region that draws its order: reads, then one row of effects -/

/-- reads and computes only. -/
def yieldable (P : Program) : Go.Op → Bool
  | .load .. | .move _ | .assign _ | .pick .. | .nilCheck _ | .binOp .. | .unOp .. | .makeInterface .. | .makeFunc .. | .fieldAddr .. | .field .. | .indexAddr .. | .index .. | .extract .. | .build .. => true
  | .slice .. => true
  | .typeAssert _ _ t _ => decide (ifaceT P t ≠ some true)
  | .convert s d _ => match convT P s d with
    | .toInt _ => true
    | _ => false
  | .call { callee := .builtin .len, .. } | .call { callee := .builtin .cap, .. } | .call { callee := .builtin .min, .. } | .call { callee := .builtin .max, .. } => true
  | _ => false

theorem wpO_yield {P : Program} {o : Oper} {ρ : Operand → Value} {w : World} {K : VWK} (hy : yieldable P o.op = true) (h : wpO P o ρ w K) : ∃ v, (execOp ρ o).run P w = .ok (.value v) w ∧ K v w := by
  have pure : ∀ {K : VWK}, pureK (pureOp P o.op ρ) (fun v => K v w) .mk → ∃ v, (execOp ρ o).run P w = .ok (.value v) w ∧ K v w := by
    rintro K ⟨v, hv, hk⟩
    exact ⟨v, pureOp_sound hv w, hk⟩
  unfold wpO at h
  unfold yieldable at hy
  split at h
  case h_1 t x hop =>
    obtain ⟨ad, hx, hl⟩ := h
    obtain ⟨v, hr, hk⟩ := run_loadVar_of hl
    refine ⟨v, ?_, hk⟩
    unfold execOp
    simp only [hop, hx, Instr.loadAt, Instr.sureAddr, Sem.run_bind, Sem.run_pure, Result.andThen_ok, hr]
  case h_9 x s t ok hop =>
    rw [hop] at hy
    simp only [decide_eq_true_eq] at hy
    unfold tasK at h
    rw [if_neg hy] at h
    exact pure (by rw [hop]; exact h)
  case h_23 s d x hop =>
    rw [hop] at hy
    simp only at hy
    unfold convK at h
    split at h
    · rename_i hc; rw [hc] at hy; cases hy
    · rename_i hc _; rw [hc] at hy; cases hy
    · rename_i hc _; rw [hc] at hy; cases hy
    · exact pure (by rw [hop]; exact h)
  case h_24 => exact pure h
  all_goals (rename_i hop; rw [hop] at hy; simp at hy)

def headOk (P : Program) (ops : List Oper) (n : Nat) : Bool := (ops.take n).all fun o => yieldable P o.op

theorem wpStill_of {P : Program} {ops : Array Oper} {n : Nat} {Q : Env → World → Prop} {w : World} (hf : dstsFit n ops = true) (tail : List Oper) : ∀ (l : List Oper), (∀ o ∈ l, o ∈ ops.toList ∧ yieldable P o.op = true) →
    ∀ a : Act, a.defers = [] → a.tmps.size = n → wpOs P ops Q (l ++ tail) (envOf a) w → wpStill P ops w (fun a' => a'.defers = [] ∧ a'.tmps.size = n ∧ wpOs P ops Q tail (envOf a') w) l a
  | [], _, a, hd, hs, h => ⟨hd, hs, h⟩
  | o :: r, hm, a, hd, hs, h => by
    have hdst := dstsFit_mem hf (hm o (by simp)).1
    have step : ∀ v, wpOs P ops Q (r ++ tail) (put (envOf a) o.dst v) w → wpStill P ops w (fun a' => a'.defers = [] ∧ a'.tmps.size = n ∧ wpOs P ops Q tail (envOf a') w) r (a.put o.dst v) := fun v h' =>
      wpStill_of hf tail r (fun x hx => hm x (by simp [hx])) _ (by rw [put_defers']; exact hd) (by rw [put_size]; exact hs) (by rw [envOf_put (by rw [hs]; exact hdst)]; exact h')
    have go : wpO P o (ev (envOf a)) w (fun v w' => wpOs P ops Q (r ++ tail) (put (envOf a) o.dst v) w') → Oper.still P o a w (wpStill P ops w (fun a' => a'.defers = [] ∧ a'.tmps.size = n ∧ wpOs P ops Q tail (envOf a') w) r) := fun h' => by
      obtain ⟨v, hr, hk⟩ := wpO_yield (hm o (by simp)).2 h'
      unfold Oper.still
      rw [eval_envOf, hr]
      exact ⟨rfl, step v hk⟩
    simp only [List.cons_append] at h
    unfold wpOs at h
    unfold wpStill
    split at h
    · rename_i hg
      rw [if_pos (by simp [Region.wanted, hg])]
      exact go h
    · rename_i j want hg
      by_cases hy : yieldE ops (envOf a) j = some want
      · rw [if_pos (by simp [Region.wanted, hg, yielded_env, hy])]
        exact go (h.1 hy)
      · rw [if_neg (by simp [Region.wanted, hg, yielded_env, hy])]
        exact step _ (h.2 hy)

theorem wpDraw_tail {P : Program} (hm : P.follows .mixedOrders = true) {l : List Oper} {Q : Env → World → Prop} {e : Env} {w : World} (n : Nat) (hok : (headOk P l n && Region.lexTailB .any l.toArray n) = true)
    {tk : Tok (Q, e, w)} (h : wpOs P l.toArray Q l e w.drew) : wpDraw P l.toArray Q e w tk := by
  simp only [Bool.and_eq_true] at hok
  intro a hd he hf
  subst he
  have hB := hok.2
  simp only [Region.lexTailB, Bool.and_eq_true, decide_eq_true_eq] at hB
  obtain ⟨⟨⟨⟨hsel, hn⟩, hs⟩, hc⟩, hlex⟩ := hB
  have hn' : n < l.length := by simpa using hn
  have htl : (l.take n).length = n := by simp; omega
  have hdl : (l.drop n).length = l.toArray.size - n := by simp
  have inv0 : HeadInv .any l.toArray n (Array.replicate l.toArray.size false) :=
    ⟨by simp, fun j oj _ hl => (by rw [getD_replicate_false] at hl; cases hl), fun t _ ht => getD_in (by simpa using ht) (getD_replicate_false _ _)⟩
  have hst := wpStill_of (P := P) (ops := l.toArray) (n := a.tmps.size) (Q := Q) (w := w.drew) hf (l.drop n) (l.take n) (fun o ho => ⟨by have := List.mem_of_mem_take ho; simpa using this, by
    have := List.all_eq_true.1 hok.1 o ho
    exact this⟩) a hd rfl (by rw [List.take_append_drop]; exact h)
  have H := wpAnyL_lex (md := .any) (g := l.toArray.size - n) hsel hs hc hn (l.take n) 0 _ a (fun j hj => by
    have hj' : j < n := by rw [htl] at hj; exact hj
    simp [hj']) (by simpa using htl) inv0 (by rw [htl]; exact hlex) hst
  have := wpAny_of_head (Q' := liftQ a.tmps.size (onlyN Q)) (g := l.toArray.size - n) (fun listed a' hL => by
    have hw : wpList P l.toArray (liftQ a.tmps.size (onlyN Q)) (l.drop n) a' w.drew :=
      wpOs_sound (P := P) (ops := l.toArray) (n := a.tmps.size) (Q := onlyN Q) hf (l.drop n) (fun o ho => by have := List.mem_of_mem_drop ho; simpa using this) a' w.drew hL.2.1 hL.2.2.1 hL.2.2.2
    have := wpAny_of_seq (md := .any) (l.drop n) n listed a' w.drew (fun j => by simp [List.getElem?_drop]) (by rw [hdl]; exact hL.1) hw
    rwa [hdl] at this) _ _ _ H
  rw [htl, show n + (l.toArray.size - n) = l.toArray.size by omega] at this
  exact this

theorem wpDraw_still {P : Program} {l : List Oper} {Q : Env → World → Prop} {e : Env} {w : World} (hok : (headOk P l l.length && Region.lexB .any l.toArray) = true)
    {tk : Tok (Q, e, w)} (h : wpOs P l.toArray Q l e w.drew) : wpDraw P l.toArray Q e w tk := by
  simp only [Bool.and_eq_true] at hok
  intro a hd he hf
  subst he
  have hB := hok.2
  simp only [Region.lexB, Bool.and_eq_true] at hB
  have hst := wpStill_of (P := P) (ops := l.toArray) (n := a.tmps.size) (Q := Q) (w := w.drew) hf [] l (fun o ho => ⟨by simpa using ho, by
    have := List.all_eq_true.1 hok.1 o (by simpa using ho)
    exact this⟩) a hd rfl (by simpa using h)
  refine wpAny_of_still (Q := fun a' => a'.defers = [] ∧ a'.tmps.size = a.tmps.size ∧ wpOs P l.toArray Q [] (envOf a') w.drew) (fun a' h' => h') _ _ _ ?_
  have := wpAnyS_lex (md := .any) hB.1 l 0 (Array.replicate l.toArray.size false) a (by simp) (by simpa using hB.2) hst
  simpa using this

/-- where ways meet again. -/
theorem c_seq_cut {P : Program} {a b : Code} {Q : Ex → Env → World → Prop} {e : Env} {w : World} (J : Env → World → Prop)
    (h1 : wpC P a (fun ex e w => match ex with | .normal => hold (J e w) .mk | .exit i => Q (.exit i) e w | .ret => Q .ret e w) e w)
    (h2 : ∀ e w, J e w → wpC P b Q e w) : wpC P (.seq a b) Q e w := by
  rw [c_seq]
  have mono : ∀ (c : Code) (Q Q' : Ex → Env → World → Prop), (∀ ex e w, Q ex e w → Q' ex e w) → ∀ e w, wpC P c Q e w → wpC P c Q' e w := fun c Q Q' hq e w h => wpC_mono hq c e w h
  refine mono a _ _ ?_ e w h1
  intro ex e w hq
  cases ex
  · exact h2 e w hq
  · exact hq
  · exact hq

theorem nilC_ptr {P : Program} {x : Operand} {ρ : Operand → Value} (a : Addr) (h : ρ x = .pointer (some a)) : pureOp P (.nilCheck x) ρ = some (.pointer (some a)) := by simp [pureOp, h]

end Go.Proofs.YtcnebgokbjpjnaaGreat
