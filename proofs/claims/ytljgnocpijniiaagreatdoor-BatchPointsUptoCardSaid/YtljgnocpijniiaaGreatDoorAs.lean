/- errors.As at the program's three kinds of errors: by Go's own text and the model's entries for reflectlite. -/
import Derived.Test.YtljgnocpijniiaaGreatDoorMem
import Derived.Test.YtljgnocpijniiaaGreatDoorTab
import Derived.Test.YtljgnocpijniiaaGreatDoorArith
set_option linter.unusedVariables false
set_option linter.unusedSimpArgs false
set_option maxRecDepth 100000
namespace Go.Proofs.YtljgnocpijniiaaGreatDoor
open Go Go.Extern

/-! ### errors, in plain terms -/

inductive Eg where
  | no | pl | ins
def Eg.t : Eg → TypeId | .no => 31 | .pl => 101 | .ins => 103
def Eg.p : Eg → TypeId | .no => 105 | .pl => 106 | .ins => 107
def Eg.n : Eg → Nat | .no => 1 | _ => 2
inductive Er where
  | no (e : Int)
  | pl (p e : Int)
  | ins (i : Int) (x : Er)
def Er.tg : Er → Eg | .no _ => .no | .pl .. => .pl | .ins .. => .ins
def Er.d : Er → Value
  | .no e => .int .i64 e
  | .pl p e => .agg #[.int .i64 p, .iface 31 (.int .i64 e)]
  | .ins i x => .agg #[.int .i64 i, .iface x.tg.t x.d]
def Er.v (x : Er) : Value := .iface x.tg.t x.d
def Er.cells : Er → List Value
  | .no e => [.int .i64 e]
  | .pl p e => [.int .i64 p, .iface 31 (.int .i64 e)]
  | .ins i x => [.int .i64 i, x.v]
def Er.next : Er → Option Er
  | .no _ => none
  | .pl _ e => some (.no e)
  | .ins _ x => some x
def Er.depth : Er → Nat
  | .ins _ x => x.depth + 1
  | .pl .. => 1
  | .no _ => 0
/-- the first link of a kind. -/
def Er.find : Er → Eg → Option Er
  | .no e, .no => some (.no e)
  | .no _, _ => none
  | .pl p e, .no => some (.no e)
  | .pl p e, .pl => some (.pl p e)
  | .pl .., .ins => none
  | .ins i x, .ins => some (.ins i x)
  | .ins _ x, g => x.find g
theorem Er.find_hit (x : Er) : x.find x.tg = some x := by cases x <;> rfl
theorem Er.find_miss {x : Er} {g : Eg} (h : x.tg ≠ g) : x.find g = match x.next with | some y => y.find g | none => none := by
  cases x <;> cases g <;> first | rfl | (exact absurd rfl h)
theorem Er.next_depth {x y : Er} (h : x.next = some y) : y.depth < x.depth := by
  cases x <;> simp only [Er.next] at h <;> first | (cases h; done) | (injection h with h; subst h; simp [Er.depth])
theorem Er.d_cells (x : Er) : x.d.cells.toList = x.cells := by cases x <;> rfl
theorem Er.d_cells' (x : Er) : x.d.cells = x.cells.toArray := by cases x <;> rfl
theorem Er.cells_len (x : Er) : x.cells.length = x.tg.n := by cases x <;> rfl
theorem Er.cells_one (x : Er) : ∀ v ∈ x.cells, v.oneCell' = true := by
  cases x <;> simp [Er.cells, Er.v, Value.oneCell']

/-! ### closed facts on the model's entries, at this program's types -/

abbrev hd (t : TypeId) : Value := .pointer (some ⟨3, t, none⟩)
abbrev rty (t : TypeId) : Value := .iface 224 (.agg #[hd t])
def Eg.fl : Eg → Nat | .no => 130 | _ => 153
theorem x_valueOfP (g : Eg) (t : Addr) (w : World) : (ReflectliteValue.unpack (.iface g.p (.pointer (some t)))).run Tryz.prog w
    = .ok (.agg #[hd g.p, .pointer (some ⟨w.heap.size, 0, none⟩), .int .u64 150]) (w.alloc (.cells #[.pointer (some t)] g.p)) := by cases g <;> kernel_rfl
theorem x_typeP (g : Eg) (a : Addr) (w : World) : (ReflectliteValue.methodAny (ReflectliteValue.valueError "reflectlite.Value.Type" 0) (fun t _ _ _ => ReflectliteType.toType t) #[.agg #[hd g.p, .pointer (some a), .int .u64 150]]).run Tryz.prog w
    = .ok (rty g.p) w := by cases g <;> kernel_rfl
theorem x_kindP (g : Eg) (w : World) : ((ReflectliteType.abiMethod fun t => (fun a : Nat => Value.int IntKind.u8 (a : Int)) <$> Rtype.kind t) #[hd g.p]).run Tryz.prog w = .ok (.int .u8 22) w := by cases g <;> kernel_rfl
def Eg.k : Eg → Int | .no => 2 | _ => 25
theorem x_kindT (g : Eg) (w : World) : ((ReflectliteType.abiMethod fun t => (fun a : Nat => Value.int IntKind.u8 (a : Int)) <$> Rtype.kind t) #[hd g.t]).run Tryz.prog w = .ok (.int .u8 g.k) w := by cases g <;> kernel_rfl
theorem x_mKind (h : Value) (w : World) : (Go.method (Tryz.prog.types.size + Made.depth) 224 (.agg #[h]) "Kind").run Tryz.prog w = .ok (181, h) w := by kernel_rfl
theorem x_mElem (h : Value) (w : World) : (Go.method (Tryz.prog.types.size + Made.depth) 224 (.agg #[h]) "Elem").run Tryz.prog w = .ok (195, .agg #[h]) w := by kernel_rfl
theorem x_mImpl (h : Value) (w : World) : (Go.method (Tryz.prog.types.size + Made.depth) 224 (.agg #[h]) "Implements").run Tryz.prog w = .ok (196, .agg #[h]) w := by kernel_rfl
theorem x_mAssign (h : Value) (w : World) : (Go.method (Tryz.prog.types.size + Made.depth) 224 (.agg #[h]) "AssignableTo").run Tryz.prog w = .ok (193, .agg #[h]) w := by kernel_rfl
theorem x_mUnwrapAt (v : Value) (w : World) : (Go.method (Tryz.prog.types.size + Made.depth) 101 v "Unwrap").run Tryz.prog w = .ok (186, v) w := by kernel_rfl
theorem x_mUnwrapIn (v : Value) (w : World) : (Go.method (Tryz.prog.types.size + Made.depth) 103 v "Unwrap").run Tryz.prog w = .ok (188, v) w := by kernel_rfl
theorem x_elemP (g : Eg) (w : World) : (ReflectliteType.method ReflectliteType.elem #[.agg #[hd g.p]]).run Tryz.prog w = .ok (rty g.t) w := by cases g <;> kernel_rfl
theorem x_implT (g : Eg) (w : World) : (ReflectliteType.relation "Implements" ReflectliteType.implements_ #[.agg #[hd g.t], rty 29]).run Tryz.prog w = .ok (.bool true) w := by cases g <;> kernel_rfl
theorem x_typeOf (g : Eg) (v : Value) (w : World) : (ReflectliteType.typeOf #[.iface g.t v]).run Tryz.prog w = .ok (rty g.t) w := by cases g <;> kernel_rfl
def Eg.same : Eg → Eg → Bool | .no, .no => true | .pl, .pl => true | .ins, .ins => true | _, _ => false
theorem Eg.same_iff {a b : Eg} : a.same b = true ↔ a = b := by cases a <;> cases b <;> simp [Eg.same]
theorem x_assign (g h : Eg) (w : World) : (ReflectliteType.relation "AssignableTo" ReflectliteType.assignableTo #[.agg #[hd g.t], rty h.t]).run Tryz.prog w = .ok (.bool (g.same h)) w := by cases g <;> cases h <;> kernel_rfl
theorem x_valueOf (x : Er) (w : World) : (ReflectliteValue.unpack x.v).run Tryz.prog w = .ok (.agg #[hd x.tg.t, .pointer (some ⟨w.heap.size, 0, none⟩), .int .u64 x.tg.fl]) (w.alloc (.cells x.cells.toArray x.tg.t)) := by
  cases x <;> kernel_rfl
theorem x_rlm (z : Sem Value) (f : TypeId → Addr → Nat → Nat → Sem Value) (v : Value) :
    ReflectliteValue.method z f #[v] = (do match ← ReflectliteValue.parts v with | none => z | some (t, a, fl) => f t a fl (fl % 32)) := rfl
theorem x_partsP (g : Eg) (a : Addr) (w : World) : (ReflectliteValue.parts (.agg #[hd g.p, .pointer (some a), .int .u64 150])).run Tryz.prog w = .ok (some (g.p, a, 150)) w := by cases g <;> kernel_rfl
theorem x_partsA (g : Eg) (a : Addr) (w : World) : (ReflectliteValue.parts (.agg #[hd g.t, .pointer (some a), .int .u64 (g.fl + 256 : Nat)])).run Tryz.prog w = .ok (some (g.t, a, g.fl + 256)) w := by cases g <;> kernel_rfl
theorem x_partsT (g : Eg) (a : Addr) (w : World) : (ReflectliteValue.parts (.agg #[hd g.t, .pointer (some a), .int .u64 g.fl])).run Tryz.prog w = .ok (some (g.t, a, g.fl)) w := by cases g <;> kernel_rfl
theorem x_aggP (g : Eg) : isAggT Tryz.prog g.p = some false := by cases g <;> kernel_rfl
theorem x_loadP (g : Eg) {a : Addr} {v : Value} {w : World} (h : w.cell? a = some v) : (loadVar g.p a).run Tryz.prog w = .ok v w := by
  obtain ⟨u, hr, hu⟩ := run_loadVar_of (P := Tryz.prog) (t := g.p) (w := w) (a := a) (K := fun u => u = v) (tk := .mk) (by rw [ldK_cell (x_aggP g)]; exact ⟨v, h, rfl⟩)
  rw [hr, hu]
/-- (Value).IsNil at the Value of a pointer that is not nil. -/
theorem x_isNil (g : Eg) {a p : Addr} {w : World} (ha : w.cell? a = some (.pointer (some p))) :
    (ReflectliteValue.method (ReflectliteValue.valueError "reflectlite.Value.IsNil" 0) ReflectliteValue.isNil #[.agg #[hd g.p, .pointer (some a), .int .u64 150]]).run Tryz.prog w = .ok (.bool false) w := by
  rw [x_rlm]
  simp only [Sem.run_bind, x_partsP, Result.andThen]
  simp [ReflectliteValue.isNil, x_loadP g ha]
theorem x_elemOf (g : Eg) (w : World) : (Rtype.elem? g.p).run Tryz.prog w = .ok (some g.t) w := by cases g <;> kernel_rfl
theorem x_mk (g : Eg) (p : Addr) (w : World) : (ReflectliteValue.mk g.t p ReflectliteValue.flagAddr).run Tryz.prog w = .ok (.agg #[hd g.t, .pointer (some p), .int .u64 (g.fl + 256 : Nat)]) w := by cases g <;> kernel_rfl
theorem x_elemV (g : Eg) {a p : Addr} {w : World} (ha : w.cell? a = some (.pointer (some p))) :
    (ReflectliteValue.method (ReflectliteValue.valueError "reflectlite.Value.Elem" 0) ReflectliteValue.elem #[.agg #[hd g.p, .pointer (some a), .int .u64 150]]).run Tryz.prog w
      = .ok (.agg #[hd g.t, .pointer (some p), .int .u64 (g.fl + 256 : Nat)]) w := by
  rw [x_rlm]
  simp only [Sem.run_bind, x_partsP, Result.andThen]
  simp [ReflectliteValue.elem, x_loadP g ha, x_elemOf, x_mk, Result.andThen]
theorem x_rls (v x : Value) : ReflectliteValue.set #[v, x] = (do
    let (some (dst, a, fl), some (src, b, _)) := (← ReflectliteValue.parts v, ← ReflectliteValue.parts x)
      | unsupported (.noEntry "extern/(internal/reflectlite.Value).Set.zeroValue")
    if fl / ReflectliteValue.flagAddr % 2 == 0 then unsupported (.noEntry "extern/(internal/reflectlite.Value).Set.unaddressable")
    let val ← loadVar src b
    if ← Rtype.directlyAssignable dst src then storeVar dst a val
    else if ← Rtype.implements dst src then
      if (← Rtype.kind src) == 20 then
        match val with
        | .nilIface => unsupported (.noEntry "extern/reflectlite: a nil value of one interface type handed on as a value of another")
        | _ => storeVar dst a val
      else storeVar dst a (.iface src val)
    else panicString ("reflectlite.Set: value of type " ++ (← Rtype.spelt src) ++ " is not assignable to type " ++ (← Rtype.spelt dst))
    pure (.tuple #[])) := rfl
theorem x_direct (g : Eg) (w : World) : (Rtype.directlyAssignable g.t g.t).run Tryz.prog w = .ok true w := by cases g <;> kernel_rfl
theorem x_flag (g : Eg) : ((g.fl + 256) / ReflectliteValue.flagAddr % 2 == 0) = false := by cases g <;> rfl
theorem x_ldT {x : Er} {b : Nat} {w : World} (h : Blk w b x.tg.t x.cells) : (loadVar x.tg.t ⟨b, 0, none⟩).run Tryz.prog w = .ok x.d w := by
  have hk : ldK Tryz.prog x.tg.t w ⟨b, 0, none⟩ (fun u => u = x.d) .mk := by
    cases x with
    | no e => rw [ldK_cell (show isAggT Tryz.prog (Er.no e).tg.t = some false by kernel_rfl)]; exact ⟨_, h.cell 0, rfl⟩
    | pl p e =>
      rw [ldK_agg (show isAggT Tryz.prog (Er.pl p e).tg.t = some true by kernel_rfl), show cellsT Tryz.prog (Er.pl p e).tg.t = some 2 by kernel_rfl]
      exact h.aggK (by simp [Er.cells]) rfl
    | ins i y =>
      rw [ldK_agg (show isAggT Tryz.prog (Er.ins i y).tg.t = some true by kernel_rfl), show cellsT Tryz.prog (Er.ins i y).tg.t = some 2 by kernel_rfl]
      exact h.aggK (by simp [Er.cells]) rfl
  obtain ⟨u, hr, hu⟩ := run_loadVar_of hk
  rw [hr, hu]
theorem x_stT {x : Er} {t : Nat} {old : List Value} {w : World} (h : Blk w t x.tg.t old) (hl : old.length = x.tg.n) :
    ∃ w', (storeVar x.tg.t ⟨t, 0, none⟩ x.d).run Tryz.prog w = .ok () w' ∧ Blk w' t x.tg.t x.cells ∧ Keep (fun k => k = t) w w' := by
  refine run_storeVar_of (P := Tryz.prog) (K := fun w' => Blk w' t x.tg.t x.cells ∧ Keep (fun k => k = t) w w') (tk := .mk) ?_
  cases x with
  | no e =>
    rw [Er.d, stK_int (show cellsT Tryz.prog (Er.no e).tg.t = some 1 by kernel_rfl)]
    match old, hl with
    | [c], _ => exact h.st (i := 0) (by simp) ⟨by simpa [Er.cells] using h.set 0 (.int .i64 e), Keep.set1 _ _ _ _⟩
  | pl p e =>
    rw [Er.d, stK_agg (show cellsT Tryz.prog (Er.pl p e).tg.t = some 2 by kernel_rfl)]
    match old, hl with
    | [c, d], _ => exact ⟨rfl, h.stAgg (by simp) (by simp [Value.oneCell']) (fun w' hB hk => ⟨by simpa [Er.cells] using hB, hk⟩)⟩
  | ins i y =>
    rw [Er.d, stK_agg (show cellsT Tryz.prog (Er.ins i y).tg.t = some 2 by kernel_rfl)]
    match old, hl with
    | [c, d], _ => exact ⟨rfl, h.stAgg (by simp) (by simp [Value.oneCell']) (fun w' hB hk => ⟨by simpa [Er.cells, Er.v] using hB, hk⟩)⟩
theorem x_set {x : Er} {t b : Nat} {old : List Value} {w : World} (hb : Blk w b x.tg.t x.cells) (ht : Blk w t x.tg.t old) (hl : old.length = x.tg.n) :
    ∃ w', (ReflectliteValue.set #[.agg #[hd x.tg.t, .pointer (some ⟨t, 0, none⟩), .int .u64 (x.tg.fl + 256 : Nat)], .agg #[hd x.tg.t, .pointer (some ⟨b, 0, none⟩), .int .u64 x.tg.fl]]).run Tryz.prog w = .ok (.tuple #[]) w' ∧
      Blk w' t x.tg.t x.cells ∧ Keep (fun k => k = t) w w' := by
  obtain ⟨w', hr, h1, h2⟩ := x_stT (x := x) ht hl
  refine ⟨w', ?_, h1, h2⟩
  rw [x_rls]
  simp only [Sem.run_bind, x_partsA, x_partsT, Result.andThen, x_flag]
  simp [x_ldT hb, x_direct, Result.andThen, hr]

theorem extK_of {P : Program} {g : FuncId} {e : Array Value → Sem Value} {xs : List Value} {w w' : World} {v : Value} {K : VWK} {tk : Tok K} (he : ∀ args w, (callFunc g args).run P w = ((e args).run P w).andThen fun v w' => .ok (.value v) w')
    (hr : (e xs.toArray).run P w = .ok v w') (hk : K v w') : extK P g xs w K tk := ⟨v, w', by rw [he, hr]; rfl, hk⟩
theorem q_valueOf : ∀ (args : Array Value) (w : World), (callFunc 98 args).run Tryz.prog w = (((fun args => ReflectliteValue.unpack (args.getD 0 (.tuple #[]))) args).run Tryz.prog w).andThen fun v w' => .ok (.value v) w' :=
  @run_callFunc_extern Tryz.prog 98 _ (fun args => ReflectliteValue.unpack (args.getD 0 (.tuple #[]))) Tryz.func98 (by kernel_rfl) (by kernel_rfl) (by kernel_rfl) (by kernel_rfl)
theorem q_type : ∀ (args : Array Value) (w : World), (callFunc 99 args).run Tryz.prog w = (((ReflectliteValue.methodAny (ReflectliteValue.valueError "reflectlite.Value.Type" 0) (fun t _ _ _ => ReflectliteType.toType t)) args).run Tryz.prog w).andThen fun v w' => .ok (.value v) w' :=
  @run_callFunc_extern Tryz.prog 99 _ (ReflectliteValue.methodAny (ReflectliteValue.valueError "reflectlite.Value.Type" 0) (fun t _ _ _ => ReflectliteType.toType t)) Tryz.func99 (by kernel_rfl) (by kernel_rfl) (by kernel_rfl) (by kernel_rfl)
theorem q_isNil : ∀ (args : Array Value) (w : World), (callFunc 100 args).run Tryz.prog w = (((ReflectliteValue.method (ReflectliteValue.valueError "reflectlite.Value.IsNil" 0) ReflectliteValue.isNil) args).run Tryz.prog w).andThen fun v w' => .ok (.value v) w' :=
  @run_callFunc_extern Tryz.prog 100 _ (ReflectliteValue.method (ReflectliteValue.valueError "reflectlite.Value.IsNil" 0) ReflectliteValue.isNil) Tryz.func100 (by kernel_rfl) (by kernel_rfl) (by kernel_rfl) (by kernel_rfl)
theorem q_kind : ∀ (args : Array Value) (w : World), (callFunc 181 args).run Tryz.prog w = (((ReflectliteType.abiMethod fun t => do pure (.int .u8 (← Rtype.kind t))) args).run Tryz.prog w).andThen fun v w' => .ok (.value v) w' :=
  @run_callFunc_extern Tryz.prog 181 _ (ReflectliteType.abiMethod fun t => do pure (.int .u8 (← Rtype.kind t))) Tryz.func181 (by kernel_rfl) (by kernel_rfl) (by kernel_rfl) (by kernel_rfl)
theorem q_elem : ∀ (args : Array Value) (w : World), (callFunc 195 args).run Tryz.prog w = (((ReflectliteType.method ReflectliteType.elem) args).run Tryz.prog w).andThen fun v w' => .ok (.value v) w' :=
  @run_callFunc_extern Tryz.prog 195 _ (ReflectliteType.method ReflectliteType.elem) Tryz.func195 (by kernel_rfl) (by kernel_rfl) (by kernel_rfl) (by kernel_rfl)
theorem q_impl : ∀ (args : Array Value) (w : World), (callFunc 196 args).run Tryz.prog w = (((ReflectliteType.relation "Implements" ReflectliteType.implements_) args).run Tryz.prog w).andThen fun v w' => .ok (.value v) w' :=
  @run_callFunc_extern Tryz.prog 196 _ (ReflectliteType.relation "Implements" ReflectliteType.implements_) Tryz.func196 (by kernel_rfl) (by kernel_rfl) (by kernel_rfl) (by kernel_rfl)
theorem q_typeOf : ∀ (args : Array Value) (w : World), (callFunc 125 args).run Tryz.prog w = ((ReflectliteType.typeOf args).run Tryz.prog w).andThen fun v w' => .ok (.value v) w' :=
  @run_callFunc_extern Tryz.prog 125 _ ReflectliteType.typeOf Tryz.func125 (by kernel_rfl) (by kernel_rfl) (by kernel_rfl) (by kernel_rfl)
theorem q_assign : ∀ (args : Array Value) (w : World), (callFunc 193 args).run Tryz.prog w = (((ReflectliteType.relation "AssignableTo" ReflectliteType.assignableTo) args).run Tryz.prog w).andThen fun v w' => .ok (.value v) w' :=
  @run_callFunc_extern Tryz.prog 193 _ (ReflectliteType.relation "AssignableTo" ReflectliteType.assignableTo) Tryz.func193 (by kernel_rfl) (by kernel_rfl) (by kernel_rfl) (by kernel_rfl)
theorem q_elemV : ∀ (args : Array Value) (w : World), (callFunc 126 args).run Tryz.prog w = (((ReflectliteValue.method (ReflectliteValue.valueError "reflectlite.Value.Elem" 0) ReflectliteValue.elem) args).run Tryz.prog w).andThen fun v w' => .ok (.value v) w' :=
  @run_callFunc_extern Tryz.prog 126 _ (ReflectliteValue.method (ReflectliteValue.valueError "reflectlite.Value.Elem" 0) ReflectliteValue.elem) Tryz.func126 (by kernel_rfl) (by kernel_rfl) (by kernel_rfl) (by kernel_rfl)
theorem q_set : ∀ (args : Array Value) (w : World), (callFunc 127 args).run Tryz.prog w = ((ReflectliteValue.set args).run Tryz.prog w).andThen fun v w' => .ok (.value v) w' :=
  @run_callFunc_extern Tryz.prog 127 _ ReflectliteValue.set Tryz.func127 (by kernel_rfl) (by kernel_rfl) (by kernel_rfl) (by kernel_rfl)
theorem c_kind : callable Tryz.prog 181 = false := by kernel_rfl
theorem c_elem : callable Tryz.prog 195 = false := by kernel_rfl
theorem c_impl : callable Tryz.prog 196 = false := by kernel_rfl
theorem c_assign : callable Tryz.prog 193 = false := by kernel_rfl
theorem c_unAt : callable Tryz.prog 186 = true := by kernel_rfl
theorem c_unIn : callable Tryz.prog 188 = true := by kernel_rfl

/-- an assertion to an interface, by its run. -/
theorem genK_as {P : Program} {o : Oper} {s t : TypeId} {x : Operand} (hop : o.op = .typeAssert x s t true) {ρ : Operand → Value} {u r : Value} (hx : ρ x = u) {w : World} (hr : (Instr.typeAssert u s t true).run P w = .ok r w) {K : VWK} {tk : Tok (ρ, K)}
    (hk : K r w) : genK P o ρ w K tk := by
  refine ⟨r, w, .inl ?_, hk⟩
  unfold execOp
  simp only [hop, hx, Sem.run_bind, hr, Result.andThen_ok, Sem.run_pure]
theorem as_noAs (x : Er) (xT : TypeId) (w : World) : (Instr.typeAssert x.v xT 229 true).run Tryz.prog w = .ok (.tuple #[.nilIface, .bool false]) w := by
  cases x <;> exact run_typeAssert_lacksB Tryz.underlying229 (by kernel_rfl) (by kernel_rfl) _ xT w
theorem as_unNo (e : Int) (xT : TypeId) (w : World) : (Instr.typeAssert (Er.no e).v xT 232 true).run Tryz.prog w = .ok (.tuple #[.nilIface, .bool false]) w :=
  run_typeAssert_lacksB Tryz.underlying232 (by kernel_rfl) (by kernel_rfl) _ xT w
theorem as_unsNo (e : Int) (xT : TypeId) (w : World) : (Instr.typeAssert (Er.no e).v xT 234 true).run Tryz.prog w = .ok (.tuple #[.nilIface, .bool false]) w :=
  run_typeAssert_lacksB Tryz.underlying234 (by kernel_rfl) (by kernel_rfl) _ xT w
theorem as_unAt (p e : Int) (xT : TypeId) (w : World) : (Instr.typeAssert (Er.pl p e).v xT 232 true).run Tryz.prog w = .ok (.tuple #[(Er.pl p e).v, .bool true]) w :=
  run_typeAssert_hasB Tryz.underlying232 (by kernel_rfl) _ xT w
theorem as_unIn (i : Int) (x : Er) (xT : TypeId) (w : World) : (Instr.typeAssert (Er.ins i x).v xT 232 true).run Tryz.prog w = .ok (.tuple #[(Er.ins i x).v, .bool true]) w :=
  run_typeAssert_hasB Tryz.underlying232 (by kernel_rfl) _ xT w

theorem unwrapAt_ok {w : World} {p c : Int} {R : VWK} (h : ∀ w', Grow w w' → R (Er.no c).v w') : CallsV Tryz.prog 186 [(Er.pl p c).d] w R := by
  refine calls_of_wpC mixed Tryz.func186 rfl (by kernel_rfl) ?_
  intro e he
  have he0 := he 0
  simp only [List.getD_cons_zero, List.getD_cons_succ] at he0
  clear he
  simp -dsimp only [↓RE,↓c_seq,RU,RL,Nat.reduceLeDiff,Nat.reduceLT,pureOp,resK,endV,↓reduceIte,Nat.reduceEqDiff,reduceCtorEq,Nat.reduceAdd,Nat.reduceMul,Int.reduceLT,Int.reduceLE,Int.reduceToNat,decide_true,decide_false,tf186, he0, Er.d]
  have hB := Blk.new' w 101 #[.int .i64 p, .iface 31 (.int .i64 c)]
  simp -dsimp only [↓RE,↓c_seq,RU,RL,Nat.reduceLeDiff,Nat.reduceLT,pureOp,resK,endV,↓reduceIte,Nat.reduceEqDiff,reduceCtorEq,Nat.reduceAdd,Nat.reduceMul,Int.reduceLT,Int.reduceLE,Int.reduceToNat,decide_true,decide_false,tf186, he0, Er.d, hB.cell]
  exact h _ (Grow.alloc _ _)
theorem unwrapIn_ok {w : World} {i : Int} {x : Er} {R : VWK} (h : ∀ w', Grow w w' → R x.v w') : CallsV Tryz.prog 188 [(Er.ins i x).d] w R := by
  refine calls_of_wpC mixed Tryz.func188 rfl (by kernel_rfl) ?_
  intro e he
  have he0 := he 0
  simp only [List.getD_cons_zero, List.getD_cons_succ] at he0
  clear he
  simp -dsimp only [↓RE,↓c_seq,RU,RL,Nat.reduceLeDiff,Nat.reduceLT,pureOp,resK,endV,↓reduceIte,Nat.reduceEqDiff,reduceCtorEq,Nat.reduceAdd,Nat.reduceMul,Int.reduceLT,Int.reduceLE,Int.reduceToNat,decide_true,decide_false,tf188, he0, Er.d]
  have hB := Blk.new' w 103 #[.int .i64 i, .iface x.tg.t x.d]
  simp -dsimp only [↓RE,↓c_seq,RU,RL,Nat.reduceLeDiff,Nat.reduceLT,pureOp,resK,endV,↓reduceIte,Nat.reduceEqDiff,reduceCtorEq,Nat.reduceAdd,Nat.reduceMul,Int.reduceLT,Int.reduceLE,Int.reduceToNat,decide_true,decide_false,tf188, he0, Er.d, hB.cell]
  exact h _ (Grow.alloc _ _)

end Go.Proofs.YtljgnocpijniiaaGreatDoor
