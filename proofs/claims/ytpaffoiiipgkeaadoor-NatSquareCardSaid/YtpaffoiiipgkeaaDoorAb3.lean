/- The abstract machine: what an operation, a region, a piece of code and a call do to slots and to the abstract heap, as weakest preconditions. -/
import Derived.Test.YtpaffoiiipgkeaaDoorAb2
import Derived.Laws.StructEq
namespace Go.Proofs.YtpaffoiiipgkeaaDoor.Ab
open Go.RowKit
set_option linter.unusedVariables false

/-- A type, as the machine asks it. -/
inductive TD where
  | bool | int (k : IntKind) | str | ptr (e : TypeId) | sl (e : TypeId) | arr (n : Nat) (e : TypeId) | mp (k e : TypeId)
  | st (fs : List (Nat × Nat × TypeId)) | other

structure Ty where
  d : TD
  size : Nat
  bytes : Nat
  zero : List Value
  agg : Bool
  esz : Nat

def sizeB (P : Program) (t : TypeId) : Nat := ((P.info? t).map (·.size)).getD 0
def aggB (P : Program) (t : TypeId) : Bool := match P.underlying t with | some (.struct _) | some (.array _ _) => true | _ => false
def toTD (P : Program) : TypeDesc → TD
  | .bool => .bool | .int k => .int k | .string => .str | .pointer e => .ptr e | .slice e => .sl e | .array n e => .arr n e | .map k e => .mp k e
  | .struct fs => if fs.toList.all (fun f => (P.info? f.type).isSome) then .st (fs.toList.map fun f => (f.offset, sizeB P f.type, f.type)) else .other
  | _ => .other
def eszOf (P : Program) (size : Nat) : TypeDesc → Nat
  | .array _ e => sizeB P e
  | _ => size
def tyOf (P : Program) (t : TypeId) : Option Ty :=
  match P.info? t, P.underlying t with
  | some i, some d => match i.zero with
    | some z => some ⟨toTD P d, i.size, i.bytes, z.cells.toList, aggB P t, eszOf P i.size d⟩
    | none => none
  | _, _ => none

abbrev Tm := Nat → Option Value
def upd (τ : Tm) (t : Nat) (v : Value) : Tm := fun u => if u = t then some v else τ u
def updO (τ : Tm) (d : Option Tmp) (v : Value) : Tm := match d with | some t => upd τ t v | none => τ

def ev (τ : Tm) : Operand → Option Value
  | .tmp t => τ t
  | .const v => some v
  | .func f => some (.func (.func f) #[] #[])
  | .global g => some (.pointer (some ⟨g, 0, none⟩))

/-- A cell that leads nowhere. -/
def zc : Value → Bool
  | .bool _ | .int _ _ | .float _ _ | .string _ | .pointer none | .slice none _ _ | .map none | .nilFunc | .nilIface => true
  | _ => false

def byteAt (s : ByteArray) (i : Int) : Int := ((s.data.toList.getD i.toNat 0).toNat : Int)
def zl (zero : List Value) (n : Nat) : List Value := (List.range n).map fun j => zero.getD (j % zero.length) default

/-- So many cells read, one behind the other. -/
def rdn (G : Gl) (A : Hp) (p : Addr) : Nat → Nat → List Value → (List Value → Prop) → Prop
  | _, 0, acc, K => K acc
  | i, n + 1, acc, K => ∃ v, A.get G (aadd p i) = some v ∧ rdn G A p (i + 1) n (acc ++ [v]) K

/-- All parts' values. -/
def evs (τ : Tm) : List Operand → List Value → (List Value → Prop) → Prop
  | [], acc, K => K acc
  | x :: xs, acc, K => ∃ v, ev τ x = some v ∧ evs τ xs (acc ++ [v]) K
def evp (τ : Tm) : List (Nat × Operand) → List (Nat × Value) → (List (Nat × Value) → Prop) → Prop
  | [], acc, K => K acc
  | (i, x) :: xs, acc, K => ∃ v, ev τ x = some v ∧ evp τ xs (acc ++ [(i, v)]) K

def buildL (place : Nat → Option (Nat × Nat)) (cells : List Value) : List (Nat × Value) → Option (List Value)
  | [] => some cells
  | (i, v) :: rest =>
    match place i with
    | none => none
    | some (off, size) => if v.cells.size = size ∧ off + size ≤ cells.length then buildL place (wr cells off v.cells.toList) rest else none

def placesOf : TD → List (Nat × Nat × TypeId)
  | .st fs => fs
  | _ => []

def ones (v : Value) : Bool := v.cells.toList.all (·.oneCell')

/-- The callee is sound: whatever world the heap lies in, the call comes to the value, and leaves the heap so. -/
def CallsV (P : Program) (f : FuncId) (args : Array Value) (w : World) (R : Value → World → Prop) : Prop :=
  ((∃ fn, P.funcs[f]? = some fn ∧ (fn.name == "runtime.NumGoroutine") = false ∧ fn.body.isNone = false) ∧ Calls P f args w fun e w' => ∃ v, e = .returned v ∧ R v w') ∨
  ∃ v w', (callFunc f args).run P w = .ok (.value v) w' ∧ R v w'

def Sound (P : Program) (G : Gl) (f : FuncId) (args : List Value) (fl : Nat) (A : Hp) (v : Value) (A' : Hp) : Prop :=
  ∀ (μ : Mu) (w : World) (args' : Array Value), HR G μ fl A w → fl ≤ A.next → VRa μ A args.toArray args' →
    CallsV P f args' w fun v' w' => ∃ μ', VR μ' A' v v' ∧ HR G μ' fl A' w' ∧ Trans fl μ A w μ' A' w'

/-- A part of an aggregate. -/
def partV (P : Program) (t : TypeId) (xs : Array Value) (off : Nat) : Option Value := (tyOf P t).bind fun T => if T.agg then some (.agg (xs.extract off (off + T.size))) else xs[off]?
/-- Are two aggregates equal, field by field? -/
def eqFs (P : Program) (eq : TypeId → Value → Value → Option Bool) (xs ys : Array Value) : List Field → Option Bool
  | [] => some true
  | f :: fs => if f.name = "_" then eqFs P eq xs ys fs else
    (partV P f.type xs f.offset).bind fun a => (partV P f.type ys f.offset).bind fun b => (eq f.type a b).bind fun r => (eqFs P eq xs ys fs).map fun s => r && s
def eqD (P : Program) : Nat → TypeId → Value → Value → Option Bool
  | 0, _, _, _ => none
  | d + 1, t, x, y => match P.underlying t, x, y with
    | some .bool, .bool a, .bool b => some (a == b)
    | some (.int _), .int k a, .int k' b => if k = k' then some (a == b) else none
    | some .string, .string a, .string b => some (decide (a = b))
    | some (.struct fs), .agg xs, .agg ys => if P.stoodInHeld t then none else eqFs P (eqD P d) xs ys fs.toList
    | _, _, _ => none
/-- Equality of aggregates, and with nil. -/
def aeq (P : Program) (t : TypeId) (a b : Value) (K : Bool → Prop) : Prop :=
  (∃ xs ys r, a = .agg xs ∧ b = .agg ys ∧ P.eqGuardType P.depth t = false ∧ eqD P 20 t (.agg xs) (.agg ys) = some r ∧ K r) ∨
  (∃ o n c n' c' e, a = .slice o n c ∧ b = .slice none n' c' ∧ (tyOf P t).map (·.d) = some (.sl e) ∧ K o.isNone) ∨
  (∃ o e, a = .pointer o ∧ b = .pointer none ∧ (tyOf P t).map (·.d) = some (.ptr e) ∧ K o.isNone)

section
variable (P : Program) (G : Gl)

def acall (f : FuncId) (args : List Value) (fl : Nat) (A : Hp) (K : Value → Hp → Prop) : Prop := ∃ v A', Sound P G f args fl A v A' ∧ K v A'

def abin (op : BinOp) (t : TypeId) (a b : Value) (K : Value → Prop) : Prop :=
  match op with
  | .add => (∃ k x y, a = .int k x ∧ b = .int k y ∧ K (.int k (k.wrap (x + y)))) ∨ (∃ x y, a = .string x ∧ b = .string y ∧ x.size + y.size ≤ 9223372036854775807 ∧ K (.string (x ++ y)))
  | .sub => ∃ k x y, a = .int k x ∧ b = .int k y ∧ K (.int k (k.wrap (x - y)))
  | .mul => ∃ k x y, a = .int k x ∧ b = .int k y ∧ K (.int k (k.wrap (x * y)))
  | .quo => ∃ k x y, a = .int k x ∧ b = .int k y ∧ y ≠ 0 ∧ K (.int k (k.wrap (x.tdiv y)))
  | .rem => ∃ k x y, a = .int k x ∧ b = .int k y ∧ y ≠ 0 ∧ K (.int k (x.tmod y))
  | .and | .or | .xor | .andNot => ∃ k x y, a = .int k x ∧ b = .int k y ∧ K (.int k (k.wrap (match op with
      | .and => (BitVec.ofInt k.bits x &&& BitVec.ofInt k.bits y) | .or => (BitVec.ofInt k.bits x ||| BitVec.ofInt k.bits y)
      | .xor => (BitVec.ofInt k.bits x ^^^ BitVec.ofInt k.bits y) | _ => (BitVec.ofInt k.bits x &&& ~~~ BitVec.ofInt k.bits y)).toNat))
  | .shl => ∃ k k' x y, a = .int k x ∧ b = .int k' y ∧ 0 ≤ y ∧ K (.int k (k.wrap (x * 2 ^ min y.toNat k.bits)))
  | .shr => ∃ k k' x y, a = .int k x ∧ b = .int k' y ∧ 0 ≤ y ∧ K (.int k (x.fdiv (2 ^ min y.toNat k.bits)))
  | .lss => ∃ k x y, a = .int k x ∧ b = .int k y ∧ K (.bool (decide (x < y)))
  | .leq => ∃ k x y, a = .int k x ∧ b = .int k y ∧ K (.bool (decide (x ≤ y)))
  | .gtr => ∃ k x y, a = .int k x ∧ b = .int k y ∧ K (.bool (decide (x > y)))
  | .geq => ∃ k x y, a = .int k x ∧ b = .int k y ∧ K (.bool (decide (x ≥ y)))
  | .eql => (∃ k x y, a = .int k x ∧ b = .int k y ∧ K (.bool (decide (x = y)))) ∨ (∃ x y, a = .string x ∧ b = .string y ∧ K (.bool (decide (x = y)))) ∨
      (∃ x y, a = .bool x ∧ b = .bool y ∧ (tyOf P t).map (·.d) = some .bool ∧ K (.bool (x == y))) ∨ aeq P t a b fun r => K (.bool r)
  | .neq => (∃ k x y, a = .int k x ∧ b = .int k y ∧ K (.bool (decide (x ≠ y)))) ∨ (∃ x y, a = .string x ∧ b = .string y ∧ K (.bool (decide (x ≠ y)))) ∨
      (∃ x y, a = .bool x ∧ b = .bool y ∧ (tyOf P t).map (·.d) = some .bool ∧ K (.bool (!(x == y)))) ∨ aeq P t a b fun r => K (.bool (!r))

def alo (τ : Tm) (lo : Option Operand) (K : Nat → Prop) : Prop :=
  match lo with
  | none => K 0
  | some i => ∃ k x, ev τ i = some (.int k x) ∧ 0 ≤ x ∧ K x.toNat
def ahi (τ : Tm) (hi : Option Operand) (K : Option Nat → Prop) : Prop :=
  match hi with
  | none => K none
  | some i => ∃ k x, ev τ i = some (.int k x) ∧ 0 ≤ x ∧ K (some x.toNat)

def aslice (A : Hp) (t : TypeId) (x : Value) (l : Nat) (h : Option Nat) (K : Value → Prop) : Prop :=
  (∃ s, x = .string s ∧ (tyOf P t).map (·.d) = some .str ∧ l ≤ h.getD s.size ∧ h.getD s.size ≤ s.size ∧ K (.string (s.extract l (h.getD s.size)))) ∨
  (∃ n c, x = .slice none n c ∧ (∃ e T, (tyOf P t).map (·.d) = some (.sl e) ∧ tyOf P e = some T) ∧ l = 0 ∧ h.getD n = 0 ∧ n = 0 ∧ c = 0 ∧ K (.slice none 0 0)) ∨
  (∃ a n c e T, x = .slice (some a) n c ∧ (tyOf P t).map (·.d) = some (.sl e) ∧ tyOf P e = some T ∧ l ≤ h.getD n ∧ (h.getD n ≤ n ∨ h.getD n ≤ c) ∧
      (∀ cs g e', A.blk a.block = some (.row cs g e') → e' = T.size) ∧ K (.slice (some (aadd a (l * T.size))) (h.getD n - l) (c - l))) ∨
  (∃ a n e T g cs e', x = .pointer (some a) ∧ (tyOf P t).map (·.d) = some (.arr n e) ∧ tyOf P e = some T ∧ l ≤ h.getD n ∧ h.getD n ≤ n ∧ a.spot = some g ∧ A.blk a.block = some (.row cs g e') ∧
      e' = T.size ∧ a.off + n * T.size ≤ cs.length ∧ K (.slice (some (aadd a (l * T.size))) (h.getD n - l) (n - l)))

/-- What a slice or a string holds, as new cells. -/
def news (A : Hp) (size : Nat) (x : Value) (m : Nat) (vs : List Value) : Prop :=
  vs.length = m * size ∧ ((∃ c, x = .slice none m c ∧ m = 0) ∨
    (∃ a c, x = .slice (some a) m c ∧ a.spot ≠ none ∧ (∀ j v, vs[j]? = some v → A.get G (aadd a j) = some v)) ∨
    (∃ s, x = .string s ∧ m = s.size ∧ size = 1 ∧ vs = s.data.toList.map fun b => Value.int .u8 (b.toNat : Int)))

/-- append: s is told again, longer; what it was is of an elder generation. -/
def aappend (fl : Nat) (A : Hp) (ts : Array TypeId) (s x : Value) (K : Value → Hp → Prop) : Prop :=
  ∃ t u e T E m vs, ts = #[t, u] ∧ tyOf P t = some T ∧ T.d = .sl e ∧ tyOf P e = some E ∧ ((tyOf P u).map (fun U => match U.d with | .sl _ | .str => true | _ => false)) = some true ∧ 0 < E.size ∧ E.zero.length = E.size ∧
    vs.all (·.oneCell') = true ∧ news G A E.size x m vs ∧
    ((s = .slice none 0 0 ∧ m = 0 ∧ K (.slice none 0 0) A) ∨
     (s = .slice none 0 0 ∧ 0 < m ∧ m * E.bytes ≤ 140737488355328 ∧ m ≤ 140737488355328 ∧ K (.slice (some ⟨A.next, 0, some 0⟩) m m) (A.push (.row vs 0 E.size))) ∨
     (∃ a n c g cs, s = .slice (some a) n c ∧ a.spot = some g ∧ A.blk a.block = some (.row cs g E.size) ∧ fl ≤ a.block ∧ a.off + n * E.size ≤ cs.length ∧ cs.all (·.oneCell') = true ∧
        (n + m) * E.bytes ≤ 140737488355328 ∧ n + m ≤ 140737488355328 ∧
        K (.slice (some ⟨a.block, 0, some (g + 1)⟩) (n + m) (n + m)) (A.put a.block (.row ((cs.drop a.off).take (n * E.size) ++ vs) (g + 1) E.size))))

def aop (fl : Nat) (o : Oper) (τ : Tm) (A : Hp) (K : Value → Hp → Prop) : Prop :=
  match o.op with
  | .move x | .assign x => ∃ v, ev τ x = some v ∧ K v A
  | .pick c x y => ∃ b, ev τ c = some (.bool b) ∧ (b = true → ∃ v, ev τ x = some v ∧ K v A) ∧ (b = false → ∃ v, ev τ y = some v ∧ K v A)
  | .alloc t => ∃ T, tyOf P t = some T ∧ T.zero.all zc = true ∧ K (.pointer (some ⟨A.next, 0, some 0⟩)) (A.push (.row T.zero 0 T.esz))
  | .box t x => ∃ T, tyOf P t = some T ∧ ∃ v, ev τ x = some v ∧ K (.pointer (some ⟨A.next, 0, some 0⟩)) (A.push (.row v.cells.toList 0 T.esz))
  | .build t ps => ∃ T, tyOf P t = some T ∧ T.zero.all zc = true ∧ evp τ ps.toList [] fun pvs =>
      (∃ fs, T.d = .st fs ∧ ∃ cs, buildL (fun i => (fs[i]?).map fun f => (f.1, f.2.1)) T.zero pvs = some cs ∧ K (.agg cs.toArray) A) ∨
      (∃ n e E, T.d = .arr n e ∧ tyOf P e = some E ∧ ∃ cs, buildL (fun i => some (i * E.size, E.size)) T.zero pvs = some cs ∧ K (.agg cs.toArray) A)
  | .buildSlice t len ps => ∃ T, tyOf P t = some T ∧ ∃ e E, T.d = .sl e ∧ tyOf P e = some E ∧ E.zero.all zc = true ∧ len * E.size ≤ 16777216 ∧ evp τ ps.toList [] fun pvs =>
      ∃ cs, buildL (fun i => some (i * E.size, E.size)) (zl E.zero (len * E.size)) pvs = some cs ∧ K (.slice (some ⟨A.next, 0, some 0⟩) len len) (A.push (.row cs 0 E.size))
  | .load t x => ∃ p, ev τ x = some (.pointer (some p)) ∧ ∃ T, tyOf P t = some T ∧
      ((T.agg = true ∧ rdn G A p 0 T.size [] fun vs => K (.agg vs.toArray) A) ∨ (T.agg = false ∧ ∃ v, A.get G p = some v ∧ K v A))
  | .store t x y => ∃ p, ev τ x = some (.pointer (some p)) ∧ ∃ v, ev τ y = some v ∧ ∃ T, tyOf P t = some T ∧ v.cells.size = T.size ∧ ones v = true ∧
      ∃ g cs e, p.spot = some g ∧ A.blk p.block = some (.row cs g e) ∧ fl ≤ p.block ∧ p.off + v.cells.size ≤ cs.length ∧ K undef (A.put p.block (.row (wr cs p.off v.cells.toList) g e))
  | .nilCheck x => (∃ p, ev τ x = some (.pointer (some p)) ∧ K (.pointer (some p)) A) ∨ (∃ f a b, ev τ x = some (.func (.func f) a b) ∧ K (.func (.func f) a b) A)
  | .binOp op t x y _ => ∃ a, ev τ x = some a ∧ ∃ b, ev τ y = some b ∧ abin P op t a b fun v => K v A
  | .unOp op _ x => match op with
    | .neg => ∃ k n, ev τ x = some (.int k n) ∧ K (.int k (k.wrap (0 - n))) A
    | .not => ∃ b, ev τ x = some (.bool b) ∧ K (.bool (!b)) A
    | _ => False
  | .convert s d x => ∃ S, tyOf P s = some S ∧ ∃ D, tyOf P d = some D ∧ ∃ v, ev τ x = some v ∧
      ((∃ k k' n, D.d = .int k ∧ v = .int k' n ∧ K (.int k (k.wrap n)) A) ∨
       (∃ b, D.d = .str ∧ v = .string b ∧ K (.string b) A) ∨
       (∃ e E b, S.d = .str ∧ D.d = .sl e ∧ tyOf P e = some E ∧ E.d = .int .u8 ∧ v = .string b ∧ K (.slice (some ⟨A.next, 0, some 0⟩) b.size b.size) (A.push (.row (b.data.toList.map fun c => Value.int .u8 (c.toNat : Int)) 0 1))) ∨
       (∃ e E, S.d = .sl e ∧ D.d = .str ∧ tyOf P e = some E ∧ E.d = .int .u8 ∧
          ((∃ n c, v = .slice none n c ∧ K (.string ByteArray.empty) A) ∨
           (∃ a n c, ∃ l : List UInt8, v = .slice (some a) n c ∧ a.spot ≠ none ∧ l.length = n ∧ (∀ j (u : UInt8), l[j]? = some u → A.get G (aadd a j) = some (.int .u8 (u.toNat : Int))) ∧ K (.string ⟨l.toArray⟩) A))))
  | .makeFunc fn first captured => ∃ f, fn = .func f ∧ evs τ first.toList [] fun xs => evs τ captured.toList [] fun ys => K (.func fn xs.toArray ys.toArray) A
  | .makeSlice t x y => ∃ T, tyOf P t = some T ∧ ∃ e E, T.d = .sl e ∧ tyOf P e = some E ∧ E.zero.all zc = true ∧ ∃ k k' l c, ev τ x = some (.int k l) ∧ ev τ y = some (.int k' c) ∧ 0 ≤ l ∧ l ≤ c ∧
      (E.bytes : Int) * c ≤ 281474976710656 ∧ c ≤ 9223372036854775807 ∧ K (.slice (some ⟨A.next, 0, some 0⟩) l.toNat c.toNat) (A.push (.row (zl E.zero (c.toNat * E.size)) 0 E.size))
  | .slice t x lo hi mx => mx = none ∧ ∃ v, ev τ x = some v ∧ alo τ lo fun l => ahi τ hi fun h => aslice P A t v l h fun r => K r A
  | .fieldAddr s x i => ∃ p, ev τ x = some (.pointer (some p)) ∧ ∃ S, tyOf P s = some S ∧ ∃ f, (placesOf S.d)[i]? = some f ∧ f.2.1 ≠ 0 ∧ K (.pointer (some (aadd p f.1))) A
  | .field s x i => ∃ cs, ev τ x = some (.agg cs) ∧ ∃ S, tyOf P s = some S ∧ ∃ f, (placesOf S.d)[i]? = some f ∧ ∃ T, tyOf P f.2.2 = some T ∧
      ((T.agg = true ∧ K (.agg (cs.extract f.1 (f.1 + T.size))) A) ∨ (T.agg = false ∧ ∃ v, cs[f.1]? = some v ∧ K v A))
  | .indexAddr t x i => ∃ T, tyOf P t = some T ∧ ∃ k n, ev τ i = some (.int k n) ∧ 0 ≤ n ∧ ∃ v, ev τ x = some v ∧
      ((∃ e E a len c, T.d = .sl e ∧ tyOf P e = some E ∧ v = .slice (some a) len c ∧ n < len ∧ K (.pointer (some (aadd a (n.toNat * E.size)))) A) ∨
       (∃ len e E a, T.d = .arr len e ∧ tyOf P e = some E ∧ v = .pointer (some a) ∧ n < len ∧ K (.pointer (some (aadd a (n.toNat * E.size)))) A))
  | .index t x i => ∃ T, tyOf P t = some T ∧ ∃ k n, ev τ i = some (.int k n) ∧ 0 ≤ n ∧ ∃ v, ev τ x = some v ∧
      ((∃ s, T.d = .str ∧ v = .string s ∧ n < s.size ∧ K (.int .u8 (byteAt s n)) A) ∨
       (∃ len e E cs, T.d = .arr len e ∧ tyOf P e = some E ∧ v = .agg cs ∧ n < len ∧
          ((E.agg = true ∧ K (.agg (cs.extract (n.toNat * E.size) (n.toNat * E.size + E.size))) A) ∨ (E.agg = false ∧ ∃ u, cs[n.toNat * E.size]? = some u ∧ K u A))))
  | .extract x i => ∃ vs, ev τ x = some (.tuple vs) ∧ ∃ v, vs[i]? = some v ∧ K v A
  | .call c => match c.callee with
    | .value f => ∃ fid first captured, ev τ f = some (.func (.func fid) first captured) ∧ evs τ c.args.toList [] fun xs => acall P G fid (first.toList ++ xs ++ captured.toList) fl A K
    | .builtin .len => ∃ t T, c.argTypes[0]? = some t ∧ tyOf P t = some T ∧ evs τ c.args.toList [] fun xs => ∃ v, xs[0]? = some v ∧
        ((∃ s, T.d = .str ∧ v = .string s ∧ K (.int .i64 s.size) A) ∨ (∃ e, ∃ a : Option Addr, ∃ n cp : Nat, T.d = .sl e ∧ v = .slice a n cp ∧ K (.int .i64 (n : Int)) A) ∨ (∃ n : Nat, ∃ e, T.d = .arr n e ∧ K (.int .i64 (n : Int)) A))
    | .builtin .append => evs τ c.args.toList [] fun xs => ∃ s x, xs = [s, x] ∧ aappend P G fl A c.argTypes s x K
    | .builtin .min => evs τ c.args.toList [] fun xs => ∃ k x y, xs = [.int k x, .int k y] ∧ K (.int k (if y < x then y else x)) A
    | .builtin .max => evs τ c.args.toList [] fun xs => ∃ k x y, xs = [.int k x, .int k y] ∧ K (.int k (if y > x then y else x)) A
    | _ => False
  | _ => False

end
end Go.Proofs.YtpaffoiiipgkeaaDoor.Ab
