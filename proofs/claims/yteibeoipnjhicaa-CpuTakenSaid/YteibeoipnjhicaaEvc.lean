import Derived.Test.YteibeoipnjhicaaEvb
import Derived.ChangeKeysEq
namespace Go.Proofs.Yteibeoipnjhicaa
open Go Go.RowKit
set_option linter.unusedVariables false
set_option linter.unusedSimpArgs false
/-! What operations make of pure values. -/
abbrev Env := Nat → PV
def upd (e : Env) (d : Option Tmp) (v : PV) : Env := match d with | some d => fun t => if t = d then v else e t | none => e
def PV.cells? : PV → Option (List PV)
  | .agg l => some l
  | .any => none
  | .undef => none
  | .tup _ => none
  | .nilsl => none
  | .gr _ _ => none
  | .nilif => some [.nilif]
  | .nilfn => some [.nilfn]
  | .bool b => some [.bool b]
  | .int k n => some [.int k n]
  | .str s => some [.str s]
  | .sl els => some [.sl els]
  | .ref l => some [.ref l]
  | .ptr id off => some [.ptr id off]
  | .fn f a b => some [.fn f a b]
  | .ifc t v => some [.ifc t v]
  | .bs id n e sz => some [.bs id n e sz]
  | .bz => some [.bz]
  | .c0 => some [.c0]
def cv0 : Value → PV
  | .bool b => .bool b
  | .int k n => .int k n
  | .string s => .str s
  | .slice none 0 0 => .sl []
  | .nilIface => .nilif
  | .nilFunc => .nilfn
  | _ => .any
def cv : Value → PV
  | .agg cs => if cs.toList.all (·.oneCell') then .agg (cs.toList.map cv0) else .any
  | .bool b => .bool b
  | .int k n => .int k n
  | .string s => .str s
  | .slice none 0 0 => .nilsl
  | .nilIface => .nilif
  | .nilFunc => .nilfn
  | _ => .any
def rho (e : Env) : Operand → PV
  | .tmp t => e t
  | .const v => cv v
  | .global _ => .any
  | .func f => .fn (.func f) [] []
def strip (H : Heap) : PV → PV
  | .nilsl => .sl []
  | .gr id k => match H id with
    | some (.row _ _ els) => if els.length = k then .sl els else .any
    | _ => .any
  | p => p
inductive Eff where
  | nop
  | new (l : List PV)
  | put (id off : Nat) (l : List PV)
  | born (e sz : Nat) (els : List (List PV))
  | grow (id e sz : Nat) (els : List (List PV))
def Eff.app (m : Nat) (H : Heap) : Eff → Heap
  | .nop => H
  | .new l => hset H m (some (.box l))
  | .put id off x => match H id with
    | some (.box l) => hset H id (some (.box (splice l off x)))
    | _ => H
  | .born e sz els => hset H m (some (.row e sz els))
  | .grow id e sz els => hset H id (some (.row e sz els))
def Eff.cnt : Eff → Nat
  | .new _ => 1
  | .born _ _ _ => 1
  | _ => 0
def eqLeaf : PV → PV → Bool
  | .bool a, .bool b => a == b
  | .int _ a, .int _ b => a == b
  | _, _ => false
def eqL : List PV → List PV → Bool
  | [], [] => true
  | a :: l, b :: k => eqLeaf a b && eqL l k
  | _, _ => false
def eInt (op : BinOp) (k : IntKind) (a b : Int) : Option PV :=
  match op with
  | .add => some (.int k (k.wrap (a + b)))
  | .sub => some (.int k (k.wrap (a - b)))
  | .mul => some (.int k (k.wrap (a * b)))
  | .quo => if b = 0 then none else some (.int k (k.wrap (a.tdiv b)))
  | .rem => if b = 0 then none else some (.int k (a.tmod b))
  | .and => some (.int k (k.wrap (BitVec.ofInt k.bits a &&& BitVec.ofInt k.bits b).toNat))
  | .or => some (.int k (k.wrap (BitVec.ofInt k.bits a ||| BitVec.ofInt k.bits b).toNat))
  | .xor => some (.int k (k.wrap (BitVec.ofInt k.bits a ^^^ BitVec.ofInt k.bits b).toNat))
  | .andNot => some (.int k (k.wrap (BitVec.ofInt k.bits a &&& ~~~ BitVec.ofInt k.bits b).toNat))
  | .eql => some (.bool (a == b))
  | .neq => some (.bool (a != b))
  | .lss => some (.bool (decide (a < b)))
  | .leq => some (.bool (decide (a ≤ b)))
  | .gtr => some (.bool (decide (a > b)))
  | .geq => some (.bool (decide (a ≥ b)))
  | _ => none
def eShift (op : BinOp) (k : IntKind) (a b : Int) : Option PV :=
  if b < 0 then none else
  match op with
  | .shl => some (.int k (k.wrap (a * 2 ^ min b.toNat k.bits)))
  | .shr => some (.int k (a.fdiv (2 ^ min b.toNat k.bits)))
  | _ => none
section
variable (P : Program)
def aggT (t : TypeId) : Option Bool := (P.underlying t).map fun d => match d with | .struct _ => true | .array _ _ => true | _ => false
def ifcT (t : TypeId) : Option Bool := (P.underlying t).map fun d => match d with | .interface _ => true | _ => false
def cut (t : TypeId) (l : List PV) (off : Nat) : Option PV :=
  match aggT P t with
  | some true => if off + P.cellsOf t ≤ l.length then some (.agg ((l.drop off).take (P.cellsOf t))) else none
  | some false => l[off]?
  | none => none
/-- A type's cells when nothing has been said. -/
def zeros (t : TypeId) : Option (List PV) :=
  match P.info? t with
  | some i => match i.zero with
    | some z => if z.cells.toList.all (·.oneCell') then some (z.cells.toList.map cv0) else none
    | none => none
  | none => none
/-- An element type's cells and bytes. -/
def eInfo (e : TypeId) : Option (Nat × Nat) :=
  match P.info? e with
  | some i => match i.zero with
    | some z => if z.cells.size = i.size ∧ 0 < i.size then some (i.size, i.bytes) else none
    | none => none
  | none => none
def fieldOf (t : TypeId) (f : Nat) : Option (TypeId × Nat) :=
  match P.underlying t with
  | some (.struct fs) => match fs[f]? with
    | some fd => if (aggT P fd.type).isSome ∧ 0 < P.cellsOf fd.type then some (fd.type, fd.offset) else none
    | none => none
  | _ => none
/-- The leaves of a value that is compared. -/
def pl : Nat → TypeId → List PV → Option (List PV)
  | 0, _, _ => none
  | d + 1, t, cs =>
    match P.underlying t with
    | some .bool => match cs with
      | [.bool b] => some [.bool b]
      | _ => none
    | some (.int q) => match cs with
      | [.int k n] => if k = q then some [.int k n] else none
      | _ => none
    | some (.array n e) => if cs.length = P.cellsOf t ∧ 0 < n then ((List.range n).mapM fun i => pl d e ((cs.drop (i * P.cellsOf e)).take (P.cellsOf e))).map List.flatten else none
    | some (.struct fs) => if cs.length = P.cellsOf t ∧ fs.all (·.name != "_") = true ∧ P.stoodInHeld t = false then (fs.toList.mapM fun f => pl d f.type ((cs.drop f.offset).take (P.cellsOf f.type))).map List.flatten else none
    | _ => none
def evBin (op : BinOp) (t : TypeId) : PV → PV → Option PV
  | .int k a, .int k' b => match op with
    | .shl => eShift .shl k a b
    | .shr => eShift .shr k a b
    | op => if k = k' then eInt op k a b else none
  | .bool a, .bool b => match P.underlying t with
    | some .bool => match op with
      | .eql => some (.bool (a == b))
      | .neq => some (.bool (!(a == b)))
      | _ => none
    | _ => none
  | .agg xs, .agg ys => if P.eqGuardType P.depth t = true ∨ aggT P t ≠ some true then none else
    match pl P 20 t xs, pl P 20 t ys with
    | some a, some b => match op with
      | .eql => some (.bool (eqL a b))
      | .neq => some (.bool (!(eqL a b)))
      | _ => none
    | _, _ => none
  | .ifc _ _, .nilif => if ifcT P t = some true then match op with
      | .eql => some (.bool false)
      | .neq => some (.bool true)
      | _ => none
    else none
  | _, _ => none
def pfill (place : Nat → Option (Nat × Nat)) (cells : List PV) : List (Nat × PV) → Option (List PV)
  | [] => some cells
  | (i, p) :: rest => match place i with
    | some (off, size) => match p.cells? with
      | some l => if l.length = size ∧ off + l.length ≤ cells.length then pfill place (splice cells off l) rest else none
      | none => none
    | none => none
def chunks (sz : Nat) : Nat → List PV → List (List PV)
  | 0, _ => []
  | n + 1, l => l.take sz :: chunks sz n (l.drop sz)
def evBuild (t : TypeId) (parts : List (Nat × PV)) : Option PV :=
  match zeros P t with
  | some z => match P.underlying t with
    | some (.struct fs) => if fs.all (fun f => (P.info? f.type).isSome) then (pfill (fun i => (fs[i]?).map fun f => (f.offset, P.cellsOf f.type)) z parts).map .agg else none
    | some (.array _ e) => if (P.info? e).isSome then (pfill (fun i => some (i * P.cellsOf e, P.cellsOf e)) z parts).map .agg else none
    | _ => none
  | none => none
def evBuildSlice (t : TypeId) (n : Nat) (parts : List (Nat × PV)) : Option PV :=
  match P.underlying t with
  | some (.slice e) => match n with
    | 0 => match parts with
      | [] => if (P.info? e).isSome = true then some .nilsl else none
      | _ => none
    | n + 1 => match eInfo P e, zeros P e with
      | some (sz, _), some z => if (n + 1) * sz ≤ 16777216 then (pfill (fun i => some (i * sz, sz)) (List.replicate (n + 1) z).flatten parts).map fun l => .sl (chunks sz (n + 1) l) else none
      | _, _ => none
  | _ => none
def evAppend (x : PV) (y : PV) (H : Heap) (m : Nat) (t t' : TypeId) : Option (PV × Eff) :=
  match P.underlying t with
  | some (.slice e) => match P.underlying t' with
    | some (.slice _) => match eInfo P e with
      | some (sz, by_) => match y with
        | .sl ys => if ys.all (fun r => r.length == sz) = true then
            match x with
            | .nilsl => match ys with
              | [] => some (.nilsl, .nop)
              | _ :: _ => if ys.length * by_ ≤ 140737488355328 ∧ ys.length ≤ maxLen then some (.gr m ys.length, .born e sz ys) else none
            | .gr id k => match H id with
              | some (.row e0 sz0 els) => if els.length = k ∧ e0 = e ∧ sz0 = sz then
                  match ys with
                  | [] => some (.gr id k, .nop)
                  | _ :: _ => if (k + ys.length) * by_ ≤ 140737488355328 ∧ k + ys.length ≤ maxLen then some (.gr id (k + ys.length), .grow id e sz (els ++ ys)) else none
                else none
              | _ => none
            | _ => none
          else none
        | _ => none
      | none => none
    | _ => none
  | _ => none
def evSlice (t : TypeId) (x : PV) (lo hi : Option PV) : Option PV :=
  match P.underlying t with
  | some (.slice e) => if (P.info? e).isSome then match x with
    | .sl els =>
      match (match hi with | some (.int _ n) => (if 0 ≤ n ∧ n ≤ els.length then some n.toNat else none) | some _ => none | none => some els.length) with
      | some h => match (match lo with | some (.int _ n) => (if 0 ≤ n ∧ n ≤ (h : Int) then some n.toNat else none) | some _ => none | none => some 0) with
        | some l => if ((els[l]?).all fun c => c.length == P.cellsOf e) = true then some (.sl ((els.take h).drop l)) else none
        | none => none
      | none => none
    | _ => none
    else none
  | _ => none
def evIndexAddr (t : TypeId) (x i : PV) : Option PV :=
  match i with
  | .int _ n => match P.underlying t with
    | some (.slice e) => match x with
      | .sl els => if 0 ≤ n then match els[n.toNat]? with
          | some c => if c.length = P.cellsOf e ∧ (P.info? e).isSome = true then some (.ref c) else none
          | none => none
        else none
      | .bs id k _ _ => if 0 ≤ n ∧ n < k ∧ (P.info? e).isSome = true then some (.ptr id (n.toNat * P.cellsOf e)) else none
      | _ => none
    | some (.array len e) => if 0 ≤ n ∧ n < len ∧ (P.info? e).isSome = true then match x with
        | .ptr id off => some (.ptr id (off + n.toNat * P.cellsOf e))
        | .ref l => some (.ref (l.drop (n.toNat * P.cellsOf e)))
        | _ => none
      else none
    | _ => none
  | _ => none
def evMake (t : TypeId) (x y : PV) : Option PV :=
  match P.underlying t with
  | some (.slice e) => match eInfo P e, zeros P e with
    | some (_, by_), some z => match x with
      | .int _ a => match y with
        | .int _ b => if a = b ∧ 0 ≤ a ∧ (by_ : Int) * a ≤ 281474976710656 ∧ a ≤ 9223372036854775807 then some (.sl (List.replicate a.toNat z)) else none
        | _ => none
      | _ => none
    | _, _ => none
  | _ => none
def evIndex (t : TypeId) (x i : PV) : Option PV :=
  match i with
  | .int _ n => match P.underlying t with
    | some (.array len e) => match x with
      | .agg l => if 0 ≤ n ∧ n < len ∧ (P.info? e).isSome = true then cut P e l (n.toNat * P.cellsOf e) else none
      | _ => none
    | _ => none
  | _ => none
def evLen (t : TypeId) (x : PV) : Option PV :=
  match P.underlying t with
  | some (.slice _) => match x with
    | .sl els => some (.int .i64 els.length)
    | .bs _ n _ _ => some (.int .i64 n)
    | .bz => some (.int .i64 (0 : Nat))
    | _ => none
  | some (.array n _) => some (.int .i64 n)
  | _ => none
def evOp (ρ : Operand → PV) (s : PV → PV) (H : Heap) (m : Nat) (op : Op) : Option (PV × Eff) :=
  match op with
  | .move x => some (ρ x, .nop)
  | .assign x => some (ρ x, .nop)
  | .pick c a b => match ρ c with
    | .bool t => some (if t then ρ a else ρ b, .nop)
    | _ => none
  | .alloc t => match zeros P t with
    | some l => some (.ptr m 0, .new l)
    | none => none
  | .box t x => match (s (ρ x)).cells? with
    | some l => some (.ptr m 0, .new l)
    | none => none
  | .build t parts => (evBuild P t (parts.toList.map fun (i, x) => (i, s (ρ x)))).map (·, .nop)
  | .buildSlice t n parts => (evBuildSlice P t n (parts.toList.map fun (i, x) => (i, s (ρ x)))).map (·, .nop)
  | .load t a => match ρ a with
    | .ref l => (cut P t l 0).map (·, .nop)
    | .ptr id off => match H id with
      | some (.box l) => (cut P t l off).map (·, .nop)
      | _ => none
    | _ => none
  | .store t a x => match ρ a with
    | .ptr id off => match (s (ρ x)).cells? with
      | some l => match H id with
        | some (.box c) => if l.length = P.cellsOf t ∧ (P.info? t).isSome = true ∧ off + l.length ≤ c.length then some (.undef, .put id off l) else none
        | _ => none
      | none => none
    | _ => none
  | .nilCheck x => match ρ x with
    | .ptr id off => some (.ptr id off, .nop)
    | .ref l => some (.ref l, .nop)
    | .fn (.func f) a b => some (.fn (.func f) a b, .nop)
    | _ => none
  | .binOp op t x y _ => (evBin P op t (ρ x) (ρ y)).map (·, .nop)
  | .unOp op _ x => match op with
    | .not => match ρ x with
      | .bool b => some (.bool (!b), .nop)
      | _ => none
    | .neg => match ρ x with
      | .int k n => some (.int k (k.wrap (0 - n)), .nop)
      | _ => none
    | .xor => match ρ x with
      | .int k n => (eInt .xor k (if k.signed then -1 else k.max) n).map (·, .nop)
      | _ => none
    | _ => none
  | .convert src dst x => match P.underlying src with
    | some _ => match P.underlying dst with
      | some (.int k) => match ρ x with
        | .int _ n => some (.int k (k.wrap n), .nop)
        | _ => none
      | _ => none
    | none => none
  | .makeInterface t x => match P.underlying t with
    | some (.interface _) => none
    | some _ => some (.ifc t (s (ρ x)), .nop)
    | none => none
  | .makeFunc fn first cap => some (.fn fn (first.toList.map fun x => s (ρ x)) (cap.toList.map fun x => s (ρ x)), .nop)
  | .makeSlice t x y => (evMake P t (ρ x) (ρ y)).map (·, .nop)
  | .slice t x lo hi none => (evSlice P t (s (ρ x)) (lo.map ρ) (hi.map ρ)).map (·, .nop)
  | .fieldAddr t x f => match fieldOf P t f with
    | some (_, o) => match ρ x with
      | .ptr id off => some (.ptr id (off + o), .nop)
      | .ref l => some (.ref (l.drop o), .nop)
      | _ => none
    | none => none
  | .field t x f => match fieldOf P t f with
    | some (ft, o) => match ρ x with
      | .agg l => (cut P ft l o).map (·, .nop)
      | _ => none
    | none => none
  | .indexAddr t x i => (evIndexAddr P t (s (ρ x)) (ρ i)).map (·, .nop)
  | .index t x i => (evIndex P t (ρ x) (ρ i)).map (·, .nop)
  | .extract x i => match ρ x with
    | .tup l => (l[i]?).map (·, .nop)
    | _ => none
  | .typeAssert x _ t true => match ρ x with
    | .ifc t' p => if ifcT P t = some false ∧ t' = t then some (.tup [p, .bool true], .nop) else none
    | _ => none
  | .call c => match c.callee with
    | .builtin .len => match c.args[0]?, c.argTypes[0]? with
      | some x, some t => if c.args.size = 1 then (evLen P t (s (ρ x))).map (·, .nop) else none
      | _, _ => none
    | .builtin .append => match c.args.toList, c.argTypes.toList with
      | [x, y], [t, t'] => evAppend P (ρ x) (s (ρ y)) H m t t'
      | _, _ => none
    | _ => none
  | _ => none
/-- The same, where what is made is to be written to. -/
def evBs (ρ : Operand → PV) (s : PV → PV) (H : Heap) (m : Nat) (op : Op) : Option (PV × Eff) :=
  match op with
  | .makeSlice t x y => match P.underlying t with
    | some (.slice e) => match evMake P t (ρ x) (ρ y) with
      | some (.sl els) => some (.bs m els.length e (P.cellsOf e), .new els.flatten)
      | _ => none
    | _ => none
  | .buildSlice t n parts => match evBuildSlice P t n (parts.toList.map fun (i, x) => (i, s (ρ x))) with
    | some (.sl els) => match P.underlying t with
      | some (.slice e) => some (.bs m els.length e (P.cellsOf e), .new els.flatten)
      | _ => none
    | _ => none
  | .call c => match c.callee with
    | .builtin .append => match c.args.toList, c.argTypes.toList with
      | [x, y], [t, t'] => match ρ x with
        | .nilsl => match evAppend P .nilsl (s (ρ y)) H m t t' with
          | some (.gr _ n, .born e sz ys) => some (.bs m n e sz, .new ys.flatten)
          | _ => none
        | _ => none
      | _, _ => none
    | .builtin .copy => match c.args.toList, c.argTypes.toList with
      | [x, y], [t, _] => match ρ x with
        | .bs id n _ _ => match P.underlying t with
          | some (.slice e) => match s (ρ y) with
            | .sl ys => match H id with
              | some (.box c) => if ys.all (fun r => r.length == P.cellsOf e) = true ∧ (P.info? e).isSome = true ∧ n * P.cellsOf e ≤ c.length then some (.int .i64 (min ys.length n : Nat), .put id 0 (ys.take (min ys.length n)).flatten) else none
              | _ => none
            | _ => none
          | _ => none
        | _ => none
      | _, _ => none
    | _ => none
  | _ => none
end
end Go.Proofs.Yteibeoipnjhicaa
