/- The engine, bundle 1: values as trees, abstract code, and that what abstract code says the machine does. Conditions: none. -/
import Derived.BigFrame
import Derived.Deep.AppendSrc
import Derived.Deep.Upon
import Derived.Laws.BytesString
import Derived.Laws.Cover3
import Derived.Laws.IdiomRangeMap
import Derived.Laws.StructEq
import Derived.Laws.Tables
import Derived.OwnWalk
import Derived.Tactics
import GoSem.Claims
/- The engine, part A: values as trees, the state of one activation, and what each abstract operation does to it. No machine in sight. Conditions: none. -/
namespace Go.Proofs.Ytnodepfoahmcmaa.E

/-- A value as a tree. 'sl': a slice whose cells are never written again (own: behind its end it may be appended to); 'hs', 'hm', 'ptr': handles of blocks of the state; 'raw': a variable of so many cells that was just laid, with the right to fill it. -/
inductive V where
  | junk
  | bool (b : Bool)
  | int (k : IntKind) (n : Int)
  | str (s : List UInt8)
  | nilp
  | ptr (b sz i off : Nat)
  | raw (n : Nat)
  | fptr (cs : List V) (off : Nat)
  | sl (own : Bool) (sz : Nat) (l : List V)
  | hs (b sz off len : Nat)
  | nilm
  | hm (b : Nat)
  | fn (f : FuncId) (cap : List V)
  | nilf
  | agg (cs : List V)
  | tup (vs : List V)
  | iface (t : TypeId) (x : V)
  | nili

instance : Inhabited V := ⟨.junk⟩

/-- The cells of a value. -/
def V.cells : V → List V
  | .agg cs => cs
  | x => [x]
/-- A cell without the right to append. -/
def clr1 : V → V
  | .sl _ sz l => .sl false sz l
  | .raw _ => .junk
  | x => x
def clr2 : V → V
  | .agg cs => .agg (cs.map clr1)
  | x => clr1 x
def clr : V → V
  | .tup vs => .tup (vs.map clr2)
  | x => clr2 x
/-- No handle in a cell. -/
def noH1 : V → Bool
  | .ptr .. | .raw _ | .hs .. | .hm _ => false
  | .fn _ cap => cap.isEmpty
  | .agg _ | .tup _ | .junk => false
  | .iface _ x => (match x with | .bool _ | .int _ _ | .str _ => true | _ => false)
  | _ => true
def noH2 : V → Bool
  | .agg cs => cs.all noH1
  | x => noH1 x
def noH : V → Bool
  | .tup vs => vs.all noH2
  | x => noH2 x

/-! ### Sorted rows of keys -/
def get {α : Type} : List (Nat × α) → Nat → Option α
  | [], _ => none
  | (a, x) :: r, k => if k = a then some x else get r k
def set {α : Type} : List (Nat × α) → Nat → α → List (Nat × α)
  | [], k, v => [(k, v)]
  | (a, x) :: r, k, v => if k < a then (k, v) :: (a, x) :: r else if k = a then (k, v) :: r else (a, x) :: set r k v
def del {α : Type} : List (Nat × α) → Nat → List (Nat × α)
  | [], _ => []
  | (a, x) :: r, k => if k = a then r else (a, x) :: del r k
def keep {α : Type} (ks : List Nat) (l : List (Nat × α)) : List (Nat × α) := l.filter fun p => ks.contains p.1

/-- A block that may be written; 'bld': a strings.Builder of type T over bytes of type e. -/
inductive Blk where
  | rows (sz : Nat) (l : List V)
  | map (es : List (V × V))
  | bld (T e : Nat) (s : List UInt8)
instance : Inhabited Blk := ⟨.rows 0 []⟩

abbrev Heap := List (Nat × Blk)
structure St where
  env : List (Nat × V)
  loc : List (Nat × (Nat × List V))
  heap : Heap
  ctr : Nat

inductive Opd where
  | t (n : Nat)
  | m (n : Nat)
  | c (x : V)

def St.ev (st : St) : Opd → V
  | .t n => clr ((get st.env n).getD .junk)
  | .m n => (get st.env n).getD .junk
  | .c x => x
/-- The slot that is moved out of keeps the value without its rights. -/
def St.moved (st : St) : Opd → St
  | .m n => match get st.env n with | some x => { st with env := set st.env n (clr x) } | none => st
  | _ => st
def St.put (st : St) (d : Option Nat) (x : V) : St := match d with | some d => { st with env := set st.env d x } | none => st

/-! ### What operations compute -/
def InR (n : Int) : Prop := -9223372036854775808 ≤ n ∧ n ≤ 9223372036854775807
instance (n : Int) : Decidable (InR n) := by unfold InR; infer_instance
/-- The greatest length of what is made. -/
def LIM : Nat := 17592186044416

inductive PK where
  | mv | pick | ar (op : BinOp) | arw (op : BinOp) | dv (op : BinOp) | bits (op : BinOp) | sh (op : BinOp) | cmp (op : BinOp) | sadd | scmp (op : BinOp) | eq (neg agg : Bool) (ks : List Nat)
  | not | neg | len (str : Bool) | min | max | conv (k : IntKind) | b2s | same
  | sidx | faddr (off : Nat) | field (off : Nat) (n : Option Nat) | iaddr (sz : Nat) | aaddr (sz n : Nat) | aidx (sz n : Nat) (m : Option Nat) | loadF (n : Option Nat) | nilck | isnil (neg : Bool) | isnili (neg : Bool)
  | ssub (lo hi : Bool) | sub (sz : Nat) (lo hi mx : Bool) | build (zero : List V) (parts : List (Nat × Nat)) | buildM (zero : List V) (parts : List (Nat × Nat)) | mkfn (f : FuncId) | mkif (t : TypeId)

def bytesLt : List UInt8 → List UInt8 → Bool
  | _, [] => false
  | [], _ :: _ => true
  | a :: x, b :: y => a < b || (a == b && bytesLt x y)

def arF (op : BinOp) (a b : Int) : Option Int := match op with | .add => some (a + b) | .sub => some (a - b) | .mul => some (a * b) | _ => none
def cmpF (op : BinOp) (a b : Int) : Option Bool := match op with
  | .eql => some (decide (a = b)) | .neq => some (decide (a ≠ b)) | .lss => some (decide (a < b)) | .leq => some (decide (a ≤ b)) | .gtr => some (decide (a > b)) | .geq => some (decide (a ≥ b)) | _ => none
def scmpF (op : BinOp) (a b : List UInt8) : Option Bool := match op with
  | .eql => some (decide (a = b)) | .neq => some (decide (a ≠ b)) | .lss => some (bytesLt a b) | .leq => some (bytesLt a b || decide (a = b)) | .gtr => some (!(bytesLt a b || decide (a = b))) | .geq => some (!bytesLt a b) | _ => none
def bitsF (op : BinOp) (k : IntKind) (x y : Int) : Option Int :=
  let a := BitVec.ofInt k.bits x
  let b := BitVec.ofInt k.bits y
  match op with
  | .and => some (k.wrap (a &&& b).toNat) | .or => some (k.wrap (a ||| b).toNat) | .xor => some (k.wrap (a ^^^ b).toNat) | .andNot => some (k.wrap (a &&& ~~~b).toNat) | _ => none
def shF (op : BinOp) (k : IntKind) (x y : Int) : Option Int := match op with
  | .shl => some (k.wrap (x * 2 ^ (min y.toNat k.bits))) | .shr => some (x.fdiv (2 ^ (min y.toNat k.bits))) | _ => none

/-- Equality of two cells, of kind 0 (bool), 1 (a whole number), 2 (a string). -/
def eq1 : Nat → V → V → Option Bool
  | 0, .bool a, .bool b => some (decide (a = b))
  | 1, .int k a, .int k' b => if k = k' then some (decide (a = b)) else none
  | 2, .str a, .str b => some (decide (a = b))
  | _, _, _ => none
def eqL : List Nat → List V → List V → Option Bool
  | [], [], [] => some true
  | k :: ks, a :: x, b :: y => (eq1 k a b).bind fun r => (eqL ks x y).map fun q => r && q
  | _, _, _ => none
def eqV : Bool → List Nat → V → V → Option Bool
  | true, ks, .agg x, .agg y => eqL ks x y
  | false, [k], x, y => eq1 k x y
  | _, _, _, _ => none
/-- A value whose cells are as the machine's. -/
def solid : V → Bool
  | .junk | .tup _ => false
  | _ => true

/-- A cell, or so many cells as one value. -/
def part (cs : List V) (off : Nat) : Option Nat → Option V
  | none => cs[off]?
  | some n => if off + n ≤ cs.length then some (.agg ((cs.drop off).take n)) else none

def optI : Bool → List V → Int → Option (Int × List V)
  | false, xs, d => some (d, xs)
  | true, .int _ i :: xs, _ => some (i, xs)
  | true, _, _ => none

def fillP (cs : List V) : List (Nat × Nat) → List V → Option (List V)
  | [], [] => some cs
  | (off, sz) :: ps, x :: xs => if x.cells.length = sz ∧ off + sz ≤ cs.length ∧ solid x = true then fillP (cs.take off ++ x.cells.map clr1 ++ cs.drop (off + sz)) ps xs else none
  | _, _ => none

/-- The same; what is filled in keeps its rights. -/
def fillPM (cs : List V) : List (Nat × Nat) → List V → Option (List V)
  | [], [] => some cs
  | (off, sz) :: ps, x :: xs => if x.cells.length = sz ∧ off + sz ≤ cs.length ∧ solid x = true then fillPM (cs.take off ++ x.cells ++ cs.drop (off + sz)) ps xs else none
  | _, _ => none

def bytesOf : List V → Option (List UInt8)
  | [] => some []
  | .int .u8 n :: r => (bytesOf r).map (UInt8.ofNat n.toNat :: ·)
  | _ => none

def pf : PK → List V → Option V
  | .mv, xs => match xs with | [x] => some x | _ => none
  | .same, xs => match xs with | [.str s] => some (.str s) | _ => none
  | .pick, xs => match xs with | [.bool c, a, b] => some (if c then clr a else clr b) | _ => none
  | .ar op, xs => match xs with | [.int k a, .int k' b] => if k = .i64 ∧ k' = .i64 then (arF op a b).bind fun r => if InR r then some (.int .i64 r) else none else none | _ => none
  | .arw op, xs => match xs with | [.int k a, .int k' b] => if k = k' then (arF op a b).map fun r => .int k (k.wrap r) else none | _ => none
  | .dv op, xs => match xs with | [.int k a, .int k' b] => if k = k' ∧ b ≠ 0 then (match op with | .quo => some (.int k (k.wrap (a.tdiv b))) | .rem => some (.int k (a.tmod b)) | _ => none) else none | _ => none
  | .bits op, xs => match xs with | [.int k a, .int k' b] => if k = k' then (bitsF op k a b).map fun r => .int k r else none | _ => none
  | .sh op, xs => match xs with | [.int k a, .int _ b] => if 0 ≤ b then (shF op k a b).map fun r => .int k r else none | _ => none
  | .cmp op, xs => match xs with | [.int k a, .int k' b] => if k = k' then (cmpF op a b).map .bool else none | _ => none
  | .sadd, xs => match xs with | [.str a, .str b] => if a.length + b.length ≤ LIM then some (.str (a ++ b)) else none | _ => none
  | .scmp op, xs => match xs with | [.str a, .str b] => (scmpF op a b).map .bool | _ => none
  | .eq neg ag ks, xs => match xs with | [a, b] => (eqV ag ks a b).map fun r => .bool (if neg then !r else r) | _ => none
  | .not, xs => match xs with | [.bool b] => some (.bool !b) | _ => none
  | .neg, xs => match xs with | [.int k n] => some (.int k (k.wrap (0 - n))) | _ => none
  | .len true, xs => match xs with | [.str s] => some (.int .i64 s.length) | _ => none
  | .len false, xs => match xs with | [.sl _ _ l] => some (.int .i64 l.length) | [.hs _ _ _ n] => some (.int .i64 n) | _ => none
  | .min, xs => match xs with | [.int k a, .int k' b] => if k = k' then some (.int k (if b < a then b else a)) else none | _ => none
  | .max, xs => match xs with | [.int k a, .int k' b] => if k = k' then some (.int k (if b > a then b else a)) else none | _ => none
  | .conv k, xs => match xs with | [.int _ n] => some (.int k (k.wrap n)) | _ => none
  | .b2s, xs => match xs with | [.sl _ sz l] => if sz = 1 then (bytesOf l).map V.str else none | _ => none
  | .sidx, xs => match xs with | [.str s, .int _ i] => if 0 ≤ i ∧ i < s.length then some (.int .u8 (s.getD i.toNat 0).toNat) else none | _ => none
  | .faddr off, xs => match xs with | [.ptr b sz i o] => some (.ptr b sz i (o + off)) | [.fptr cs o] => some (.fptr cs (o + off)) | _ => none
  | .field off n, xs => match xs with | [.agg cs] => (part cs off n).map clr | _ => none
  | .iaddr sz, xs => match xs with
    | [.sl _ z l, .int _ i] => if z = sz ∧ 0 ≤ i ∧ i < l.length then (l[i.toNat]?).map fun x => .fptr x.cells 0 else none
    | [.hs b z off n, .int _ i] => if z = sz ∧ 0 < z ∧ 0 ≤ i ∧ i < n then some (.ptr b z (off + i.toNat) 0) else none
    | _ => none
  | .aaddr sz n, xs => match xs with
    | [.ptr b z k o, .int _ i] => if 0 ≤ i ∧ i < n then some (.ptr b z k (o + i.toNat * sz)) else none
    | [.fptr cs o, .int _ i] => if 0 ≤ i ∧ i < n then some (.fptr cs (o + i.toNat * sz)) else none
    | _ => none
  | .aidx sz n m, xs => match xs with | [.agg cs, .int _ i] => if 0 ≤ i ∧ i < n then (part cs (i.toNat * sz) m).map clr else none | _ => none
  | .loadF n, xs => match xs with | [.fptr cs o] => (part cs o n).map clr | _ => none
  | .nilck, xs => match xs with | [.ptr b sz i o] => some (.ptr b sz i o) | [.fptr cs o] => some (.fptr cs o) | [.fn f cap] => some (.fn f cap) | _ => none
  | .isnil neg, xs => match xs with
    | [.sl _ _ (_ :: _), .hs 0 0 0 0] => some (.bool neg)
    | [.hs _ z _ _, .hs 0 0 0 0] => some (.bool ((z == 0) != neg))
    | _ => none
  | .isnili neg, xs => match xs with
    | [.iface _ _, .nili] => some (.bool neg)
    | [.nili, .nili] => some (.bool (!neg))
    | _ => none
  | .ssub lo hi, xs => match xs with
    | .str s :: r => (optI lo r 0).bind fun (l, r) => (optI hi r s.length).bind fun (h, r) => match r with | [] => if 0 ≤ l ∧ l ≤ h ∧ h ≤ s.length then some (.str ((s.take h.toNat).drop l.toNat)) else none | _ => none
    | _ => none
  | .sub s lo hi mx, xs => match xs with
    | .sl _ sz q :: r => (optI lo r 0).bind fun (l, r) => (optI hi r q.length).bind fun (h, r) => (optI mx r h).bind fun (m, r) => match r with | [] => if sz = s ∧ 0 ≤ l ∧ l ≤ h ∧ h ≤ q.length ∧ m = h then some (.sl mx sz ((q.take h.toNat).drop l.toNat)) else none | _ => none
    | .hs b sz off n :: r => (optI lo r 0).bind fun (l, r) => (optI hi r n).bind fun (h, r) => match r with | [] => if sz = s ∧ 0 < s ∧ 0 ≤ l ∧ l ≤ h ∧ h ≤ n ∧ mx = false then some (.hs b sz (off + l.toNat) (h.toNat - l.toNat)) else none | _ => none
    | _ => none
  | .build zero parts, xs => (fillP zero parts xs).map .agg
  | .buildM zero parts, xs => (fillPM zero parts xs).map .agg
  | .mkfn f, xs => some (.fn f xs)
  | .mkif t, xs => match xs with | [x] => some (.iface t x) | _ => none

/-- What makes memory that is not written again. -/
inductive AF where
  | bslice (sz len : Nat) (zero : List V) (parts : List Nat)
  | mkslice (sz bytes : Nat) (zero : V)
  | app (sz bytes : Nat)
  | apps
  | s2b
  | raw (n : Nat)

def fillE (l : List V) (sz : Nat) : List Nat → List V → Option (List V)
  | [], [] => some l
  | i :: ps, x :: xs => if x.cells.length = sz ∧ i < l.length ∧ noH2 x = true then fillE (l.set i (clr2 x)) sz ps xs else none
  | _, _ => none
def byteV (b : UInt8) : V := .int .u8 b.toNat
def ofCells (sz : Nat) (cs : List V) : V := if sz = 1 then cs.getD 0 .junk else .agg cs

def af : AF → List V → Option V
  | .bslice sz len zero parts, xs => if len * sz ≤ 16777216 ∧ zero.length = sz ∧ zero.all noH1 = true then (fillE (List.replicate len (ofCells sz zero)) sz parts xs).map (.sl true sz) else none
  | .mkslice sz bytes zero, xs => match xs with | [.int _ n, .int _ c] => if 0 ≤ n ∧ n ≤ c ∧ c.toNat * bytes ≤ LIM ∧ c ≤ LIM ∧ zero.cells.length = sz ∧ noH2 zero = true then some (.sl true sz (List.replicate n.toNat zero)) else none | _ => none
  | .app sz bytes, xs => match xs with
    | [.sl own z l, .sl _ z' l'] => if own = true ∧ z = sz ∧ z' = sz ∧ (l.length + l'.length) * bytes ≤ LIM ∧ l.length + l'.length ≤ LIM then some (.sl true sz (l ++ l')) else none
    | _ => none
  | .apps, xs => match xs with
    | [.sl own z l, .str s] => if own = true ∧ z = 1 ∧ l.length + s.length ≤ LIM then some (.sl true 1 (l ++ s.map byteV)) else none
    | _ => none
  | .raw n, xs => match xs with | [] => some (.raw n) | _ => none
  | .s2b, xs => match xs with | [.str s] => if s.length ≤ LIM then some (.sl true 1 (s.map byteV)) else none | _ => none

end Go.Proofs.Ytnodepfoahmcmaa.E

/- The engine, part B: what a tree says of the machine's value, what stays so while the machine goes on, and the rights to append. Conditions: none. -/
namespace Go.Proofs.Ytnodepfoahmcmaa.E

/-- What a tree says of a value of the machine. G: how many cells of each block are never written again. φ: which block a handle is. -/
inductive R (w : World) (G : Nat → Nat) : (Nat → Option Nat) → V → Value → Prop where
  | junk (φ : Nat → Option Nat) (v : Value) : R w G φ .junk v
  | bool (φ : Nat → Option Nat) (b : Bool) : R w G φ (.bool b) (.bool b)
  | int (φ : Nat → Option Nat) (k : IntKind) (n : Int) : R w G φ (.int k n) (.int k n)
  | str (φ : Nat → Option Nat) (s : ByteArray) : R w G φ (.str s.data.toList) (.string s)
  | nilp (φ : Nat → Option Nat) : R w G φ .nilp (.pointer none)
  | ptr (φ : Nat → Option Nat) (b sz i off m : Nat) (h : φ b = some m) : R w G φ (.ptr b sz i off) (.pointer (some ⟨m, i * sz + off, none⟩))
  | raw (φ : Nat → Option Nat) (n blk : Nat) : R w G φ (.raw n) (.pointer (some ⟨blk, 0, none⟩))
  | fptr (φ : Nat → Option Nat) (cs : List V) (off blk base : Nat) (f : Nat → Value) (hc : ∀ j, j < cs.length → w.cell? ⟨blk, base + j, none⟩ = some (f j)) (h1 : ∀ j, j < cs.length → (f j).oneCell' = true)
      (hr : ∀ j (h : j < cs.length), R w G (fun _ => none) cs[j] (f j)) (hg : base + cs.length ≤ G blk) : R w G φ (.fptr cs off) (.pointer (some ⟨blk, base + off, none⟩))
  | slNil (φ : Nat → Option Nat) (own : Bool) (sz : Nat) (a : Option Addr) (cap : Nat) : R w G φ (.sl own sz []) (.slice a 0 cap)
  | sl (φ : Nat → Option Nat) (own : Bool) (sz : Nat) (l : List V) (blk off cap : Nat) (f : Nat → Nat → Value) (hcap : l.length ≤ cap)
      (hc : ∀ i j, i < l.length → j < sz → w.cell? ⟨blk, off + i * sz + j, none⟩ = some (f i j)) (h1 : ∀ i j, i < l.length → j < sz → (f i j).oneCell' = true) (hz : ∀ i (h : i < l.length), (l[i]).cells.length = sz)
      (hr : ∀ i j (h : i < l.length) (hj : j < (l[i]).cells.length), R w G (fun _ => none) ((l[i]).cells[j]) (f i j)) (hg : off + l.length * sz ≤ G blk) : R w G φ (.sl own sz l) (.slice (some ⟨blk, off, none⟩) l.length cap)
  | hs (φ : Nat → Option Nat) (b sz off len cap m o : Nat) (cs : Array Value) (el : TypeId) (fr : Nat × Nat) (h : φ b = some m) (hl : len ≤ cap) (ho : cap ≠ 0 → o = off * sz) (hb : w.heap[m]? = some (.cells cs el fr)) (hs : off * sz + cap * sz ≤ cs.size) (hz : 0 < sz) :
      R w G φ (.hs b sz off len) (.slice (some ⟨m, o, none⟩) len cap)
  | hsNil (φ : Nat → Option Nat) : R w G φ (.hs 0 0 0 0) (.slice none 0 0)
  | nilm (φ : Nat → Option Nat) : R w G φ .nilm (.map none)
  | hm (φ : Nat → Option Nat) (b m : Nat) (h : φ b = some m) : R w G φ (.hm b) (.map (some m))
  | fn (φ : Nat → Option Nat) (f : FuncId) (cap : List V) (vs : Array Value) (hl : vs.size = cap.length) (hr : ∀ i (h : i < cap.length), R w G φ cap[i] (vs.getD i undef)) : R w G φ (.fn f cap) (.func (.func f) #[] vs)
  | nilf (φ : Nat → Option Nat) : R w G φ .nilf .nilFunc
  | agg (φ : Nat → Option Nat) (cs : List V) (vs : Array Value) (hl : vs.size = cs.length) (hr : ∀ i (h : i < cs.length), R w G φ cs[i] (vs.getD i undef)) : R w G φ (.agg cs) (.agg vs)
  | tup (φ : Nat → Option Nat) (cs : List V) (vs : Array Value) (hl : vs.size = cs.length) (hr : ∀ i (h : i < cs.length), R w G φ cs[i] (vs.getD i undef)) : R w G φ (.tup cs) (.tuple vs)
  | iface (φ : Nat → Option Nat) (t : TypeId) (x : V) (v : Value) (h : R w G φ x v) : R w G φ (.iface t x) (.iface t v)
  | nili (φ : Nat → Option Nat) : R w G φ .nili .nilIface

/-- How the machine's memory may go on. -/
structure Ext (w : World) (G : Nat → Nat) (w' : World) (G' : Nat → Nat) : Prop where
  le : ∀ b, G b ≤ G' b
  cell : ∀ b o, o < G b → w'.cell? ⟨b, o, none⟩ = w.cell? ⟨b, o, none⟩
  keep : ∀ (b : Nat) (cs : Array Value) (el : TypeId) (fr : Nat × Nat), w.heap[b]? = some (.cells cs el fr) → ∃ (cs' : Array Value) (fr' : Nat × Nat), w'.heap[b]? = some (.cells cs' el fr') ∧ cs'.size = cs.size ∧ (fr' = fr ∨ cs.size < G' b)
  size : w.heap.size ≤ w'.heap.size
  os : w'.os = w.os
  tape : w'.tape = w.tape
  output : w'.output = w.output

theorem Ext.refl (w : World) (G : Nat → Nat) : Ext w G w G := ⟨fun _ => Nat.le_refl _, fun _ _ _ => rfl, fun _ cs _ fr h => ⟨cs, fr, h, rfl, .inl rfl⟩, Nat.le_refl _, rfl, rfl, rfl⟩
theorem Ext.trans {w w1 w2 : World} {G G1 G2 : Nat → Nat} (h : Ext w G w1 G1) (k : Ext w1 G1 w2 G2) : Ext w G w2 G2 :=
  ⟨fun b => Nat.le_trans (h.le b) (k.le b), fun b o ho => (k.cell b o (Nat.lt_of_lt_of_le ho (h.le b))).trans (h.cell b o ho),
    fun b cs el fr hb => by
      obtain ⟨c1, f1, h1, s1, t1⟩ := h.keep b cs el fr hb
      obtain ⟨c2, f2, h2, s2, t2⟩ := k.keep b c1 el f1 h1
      refine ⟨c2, f2, h2, s2.trans s1, ?_⟩
      have hle := k.le b
      rcases t2 with t2 | t2
      · rcases t1 with t1 | t1
        · exact .inl (t2.trans t1)
        · exact .inr (by omega)
      · exact .inr (by omega),
    Nat.le_trans h.size k.size, k.os.trans h.os, k.tape.trans h.tape, k.output.trans h.output⟩

theorem R.mono {w w' : World} {G G' : Nat → Nat} (e : Ext w G w' G') {φ : Nat → Option Nat} {x : V} {v : Value} (h : R w G φ x v) : ∀ {φ' : Nat → Option Nat}, (∀ b m, φ b = some m → φ' b = some m) → R w' G' φ' x v := by
  induction h with
  | junk φ v => intro φ' _; exact .junk _ _
  | bool φ b => intro φ' _; exact .bool _ _
  | int φ k n => intro φ' _; exact .int _ _ _
  | str φ s => intro φ' _; exact .str _ _
  | nilp φ => intro φ' _; exact .nilp _
  | ptr φ b sz i off m h => intro φ' hφ; exact .ptr _ _ _ _ _ _ (hφ _ _ h)
  | raw φ n blk => intro φ' _; exact .raw _ _ _
  | fptr φ cs off blk base f hc h1 hr hg ih =>
    intro φ' _
    exact .fptr _ cs off blk base f (fun j hj => (e.cell _ _ (by omega)).trans (hc j hj)) h1 (fun j hj => ih j hj fun _ _ h => h) (Nat.le_trans hg (e.le _))
  | slNil φ own sz a cap => intro φ' _; exact .slNil _ _ _ _ _
  | sl φ own sz l blk off cap f hcap hc h1 hz hr hg ih =>
    intro φ' _
    refine .sl _ own sz l blk off cap f hcap (fun i j hi hj => (e.cell _ _ ?_).trans (hc i j hi hj)) h1 hz (fun i j hi hj => ih i j hi hj fun _ _ h => h) (Nat.le_trans hg (e.le _))
    have : (i + 1) * sz ≤ l.length * sz := Nat.mul_le_mul_right _ hi
    rw [Nat.succ_mul] at this
    omega
  | hsNil φ => intro φ' _; exact .hsNil _
  | hs φ b sz off len cap m o cs el fr h hl ho hb hs hz =>
    intro φ' hφ
    obtain ⟨cs', f', h1, h2, _⟩ := e.keep _ _ _ _ hb
    exact .hs _ b sz off len cap m o cs' el f' (hφ _ _ h) hl ho h1 (by rw [h2]; exact hs) hz
  | nilm φ => intro φ' _; exact .nilm _
  | hm φ b m h => intro φ' hφ; exact .hm _ _ _ (hφ _ _ h)
  | fn φ f cap vs hl hr ih => intro φ' hφ; exact .fn _ f cap vs hl fun i hi => ih i hi hφ
  | nilf φ => intro φ' _; exact .nilf _
  | agg φ cs vs hl hr ih => intro φ' hφ; exact .agg _ cs vs hl fun i hi => ih i hi hφ
  | tup φ cs vs hl hr ih => intro φ' hφ; exact .tup _ cs vs hl fun i hi => ih i hi hφ
  | iface φ t x v h ih => intro φ' hφ; exact .iface _ t x v (ih hφ)
  | nili φ => intro φ' _; exact .nili _

theorem R.noH1 {w : World} {G : Nat → Nat} {φ φ' : Nat → Option Nat} {x : V} {v : Value} (h : R w G φ x v) (hn : noH1 x = true) : R w G φ' x v := by
  cases h with
  | junk | ptr | raw | hs | hsNil | hm | agg | tup => exact absurd hn (by simp [E.noH1])
  | bool _ b => exact .bool _ _
  | int _ k n => exact .int _ _ _
  | str _ s => exact .str _ _
  | nilp => exact .nilp _
  | fptr _ cs off blk base f hc h1 hr hg => exact .fptr _ cs off blk base f hc h1 hr hg
  | slNil _ own sz a cap => exact .slNil _ _ _ _ _
  | sl _ own sz l blk off cap f hcap hc h1 hz hr hg => exact .sl _ own sz l blk off cap f hcap hc h1 hz hr hg
  | nilm => exact .nilm _
  | fn _ f cap vs hl hr =>
    have : cap = [] := by simpa [E.noH1] using hn
    subst this
    exact .fn _ f [] vs hl fun i hi => absurd hi (by simp)
  | nilf => exact .nilf _
  | iface _ t x v h =>
    cases h with
    | bool _ b => exact .iface _ t _ _ (.bool _ _)
    | int _ k n => exact .iface _ t _ _ (.int _ _ _)
    | str _ s => exact .iface _ t _ _ (.str _ _)
    | _ => exact absurd hn (by simp [E.noH1])
  | nili => exact .nili _
theorem R.noH2 {w : World} {G : Nat → Nat} {φ φ' : Nat → Option Nat} {x : V} {v : Value} (h : R w G φ x v) (hn : noH2 x = true) : R w G φ' x v := by
  cases x with
  | agg cs =>
    cases h with
    | agg _ cs vs hl hr =>
      refine .agg _ cs vs hl fun i hi => (hr i hi).noH1 ?_
      simp only [E.noH2, List.all_eq_true] at hn
      exact hn _ (List.getElem_mem hi)
  | _ => exact h.noH1 (by simpa [E.noH2] using hn)
theorem R.noH {w : World} {G : Nat → Nat} {φ φ' : Nat → Option Nat} {x : V} {v : Value} (h : R w G φ x v) (hn : noH x = true) : R w G φ' x v := by
  cases x with
  | tup cs =>
    cases h with
    | tup _ cs vs hl hr =>
      refine .tup _ cs vs hl fun i hi => (hr i hi).noH2 ?_
      simp only [E.noH, List.all_eq_true] at hn
      exact hn _ (List.getElem_mem hi)
  | _ => exact h.noH2 (by simpa [E.noH] using hn)

theorem R.clr1 {w : World} {G : Nat → Nat} {φ : Nat → Option Nat} {x : V} {v : Value} (h : R w G φ x v) : R w G φ (clr1 x) v := by
  cases h with
  | slNil _ own sz a cap => exact .slNil _ _ _ _ _
  | sl _ own sz l blk off cap f hcap hc h1 hz hr hg => exact .sl _ _ sz l blk off cap f hcap hc h1 hz hr hg
  | junk => exact .junk _ _
  | bool _ b => exact .bool _ _
  | int _ k n => exact .int _ _ _
  | str _ s => exact .str _ _
  | nilp => exact .nilp _
  | ptr _ b sz i off m h => exact .ptr _ _ _ _ _ _ h
  | raw _ n blk => exact .junk _ _
  | fptr _ cs off blk base f hc h1 hr hg => exact .fptr _ cs off blk base f hc h1 hr hg
  | hs _ b sz off len cap m o cs el fr h hl ho hb hs hz => exact .hs _ b sz off len cap m o cs el fr h hl ho hb hs hz
  | hsNil => exact .hsNil _
  | nilm => exact .nilm _
  | hm _ b m h => exact .hm _ _ _ h
  | fn _ f cap vs hl hr => exact .fn _ f cap vs hl hr
  | nilf => exact .nilf _
  | agg _ cs vs hl hr => exact .agg _ cs vs hl hr
  | tup _ cs vs hl hr => exact .tup _ cs vs hl hr
  | iface _ t x v h => exact .iface _ t x v h
  | nili => exact .nili _
theorem R.clr2 {w : World} {G : Nat → Nat} {φ : Nat → Option Nat} {x : V} {v : Value} (h : R w G φ x v) : R w G φ (clr2 x) v := by
  cases x with
  | agg cs =>
    cases h with
    | agg _ cs vs hl hr => exact .agg _ _ vs (by simpa using hl) fun i hi => by rw [List.getElem_map]; exact (hr i (by simpa using hi)).clr1
  | _ => exact h.clr1
theorem R.clr {w : World} {G : Nat → Nat} {φ : Nat → Option Nat} {x : V} {v : Value} (h : R w G φ x v) : R w G φ (clr x) v := by
  cases x with
  | tup cs =>
    cases h with
    | tup _ cs vs hl hr => exact .tup _ _ vs (by simpa using hl) fun i hi => by rw [List.getElem_map]; exact (hr i (by simpa using hi)).clr2
  | _ => exact h.clr2

/-! ### The right to append -/
/-- The row's own end lies where nothing is frozen any more. -/
def Tail1 (w : World) (G : Nat → Nat) : V → Value → Prop
  | .sl true sz l, .slice (some ad) _ cap => l.length < cap → ad.spot = none ∧ (∃ cs el fr, w.heap[ad.block]? = some (.cells cs el fr) ∧ ad.off + cap * sz ≤ cs.size ∧ (∀ o, o < cs.size → ¬ (fr.1 ≤ o ∧ o < fr.2))) ∧ G ad.block = ad.off + l.length * sz
  | .sl true _ _, .slice none _ cap => cap = 0
  | .raw n, .pointer (some ad) => (∃ cs el fr, w.heap[ad.block]? = some (.cells cs el fr) ∧ cs.size = n ∧ ∀ o, o < cs.size → ¬ (fr.1 ≤ o ∧ o < fr.2)) ∧ G ad.block = 0
  | _, _ => True
def tk1 : V → Value → Nat → Nat
  | .sl true _ l, .slice (some ad) _ cap, b => if l.length < cap ∧ ad.block = b then 1 else 0
  | .raw _, .pointer (some ad), b => if ad.block = b then 1 else 0
  | _, _, _ => 0
/-- The cells of a value, each with what the machine has there. -/
def leaves : V → Value → List (V × Value)
  | .tup xs, .tuple vs => (xs.zip vs.toList).flatMap fun p => p.1.cells.zip p.2.cells.toList
  | x, v => x.cells.zip v.cells.toList
def sumTk (l : List (V × Value)) (b : Nat) : Nat := (l.map fun p => tk1 p.1 p.2 b).sum
def tk (x : V) (v : Value) (b : Nat) : Nat := sumTk (leaves x v) b
def Tail (w : World) (G : Nat → Nat) (x : V) (v : Value) : Prop := ∀ p ∈ leaves x v, Tail1 w G p.1 p.2

theorem sumTk_append (x y : List (V × Value)) (b : Nat) : sumTk (x ++ y) b = sumTk x b + sumTk y b := by simp [sumTk]
theorem sumTk_cons (p : V × Value) (y : List (V × Value)) (b : Nat) : sumTk (p :: y) b = tk1 p.1 p.2 b + sumTk y b := by simp [sumTk]
theorem sumTk_nil (b : Nat) : sumTk [] b = 0 := rfl

theorem tk1_clr1 (x : V) (v : Value) (b : Nat) : tk1 (clr1 x) v b = 0 := by
  cases x <;> simp [clr1, tk1]
theorem Tail1_clr1 (w : World) (G : Nat → Nat) (x : V) (v : Value) : Tail1 w G (clr1 x) v := by
  cases x <;> simp [clr1, Tail1]
theorem cells_clr2 (x : V) : (clr2 x).cells = x.cells.map clr1 := by
  cases x <;> simp [clr2, V.cells, clr1]
theorem clr2_not_tup {x : V} (h : ∀ vs, x ≠ .tup vs) : ∀ vs, clr2 x ≠ .tup vs := by
  intro vs; cases x <;> simp [clr2, clr1] at h ⊢
theorem leaves_of_not_tup {x : V} {v : Value} (h : ∀ vs, x ≠ .tup vs) : leaves x v = x.cells.zip v.cells.toList := by
  cases x <;> first | rfl | exact absurd rfl (h _)
theorem mem_zip_map {x : List V} {v : List Value} {p : V × Value} (h : p ∈ (x.map clr1).zip v) : ∃ q, p.1 = clr1 q := by
  obtain ⟨a, b⟩ := p
  have := (List.of_mem_zip h).1
  obtain ⟨q, _, hq⟩ := List.mem_map.1 this
  exact ⟨q, hq.symm⟩
theorem leaves_clr {x : V} {v : Value} {p : V × Value} (h : p ∈ leaves (clr x) v) : ∃ q, p.1 = clr1 q := by
  by_cases ht : ∃ vs, x = .tup vs
  · obtain ⟨vs, rfl⟩ := ht
    cases v with
    | tuple us =>
      simp only [clr, leaves, List.mem_flatMap] at h
      obtain ⟨⟨c, d⟩, hm, hp⟩ := h
      have := (List.of_mem_zip hm).1
      obtain ⟨q, _, rfl⟩ := List.mem_map.1 this
      simp only [cells_clr2] at hp
      exact mem_zip_map hp
    | _ =>
      simp only [clr, leaves, V.cells, Value.cells] at h
      obtain ⟨a, b⟩ := p
      have := (List.of_mem_zip h).1
      simp at this
      exact ⟨.tup (vs.map clr2), by simp [this, clr1]⟩
  · have h1 : ∀ vs, x ≠ .tup vs := fun vs e => ht ⟨vs, e⟩
    have e : clr x = clr2 x := by cases x <;> first | rfl | exact absurd rfl (h1 _)
    rw [e, leaves_of_not_tup (clr2_not_tup h1), cells_clr2] at h
    exact mem_zip_map h
theorem sumTk_zero {l : List (V × Value)} {b : Nat} (h : ∀ p ∈ l, tk1 p.1 p.2 b = 0) : sumTk l b = 0 := by
  induction l with
  | nil => rfl
  | cons p l ih => rw [sumTk_cons, h p (by simp), ih fun q hq => h q (by simp [hq])]
theorem tk_clr (x : V) (v : Value) (b : Nat) : tk (clr x) v b = 0 :=
  sumTk_zero fun p hp => by obtain ⟨q, hq⟩ := leaves_clr hp; rw [hq, tk1_clr1]
theorem Tail_clr (w : World) (G : Nat → Nat) (x : V) (v : Value) : Tail w G (clr x) v :=
  fun p hp => by obtain ⟨q, hq⟩ := leaves_clr hp; rw [hq]; exact Tail1_clr1 _ _ _ _
theorem le_sumTk {l : List (V × Value)} {p : V × Value} {b : Nat} (h : p ∈ l) : tk1 p.1 p.2 b ≤ sumTk l b := by
  induction l with
  | nil => cases h
  | cons q l ih =>
    rw [sumTk_cons]
    rcases List.mem_cons.1 h with rfl | h
    · omega
    · have := ih h; omega

/-- A token's block is there. -/
theorem tk1_lt {w : World} {G : Nat → Nat} {x : V} {v : Value} {b : Nat} (h : Tail1 w G x v) (ht : tk1 x v b ≠ 0) : b < w.heap.size := by
  unfold tk1 at ht
  split at ht
  · rename_i sz l ad len cap
    split at ht
    · rename_i hc
      obtain ⟨_, ⟨cs, el, fr, hb, _⟩, _⟩ := h hc.1
      rw [← hc.2]
      rcases Nat.lt_or_ge ad.block w.heap.size with h2 | h2
      · exact h2
      · rw [Array.getElem?_eq_none h2] at hb; cases hb
    · exact absurd rfl ht
  · rename_i ad
    split at ht
    · rename_i hc
      obtain ⟨⟨cs, el, fr, hb, _⟩, _⟩ := h
      rw [← hc]
      rcases Nat.lt_or_ge ad.block w.heap.size with h2 | h2
      · exact h2
      · rw [Array.getElem?_eq_none h2] at hb; cases hb
    · exact absurd rfl ht
  · exact absurd rfl ht
theorem sumTk_lt {w : World} {G : Nat → Nat} {l : List (V × Value)} {b : Nat} (h : ∀ p ∈ l, Tail1 w G p.1 p.2) (ht : sumTk l b ≠ 0) : b < w.heap.size := by
  induction l with
  | nil => exact absurd rfl ht
  | cons p l ih =>
    rw [sumTk_cons] at ht
    by_cases e : tk1 p.1 p.2 b = 0
    · exact ih (fun q hq => h q (by simp [hq])) (by omega)
    · exact tk1_lt (h p (by simp)) e
/-- Rights stay while nobody else touches the block. -/
theorem Tail1.mono {w w' : World} {G G' : Nat → Nat} (e : Ext w G w' G') {x : V} {v : Value} (h : Tail1 w G x v) (hg : ∀ b, tk1 x v b ≠ 0 → G' b = G b) : Tail1 w' G' x v := by
  unfold Tail1 at h ⊢
  split
  · rename_i sz l ad len cap
    intro hc
    obtain ⟨h1, ⟨cs, el, fr, hb, h2, h3⟩, h4⟩ := h hc
    obtain ⟨cs', f', hb', hs, ht⟩ := e.keep _ _ _ _ hb
    have hgg := hg ad.block (by simp [tk1, hc])
    have hm : l.length * sz ≤ cap * sz := Nat.mul_le_mul_right _ (Nat.le_of_lt hc)
    rcases ht with rfl | ht
    · refine ⟨h1, ⟨cs', el, f', hb', by omega, fun o ho => h3 o (by omega)⟩, ?_⟩
      rw [hgg, h4]
    · omega
  · exact h
  · rename_i n ad
    obtain ⟨⟨cs, el, fr, hb, h2, h3⟩, h4⟩ := h
    obtain ⟨cs', f', hb', hs, ht⟩ := e.keep _ _ _ _ hb
    have hgg := hg ad.block (by simp [tk1])
    rcases ht with rfl | ht
    · exact ⟨⟨cs', el, f', hb', by omega, fun o ho => h3 o (by omega)⟩, by rw [hgg, h4]⟩
    · omega
  · trivial

end Go.Proofs.Ytnodepfoahmcmaa.E

/- The engine, part C: what holds between a state of the engine and the machine, and how it is kept. Conditions: none. -/
namespace Go.Proofs.Ytnodepfoahmcmaa.E

/-! ### Sorted rows -/
abbrev Sorted {α : Type} (l : List (Nat × α)) : Prop := l.Pairwise fun a b => a.1 < b.1
theorem get_mem {α : Type} {l : List (Nat × α)} {k : Nat} {x : α} (h : get l k = some x) : (k, x) ∈ l := by
  induction l with
  | nil => cases h
  | cons p l ih =>
    obtain ⟨a, y⟩ := p
    rw [get] at h
    split at h
    · rename_i e; injection h with h; subst e; subst h; simp
    · exact List.mem_cons_of_mem _ (ih h)
theorem get_of_mem {α : Type} {l : List (Nat × α)} (hs : Sorted l) {k : Nat} {x : α} (h : (k, x) ∈ l) : get l k = some x := by
  induction l with
  | nil => cases h
  | cons p l ih =>
    obtain ⟨a, y⟩ := p
    rw [get]
    have hs' := List.pairwise_cons.1 hs
    rcases List.mem_cons.1 h with e | h
    · injection e with e1 e2; subst e1; subst e2; simp
    · have := hs'.1 _ h
      simp only at this
      rw [if_neg (by omega)]
      exact ih hs'.2 h
theorem mem_set {α : Type} {l : List (Nat × α)} {k : Nat} {x : α} {p : Nat × α} (hs : Sorted l) (h : p ∈ set l k x) : p = (k, x) ∨ (p ∈ l ∧ p.1 ≠ k) := by
  induction l with
  | nil => left; simpa [set] using h
  | cons q l ih =>
    obtain ⟨a, y⟩ := q
    have hs' := List.pairwise_cons.1 hs
    rw [set] at h
    split at h
    · rename_i hk
      rcases List.mem_cons.1 h with e | h
      · exact .inl e
      · refine .inr ⟨h, ?_⟩
        rcases List.mem_cons.1 h with rfl | h
        · simp only; omega
        · have := hs'.1 _ h; simp only at this; omega
    · split at h
      · rename_i hk
        rcases List.mem_cons.1 h with e | h
        · exact .inl e
        · refine .inr ⟨List.mem_cons_of_mem _ h, ?_⟩
          have := hs'.1 _ h; simp only at this; omega
      · rename_i h1 h2
        rcases List.mem_cons.1 h with rfl | h
        · exact .inr ⟨List.mem_cons_self, fun e => h2 e.symm⟩
        · rcases ih hs'.2 h with e | ⟨h3, h4⟩
          · exact .inl e
          · exact .inr ⟨List.mem_cons_of_mem _ h3, h4⟩
theorem set_sorted {α : Type} {l : List (Nat × α)} (hs : Sorted l) (k : Nat) (x : α) : Sorted (set l k x) := by
  induction l with
  | nil => simp [set, Sorted]
  | cons q l ih =>
    obtain ⟨a, y⟩ := q
    have hs' := List.pairwise_cons.1 hs
    rw [set]
    split
    · rename_i hk
      refine List.pairwise_cons.2 ⟨fun p hp => ?_, hs⟩
      rcases List.mem_cons.1 hp with rfl | hp
      · exact hk
      · have := hs'.1 _ hp; simp only at this ⊢; omega
    · split
      · rename_i hk
        exact List.pairwise_cons.2 ⟨fun p hp => by have := hs'.1 _ hp; simp only at this ⊢; omega, hs'.2⟩
      · rename_i h1 h2
        refine List.pairwise_cons.2 ⟨fun p hp => ?_, ih hs'.2⟩
        rcases mem_set hs'.2 hp with rfl | ⟨hp, _⟩
        · simp only; omega
        · exact hs'.1 _ hp
theorem keep_sorted {α : Type} {l : List (Nat × α)} (hs : Sorted l) (ks : List Nat) : Sorted (keep ks l) := List.Pairwise.filter _ hs
theorem del_sublist {α : Type} (l : List (Nat × α)) (k : Nat) : (del l k).Sublist l := by
  induction l with
  | nil => exact List.Sublist.refl _
  | cons q l ih =>
    obtain ⟨a, y⟩ := q
    rw [del]
    split
    · exact List.sublist_cons_self _ _
    · exact ih.cons_cons _

/-- A sum over a row, one entry laid anew. -/
theorem sum_set {α : Type} (f : Nat × α → Nat) {l : List (Nat × α)} (hs : Sorted l) (k : Nat) (x : α) :
    ((set l k x).map f).sum + (match get l k with | some y => f (k, y) | none => 0) = (l.map f).sum + f (k, x) := by
  induction l with
  | nil => simp [set, get]
  | cons q l ih =>
    obtain ⟨a, y⟩ := q
    have hs' := List.pairwise_cons.1 hs
    rw [set, get]
    split
    · rename_i hk
      rw [if_neg (by omega)]
      have : get l k = none := by
        cases h : get l k with
        | none => rfl
        | some z => have := hs'.1 _ (get_mem h); simp only at this; omega
      rw [this]
      simp
      omega
    · split
      · rename_i hk
        subst hk
        simp
        omega
      · rename_i h1 h2
        have := ih hs'.2
        simp only [List.map_cons, List.sum_cons]
        omega
theorem sum_sublist {α : Type} (f : α → Nat) {l l' : List α} (h : l.Sublist l') : (l.map f).sum ≤ (l'.map f).sum := by
  induction h with
  | slnil => simp
  | cons a _ ih => simp; omega
  | cons_cons a _ ih => simp; omega
theorem sum_congr {α : Type} {f g : α → Nat} {l : List α} (h : ∀ x ∈ l, f x = g x) : (l.map f).sum = (l.map g).sum := by
  induction l with
  | nil => rfl
  | cons a l ih => simp [h a (by simp), ih fun x hx => h x (by simp [hx])]
theorem le_sum {α : Type} {f : α → Nat} {l : List α} {x : α} (h : x ∈ l) : f x ≤ (l.map f).sum := by
  induction l with
  | nil => cases h
  | cons a l ih =>
    rw [List.map_cons, List.sum_cons]
    rcases List.mem_cons.1 h with rfl | h
    · omega
    · have := ih h; omega
theorem sum_zero {α : Type} {f : α → Nat} {l : List α} (h : ∀ x ∈ l, f x = 0) : (l.map f).sum = 0 := by
  induction l with
  | nil => rfl
  | cons a l ih => simp [h a (by simp), ih fun x hx => h x (by simp [hx])]

/-! ### The blocks that may be written -/
def bcells : Blk → List V
  | .rows _ l => l.flatMap V.cells
  | .map es => es.flatMap fun e => e.2.cells
  | .bld .. => [.junk, .sl true 1 []]
/-- What the machine has in a block. -/
def mvals (w : World) (m : Nat) : List Value := match w.heap[m]? with
  | some (.cells cs _ _) => cs.toList
  | some (.map es _) => es.toList.flatMap fun e => e.val.cells.toList
  | _ => []
def unfr (cs : Array Value) (fr : Nat × Nat) : Prop := ∀ o, o < cs.size → ¬ (fr.1 ≤ o ∧ o < fr.2)

/-- A builder's buffer. -/
def Buf (w : World) (G : Nat → Nat) (e : TypeId) (s : List UInt8) (m : Nat) (v : Value) : Prop := (v = .slice none 0 0 ∧ s = []) ∨
  ∃ g cap cur, v = .slice (some ⟨g, 0, none⟩) s.length cap ∧ 0 < cap ∧ g ≠ m ∧ G g = 0 ∧ w.heap[g]? = some (.cells cur e (0, 0)) ∧ s.length ≤ cap ∧ cap ≤ maxLen ∧ cur.size = cap ∧ cur.toList.take s.length = s.map fun b => .int .u8 b.toNat
def BlkRep (w : World) (G : Nat → Nat) (φ : Nat → Option Nat) (b : Nat) : Blk → Prop
  | .rows sz l => ∃ m, φ b = some m ∧ G m = 0 ∧ ∃ (cs : Array Value) (el : TypeId) (fr : Nat × Nat), w.heap[m]? = some (.cells cs el fr) ∧ unfr cs fr ∧ (∀ x ∈ l, x.cells.length = sz) ∧ l.length * sz ≤ cs.size ∧ (∀ v ∈ cs, v.oneCell' = true) ∧
      ∀ i (h : i < (l.flatMap V.cells).length), R w G φ (l.flatMap V.cells)[i] (cs.getD i undef) ∧ Tail1 w G (l.flatMap V.cells)[i] (cs.getD i undef)
  | .map es => ∃ m, φ b = some m ∧ G m = 0 ∧ ∃ (ents : Array MapEntry) (clk : Nat), w.heap[m]? = some (.map ents clk) ∧ ents.size = es.length ∧ (∀ e ∈ ents, e.born < clk) ∧
      ∀ i (h : i < es.length) (h' : i < ents.size), R w G (fun _ => none) es[i].1 ents[i].key ∧ R w G φ es[i].2 ents[i].val ∧ (∀ vs, es[i].2 ≠ .tup vs) ∧ es[i].2.cells.length = ents[i].val.cells.size ∧ Tail w G es[i].2 ents[i].val
  | .bld T e s => ∃ m, φ b = some m ∧ G m = 0 ∧ ∃ p v, w.heap[m]? = some (.cells #[p, v] T (0, 0)) ∧ (p = .pointer none ∨ p = .pointer (some ⟨m, 0, none⟩)) ∧ Buf w G e s m v

def live (st : St) : List (Nat × Blk) := st.loc.map (fun p => (p.2.1, Blk.rows p.2.2.length [.agg p.2.2])) ++ st.heap
def lv (w : World) (φ : Nat → Option Nat) (b : Nat) (p : Nat × Blk) : Nat := match φ p.1 with
  | none => 0
  | some m => (if m = b then 1 else 0) + sumTk ((bcells p.2).zip (mvals w m)) b
def envTk (env : List (Nat × V)) (ts : Array Value) (b : Nat) : Nat := (env.map fun p => tk p.2 (ts.getD p.1 undef) b).sum
def cntH (w : World) (φ : Nat → Option Nat) (l : List (Nat × Blk)) (b : Nat) : Nat := (l.map (lv w φ b)).sum
/-- What is owned of block b: rights to append to it, and the right to write it. -/
def cnt (w : World) (φ : Nat → Option Nat) (st : St) (ts : Array Value) (b : Nat) : Nat := envTk st.env ts b + cntH w φ (live st) b

structure Inv (w : World) (G : Nat → Nat) (φ : Nat → Option Nat) (st : St) (ts : Array Value) : Prop where
  sorted : Sorted st.env
  sortedL : Sorted st.loc
  sortedH : Sorted st.heap
  env : ∀ p ∈ st.env, p.1 < ts.size ∧ R w G φ p.2 (ts.getD p.1 undef) ∧ Tail w G p.2 (ts.getD p.1 undef)
  live : ∀ p ∈ live st, BlkRep w G φ p.1 p.2
  cnt : ∀ b, cnt w φ st ts b ≤ 1
  ctr : ∀ b m, φ b = some m → b < st.ctr
  zero : ∀ b, w.heap.size ≤ b → G b = 0

theorem BlkRep.lt {w : World} {G : Nat → Nat} {φ : Nat → Option Nat} {b : Nat} {blk : Blk} (h : BlkRep w G φ b blk) : ∃ m, φ b = some m ∧ m < w.heap.size ∧ G m = 0 := by
  have key : ∀ {m : Nat} {o : Obj}, w.heap[m]? = some o → m < w.heap.size := fun {m o} hb => by
    rcases Nat.lt_or_ge m w.heap.size with h2 | h2
    · exact h2
    · rw [Array.getElem?_eq_none h2] at hb; cases hb
  cases blk with
  | rows sz l => obtain ⟨m, h1, h2, cs, el, fr, h3, _⟩ := h; exact ⟨m, h1, key h3, h2⟩
  | map es => obtain ⟨m, h1, h2, en, ck, h3, _⟩ := h; exact ⟨m, h1, key h3, h2⟩
  | bld T e s => obtain ⟨m, h1, h2, p, v, h3, _⟩ := h; exact ⟨m, h1, key h3, h2⟩

/-- The cells of a block, each with its value, keep the rights' rules. -/
theorem BlkRep.tails {w : World} {G : Nat → Nat} {φ : Nat → Option Nat} {b m : Nat} {blk : Blk} (h : BlkRep w G φ b blk) (hm : φ b = some m) : ∀ p ∈ (bcells blk).zip (mvals w m), Tail1 w G p.1 p.2 := by
  cases blk with
  | rows sz l =>
    obtain ⟨m', h1, h2, cs, el, fr, h3, _, _, _, _, h5⟩ := h
    rw [hm] at h1; injection h1 with h1; subst h1
    intro p hp
    obtain ⟨i, hi, rfl⟩ := List.mem_iff_getElem.1 hp
    rw [List.length_zip] at hi
    rw [List.getElem_zip]
    have hi1 : i < (l.flatMap V.cells).length := by simp only [bcells] at hi; omega
    have := (h5 i hi1).2
    have hv : mvals w m = cs.toList := by simp [mvals, h3]
    have hi2 : i < cs.size := by rw [hv] at hi; simp at hi; omega
    simp only [bcells, hv]
    rw [Array.getElem_toList]
    simpa [Array.getD, hi2] using this
  | map es =>
    obtain ⟨m', h1, h2, en, ck, h3, h4, _, h5⟩ := h
    rw [hm] at h1; injection h1 with h1; subst h1
    intro p hp
    have hv : mvals w m = en.toList.flatMap fun e => e.val.cells.toList := by simp [mvals, h3]
    rw [hv] at hp
    simp only [bcells] at hp
    clear hv h3
    -- the rows of values side by side
    have key : ∀ (es : List (V × V)) (en : List MapEntry), en.length = es.length → (∀ i (h : i < es.length) (h' : i < en.length), (∀ vs, es[i].2 ≠ .tup vs) ∧ es[i].2.cells.length = en[i].val.cells.size ∧ Tail w G es[i].2 en[i].val) →
        ∀ p ∈ (es.flatMap fun e => e.2.cells).zip (en.flatMap fun e => e.val.cells.toList), Tail1 w G p.1 p.2 := by
      intro es
      induction es with
      | nil => intro en _ _ p hp; simp at hp
      | cons e es ih =>
        intro en hl hh p hp
        cases en with
        | nil => simp at hl
        | cons n en =>
          have h0 := hh 0 (by simp) (by simp)
          simp only [List.getElem_cons_zero] at h0
          rw [List.flatMap_cons, List.flatMap_cons, List.zip_append (by rw [h0.2.1, Array.length_toList])] at hp
          rcases List.mem_append.1 hp with hp | hp
          · refine h0.2.2 p ?_
            rw [leaves_of_not_tup h0.1]
            exact hp
          · exact ih en (by simpa using hl) (fun i h1 h2 => hh (i + 1) (by simp only [List.length_cons]; omega) (by simp only [List.length_cons]; omega)) p hp
    exact key es en.toList (by simpa using h4) (fun i hi hi' => by
      have := h5 i hi (by simpa using hi')
      exact ⟨this.2.2.1, by simpa using this.2.2.2.1, by simpa using this.2.2.2.2⟩) p hp
  | bld T e s =>
    obtain ⟨m', h1, h2, p, v, h3, h4, h5⟩ := h
    rw [hm] at h1; injection h1 with h1; subst h1
    have hv : mvals w m = [p, v] := by simp [mvals, h3]
    intro q hq
    rw [hv] at hq
    simp only [bcells, List.zip_cons_cons, List.zip_nil_right, List.mem_cons, List.not_mem_nil, or_false] at hq
    rcases hq with rfl | rfl
    · trivial
    · rcases h5 with ⟨rfl, _⟩ | ⟨g, cap, cur, rfl, k1, k2, k3, k4, k5, k6, k7, k8⟩
      · exact rfl
      · exact fun _ => ⟨rfl, ⟨cur, e, (0, 0), k4, by simp; omega, fun o _ hc => by simp at hc⟩, by simp [k3]⟩

/-- What is owned lies in memory. -/
theorem Inv.lt {w : World} {G : Nat → Nat} {φ : Nat → Option Nat} {st : St} {ts : Array Value} (h : Inv w G φ st ts) {b : Nat} (hb : E.cnt w φ st ts b ≠ 0) : b < w.heap.size := by
  rcases Nat.lt_or_ge b w.heap.size with hlt | hge
  · exact hlt
  · exfalso
    apply hb
    unfold E.cnt
    have h1 : envTk st.env ts b = 0 := sum_zero fun p hp => by
      rcases Nat.eq_zero_or_pos (tk p.2 (ts.getD p.1 undef) b) with e | e
      · exact e
      · have := sumTk_lt (h.env p hp).2.2 (b := b) (Nat.pos_iff_ne_zero.1 e); omega
    have h2 : cntH w φ (E.live st) b = 0 := sum_zero fun p hp => by
      have hr := h.live p hp
      obtain ⟨m, hm, hlt, _⟩ := hr.lt
      simp only [lv, hm]
      rw [if_neg (by omega), Nat.zero_add]
      rcases Nat.eq_zero_or_pos (sumTk ((bcells p.2).zip (mvals w m)) b) with e | e
      · exact e
      · have := sumTk_lt (hr.tails hm) (Nat.pos_iff_ne_zero.1 e); omega
    omega

end Go.Proofs.Ytnodepfoahmcmaa.E

/- The engine, part D: how the tie between state and machine is kept: memory goes on, a result is laid into a slot, a value is moved, things are dropped. Conditions: none. -/
namespace Go.Proofs.Ytnodepfoahmcmaa.E

theorem getD_set_eq {ts : Array Value} {d : Nat} {v u : Value} (h : d < ts.size) : (ts.setIfInBounds d v).getD d u = v := by
  simp [Array.getD, h]
theorem getD_set_ne' {ts : Array Value} {d k : Nat} {v u : Value} (h : k ≠ d) : (ts.setIfInBounds d v).getD k u = ts.getD k u := by
  simp only [Array.getD, Array.size_setIfInBounds]
  split
  · rename_i hk
    simp only [Array.getInternal_eq_getElem]
    rw [Array.getElem_setIfInBounds_ne hk (fun e => h e.symm)]
  · rfl

theorem tk1_le_tk {x : V} {v : Value} {p : V × Value} (h : p ∈ leaves x v) (b : Nat) : tk1 p.1 p.2 b ≤ tk x v b := le_sumTk h
theorem tk_le_envTk {env : List (Nat × V)} {ts : Array Value} {p : Nat × V} (h : p ∈ env) (b : Nat) : tk p.2 (ts.getD p.1 undef) b ≤ envTk env ts b :=
  le_sum (f := fun p : Nat × V => tk p.2 (ts.getD p.1 undef) b) h

theorem Tail.mono {w w' : World} {G G' : Nat → Nat} (e : Ext w G w' G') {x : V} {v : Value} (h : Tail w G x v) (hg : ∀ b, tk x v b ≠ 0 → G' b = G b) : Tail w' G' x v :=
  fun p hp => (h p hp).mono e fun b hb => hg b (by have := tk1_le_tk hp b; omega)

theorem mvals_congr {w w' : World} {m : Nat} (h : w'.heap[m]? = w.heap[m]?) : mvals w' m = mvals w m := by unfold mvals; rw [h]

theorem BlkRep.mono {w w' : World} {G G' : Nat → Nat} (e : Ext w G w' G') {φ φ' : Nat → Option Nat} (hφ : ∀ b m, φ b = some m → φ' b = some m) {b : Nat} {blk : Blk} (h : BlkRep w G φ b blk)
    (ho : ∀ c, lv w φ c (b, blk) ≠ 0 → w'.heap[c]? = w.heap[c]? ∧ G' c = G c) : BlkRep w' G' φ' b blk := by
  obtain ⟨m, hm, hlt, _⟩ := h.lt
  have hs := ho m (by simp [lv, hm])
  have htl : ∀ p ∈ (bcells blk).zip (mvals w m), ∀ c, tk1 p.1 p.2 c ≠ 0 → G' c = G c := fun p hp c hc => (ho c (by
    simp only [lv, hm]
    have := le_sumTk hp (b := c)
    omega)).2
  cases blk with
  | rows sz l =>
    obtain ⟨m', h1, h2, cs, el, fr, h3, h4, h5, h6, h7, h8⟩ := h
    rw [hm] at h1; injection h1 with h1; subst h1
    refine ⟨m, hφ _ _ hm, by rw [hs.2, h2], cs, el, fr, by rw [hs.1, h3], h4, h5, h6, h7, fun i hi => ⟨(h8 i hi).1.mono e hφ, (h8 i hi).2.mono e fun c hc => ?_⟩⟩
    have hv : mvals w m = cs.toList := by simp [mvals, h3]
    by_cases hi2 : i < cs.size
    · refine htl ((l.flatMap V.cells)[i], cs.getD i undef) ?_ c hc
      rw [List.mem_iff_getElem]
      refine ⟨i, by rw [List.length_zip, hv]; simp only [bcells, Array.length_toList]; omega, ?_⟩
      rw [List.getElem_zip]
      simp [bcells, hv, Array.getD, hi2]
    · exfalso
      apply hc
      have : cs.getD i undef = undef := by simp [Array.getD, hi2]
      rw [this]
      generalize (l.flatMap V.cells)[i] = y
      cases y with
      | sl own _ _ => cases own <;> rfl
      | _ => rfl
  | map es =>
    obtain ⟨m', h1, h2, en, ck, h3, h4, h5, h6⟩ := h
    rw [hm] at h1; injection h1 with h1; subst h1
    refine ⟨m, hφ _ _ hm, by rw [hs.2, h2], en, ck, by rw [hs.1, h3], h4, h5, fun i hi hi' => ?_⟩
    obtain ⟨a1, a2, a3, a4, a5⟩ := h6 i hi hi'
    refine ⟨a1.mono e fun _ _ h => h, a2.mono e hφ, a3, a4, a5.mono e fun c hc => ?_⟩
    -- a right in one entry is a right of the block
    have key : ∀ (es : List (V × V)) (en : List MapEntry) (i : Nat) (h : i < es.length) (h' : i < en.length), en.length = es.length → (∀ i (h : i < es.length) (h' : i < en.length), (∀ vs, es[i].2 ≠ .tup vs) ∧ es[i].2.cells.length = en[i].val.cells.size) →
        tk es[i].2 en[i].val c ≤ sumTk ((es.flatMap fun e => e.2.cells).zip (en.flatMap fun e => e.val.cells.toList)) c := by
      intro es
      induction es with
      | nil => intro en i h; simp at h
      | cons e0 es ih =>
        intro en i h h' hl hh
        cases en with
        | nil => simp at h'
        | cons n en =>
          have h0 := hh 0 (by simp) (by simp)
          simp only [List.getElem_cons_zero] at h0
          rw [List.flatMap_cons, List.flatMap_cons, List.zip_append (by rw [h0.2, Array.length_toList]), sumTk_append]
          cases i with
          | zero =>
            simp only [List.getElem_cons_zero]
            unfold tk
            rw [leaves_of_not_tup h0.1]
            omega
          | succ i =>
            have := ih en i (by simp only [List.length_cons] at h; omega) (by simp only [List.length_cons] at h'; omega) (by simpa using hl) (fun j h1 h2 => hh (j + 1) (by simp only [List.length_cons]; omega) (by simp only [List.length_cons]; omega))
            simp only [List.getElem_cons_succ]
            omega
    refine (ho c ?_).2
    simp only [lv, hm]
    have hv : mvals w m = en.toList.flatMap fun e => e.val.cells.toList := by simp [mvals, h3]
    have := key es en.toList i hi (by simpa using hi') (by simpa using h4) (fun j h1 h2 => by
      have := h6 j h1 (by simpa using h2)
      exact ⟨this.2.2.1, by simpa using this.2.2.2.1⟩)
    rw [hv]
    simp only [Array.getElem_toList] at this
    simp only [bcells]
    omega
  | bld T ee s =>
    obtain ⟨m', h1, h2, p, v, h3, h4, h5⟩ := h
    rw [hm] at h1; injection h1 with h1; subst h1
    refine ⟨m, hφ _ _ hm, by rw [hs.2, h2], p, v, by rw [hs.1, h3], h4, ?_⟩
    rcases h5 with h5 | ⟨g, cap, cur, rfl, k1, k2, k3, k4, k5, k6, k7, k8⟩
    · exact .inl h5
    · have hv : mvals w m = [p, .slice (some ⟨g, 0, none⟩) s.length cap] := by simp [mvals, h3]
      have hg := ho g (by simp [lv, hm, hv, bcells, sumTk, tk1, k1])
      exact .inr ⟨g, cap, cur, rfl, k1, k2, by rw [hg.2, k3], by rw [hg.1, k4], k5, k6, k7, k8⟩

theorem lv_congr {w w' : World} {φ φ' : Nat → Option Nat} {p : Nat × Blk} {m : Nat} (h : φ p.1 = some m) (h' : φ' p.1 = some m) (hb : w'.heap[m]? = w.heap[m]?) (b : Nat) : lv w' φ' b p = lv w φ b p := by
  simp only [lv, h, h', mvals_congr hb]

theorem cnt_congr {w w' : World} {G : Nat → Nat} {φ φ' : Nat → Option Nat} {st : St} {ts : Array Value} (h : Inv w G φ st ts) (hφ : ∀ b m, φ b = some m → φ' b = some m) (ho : ∀ b, cnt w φ st ts b ≠ 0 → w'.heap[b]? = w.heap[b]?) (b : Nat) :
    cnt w' φ' st ts b = cnt w φ st ts b := by
  unfold cnt
  congr 1
  refine sum_congr fun p hp => ?_
  obtain ⟨m, hm, _, _⟩ := (h.live p hp).lt
  refine lv_congr hm (hφ _ _ hm) (ho m ?_) b
  unfold cnt cntH
  have := le_sum (f := lv w φ m) hp
  simp only [lv, hm] at this
  simp at this
  omega

/-- Memory goes on; what is owned stays as it is. -/
theorem Inv.ext {w w' : World} {G G' : Nat → Nat} {φ φ' : Nat → Option Nat} {st : St} {ts : Array Value} (h : Inv w G φ st ts) (e : Ext w G w' G') (hφ : ∀ b m, φ b = some m → φ' b = some m) (n : Nat) (hn : ∀ b m, φ' b = some m → b < n)
    (ho : ∀ b, E.cnt w φ st ts b ≠ 0 → w'.heap[b]? = w.heap[b]? ∧ G' b = G b) (hz : ∀ b, w'.heap.size ≤ b → G' b = 0) : Inv w' G' φ' { st with ctr := n } ts where
  sorted := h.sorted
  sortedL := h.sortedL
  sortedH := h.sortedH
  env p hp := by
    obtain ⟨h1, h2, h3⟩ := h.env p hp
    refine ⟨h1, h2.mono e hφ, h3.mono e fun b hb => (ho b ?_).2⟩
    unfold E.cnt
    have := tk_le_envTk (ts := ts) hp b
    dsimp only at this ⊢
    omega
  live p hp := by
    refine (h.live p hp).mono e hφ fun c hc => ho c ?_
    unfold E.cnt cntH
    have := le_sum (f := lv w φ c) (show p ∈ E.live st from hp)
    have hc' : lv w φ c p ≠ 0 := hc
    omega
  cnt b := by
    have : E.cnt w' φ' { st with ctr := n } ts b = E.cnt w' φ' st ts b := rfl
    rw [this, cnt_congr h hφ (fun b hb => (ho b hb).1)]
    exact h.cnt b
  ctr := hn
  zero := hz

/-- Less is kept. -/
theorem Inv.drop {w : World} {G : Nat → Nat} {φ : Nat → Option Nat} {st : St} {ts : Array Value} (h : Inv w G φ st ts) {env : List (Nat × V)} {loc : List (Nat × (Nat × List V))} {heap : Heap} (h1 : env.Sublist st.env) (h2 : loc.Sublist st.loc) (h3 : heap.Sublist st.heap) :
    Inv w G φ { env, loc, heap, ctr := st.ctr } ts ∧ ∀ b, E.cnt w φ { env, loc, heap, ctr := st.ctr } ts b ≤ E.cnt w φ st ts b := by
  have hl : (E.live { env, loc, heap, ctr := st.ctr }).Sublist (E.live st) := List.Sublist.append (List.Sublist.map _ h2) h3
  have hc : ∀ b, E.cnt w φ { env, loc, heap, ctr := st.ctr } ts b ≤ E.cnt w φ st ts b := fun b => Nat.add_le_add (sum_sublist _ h1) (sum_sublist _ hl)
  exact ⟨⟨h.sorted.sublist h1, h.sortedL.sublist h2, h.sortedH.sublist h3, fun p hp => h.env p (h1.subset hp), fun p hp => h.live p (hl.subset hp), fun b => Nat.le_trans (hc b) (h.cnt b), h.ctr, h.zero⟩, hc⟩

theorem envTk_put {env : List (Nat × V)} (hs : Sorted env) {ts : Array Value} {d : Nat} {v : Value} (x : V) (hd : d < ts.size) (b : Nat) : envTk (set env d x) (ts.setIfInBounds d v) b ≤ envTk env ts b + tk x v b := by
  have same : ∀ l : List (Nat × V), (∀ p ∈ l, p.1 ≠ d) → envTk l (ts.setIfInBounds d v) b = envTk l ts b := fun l hl => sum_congr fun p hp => by rw [getD_set_ne' (hl p hp)]
  have cons : ∀ (p : Nat × V) (l : List (Nat × V)) (ts : Array Value), envTk (p :: l) ts b = tk p.2 (ts.getD p.1 undef) b + envTk l ts b := fun p l ts => by simp [envTk]
  induction env with
  | nil =>
    rw [set, cons, getD_set_eq hd]
    simp [envTk]
  | cons q l ih =>
    obtain ⟨a, y⟩ := q
    have hs' := List.pairwise_cons.1 hs
    rw [set]
    split
    · rename_i hk
      rw [cons, getD_set_eq hd, same _ fun p hp => ?_]
      · dsimp only; omega
      · rcases List.mem_cons.1 hp with rfl | hp
        · simp only; omega
        · have := hs'.1 _ hp; simp only at this; omega
    · split
      · rename_i hk
        rw [cons, getD_set_eq hd, cons, same _ fun p hp => by have := hs'.1 _ hp; simp only at this; omega]
        dsimp only; omega
      · rename_i h1 h2
        rw [cons, cons]
        dsimp only
        rw [getD_set_ne' (fun e => h2 e.symm)]
        have := ih hs'.2
        omega

/-- A result is laid into a slot. -/
theorem Inv.put {w : World} {G : Nat → Nat} {φ : Nat → Option Nat} {st : St} {ts : Array Value} (h : Inv w G φ st ts) {d : Nat} (hd : d < ts.size) {x : V} {v : Value} (hr : R w G φ x v) (ht : Tail w G x v) (hc : ∀ b, E.cnt w φ st ts b + tk x v b ≤ 1) :
    Inv w G φ (st.put (some d) x) (ts.setIfInBounds d v) ∧ ∀ b, E.cnt w φ (st.put (some d) x) (ts.setIfInBounds d v) b ≤ E.cnt w φ st ts b + tk x v b := by
  have hb : ∀ b, E.cnt w φ (st.put (some d) x) (ts.setIfInBounds d v) b ≤ E.cnt w φ st ts b + tk x v b := fun b => by
    have := envTk_put h.sorted (v := v) x hd b
    unfold E.cnt St.put
    have e : E.live { st with env := set st.env d x } = E.live st := rfl
    simp only [e]
    omega
  refine ⟨⟨set_sorted h.sorted _ _, h.sortedL, h.sortedH, fun p hp => ?_, h.live, fun b => Nat.le_trans (hb b) (hc b), h.ctr, h.zero⟩, hb⟩
  rw [Array.size_setIfInBounds]
  rcases mem_set h.sorted hp with rfl | ⟨hp, hne⟩
  · rw [getD_set_eq hd]
    exact ⟨hd, hr, ht⟩
  · rw [getD_set_ne' hne]
    exact h.env p hp

/-- A value is moved: the slot keeps it without its rights. -/
theorem Inv.clr {w : World} {G : Nat → Nat} {φ : Nat → Option Nat} {st : St} {ts : Array Value} (h : Inv w G φ st ts) {n : Nat} {x : V} (hx : get st.env n = some x) :
    Inv w G φ { st with env := set st.env n (E.clr x) } ts ∧ ∀ b, E.cnt w φ { st with env := set st.env n (E.clr x) } ts b + tk x (ts.getD n undef) b = E.cnt w φ st ts b := by
  have hc : ∀ b, E.cnt w φ { st with env := set st.env n (E.clr x) } ts b + tk x (ts.getD n undef) b = E.cnt w φ st ts b := fun b => by
    have := sum_set (fun p : Nat × V => tk p.2 (ts.getD p.1 undef) b) h.sorted n (E.clr x)
    rw [hx] at this
    simp only [tk_clr, Nat.add_zero] at this
    unfold E.cnt envTk
    have e : E.live { st with env := set st.env n (E.clr x) } = E.live st := rfl
    simp only [e]
    omega
  refine ⟨⟨set_sorted h.sorted _ _, h.sortedL, h.sortedH, fun p hp => ?_, h.live, fun b => ?_, h.ctr, h.zero⟩, hc⟩
  · rcases mem_set h.sorted hp with rfl | ⟨hp, hne⟩
    · have := h.env _ (get_mem hx)
      exact ⟨this.1, this.2.1.clr, Tail_clr _ _ _ _⟩
    · exact h.env p hp
  · have := hc b
    have := h.cnt b
    omega

end Go.Proofs.Ytnodepfoahmcmaa.E

/- The engine, part E: operations that only compute. What the machine does is what 'pf' says. Conditions: none. -/
namespace Go.Proofs.Ytnodepfoahmcmaa.E

def opArgs : Op → List Operand
  | .move x | .assign x => [x]
  | .pick c a b => [c, a, b]
  | .binOp _ _ x y _ => [x, y]
  | .unOp _ _ x | .convert _ _ x | .fieldAddr _ x _ | .field _ x _ | .load _ x | .nilCheck x | .makeInterface _ x | .box _ x | .extract x _ | .typeAssert x _ _ _ => [x]
  | .index _ x i | .indexAddr _ x i => [x, i]
  | .slice _ x lo hi mx => x :: (lo.toList ++ (hi.toList ++ mx.toList))
  | .build _ ps | .buildSlice _ _ ps => ps.toList.map (·.2)
  | .makeFunc _ _ cap => cap.toList
  | .call c => c.args.toList
  | .makeSlice _ l c => [l, c]
  | .store _ a v => [a, v]
  | .lookup _ m k _ => [m, k]
  | .mapUpdate _ m k v => [m, k, v]
  | _ => []

def szIs (P : Program) (t : TypeId) (n : Nat) : Bool := match P.info? t with | some i => i.size == n | none => false
def aggIs (P : Program) (t : TypeId) (n : Option Nat) : Bool := match P.underlying t with
  | some (.struct _) | some (.array _ _) => (match n with | some k => szIs P t k | none => false)
  | some _ => n.isNone
  | none => false
def intIs (P : Program) (t : TypeId) (k : IntKind) : Bool := match P.underlying t with | some (.int k') => k == k' | _ => false
def slIs (P : Program) (t : TypeId) (sz : Nat) : Bool := match P.underlying t with | some (.slice e) => szIs P e sz | _ => false
def strIs (P : Program) (t : TypeId) : Bool := match P.underlying t with | some .string => true | _ => false
def boolIs (P : Program) (t : TypeId) : Bool := match P.underlying t with | some .bool => true | _ => false
/-- The kinds of the cells that '==' compares at a type, if it compares them all, one by one. -/
def eqOkF (f : TypeId → Option (List Nat)) (P : Program) : List Field → Nat → Option (List Nat)
  | [], _ => some []
  | fd :: r, n => if fd.offset = n ∧ fd.name ≠ "_" then (f fd.type).bind fun ks => if aggIs P fd.type none = true ∧ ks.length = 1 ∨ aggIs P fd.type (some ks.length) = true ∧ 0 < ks.length then (eqOkF f P r (n + ks.length)).map fun q => ks ++ q else none else none
def eqOk (P : Program) : Nat → TypeId → Option (List Nat)
  | 0, _ => none
  | d + 1, t => match P.underlying t with
    | some .bool => some [0]
    | some (.int _) => some [1]
    | some .string => some [2]
    | some (.struct fs) => if P.stoodInHeld t = true then none else eqOkF (eqOk P d) P fs.toList 0
    | _ => none
/-- The machine's value that a constant of the engine stands for. -/
def okC1 : Value → V → Bool
  | .bool a, .bool b => a == b
  | .int k a, .int k' b => k == k' && a == b
  | .string s, .str l => s.data.toList == l
  | .pointer none, .nilp | .map none, .nilm | .nilFunc, .nilf | .nilIface, .nili => true
  | .slice none 0 0, .sl _ _ [] => true
  | .slice none 0 0, .hs 0 0 0 0 => true
  | _, _ => false
def okCL : List Value → List V → Bool
  | [], [] => true
  | a :: x, b :: y => okC1 a b && okCL x y
  | _, _ => false
def okC : Value → V → Bool
  | .agg vs, .agg cs => okCL vs.toList cs
  | .func (.func f) p q, .fn g [] => f == g && p.isEmpty && q.isEmpty
  | v, x => okC1 v x
def zeroIs (P : Program) (t : TypeId) (zero : List V) : Bool := match P.info? t with | some i => (match i.zero with | some z => okCL z.cells.toList zero | none => false) | none => false
def partsIs (P : Program) (fs : Array Field) : List (Nat × Operand) → List (Nat × Nat) → Bool
  | [], [] => true
  | (i, _) :: r, (off, sz) :: q => (match fs[i]? with | some f => f.offset == off && szIs P f.type sz | none => false) && partsIs P fs r q
  | _, _ => false

/-- Does the abstract operation stand for the program's? -/
def okPK (P : Program) (op : Op) (f : PK) : Bool := match f, op with
  | .mv, .move _ | .mv, .assign _ => true
  | .pick, .pick _ _ _ => true
  | .ar o, .binOp o' _ _ _ _ | .arw o, .binOp o' _ _ _ _ => o == o' && (o == .add || o == .sub || o == .mul)
  | .dv o, .binOp o' _ _ _ _ => o == o' && (o == .quo || o == .rem)
  | .bits o, .binOp o' _ _ _ _ => o == o' && (o == .and || o == .or || o == .xor || o == .andNot)
  | .sh o, .binOp o' _ _ _ _ => o == o' && (o == .shl || o == .shr)
  | .cmp o, .binOp o' _ _ _ _ => o == o'
  | .sadd, .binOp o' _ _ _ _ => o' == .add
  | .scmp o, .binOp o' _ _ _ _ => o == o'
  | .eq neg ag ks, .binOp o' t _ _ _ => o' == (if neg then .neq else .eql) && eqOk P 20 t == some ks && (if ag then (match P.underlying t with | some (.struct _) => true | _ => false) && !P.eqGuardType P.depth t else boolIs P t)
  | .not, .unOp o _ _ => o == .not
  | .neg, .unOp o _ _ => o == .neg
  | .len s, .call c => (match c.callee, c.argTypes.toList with | .builtin .len, [t] => if s then strIs P t else (match P.underlying t with | some (.slice _) => true | _ => false) | _, _ => false)
  | .min, .call c => (match c.callee with | .builtin .min => true | _ => false)
  | .max, .call c => (match c.callee with | .builtin .max => true | _ => false)
  | .conv k, .convert s d _ => (match P.underlying s, P.underlying d with | some (.int _), some (.int k') => k == k' | _, _ => false)
  | .same, .convert s d _ => strIs P s && strIs P d
  | .b2s, .convert s d _ => (match P.underlying s with | some (.slice e) => intIs P e .u8 | _ => false) && strIs P d
  | .sidx, .index t _ _ => strIs P t
  | .faddr off, .fieldAddr s _ i => (match P.underlying s with | some (.struct fs) => (match fs[i]? with | some f => f.offset == off && (match P.info? f.type with | some j => j.size != 0 | none => false) | none => false) | _ => false)
  | .field off n, .field s _ i => (match P.underlying s with | some (.struct fs) => (match fs[i]? with | some f => f.offset == off && aggIs P f.type n | none => false) | _ => false)
  | .iaddr sz, .indexAddr t _ _ => slIs P t sz
  | .aaddr sz n, .indexAddr t _ _ => (match P.underlying t with | some (.array m e) => m == n && szIs P e sz | _ => false)
  | .aidx sz n m, .index t _ _ => (match P.underlying t with | some (.array k e) => k == n && szIs P e sz && aggIs P e m | _ => false)
  | .loadF n, .load t _ => aggIs P t n
  | .nilck, .nilCheck _ => true
  | .isnil neg, .binOp op t _ _ _ => op == (if neg then .neq else .eql) && (match P.underlying t with | some (.slice _) => true | _ => false)
  | .isnili neg, .binOp op t _ y _ => op == (if neg then .neq else .eql) && (match P.underlying t with | some (.interface _) => true | _ => false) && (match y with | .const _ => true | _ => false)
  | .ssub lo hi, .slice t _ l h m => strIs P t && l.isSome == lo && h.isSome == hi && m.isNone
  | .sub sz lo hi mx, .slice t _ l h m => slIs P t sz && l.isSome == lo && h.isSome == hi && m.isSome == mx && (!mx || hi)
  | .build zero parts, .build t ps => (match P.underlying t with | some (.struct fs) => partsIs P fs ps.toList parts && fs.all (fun f => (P.info? f.type).isSome) | _ => false) && zeroIs P t zero
  | .buildM zero parts, .build t ps => (match P.underlying t with | some (.struct fs) => partsIs P fs ps.toList parts && fs.all (fun f => (P.info? f.type).isSome) | _ => false) && zeroIs P t zero
  | .mkfn f, .makeFunc (.func g) first _ => f == g && first.isEmpty
  | .mkif t, .makeInterface t' _ => t == t' && (match P.underlying t with | some (.interface _) => false | some _ => true | none => false)
  | _, _ => false

end Go.Proofs.Ytnodepfoahmcmaa.E

/- The engine, part F: the operations that only compute do in the machine what 'pf' says: first half. Conditions: none. -/
namespace Go.Proofs.Ytnodepfoahmcmaa.E
set_option linter.unusedVariables false
set_option linter.unusedSimpArgs false

/-- Side by side. -/
inductive All2 {α β : Type} (p : α → β → Prop) : List α → List β → Prop where
  | nil : All2 p [] []
  | cons {a : α} {b : β} {x : List α} {y : List β} (h : p a b) (t : All2 p x y) : All2 p (a :: x) (b :: y)
theorem All2.length {α β : Type} {p : α → β → Prop} {x : List α} {y : List β} (h : All2 p x y) : x.length = y.length := by
  induction h with
  | nil => rfl
  | cons _ _ ih => simp [ih]
theorem All2.imp {α β : Type} {p q : α → β → Prop} (f : ∀ a b, p a b → q a b) {x : List α} {y : List β} (h : All2 p x y) : All2 q x y := by
  induction h with
  | nil => exact .nil
  | cons h _ ih => exact .cons (f _ _ h) ih
theorem All2.get {α β : Type} {p : α → β → Prop} {x : List α} {y : List β} (h : All2 p x y) : ∀ i (h1 : i < x.length) (h2 : i < y.length), p x[i] y[i] := by
  induction h with
  | nil => intro i h; simp at h
  | cons h _ ih =>
    intro i h1 h2
    cases i with
    | zero => exact h
    | succ i => exact ih i (by simpa using h1) (by simpa using h2)

def vtk (xs : List V) (vs : List Value) (b : Nat) : Nat := ((xs.zip vs).map fun p => tk p.1 p.2 b).sum
/-- A result, and what becomes of the rights. -/
structure Res (w : World) (G : Nat → Nat) (φ : Nat → Option Nat) (xs : List V) (vs : List Value) (y : V) (v : Value) : Prop where
  r : R w G φ y v
  tk : ∀ b, tk y v b ≤ vtk xs vs b
  tail : (∀ p ∈ xs.zip vs, Tail w G p.1 p.2) → Tail w G y v

def plain1 : V → Bool
  | .sl true _ _ | .raw _ => false
  | _ => true
def plainV (x : V) : Bool := (match x with | .tup _ => false | _ => true) && x.cells.all plain1
theorem tk1_plain {x : V} {v : Value} (h : plain1 x = true) (b : Nat) : tk1 x v b = 0 := by
  cases x with
  | sl own sz l => cases own <;> first | rfl | (simp [plain1] at h)
  | raw n => simp [plain1] at h
  | _ => rfl
theorem Tail1_plain {w : World} {G : Nat → Nat} {x : V} {v : Value} (h : plain1 x = true) : Tail1 w G x v := by
  cases x with
  | sl own sz l => cases own <;> first | trivial | (simp [plain1] at h)
  | raw n => simp [plain1] at h
  | _ => trivial
theorem plain_leaves {x : V} {v : Value} (h : plainV x = true) {p : V × Value} (hp : p ∈ leaves x v) : plain1 p.1 = true := by
  unfold plainV at h
  rw [Bool.and_eq_true, List.all_eq_true] at h
  have hn : ∀ vs, x ≠ .tup vs := by rintro vs rfl; simp at h
  rw [leaves_of_not_tup hn] at hp
  obtain ⟨a, b⟩ := p
  exact h.2 _ (List.of_mem_zip hp).1
theorem tk_plain {x : V} (h : plainV x = true) (v : Value) (b : Nat) : tk x v b = 0 := sumTk_zero fun p hp => tk1_plain (plain_leaves h hp) b
theorem Tail_plain {w : World} {G : Nat → Nat} {x : V} (h : plainV x = true) (v : Value) : Tail w G x v := fun p hp => Tail1_plain (plain_leaves h hp)
theorem Res.plain {w : World} {G : Nat → Nat} {φ : Nat → Option Nat} {xs : List V} {vs : List Value} {y : V} {v : Value} (r : R w G φ y v) (h : plainV y = true) : Res w G φ xs vs y v :=
  ⟨r, fun b => by rw [tk_plain h]; exact Nat.zero_le _, fun _ => Tail_plain h v⟩
theorem Res.clr {w : World} {G : Nat → Nat} {φ : Nat → Option Nat} {xs : List V} {vs : List Value} {y : V} {v : Value} (r : R w G φ y v) : Res w G φ xs vs (E.clr y) v :=
  ⟨r.clr, fun b => by rw [tk_clr]; exact Nat.zero_le _, fun _ => Tail_clr _ _ _ _⟩
theorem Res.same {w : World} {G : Nat → Nat} {φ : Nat → Option Nat} {y : V} {v : Value} (r : R w G φ y v) : Res w G φ [y] [v] y v :=
  ⟨r, fun b => by simp [vtk], fun h => h (y, v) (by simp)⟩

/-! ### What the machine looks up -/
section
variable {P : Program} {t : TypeId} {n : Nat} {w : World}
theorem run_typeInfo {i : TypeInfo} (h : P.info? t = some i) (w : World) : (typeInfo t).run P w = .ok i w := by
  unfold typeInfo program
  simp [bind, Sem.bind, Sem.run, h, pure]
theorem run_szIs (h : szIs P t n = true) (w : World) : (sizeOf t).run P w = .ok n w := by
  unfold szIs at h
  split at h
  · rename_i i hi
    rw [beq_iff_eq] at h
    unfold sizeOf
    rw [Sem.run_bind, run_typeInfo hi, Result.andThen_ok, Sem.run_pure, h]
  · cases h
theorem run_isAgg_none (h : aggIs P t none = true) (w : World) : (isAgg t).run P w = .ok false w := by
  unfold aggIs at h
  cases hd : P.underlying t with
  | none => rw [hd] at h; cases h
  | some d =>
    rw [hd] at h
    unfold isAgg
    simp only [Sem.run_bind, run_underlying hd, Result.andThen_ok]
    cases d <;> first | (simp at h; done) | rfl
theorem run_isAgg_some (h : aggIs P t (some n) = true) (w : World) : (isAgg t).run P w = .ok true w ∧ (sizeOf t).run P w = .ok n w := by
  unfold aggIs at h
  cases hd : P.underlying t with
  | none => rw [hd] at h; cases h
  | some d =>
    rw [hd] at h
    cases d with
    | struct fs =>
      refine ⟨?_, run_szIs h w⟩
      unfold isAgg
      simp only [Sem.run_bind, run_underlying hd, Result.andThen_ok]
      rfl
    | array m e =>
      refine ⟨?_, run_szIs h w⟩
      unfold isAgg
      simp only [Sem.run_bind, run_underlying hd, Result.andThen_ok]
      rfl
    | _ => simp at h
/-- Reading a value's part. -/
theorem run_part {w : World} {G : Nat → Nat} {φ : Nat → Option Nat} {cs : List V} {vs : Array Value} {off : Nat} {m : Option Nat} {y : V} (h : aggIs P t m = true) (hl : vs.size = cs.length) (hr : ∀ i (h : i < cs.length), R w G φ cs[i] (vs.getD i undef)) (hy : part cs off m = some y) :
    ∃ v, (Go.part t vs off).run P w = .ok v w ∧ R w G φ y v := by
  cases m with
  | none =>
    simp only [part] at hy
    obtain ⟨hi, rfl⟩ := List.getElem?_eq_some_iff.1 hy
    refine ⟨vs.getD off undef, ?_, hr off hi⟩
    unfold Go.part
    simp only [Sem.run_bind, run_isAgg_none h, Result.andThen_ok]
    have hi2 : off < vs.size := by omega
    have e1 : vs[off]? = some vs[off] := by rw [Array.getElem?_eq_getElem hi2]
    have e2 : vs.getD off undef = vs[off] := by unfold Array.getD; rw [dif_pos hi2]; rfl
    rw [e1, e2]
    rfl
  | some k =>
    simp only [part] at hy
    split at hy
    · rename_i hk
      injection hy with hy
      subst hy
      obtain ⟨h1, h2⟩ := run_isAgg_some h w
      refine ⟨.agg (vs.extract off (off + k)), ?_, .agg _ _ _ ?_ fun i hi => ?_⟩
      · unfold Go.part
        simp [h1, h2, Result.andThen]
      · simp; omega
      · have hi' : i < k := by simp at hi; omega
        rw [List.getElem_take, List.getElem_drop]
        have : (vs.extract off (off + k)).getD i undef = vs.getD (off + i) undef := by
          have h1 : i < (vs.extract off (off + k)).size := by simp; omega
          have h2 : off + i < vs.size := by omega
          unfold Array.getD
          rw [dif_pos h1, dif_pos h2]
          simp
        rw [this]
        exact hr (off + i) (by omega)
    · cases hy
end

theorem toList_eq (s : ByteArray) : s.toList = s.data.toList := by
  have key : ∀ (n i : Nat) (acc : List UInt8), s.size - i = n → ByteArray.toList.loop s i acc = acc.reverse ++ s.data.toList.drop i := by
    intro n
    induction n with
    | zero =>
      intro i acc h
      rw [ByteArray.toList.loop]
      rw [if_neg (by omega), List.drop_of_length_le (by rw [Array.length_toList]; show s.size ≤ i; omega), List.append_nil]
    | succ n ih =>
      intro i acc h
      rw [ByteArray.toList.loop]
      have hi : i < s.size := by omega
      rw [if_pos hi, ih (i + 1) _ (by omega), List.reverse_cons, List.append_assoc]
      have hi' : i < s.data.toList.length := by rw [Array.length_toList]; exact hi
      rw [List.drop_eq_getElem_cons hi']
      have : s.get! i = s.data.toList[i] := by
        have h3 : i < s.data.size := hi
        cases s with
        | mk bs =>
          show bs[i]! = bs.toList[i]
          rw [getElem!_pos bs i h3]
          rfl
      rw [this]
      rfl
  have := key s.size 0 [] (by omega)
  unfold ByteArray.toList
  rw [this]
  simp
theorem str_inj {s s' : ByteArray} (h : s.data.toList = s'.data.toList) : s = s' := by
  cases s; cases s'
  simp only at h
  rw [Array.toList_inj.1 h]

end Go.Proofs.Ytnodepfoahmcmaa.E

/- The engine, part G: the operations that only compute do in the machine what 'pf' says. Conditions: none. -/
namespace Go.Proofs.Ytnodepfoahmcmaa.E
set_option linter.unusedVariables false
set_option linter.unusedSimpArgs false

section
variable {P : Program} {w : World} {G : Nat → Nat} {φ : Nat → Option Nat} {ρ : Operand → Value} {o : Oper} {y : V} {xs : List V}

/-- The result of an operation that only computes. -/
def Does (P : Program) (w : World) (G : Nat → Nat) (φ : Nat → Option Nat) (ρ : Operand → Value) (o : Oper) (xs : List V) (y : V) : Prop :=
  ∃ v, (execOp ρ o).run P w = .ok (.value v) w ∧ Res w G φ xs ((opArgs o.op).map ρ) y v

theorem exec_v {s : Sem Value} {v : Value} (h : s.run P w = .ok v w) : (do pure (.value (← s)) : Sem Next).run P w = .ok (.value v) w := by
  rw [Sem.run_bind, h, Result.andThen_ok, Sem.run_pure]

theorem all2_1 {p : V → Value → Prop} {x : V} {l : List Value} (h : All2 p [x] l) : ∃ v, l = [v] ∧ p x v := by
  cases h with | cons h t => cases t; exact ⟨_, rfl, h⟩
theorem all2_2 {p : V → Value → Prop} {x x' : V} {l : List Value} (h : All2 p [x, x'] l) : ∃ v v', l = [v, v'] ∧ p x v ∧ p x' v' := by
  cases h with | cons h t => obtain ⟨v', rfl, h'⟩ := all2_1 t; exact ⟨_, v', rfl, h, h'⟩
theorem all2_3 {p : V → Value → Prop} {x x' x'' : V} {l : List Value} (h : All2 p [x, x', x''] l) : ∃ v v' v'', l = [v, v', v''] ∧ p x v ∧ p x' v' ∧ p x'' v'' := by
  cases h with | cons h t => obtain ⟨v', v'', rfl, h'⟩ := all2_2 t; exact ⟨_, v', v'', rfl, h, h'⟩

theorem ok_mv (hk : okPK P o.op .mv = true) (hx : All2 (R w G φ) xs ((opArgs o.op).map ρ)) (hy : pf .mv xs = some y) : Does P w G φ ρ o xs y := by
  unfold Does
  cases hop : o.op <;> rw [hop] at hk <;> first | (cases hk; done) | skip
  all_goals
    rw [hop] at hx
    simp only [pf] at hy
    split at hy <;> first | (cases hy; done) | skip
    rename_i x
    injection hy with hy; subst hy
    obtain ⟨v, hv, hr⟩ := all2_1 hx
    simp only [opArgs, List.map_cons, List.map_nil] at hv ⊢
    injection hv with hv _
    refine ⟨v, by unfold execOp; rw [hop]; simp only [hv, Sem.run_pure], ?_⟩
    rw [hv]
    exact Res.same hr

theorem ok_pick (hk : okPK P o.op .pick = true) (hx : All2 (R w G φ) xs ((opArgs o.op).map ρ)) (hy : pf .pick xs = some y) : Does P w G φ ρ o xs y := by
  unfold Does
  cases hop : o.op <;> rw [hop] at hk <;> first | (cases hk; done) | skip
  rename_i oc oa ob
  rw [hop] at hx
  simp only [pf] at hy
  split at hy <;> first | (cases hy; done) | skip
  rename_i c a b
  injection hy with hy; subst hy
  obtain ⟨v1, v2, v3, hv, h1, h2, h3⟩ := all2_3 hx
  simp only [opArgs, List.map_cons, List.map_nil, List.cons.injEq, and_true] at hv ⊢
  obtain ⟨e1, e2, e3⟩ := hv
  cases h1
  refine ⟨if c then v2 else v3, ?_, ?_⟩
  · unfold execOp; rw [hop]; simp only [e1, e2, e3]; cases c <;> simp [asBool]
  · rw [e1, e2, e3]
    cases c
    · exact Res.clr h3
    · exact Res.clr h2

/-- Two-place operations on whole numbers, strings and so on. -/
theorem does_bin {op : BinOp} {t t2 : TypeId} {a b : Operand} {v1 v2 v : Value} (hop : o.op = .binOp op t a b t2) (e1 : ρ a = v1) (e2 : ρ b = v2) (hg : (eqGuard op t a b v1 v2).run P w = .ok () w) (hb : (binOp op t v1 v2).run P w = .ok v w) (r : R w G φ y v) (hp : plainV y = true) :
    Does P w G φ ρ o xs y := by
  refine ⟨v, ?_, Res.plain r hp⟩
  unfold execOp; rw [hop]
  simp only [e1, e2]
  exact exec_v (by rw [Sem.run_bind, hg, Result.andThen_ok, hb])
theorem guard_int (op : BinOp) (t : TypeId) (a b : Operand) (k : IntKind) (n : Int) (v : Value) : (eqGuard op t a b (.int k n) v).run P w = .ok () w := by rw [eqGuard_at_int]; rfl
theorem guard_str (op : BinOp) (t : TypeId) (a b : Operand) (s : ByteArray) (v : Value) : (eqGuard op t a b (.string s) v).run P w = .ok () w := by rw [eqGuard_at_string]; rfl
theorem guard_bool (op : BinOp) (t : TypeId) (a b : Operand) (s : Bool) (v : Value) : (eqGuard op t a b (.bool s) v).run P w = .ok () w := by rw [eqGuard_at_bool]; rfl

theorem beq_BinOp {a b : BinOp} (h : (a == b) = true) : a = b := by cases a <;> cases b <;> first | rfl | (exact absurd h (by decide))

theorem i64_wrap {n : Int} (h : InR n) : IntKind.i64.wrap n = n := by
  unfold InR at h
  unfold IntKind.wrap
  simp only [IntKind.bits, IntKind.signed, Bool.true_and]
  split <;> rename_i h2 <;> simp at h2 <;> omega

theorem ok_ar {op : BinOp} (hk : okPK P o.op (.ar op) = true) (hx : All2 (R w G φ) xs ((opArgs o.op).map ρ)) (hy : pf (.ar op) xs = some y) : Does P w G φ ρ o xs y := by
  cases hop : o.op <;> rw [hop] at hk <;> first | (cases hk; done) | skip
  rename_i op' t a b t2
  rw [hop] at hx
  simp only [okPK, Bool.and_eq_true] at hk
  obtain ⟨hk1, hk2⟩ := hk
  obtain rfl := beq_BinOp hk1
  simp only [pf] at hy
  split at hy <;> first | (cases hy; done) | skip
  rename_i k n k' n'
  split at hy <;> first | (cases hy; done) | skip
  rename_i hkk
  obtain ⟨rfl, rfl⟩ := hkk
  obtain ⟨r, hr, hy⟩ := Option.bind_eq_some_iff.1 hy
  split at hy <;> first | (cases hy; done) | skip
  rename_i hin
  injection hy with hy; subst hy
  obtain ⟨v1, v2, hv, h1, h2⟩ := all2_2 hx
  simp only [opArgs, List.map_cons, List.map_nil, List.cons.injEq, and_true] at hv
  cases h1; cases h2
  refine does_bin hop hv.1 hv.2 (guard_int ..) (v := .int .i64 r) ?_ (.int _ _ _) rfl
  cases op <;> first | (simp at hk2; done) | skip
  all_goals
    simp only [arF] at hr
    injection hr with hr; subst hr
    simp [binOp, Op.intArith, i64_wrap hin]

theorem ok_arw {op : BinOp} (hk : okPK P o.op (.arw op) = true) (hx : All2 (R w G φ) xs ((opArgs o.op).map ρ)) (hy : pf (.arw op) xs = some y) : Does P w G φ ρ o xs y := by
  cases hop : o.op <;> rw [hop] at hk <;> first | (cases hk; done) | skip
  rename_i op' t a b t2
  rw [hop] at hx
  simp only [okPK, Bool.and_eq_true] at hk
  obtain ⟨hk1, hk2⟩ := hk
  obtain rfl := beq_BinOp hk1
  simp only [pf] at hy
  split at hy <;> first | (cases hy; done) | skip
  rename_i k n k' n'
  split at hy <;> first | (cases hy; done) | skip
  rename_i hkk
  subst hkk
  obtain ⟨r, hr, hy⟩ := Option.map_eq_some_iff.1 hy
  subst hy
  obtain ⟨v1, v2, hv, h1, h2⟩ := all2_2 hx
  simp only [opArgs, List.map_cons, List.map_nil, List.cons.injEq, and_true] at hv
  cases h1; cases h2
  refine does_bin hop hv.1 hv.2 (guard_int ..) (v := .int k (k.wrap r)) ?_ (.int _ _ _) rfl
  cases op <;> first | (simp at hk2; done) | skip
  all_goals
    simp only [arF] at hr
    injection hr with hr; subst hr
    simp [binOp, Op.intArith]

theorem ok_dv {op : BinOp} (hk : okPK P o.op (.dv op) = true) (hx : All2 (R w G φ) xs ((opArgs o.op).map ρ)) (hy : pf (.dv op) xs = some y) : Does P w G φ ρ o xs y := by
  cases hop : o.op <;> rw [hop] at hk <;> first | (cases hk; done) | skip
  rename_i op' t a b t2
  rw [hop] at hx
  simp only [okPK, Bool.and_eq_true] at hk
  obtain ⟨hk1, hk2⟩ := hk
  obtain rfl := beq_BinOp hk1
  simp only [pf] at hy
  split at hy <;> first | (cases hy; done) | skip
  rename_i k n k' n'
  split at hy <;> first | (cases hy; done) | skip
  rename_i hkk
  obtain ⟨rfl, hne⟩ := hkk
  obtain ⟨v1, v2, hv, h1, h2⟩ := all2_2 hx
  simp only [opArgs, List.map_cons, List.map_nil, List.cons.injEq, and_true] at hv
  cases h1; cases h2
  cases op <;> first | (simp at hk2; done) | skip
  all_goals
    simp only at hy
    injection hy with hy; subst hy
    refine does_bin hop hv.1 hv.2 (guard_int ..) ?_ (.int _ _ _) rfl
    simp [binOp, Op.intDiv, hne]

theorem ok_bits {op : BinOp} (hk : okPK P o.op (.bits op) = true) (hx : All2 (R w G φ) xs ((opArgs o.op).map ρ)) (hy : pf (.bits op) xs = some y) : Does P w G φ ρ o xs y := by
  cases hop : o.op <;> rw [hop] at hk <;> first | (cases hk; done) | skip
  rename_i op' t a b t2
  rw [hop] at hx
  simp only [okPK, Bool.and_eq_true] at hk
  obtain ⟨hk1, hk2⟩ := hk
  obtain rfl := beq_BinOp hk1
  simp only [pf] at hy
  split at hy <;> first | (cases hy; done) | skip
  rename_i k n k' n'
  split at hy <;> first | (cases hy; done) | skip
  rename_i hkk
  subst hkk
  obtain ⟨r, hr, hy⟩ := Option.map_eq_some_iff.1 hy
  subst hy
  obtain ⟨v1, v2, hv, h1, h2⟩ := all2_2 hx
  simp only [opArgs, List.map_cons, List.map_nil, List.cons.injEq, and_true] at hv
  cases h1; cases h2
  cases op <;> first | (simp at hk2; done) | skip
  all_goals
    simp only [bitsF] at hr
    injection hr with hr; subst hr
    refine does_bin hop hv.1 hv.2 (guard_int ..) ?_ (.int _ _ _) rfl
    simp [binOp, Op.intBits]

theorem ok_sh {op : BinOp} (hk : okPK P o.op (.sh op) = true) (hx : All2 (R w G φ) xs ((opArgs o.op).map ρ)) (hy : pf (.sh op) xs = some y) : Does P w G φ ρ o xs y := by
  cases hop : o.op <;> rw [hop] at hk <;> first | (cases hk; done) | skip
  rename_i op' t a b t2
  rw [hop] at hx
  simp only [okPK, Bool.and_eq_true] at hk
  obtain ⟨hk1, hk2⟩ := hk
  obtain rfl := beq_BinOp hk1
  simp only [pf] at hy
  split at hy <;> first | (cases hy; done) | skip
  rename_i k n k' n'
  split at hy <;> first | (cases hy; done) | skip
  rename_i hne
  obtain ⟨r, hr, hy⟩ := Option.map_eq_some_iff.1 hy
  subst hy
  obtain ⟨v1, v2, hv, h1, h2⟩ := all2_2 hx
  simp only [opArgs, List.map_cons, List.map_nil, List.cons.injEq, and_true] at hv
  cases h1; cases h2
  have hne' : ¬ n' < 0 := by omega
  cases op <;> first | (simp at hk2; done) | skip
  all_goals
    simp only [shF] at hr
    injection hr with hr; subst hr
    refine does_bin hop hv.1 hv.2 (guard_int ..) ?_ (.int _ _ _) rfl
    simp [binOp, Op.shift, hne']

theorem ok_cmp {op : BinOp} (hk : okPK P o.op (.cmp op) = true) (hx : All2 (R w G φ) xs ((opArgs o.op).map ρ)) (hy : pf (.cmp op) xs = some y) : Does P w G φ ρ o xs y := by
  cases hop : o.op <;> rw [hop] at hk <;> first | (cases hk; done) | skip
  rename_i op' t a b t2
  rw [hop] at hx
  simp only [okPK] at hk
  obtain rfl := beq_BinOp hk
  simp only [pf] at hy
  split at hy <;> first | (cases hy; done) | skip
  rename_i k n k' n'
  split at hy <;> first | (cases hy; done) | skip
  rename_i hkk
  subst hkk
  obtain ⟨r, hr, hy⟩ := Option.map_eq_some_iff.1 hy
  subst hy
  obtain ⟨v1, v2, hv, h1, h2⟩ := all2_2 hx
  simp only [opArgs, List.map_cons, List.map_nil, List.cons.injEq, and_true] at hv
  cases h1; cases h2
  refine does_bin hop hv.1 hv.2 (guard_int ..) (v := .bool r) ?_ (.bool _ _) rfl
  cases op <;> simp only [cmpF] at hr <;> first | (cases hr; done) | skip
  all_goals
    injection hr with hr; subst hr
    simp [binOp, Op.intCmp, BEq.beq, bne]

theorem bytesLt_eq : ∀ a b : List UInt8, bytesLt a b = Op.bytesLess a b
  | _, [] => by cases ‹List UInt8› <;> rfl
  | [], _ :: _ => rfl
  | a :: x, b :: y => by rw [bytesLt, Op.bytesLess, bytesLt_eq x y]

theorem ok_sadd (hk : okPK P o.op .sadd = true) (hx : All2 (R w G φ) xs ((opArgs o.op).map ρ)) (hy : pf .sadd xs = some y) : Does P w G φ ρ o xs y := by
  cases hop : o.op <;> rw [hop] at hk <;> first | (cases hk; done) | skip
  rename_i op' t a b t2
  rw [hop] at hx
  simp only [okPK] at hk
  obtain rfl := beq_BinOp hk
  simp only [pf] at hy
  split at hy <;> first | (cases hy; done) | skip
  rename_i s s'
  split at hy <;> first | (cases hy; done) | skip
  rename_i hl
  injection hy with hy; subst hy
  obtain ⟨v1, v2, hv, h1, h2⟩ := all2_2 hx
  simp only [opArgs, List.map_cons, List.map_nil, List.cons.injEq, and_true] at hv
  cases h1 with | str _ s => cases h2 with | str _ s' =>
  have e : s.data.toList ++ s'.data.toList = (s ++ s').data.toList := by simp [ByteArray.data_append]
  rw [e]
  refine does_bin hop hv.1 hv.2 (guard_str ..) (v := .string (s ++ s')) ?_ (.str _ _) rfl
  have h1 : s.size + s'.size ≤ LIM := by simpa using hl
  have : ¬ (((s.size + s'.size : Nat) : Int) > IntKind.i64.max) := by
    unfold LIM at h1
    have : IntKind.i64.max = 9223372036854775807 := by decide
    omega
  simp [binOp, Op.stringOp]
  unfold LIM at h1
  omega

theorem ok_scmp {op : BinOp} (hk : okPK P o.op (.scmp op) = true) (hx : All2 (R w G φ) xs ((opArgs o.op).map ρ)) (hy : pf (.scmp op) xs = some y) : Does P w G φ ρ o xs y := by
  cases hop : o.op <;> rw [hop] at hk <;> first | (cases hk; done) | skip
  rename_i op' t a b t2
  rw [hop] at hx
  simp only [okPK] at hk
  obtain rfl := beq_BinOp hk
  simp only [pf] at hy
  split at hy <;> first | (cases hy; done) | skip
  obtain ⟨r, hr, hy⟩ := Option.map_eq_some_iff.1 hy
  subst hy
  obtain ⟨v1, v2, hv, h1, h2⟩ := all2_2 hx
  simp only [opArgs, List.map_cons, List.map_nil, List.cons.injEq, and_true] at hv
  cases h1 with | str _ s => cases h2 with | str _ s' =>
  refine does_bin hop hv.1 hv.2 (guard_str ..) (v := .bool r) ?_ (.bool _ _) rfl
  have eb : (s.data.toList == s'.data.toList) = decide (s.data.toList = s'.data.toList) := by
    rw [Bool.eq_iff_iff, beq_iff_eq, decide_eq_true_iff]
  cases op <;> simp only [scmpF] at hr <;> first | (cases hr; done) | skip
  all_goals
    injection hr with hr; subst hr
    simp only [binOp, Op.stringOp, toList_eq, bytesLt_eq, Sem.run_pure, eb]
    try simp

end
end Go.Proofs.Ytnodepfoahmcmaa.E

/- The engine, part H: more operations that only compute. Conditions: none. -/
namespace Go.Proofs.Ytnodepfoahmcmaa.E
set_option linter.unusedVariables false
set_option linter.unusedSimpArgs false

section
variable {P : Program} {w : World} {G : Nat → Nat} {φ : Nat → Option Nat} {ρ : Operand → Value} {o : Oper} {y : V} {xs : List V}

theorem does_v {s : Sem Value} {v : Value} (he : execOp ρ o = (do pure (.value (← s)))) (h : s.run P w = .ok v w) (r : Res w G φ xs ((opArgs o.op).map ρ) y v) : Does P w G φ ρ o xs y :=
  ⟨v, by rw [he]; exact exec_v h, r⟩

theorem ok_not (hk : okPK P o.op .not = true) (hx : All2 (R w G φ) xs ((opArgs o.op).map ρ)) (hy : pf .not xs = some y) : Does P w G φ ρ o xs y := by
  cases hop : o.op <;> rw [hop] at hk <;> first | (cases hk; done) | skip
  rename_i op t a
  rw [hop] at hx
  simp only [okPK] at hk
  cases op <;> first | (simp at hk; done) | skip
  all_goals first | (exact absurd hk (by decide)) | skip
  simp only [pf] at hy
  split at hy <;> first | (cases hy; done) | skip
  injection hy with hy; subst hy
  obtain ⟨v, hv, h1⟩ := all2_1 hx
  simp only [opArgs, List.map_cons, List.map_nil, List.cons.injEq, and_true] at hv
  cases h1
  exact does_v (s := Op.unary .not (ρ a)) (by unfold execOp; rw [hop]) (by rw [hv]; rfl) (Res.plain (.bool _ _) rfl)

theorem ok_neg (hk : okPK P o.op .neg = true) (hx : All2 (R w G φ) xs ((opArgs o.op).map ρ)) (hy : pf .neg xs = some y) : Does P w G φ ρ o xs y := by
  cases hop : o.op <;> rw [hop] at hk <;> first | (cases hk; done) | skip
  rename_i op t a
  rw [hop] at hx
  simp only [okPK] at hk
  cases op <;> first | (simp at hk; done) | skip
  all_goals first | (exact absurd hk (by decide)) | skip
  simp only [pf] at hy
  split at hy <;> first | (cases hy; done) | skip
  injection hy with hy; subst hy
  obtain ⟨v, hv, h1⟩ := all2_1 hx
  simp only [opArgs, List.map_cons, List.map_nil, List.cons.injEq, and_true] at hv
  cases h1
  exact does_v (s := Op.unary .neg (ρ a)) (by unfold execOp; rw [hop]) (by rw [hv]; rfl) (Res.plain (.int _ _ _) rfl)

/-- A builtin's operands are evaluated. -/
theorem exec_builtin {b : Builtin} {args : Array Operand} {ats : Array TypeId} (hop : o.op = .call { callee := .builtin b, args, argTypes := ats }) :
    execOp ρ o = builtin b ats o.type (args.map fun | .const _ => true | _ => false) (args.map ρ) := by
  unfold execOp; rw [hop]; rfl
theorem args_1 {args : Array Operand} {v : Value} (h : args.toList.map ρ = [v]) : args.map ρ = #[v] := by
  apply Array.toList_inj.1
  simpa using h
theorem args_2 {args : Array Operand} {v v' : Value} (h : args.toList.map ρ = [v, v']) : args.map ρ = #[v, v'] := by
  apply Array.toList_inj.1
  simpa using h

theorem ok_len {s : Bool} (hk : okPK P o.op (.len s) = true) (hx : All2 (R w G φ) xs ((opArgs o.op).map ρ)) (hy : pf (.len s) xs = some y) : Does P w G φ ρ o xs y := by
  cases hop : o.op <;> rw [hop] at hk <;> first | (cases hk; done) | skip
  rename_i c
  obtain ⟨ce, args, ats⟩ := c
  rw [hop] at hx
  simp only [okPK] at hk
  split at hk <;> first | (cases hk; done) | skip
  rename_i t hat
  have hat' : ats = #[t] := Array.toList_inj.1 hat
  subst hat'
  have hs := exec_builtin (ρ := ρ) hop
  have hb : ∀ ty cs args, builtin .len #[t] ty cs args = (do pure (.value (← Builtin.len_ #[t] ty args))) := fun _ _ _ => rfl
  rw [hb] at hs
  cases s
  · simp only [pf] at hy
    simp only [Bool.false_eq_true, if_false] at hk
    split at hk <;> first | (cases hk; done) | skip
    rename_i e hu
    split at hy <;> first | (cases hy; done) | skip
    · rename_i l
      injection hy with hy; subst hy
      obtain ⟨v, hv, h1⟩ := all2_1 hx
      simp only [opArgs] at hv
      rw [args_1 hv] at hs
      refine does_v hs (v := goInt l.length) ?_ (Res.plain (.int _ _ _) rfl)
      cases h1 <;> simp [Builtin.len_, run_underlying hu, Result.andThen, goInt]
    · injection hy with hy; subst hy
      obtain ⟨v, hv, h1⟩ := all2_1 hx
      simp only [opArgs] at hv
      rw [args_1 hv] at hs
      refine does_v hs (v := goInt _) ?_ (Res.plain (.int _ _ _) rfl)
      cases h1 <;> simp [Builtin.len_, run_underlying hu, Result.andThen, goInt]
  · simp only [pf] at hy
    simp only [if_true] at hk
    unfold strIs at hk
    split at hk <;> first | (cases hk; done) | skip
    rename_i hu
    split at hy <;> first | (cases hy; done) | skip
    injection hy with hy; subst hy
    obtain ⟨v, hv, h1⟩ := all2_1 hx
    simp only [opArgs] at hv
    rw [args_1 hv] at hs
    refine does_v hs (v := goInt _) ?_ (Res.plain (.int _ _ _) rfl)
    cases h1 with | str _ s =>
    simp [Builtin.len_, run_underlying hu, Result.andThen, goInt]

theorem ok_min (hk : okPK P o.op .min = true) (hx : All2 (R w G φ) xs ((opArgs o.op).map ρ)) (hy : pf .min xs = some y) : Does P w G φ ρ o xs y := by
  cases hop : o.op <;> rw [hop] at hk <;> first | (cases hk; done) | skip
  rename_i c
  obtain ⟨ce, args, ats⟩ := c
  rw [hop] at hx
  simp only [okPK] at hk
  split at hk <;> first | (cases hk; done) | skip
  have hs := exec_builtin (ρ := ρ) hop
  have hb : ∀ ty cs args, builtin .min ats ty cs args = (do pure (.value (← Builtin.min_ ats ty args))) := fun _ _ _ => rfl
  rw [hb] at hs
  simp only [pf] at hy
  split at hy <;> first | (cases hy; done) | skip
  rename_i k a k' b
  split at hy <;> first | (cases hy; done) | skip
  rename_i hkk; subst hkk
  injection hy with hy; subst hy
  obtain ⟨v1, v2, hv, h1, h2⟩ := all2_2 hx
  simp only [opArgs] at hv
  rw [args_2 hv] at hs
  cases h1; cases h2
  exact does_v hs (v := .int k (if b < a then b else a)) (by simp [Builtin.min_, Builtin.min2]) (Res.plain (.int _ _ _) rfl)

theorem ok_max (hk : okPK P o.op .max = true) (hx : All2 (R w G φ) xs ((opArgs o.op).map ρ)) (hy : pf .max xs = some y) : Does P w G φ ρ o xs y := by
  cases hop : o.op <;> rw [hop] at hk <;> first | (cases hk; done) | skip
  rename_i c
  obtain ⟨ce, args, ats⟩ := c
  rw [hop] at hx
  simp only [okPK] at hk
  split at hk <;> first | (cases hk; done) | skip
  have hs := exec_builtin (ρ := ρ) hop
  have hb : ∀ ty cs args, builtin .max ats ty cs args = (do pure (.value (← Builtin.max_ ats ty args))) := fun _ _ _ => rfl
  rw [hb] at hs
  simp only [pf] at hy
  split at hy <;> first | (cases hy; done) | skip
  rename_i k a k' b
  split at hy <;> first | (cases hy; done) | skip
  rename_i hkk; subst hkk
  injection hy with hy; subst hy
  obtain ⟨v1, v2, hv, h1, h2⟩ := all2_2 hx
  simp only [opArgs] at hv
  rw [args_2 hv] at hs
  cases h1; cases h2
  exact does_v hs (v := .int k (if b > a then b else a)) (by simp [Builtin.max_, Builtin.max2]) (Res.plain (.int _ _ _) rfl)

theorem ok_conv {k : IntKind} (hk : okPK P o.op (.conv k) = true) (hx : All2 (R w G φ) xs ((opArgs o.op).map ρ)) (hy : pf (.conv k) xs = some y) : Does P w G φ ρ o xs y := by
  cases hop : o.op <;> rw [hop] at hk <;> first | (cases hk; done) | skip
  rename_i s d a
  rw [hop] at hx
  simp only [okPK] at hk
  split at hk <;> first | (cases hk; done) | skip
  rename_i ks kd hs hd
  have hkd : k = kd := by cases k <;> cases kd <;> first | rfl | (exact absurd hk (by decide))
  subst hkd
  simp only [pf] at hy
  split at hy <;> first | (cases hy; done) | skip
  rename_i k' n
  injection hy with hy; subst hy
  obtain ⟨v, hv, h1⟩ := all2_1 hx
  simp only [opArgs, List.map_cons, List.map_nil, List.cons.injEq, and_true] at hv
  cases h1
  exact does_v (s := convert s d (ρ a)) (by unfold execOp; rw [hop]) (v := .int k (k.wrap n)) (by rw [hv]; simp [convert, run_underlying hs, run_underlying hd, Result.andThen, Conv.intToInt]) (Res.plain (.int _ _ _) rfl)

theorem strIs_spec {t : TypeId} (h : strIs P t = true) : P.underlying t = some .string := by
  unfold strIs at h
  split at h
  · assumption
  · cases h

theorem ok_same (hk : okPK P o.op .same = true) (hx : All2 (R w G φ) xs ((opArgs o.op).map ρ)) (hy : pf .same xs = some y) : Does P w G φ ρ o xs y := by
  cases hop : o.op <;> rw [hop] at hk <;> first | (cases hk; done) | skip
  rename_i s d a
  rw [hop] at hx
  simp only [okPK, Bool.and_eq_true] at hk
  have hs := strIs_spec hk.1
  have hd := strIs_spec hk.2
  simp only [pf] at hy
  split at hy <;> first | (cases hy; done) | skip
  injection hy with hy; subst hy
  obtain ⟨v, hv, h1⟩ := all2_1 hx
  simp only [opArgs, List.map_cons, List.map_nil, List.cons.injEq, and_true] at hv
  cases h1 with | str _ s' =>
  exact does_v (s := convert s d (ρ a)) (by unfold execOp; rw [hop]) (v := .string s') (by rw [hv]; simp [convert, run_underlying hs, run_underlying hd, Result.andThen]) (Res.plain (.str _ _) rfl)

theorem ok_sidx (hk : okPK P o.op .sidx = true) (hx : All2 (R w G φ) xs ((opArgs o.op).map ρ)) (hy : pf .sidx xs = some y) : Does P w G φ ρ o xs y := by
  cases hop : o.op <;> rw [hop] at hk <;> first | (cases hk; done) | skip
  rename_i t a i
  rw [hop] at hx
  simp only [okPK] at hk
  have hs := strIs_spec hk
  simp only [pf] at hy
  split at hy <;> first | (cases hy; done) | skip
  rename_i s k n
  split at hy <;> first | (cases hy; done) | skip
  rename_i hb
  injection hy with hy; subst hy
  obtain ⟨v1, v2, hv, h1, h2⟩ := all2_2 hx
  simp only [opArgs, List.map_cons, List.map_nil, List.cons.injEq, and_true] at hv
  cases h2
  cases h1 with | str _ s =>
  have hlt : n.toNat < s.size := by have := hb.2; rw [Array.length_toList] at this; show n.toNat < s.data.size; omega
  have e1 : s[n.toNat]? = some s[n.toNat] := getElem?_pos s n.toNat hlt
  have e2 : s.data.toList.getD n.toNat 0 = s[n.toNat] := by
    rw [List.getD_eq_getElem?_getD, List.getElem?_eq_getElem (by rw [Array.length_toList]; exact hlt)]
    rfl
  refine does_v (s := Instr.index t (ρ a) (ρ i)) (by unfold execOp; rw [hop]) (v := .int .u8 (s[n.toNat]).toNat) ?_ (Res.plain (by rw [e2]; exact .int _ _ _) rfl)
  rw [hv.1, hv.2]
  simp [Instr.index, asIntOf, run_underlying hs, Result.andThen, hb.1, e1]

theorem fieldAddr_run {s : TypeId} {fs : Array Field} {f : Field} {i : Nat} {j : TypeInfo} (hu : P.underlying s = some (.struct fs)) (hf : fs[i]? = some f) (hj : P.info? f.type = some j) (hz : j.size ≠ 0) (a : Addr) :
    (Instr.fieldAt s (.pointer (some a)) i).run P w = .ok (.pointer (some (a.add f.offset))) w := by
  have hsz : (sizeOf f.type).run P w = .ok j.size w := by
    unfold sizeOf
    rw [Sem.run_bind, run_typeInfo hj, Result.andThen_ok, Sem.run_pure]
  simp [Instr.fieldAt, run_underlying hu, Result.andThen, hf, Instr.sureAddr, fieldPlace, hsz, hz]

theorem add_none (b off n : Nat) : (⟨b, off, none⟩ : Addr).add n = ⟨b, off + n, none⟩ := by
  unfold Addr.add
  split
  · rename_i h; subst h; rfl
  · rfl

theorem ok_faddr {off : Nat} (hk : okPK P o.op (.faddr off) = true) (hx : All2 (R w G φ) xs ((opArgs o.op).map ρ)) (hy : pf (.faddr off) xs = some y) : Does P w G φ ρ o xs y := by
  cases hop : o.op <;> rw [hop] at hk <;> first | (cases hk; done) | skip
  rename_i s a i
  rw [hop] at hx
  simp only [okPK] at hk
  split at hk <;> first | (cases hk; done) | skip
  rename_i fs hu
  split at hk <;> first | (cases hk; done) | skip
  rename_i f hf
  rw [Bool.and_eq_true, beq_iff_eq] at hk
  obtain ⟨ho, hk⟩ := hk
  split at hk <;> first | (cases hk; done) | skip
  rename_i j hj
  have hz : j.size ≠ 0 := by simpa using hk
  simp only [pf] at hy
  split at hy <;> first | (cases hy; done) | skip
  all_goals
    injection hy with hy; subst hy
    obtain ⟨v, hv, h1⟩ := all2_1 hx
    simp only [opArgs, List.map_cons, List.map_nil, List.cons.injEq, and_true] at hv
  · cases h1 with | ptr _ _ _ _ _ m h =>
    refine does_v (s := Instr.fieldAt s (ρ a) i) (by unfold execOp; rw [hop]) (by rw [hv]; exact fieldAddr_run hu hf hj hz _) (Res.plain ?_ rfl)
    rw [add_none, ho, Nat.add_assoc]
    exact .ptr _ _ _ _ _ _ h
  · cases h1 with | fptr _ _ _ blk base g hc h1 hr hg =>
    refine does_v (s := Instr.fieldAt s (ρ a) i) (by unfold execOp; rw [hop]) (by rw [hv]; exact fieldAddr_run hu hf hj hz _) (Res.plain ?_ rfl)
    rw [add_none, ho, Nat.add_assoc]
    exact .fptr _ _ _ blk base g hc h1 hr hg

theorem ok_field {off : Nat} {n : Option Nat} (hk : okPK P o.op (.field off n) = true) (hx : All2 (R w G φ) xs ((opArgs o.op).map ρ)) (hy : pf (.field off n) xs = some y) : Does P w G φ ρ o xs y := by
  cases hop : o.op <;> rw [hop] at hk <;> first | (cases hk; done) | skip
  rename_i s a i
  rw [hop] at hx
  simp only [okPK] at hk
  split at hk <;> first | (cases hk; done) | skip
  rename_i fs hu
  split at hk <;> first | (cases hk; done) | skip
  rename_i f hf
  rw [Bool.and_eq_true, beq_iff_eq] at hk
  simp only [pf] at hy
  split at hy <;> first | (cases hy; done) | skip
  rename_i cs
  obtain ⟨z, hz, rfl⟩ := Option.map_eq_some_iff.1 hy
  obtain ⟨v, hv, h1⟩ := all2_1 hx
  simp only [opArgs, List.map_cons, List.map_nil, List.cons.injEq, and_true] at hv
  cases h1 with | agg _ cs vs hl hr =>
  rw [← hk.1] at hz
  obtain ⟨u, hu2, hr2⟩ := run_part hk.2 hl hr hz
  refine does_v (s := Instr.field s (ρ a) i) (by unfold execOp; rw [hop]) (v := u) ?_ (Res.clr hr2)
  rw [hv]
  simp [Instr.field, run_underlying hu, Result.andThen, hf, asAgg, hu2]

end
end Go.Proofs.Ytnodepfoahmcmaa.E

/- The engine, part I: places in rows, loads, cuts. Conditions: none. -/
namespace Go.Proofs.Ytnodepfoahmcmaa.E
set_option linter.unusedVariables false
set_option linter.unusedSimpArgs false

section
variable {P : Program} {w : World} {G : Nat → Nat} {φ : Nat → Option Nat} {ρ : Operand → Value} {o : Oper} {y : V} {xs : List V}

theorem slIs_spec {t : TypeId} {sz : Nat} (h : slIs P t sz = true) : ∃ e, P.underlying t = some (.slice e) ∧ szIs P e sz = true := by
  unfold slIs at h
  split at h
  · exact ⟨_, by assumption, h⟩
  · cases h

theorem ok_iaddr {sz : Nat} (hk : okPK P o.op (.iaddr sz) = true) (hx : All2 (R w G φ) xs ((opArgs o.op).map ρ)) (hy : pf (.iaddr sz) xs = some y) : Does P w G φ ρ o xs y := by
  cases hop : o.op <;> rw [hop] at hk <;> first | (cases hk; done) | skip
  rename_i t a i
  rw [hop] at hx
  simp only [okPK] at hk
  obtain ⟨e, hu, hsz⟩ := slIs_spec hk
  have run : ∀ (ad : Addr) (len cap : Nat) (k : IntKind) (n : Int), 0 ≤ n → n < len → (Instr.indexAt t (.slice (some ad) len cap) (.int k n)).run P w = .ok (.pointer (some (ad.add (n.toNat * sz)))) w := by
    intro ad len cap k n h0 h1
    simp [Instr.indexAt, asIntOf, run_underlying hu, Result.andThen, h0, h1, run_szIs hsz]
  simp only [pf] at hy
  split at hy <;> first | (cases hy; done) | skip
  · rename_i own z l k n
    split at hy <;> first | (cases hy; done) | skip
    rename_i hb
    obtain ⟨rfl, h0, h1⟩ := hb
    obtain ⟨x, hx0, rfl⟩ := Option.map_eq_some_iff.1 hy
    obtain ⟨hlt, rfl⟩ := List.getElem?_eq_some_iff.1 hx0
    obtain ⟨v1, v2, hv, r1, r2⟩ := all2_2 hx
    simp only [opArgs, List.map_cons, List.map_nil, List.cons.injEq, and_true] at hv
    cases r2
    cases r1 with
    | slNil => simp at hlt
    | sl _ _ _ _ blk off cap f hcap hc hone hz hr hg =>
      refine does_v (s := Instr.indexAt t (ρ a) (ρ i)) (by unfold execOp; rw [hop]) (by rw [hv.1, hv.2]; exact run _ _ _ _ _ h0 h1) (Res.plain ?_ rfl)
      rw [add_none]
      have hzz := hz n.toNat hlt
      refine .fptr _ _ 0 blk (off + n.toNat * z) (f n.toNat) (fun j hj => hc _ _ hlt (by rw [hzz] at hj; exact hj)) (fun j hj => hone _ _ hlt (by rw [hzz] at hj; exact hj)) (fun j hj => hr _ j hlt hj) ?_
      rw [hzz]
      have : (n.toNat + 1) * z ≤ l.length * z := Nat.mul_le_mul_right _ hlt
      rw [Nat.succ_mul] at this
      omega
  · rename_i b z off n k i'
    split at hy <;> first | (cases hy; done) | skip
    rename_i hb
    obtain ⟨rfl, hz0, h0, h1⟩ := hb
    injection hy with hy; subst hy
    obtain ⟨v1, v2, hv, r1, r2⟩ := all2_2 hx
    simp only [opArgs, List.map_cons, List.map_nil, List.cons.injEq, and_true] at hv
    cases r2
    cases r1 with
    | hsNil => omega
    | hs _ _ _ _ _ cap m o' cs el fr h hl ho hb hs hz =>
      refine does_v (s := Instr.indexAt t (ρ a) (ρ i)) (by unfold execOp; rw [hop]) (by rw [hv.1, hv.2]; exact run _ _ _ _ _ h0 h1) (Res.plain ?_ rfl)
      rw [add_none, ho (by omega)]
      have := R.ptr (w := w) (G := G) φ b z (off + i'.toNat) 0 m h
      rw [Nat.add_mul] at this
      exact this

theorem ok_aaddr {sz n : Nat} (hk : okPK P o.op (.aaddr sz n) = true) (hx : All2 (R w G φ) xs ((opArgs o.op).map ρ)) (hy : pf (.aaddr sz n) xs = some y) : Does P w G φ ρ o xs y := by
  cases hop : o.op <;> rw [hop] at hk <;> first | (cases hk; done) | skip
  rename_i t a i
  rw [hop] at hx
  simp only [okPK] at hk
  split at hk <;> first | (cases hk; done) | skip
  rename_i m e hu
  rw [Bool.and_eq_true, beq_iff_eq] at hk
  obtain ⟨rfl, hsz⟩ := hk
  have run : ∀ (ad : Addr) (k : IntKind) (q : Int), 0 ≤ q → q < m → (Instr.indexAt t (.pointer (some ad)) (.int k q)).run P w = .ok (.pointer (some (ad.add (q.toNat * sz)))) w := by
    intro ad k q h0 h1
    simp [Instr.indexAt, asIntOf, run_underlying hu, Result.andThen, Instr.sureAddr, h0, h1, run_szIs hsz]
  simp only [pf] at hy
  split at hy <;> first | (cases hy; done) | skip
  all_goals
    split at hy <;> first | (cases hy; done) | skip
    rename_i hb
    obtain ⟨h0, h1⟩ := hb
    injection hy with hy; subst hy
    obtain ⟨v1, v2, hv, r1, r2⟩ := all2_2 hx
    simp only [opArgs, List.map_cons, List.map_nil, List.cons.injEq, and_true] at hv
    cases r2
  · cases r1 with
    | ptr _ _ _ _ _ mm h =>
      refine does_v (s := Instr.indexAt t (ρ a) (ρ i)) (by unfold execOp; rw [hop]) (by rw [hv.1, hv.2]; exact run _ _ _ h0 h1) (Res.plain ?_ rfl)
      rw [add_none, Nat.add_assoc]
      exact .ptr _ _ _ _ _ _ h
  · cases r1 with
    | fptr _ _ _ blk base g hc h1' hr hg =>
      refine does_v (s := Instr.indexAt t (ρ a) (ρ i)) (by unfold execOp; rw [hop]) (by rw [hv.1, hv.2]; exact run _ _ _ h0 h1) (Res.plain ?_ rfl)
      rw [add_none, Nat.add_assoc]
      exact .fptr _ _ _ blk base g hc h1' hr hg

theorem ok_aidx {sz n : Nat} {m : Option Nat} (hk : okPK P o.op (.aidx sz n m) = true) (hx : All2 (R w G φ) xs ((opArgs o.op).map ρ)) (hy : pf (.aidx sz n m) xs = some y) : Does P w G φ ρ o xs y := by
  cases hop : o.op <;> rw [hop] at hk <;> first | (cases hk; done) | skip
  rename_i t a i
  rw [hop] at hx
  simp only [okPK] at hk
  split at hk <;> first | (cases hk; done) | skip
  rename_i k e hu
  rw [Bool.and_eq_true, Bool.and_eq_true, beq_iff_eq] at hk
  obtain ⟨⟨rfl, hsz⟩, hag⟩ := hk
  simp only [pf] at hy
  split at hy <;> first | (cases hy; done) | skip
  rename_i cs kk q
  split at hy <;> first | (cases hy; done) | skip
  rename_i hb
  obtain ⟨z, hz, rfl⟩ := Option.map_eq_some_iff.1 hy
  obtain ⟨v1, v2, hv, r1, r2⟩ := all2_2 hx
  simp only [opArgs, List.map_cons, List.map_nil, List.cons.injEq, and_true] at hv
  cases r2
  cases r1 with | agg _ _ vs hl hr =>
  obtain ⟨u, hu2, hr2⟩ := run_part hag hl hr hz
  refine does_v (s := Instr.index t (ρ a) (ρ i)) (by unfold execOp; rw [hop]) (v := u) ?_ (Res.clr hr2)
  rw [hv.1, hv.2]
  simp [Instr.index, asIntOf, run_underlying hu, Result.andThen, hb.1, hb.2, run_szIs hsz, hu2]

theorem ok_loadF {n : Option Nat} (hk : okPK P o.op (.loadF n) = true) (hx : All2 (R w G φ) xs ((opArgs o.op).map ρ)) (hy : pf (.loadF n) xs = some y) : Does P w G φ ρ o xs y := by
  cases hop : o.op <;> rw [hop] at hk <;> first | (cases hk; done) | skip
  rename_i t a
  rw [hop] at hx
  simp only [okPK] at hk
  simp only [pf] at hy
  split at hy <;> first | (cases hy; done) | skip
  rename_i cs off
  obtain ⟨z, hz, rfl⟩ := Option.map_eq_some_iff.1 hy
  obtain ⟨v, hv, h1⟩ := all2_1 hx
  simp only [opArgs, List.map_cons, List.map_nil, List.cons.injEq, and_true] at hv
  cases h1 with | fptr _ _ _ blk base g hc h1' hr hg =>
  have loose : ∀ {x : V} {u : Value}, R w G (fun _ => none) x u → R w G φ x u := fun h => h.mono (Ext.refl _ _) fun _ _ h => by cases h
  cases n with
  | none =>
    simp only [part] at hz
    obtain ⟨hi, rfl⟩ := List.getElem?_eq_some_iff.1 hz
    refine does_v (s := Instr.loadAt t (ρ a)) (by unfold execOp; rw [hop]) (v := g off) ?_ (Res.clr (loose (hr off hi)))
    rw [hv]
    simp [Instr.loadAt, Instr.sureAddr, loadVar, run_isAgg_none hk, Result.andThen, hc off hi]
  | some k =>
    simp only [part] at hz
    split at hz <;> first | (cases hz; done) | skip
    rename_i hle
    injection hz with hz; subst hz
    obtain ⟨a1, a2⟩ := run_isAgg_some hk w
    have hld := run_loadCells (P := P) w ⟨blk, base + off, none⟩ k (fun j => g (off + j)) (fun j hj => by rw [add_none, Nat.add_assoc]; exact hc _ (by omega))
    refine does_v (s := Instr.loadAt t (ρ a)) (by unfold execOp; rw [hop]) (v := .agg ((List.range k).map fun j => g (off + j)).toArray) ?_ (Res.clr (.agg _ _ _ ?_ fun i hi => ?_))
    · rw [hv]
      simp [Instr.loadAt, Instr.sureAddr, loadVar, a1, a2, Result.andThen, hld]
    · simp; omega
    · have hi' : i < k := by simp at hi; omega
      rw [List.getElem_take, List.getElem_drop]
      have : (((List.range k).map fun j => g (off + j)).toArray).getD i undef = g (off + i) := by simp [Array.getD, hi']
      rw [this]
      exact loose (hr (off + i) (by omega))

theorem eqGuard_at_slice (op : BinOp) (t : TypeId) (x y : Operand) (a : Option Addr) (n c : Nat) (v : Value) : eqGuard op t x y (.slice a n c) v = pure () := by cases op <;> rfl
theorem ok_isnil {neg : Bool} (hk : okPK P o.op (.isnil neg) = true) (hx : All2 (R w G φ) xs ((opArgs o.op).map ρ)) (hy : pf (.isnil neg) xs = some y) : Does P w G φ ρ o xs y := by
  cases hop : o.op <;> rw [hop] at hk <;> first | (cases hk; done) | skip
  rename_i op t a b t2
  rw [hop] at hx
  simp only [okPK, Bool.and_eq_true] at hk
  obtain ⟨h1, h2⟩ := hk
  obtain rfl := beq_BinOp h1
  split at h2 <;> first | (cases h2; done) | skip
  rename_i e hu
  have run : ∀ (ad : Option Addr) (n c : Nat), (binOp (if neg = true then .neq else .eql) t (.slice ad n c) (.slice none 0 0)).run P w = .ok (.bool (ad.isNone != neg)) w := by
    intro ad n c
    cases neg
    · simp [binOp, run_equal_slice_nil w t e ad n c hu]
    · simp [binOp, run_equal_slice_nil w t e ad n c hu]
  have nilR : ∀ v, R w G φ (.hs 0 0 0 0) v → v = .slice none 0 0 := by
    intro v hv
    cases hv with
    | hsNil => rfl
    | hs => omega
  simp only [pf] at hy
  split at hy <;> first | (cases hy; done) | skip
  all_goals
    injection hy with hy; subst hy
    obtain ⟨v1, v2, hv, r1, r2⟩ := all2_2 hx
    simp only [opArgs, List.map_cons, List.map_nil, List.cons.injEq, and_true] at hv
    obtain rfl := nilR _ r2
  · cases r1 with | sl _ _ _ _ blk off cap =>
    exact does_bin hop hv.1 hv.2 (by rw [eqGuard_at_slice]; rfl) (by rw [run]; cases neg <;> rfl) (.bool _ _) rfl
  · rename_i z1 _ _
    cases r1 with
    | hsNil => exact does_bin hop hv.1 hv.2 (by rw [eqGuard_at_slice]; rfl) (by rw [run]; rfl) (.bool _ _) rfl
    | hs _ _ _ _ _ cap m oo cs el fr h hl ho hb hs hz =>
      refine does_bin hop hv.1 hv.2 (v := .bool (false != neg)) (by rw [eqGuard_at_slice]; rfl) (by rw [run]; rfl) ?_ rfl
      have : (z1 == 0) = false := by simp; omega
      rw [this]
      exact .bool _ _
theorem run_equalIn_if {d : Nat} {t tx : TypeId} {ms : Array (String × TypeId)} {vx : Value} (h : P.underlying t = some (.interface ms)) : (Op.equalIn (d + 1) t (.iface tx vx) .nilIface).run P w = .ok false w := by
  simp [Op.equalIn, run_underlying h]
theorem run_equalIn_nn {d : Nat} {t : TypeId} {ms : Array (String × TypeId)} (h : P.underlying t = some (.interface ms)) : (Op.equalIn (d + 1) t .nilIface .nilIface).run P w = .ok true w := by
  simp [Op.equalIn, run_underlying h]
theorem run_equal_if {t tx : TypeId} {ms : Array (String × TypeId)} {vx : Value} (h : P.underlying t = some (.interface ms)) : (Op.equal t (.iface tx vx) .nilIface).run P w = .ok false w := run_equalIn_if (d := 9999) h
theorem run_equal_nn {t : TypeId} {ms : Array (String × TypeId)} (h : P.underlying t = some (.interface ms)) : (Op.equal t .nilIface .nilIface).run P w = .ok true w := run_equalIn_nn (d := 9999) h
theorem ok_isnili {neg : Bool} (hk : okPK P o.op (.isnili neg) = true) (hx : All2 (R w G φ) xs ((opArgs o.op).map ρ)) (hy : pf (.isnili neg) xs = some y) : Does P w G φ ρ o xs y := by
  cases hop : o.op <;> rw [hop] at hk <;> first | (cases hk; done) | skip
  rename_i op t a b t2
  rw [hop] at hx
  simp only [okPK, Bool.and_eq_true] at hk
  obtain ⟨⟨h1, h2⟩, h3⟩ := hk
  obtain rfl := beq_BinOp h1
  split at h2 <;> first | (cases h2; done) | skip
  rename_i ms hu
  split at h3 <;> first | (cases h3; done) | skip
  rename_i c
  simp only [pf] at hy
  split at hy <;> first | (cases hy; done) | skip
  all_goals
    injection hy with hy; subst hy
    obtain ⟨v1, v2, hv, r1, r2⟩ := all2_2 hx
    simp only [opArgs, List.map_cons, List.map_nil, List.cons.injEq, and_true] at hv
    cases r2
  · cases r1 with | iface _ t' x v h =>
    refine does_bin hop hv.1 hv.2 (by cases neg <;> rfl) (v := .bool neg) ?_ (.bool _ _) rfl
    cases neg <;> simp [binOp, run_equal_if hu]
  · cases r1
    refine does_bin hop hv.1 hv.2 (by cases a <;> cases neg <;> rfl) (v := .bool (!neg)) ?_ (.bool _ _) rfl
    cases neg <;> simp [binOp, run_equal_nn hu]
theorem ok_nilck (hk : okPK P o.op .nilck = true) (hx : All2 (R w G φ) xs ((opArgs o.op).map ρ)) (hy : pf .nilck xs = some y) : Does P w G φ ρ o xs y := by
  unfold Does
  cases hop : o.op <;> rw [hop] at hk <;> first | (cases hk; done) | skip
  rename_i a
  rw [hop] at hx
  simp only [pf] at hy
  split at hy <;> first | (cases hy; done) | skip
  all_goals
    injection hy with hy; subst hy
    obtain ⟨v, hv, h1⟩ := all2_1 hx
    simp only [opArgs, List.map_cons, List.map_nil, List.cons.injEq, and_true] at hv
    refine ⟨v, ?_, Res.plain h1 rfl⟩
    unfold execOp
    rw [hop]
    simp only [hv]
    cases h1
    simp

end
end Go.Proofs.Ytnodepfoahmcmaa.E

/- The engine, part J: cuts, built structs, function values. Conditions: none. -/
namespace Go.Proofs.Ytnodepfoahmcmaa.E
set_option linter.unusedVariables false
set_option linter.unusedSimpArgs false

section
variable {P : Program} {w : World} {G : Nat → Nat} {φ : Nat → Option Nat} {ρ : Operand → Value} {o : Oper} {y : V} {xs : List V}

/-- An optional bound. -/
theorem optI_spec {b : Bool} {r q : List V} {d n : Int} {op : Option Operand} {rest : List Value} (hb : (op.isSome == b) = true) (hx : All2 (R w G φ) r ((op.toList.map ρ) ++ rest)) (h : optI b r d = some (n, q)) :
    All2 (R w G φ) q rest ∧ ((op = none ∧ n = d) ∨ ∃ (x : Operand) (k : IntKind), op = some x ∧ ρ x = .int k n) := by
  cases op with
  | none =>
    cases b <;> first | (simp at hb; done) | skip
    simp only [optI] at h
    injection h with h; injection h with h1 h2; subst h1; subst h2
    exact ⟨hx, .inl ⟨rfl, rfl⟩⟩
  | some x =>
    cases b <;> first | (simp at hb; done) | skip
    cases r with
    | nil => simp [optI] at h
    | cons a r =>
      simp only [Option.toList, List.map_cons, List.map_nil, List.cons_append, List.nil_append] at hx
      cases hx with
      | cons hh ht =>
        cases a <;> first | (simp [optI] at h; done) | skip
        simp only [optI] at h
        injection h with h; injection h with h1 h2; subst h1; subst h2
        generalize hρ : ρ x = v at hh
        cases hh
        exact ⟨ht, .inr ⟨x, _, rfl, hρ⟩⟩

theorem run_sliceBound {x : Value} {k : IntKind} {n : Int} {m : Nat} {code : BoundsCode} (hx : x = .int k n) (h0 : 0 ≤ n) (h1 : n ≤ m) : (Instr.sliceBound x m code).run P w = .ok n.toNat w := by
  subst hx
  simp [Instr.sliceBound, asIntOf, h0, h1]

/-- The bounds of a cut, without a third one. -/
theorem run_bounds {isS : Bool} {len cap : Nat} {lo hi : Option Operand} {l h : Int} (hl : (lo = none ∧ l = 0) ∨ ∃ (x : Operand) (k : IntKind), lo = some x ∧ ρ x = .int k l) (hh : (hi = none ∧ h = len) ∨ ∃ (x : Operand) (k : IntKind), hi = some x ∧ ρ x = .int k h)
    (h0 : 0 ≤ l) (h1 : l ≤ h) (h2 : h ≤ cap) : (Instr.sliceBounds isS len cap (lo.map ρ) (hi.map ρ) none).run P w = .ok (l.toNat, h.toNat, cap) w := by
  have hlh : ∀ m : Nat, (m : Int) = h → l ≤ m := fun m e => by omega
  rcases hl with ⟨rfl, rfl⟩ | ⟨x, k, rfl, ex⟩ <;> rcases hh with ⟨rfl, rfl⟩ | ⟨x', k', rfl, ex'⟩
  · simp [Instr.sliceBounds]
  · simp [Instr.sliceBounds, ex', Instr.sliceBound, asIntOf, show 0 ≤ h by omega, h2]
  · simp [Instr.sliceBounds, ex, Instr.sliceBound, asIntOf, h0, h1]
  · have : l ≤ max h 0 := by omega
    simp [Instr.sliceBounds, ex, ex', Instr.sliceBound, asIntOf, show 0 ≤ h by omega, h2, h0, this]
theorem run_bounds3 {isS : Bool} {len cap : Nat} {lo hi mx : Option Operand} {l h m : Int} (hl : (lo = none ∧ l = 0) ∨ ∃ (x : Operand) (k : IntKind), lo = some x ∧ ρ x = .int k l) (hh : ∃ (x : Operand) (k : IntKind), hi = some x ∧ ρ x = .int k h) (hm : ∃ (x : Operand) (k : IntKind), mx = some x ∧ ρ x = .int k m)
    (h0 : 0 ≤ l) (h1 : l ≤ h) (h2 : h ≤ m) (h3 : m ≤ cap) : (Instr.sliceBounds isS len cap (lo.map ρ) (hi.map ρ) (mx.map ρ)).run P w = .ok (l.toNat, h.toNat, m.toNat) w := by
  obtain ⟨x', k', rfl, ex'⟩ := hh
  obtain ⟨x'', k'', rfl, ex''⟩ := hm
  have a1 : l ≤ max h 0 := by omega
  have a2 : h ≤ max m 0 := by omega
  rcases hl with ⟨rfl, rfl⟩ | ⟨x, k, rfl, ex⟩
  · simp [Instr.sliceBounds, ex', ex'', Instr.sliceBound, asIntOf, show 0 ≤ h by omega, show 0 ≤ m by omega, h3, a2]
  · simp [Instr.sliceBounds, ex, ex', ex'', Instr.sliceBound, asIntOf, show 0 ≤ h by omega, show 0 ≤ m by omega, h3, a2, h0, a1]

theorem extract_list (s : ByteArray) (a b : Nat) : (s.extract a b).data.toList = (s.data.toList.take b).drop a := by
  rw [ByteArray.data_extract, Array.toList_extract, List.extract_eq_take_drop, List.drop_take]

theorem ok_ssub {lo hi : Bool} (hk : okPK P o.op (.ssub lo hi) = true) (hx : All2 (R w G φ) xs ((opArgs o.op).map ρ)) (hy : pf (.ssub lo hi) xs = some y) : Does P w G φ ρ o xs y := by
  cases hop : o.op <;> rw [hop] at hk <;> first | (cases hk; done) | skip
  rename_i t a l h m
  rw [hop] at hx
  simp only [okPK, Bool.and_eq_true] at hk
  obtain ⟨⟨⟨k1, k2⟩, k3⟩, k4⟩ := hk
  have hu := strIs_spec k1
  obtain rfl : m = none := by cases m <;> first | rfl | (simp at k4)
  simp only [pf] at hy
  split at hy <;> first | (cases hy; done) | skip
  rename_i s r
  obtain ⟨⟨l', r1⟩, e1, hy⟩ := Option.bind_eq_some_iff.1 hy
  obtain ⟨⟨h', r2⟩, e2, hy⟩ := Option.bind_eq_some_iff.1 hy
  simp only at hy
  split at hy <;> first | (cases hy; done) | skip
  split at hy <;> first | (cases hy; done) | skip
  rename_i hb
  injection hy with hy; subst hy
  simp only [opArgs, List.map_cons, List.map_append] at hx
  cases hx with
  | cons hh ht =>
    generalize hρ : ρ a = v at hh
    cases hh with | str _ s =>
    obtain ⟨ht1, c1⟩ := optI_spec k2 ht e1
    obtain ⟨ht2, c2⟩ := optI_spec k3 ht1 e2
    have c2' : (h = none ∧ h' = (s.size : Int)) ∨ ∃ (x : Operand) (k : IntKind), h = some x ∧ ρ x = .int k h' := by simpa using c2
    have hle : h' ≤ (s.size : Int) := by have := hb.2.2; simpa using this
    refine does_v (s := Instr.sliceAt t (ρ a) (l.map ρ) (h.map ρ) (Option.map ρ none)) (by unfold execOp; rw [hop]) (v := .string (s.extract l'.toNat h'.toNat)) ?_ (Res.plain (by rw [← extract_list]; exact .str _ _) rfl)
    rw [hρ]
    simp [Instr.sliceAt, Instr.slice, run_underlying hu, Result.andThen, run_bounds c1 c2' hb.1 hb.2.1 hle]

theorem run_cut {t e : TypeId} {sz : Nat} (hu : P.underlying t = some (.slice e)) (hsz : szIs P e sz = true) {a : Option Addr} {len cap L H M : Nat} {lo hi mx : Option Value} (hb : (Instr.sliceBounds true len cap lo hi mx).run P w = .ok (L, H, M) w) :
    (Instr.sliceAt t (.slice a len cap) lo hi mx).run P w = .ok (.slice (if M = L then a else a.map (·.add (L * sz))) (H - L) (M - L)) w := by
  simp [Instr.sliceAt, Instr.slice, run_underlying hu, Result.andThen, hb, run_szIs hsz]

/-- A cut of a row reads as the cut list. -/
theorem R_cut {own own' : Bool} {sz : Nat} {l : List V} {a : Option Addr} {cap L H M : Nat} (h : R w G φ (.sl own sz l) (.slice a l.length cap)) (h1 : L ≤ H) (h2 : H ≤ l.length) (h3 : H ≤ M) :
    R w G φ (.sl own' sz ((l.take H).drop L)) (.slice (if M = L then a else a.map (·.add (L * sz))) (H - L) (M - L)) := by
  have hlen : ((l.take H).drop L).length = H - L := by rw [List.length_drop, List.length_take]; omega
  by_cases he : H - L = 0
  · have : (l.take H).drop L = [] := List.eq_nil_of_length_eq_zero (by rw [hlen, he])
    rw [this, he]
    exact .slNil _ _ _ _ _
  · rw [if_neg (by omega)]
    generalize hv : (Value.slice a l.length cap) = v at h
    cases h with
    | slNil => simp at h2; omega
    | sl _ _ _ _ blk off cap' f hcap hc hone hz hr hg =>
      injection hv with e1 e2 e3
      subst e1
      rw [Option.map_some, add_none, ← hlen]
      have hget : ∀ i (hi : i < ((l.take H).drop L).length), ((l.take H).drop L)[i] = l[L + i]'(by rw [hlen] at hi; omega) := fun i hi => by
        rw [List.getElem_drop, List.getElem_take]
      have hm : ∀ i, (L + i) * sz = L * sz + i * sz := fun i => Nat.add_mul _ _ _
      refine .sl _ _ sz _ blk (off + L * sz) _ (fun i j => f (L + i) j) (by rw [hlen]; omega) (fun i j hi hj => ?_) (fun i j hi hj => hone _ _ (by rw [hlen] at hi; omega) hj) (fun i hi => by rw [hget i hi]; exact hz _ _) (fun i j hi hj => ?_) ?_
      · have := hc (L + i) j (by rw [hlen] at hi; omega) hj
        rw [hm] at this
        rw [← this]
        congr 2
        omega
      · have := hr (L + i) j (by rw [hlen] at hi; omega) (by rw [hget i hi] at hj; exact hj)
        simp only [hget i hi]
        exact this
      · rw [hlen]
        have : (L + (H - L)) * sz ≤ l.length * sz := Nat.mul_le_mul_right _ (by omega)
        rw [Nat.add_mul] at this
        omega

theorem ok_sub {sz : Nat} {lo hi mx : Bool} (hk : okPK P o.op (.sub sz lo hi mx) = true) (hx : All2 (R w G φ) xs ((opArgs o.op).map ρ)) (hy : pf (.sub sz lo hi mx) xs = some y) : Does P w G φ ρ o xs y := by
  cases hop : o.op <;> rw [hop] at hk <;> first | (cases hk; done) | skip
  rename_i t a l h m
  rw [hop] at hx
  simp only [okPK, Bool.and_eq_true] at hk
  obtain ⟨⟨⟨⟨k1, k2⟩, k3⟩, k4⟩, k5⟩ := hk
  obtain ⟨e, hu, hsz⟩ := slIs_spec k1
  simp only [pf] at hy
  split at hy <;> first | (cases hy; done) | skip
  · rename_i own z q r
    obtain ⟨⟨l', r1⟩, e1, hy⟩ := Option.bind_eq_some_iff.1 hy
    obtain ⟨⟨h', r2⟩, e2, hy⟩ := Option.bind_eq_some_iff.1 hy
    obtain ⟨⟨m', r3⟩, e3, hy⟩ := Option.bind_eq_some_iff.1 hy
    simp only at hy
    split at hy <;> first | (cases hy; done) | skip
    split at hy <;> first | (cases hy; done) | skip
    rename_i hb
    injection hy with hy; subst hy
    obtain ⟨rfl, b1, b2, b3, b4⟩ := hb
    simp only [opArgs, List.map_cons, List.map_append] at hx
    cases hx with
    | cons hh ht =>
      have key : ∃ aa cap, ρ a = .slice aa q.length cap ∧ q.length ≤ cap ∨ (q = [] ∧ ρ a = .slice aa 0 cap) := by
        generalize ρ a = v at hh
        cases hh with
        | slNil _ _ _ aa cap => exact ⟨aa, cap, .inr ⟨rfl, rfl⟩⟩
        | sl _ _ _ _ blk off cap f hcap => exact ⟨_, cap, .inl ⟨rfl, hcap⟩⟩
      obtain ⟨aa, cap, hρ⟩ := key
      have hρ' : ρ a = .slice aa q.length cap := by rcases hρ with h | ⟨h1, h2⟩ <;> simp_all
      have hcap : q.length ≤ cap := by rcases hρ with h | ⟨h1, h2⟩ <;> simp_all
      clear hρ
      rw [hρ'] at hh
      obtain ⟨ht1, c1⟩ := optI_spec k2 ht e1
      obtain ⟨ht2, c2⟩ := optI_spec k3 ht1 e2
      obtain ⟨ht3, c3⟩ := optI_spec k4 (rest := []) (by simpa using ht2) e3
      have hne : ∃ M : Nat, (Instr.sliceBounds true q.length cap (l.map ρ) (h.map ρ) (m.map ρ)).run P w = .ok (l'.toNat, h'.toNat, M) w ∧ h'.toNat ≤ M ∧ (mx = true → M = h'.toNat) := by
        cases mx with
        | false =>
          obtain rfl : m = none := by cases m <;> first | rfl | (simp at k4)
          exact ⟨cap, run_bounds c1 c2 b1 b2 (by omega), by omega, fun h => by cases h⟩
        | true =>
          rcases c3 with ⟨rfl, _⟩ | c3
          · simp at k4
          rcases c2 with ⟨rfl, hh2⟩ | c2
          · exfalso
            simp at k3 k5
            rw [k5] at k3
            cases k3
          · exact ⟨m'.toNat, run_bounds3 c1 c2 c3 b1 b2 (by omega) (by omega), by omega, fun _ => by omega⟩
      obtain ⟨M, hbd, hM, hMx⟩ := hne
      refine does_v (s := Instr.sliceAt t (ρ a) (l.map ρ) (h.map ρ) (m.map ρ)) (by unfold execOp; rw [hop]) (by rw [hρ']; exact run_cut hu hsz hbd) ⟨R_cut hh (by omega) (by omega) hM, fun b => ?_, fun _ => ?_⟩
      · cases mx with
        | false => rw [tk_plain rfl]; exact Nat.zero_le _
        | true =>
          have hz : tk (.sl true z ((q.take h'.toNat).drop l'.toNat)) (.slice (if M = l'.toNat then aa else aa.map (·.add (l'.toNat * z))) (h'.toNat - l'.toNat) (M - l'.toNat)) b = 0 := by
            refine sumTk_zero fun p hp => ?_
            simp only [leaves, V.cells, Value.cells, List.zip_cons_cons, List.zip_nil_left, List.mem_singleton] at hp
            subst hp
            have hl2 : ((q.take h'.toNat).drop l'.toNat).length = h'.toNat - l'.toNat := by rw [List.length_drop, List.length_take]; omega
            unfold tk1
            split
            · rename_i heq1 heq2
              injection heq1 with _ _ hq
              injection heq2 with _ _ hcc
              rw [if_neg]
              rintro ⟨hlt, _⟩
              rw [← hq, hl2, ← hcc, hMx rfl] at hlt
              omega
            · rename_i heq1 _; cases heq1
            · rfl
          rw [hz]
          exact Nat.zero_le _
      · cases mx with
        | false => exact Tail_plain rfl _
        | true =>
          intro p hp
          simp only [leaves, V.cells, Value.cells, List.zip_cons_cons, List.zip_nil_left, List.mem_singleton] at hp
          subst hp
          have hl2 : ((q.take h'.toNat).drop l'.toNat).length = h'.toNat - l'.toNat := by rw [List.length_drop, List.length_take]; omega
          unfold Tail1
          split
          · rename_i heq1 heq2
            injection heq1 with _ _ hq
            injection heq2 with _ _ hcc
            intro hlt
            exfalso
            rw [← hq, hl2, ← hcc, hMx rfl] at hlt
            omega
          · rename_i heq1 heq2
            injection heq1 with _ _ hq
            injection heq2 with h1 _ hcc
            rw [← hcc, hMx rfl]
            by_cases e0 : M = l'.toNat
            · rw [hMx rfl] at e0; omega
            · rw [if_neg e0] at h1
              cases aa with
              | none =>
                cases hh with
                | slNil => simp at b3; omega
              | some _ => cases h1
          · rename_i heq1 _; cases heq1
          · trivial
  · rename_i b z off n r
    obtain ⟨⟨l', r1⟩, e1, hy⟩ := Option.bind_eq_some_iff.1 hy
    obtain ⟨⟨h', r2⟩, e2, hy⟩ := Option.bind_eq_some_iff.1 hy
    simp only at hy
    split at hy <;> first | (cases hy; done) | skip
    split at hy <;> first | (cases hy; done) | skip
    rename_i hb
    injection hy with hy; subst hy
    obtain ⟨rfl, hz0, b1, b2, b3, rfl⟩ := hb
    obtain rfl : m = none := by cases m <;> first | rfl | (simp at k4)
    simp only [opArgs, List.map_cons, List.map_append] at hx
    cases hx with
    | cons hh ht =>
      generalize hρ : ρ a = v at hh
      cases hh with
      | hsNil => omega
      | hs _ _ _ _ _ cap mm o' cs el fr hφ hl ho hb hs hz =>
        obtain ⟨ht1, c1⟩ := optI_spec k2 ht e1
        obtain ⟨ht2, c2⟩ := optI_spec k3 ht1 e2
        have hbd := run_bounds (P := P) (w := w) (isS := true) c1 c2 b1 b2 (show h' ≤ (cap : Int) by omega)
        refine does_v (s := Instr.sliceAt t (ρ a) (l.map ρ) (h.map ρ) (Option.map ρ none)) (by unfold execOp; rw [hop]) (by rw [hρ]; exact run_cut hu hsz hbd) (Res.plain ?_ rfl)
        have hsz2 : (off + l'.toNat) * z + (cap - l'.toNat) * z ≤ cs.size := by
          have : (off + l'.toNat) * z + (cap - l'.toNat) * z = off * z + cap * z := by
            rw [← Nat.add_mul, ← Nat.add_mul]; congr 1; omega
          omega
        have hv : ∃ o2, (if cap = l'.toNat then (some ⟨mm, o', none⟩ : Option Addr) else (some ⟨mm, o', none⟩ : Option Addr).map (·.add (l'.toNat * z))) = some ⟨mm, o2, none⟩ ∧ (cap - l'.toNat ≠ 0 → o2 = (off + l'.toNat) * z) := by
          by_cases e0 : cap = l'.toNat
          · exact ⟨o', by rw [if_pos e0], fun h => by omega⟩
          · exact ⟨o' + l'.toNat * z, by rw [if_neg e0, Option.map_some, add_none], fun _ => by rw [ho (by omega), Nat.add_mul]⟩
        obtain ⟨o2, hv1, hv2⟩ := hv
        rw [hv1]
        exact .hs _ b z _ _ _ mm o2 cs el fr hφ (by omega) hv2 hb hsz2 hz

end
end Go.Proofs.Ytnodepfoahmcmaa.E

/- The engine, part K: built structs, equality, function values; the whole of 'pf'. Conditions: none. -/
namespace Go.Proofs.Ytnodepfoahmcmaa.E
set_option linter.unusedVariables false
set_option linter.unusedSimpArgs false

section
variable {P : Program} {w : World} {G : Nat → Nat} {φ : Nat → Option Nat} {ρ : Operand → Value} {o : Oper} {y : V} {xs : List V}

/-- Cells side by side. -/
def PCells (p : V → Value → Prop) (cs : List V) (vs : Array Value) : Prop := vs.size = cs.length ∧ ∀ i (h : i < cs.length), p cs[i] (vs.getD i undef)
abbrev RCells (w : World) (G : Nat → Nat) (φ : Nat → Option Nat) (cs : List V) (vs : Array Value) : Prop := PCells (R w G φ) cs vs
/-- A cell without rights. -/
def R0 (w : World) (G : Nat → Nat) (φ : Nat → Option Nat) (x : V) (v : Value) : Prop := R w G φ x v ∧ (∀ b, tk1 x v b = 0) ∧ Tail1 w G x v

theorem cells_solid {x : V} {v : Value} (h : R w G φ x v) (hs : solid x = true) : RCells w G φ x.cells v.cells := by
  have h' := h
  have one : ∀ {x : V} {v : Value}, R w G φ x v → x.cells = [x] → v.cells = #[v] → RCells w G φ x.cells v.cells := fun {x v} h e1 e2 => by
    rw [e1, e2]
    refine ⟨rfl, fun i hi => ?_⟩
    obtain rfl : i = 0 := by simpa using hi
    exact h
  cases h with
  | junk => simp [solid] at hs
  | tup => simp [solid] at hs
  | agg _ _ _ hl hr => exact ⟨hl, hr⟩
  | _ => exact one h' rfl rfl

theorem R0.clr1 {x : V} {v : Value} (h : R w G φ x v) : R0 w G φ (E.clr1 x) v := ⟨h.clr1, fun _ => tk1_clr1 _ _ _, Tail1_clr1 _ _ _ _⟩
theorem RCells.clr {cs : List V} {vs : Array Value} (h : RCells w G φ cs vs) : PCells (R0 w G φ) (cs.map E.clr1) vs :=
  ⟨by rw [List.length_map]; exact h.1, fun i hi => by rw [List.getElem_map]; exact R0.clr1 (h.2 i (by simpa using hi))⟩

theorem foldl_put (vs : List Value) (off : Nat) : ∀ (k : Nat) (cells : Array Value), off + k + vs.length ≤ cells.size →
    ((vs.zipIdx k).foldl (fun (cs : Array Value) (x : Value × Nat) => cs.setIfInBounds (off + x.2) x.1) cells).size = cells.size ∧
    ∀ i, ((vs.zipIdx k).foldl (fun (cs : Array Value) (x : Value × Nat) => cs.setIfInBounds (off + x.2) x.1) cells).getD i undef = if off + k ≤ i ∧ i < off + k + vs.length then vs.getD (i - (off + k)) undef else cells.getD i undef := by
  induction vs with
  | nil => intro k cells _; simp; intro i h1 h2; omega
  | cons v vs ih =>
    intro k cells h
    simp only [List.length_cons] at h
    rw [List.zipIdx_cons, List.foldl_cons]
    obtain ⟨h1, h2⟩ := ih (k + 1) (cells.setIfInBounds (off + k) v) (by rw [Array.size_setIfInBounds]; omega)
    refine ⟨by rw [h1, Array.size_setIfInBounds], fun i => ?_⟩
    rw [h2]
    by_cases e : i = off + k
    · subst e
      rw [if_neg (by omega), if_pos (by simp only [List.length_cons]; omega), getD_set_eq (by omega)]
      simp
    · rw [getD_set_ne' e]
      by_cases c : off + (k + 1) ≤ i ∧ i < off + (k + 1) + vs.length
      · rw [if_pos c, if_pos (by simp only [List.length_cons]; omega)]
        have : i - (off + k) = (i - (off + (k + 1))) + 1 := by omega
        rw [this, List.getD_cons_succ]
      · rw [if_neg c, if_neg (by simp only [List.length_cons]; omega)]

theorem fill_ok {place : Nat → Option (Nat × Nat)} : ∀ (parts : List (Nat × Value)) (ps : List (Nat × Nat)) (xs : List V) (cs cs' : List V) (cells : Array Value), PCells (R0 w G φ) cs cells → (parts.map fun p => place p.1) = ps.map some → All2 (R w G φ) xs (parts.map (·.2)) → fillP cs ps xs = some cs' →
    ∃ cells', Instr.fill place cells parts = some cells' ∧ PCells (R0 w G φ) cs' cells' := by
  intro parts
  induction parts with
  | nil =>
    intro ps xs cs cs' cells h hp hx hf
    cases ps with
    | cons => simp at hp
    | nil =>
      cases hx
      simp only [fillP] at hf
      injection hf with hf; subst hf
      exact ⟨cells, rfl, h⟩
  | cons p parts ih =>
    intro ps xs cs cs' cells h hp hx hf
    obtain ⟨i, v⟩ := p
    cases ps with
    | nil => simp at hp
    | cons q ps =>
      obtain ⟨off, sz⟩ := q
      cases hx with
      | cons hh ht =>
        rename_i x xs
        simp only [fillP] at hf
        split at hf <;> first | (cases hf; done) | skip
        rename_i hb
        obtain ⟨b1, b2, b3⟩ := hb
        simp only [List.map_cons, List.cons.injEq] at hp
        have hc := RCells.clr (cells_solid hh b3)
        simp only at hc
        have hvs : v.cells.size = sz := by rw [hc.1, List.length_map, b1]
        simp only [Instr.fill, hp.1]
        rw [if_neg (by rw [hvs, h.1]; simp; omega)]
        obtain ⟨f1, f2⟩ := foldl_put v.cells.toList off 0 cells (by rw [Array.length_toList, hvs, h.1]; omega)
        refine ih ps xs _ cs' _ ?_ hp.2 ht hf
        have e : v.cells.zipIdx.foldl (fun cs (x : Value × Nat) => cs.setIfInBounds (off + x.2) x.1) cells = (v.cells.toList.zipIdx 0).foldl (fun (cs : Array Value) (x : Value × Nat) => cs.setIfInBounds (off + x.2) x.1) cells := by
          rw [← Array.foldl_toList, Array.toList_zipIdx]
        have e' : (v.cells.zipIdx.foldl (fun cs x => match x with | (c, j) => cs.setIfInBounds (off + j) c) cells) = (v.cells.toList.zipIdx 0).foldl (fun (cs : Array Value) (x : Value × Nat) => cs.setIfInBounds (off + x.2) x.1) cells := e
        rw [e']
        have hl1 : (x.cells.map clr1).length = sz := by rw [List.length_map, b1]
        refine ⟨by rw [f1, h.1]; simp only [List.length_append, List.length_take, List.length_drop, hl1]; omega, fun j hj => ?_⟩
        rw [f2]
        simp only [List.length_append, List.length_take, List.length_drop, hl1] at hj
        rw [Array.length_toList, hvs]
        by_cases c : off + 0 ≤ j ∧ j < off + 0 + sz
        · rw [if_pos c]
          have e2 : (cs.take off ++ x.cells.map clr1 ++ cs.drop (off + sz))[j]'(by simp only [List.length_append, List.length_take, List.length_drop, hl1]; omega) = (x.cells.map clr1)[j - off]'(by rw [hl1]; omega) := by
            rw [List.getElem_append_left (by simp only [List.length_append, List.length_take, hl1]; omega), List.getElem_append_right (by simp only [List.length_take]; omega)]
            congr 1
            simp only [List.length_take]
            omega
          rw [e2]
          have := hc.2 (j - off) (by rw [hl1]; omega)
          have e3 : v.cells.toList.getD (j - (off + 0)) undef = v.cells.getD (j - off) undef := by
            have h4 : j - off < v.cells.size := by omega
            rw [List.getD_eq_getElem?_getD, Nat.add_zero, List.getElem?_eq_getElem (by rw [Array.length_toList]; exact h4)]
            simp [Array.getD, h4]
          rw [e3]
          exact this
        · rw [if_neg c]
          rcases Nat.lt_or_ge j off with hlt | hge
          · have e2 : (cs.take off ++ x.cells.map clr1 ++ cs.drop (off + sz))[j]'(by simp only [List.length_append, List.length_take, List.length_drop, hl1]; omega) = cs[j]'(by omega) := by
              rw [List.getElem_append_left (by simp only [List.length_append, List.length_take, hl1]; omega), List.getElem_append_left (by simp only [List.length_take]; omega), List.getElem_take]
            rw [e2]
            exact h.2 j (by omega)
          · have hj2 : off + sz ≤ j := by omega
            have e2 : (cs.take off ++ x.cells.map clr1 ++ cs.drop (off + sz))[j]'(by simp only [List.length_append, List.length_take, List.length_drop, hl1]; omega) = cs[j]'(by omega) := by
              rw [List.getElem_append_right (by simp only [List.length_append, List.length_take, hl1]; omega), List.getElem_drop]
              congr 1
              simp only [List.length_append, List.length_take, hl1]
              omega
            rw [e2]
            exact h.2 j (by omega)

theorem okC1_R {v : Value} {x : V} (h : okC1 v x = true) : R w G φ x v ∧ solid x = true ∧ (∀ b, tk1 x v b = 0) ∧ Tail1 w G x v ∧ x.cells = [x] ∧ v.cells = #[v] := by
  unfold okC1 at h
  split at h <;> first | (cases h; done) | skip
  · simp at h; subst h; exact ⟨.bool _ _, rfl, fun _ => rfl, trivial, rfl, rfl⟩
  · rw [Bool.and_eq_true] at h
    rename_i k a k' b
    have e1 : k = k' := by simpa using h.1
    have e2 : a = b := by simpa using h.2
    subst e1; subst e2
    exact ⟨.int _ _ _, rfl, fun _ => rfl, trivial, rfl, rfl⟩
  · rename_i s l
    have : s.data.toList = l := by simpa using h
    subst this
    exact ⟨.str _ _, rfl, fun _ => rfl, trivial, rfl, rfl⟩
  · exact ⟨.nilp _, rfl, fun _ => rfl, trivial, rfl, rfl⟩
  · exact ⟨.nilm _, rfl, fun _ => rfl, trivial, rfl, rfl⟩
  · exact ⟨.nilf _, rfl, fun _ => rfl, trivial, rfl, rfl⟩
  · exact ⟨.nili _, rfl, fun _ => rfl, trivial, rfl, rfl⟩
  · rename_i own sz
    refine ⟨.slNil _ _ _ _ _, rfl, fun _ => by cases own <;> rfl, ?_, rfl, rfl⟩
    cases own
    · trivial
    · show (0 : Nat) = 0; rfl
  · exact ⟨.hsNil _, rfl, fun _ => rfl, trivial, rfl, rfl⟩
theorem okCL_R {vs : List Value} {cs : List V} (h : okCL vs cs = true) : All2 (R0 w G φ) cs vs := by
  induction vs generalizing cs with
  | nil => cases cs <;> first | exact .nil | (simp [okCL] at h)
  | cons v vs ih =>
    cases cs with
    | nil => simp [okCL] at h
    | cons c cs =>
      simp only [okCL, Bool.and_eq_true] at h
      have := okC1_R (w := w) (G := G) (φ := φ) h.1
      exact .cons ⟨this.1, this.2.2.1, this.2.2.2.1⟩ (ih h.2)
theorem okCL_cells {vs : Array Value} {cs : List V} (h : okCL vs.toList cs = true) : PCells (R0 w G φ) cs vs := by
  have := okCL_R (w := w) (G := G) (φ := φ) h
  have hl : vs.size = cs.length := by rw [← Array.length_toList]; exact this.length.symm
  refine ⟨hl, fun i hi => ?_⟩
  have h2 := this.get i hi (by rw [Array.length_toList, hl]; exact hi)
  have hi2 : i < vs.size := by rw [hl]; exact hi
  have e : vs.getD i undef = vs.toList[i]'(by rw [Array.length_toList]; exact hi2) := by
    simp [Array.getD, hi2]
  rw [e]
  exact h2

/-- Cells that were overwritten, as a list. -/
theorem overwritten {cells cells' : Array Value} {vs : List Value} {off : Nat} (h1 : cells'.size = cells.size) (h2 : ∀ j, cells'.getD j undef = if off ≤ j ∧ j < off + vs.length then vs.getD (j - off) undef else cells.getD j undef) (h3 : off + vs.length ≤ cells.size) :
    cells'.toList = cells.toList.take off ++ (vs ++ cells.toList.drop (off + vs.length)) := by
  apply List.ext_getElem?
  intro j
  have hgd : ∀ (c : Array Value) (j : Nat), j < c.size → c.toList[j]? = some (c.getD j undef) := fun c j hj => by
    rw [Array.getElem?_toList, Array.getElem?_eq_getElem hj]
    simp [Array.getD, hj]
  by_cases hj : j < cells.size
  · rw [hgd cells' j (by omega), h2]
    by_cases c1 : j < off
    · rw [if_neg (by omega), List.getElem?_append_left (by simp; omega), List.getElem?_take_of_lt c1, hgd cells j hj]
    · rw [List.getElem?_append_right (by simp; omega)]
      have hl : (cells.toList.take off).length = off := by simp; omega
      rw [hl]
      by_cases c2 : j < off + vs.length
      · rw [if_pos (by omega), List.getElem?_append_left (by omega), List.getD_eq_getElem?_getD, List.getElem?_eq_getElem (by omega)]
        rfl
      · rw [if_neg (by omega), List.getElem?_append_right (by omega), List.getElem?_drop, hgd cells _ (by omega)]
        congr 2
        omega
  · rw [List.getElem?_eq_none (by simp; omega), List.getElem?_eq_none (by simp; omega)]


/-- What is filled in keeps its rights. -/
theorem fill_okM {place : Nat → Option (Nat × Nat)} {A : Prop} : ∀ (parts : List (Nat × Value)) (ps : List (Nat × Nat)) (xs : List V) (cs cs' : List V) (cells : Array Value), PCells (fun x v => R w G φ x v ∧ (A → Tail1 w G x v)) cs cells → (parts.map fun p => place p.1) = ps.map some →
    All2 (fun x v => R w G φ x v ∧ (A → Tail w G x v)) xs (parts.map (·.2)) → fillPM cs ps xs = some cs' →
    ∃ cells', Instr.fill place cells parts = some cells' ∧ PCells (fun x v => R w G φ x v ∧ (A → Tail1 w G x v)) cs' cells' ∧ ∀ b, sumTk (cs'.zip cells'.toList) b ≤ sumTk (cs.zip cells.toList) b + vtk xs (parts.map (·.2)) b := by
  intro parts
  induction parts with
  | nil =>
    intro ps xs cs cs' cells h hp hx hf
    cases ps with
    | cons => simp at hp
    | nil =>
      cases hx
      simp only [fillPM] at hf
      injection hf with hf; subst hf
      exact ⟨cells, rfl, h, fun b => Nat.le_add_right _ _⟩
  | cons p parts ih =>
    intro ps xs cs cs' cells h hp hx hf
    obtain ⟨i, v⟩ := p
    cases ps with
    | nil => simp at hp
    | cons q ps =>
      obtain ⟨off, sz⟩ := q
      cases hx with
      | cons hh ht =>
        rename_i x xs
        simp only [fillPM] at hf
        split at hf <;> first | (cases hf; done) | skip
        rename_i hb
        obtain ⟨b1, b2, b3⟩ := hb
        simp only [List.map_cons, List.cons.injEq] at hp
        have hc := cells_solid hh.1 b3
        have hnt : ∀ vs, x ≠ .tup vs := by rintro vs rfl; simp [solid] at b3
        have hlv : leaves x v = x.cells.zip v.cells.toList := leaves_of_not_tup hnt
        simp only at hc
        have hvs : v.cells.size = sz := by rw [hc.1, b1]
        have hvl : v.cells.toList.length = sz := by rw [Array.length_toList, hvs]
        have hcl : cells.size = cs.length := h.1
        simp only [Instr.fill, hp.1]
        rw [if_neg (by rw [hvs, hcl]; simp; omega)]
        obtain ⟨f1, f2⟩ := foldl_put v.cells.toList off 0 cells (by rw [Array.length_toList, hvs, hcl]; omega)
        have e' : (v.cells.zipIdx.foldl (fun cs x => match x with | (c, j) => cs.setIfInBounds (off + j) c) cells) = (v.cells.toList.zipIdx 0).foldl (fun (cs : Array Value) (x : Value × Nat) => cs.setIfInBounds (off + x.2) x.1) cells := by
          rw [← Array.foldl_toList, Array.toList_zipIdx]
        rw [e']
        generalize hc1 : (v.cells.toList.zipIdx 0).foldl (fun (cs : Array Value) (x : Value × Nat) => cs.setIfInBounds (off + x.2) x.1) cells = cells1 at f1 f2
        have hov := overwritten (vs := v.cells.toList) (off := off) f1 (fun j => by rw [f2]; simp only [Nat.add_zero]) (by rw [hvl, hcl]; omega)
        have hz : PCells (fun x v => R w G φ x v ∧ (A → Tail1 w G x v)) (cs.take off ++ x.cells ++ cs.drop (off + sz)) cells1 := by
          refine ⟨by rw [f1, hcl]; simp only [List.length_append, List.length_take, List.length_drop, b1]; omega, fun j hj => ?_⟩
          rw [f2]
          simp only [List.length_append, List.length_take, List.length_drop, b1] at hj
          simp only [Nat.add_zero]
          rw [hvl]
          have e2 : ∀ k, v.cells.toList.getD k undef = v.cells.getD k undef := fun k => by
            rw [List.getD_eq_getElem?_getD, Array.getElem?_toList]
            by_cases hk : k < v.cells.size
            · simp [Array.getD, hk]
            · simp [Array.getD, hk]
          by_cases c : off ≤ j ∧ j < off + sz
          · rw [if_pos c, e2]
            have e : (cs.take off ++ x.cells ++ cs.drop (off + sz))[j]'(by simp only [List.length_append, List.length_take, List.length_drop, b1]; omega) = x.cells[j - off]'(by omega) := by
              rw [List.getElem_append_left (by simp only [List.length_append, List.length_take, b1]; omega), List.getElem_append_right (by simp only [List.length_take]; omega)]
              congr 1
              simp only [List.length_take]; omega
            rw [e]
            refine ⟨hc.2 (j - off) (by omega), fun hA => hh.2 hA (x.cells[j - off]'(by omega), v.cells.getD (j - off) undef) ?_⟩
            rw [hlv]
            refine List.mem_iff_getElem.2 ⟨j - off, by rw [List.length_zip]; simp only [Array.length_toList]; omega, ?_⟩
            rw [List.getElem_zip]
            have : j - off < v.cells.size := by omega
            simp [Array.getD, this]
          · rw [if_neg c]
            by_cases c1 : j < off
            · have e : (cs.take off ++ x.cells ++ cs.drop (off + sz))[j]'(by simp only [List.length_append, List.length_take, List.length_drop, b1]; omega) = cs[j]'(by omega) := by
                rw [List.getElem_append_left (by simp only [List.length_append, List.length_take, b1]; omega), List.getElem_append_left (by simp only [List.length_take]; omega), List.getElem_take]
              rw [e]
              exact h.2 j (by omega)
            · have e : (cs.take off ++ x.cells ++ cs.drop (off + sz))[j]'(by simp only [List.length_append, List.length_take, List.length_drop, b1]; omega) = cs[j]'(by omega) := by
                rw [List.getElem_append_right (by simp only [List.length_append, List.length_take, b1]; omega), List.getElem_drop]
                congr 1
                simp only [List.length_append, List.length_take, b1]; omega
              rw [e]
              exact h.2 j (by omega)
        obtain ⟨cells', r1, r2, r3⟩ := ih ps xs _ cs' cells1 hz hp.2 ht hf
        refine ⟨cells', r1, r2, fun b => ?_⟩
        have h3 := r3 b
        have hvt : vtk (x :: xs) (v :: parts.map (·.2)) b = tk x v b + vtk xs (parts.map (·.2)) b := by simp [vtk]
        have htx : tk x v b = sumTk (x.cells.zip v.cells.toList) b := by unfold tk; rw [hlv]
        rw [hov, hvl] at h3
        have z1 : sumTk ((cs.take off ++ x.cells ++ cs.drop (off + sz)).zip (cells.toList.take off ++ (v.cells.toList ++ cells.toList.drop (off + sz)))) b = sumTk ((cs.take off).zip (cells.toList.take off)) b + (sumTk (x.cells.zip v.cells.toList) b + sumTk ((cs.drop (off + sz)).zip (cells.toList.drop (off + sz))) b) := by
          rw [List.append_assoc, List.zip_append (by simp only [List.length_take, Array.length_toList]; omega), sumTk_append, List.zip_append (by omega), sumTk_append]
        have z2 : sumTk ((cs.take off).zip (cells.toList.take off)) b + sumTk ((cs.drop off).zip (cells.toList.drop off)) b = sumTk (cs.zip cells.toList) b := by
          rw [← sumTk_append, ← List.zip_append (by simp only [List.length_take, Array.length_toList]; omega), List.take_append_drop, List.take_append_drop]
        have z3 : sumTk ((cs.drop (off + sz)).zip (cells.toList.drop (off + sz))) b ≤ sumTk ((cs.drop off).zip (cells.toList.drop off)) b := by
          have z4 : sumTk (((cs.drop off).take sz).zip ((cells.toList.drop off).take sz)) b + sumTk (((cs.drop off).drop sz).zip ((cells.toList.drop off).drop sz)) b = sumTk ((cs.drop off).zip (cells.toList.drop off)) b := by
            rw [← sumTk_append, ← List.zip_append (by simp only [List.length_take, List.length_drop, Array.length_toList]; omega), List.take_append_drop, List.take_append_drop]
          rw [List.drop_drop, List.drop_drop] at z4
          omega
        simp only [List.map_cons]
        rw [hvt, htx]
        rw [z1] at h3
        omega

end
end Go.Proofs.Ytnodepfoahmcmaa.E

/- The engine, part L: built structs, equality, function values; all of 'pf'. Conditions: none. -/
namespace Go.Proofs.Ytnodepfoahmcmaa.E
set_option linter.unusedVariables false
set_option linter.unusedSimpArgs false

section
variable {P : Program} {w : World} {G : Nat → Nat} {φ : Nat → Option Nat} {ρ : Operand → Value} {o : Oper} {y : V} {xs : List V}

theorem places_some {P : Program} : ∀ (fs : List Field), (∀ f ∈ fs, (P.info? f.type).isSome = true) → ∃ places : List (Nat × Nat), fs.mapM (fun f => (P.info? f.type).map fun i => (f.offset, i.size)) = some places ∧ ∀ (i : Nat) (f : Field), fs[i]? = some f → ∃ j : TypeInfo, P.info? f.type = some j ∧ places[i]? = some (f.offset, j.size)
  | [], _ => ⟨[], by simp, by simp⟩
  | f :: fs, h => by
    obtain ⟨places, h1, h2⟩ := places_some fs fun g hg => h g (by simp [hg])
    obtain ⟨j, hj⟩ := Option.isSome_iff_exists.1 (h f (by simp))
    refine ⟨(f.offset, j.size) :: places, by simp [List.mapM_cons, hj, h1], fun i g hg => ?_⟩
    cases i with
    | zero => simp at hg; subst hg; exact ⟨j, hj, rfl⟩
    | succ i => exact h2 i g (by simpa using hg)

theorem partsIs_spec {fs : Array Field} {places : List (Nat × Nat)} (hpl : ∀ (i : Nat) (f : Field), fs.toList[i]? = some f → ∃ j : TypeInfo, P.info? f.type = some j ∧ places[i]? = some (f.offset, j.size)) (ρ : Operand → Value) : ∀ (ps : List (Nat × Operand)) (parts : List (Nat × Nat)), partsIs P fs ps parts = true →
    ((ps.map fun p => (p.1, ρ p.2)).map fun p => places.toArray[p.1]?) = parts.map some
  | [], [], _ => rfl
  | [], _ :: _, h => by simp [partsIs] at h
  | _ :: _, [], h => by simp [partsIs] at h
  | (i, x) :: ps, (off, sz) :: parts, h => by
    simp only [partsIs, Bool.and_eq_true] at h
    obtain ⟨h1, h2⟩ := h
    split at h1 <;> first | (cases h1; done) | skip
    rename_i f hf
    rw [Bool.and_eq_true, beq_iff_eq] at h1
    obtain ⟨j, hj, hp⟩ := hpl i f (by simpa using hf)
    have hs : j.size = sz := by
      have := h1.2
      unfold szIs at this
      rw [hj] at this
      simpa using this
    simp only [List.map_cons]
    rw [partsIs_spec hpl ρ ps parts h2, List.getElem?_toArray, hp, h1.1, hs]

theorem R0_agg {cs : List V} {vs : Array Value} (h : PCells (R0 w G φ) cs vs) {xs : List V} {us : List Value} : Res w G φ xs us (.agg cs) (.agg vs) := by
  have key : ∀ p ∈ leaves (.agg cs) (.agg vs), (∀ b, tk1 p.1 p.2 b = 0) ∧ Tail1 w G p.1 p.2 := by
    intro p hp
    rw [leaves_of_not_tup (by intro vs h; cases h)] at hp
    obtain ⟨i, hi, rfl⟩ := List.mem_iff_getElem.1 hp
    rw [List.length_zip] at hi
    simp only [V.cells, Value.cells, Array.length_toList] at hi
    rw [List.getElem_zip]
    have := h.2 i (by omega)
    have e : vs.getD i undef = vs.toList[i]'(by rw [Array.length_toList]; omega) := by
      have : i < vs.size := by omega
      simp [Array.getD, this]
    rw [e] at this
    exact this.2
  exact ⟨.agg _ _ _ h.1 fun i hi => (h.2 i hi).1, fun b => by
    have : tk (.agg cs) (.agg vs) b = 0 := sumTk_zero fun p hp => (key p hp).1 b
    rw [this]; exact Nat.zero_le _, fun _ p hp => (key p hp).2⟩

theorem ok_build {zero : List V} {parts : List (Nat × Nat)} (hk : okPK P o.op (.build zero parts) = true) (hx : All2 (R w G φ) xs ((opArgs o.op).map ρ)) (hy : pf (.build zero parts) xs = some y) : Does P w G φ ρ o xs y := by
  cases hop : o.op <;> rw [hop] at hk <;> first | (cases hk; done) | skip
  rename_i t ps
  rw [hop] at hx
  simp only [okPK, Bool.and_eq_true] at hk
  obtain ⟨hk1, hk2⟩ := hk
  split at hk1 <;> first | (cases hk1; done) | skip
  rename_i fs hu
  rw [Bool.and_eq_true, Array.all_eq_true'] at hk1
  simp only [pf] at hy
  obtain ⟨cs', hf, rfl⟩ := Option.map_eq_some_iff.1 hy
  unfold zeroIs at hk2
  split at hk2 <;> first | (cases hk2; done) | skip
  rename_i it hit
  split at hk2 <;> first | (cases hk2; done) | skip
  rename_i z hz
  obtain ⟨places, hpl, hpl2⟩ := places_some (P := P) fs.toList fun f hf => hk1.2 f (by simpa using hf)
  have hps := partsIs_spec hpl2 ρ ps.toList parts hk1.1
  simp only [opArgs] at hx
  have hx' : All2 (R w G φ) xs ((ps.toList.map fun p => (p.1, ρ p.2)).map (·.2)) := by
    rw [List.map_map] at hx ⊢
    exact hx
  obtain ⟨cells', h1, h2⟩ := fill_ok (ps.toList.map fun p => (p.1, ρ p.2)) parts xs zero cs' z.cells (okCL_cells hk2) hps hx' hf
  have hb : P.built t (ps.map fun x => match x with | (i, x) => (i, ρ x)).toList = some cells' := by
    unfold Program.built
    rw [hit, hu]
    simp only [hz, hpl]
    rw [← h1]
    congr 1
    simp
  refine does_v (s := Instr.build t (ps.map fun x => match x with | (i, x) => (i, ρ x))) (by unfold execOp; rw [hop]) (run_build w t _ cells' hb) (R0_agg h2)

theorem PCells.sum0 {cs : List V} {cells : Array Value} (h : PCells (R0 w G φ) cs cells) (b : Nat) : sumTk (cs.zip cells.toList) b = 0 := sumTk_zero fun p hp => by
  obtain ⟨i, hi, rfl⟩ := List.mem_iff_getElem.1 hp
  rw [List.length_zip] at hi
  have hl : cells.size = cs.length := h.1
  rw [List.getElem_zip]
  have := (h.2 i (by omega)).2.1 b
  have e : cells.getD i undef = cells.toList[i]'(by rw [Array.length_toList]; omega) := by
    have : i < cells.size := by omega
    simp [Array.getD, this]
  rw [e] at this
  exact this
theorem all2_with {p : V → Value → Prop} {A : Prop} {t : V → Value → Prop} : ∀ {xs : List V} {vs : List Value}, All2 p xs vs → (A → ∀ q ∈ xs.zip vs, t q.1 q.2) → All2 (fun x v => p x v ∧ (A → t x v)) xs vs
  | _, _, .nil, _ => .nil
  | _, _, .cons h t, k => .cons ⟨h, fun a => k a (_, _) (by simp)⟩ (all2_with t fun a q hq => k a q (by simp [hq]))
theorem ok_buildM {zero : List V} {parts : List (Nat × Nat)} (hk : okPK P o.op (.buildM zero parts) = true) (hx : All2 (R w G φ) xs ((opArgs o.op).map ρ)) (hy : pf (.buildM zero parts) xs = some y) : Does P w G φ ρ o xs y := by
  cases hop : o.op <;> rw [hop] at hk <;> first | (cases hk; done) | skip
  rename_i t ps
  rw [hop] at hx
  simp only [okPK, Bool.and_eq_true] at hk
  obtain ⟨hk1, hk2⟩ := hk
  split at hk1 <;> first | (cases hk1; done) | skip
  rename_i fs hu
  rw [Bool.and_eq_true, Array.all_eq_true'] at hk1
  simp only [pf] at hy
  obtain ⟨cs', hf, rfl⟩ := Option.map_eq_some_iff.1 hy
  unfold zeroIs at hk2
  split at hk2 <;> first | (cases hk2; done) | skip
  rename_i it hit
  split at hk2 <;> first | (cases hk2; done) | skip
  rename_i z hz
  obtain ⟨places, hpl, hpl2⟩ := places_some (P := P) fs.toList fun f hf => hk1.2 f (by simpa using hf)
  have hps := partsIs_spec hpl2 ρ ps.toList parts hk1.1
  simp only [opArgs] at hx
  have hz0 : PCells (R0 w G φ) zero z.cells := okCL_cells hk2
  have hmap : (ps.toList.map fun p => (p.1, ρ p.2)).map (·.2) = (ps.toList.map (·.2)).map ρ := by simp [List.map_map]
  have hx' : All2 (fun x v => R w G φ x v ∧ ((∀ p ∈ xs.zip ((ps.toList.map (·.2)).map ρ), Tail w G p.1 p.2) → Tail w G x v)) xs ((ps.toList.map fun p => (p.1, ρ p.2)).map (·.2)) := by
    rw [hmap]
    exact all2_with hx fun a q hq => a q hq
  obtain ⟨cells', h1, h2, h3⟩ := fill_okM (ps.toList.map fun p => (p.1, ρ p.2)) parts xs zero cs' z.cells ⟨hz0.1, fun i hi => ⟨(hz0.2 i hi).1, fun _ => (hz0.2 i hi).2.2⟩⟩ hps hx' hf
  have hb : P.built t (ps.map fun x => match x with | (i, x) => (i, ρ x)).toList = some cells' := by
    unfold Program.built
    rw [hit, hu]
    simp only [hz, hpl]
    rw [← h1]
    congr 1
    simp
  refine ⟨.agg cells', ?_, ⟨.agg _ _ _ h2.1 fun i hi => (h2.2 i hi).1, fun b => ?_, fun ht p hp => ?_⟩⟩
  · unfold execOp
    rw [hop]
    exact exec_v (run_build w t _ cells' hb)
  · have := h3 b
    rw [hz0.sum0, Nat.zero_add, hmap] at this
    rw [hop]
    exact this
  · rw [leaves_of_not_tup (by intro vs h; cases h)] at hp
    obtain ⟨i, hi, rfl⟩ := List.mem_iff_getElem.1 hp
    rw [List.length_zip] at hi
    simp only [V.cells, Value.cells, Array.length_toList] at hi
    rw [List.getElem_zip]
    have hl : cells'.size = cs'.length := h2.1
    have := (h2.2 i (by omega)).2 (by rw [hop] at ht; exact ht)
    have e : cells'.getD i undef = cells'.toList[i]'(by rw [Array.length_toList]; omega) := by
      have : i < cells'.size := by omega
      simp [Array.getD, this]
    rw [e] at this
    exact this

theorem ok_mkfn {f : FuncId} (hk : okPK P o.op (.mkfn f) = true) (hx : All2 (R w G φ) xs ((opArgs o.op).map ρ)) (hy : pf (.mkfn f) xs = some y) : Does P w G φ ρ o xs y := by
  cases hop : o.op <;> rw [hop] at hk <;> first | (cases hk; done) | skip
  rename_i fn first cap
  rw [hop] at hx
  cases fn <;> first | (cases hk; done) | skip
  rename_i g
  simp only [okPK, Bool.and_eq_true, beq_iff_eq] at hk
  obtain ⟨rfl, hk⟩ := hk
  have hfirst : first = #[] := by simpa using hk
  subst hfirst
  simp only [pf] at hy
  injection hy with hy; subst hy
  simp only [opArgs] at hx
  have hl : cap.size = xs.length := by
    have h1 := hx.length
    rw [List.length_map] at h1
    simpa using h1.symm
  refine does_v (s := Instr.makeFunc (.func f) ((#[] : Array Operand).map ρ) (cap.map ρ)) (by unfold execOp; rw [hop]) (v := .func (.func f) #[] (cap.map ρ)) (by simp [Instr.makeFunc]) (Res.plain (.fn _ _ _ _ (by rw [Array.size_map]; exact hl) fun i hi => ?_) rfl)
  have := hx.get i hi (by rw [List.length_map, Array.length_toList]; omega)
  have e : (cap.map ρ).getD i undef = (cap.toList.map ρ)[i]'(by rw [List.length_map, Array.length_toList]; omega) := by
    have : i < cap.size := by omega
    simp [Array.getD, this]
  rw [e]
  exact this

theorem ok_mkif {t : TypeId} (hk : okPK P o.op (.mkif t) = true) (hx : All2 (R w G φ) xs ((opArgs o.op).map ρ)) (hy : pf (.mkif t) xs = some y) : Does P w G φ ρ o xs y := by
  cases hop : o.op <;> rw [hop] at hk <;> first | (cases hk; done) | skip
  rename_i t' a
  rw [hop] at hx
  simp only [okPK, Bool.and_eq_true, beq_iff_eq] at hk
  obtain ⟨rfl, hk⟩ := hk
  simp only [pf] at hy
  split at hy <;> first | (cases hy; done) | skip
  injection hy with hy; subst hy
  obtain ⟨v, hv, h1⟩ := all2_1 hx
  simp only [opArgs, List.map_cons, List.map_nil, List.cons.injEq, and_true] at hv
  refine does_v (s := Instr.makeInterface t (ρ a)) (by unfold execOp; rw [hop]) (v := .iface t v) ?_ (Res.plain (.iface _ _ _ _ h1) rfl)
  rw [hv]
  cases hd : P.underlying t with
  | none => rw [hd] at hk; cases hk
  | some d =>
    rw [hd] at hk
    cases d <;> first | (simp at hk; done) | (simp [Instr.makeInterface, run_underlying hd])

/-- Bytes that a row holds. -/
theorem bytesOf_get : ∀ (l : List V) (bs : List UInt8), bytesOf l = some bs → l.length = bs.length ∧ ∀ i (h : i < l.length), ∃ n : Int, l[i] = .int .u8 n ∧ bs[i]? = some (UInt8.ofNat n.toNat)
  | [], bs, h => by simp only [bytesOf] at h; injection h with h; subst h; exact ⟨rfl, fun i hi => absurd hi (by simp)⟩
  | x :: l, bs, h => by
    unfold bytesOf at h
    split at h
    · rename_i hh; cases hh
    · rename_i n r hh
      injection hh with e1 e2; subst e1; subst e2
      obtain ⟨q, hq, rfl⟩ := Option.map_eq_some_iff.1 h
      obtain ⟨h1, h2⟩ := bytesOf_get l q hq
      refine ⟨by simp [h1], fun i hi => ?_⟩
      cases i with
      | zero => exact ⟨n, rfl, rfl⟩
      | succ i => obtain ⟨m, a, b⟩ := h2 i (by simpa using hi); exact ⟨m, a, by simpa using b⟩
    · cases h

theorem intIs_spec {t : TypeId} {k : IntKind} (h : intIs P t k = true) : P.underlying t = some (.int k) := by
  unfold intIs at h
  split at h <;> first | (cases h; done) | skip
  rename_i k' hu
  have : k = k' := by simpa using h
  rw [this]; exact hu

theorem foldl_push (bs : List UInt8) : ∀ acc : ByteArray, (bs.foldl (fun r n => r.push n) acc).data.toList = acc.data.toList ++ bs := by
  induction bs with
  | nil => simp
  | cons b bs ih => intro acc; rw [List.foldl_cons, ih]; simp [ByteArray.push]

theorem ok_b2s (hk : okPK P o.op .b2s = true) (hx : All2 (R w G φ) xs ((opArgs o.op).map ρ)) (hy : pf .b2s xs = some y) : Does P w G φ ρ o xs y := by
  cases hop : o.op <;> rw [hop] at hk <;> first | (cases hk; done) | skip
  rename_i s d a
  rw [hop] at hx
  simp only [okPK, Bool.and_eq_true] at hk
  obtain ⟨hk1, hk2⟩ := hk
  have hd := strIs_spec hk2
  split at hk1 <;> first | (cases hk1; done) | skip
  rename_i e hu
  have he := intIs_spec hk1
  simp only [pf] at hy
  split at hy <;> first | (cases hy; done) | skip
  rename_i own sz l
  split at hy <;> first | (cases hy; done) | skip
  rename_i hsz
  subst hsz
  obtain ⟨bs, hb, rfl⟩ := Option.map_eq_some_iff.1 hy
  obtain ⟨v, hv, h1⟩ := all2_1 hx
  simp only [opArgs, List.map_cons, List.map_nil, List.cons.injEq, and_true] at hv
  have fin : ∀ (st : ByteArray), (convert s d v).run P w = .ok (.string st) w → st.data.toList = bs → Does P w G φ ρ o [.sl own 1 l] (.str bs) := fun st h1 h2 => by
    subst h2
    exact does_v (s := convert s d (ρ a)) (by unfold execOp; rw [hop]) (by rw [hv]; exact h1) (Res.plain (.str _ _) rfl)
  cases h1 with
  | slNil _ _ _ aa cap =>
    simp only [bytesOf] at hb
    injection hb with hb; subst hb
    refine fin .empty ?_ rfl
    rw [run_convert_bytes_string w s d e aa 0 cap hu he hd]
    cases aa with
    | none => simp [Conv.bytesToString]
    | some ad =>
      rw [run_bytesToString w ad 0 cap [] (by simp [loadCells, loadCellsFrom])]
      rfl
  | sl _ _ _ _ blk off cap f hcap hc hone hz hr hg =>
    obtain ⟨hl, hget⟩ := bytesOf_get l bs hb
    have hf : ∀ i, i < l.length → ∃ n : Int, f i 0 = .int .u8 n ∧ bs[i]? = some (UInt8.ofNat n.toNat) := fun i hi => by
      obtain ⟨n, e1, e2⟩ := hget i hi
      have := hr i 0 hi (by rw [hz i hi]; exact Nat.one_pos)
      simp only [e1, V.cells, List.getElem_cons_zero] at this
      cases hh : f i 0 <;> rw [hh] at this <;> cases this
      exact ⟨n, rfl, e2⟩
    have hns : ∃ ns : List Int, ns.length = l.length ∧ (∀ i, i < l.length → f i 0 = .int .u8 (ns.getD i 0)) ∧ ns.map (fun n => UInt8.ofNat n.toNat) = bs := by
      refine ⟨(List.range l.length).map fun i => (match f i 0 with | .int _ n => n | _ => 0), by simp, fun i hi => ?_, ?_⟩
      · obtain ⟨n, e1, e2⟩ := hf i hi
        have : ((List.range l.length).map fun i => (match f i 0 with | .int _ n => n | _ => 0)).getD i 0 = n := by
          rw [List.getD_eq_getElem?_getD, List.getElem?_map, List.getElem?_range hi]
          simp [e1]
        rw [this, e1]
      · apply List.ext_getElem?
        intro i
        by_cases hi : i < l.length
        · obtain ⟨n, e1, e2⟩ := hf i hi
          rw [e2, List.getElem?_map, List.getElem?_map, List.getElem?_range hi]
          simp [e1]
        · rw [List.getElem?_eq_none (by simp; omega), List.getElem?_eq_none (by omega)]
    obtain ⟨ns, n1, n2, n3⟩ := hns
    refine fin (ns.foldl (fun r n => r.push (UInt8.ofNat n.toNat)) ByteArray.empty) ?_ ?_
    · rw [run_convert_bytes_string w s d e _ _ cap hu he hd]
      refine run_bytesToString w _ l.length cap ns ?_
      rw [run_loadCells w ⟨blk, off, none⟩ l.length (fun i => f i 0) (fun j hj => by rw [add_none]; have := hc j 0 hj Nat.one_pos; simpa using this)]
      congr 2
      apply List.ext_getElem?
      intro i
      by_cases hi : i < l.length
      · rw [List.getElem?_map, List.getElem?_map, List.getElem?_range hi, List.getElem?_eq_getElem (by omega)]
        simp only [Option.map_some]
        rw [n2 i hi, List.getD_eq_getElem?_getD, List.getElem?_eq_getElem (by omega)]
        rfl
      · rw [List.getElem?_eq_none (by simp; omega), List.getElem?_eq_none (by simp; omega)]
    · have := foldl_push bs .empty
      rw [← n3, List.foldl_map] at this
      rw [this, n3]
      rfl

end
end Go.Proofs.Ytnodepfoahmcmaa.E

/- The engine, part M: equality of structs; the operations that only compute, all of them. Conditions: none. -/
namespace Go.Proofs.Ytnodepfoahmcmaa.E
set_option linter.unusedVariables false
set_option linter.unusedSimpArgs false

section
variable {P : Program} {w : World} {G : Nat → Nat} {φ : Nat → Option Nat} {ρ : Operand → Value} {o : Oper} {y : V} {xs : List V}

theorem eqL_append : ∀ (k1 k2 : List Nat) (x y : List V) (r : Bool), eqL (k1 ++ k2) x y = some r → ∃ r1 r2, eqL k1 (x.take k1.length) (y.take k1.length) = some r1 ∧ eqL k2 (x.drop k1.length) (y.drop k1.length) = some r2 ∧ r = (r1 && r2) ∧ k1.length ≤ x.length ∧ k1.length ≤ y.length
  | [], k2, x, y, r, h => ⟨true, r, by simp [eqL], by simpa using h, by simp, Nat.zero_le _, Nat.zero_le _⟩
  | k :: k1, k2, x, y, r, h => by
    cases x with
    | nil => simp [eqL] at h
    | cons a x =>
      cases y with
      | nil => simp [eqL] at h
      | cons b y =>
        simp only [List.cons_append, eqL] at h
        obtain ⟨q, h1, h⟩ := Option.bind_eq_some_iff.1 h
        obtain ⟨s, h2, rfl⟩ := Option.map_eq_some_iff.1 h
        obtain ⟨r1, r2, e1, e2, rfl, l1, l2⟩ := eqL_append k1 k2 x y s h2
        refine ⟨q && r1, r2, ?_, ?_, by rw [Bool.and_assoc], by simp; exact l1, by simp; exact l2⟩
        · simp only [List.length_cons, List.take_succ_cons, eqL, h1, Option.bind_some, e1, Option.map_some]
        · simpa using e2

/-- A value of a type, by its cells. -/
def Fits (P : Program) (w : World) (G : Nat → Nat) (φ : Nat → Option Nat) (t : TypeId) (xs : List V) (v : Value) : Prop :=
  (aggIs P t none = true ∧ ∃ c, xs = [c] ∧ R w G φ c v) ∨ (∃ fs vs, P.underlying t = some (.struct fs) ∧ v = .agg vs ∧ RCells w G φ xs vs) ∨ ∃ n e vs, P.underlying t = some (.array n e) ∧ v = .agg vs ∧ RCells w G φ xs vs

theorem Fits.basic {t : TypeId} {v : Value} (h : Fits P w G φ t xs v) {d : TypeDesc} (hd : P.underlying t = some d) (h1 : ∀ fs, d ≠ .struct fs) (h2 : ∀ n e, d ≠ .array n e) : ∃ c, xs = [c] ∧ R w G φ c v := by
  rcases h with ⟨_, h⟩ | ⟨fs, vs, hu, _⟩ | ⟨n, e, vs, hu, _⟩
  · exact h
  · rw [hd] at hu; injection hu with hu; exact absurd hu (h1 fs)
  · rw [hd] at hu; injection hu with hu; exact absurd hu (h2 n e)
theorem Fits.struct {t : TypeId} {v : Value} (h : Fits P w G φ t xs v) {fs : Array Field} (hd : P.underlying t = some (.struct fs)) : ∃ vs, v = .agg vs ∧ RCells w G φ xs vs := by
  rcases h with ⟨h, _⟩ | ⟨fs, vs, hu, h⟩ | ⟨n, e, vs, hu, _⟩
  · unfold aggIs at h; rw [hd] at h; cases h
  · exact ⟨vs, h⟩
  · rw [hd] at hu; cases hu

theorem eqFields_ok {d D : Nat} (ih : ∀ t ks, eqOk P d t = some ks → ∀ xs ys a b r, Fits P w G φ t xs a → Fits P w G φ t ys b → eqL ks xs ys = some r → (Op.equalIn D t a b).run P w = .ok r w) : ∀ (fs : List Field) (n : Nat) (ks : List Nat), eqOkF (eqOk P d) P fs n = some ks →
    ∀ (xs ys : List V) (vs us : Array Value) (r : Bool), RCells w G φ xs vs → RCells w G φ ys us → eqL ks (xs.drop n) (ys.drop n) = some r → (Op.eqFields D vs us fs).run P w = .ok r w
  | [], n, ks, h, xs, ys, vs, us, r, hx, hy, hr => by
    simp only [eqOkF] at h
    injection h with h; subst h
    have : r = true := by
      cases hxd : xs.drop n <;> cases hyd : ys.drop n <;> rw [hxd, hyd] at hr <;> simp [eqL] at hr
      exact hr
    subst this
    simp [Op.eqFields]
  | fd :: fs, n, ks, h, xs, ys, vs, us, r, hx, hy, hr => by
    simp only [eqOkF] at h
    split at h <;> first | (cases h; done) | skip
    rename_i hb
    obtain ⟨rfl, hname⟩ := hb
    obtain ⟨k1, hk1, h⟩ := Option.bind_eq_some_iff.1 h
    split at h <;> first | (cases h; done) | skip
    rename_i hag
    obtain ⟨k2, hk2, rfl⟩ := Option.map_eq_some_iff.1 h
    obtain ⟨r1, r2, e1, e2, rfl, l1, l2⟩ := eqL_append k1 k2 _ _ _ hr
    rw [List.length_drop] at l1 l2
    have fit : ∀ (zs : List V) (ws : Array Value), RCells w G φ zs ws → k1.length ≤ zs.length - fd.offset → ∃ a, (Go.part fd.type ws fd.offset).run P w = .ok a w ∧ Fits P w G φ fd.type ((zs.drop fd.offset).take k1.length) a := by
      intro zs ws hz hl
      rcases hag with ⟨hag, hlen⟩ | hag
      · have hlt : fd.offset < zs.length := by omega
        obtain ⟨a, ha, hr⟩ := run_part (off := fd.offset) (m := none) hag hz.1 hz.2 (y := zs[fd.offset]) (by simp [part, List.getElem?_eq_getElem hlt])
        refine ⟨a, ha, .inl ⟨hag, zs[fd.offset], ?_, hr⟩⟩
        rw [hlen, List.drop_eq_getElem_cons hlt]
        rfl
      · obtain ⟨hag, h0⟩ := hag
        have hle : fd.offset + k1.length ≤ zs.length := by omega
        obtain ⟨a, ha, hr⟩ := run_part (off := fd.offset) (m := some k1.length) hag hz.1 hz.2 (y := .agg ((zs.drop fd.offset).take k1.length)) (by simp [part, hle])
        refine ⟨a, ha, ?_⟩
        cases hr with | agg _ _ vs' hl' hr' =>
        unfold aggIs at hag
        split at hag
        · rename_i fs' hu; exact .inr (.inl ⟨fs', vs', hu, rfl, hl', hr'⟩)
        · rename_i n' e' hu; exact .inr (.inr ⟨n', e', vs', hu, rfl, hl', hr'⟩)
        · simp at hag
        · cases hag
    obtain ⟨a, ha, fa⟩ := fit xs vs hx l1
    obtain ⟨b, hb, fb⟩ := fit ys us hy l2
    have he := ih fd.type k1 hk1 _ _ a b r1 fa fb e1
    simp only [Op.eqFields]
    rw [if_pos hname]
    rw [Sem.run_bind, ha, Result.andThen_ok, Sem.run_bind, hb, Result.andThen_ok, Sem.run_bind, he, Result.andThen_ok]
    cases r1 with
    | false => simp
    | true =>
      simp only [Bool.not_true, Bool.false_eq_true, if_false, Bool.true_and]
      refine eqFields_ok ih fs (fd.offset + k1.length) k2 hk2 xs ys vs us r2 hx hy ?_
      rw [List.drop_drop, List.drop_drop] at e2
      exact e2

theorem eq1_0 {c c' : V} {r : Bool} (h : eq1 0 c c' = some r) : ∃ a b, c = .bool a ∧ c' = .bool b ∧ r = decide (a = b) := by
  cases c <;> cases c' <;> simp [eq1] at h
  exact ⟨_, _, rfl, rfl, by simp [h]⟩
theorem eq1_1 {c c' : V} {r : Bool} (h : eq1 1 c c' = some r) : ∃ k a b, c = .int k a ∧ c' = .int k b ∧ r = decide (a = b) := by
  cases c <;> cases c' <;> simp [eq1] at h
  obtain ⟨rfl, h⟩ := h
  exact ⟨_, _, _, rfl, rfl, by simp [h]⟩
theorem eq1_2 {c c' : V} {r : Bool} (h : eq1 2 c c' = some r) : ∃ a b, c = .str a ∧ c' = .str b ∧ r = decide (a = b) := by
  cases c <;> cases c' <;> simp [eq1] at h
  exact ⟨_, _, rfl, rfl, by simp [h]⟩

theorem equalIn_ok : ∀ (d : Nat) (t : TypeId) (ks : List Nat), eqOk P d t = some ks → ∀ (D : Nat), d ≤ D → ∀ xs ys a b r, Fits P w G φ t xs a → Fits P w G φ t ys b → eqL ks xs ys = some r → (Op.equalIn D t a b).run P w = .ok r w
  | 0, t, ks, h, _, _, _, _, _, _, _, _, _, _ => by cases h
  | d + 1, t, ks, h, D, hD, xs, ys, a, b, r, fa, fb, hr => by
    obtain ⟨D, rfl⟩ : ∃ m, D = m + 1 := ⟨D - 1, by omega⟩
    unfold eqOk at h
    have one : ∀ k (c c' : V), eqL [k] [c] [c'] = some r → eq1 k c c' = some r := fun k c c' h => by
      simp only [eqL] at h
      obtain ⟨q, h1, h⟩ := Option.bind_eq_some_iff.1 h
      simp at h
      rw [h1, h]
    split at h <;> first | (cases h; done) | skip
    · rename_i hu
      injection h with h; subst h
      obtain ⟨c, rfl, hc⟩ := fa.basic hu (by simp) (by simp)
      obtain ⟨c', rfl, hc'⟩ := fb.basic hu (by simp) (by simp)
      obtain ⟨p, q, rfl, rfl, rfl⟩ := eq1_0 (one _ _ _ hr)
      cases hc; cases hc'
      rw [run_equalIn_bool' w D t _ _ hu]
      congr 1
    · rename_i k hu
      injection h with h; subst h
      obtain ⟨c, rfl, hc⟩ := fa.basic hu (by simp) (by simp)
      obtain ⟨c', rfl, hc'⟩ := fb.basic hu (by simp) (by simp)
      obtain ⟨k', p, q, rfl, rfl, rfl⟩ := eq1_1 (one _ _ _ hr)
      cases hc; cases hc'
      rw [run_equalIn_int w D t _ k _ _ hu]
      congr 1
    · rename_i hu
      injection h with h; subst h
      obtain ⟨c, rfl, hc⟩ := fa.basic hu (by simp) (by simp)
      obtain ⟨c', rfl, hc'⟩ := fb.basic hu (by simp) (by simp)
      obtain ⟨p, q, rfl, rfl, rfl⟩ := eq1_2 (one _ _ _ hr)
      cases hc with | str _ s => cases hc' with | str _ s' =>
      rw [run_equalIn_string w D t _ _ hu, toList_eq, toList_eq]
      congr 1
      rw [Bool.eq_iff_iff, beq_iff_eq, decide_eq_true_iff]
    · rename_i fs hu
      split at h <;> first | (cases h; done) | skip
      rename_i hst
      obtain ⟨vs, rfl, hvs⟩ := fa.struct hu
      obtain ⟨us, rfl, hus⟩ := fb.struct hu
      have hf : P.fieldsOf t = fs := by unfold Program.fieldsOf; rw [hu]
      rw [run_equalIn_struct w D t vs us (by rw [hf]; exact hu) (by simpa using hst), hf]
      exact eqFields_ok (fun t ks h xs ys a b r h1 h2 h3 => equalIn_ok d t ks h D (by omega) xs ys a b r h1 h2 h3) fs.toList 0 ks h xs ys vs us r hvs hus (by simpa using hr)

theorem boolIs_spec {t : TypeId} (h : boolIs P t = true) : P.underlying t = some .bool := by
  unfold boolIs at h
  split at h
  · assumption
  · cases h

theorem ok_eq {neg ag : Bool} {ks : List Nat} (hk : okPK P o.op (.eq neg ag ks) = true) (hx : All2 (R w G φ) xs ((opArgs o.op).map ρ)) (hy : pf (.eq neg ag ks) xs = some y) : Does P w G φ ρ o xs y := by
  cases hop : o.op <;> rw [hop] at hk <;> first | (cases hk; done) | skip
  rename_i op' t a b t2
  rw [hop] at hx
  simp only [okPK, Bool.and_eq_true] at hk
  obtain ⟨⟨hk1, hk2⟩, hk3⟩ := hk
  have hop' := beq_BinOp hk1
  subst hop'
  have hk2' : eqOk P 20 t = some ks := by simpa using hk2
  simp only [pf] at hy
  split at hy <;> first | (cases hy; done) | skip
  rename_i c c'
  obtain ⟨r, hr, rfl⟩ := Option.map_eq_some_iff.1 hy
  obtain ⟨v1, v2, hv, r1, r2⟩ := all2_2 hx
  simp only [opArgs, List.map_cons, List.map_nil, List.cons.injEq, and_true] at hv
  cases ag with
  | false =>
    have hu := boolIs_spec (by simpa using hk3)
    have : ks = [0] := by
      unfold eqOk at hk2'
      rw [hu] at hk2'
      simpa using hk2'.symm
    subst this
    simp only [eqV] at hr
    obtain ⟨p, q, rfl, rfl, rfl⟩ := eq1_0 hr
    cases r1; cases r2
    cases neg
    · refine does_bin hop hv.1 hv.2 (guard_bool ..) (v := .bool (decide (p = q))) ?_ (.bool _ _) rfl
      rw [if_neg (by simp), run_eql_bool w t p q hu]
      congr 2
    · refine does_bin hop hv.1 hv.2 (guard_bool ..) (v := .bool (!decide (p = q))) ?_ (.bool _ _) rfl
      rw [if_pos rfl, run_neq_bool w t p q hu]
      congr 2
  | true =>
    simp only [if_true, Bool.and_eq_true] at hk3
    obtain ⟨hst, hgd⟩ := hk3
    split at hst <;> first | (cases hst; done) | skip
    rename_i fs hu
    unfold eqV at hr
    split at hr <;> first | (cases hr; done) | skip
    · rename_i ks' x y' _
      cases r1 with | agg _ _ vs hl hr1 =>
      cases r2 with | agg _ _ us hl' hr2 =>
      have he := equalIn_ok (P := P) (w := w) (G := G) (φ := φ) 20 t _ hk2' 10000 (by omega) x y' (.agg vs) (.agg us) r (.inr (.inl ⟨fs, vs, hu, rfl, hl, hr1⟩)) (.inr (.inl ⟨fs, us, hu, rfl, hl', hr2⟩)) hr
      have hg := fun op => run_eqGuard_agg (P := P) w op t a b vs us (by simpa using hgd)
      cases neg
      · refine does_bin hop hv.1 hv.2 (hg _) (v := .bool r) ?_ (.bool _ _) rfl
        rw [if_neg (by simp), run_eql_struct, he]
        rfl
      · refine does_bin hop hv.1 hv.2 (hg _) (v := .bool (!r)) ?_ (.bool _ _) rfl
        rw [if_pos rfl, run_neq_struct, he]
        rfl
    all_goals (rename_i hh; cases hh)

/-- What an operation that only computes does in the machine. -/
theorem pf_ok {f : PK} (hk : okPK P o.op f = true) (hx : All2 (R w G φ) xs ((opArgs o.op).map ρ)) (hy : pf f xs = some y) : Does P w G φ ρ o xs y := by
  cases f with
  | mv => exact ok_mv hk hx hy
  | same => exact ok_same hk hx hy
  | pick => exact ok_pick hk hx hy
  | ar op => exact ok_ar hk hx hy
  | arw op => exact ok_arw hk hx hy
  | dv op => exact ok_dv hk hx hy
  | bits op => exact ok_bits hk hx hy
  | sh op => exact ok_sh hk hx hy
  | cmp op => exact ok_cmp hk hx hy
  | sadd => exact ok_sadd hk hx hy
  | scmp op => exact ok_scmp hk hx hy
  | eq neg ag ks => exact ok_eq hk hx hy
  | not => exact ok_not hk hx hy
  | neg => exact ok_neg hk hx hy
  | len s => exact ok_len hk hx hy
  | min => exact ok_min hk hx hy
  | max => exact ok_max hk hx hy
  | conv k => exact ok_conv hk hx hy
  | b2s => exact ok_b2s hk hx hy
  | sidx => exact ok_sidx hk hx hy
  | faddr off => exact ok_faddr hk hx hy
  | field off n => exact ok_field hk hx hy
  | iaddr sz => exact ok_iaddr hk hx hy
  | aaddr sz n => exact ok_aaddr hk hx hy
  | aidx sz n m => exact ok_aidx hk hx hy
  | loadF n => exact ok_loadF hk hx hy
  | nilck => exact ok_nilck hk hx hy
  | isnil neg => exact ok_isnil hk hx hy
  | isnili neg => exact ok_isnili hk hx hy
  | ssub lo hi => exact ok_ssub hk hx hy
  | sub sz lo hi mx => exact ok_sub hk hx hy
  | build zero parts => exact ok_build hk hx hy
  | buildM zero parts => exact ok_buildM hk hx hy
  | mkfn f => exact ok_mkfn hk hx hy
  | mkif t => exact ok_mkif hk hx hy

end
end Go.Proofs.Ytnodepfoahmcmaa.E

/- The engine, part N: rows that are made, or grown at their end, and never written again. Conditions: none. -/
namespace Go.Proofs.Ytnodepfoahmcmaa.E
set_option linter.unusedVariables false
set_option linter.unusedSimpArgs false

/-- What making something does. -/
structure Mk (w : World) (G : Nat → Nat) (φ : Nat → Option Nat) (xs : List V) (vs : List Value) (y : V) (w' : World) (G' : Nat → Nat) (v : Value) : Prop where
  ext : Ext w G w' G'
  r : R w' G' φ y v
  tail : Tail w' G' y v
  tk : ∀ b, tk y v b ≤ vtk xs vs b + (if w.heap.size ≤ b then 1 else 0)
  same : ∀ b, b < w.heap.size → vtk xs vs b = 0 → w'.heap[b]? = w.heap[b]? ∧ G' b = G b
  zero : ∀ b, w'.heap.size ≤ b → G' b = 0

section
variable {P : Program} {w : World} {G : Nat → Nat} {φ : Nat → Option Nat} {ρ : Operand → Value} {o : Oper} {y : V} {xs : List V}

theorem leaves_sl (own : Bool) (sz : Nat) (l : List V) (a : Option Addr) (n cap : Nat) : leaves (.sl own sz l) (.slice a n cap) = [(.sl own sz l, .slice a n cap)] := rfl
theorem tk_sl (own : Bool) (sz : Nat) (l : List V) (a : Option Addr) (n cap b : Nat) : tk (.sl own sz l) (.slice a n cap) b = tk1 (.sl own sz l) (.slice a n cap) b := by
  unfold tk; rw [leaves_sl]; simp [sumTk]

theorem cell_same {w w' : World} {b : Nat} (h : w'.heap[b]? = w.heap[b]?) (o : Nat) : w'.cell? ⟨b, o, none⟩ = w.cell? ⟨b, o, none⟩ := by
  unfold World.cell?; rw [h]

/-- A row that was just made. -/
theorem Mk.fresh {w w' : World} {vs : List Value} {l : List V} {sz cap : Nat} {cs : Array Value} {el : TypeId} {fr : Nat × Nat} (h1 : w'.os = w.os) (h2 : w'.tape = w.tape) (h3 : w'.output = w.output) (h4 : w'.heap.size = w.heap.size + 1) (h5 : ∀ b, b < w.heap.size → w'.heap[b]? = w.heap[b]?)
    (h6 : w'.heap[w.heap.size]? = some (.cells cs el fr)) (hfr : unfr cs fr) (hz : ∀ i (h : i < l.length), (l[i]).cells.length = sz) (hr : ∀ i j (h : i < l.length) (hj : j < (l[i]).cells.length), R w G (fun _ => none) ((l[i]).cells[j]) (cs.getD (i * sz + j) undef) ∧ (cs.getD (i * sz + j) undef).oneCell' = true)
    (hcap : l.length ≤ cap) (hcs : cap * sz ≤ cs.size) (hg : ∀ b, w.heap.size ≤ b → G b = 0) :
    Mk w G φ xs vs (.sl true sz l) w' (fun b => if b = w.heap.size then l.length * sz else G b) (.slice (some ⟨w.heap.size, 0, none⟩) l.length cap) := by
  have hext : Ext w G w' (fun b => if b = w.heap.size then l.length * sz else G b) := by
    refine ⟨fun b => ?_, fun b o ho => ?_, fun b c e f hb => ⟨c, f, ?_, rfl, .inl rfl⟩, by omega, h1, h2, h3⟩
    · try dsimp only
      split
      · rename_i e; rw [e, hg _ (Nat.le_refl _)]; exact Nat.zero_le _
      · exact Nat.le_refl _
    · rcases Nat.lt_or_ge b w.heap.size with hlt | hge
      · exact cell_same (h5 b hlt) o
      · rw [hg b hge] at ho; omega
    · rcases Nat.lt_or_ge b w.heap.size with hlt | hge
      · rw [h5 b hlt, hb]
      · rw [Array.getElem?_eq_none hge] at hb; cases hb
  have hle : l.length * sz ≤ cs.size := Nat.le_trans (Nat.mul_le_mul_right _ hcap) hcs
  refine ⟨hext, ?_, ?_, fun b => ?_, fun b hb _ => ⟨h5 b hb, if_neg (by omega)⟩, fun b hb => (if_neg (by omega)).trans (hg b (by omega))⟩
  · refine .sl _ _ sz l _ 0 cap (fun i j => cs.getD (i * sz + j) undef) hcap (fun i j hi hj => ?_) (fun i j hi hj => (hr i j hi (by rw [hz i hi]; exact hj)).2) hz (fun i j hi hj => (hr i j hi hj).1.mono hext fun _ _ h => h) (by simp)
    have : (i + 1) * sz ≤ l.length * sz := Nat.mul_le_mul_right _ hi
    rw [Nat.succ_mul] at this
    rw [cell_of_row w' _ _ cs el fr h6, Array.getElem?_eq_getElem (by omega)]
    have hlt : i * sz + j < cs.size := by omega
    simp [Array.getD, hlt]
  · intro p hp
    rw [leaves_sl, List.mem_singleton] at hp
    subst hp
    intro _
    exact ⟨rfl, ⟨cs, el, fr, h6, by show 0 + cap * sz ≤ cs.size; omega, hfr⟩, by simp⟩
  · rw [tk_sl]
    simp only [tk1]
    split
    · rename_i h
      rw [if_pos (by omega)]
      omega
    · omega

/-- The cells of a row, one behind the other. -/
theorem sl_news {own : Bool} {sz : Nat} {l : List V} {a : Option Addr} {n cap : Nat} (h : R w G φ (.sl own sz l) (.slice a n cap)) :
    n = l.length ∧ (l = [] ∨ ∃ blk off, a = some ⟨blk, off, none⟩ ∧ n ≤ cap) ∧ ∃ news : List Value, news.length = l.length * sz ∧ (∀ u ∈ news, u.oneCell' = true) ∧ (∀ ad, a = some ad → ∀ j u, news[j]? = some u → w.cell? (ad.add j) = some u) ∧
      (∀ i (h : i < l.length), (l[i]).cells.length = sz) ∧ ∀ i j (h : i < l.length) (hj : j < (l[i]).cells.length), R w G (fun _ => none) ((l[i]).cells[j]) (news.getD (i * sz + j) undef) := by
  cases h with
  | slNil => exact ⟨rfl, .inl rfl, [], by simp, by simp, by simp, by simp, by simp⟩
  | sl _ _ _ _ blk off cap f hcap hc hone hz hr hg =>
    have hdm : ∀ q, q < l.length * sz → q / sz < l.length ∧ q % sz < sz ∧ q / sz * sz + q % sz = q := fun q hq => by
      have hs : 0 < sz := by
        rcases Nat.eq_zero_or_pos sz with e | e
        · subst e; simp at hq
        · exact e
      refine ⟨(Nat.div_lt_iff_lt_mul hs).2 hq, Nat.mod_lt _ hs, ?_⟩
      rw [Nat.mul_comm]
      exact Nat.div_add_mod q sz
    refine ⟨rfl, .inr ⟨blk, off, rfl, hcap⟩, (List.range (l.length * sz)).map fun q => f (q / sz) (q % sz), by simp, ?_, ?_, hz, ?_⟩
    · intro u hu
      obtain ⟨q, hq, rfl⟩ := List.mem_map.1 hu
      have := hdm q (List.mem_range.1 hq)
      exact hone _ _ this.1 this.2.1
    · intro ad had j u hu
      injection had with had; subst had
      have hj : j < l.length * sz := by
        rcases Nat.lt_or_ge j (l.length * sz) with h | h
        · exact h
        · rw [List.getElem?_eq_none (by simp; omega)] at hu; cases hu
      rw [List.getElem?_map, List.getElem?_range hj] at hu
      simp only [Option.map_some] at hu
      injection hu with hu; subst hu
      have := hdm j hj
      rw [add_none, ← hc _ _ this.1 this.2.1]
      congr 2
      omega
    · intro i j hi hj
      have hj' : j < sz := by rw [hz i hi] at hj; exact hj
      have : (i + 1) * sz ≤ l.length * sz := Nat.mul_le_mul_right _ hi
      rw [Nat.succ_mul] at this
      have hlt : i * sz + j < l.length * sz := by omega
      have hs : 0 < sz := by omega
      have e : ((List.range (l.length * sz)).map fun q => f (q / sz) (q % sz)).getD (i * sz + j) undef = f i j := by
        rw [List.getD_eq_getElem?_getD, List.getElem?_map, List.getElem?_range hlt]
        simp only [Option.map_some, Option.getD_some]
        have h1 : (i * sz + j) / sz = i := by
          rw [Nat.mul_comm, Nat.mul_add_div hs, Nat.div_eq_of_lt hj', Nat.add_zero]
        have h2 : (i * sz + j) % sz = j := by
          rw [Nat.mul_comm, Nat.mul_add_mod, Nat.mod_eq_of_lt hj']
        rw [h1, h2]
      rw [e]
      exact hr i j hi hj

theorem setCells_row' {g : Nat} {e : TypeId} {fr : Nat × Nat} : ∀ (vs : List Value) (o : Nat) (w : World) (cur : Array Value), w.heap[g]? = some (.cells cur e fr) → o + vs.length ≤ cur.size →
    ∃ cur' : Array Value, (w.setCells g o vs).heap[g]? = some (.cells cur' e fr) ∧ cur'.size = cur.size ∧ ∀ j, cur'.getD j undef = if o ≤ j ∧ j < o + vs.length then vs.getD (j - o) undef else cur.getD j undef
  | [], o, w, cur, h, _ => ⟨cur, h, rfl, fun j => by rw [if_neg (by simp)]⟩
  | v :: r, o, w, cur, h, hl => by
    simp only [List.length_cons] at hl
    have hset : (w.setCell ⟨g, o, none⟩ v).heap[g]? = some (.cells (cur.setIfInBounds o v) e fr) := by
      have hg : g < w.heap.size := by
        rcases Nat.lt_or_ge g w.heap.size with h2 | h2
        · exact h2
        · rw [Array.getElem?_eq_none h2] at h; cases h
      simp only [World.setCell]
      rw [Array.getElem?_modify, if_pos rfl, h]
      rfl
    obtain ⟨cur', h1, h2, h3⟩ := setCells_row' r (o + 1) (w.setCell ⟨g, o, none⟩ v) _ hset (by rw [Array.size_setIfInBounds]; omega)
    refine ⟨cur', by rw [World.setCells]; exact h1, by rw [h2, Array.size_setIfInBounds], fun j => ?_⟩
    rw [h3]
    by_cases e : j = o
    · subst e
      rw [if_neg (by omega), if_pos (by simp only [List.length_cons]; omega), getD_set_eq (by omega)]
      simp
    · rw [getD_set_ne' e]
      by_cases c : o + 1 ≤ j ∧ j < o + 1 + r.length
      · rw [if_pos c, if_pos (by simp only [List.length_cons]; omega)]
        have : j - o = (j - (o + 1)) + 1 := by omega
        rw [this, List.getD_cons_succ]
      · rw [if_neg c, if_neg (by simp only [List.length_cons]; omega)]
theorem setCells_far' {g : Nat} : ∀ (vs : List Value) (o : Nat) {w : World} (k : Nat), k ≠ g → (w.setCells g o vs).heap[k]? = w.heap[k]?
  | [], _, _, _, _ => rfl
  | v :: r, o, w, k, hk => by
    rw [World.setCells, setCells_far' r (o + 1) k hk]
    simp only [World.setCell]
    rw [Array.getElem?_modify, if_neg (fun e => hk e.symm)]
theorem setCells_same' (g : Nat) : ∀ (vs : List Value) (o : Nat) (w : World), (w.setCells g o vs).os = w.os ∧ (w.setCells g o vs).tape = w.tape ∧ (w.setCells g o vs).output = w.output ∧ (w.setCells g o vs).heap.size = w.heap.size
  | [], _, _ => ⟨rfl, rfl, rfl, rfl⟩
  | v :: r, o, w => by
    obtain ⟨h1, h2, h3, h4⟩ := setCells_same' g r (o + 1) (w.setCell ⟨g, o, none⟩ v)
    rw [World.setCells]
    exact ⟨h1, h2, h3, by rw [h4]; simp [World.setCell]⟩

/-- Two rows of values, one behind the other. -/
theorem two_rows {l l' : List V} {sz : Nat} {olds news : List Value} (ho : olds.length = l.length * sz) (hn : news.length = l'.length * sz) (z1 : ∀ i (h : i < l.length), (l[i]).cells.length = sz) (z2 : ∀ i (h : i < l'.length), (l'[i]).cells.length = sz)
    {p : V → Value → Prop} (r1 : ∀ i j (h : i < l.length) (hj : j < (l[i]).cells.length), p ((l[i]).cells[j]) (olds.getD (i * sz + j) undef)) (r2 : ∀ i j (h : i < l'.length) (hj : j < (l'[i]).cells.length), p ((l'[i]).cells[j]) (news.getD (i * sz + j) undef)) :
    (∀ i (h : i < (l ++ l').length), ((l ++ l')[i]).cells.length = sz) ∧ ∀ i j (h : i < (l ++ l').length) (hj : j < ((l ++ l')[i]).cells.length), p (((l ++ l')[i]).cells[j]) ((olds ++ news).getD (i * sz + j) undef) := by
  refine ⟨fun i hi => ?_, fun i j hi hj => ?_⟩
  · rw [List.length_append] at hi
    by_cases h : i < l.length
    · rw [List.getElem_append_left h]; exact z1 i h
    · rw [List.getElem_append_right (by omega)]; exact z2 _ _
  · rw [List.length_append] at hi
    by_cases h : i < l.length
    · have e : (l ++ l')[i]'(by rw [List.length_append]; exact hi) = l[i] := List.getElem_append_left h
      simp only [e] at hj ⊢
      have hj' : j < sz := by rw [z1 i h] at hj; exact hj
      have : (i + 1) * sz ≤ l.length * sz := Nat.mul_le_mul_right _ h
      rw [Nat.succ_mul] at this
      have e2 : (olds ++ news).getD (i * sz + j) undef = olds.getD (i * sz + j) undef := by
        rw [List.getD_eq_getElem?_getD, List.getElem?_append_left (by omega), ← List.getD_eq_getElem?_getD]
      rw [e2]
      exact r1 i j h hj
    · have hle : l.length ≤ i := by omega
      have e : (l ++ l')[i]'(by rw [List.length_append]; exact hi) = l'[i - l.length]'(by omega) := List.getElem_append_right hle
      simp only [e] at hj ⊢
      have hm : l.length * sz ≤ i * sz := Nat.mul_le_mul_right _ hle
      have e2 : (olds ++ news).getD (i * sz + j) undef = news.getD ((i - l.length) * sz + j) undef := by
        rw [List.getD_eq_getElem?_getD, List.getElem?_append_right (by omega), ← List.getD_eq_getElem?_getD]
        congr 1
        rw [Nat.sub_mul]
        omega
      rw [e2]
      exact r2 _ j _ hj

/-- A row grown in place. -/
theorem Mk.inplace {vs : List Value} {l l' : List V} {sz cap blk off : Nat} {news : List Value} (hr : R w G φ (.sl true sz l) (.slice (some ⟨blk, off, none⟩) l.length cap)) (ht : Tail1 w G (.sl true sz l) (.slice (some ⟨blk, off, none⟩) l.length cap)) (hcap : l.length < cap) (hfit : l.length + l'.length ≤ cap)
    (hn : news.length = l'.length * sz) (hone : ∀ u ∈ news, u.oneCell' = true) (z2 : ∀ i (h : i < l'.length), (l'[i]).cells.length = sz) (r2 : ∀ i j (h : i < l'.length) (hj : j < (l'[i]).cells.length), R w G (fun _ => none) ((l'[i]).cells[j]) (news.getD (i * sz + j) undef))
    (hg : ∀ b, w.heap.size ≤ b → G b = 0) (hv : ∀ b, b = blk → 1 ≤ vtk xs vs b) :
    Mk w G φ xs vs (.sl true sz (l ++ l')) (w.setCells blk (off + l.length * sz) news) (fun b => if b = blk then off + (l ++ l').length * sz else G b) (.slice (some ⟨blk, off, none⟩) (l ++ l').length cap) := by
  have hlen : (l ++ l').length = l.length + l'.length := List.length_append
  obtain ⟨_, ⟨cs, el, fr, hb, hsz, hfr⟩, hG⟩ := ht hcap
  simp only at hb hsz hG
  have hlt : blk < w.heap.size := by
    rcases Nat.lt_or_ge blk w.heap.size with h2 | h2
    · exact h2
    · rw [Array.getElem?_eq_none h2] at hb; cases hb
  have hmul : (l.length + l'.length) * sz = l.length * sz + l'.length * sz := Nat.add_mul _ _ _
  have hmul2 : (l.length + l'.length) * sz ≤ cap * sz := Nat.mul_le_mul_right _ hfit
  obtain ⟨cs', hb', hs', hget⟩ := setCells_row' news (off + l.length * sz) w cs hb (by omega)
  obtain ⟨s1, s2, s3, s4⟩ := setCells_same' blk news (off + l.length * sz) w
  have hext : Ext w G (w.setCells blk (off + l.length * sz) news) (fun b => if b = blk then off + (l ++ l').length * sz else G b) := by
    rw [hlen]
    refine ⟨fun b => ?_, fun b q hq => ?_, fun b c e f hc => ?_, by omega, s1, s2, s3⟩
    · try dsimp only
      split
      · rename_i e; subst e; omega
      · exact Nat.le_refl _
    · by_cases e : b = blk
      · subst e
        rw [cell_of_row _ _ _ cs' el fr hb', cell_of_row _ _ _ cs el fr hb]
        have h1 : q < cs.size := by omega
        have := hget q
        rw [if_neg (by omega)] at this
        simp only [Array.getD, hs', h1, dif_pos] at this
        rw [Array.getElem?_eq_getElem (by omega), Array.getElem?_eq_getElem h1]
        simpa using this
      · exact cell_same (setCells_far' _ _ _ e) q
    · by_cases e' : b = blk
      · subst e'
        rw [hb] at hc
        injection hc with hc; injection hc with c1 c2 c3
        subst c1; subst c2; subst c3
        exact ⟨cs', _, hb', hs', .inl rfl⟩
      · exact ⟨c, _, by rw [setCells_far' _ _ _ e', hc], rfl, .inl rfl⟩
  obtain ⟨_, _, olds, ho, hone1, hcell, z1, r1⟩ := sl_news hr
  obtain ⟨z3, r3⟩ := two_rows ho hn z1 z2 (p := R w G fun _ => none) r1 r2
  have hval : ∀ q, q < (l.length + l'.length) * sz → cs'.getD (off + q) undef = (olds ++ news).getD q undef := fun q hq => by
    rw [hget]
    by_cases c : q < l.length * sz
    · rw [if_neg (by omega)]
      have h1 := hcell ⟨blk, off, none⟩ rfl q (olds.getD q undef) (by rw [List.getD_eq_getElem?_getD, List.getElem?_eq_getElem (by omega)]; rfl)
      rw [add_none, cell_of_row _ _ _ cs el fr hb] at h1
      have h2 : (olds ++ news).getD q undef = olds.getD q undef := by
        rw [List.getD_eq_getElem?_getD, List.getElem?_append_left (by omega), ← List.getD_eq_getElem?_getD]
      rw [h2]
      have h3 : off + q < cs.size := by omega
      rw [Array.getElem?_eq_getElem h3] at h1
      injection h1 with h1
      simp only [Array.getD, h3, dif_pos]
      exact h1
    · rw [if_pos (by omega)]
      have h2 : (olds ++ news).getD q undef = news.getD (q - l.length * sz) undef := by
        rw [List.getD_eq_getElem?_getD, List.getElem?_append_right (by omega), ← List.getD_eq_getElem?_getD, ho]
      rw [h2]
      congr 1
      omega
  refine ⟨hext, ?_, ?_, fun b => ?_, fun b hb0 hv0 => ?_, fun b hb0 => ?_⟩
  · refine .sl _ _ sz (l ++ l') blk off cap (fun i j => cs'.getD (off + (i * sz + j)) undef) (by rw [hlen]; exact hfit) (fun i j hi hj => ?_) (fun i j hi hj => ?_) z3 (fun i j hi hj => ?_) (by simp [hlen])
    · have : (i + 1) * sz ≤ (l.length + l'.length) * sz := Nat.mul_le_mul_right _ (by rw [hlen] at hi; exact hi)
      rw [Nat.succ_mul] at this
      rw [cell_of_row _ _ _ cs' el fr hb', Nat.add_assoc]
      have h3 : off + (i * sz + j) < cs'.size := by omega
      simp [Array.getD, h3]
    · have : (i + 1) * sz ≤ (l.length + l'.length) * sz := Nat.mul_le_mul_right _ (by rw [hlen] at hi; exact hi)
      rw [Nat.succ_mul] at this
      rw [hval _ (by omega)]
      have h4 : i * sz + j < (olds ++ news).length := by rw [List.length_append, ho, hn]; omega
      rw [List.getD_eq_getElem?_getD, List.getElem?_eq_getElem h4]
      simp only [Option.getD_some]
      rcases List.mem_append.1 (List.getElem_mem h4) with h | h
      · exact hone1 _ h
      · exact hone _ h
    · have hj' : j < sz := by rw [z3 i hi] at hj; exact hj
      have : (i + 1) * sz ≤ (l.length + l'.length) * sz := Nat.mul_le_mul_right _ (by rw [hlen] at hi; exact hi)
      rw [Nat.succ_mul] at this
      rw [hval _ (by omega)]
      exact (r3 i j hi hj).mono hext fun _ _ h => h
  · intro p hp
    rw [leaves_sl, List.mem_singleton] at hp
    subst hp
    intro _
    exact ⟨rfl, ⟨cs', el, fr, hb', by show off + cap * sz ≤ cs'.size; omega, fun q hq => hfr q (by omega)⟩, by simp⟩
  · rw [tk_sl]
    simp only [tk1]
    split
    · rename_i h
      have := hv b h.2.symm
      omega
    · omega
  · have hne : b ≠ blk := fun e => by have := hv b e; omega
    exact ⟨setCells_far' _ _ _ hne, if_neg hne⟩
  · try dsimp only
    rw [if_neg (by omega)]
    exact hg b (by omega)

end
end Go.Proofs.Ytnodepfoahmcmaa.E

/- The engine, part O: append, make, literals of slices, bytes of a string. Conditions: none. -/
namespace Go.Proofs.Ytnodepfoahmcmaa.E
set_option linter.unusedVariables false
set_option linter.unusedSimpArgs false

def elemIs (P : Program) (t : TypeId) (sz bytes : Nat) : Bool := match P.underlying t with
  | some (.slice e) => (match P.info? e with | some i => i.size == sz && i.bytes == bytes && decide (0 < sz) && (match i.zero with | some z => z.cells.size == sz | none => false) | none => false)
  | _ => false
def isSl (P : Program) (t : TypeId) : Bool := match P.underlying t with | some (.slice _) => true | _ => false
def okAF (P : Program) (op : Op) (f : AF) : Bool := match f, op with
  | .app sz bytes, .call c => (match c.callee, c.argTypes.toList with | .builtin .append, [t, t2] => elemIs P t sz bytes && isSl P t2 | _, _ => false)
  | .apps, .call c => (match c.callee, c.argTypes.toList with | .builtin .append, [t, t2] => elemIs P t 1 1 && strIs P t2 | _, _ => false)
  | .raw n, .alloc e => decide (0 < n) && (match P.info? e with | some i => (match i.zero with | some z => z.cells.size == n | none => false) | none => false)
  | .s2b, .convert s d _ => strIs P s && (match P.underlying d with | some (.slice e) => intIs P e .u8 | _ => false)
  | .bslice sz len zero parts, .buildSlice t n ps => n == len && slIs P t sz && (match P.underlying t with | some (.slice e) => zeroIs P e zero | _ => false) && ps.toList.map (·.1) == parts
  | .mkslice sz bytes zero, .makeSlice t _ _ => elemIs P t sz bytes && (match P.underlying t with | some (.slice e) => (match P.info? e with | some i => (match i.zero with | some z => okCL z.cells.toList zero.cells | none => false) | none => false) | _ => false)
  | _, _ => false

section
variable {P : Program} {w : World} {G : Nat → Nat} {φ : Nat → Option Nat} {ρ : Operand → Value} {o : Oper} {y : V} {xs : List V}

theorem elemIs_spec {t : TypeId} {sz bytes : Nat} (h : elemIs P t sz bytes = true) : ∃ e i z, P.underlying t = some (.slice e) ∧ P.info? e = some i ∧ i.size = sz ∧ i.bytes = bytes ∧ 0 < sz ∧ i.zero = some z ∧ z.cells.size = sz := by
  unfold elemIs at h
  split at h <;> first | (cases h; done) | skip
  rename_i e hu
  split at h <;> first | (cases h; done) | skip
  rename_i i hi
  simp only [Bool.and_eq_true, beq_iff_eq, decide_eq_true_iff] at h
  obtain ⟨⟨⟨h1, h2⟩, h3⟩, h4⟩ := h
  split at h4 <;> first | (cases h4; done) | skip
  rename_i z hz
  exact ⟨e, i, z, hu, hi, h1, h2, h3, hz, by simpa using h4⟩

theorem getD_append_left {a b : List Value} {q : Nat} (h : q < a.length) (u : Value) : (a ++ b).getD q u = a.getD q u := by
  rw [List.getD_eq_getElem?_getD, List.getElem?_append_left h, ← List.getD_eq_getElem?_getD]

/-- Something is appended. -/
theorem app_core {t tx ty e : TypeId} {i : TypeInfo} {z : Value} {vs : List Value} (hu : P.underlying t = some (.slice e)) (hi : P.info? e = some i) (hz : i.zero = some z) (hzs : z.cells.size = i.size) (hsz : 0 < i.size)
    {l l' : List V} {v1 x : Value} {news : List Value} (hr : R w G φ (.sl true i.size l) v1) (ht : Tail w G (.sl true i.size l) v1) (hs : Src P i.size tx x l'.length news w) (hpos : 0 < l'.length)
    (z2 : ∀ k (h : k < l'.length), (l'[k]).cells.length = i.size) (r2 : ∀ k j (h : k < l'.length) (hj : j < (l'[k]).cells.length), R w G (fun _ => none) ((l'[k]).cells[j]) (news.getD (k * i.size + j) undef))
    (hb : (l.length + l'.length) * i.bytes ≤ LIM) (hlim : l.length + l'.length ≤ LIM) (hg : ∀ b, w.heap.size ≤ b → G b = 0) (hv : ∀ b, tk (.sl true i.size l) v1 b ≤ vtk xs vs b) :
    ∃ v w' G', (Builtin.append_ #[t, tx] ty #[v1, x]).run P w = .ok v w' ∧ Mk w G φ xs vs (.sl true i.size (l ++ l')) w' G' v := by
  have hv1 : ∃ a cap, v1 = .slice a l.length cap := by
    cases hr with
    | slNil _ _ _ a cap => exact ⟨a, cap, rfl⟩
    | sl _ _ _ _ blk off cap => exact ⟨_, cap, rfl⟩
  obtain ⟨a, cap, rfl⟩ := hv1
  have ht1 : Tail1 w G (.sl true i.size l) (.slice a l.length cap) := ht (.sl true i.size l, .slice a l.length cap) (by rw [leaves_sl]; simp)
  have hlen : (l ++ l').length = l.length + l'.length := List.length_append
  obtain ⟨_, _, olds, ho, hone1, hcell, z1, r1⟩ := sl_news hr
  by_cases hfit : l.length + l'.length ≤ cap
  · -- in place
    cases a with
    | none => have : cap = 0 := ht1; omega
    | some ad =>
      have hlt : l.length < cap := by omega
      obtain ⟨hsp, ⟨cs, el, fr, hbk, hsize, hfr⟩, hG⟩ := ht1 hlt
      obtain ⟨blk, off, sp⟩ := ad
      simp only at hsp
      subst hsp
      simp only at hbk hsize hG
      have hnl := hs.newsLen
      have hm2 : (l.length + l'.length) * i.size ≤ cap * i.size := Nat.mul_le_mul_right _ hfit
      rw [Nat.add_mul] at hm2
      have hrun := run_append_room_src (P := P) w t tx ty e i hu hi blk off l.length cap x l'.length news hs hfit (fun j hj => by
        rw [cell_of_row w _ _ cs el fr hbk, Array.getElem?_eq_getElem (by omega)]; rfl) (fun j hj => by
        have := hfr (off + l.length * i.size + j) (by omega)
        simp only [World.frozen?, hbk]
        simpa using this)
      rw [← hlen] at hrun
      refine ⟨_, _, _, hrun, Mk.inplace hr ht1 hlt hfit hnl hs.one z2 r2 hg fun b hb' => ?_⟩
      have := hv b
      rw [tk_sl] at this
      simp only [tk1] at this
      rw [if_pos ⟨hlt, hb'.symm⟩] at this
      exact this
  · have hold : (Builtin.firstCells i.size l.length (.slice a l.length cap)).run P w.drew = .ok olds.toArray w.drew := by
      cases a with
      | none =>
        have hl0 : l = [] := by cases hr; rfl
        subst hl0
        have : olds = [] := List.eq_nil_of_length_eq_zero (by rw [ho]; simp)
        subst this
        exact run_firstCells_none w.drew _ _ _ _
      | some ad => exact run_firstCells_some w.drew i.size l.length ad l.length cap olds ho (fun j u hu => by have := hcell ad rfl j u hu; simpa using this)
    have hlim' : l.length + l'.length ≤ 17592186044416 := hlim
    have hb' : (l.length + l'.length) * i.bytes ≤ 17592186044416 := hb
    have hrun := run_append_grow_src (P := P) w t tx ty e i z hu hi hz a l.length cap olds hold x l'.length news hs (by omega) (by omega) (growslice_fits (by omega) (by omega))
    rw [← hlen] at hrun
    have hge := grownCap_ge w (l ++ l').length cap e
    obtain ⟨z3, r3⟩ := two_rows ho hs.newsLen z1 z2 (p := R w G fun _ => none) r1 r2
    have hsum : (olds ++ news).length = (l ++ l').length * i.size := by rw [List.length_append, ho, hs.newsLen, hlen, Nat.add_mul]
    refine ⟨_, _, _, hrun, Mk.fresh (cs := (olds ++ news).toArray ++ Builtin.zeroCells z.cells (grownCap w (l ++ l').length cap e - (l ++ l').length)) (el := e) (fr := (0, 0)) rfl rfl rfl (Array.size_push ..) (fun b hb0 => ?_) ?_ (fun q _ h => by omega) z3 (fun k j hk hj => ?_) hge ?_ hg⟩
    · exact heap_alloc_old w.drew _ hb0
    · exact heap_alloc_new w.drew _
    · have hj' : j < i.size := by rw [z3 k hk] at hj; exact hj
      have : (k + 1) * i.size ≤ (l ++ l').length * i.size := Nat.mul_le_mul_right _ hk
      rw [Nat.succ_mul] at this
      have hlt : k * i.size + j < (olds ++ news).length := by omega
      have e1 : ((olds ++ news).toArray ++ Builtin.zeroCells z.cells (grownCap w (l ++ l').length cap e - (l ++ l').length)).getD (k * i.size + j) undef = (olds ++ news).getD (k * i.size + j) undef := by
        have h1 : k * i.size + j < ((olds ++ news).toArray ++ Builtin.zeroCells z.cells (grownCap w (l ++ l').length cap e - (l ++ l').length)).size := by
          rw [Array.size_append]; simp only [List.size_toArray]; omega
        unfold Array.getD
        rw [dif_pos h1]
        simp only [Array.getInternal_eq_getElem]
        rw [Array.getElem_append_left (by simpa using hlt), List.getD_eq_getElem?_getD, List.getElem?_eq_getElem hlt]
        simp
      rw [e1]
      refine ⟨r3 k j hk hj, ?_⟩
      rw [List.getD_eq_getElem?_getD, List.getElem?_eq_getElem hlt]
      simp only [Option.getD_some]
      rcases List.mem_append.1 (List.getElem_mem hlt) with h | h
      · exact hone1 _ h
      · exact hs.one _ h
    · rw [Array.size_append, size_zeroCells, hzs]
      simp only [List.size_toArray, hsum]
      rw [← Nat.add_mul]
      exact Nat.mul_le_mul_right _ (by omega)

/-- Nothing is appended. -/
theorem Mk.nothing {vs : List Value} {l : List V} {sz : Nat} {v : Value} (hr : R w G φ (.sl true sz l) v) (ht : Tail w G (.sl true sz l) v) (hg : ∀ b, w.heap.size ≤ b → G b = 0) (hv : ∀ b, E.tk (.sl true sz l) v b ≤ vtk xs vs b) : Mk w G φ xs vs (.sl true sz l) w G v :=
  ⟨Ext.refl _ _, hr, ht, fun b => by have := hv b; omega, fun _ _ _ => ⟨rfl, rfl⟩, hg⟩

/-- An operation that makes something. -/
def Makes (P : Program) (w : World) (G : Nat → Nat) (φ : Nat → Option Nat) (ρ : Operand → Value) (o : Oper) (xs : List V) (y : V) : Prop :=
  ∃ v w' G', (execOp ρ o).run P w = .ok (.value v) w' ∧ Mk w G φ xs ((opArgs o.op).map ρ) y w' G' v

theorem exec_vm {s : Sem Value} {v : Value} {w' : World} (h : s.run P w = .ok v w') : (do pure (.value (← s)) : Sem Next).run P w = .ok (.value v) w' := by
  rw [Sem.run_bind, h, Result.andThen_ok, Sem.run_pure]

theorem ok_app {sz bytes : Nat} (hk : okAF P o.op (.app sz bytes) = true) (hx : All2 (R w G φ) xs ((opArgs o.op).map ρ)) (ht : ∀ p ∈ xs.zip ((opArgs o.op).map ρ), Tail w G p.1 p.2) (hg : ∀ b, w.heap.size ≤ b → G b = 0) (hy : af (.app sz bytes) xs = some y) : Makes P w G φ ρ o xs y := by
  unfold Makes
  cases hop : o.op <;> rw [hop] at hk <;> first | (cases hk; done) | skip
  rename_i c
  obtain ⟨ce, args, ats⟩ := c
  rw [hop] at hx ht
  simp only [okAF] at hk
  split at hk <;> first | (cases hk; done) | skip
  rename_i t t2 hat
  have hat' : ats = #[t, t2] := Array.toList_inj.1 hat
  subst hat'
  rw [Bool.and_eq_true] at hk
  obtain ⟨e, i, z, hu, hi, rfl, rfl, hsz, hz, hzs⟩ := elemIs_spec hk.1
  have hu2 : ∃ e', P.underlying t2 = some (.slice e') := by
    have := hk.2
    unfold isSl at this
    split at this
    · exact ⟨_, by assumption⟩
    · cases this
  obtain ⟨e', hu2⟩ := hu2
  have hs0 := exec_builtin (ρ := ρ) hop
  have hb0 : ∀ ty cs args, builtin .append #[t, t2] ty cs args = (do pure (.value (← Builtin.append_ #[t, t2] ty args))) := fun _ _ _ => rfl
  rw [hb0] at hs0
  simp only [af] at hy
  split at hy <;> first | (cases hy; done) | skip
  rename_i own z1 l own' z' l'
  split at hy <;> first | (cases hy; done) | skip
  rename_i hb
  obtain ⟨rfl, rfl, rfl, hb1, hb2⟩ := hb
  injection hy with hy; subst hy
  obtain ⟨v1, v2, hv, r1, r2⟩ := all2_2 hx
  simp only [opArgs] at hv ht ⊢
  rw [hv] at ht ⊢
  rw [args_2 hv] at hs0
  rw [hs0]
  have ht1 : Tail w G (.sl true i.size l) v1 := ht (.sl true i.size l, v1) (by simp)
  have htk : ∀ b, tk (.sl true i.size l) v1 b ≤ vtk [.sl true i.size l, .sl own' i.size l'] [v1, v2] b := fun b => by simp [vtk]
  have hv2 : ∃ a n cap, v2 = .slice a n cap := by
    cases r2 with
    | slNil _ _ _ a cap => exact ⟨a, 0, cap, rfl⟩
    | sl _ _ _ _ blk off cap => exact ⟨_, _, cap, rfl⟩
  obtain ⟨a2, n2, cap2, rfl⟩ := hv2
  obtain ⟨hn, hsh, news, hnl, hone, hcell, z2, rr⟩ := sl_news r2
  subst hn
  have hsrc : Src P i.size t2 (.slice a2 l'.length cap2) l'.length news w := by
    rcases hsh with h0 | ⟨blk, off, rfl, _⟩
    · subst h0
      have : news = [] := List.eq_nil_of_length_eq_zero (by rw [hnl]; simp)
      subst this
      cases a2 with
      | none => exact Src.ofNil w hu2 cap2
      | some ad => exact Src.ofSlice w hu2 ad 0 cap2 [] (by simp) (by simp) (by simp)
    · exact Src.ofSlice w hu2 _ _ _ news hnl (hcell _ rfl) hone
  rcases Nat.eq_zero_or_pos l'.length with h0 | hpos
  · have hl' : l' = [] := List.eq_nil_of_length_eq_zero h0
    subst hl'
    have : news = [] := List.eq_nil_of_length_eq_zero (by rw [hnl]; simp)
    subst this
    have hv1 : ∃ a cap, v1 = .slice a l.length cap ∧ l.length ≤ cap := by
      cases r1 with
      | slNil _ _ _ a cap => exact ⟨a, cap, rfl, Nat.zero_le _⟩
      | sl _ _ _ _ blk off cap f hcap => exact ⟨_, cap, rfl, hcap⟩
    obtain ⟨a, cap, rfl, hle⟩ := hv1
    have hrun := run_append_nothing (P := P) w t t2 o.type e i hu hi a l.length cap hle _ hsrc
    refine ⟨_, w, G, exec_vm hrun, ?_⟩
    rw [List.append_nil]
    exact Mk.nothing r1 ht1 hg htk
  · obtain ⟨v, w', G', hrun, hmk⟩ := app_core (xs := [.sl true i.size l, .sl own' i.size l']) (vs := [v1, .slice a2 l'.length cap2]) (ty := o.type) hu hi hz hzs hsz r1 ht1 hsrc hpos z2 rr hb1 hb2 hg htk
    exact ⟨v, w', G', exec_vm hrun, hmk⟩

theorem byteCells_get (s : ByteArray) (k : Nat) (h : k < s.data.toList.length) : (byteCells s).getD k undef = .int .u8 ((s.data.toList[k]).toNat) := by
  unfold byteCells
  rw [List.getD_eq_getElem?_getD, List.getElem?_map, List.getElem?_eq_getElem h]
  rfl
theorem byteV_rows (s : ByteArray) : (∀ k (h : k < (s.data.toList.map byteV).length), ((s.data.toList.map byteV)[k]).cells.length = 1) ∧
    ∀ k j (h : k < (s.data.toList.map byteV).length) (hj : j < ((s.data.toList.map byteV)[k]).cells.length), R w G (fun _ => none) (((s.data.toList.map byteV)[k]).cells[j]) ((byteCells s).getD (k * 1 + j) undef) ∧ ((byteCells s).getD (k * 1 + j) undef).oneCell' = true := by
  refine ⟨fun k h => by rw [List.getElem_map]; rfl, fun k j h hj => ?_⟩
  have hk : k < s.data.toList.length := by simpa using h
  have hj0 : j = 0 := by simp only [List.getElem_map, byteV, V.cells, List.length_singleton] at hj; omega
  subst hj0
  simp only [List.getElem_map, byteV, V.cells, List.getElem_cons_zero, Nat.mul_one, Nat.add_zero]
  rw [byteCells_get s k hk]
  exact ⟨.int _ _ _, rfl⟩

theorem ok_apps (hk : okAF P o.op .apps = true) (hx : All2 (R w G φ) xs ((opArgs o.op).map ρ)) (ht : ∀ p ∈ xs.zip ((opArgs o.op).map ρ), Tail w G p.1 p.2) (hg : ∀ b, w.heap.size ≤ b → G b = 0) (hy : af .apps xs = some y) : Makes P w G φ ρ o xs y := by
  unfold Makes
  cases hop : o.op <;> rw [hop] at hk <;> first | (cases hk; done) | skip
  rename_i c
  obtain ⟨ce, args, ats⟩ := c
  rw [hop] at hx ht
  simp only [okAF] at hk
  split at hk <;> first | (cases hk; done) | skip
  rename_i t t2 hat
  have hat' : ats = #[t, t2] := Array.toList_inj.1 hat
  subst hat'
  rw [Bool.and_eq_true] at hk
  obtain ⟨e, i, z, hu, hi, hsz1, hby1, _, hz, hzs⟩ := elemIs_spec hk.1
  have hu2 := strIs_spec hk.2
  have hs0 := exec_builtin (ρ := ρ) hop
  have hb0 : ∀ ty cs args, builtin .append #[t, t2] ty cs args = (do pure (.value (← Builtin.append_ #[t, t2] ty args))) := fun _ _ _ => rfl
  rw [hb0] at hs0
  simp only [af] at hy
  split at hy <;> first | (cases hy; done) | skip
  rename_i own z1 l s0
  split at hy <;> first | (cases hy; done) | skip
  rename_i hb
  obtain ⟨rfl, rfl, hb2⟩ := hb
  injection hy with hy; subst hy
  obtain ⟨v1, v2, hv, r1, r2⟩ := all2_2 hx
  simp only [opArgs] at hv ht ⊢
  rw [hv] at ht ⊢
  rw [args_2 hv] at hs0
  rw [hs0]
  cases r2 with | str _ s =>
  have ht1 : Tail w G (.sl true 1 l) v1 := ht (.sl true 1 l, v1) (by simp)
  have htk : ∀ b, tk (.sl true 1 l) v1 b ≤ vtk [.sl true 1 l, .str s.data.toList] [v1, .string s] b := fun b => by simp [vtk]
  have hsl : (s.data.toList.map byteV).length = s.size := by rw [List.length_map, Array.length_toList]; rfl
  have hsrc : Src P 1 t2 (.string s) (s.data.toList.map byteV).length (byteCells s) w := by rw [hsl]; exact Src.ofString w hu2 s
  obtain ⟨b1, b2⟩ := byteV_rows (w := w) (G := G) s
  rcases Nat.eq_zero_or_pos (s.data.toList.map byteV).length with h0 | hpos
  · have hl' : s.data.toList.map byteV = [] := List.eq_nil_of_length_eq_zero h0
    have hn0 : byteCells s = [] := List.eq_nil_of_length_eq_zero (by rw [byteCells_length, ← hsl, h0])
    rw [hn0, h0] at hsrc
    rw [hl', List.append_nil]
    have hv1 : ∃ a cap, v1 = .slice a l.length cap ∧ l.length ≤ cap := by
      cases r1 with
      | slNil _ _ _ a cap => exact ⟨a, cap, rfl, Nat.zero_le _⟩
      | sl _ _ _ _ blk off cap f hcap => exact ⟨_, cap, rfl, hcap⟩
    obtain ⟨a, cap, rfl, hle⟩ := hv1
    have hrun := run_append_nothing (P := P) w t t2 o.type e i hu hi a l.length cap hle _ (by rw [hsz1]; exact hsrc)
    exact ⟨_, w, G, exec_vm hrun, Mk.nothing r1 ht1 hg htk⟩
  · rw [← hsz1] at r1 ht1 hsrc htk b1
    have hlen2 : l.length + (s.data.toList.map byteV).length ≤ LIM := by simpa using hb2
    obtain ⟨v, w', G', hrun, hmk⟩ := app_core (xs := [.sl true i.size l, .str s.data.toList]) (vs := [v1, .string s]) (ty := o.type) hu hi hz (by rw [hzs, hsz1]) (by rw [hsz1]; omega) r1 ht1 hsrc hpos b1 (fun k j h hj => by rw [hsz1]; exact (b2 k j h hj).1) (by rw [hby1, Nat.mul_one]; exact hlen2) hlen2 hg htk
    rw [hsz1] at hmk
    exact ⟨v, w', G', exec_vm hrun, hmk⟩

end
end Go.Proofs.Ytnodepfoahmcmaa.E

/- The engine, part P: bytes of a string, literals of slices, make; all that makes rows. Conditions: none. -/
namespace Go.Proofs.Ytnodepfoahmcmaa.E
set_option linter.unusedVariables false
set_option linter.unusedSimpArgs false

section
variable {P : Program} {w : World} {G : Nat → Nat} {φ : Nat → Option Nat} {ρ : Operand → Value} {o : Oper} {y : V} {xs : List V}

theorem run_newRow (e : TypeId) (cs : Array Value) (w : World) : (newRow e cs).run P w = .ok ⟨w.heap.size, 0, none⟩ (w.alloc (.cells cs e)) := rfl
theorem run_choose_cap (need old : Nat) (e : TypeId) (w : World) : (choose (.appendCap need old e)).run P w = .ok (grownCap w need old e) w.drew := by
  simp [choose, Sem.run, Question.forced, grownCap]

theorem run_s2b (e : TypeId) (s : ByteArray) (w : World) : ∃ (w' : World) (cs : Array Value) (cap : Nat), (Conv.stringToBytes e s).run P w = .ok (.slice (some ⟨w.heap.size, 0, none⟩) s.size cap) w' ∧ s.size ≤ cap ∧ cs.size = cap ∧ (∀ k, k < s.size → cs.getD k undef = (byteCells s).getD k undef) ∧
    w'.os = w.os ∧ w'.tape = w.tape ∧ w'.output = w.output ∧ w'.heap.size = w.heap.size + 1 ∧ (∀ b, b < w.heap.size → w'.heap[b]? = w.heap[b]?) ∧ w'.heap[w.heap.size]? = some (.cells cs e (cs.size, cs.size + 1)) := by
  have hge := grownCap_ge w s.size 0 e
  obtain ⟨cs, hcs⟩ : ∃ cs : Array Value, cs = (s.data.map fun b => Value.int .u8 b.toNat) ++ Array.replicate (grownCap w s.size 0 e - s.size) (.int .u8 0) := ⟨_, rfl⟩
  have hsize : cs.size = grownCap w s.size 0 e := by
    rw [hcs, Array.size_append, Array.size_map, Array.size_replicate]
    show s.data.size + _ = _
    have : s.data.size = s.size := rfl
    omega
  have hshape : ((w.drew.alloc (.cells cs e)).shape? w.heap.size) = some (e, cs.size) := by
    have : (w.drew.alloc (.cells cs e)).heap[w.heap.size]? = some (.cells cs e) := heap_alloc_new w.drew _
    unfold World.shape?
    rw [this]
  refine ⟨(w.drew.alloc (.cells cs e)).freeze ⟨w.heap.size, cs.size, none⟩ 1, cs, grownCap w s.size 0 e, ?_, hge, hsize, fun k hk => ?_, rfl, rfl, rfl, ?_, fun b hb => ?_, ?_⟩
  · unfold Conv.stringToBytes
    rw [Sem.run_bind, run_choose_cap, Result.andThen_ok]
    simp only [← hcs]
    rw [Sem.run_bind, run_newRow, Result.andThen_ok, Sem.run_bind]
    have : (markStringish ⟨w.drew.heap.size, 0, none⟩).run P (w.drew.alloc (.cells cs e)) = .ok () ((w.drew.alloc (.cells cs e)).freeze ⟨w.heap.size, cs.size, none⟩ 1) := by
      unfold markStringish shape freeze
      simp only [bind, Sem.bind, Sem.run]
      have h2 : (w.drew.alloc (.cells cs e)).shape? w.drew.heap.size = some (e, cs.size) := hshape
      rw [h2]
      rfl
    rw [this, Result.andThen_ok, Sem.run_pure]
    rfl
  · rw [hcs]
    have hk' : k < s.data.size := hk
    have e1 : ((s.data.map fun (b : UInt8) => Value.int .u8 b.toNat) ++ Array.replicate (grownCap w s.size 0 e - s.size) (Value.int .u8 0)).getD k undef = Value.int .u8 (s.data[k].toNat) := by
      unfold Array.getD
      rw [dif_pos (by rw [Array.size_append, Array.size_map]; omega)]
      simp only [Array.getInternal_eq_getElem]
      rw [Array.getElem_append_left (by simpa using hk'), Array.getElem_map]
    rw [e1, byteCells_get s k (by rw [Array.length_toList]; exact hk')]
    rfl
  · unfold World.freeze
    rw [if_neg (by decide)]
    show (Array.modify _ _ _).size = _
    rw [Array.size_modify]
    exact Array.size_push _
  · unfold World.freeze
    rw [if_neg (by decide)]
    show (Array.modify _ _ _)[b]? = _
    rw [Array.getElem?_modify, if_neg (by show ¬ w.heap.size = b; omega)]
    exact heap_alloc_old w.drew _ hb
  · unfold World.freeze
    rw [if_neg (by decide)]
    show (Array.modify _ _ _)[w.heap.size]? = _
    rw [Array.getElem?_modify, if_pos rfl]
    have : (w.drew.alloc (.cells cs e)).heap[w.heap.size]? = some (.cells cs e) := heap_alloc_new w.drew _
    rw [this]
    rfl

theorem ok_s2b (hk : okAF P o.op .s2b = true) (hx : All2 (R w G φ) xs ((opArgs o.op).map ρ)) (ht : ∀ p ∈ xs.zip ((opArgs o.op).map ρ), Tail w G p.1 p.2) (hg : ∀ b, w.heap.size ≤ b → G b = 0) (hy : af .s2b xs = some y) : Makes P w G φ ρ o xs y := by
  unfold Makes
  cases hop : o.op <;> rw [hop] at hk <;> first | (cases hk; done) | skip
  rename_i src dst a
  rw [hop] at hx ht
  simp only [okAF, Bool.and_eq_true] at hk
  have hs := strIs_spec hk.1
  have hk2 := hk.2
  split at hk2 <;> first | (cases hk2; done) | skip
  rename_i e hd
  have he := intIs_spec hk2
  simp only [af] at hy
  split at hy <;> first | (cases hy; done) | skip
  split at hy <;> first | (cases hy; done) | skip
  rename_i s0 hl
  injection hy with hy; subst hy
  obtain ⟨v, hv, h1⟩ := all2_1 hx
  simp only [opArgs, List.map_cons, List.map_nil, List.cons.injEq, and_true] at hv ⊢
  cases h1 with | str _ s =>
  obtain ⟨w', cs, cap, hrun, hcap, hcs, hget, a1, a2, a3, a4, a5, a6⟩ := run_s2b (P := P) e s w
  obtain ⟨b1, b2⟩ := byteV_rows (w := w) (G := G) s
  have hsl : (s.data.toList.map byteV).length = s.size := by rw [List.length_map, Array.length_toList]; rfl
  have hconv : (convert src dst (ρ a)).run P w = .ok (.slice (some ⟨w.heap.size, 0, none⟩) (s.data.toList.map byteV).length cap) w' := by
    rw [hv, hsl]
    simp only [convert, Sem.run_bind, run_underlying hs, run_underlying hd, run_underlying he, Result.andThen_ok, hrun]
  refine ⟨_, w', _, (by unfold execOp; rw [hop]; exact exec_vm hconv), Mk.fresh (cs := cs) (el := e) (fr := (cs.size, cs.size + 1)) a1 a2 a3 a4 a5 a6 (fun q h1 h2 => by simp only at h2; omega) b1 (fun k j hk hj => ?_) (by rw [hsl]; exact hcap) (by omega) hg⟩
  have hkk : k < s.size := by rw [hsl] at hk; exact hk
  have hj0 : j = 0 := by have := b1 k hk; omega
  subst hj0
  have := b2 k 0 hk hj
  rw [Nat.mul_one, Nat.add_zero] at this ⊢
  rw [hget k hkk]
  exact this

/-- Cells that a row repeats. -/
theorem zeros_get (z : Array Value) (n sz : Nat) (hz : z.size = sz) (i j : Nat) (hi : i < n) (hj : j < sz) : (((Array.range (n * sz)).map (z[· % z.size]!)).getD (i * sz + j) undef) = z.getD j undef := by
  have hs : 0 < sz := by omega
  have : (i + 1) * sz ≤ n * sz := Nat.mul_le_mul_right _ hi
  rw [Nat.succ_mul] at this
  have hlt : i * sz + j < n * sz := by omega
  have h2 : (i * sz + j) % sz = j := by rw [Nat.mul_comm, Nat.mul_add_mod, Nat.mod_eq_of_lt hj]
  unfold Array.getD
  rw [dif_pos (by simpa using hlt), dif_pos (by omega)]
  simp only [Array.getInternal_eq_getElem, Array.getElem_map, Array.getElem_range, hz, h2]
  rw [getElem!_pos z j (by omega)]

theorem oneCell_noH1 {x : V} {v : Value} (h : R w G φ x v) (hn : noH1 x = true) : v.oneCell' = true := by
  cases h with
  | junk | ptr | hs | hm | agg | tup => exact absurd hn (by simp [noH1])
  | _ => rfl

theorem flatMap_get {sz : Nat} : ∀ (l : List V), (∀ x ∈ l, x.cells.length = sz) → (l.flatMap V.cells).length = l.length * sz ∧ ∀ i j (hi : i < l.length) (hj : j < (l[i]).cells.length) (h : i * sz + j < (l.flatMap V.cells).length), (l.flatMap V.cells)[i * sz + j] = (l[i]).cells[j]
  | [], _ => ⟨by simp, fun i j hi => absurd hi (by simp)⟩
  | x :: l, h => by
    obtain ⟨h1, h2⟩ := flatMap_get l fun y hy => h y (by simp [hy])
    have hx := h x (by simp)
    refine ⟨by rw [List.flatMap_cons, List.length_append, h1, hx, List.length_cons, Nat.succ_mul]; omega, fun i j hi hj hh => ?_⟩
    cases i with
    | zero =>
      simp only [List.flatMap_cons]
      rw [List.getElem_append_left (by simpa using hj)]
      simp
    | succ i =>
      have e : (i + 1) * sz + j = x.cells.length + (i * sz + j) := by rw [hx, Nat.succ_mul]; omega
      have hlt : i * sz + j < (l.flatMap V.cells).length := by
        rw [List.flatMap_cons, List.length_append] at hh
        omega
      have := h2 i j (by simpa using hi) hj hlt
      simp only [List.getElem_cons_succ]
      rw [← this]
      simp only [List.flatMap_cons, e]
      rw [List.getElem_append_right (by omega)]
      congr 1
      omega

theorem flatMap_set {sz : Nat} : ∀ (l : List V) (i : Nat) (x : V), (∀ x ∈ l, x.cells.length = sz) → i < l.length → (l.set i x).flatMap V.cells = (l.flatMap V.cells).take (i * sz) ++ x.cells ++ (l.flatMap V.cells).drop (i * sz + sz)
  | [], i, x, _, h => absurd h (by simp)
  | y :: l, 0, x, h, _ => by
    have hy := h y (by simp)
    simp only [List.set_cons_zero, List.flatMap_cons, Nat.zero_mul, List.take_zero, List.nil_append, Nat.zero_add]
    rw [List.drop_append_of_le_length (by omega), List.drop_of_length_le (by omega), List.nil_append]
  | y :: l, i + 1, x, h, hi => by
    have hy := h y (by simp)
    have ih := flatMap_set l i x (fun z hz => h z (by simp [hz])) (by simpa using hi)
    simp only [List.set_cons_succ, List.flatMap_cons]
    rw [ih, Nat.succ_mul]
    have e : i * sz + sz = y.cells.length + i * sz := by omega
    have e2 : y.cells.length + i * sz + sz = y.cells.length + (i * sz + sz) := by omega
    rw [show y.cells.length = sz from hy] at e e2
    have t1 : (y.cells ++ l.flatMap V.cells).take (i * sz + sz) = y.cells ++ (l.flatMap V.cells).take (i * sz) := by
      rw [e, ← hy, List.take_length_add_append]
    have t2 : (y.cells ++ l.flatMap V.cells).drop (i * sz + sz + sz) = (l.flatMap V.cells).drop (i * sz + sz) := by
      rw [show i * sz + sz + sz = y.cells.length + (i * sz + sz) by omega, List.drop_length_add_append]
    rw [t1, t2, List.append_assoc, List.append_assoc, List.append_assoc]

theorem fillE_fillP {sz : Nat} : ∀ (parts : List Nat) (xs : List V) (l l' : List V), (∀ x ∈ l, x.cells.length = sz ∧ noH2 x = true) → fillE l sz parts xs = some l' → fillP (l.flatMap V.cells) (parts.map fun i => (i * sz, sz)) xs = some (l'.flatMap V.cells) ∧ (∀ x ∈ l', x.cells.length = sz ∧ noH2 x = true) ∧ l'.length = l.length ∧ (∀ x ∈ xs, noH2 x = true)
  | [], [], l, l', h, hf => by simp only [fillE] at hf; injection hf with hf; subst hf; exact ⟨rfl, h, rfl, by simp⟩
  | [], _ :: _, l, l', h, hf => by simp [fillE] at hf
  | _ :: _, [], l, l', h, hf => by simp [fillE] at hf
  | i :: ps, x :: xs, l, l', h, hf => by
    simp only [fillE] at hf
    split at hf <;> first | (cases hf; done) | skip
    rename_i hb
    obtain ⟨b1, b2, b3⟩ := hb
    have hsol : solid x = true := by cases x <;> first | rfl | (simp [noH2, noH1] at b3)
    have hc2 : (clr2 x).cells.length = sz := by rw [cells_clr2, List.length_map, b1]
    have hn1 : ∀ c, noH1 c = true → noH1 (clr1 c) = true := fun c hc => by cases c <;> first | exact hc | rfl
    have hn2 : noH2 (clr2 x) = true := by
      cases x with
      | agg cs =>
        simp only [noH2, List.all_eq_true] at b3 ⊢
        simp only [clr2, noH2, List.all_eq_true, List.mem_map]
        rintro _ ⟨c, hc, rfl⟩
        exact hn1 c (b3 c hc)
      | sl own sz' l0 => rfl
      | _ => exact b3
    have hset : ∀ z ∈ l.set i (clr2 x), z.cells.length = sz ∧ noH2 z = true := fun z hz => by
      rcases List.mem_or_eq_of_mem_set hz with hz | rfl
      · exact h z hz
      · exact ⟨hc2, hn2⟩
    obtain ⟨r1, r2, r3, r4⟩ := fillE_fillP ps xs (l.set i (clr2 x)) l' hset hf
    have hfl := (flatMap_get l fun y hy => (h y hy).1).1
    have hle : (i + 1) * sz ≤ l.length * sz := Nat.mul_le_mul_right _ b2
    rw [Nat.succ_mul] at hle
    refine ⟨?_, r2, by rw [r3, List.length_set], fun z hz => ?_⟩
    · simp only [List.map_cons, fillP]
      rw [if_pos ⟨b1, by omega, hsol⟩, ← cells_clr2, ← flatMap_set l i (clr2 x) (fun y hy => (h y hy).1) b2]
      exact r1
    · rcases List.mem_cons.1 hz with rfl | hz
      · exact b3
      · exact r4 z hz

theorem ofCells_cells {sz : Nat} {cs : List V} (h : cs.length = sz) (hn : cs.all noH1 = true) : (ofCells sz cs).cells = cs ∧ noH2 (ofCells sz cs) = true := by
  unfold ofCells
  split
  · rename_i h1
    subst h1
    match cs, h with
    | [c], _ =>
      have hc : noH1 c = true := by simpa using hn
      cases c <;> first | exact ⟨rfl, hc⟩ | (simp [noH1] at hc)
  · exact ⟨rfl, hn⟩

end
end Go.Proofs.Ytnodepfoahmcmaa.E
