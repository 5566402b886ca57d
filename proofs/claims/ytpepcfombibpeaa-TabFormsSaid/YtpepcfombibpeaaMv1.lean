/- The abstract values and memory of the prover's own calculus, and its rules for the model's operations. -/
import Derived.Calls
import Derived.Orders
set_option linter.unusedVariables false
set_option linter.unusedSimpArgs false
namespace Go.Proofs.Ytpepcfombibpeaa.Mv

/-- Abstract values. 'sl': a slice that nobody writes any more; 'slo', 'ptro': handed over whole; 'own', 'ref', 'mref': of a box of this call. -/
inductive LV where
  | undef
  | skip
  | int (k : IntKind) (n : Int)
  | bool (b : Bool)
  | str (s : ByteArray)
  | nilp
  | nils
  | nilm
  | sl (es : List (List LV))
  | slo (sz : Nat) (es : List (List LV))
  | fmap (es : List (List LV))
  | own (b g off len : Nat) (cap : Option Nat)
  | ref (b g i c : Nat)
  | mref (b g : Nat)
  | fad (es : List (List LV)) (i c : Nat)
  | agg (cs : List LV)
  | tup (vs : List LV)
  | fn (f : FuncId) (caps : List LV)
  | ptro (cs : List LV)
  deriving Inhabited

inductive BK where
  | var | slc | mp

structure Box where
  gen : Nat
  frz : Bool
  kind : BK
  sz : Nat
  es : List (List LV)

abbrev Slots := Nat → LV
abbrev Mem := Nat → Option Box

structure St where
  ts : Slots
  m : Mem

def updS (f : Slots) (i : Nat) (v : LV) : Slots := fun j => cond (Nat.beq i j) v (f j)
def updM (f : Mem) (i : Nat) (b : Box) : Mem := fun j => cond (Nat.beq i j) (some b) (f j)
theorem updS_same (f : Slots) (i : Nat) (v : LV) : updS f i v i = v := by simp [updS]
theorem updS_ne (f : Slots) {i j : Nat} (v : LV) (h : i ≠ j) : updS f i v j = f j := by
  have : Nat.beq i j = false := by
    cases h' : Nat.beq i j
    · rfl
    · exact absurd (Nat.eq_of_beq_eq_true h') h
  simp [updS, this]
theorem updM_same (f : Mem) (i : Nat) (v : Box) : updM f i v i = some v := by simp [updM]
theorem updM_ne (f : Mem) {i j : Nat} (v : Box) (h : i ≠ j) : updM f i v j = f j := by
  have : Nat.beq i j = false := by
    cases h' : Nat.beq i j
    · rfl
    · exact absurd (Nat.eq_of_beq_eq_true h') h
  simp [updM, this]

def putS (f : Slots) (d : Option Nat) (v : LV) : Slots :=
  match d with
  | some i => updS f i v
  | none => f

/-- The writes of one operation, in order. -/
def effM (f : Mem) : List (Nat × Box) → Mem
  | [] => f
  | (n, b) :: r => effM (updM f n b) r

def genAt (m : Mem) (n : Nat) : Nat :=
  match m n with
  | some x => x.gen + 1
  | none => 0

/-! ### Types -/
def szT (P : Program) (t : TypeId) : Option Nat := (P.info? t).map (·.size)
def isAggT (P : Program) (t : TypeId) : Option Bool :=
  match P.underlying t with
  | some (.struct _) | some (.array _ _) => some true
  | some _ => some false
  | none => none
def offF (P : Program) (s : TypeId) (f : Nat) : Option Nat :=
  match P.underlying s with
  | some (.struct fs) =>
    match fs[f]? with
    | some fd =>
      match szT P fd.type with
      | some n => if n = 0 then none else some fd.offset
      | none => none
    | none => none
  | _ => none
def sliceE (P : Program) (t : TypeId) : Option TypeId :=
  match P.underlying t with
  | some (.slice e) => some e
  | _ => none
def arrayE (P : Program) (t : TypeId) : Option (Nat × TypeId) :=
  match P.underlying t with
  | some (.array n e) => some (n, e)
  | _ => none

/-! ### Constants -/
def constC : Value → LV
  | .int k n => .int k n
  | .bool b => .bool b
  | .string s => .str s
  | .pointer none => .nilp
  | .slice none 0 0 => .nils
  | .map none => .nilm
  | _ => .undef
def constL : Value → LV
  | .agg cs => .agg (cs.toList.map constC)
  | v => constC v
def pureC : LV → LV
  | .nils => .sl []
  | v => v
def zeroL (P : Program) (t : TypeId) : Option (List LV) :=
  match P.info? t with
  | some i =>
    match i.zero with
    | some v => some (v.cells.toList.map constC)
    | none => none
  | none => none

def zero1L (P : Program) (t : TypeId) : Option LV :=
  match P.info? t with
  | some i =>
    match i.zero with
    | some (.agg _) => none
    | some v => some (constC v)
    | none => none
  | none => none

def evalO (f : Slots) : Operand → LV
  | .tmp t => f t
  | .const v => constL v
  | .func g => .fn g []
  | .global _ => .undef

def cellsL : LV → List LV
  | .agg cs => cs
  | v => [v]

/-- One cell, and no more. -/
def oneC : LV → Bool
  | .agg _ => false
  | .tup _ => false
  | .slo .. => false
  | .ptro _ => false
  | .undef => false
  | .skip => false
  | _ => true

/-- Nothing of this call's own stands in it (at its top). -/
def pureL : LV → Bool
  | .own .. => false
  | .ref .. => false
  | .mref .. => false
  | .agg _ => false
  | .tup _ => false
  | .slo .. => false
  | .ptro _ => false
  | .undef => false
  | .skip => false
  | .nils => false
  | .nilm => false
  | .fn _ _ => false
  | _ => true

/-! ### Freezing: what is handed to a call, or becomes a part of a slice -/
inductive Frz (m : Mem) : LV → LV → List Nat → Prop
  | pure {v : LV} (h : pureL v = true) : Frz m v v []
  | nils : Frz m .nils (.sl []) []
  | nilm : Frz m .nilm (.fmap []) []
  | own {b g off len : Nat} {cap : Option Nat} {x : Box} (hm : m b = some x) (hg : x.gen = g) (hk : x.kind = .slc) (hl : off + len ≤ x.es.length) :
      Frz m (.own b g off len cap) (.sl ((x.es.drop off).take len)) [b]
  | mref {b g : Nat} {x : Box} (hm : m b = some x) (hg : x.gen = g) (hk : x.kind = .mp) : Frz m (.mref b g) (.fmap x.es) [b]
  | ref {b g c : Nat} {x : Box} {cs cs' : List LV} {T : List Nat} (hm : m b = some x) (hg : x.gen = g) (hk : x.kind = .var) (he : x.es = [cs])
      (hc : Frz m (.agg cs) (.agg cs') T) : Frz m (.ref b g 0 c) (.fad [cs'] 0 c) (b :: T)
  | aggn : Frz m (.agg []) (.agg []) []
  | aggc {v v' : LV} {vs vs' : List LV} {S T : List Nat} (h : Frz m v v' S) (hs : Frz m (.agg vs) (.agg vs') T) : Frz m (.agg (v :: vs)) (.agg (v' :: vs')) (S ++ T)
  | fn {f : FuncId} {cs cs' : List LV} {T : List Nat} (h : Frz m (.agg cs) (.agg cs') T) : Frz m (.fn f cs) (.fn f cs') T

def markE (m : Mem) : List Nat → List (Nat × Box)
  | [] => []
  | b :: r =>
    match m b with
    | some x => (b, { x with frz := true }) :: markE m r
    | none => markE m r

/-! ### Plain operations -/
def binI (op : BinOp) (k : IntKind) (a b : Int) : Option LV :=
  match op with
  | .add => some (.int k (k.wrap (a + b)))
  | .sub => some (.int k (k.wrap (a - b)))
  | .mul => some (.int k (k.wrap (a * b)))
  | .quo => if b = 0 then none else some (.int k (k.wrap (a.tdiv b)))
  | .rem => if b = 0 then none else some (.int k (a.tmod b))
  | .and => some (.int k (k.wrap (BitVec.ofInt k.bits a &&& BitVec.ofInt k.bits b).toNat))
  | .or => some (.int k (k.wrap (BitVec.ofInt k.bits a ||| BitVec.ofInt k.bits b).toNat))
  | .xor => some (.int k (k.wrap (BitVec.ofInt k.bits a ^^^ BitVec.ofInt k.bits b).toNat))
  | .andNot => some (.int k (k.wrap (BitVec.ofInt k.bits a &&& ~~~(BitVec.ofInt k.bits b)).toNat))
  | .eql => some (.bool (a == b))
  | .neq => some (.bool (a != b))
  | .lss => some (.bool (decide (a < b)))
  | .leq => some (.bool (decide (a ≤ b)))
  | .gtr => some (.bool (decide (a > b)))
  | .geq => some (.bool (decide (a ≥ b)))
  | _ => none

def binS (op : BinOp) (a b : ByteArray) : Option LV :=
  match op with
  | .add => if a.size + b.size ≤ 1099511627776 then some (.str (a ++ b)) else none
  | .eql => some (.bool (a.toList == b.toList))
  | .neq => some (.bool (!(a.toList == b.toList)))
  | _ => none

/-- Scalars of one type, compared. -/
def eqT (P : Program) (t : TypeId) (x y : LV) : Option Bool :=
  match P.underlying t, x, y with
  | some (.int _), .int k a, .int k' b => if k = k' then some (a == b) else none
  | some .bool, .bool a, .bool b => some (a == b)
  | some .string, .str a, .str b => some (a.toList == b.toList)
  | _, _, _ => none
/-- Fields that are scalars of one cell each, laid one after the other; none of them blank. -/
def eqFs (P : Program) : Nat → List Field → List LV → List LV → Option Bool
  | _, [], [], [] => some true
  | i, f :: fs, x :: xs, y :: ys =>
    if f.offset = i ∧ f.name ≠ "_" then
      match eqT P f.type x y, eqFs P (i + 1) fs xs ys with
      | some a, some b => some (a && b)
      | _, _ => none
    else none
  | _, _, _, _ => none
def eqAgg (P : Program) (t : TypeId) (xs ys : List LV) : Option Bool :=
  match P.underlying t with
  | some (.struct fs) => if P.eqGuardType P.depth t = false ∧ P.stoodInHeld t = false then eqFs P 0 fs.toList xs ys else none
  | _ => none

def isPtr : LV → Option Bool
  | .nilp => some false
  | .fad .. => some true
  | _ => none

def binL (P : Program) (op : BinOp) (t : TypeId) (x y : LV) : Option LV :=
  match x, y with
  | .int k a, .int k' b =>
    match op with
    | .shl => if b < 0 then none else some (.int k (k.wrap (a * 2 ^ min b.toNat k.bits)))
    | .shr => if b < 0 then none else some (.int k (a.fdiv (2 ^ min b.toNat k.bits)))
    | _ => if k = k' then binI op k a b else none
  | .str a, .str b => binS op a b
  | .bool a, .bool b =>
    match op, P.underlying t with
    | .eql, some .bool => some (.bool (a == b))
    | .neq, some .bool => some (.bool (!(a == b)))
    | _, _ => none
  | .agg as, .agg bs =>
    match op with
    | .eql => (eqAgg P t as bs).map .bool
    | .neq => (eqAgg P t as bs).map (fun b => .bool (!b))
    | _ => none
  | x, .nilp =>
    match op, P.underlying t, isPtr x with
    | .eql, some (.pointer _), some b => some (.bool (!b))
    | .neq, some (.pointer _), some b => some (.bool b)
    | _, _, _ => none
  | _, _ => none

def unL (op : UnOp) (x : LV) : Option LV :=
  match op, x with
  | .neg, .int k n => some (.int k (k.wrap (0 - n)))
  | .not, .bool b => some (.bool (!b))
  | _, _ => none

def convL (P : Program) (_src dst : TypeId) (x : LV) : Option LV :=
  match P.underlying dst, x with
  | some (.int k), .int _ n => some (.int k (k.wrap n))
  | _, _ => none

/-- 'build': parts laid into cells. -/
def fillL (place : Nat → Option (Nat × Nat)) (cells : List LV) : List (Nat × LV) → Option (List LV)
  | [] => some cells
  | (i, v) :: rest =>
    match place i with
    | none => none
    | some (off, size) =>
      if (cellsL v).length = size ∧ off + size ≤ cells.length then fillL place (cells.take off ++ cellsL v ++ cells.drop (off + size)) rest else none
def placeS (P : Program) (t : TypeId) (i : Nat) : Option (Nat × Nat) :=
  match P.underlying t with
  | some (.struct fs) =>
    match fs[i]? with
    | some f => match szT P f.type with | some n => some (f.offset, n) | none => none
    | none => none
  | some (.array _ e) => match szT P e with | some n => some (i * n, n) | none => none
  | _ => none
def sizesOk (P : Program) (t : TypeId) : Bool :=
  match P.underlying t with
  | some (.struct fs) => fs.toList.all fun f => (szT P f.type).isSome
  | some (.array _ e) => (szT P e).isSome
  | _ => false
def buildL (P : Program) (t : TypeId) (parts : List (Nat × LV)) : Option LV :=
  match zeroL P t with
  | some z => if sizesOk P t then (fillL (placeS P t) z parts).map .agg else none
  | none => none

/-- 'buildSlice': parts laid into elements. -/
def fillE (es : List (List LV)) : List (Nat × List LV) → List (List LV)
  | [] => es
  | (i, cs) :: rest => fillE (es.set i cs) rest
inductive FrzP (m : Mem) (sz n : Nat) (ρ : Operand → LV) : List (Nat × Operand) → List (Nat × List LV) → List Nat → Prop
  | nil : FrzP m sz n ρ [] [] []
  | cons {i : Nat} {x : Operand} {cs : List LV} {r : List (Nat × Operand)} {r' : List (Nat × List LV)} {S T : List Nat}
      (h : Frz m (.agg (cellsL (ρ x))) (.agg cs) S) (h1 : cs.all oneC = true) (hi : i < n) (hl : cs.length = sz) (hr : FrzP m sz n ρ r r' T) : FrzP m sz n ρ ((i, x) :: r) ((i, cs) :: r') (S ++ T)

def intOf : LV → Option Int
  | .int _ n => some n
  | _ => none

/-- The bounds of 'x[lo:hi:max]': low, high, max. -/
def bndL (ρ : Operand → LV) (dflt : Nat) : Option Operand → Option Nat
  | none => some dflt
  | some x =>
    match ρ x with
    | .int _ n => if 0 ≤ n then some n.toNat else none
    | _ => none

def lenL : LV → Option Nat
  | .nils => some 0
  | .own _ _ _ len _ => some len
  | .sl es => some es.length
  | .str s => some s.size
  | _ => none

def max2L : LV → LV → Option LV
  | .int k x, .int _ y => some (.int k (if y > x then y else x))
  | _, _ => none
def min2L : LV → LV → Option LV
  | .int k x, .int _ y => some (.int k (if y < x then y else x))
  | _, _ => none
def fold2L (f : LV → LV → Option LV) : LV → List LV → Option LV
  | x, [] => some x
  | x, y :: r =>
    match f x y with
    | some z => fold2L f z r
    | none => none

/-- Keys of maps: scalars. -/
def scalK (P : Program) (t : TypeId) : Bool :=
  match P.underlying t with
  | some .bool | some (.int _) | some .string => true
  | _ => false
def findL (P : Program) (t : TypeId) (k : LV) : List (List LV) → Option (Option LV)
  | [] => some none
  | [k', v] :: r =>
    match eqT P t k k' with
    | some true => some (some v)
    | some false => findL P t k r
    | none => none
  | _ :: _ => none
def setL (P : Program) (t : TypeId) (k v : LV) : List (List LV) → List (List LV)
  | [] => [[k, v]]
  | [k', v'] :: r => cond ((eqT P t k k').getD false) ([k, v] :: r) ([k', v'] :: setL P t k v r)
  | x :: r => x :: setL P t k v r

/-- What an 'append' takes: a slice's elements. -/
inductive SrcR (m : Mem) : LV → Nat → List (List LV) → List Nat → Prop
  | own {b g off len : Nat} {cap : Option Nat} {x : Box} (hm : m b = some x) (hg : x.gen = g) (hk : x.kind = .slc) (hl : off + len ≤ x.es.length) :
      SrcR m (.own b g off len cap) x.sz ((x.es.drop off).take len) [b]
  | sl {es : List (List LV)} {sz : Nat} (h : ∀ e ∈ es, e.length = sz) : SrcR m (.sl es) sz es []
  | nils {sz : Nat} : SrcR m .nils sz [] []

/-- A slice whose header is not stale. -/
inductive LiveS (m : Mem) : LV → List Nat → Prop
  | own {b g off len : Nat} {cap : Option Nat} {x : Box} (hm : m b = some x) (hg : x.gen = g) : LiveS m (.own b g off len cap) [b]
  | nils : LiveS m .nils []
  | sl {es : List (List LV)} : LiveS m (.sl es) []
  | str {s : ByteArray} : LiveS m (.str s) []
theorem LiveS.live {m : Mem} {l : LV} {R : List Nat} (h : LiveS m l R) : ∀ b g off len cap, l = .own b g off len cap → ∃ y, m b = some y ∧ y.gen = g := by
  intro b g off len cap he
  cases h with
  | own hm hg => injection he with h1 h2; subst h1 h2; exact ⟨_, hm, hg⟩
  | nils => cases he
  | sl => cases he
  | str => cases he

/-- One operation that is no call: what it answers, what it writes, what it looks at. -/
inductive OpR (P : Program) (d : Nat) (ρ : Operand → LV) (m : Mem) : Op → LV → List (Nat × Box) → List Nat → Prop
  | move {x : Operand} : OpR P d ρ m (.move x) (ρ x) [] []
  | assign {x : Operand} : OpR P d ρ m (.assign x) (ρ x) [] []
  | pick {c a b : Operand} {t : Bool} (h : ρ c = .bool t) : OpR P d ρ m (.pick c a b) (cond t (ρ a) (ρ b)) [] []
  | alloc {e : TypeId} {cs : List LV} (h : zeroL P e = some cs) :
      OpR P d ρ m (.alloc e) (.ref d (genAt m d) 0 0) [(d, ⟨genAt m d, false, .var, cs.length, [cs]⟩)] [d]
  | box {e : TypeId} {x : Operand} {cs : List LV} (h : cellsL (ρ x) = cs) (h1 : cs.all oneC = true) :
      OpR P d ρ m (.box e x) (.ref d (genAt m d) 0 0) [(d, ⟨genAt m d, false, .var, cs.length, [cs]⟩)] [d]
  | build {t : TypeId} {ps : Array (Nat × Operand)} {v : LV} (h : buildL P t (ps.toList.map fun (i, x) => (i, ρ x)) = some v)
      (hp : (ps.toList.all fun p => (cellsL (ρ p.2)).all oneC) = true) : OpR P d ρ m (.build t ps) v [] []
  | buildSlice {t e : TypeId} {n : Nat} {ps : Array (Nat × Operand)} {z : List LV} {ps' : List (Nat × List LV)} {T : List Nat}
      (ht : sliceE P t = some e) (hz : zeroL P e = some z) (hs : szT P e = some z.length) (hn : 0 < z.length) (hb : n * z.length ≤ 16777216) (hn0 : 0 < n) (hp : FrzP m z.length n ρ ps.toList ps' T) :
      OpR P d ρ m (.buildSlice t n ps) (.own d (genAt m d) 0 n none)
        (markE m T ++ [(d, ⟨genAt m d, false, .slc, z.length, fillE (List.replicate n (z.map pureC)) ps'⟩)]) (d :: T)
  | load {t : TypeId} {a : Operand} {b g i c : Nat} {x : Box} {cs : List LV} {v : LV} (ha : ρ a = .ref b g i c) (hm : m b = some x) (hg : x.gen = g) (hk : x.kind ≠ .mp)
      (he : x.es[i]? = some cs) (ht : isAggT P t = some false) (hv : cs[c]? = some v) : OpR P d ρ m (.load t a) v [] [b]
  | loadA {t : TypeId} {a : Operand} {b g i c n : Nat} {x : Box} {cs : List LV} (ha : ρ a = .ref b g i c) (hm : m b = some x) (hg : x.gen = g) (hk : x.kind ≠ .mp)
      (he : x.es[i]? = some cs) (ht : isAggT P t = some true) (hs : szT P t = some n) (hc : c + n ≤ cs.length) : OpR P d ρ m (.load t a) (.agg ((cs.drop c).take n)) [] [b]
  | loadF {t : TypeId} {a : Operand} {es : List (List LV)} {i c : Nat} {cs : List LV} {v : LV} (ha : ρ a = .fad es i c)
      (he : es[i]? = some cs) (ht : isAggT P t = some false) (hv : cs[c]? = some v) : OpR P d ρ m (.load t a) v [] []
  | loadFA {t : TypeId} {a : Operand} {es : List (List LV)} {i c n : Nat} {cs : List LV} (ha : ρ a = .fad es i c)
      (he : es[i]? = some cs) (ht : isAggT P t = some true) (hs : szT P t = some n) (hc : c + n ≤ cs.length) : OpR P d ρ m (.load t a) (.agg ((cs.drop c).take n)) [] []
  | store {t : TypeId} {a y : Operand} {b g i c n : Nat} {x : Box} {cs vs : List LV} (ha : ρ a = .ref b g i c) (hm : m b = some x) (hg : x.gen = g) (hf : x.frz = false) (hk : x.kind = .var)
      (he : x.es[i]? = some cs) (hs : szT P t = some n) (hy : cellsL (ρ y) = vs) (hl : vs.length = n) (h1 : vs.all oneC = true) (hc : c + n ≤ cs.length) :
      OpR P d ρ m (.store t a y) .skip [(b, { x with es := x.es.set i (cs.take c ++ vs ++ cs.drop (c + n)) })] [b]
  | storeP {t : TypeId} {a y : Operand} {b g i c n : Nat} {x : Box} {cs vs : List LV} {T : List Nat} (ha : ρ a = .ref b g i c) (hm : m b = some x) (hg : x.gen = g) (hf : x.frz = false) (hk : x.kind = .slc)
      (he : x.es[i]? = some cs) (hs : szT P t = some n) (hy : Frz m (.agg (cellsL (ρ y))) (.agg vs) T) (hb : b ∉ T) (hl : vs.length = n) (h1 : vs.all oneC = true) (hc : c + n ≤ cs.length) :
      OpR P d ρ m (.store t a y) .skip (markE m T ++ [(b, { x with es := x.es.set i (cs.take c ++ vs ++ cs.drop (c + n)) })]) (b :: T)
  | nilCheck {x : Operand} (h : isPtr (ρ x) = some true) : OpR P d ρ m (.nilCheck x) (ρ x) [] []
  | nilCheckR {x : Operand} {b g i c : Nat} {y : Box} (hx : ρ x = .ref b g i c) (hm : m b = some y) (hg : y.gen = g) : OpR P d ρ m (.nilCheck x) (ρ x) [] [b]
  | nilEq {t u e : TypeId} {x y : Operand} {b g i c : Nat} {z : Box} (hx : ρ x = .ref b g i c) (hm : m b = some z) (hg : z.gen = g) (hy : ρ y = .nilp) (ht : P.underlying t = some (.pointer e)) :
      OpR P d ρ m (.binOp .eql t x y u) (.bool false) [] [b]
  | nilNe {t u e : TypeId} {x y : Operand} {b g i c : Nat} {z : Box} (hx : ρ x = .ref b g i c) (hm : m b = some z) (hg : z.gen = g) (hy : ρ y = .nilp) (ht : P.underlying t = some (.pointer e)) :
      OpR P d ρ m (.binOp .neq t x y u) (.bool true) [] [b]
  | nilCheckF {x : Operand} {f : FuncId} {cs : List LV} (h : ρ x = .fn f cs) : OpR P d ρ m (.nilCheck x) (ρ x) [] []
  | bin {op : BinOp} {t u : TypeId} {x y : Operand} {v : LV} (h : binL P op t (ρ x) (ρ y) = some v) : OpR P d ρ m (.binOp op t x y u) v [] []
  | un {op : UnOp} {t : TypeId} {x : Operand} {v : LV} (h : unL op (ρ x) = some v) : OpR P d ρ m (.unOp op t x) v [] []
  | conv {s t : TypeId} {x : Operand} {v : LV} (h : convL P s t (ρ x) = some v) (hs : (P.underlying s).isSome = true) : OpR P d ρ m (.convert s t x) v [] []
  | fieldAddr {s : TypeId} {x : Operand} {f b g i c o : Nat} {y : Box} (hx : ρ x = .ref b g i c) (hm : m b = some y) (hg : y.gen = g) (ho : offF P s f = some o) : OpR P d ρ m (.fieldAddr s x f) (.ref b g i (c + o)) [] [b]
  | fieldAddrF {s : TypeId} {x : Operand} {f i c o : Nat} {es : List (List LV)} (hx : ρ x = .fad es i c) (ho : offF P s f = some o) : OpR P d ρ m (.fieldAddr s x f) (.fad es i (c + o)) [] []
  | indexAddr {t e : TypeId} {x ix : Operand} {k : IntKind} {n : Int} {b g off len : Nat} {cap : Option Nat} {y : Box} (hx : ρ x = .own b g off len cap) (hi : ρ ix = .int k n)
      (hm : m b = some y) (hg : y.gen = g) (hk : y.kind = .slc) (ht : sliceE P t = some e) (hs : szT P e = some y.sz) (h0 : 0 ≤ n) (h1 : n < (len : Int)) : OpR P d ρ m (.indexAddr t x ix) (.ref b g (off + n.toNat) 0) [] [b]
  | indexAddrF {t e : TypeId} {x ix : Operand} {k : IntKind} {n : Int} {es : List (List LV)} {sz : Nat} (hx : ρ x = .sl es) (hi : ρ ix = .int k n)
      (ht : sliceE P t = some e) (hs : szT P e = some sz) (h0 : 0 ≤ n) (h1 : n < (es.length : Int)) (hz : ∀ e ∈ es, e.length = sz) : OpR P d ρ m (.indexAddr t x ix) (.fad es n.toNat 0) [] []
  | indexAddrA {t e : TypeId} {x ix : Operand} {k : IntKind} {n : Int} {b g i c len sz : Nat} {y : Box} (hx : ρ x = .ref b g i c) (hi : ρ ix = .int k n) (hm : m b = some y) (hg : y.gen = g)
      (ht : arrayE P t = some (len, e)) (hs : szT P e = some sz) (h0 : 0 ≤ n) (h1 : n < (len : Int)) : OpR P d ρ m (.indexAddr t x ix) (.ref b g i (c + n.toNat * sz)) [] [b]
  | indexAddrFA {t e : TypeId} {x ix : Operand} {k : IntKind} {n : Int} {es : List (List LV)} {i c len sz : Nat} (hx : ρ x = .fad es i c) (hi : ρ ix = .int k n)
      (ht : arrayE P t = some (len, e)) (hs : szT P e = some sz) (h0 : 0 ≤ n) (h1 : n < (len : Int)) : OpR P d ρ m (.indexAddr t x ix) (.fad es i (c + n.toNat * sz)) [] []
  | field {t : TypeId} {x : Operand} {f o : Nat} {cs : List LV} {fs : Array Field} {fd : Field} {v : LV} (hx : ρ x = .agg cs) (ht : P.underlying t = some (.struct fs)) (hf : fs[f]? = some fd)
      (ho : fd.offset = o) (ha : isAggT P fd.type = some false) (hv : cs[o]? = some v) : OpR P d ρ m (.field t x f) v [] []
  | fieldA {t : TypeId} {x : Operand} {f o n : Nat} {cs : List LV} {fs : Array Field} {fd : Field} (hx : ρ x = .agg cs) (ht : P.underlying t = some (.struct fs)) (hf : fs[f]? = some fd)
      (ho : fd.offset = o) (ha : isAggT P fd.type = some true) (hs : szT P fd.type = some n) (hc : o + n ≤ cs.length) : OpR P d ρ m (.field t x f) (.agg ((cs.drop o).take n)) [] []
  | indexS {t : TypeId} {x ix : Operand} {k : IntKind} {n : Int} {s : ByteArray} (hx : ρ x = .str s) (hi : ρ ix = .int k n) (ht : P.underlying t = some .string) (h0 : 0 ≤ n) (h1 : n.toNat < s.size) :
      OpR P d ρ m (.index t x ix) (.int .u8 ((s[n.toNat]'h1).toNat : Int)) [] []
  | slice {t e : TypeId} {x : Operand} {lo hi : Option Operand} {b g off len l h : Nat} {cap : Option Nat} {y : Box} (hx : ρ x = .own b g off len cap) (hm : m b = some y) (hg : y.gen = g) (hk : y.kind = .slc)
      (ht : sliceE P t = some e) (hs : szT P e = some y.sz) (hl : bndL ρ 0 lo = some l) (hh : bndL ρ len hi = some h) (h1 : l ≤ h) (h2 : off + h ≤ y.es.length) (h3 : ∀ c, cap = some c → h ≤ c) :
      OpR P d ρ m (.slice t x lo hi none) (.own b g (off + l) (h - l) (cap.map (· - l))) [] [b]
  | slice3 {t e : TypeId} {x : Operand} {lo hi : Option Operand} {mx : Operand} {b g off len l h c : Nat} {cap : Option Nat} {y : Box} (hx : ρ x = .own b g off len cap) (hm : m b = some y) (hg : y.gen = g) (hk : y.kind = .slc)
      (ht : sliceE P t = some e) (hs : szT P e = some y.sz) (hl : bndL ρ 0 lo = some l) (hhs : hi.isSome = true) (hh : bndL ρ len hi = some h) (hc : bndL ρ 0 (some mx) = some c) (h1 : l ≤ h) (h2 : h ≤ c) (h3 : off + c ≤ y.es.length) (h4 : ∀ k, cap = some k → c ≤ k) :
      OpR P d ρ m (.slice t x lo hi (some mx)) (.own b g (off + l) (h - l) (some (c - l))) [] [b]
  | sliceF {t e : TypeId} {x : Operand} {lo hi : Option Operand} {es : List (List LV)} {l h sz : Nat} (hx : ρ x = .sl es) (ht : sliceE P t = some e) (hs : szT P e = some sz) (hz : ∀ e ∈ es, e.length = sz)
      (hl : bndL ρ 0 lo = some l) (hh : bndL ρ es.length hi = some h) (h1 : l ≤ h) (h2 : h ≤ es.length) : OpR P d ρ m (.slice t x lo hi none) (.sl ((es.drop l).take (h - l))) [] []
  | sliceN {t e : TypeId} {x : Operand} {lo hi : Option Operand} {l h sz : Nat} (hx : ρ x = .nils) (ht : sliceE P t = some e) (hs : szT P e = some sz)
      (hl : bndL ρ 0 lo = some l) (hh : bndL ρ 0 hi = some h) (h1 : l ≤ h) (h2 : h ≤ 0) : OpR P d ρ m (.slice t x lo hi none) .nils [] []
  | sliceS {t : TypeId} {x : Operand} {lo hi : Option Operand} {s : ByteArray} {l h : Nat} (hx : ρ x = .str s) (ht : P.underlying t = some .string)
      (hl : bndL ρ 0 lo = some l) (hh : bndL ρ s.size hi = some h) (h1 : l ≤ h) (h2 : h ≤ s.size) : OpR P d ρ m (.slice t x lo hi none) (.str (s.extract l h)) [] []
  | makeSlice {t e : TypeId} {ln cp : Operand} {k k' : IntKind} {n c : Int} {z : List LV} (ht : sliceE P t = some e) (hz : zeroL P e = some z) (hs : szT P e = some z.length) (hzl : 0 < z.length)
      (hn : ρ ln = .int k n) (hc : ρ cp = .int k' c) (h0 : 0 ≤ n) (h1 : n ≤ c) (h2 : c ≤ 4294967296) (hb : P.bytesOf e ≤ 4096) :
      OpR P d ρ m (.makeSlice t ln cp) (.own d (genAt m d) 0 n.toNat none) [(d, ⟨genAt m d, false, .slc, z.length, List.replicate c.toNat (z.map pureC)⟩)] [d]
  | makeMap {t : TypeId} : OpR P d ρ m (.makeMap t none) (.mref d (genAt m d)) [(d, ⟨genAt m d, false, .mp, 2, []⟩)] [d]
  | lookup {t kt et : TypeId} {x ix : Operand} {ok : Bool} {b g : Nat} {y : Box} {r : Option LV} {z : LV} (hx : ρ x = .mref b g) (hm : m b = some y) (hg : y.gen = g) (hk : y.kind = .mp)
      (ht : P.underlying t = some (.map kt et)) (hkt : scalK P kt = true) (hz : zero1L P et = some z) (h : findL P kt (ρ ix) y.es = some r) :
      OpR P d ρ m (.lookup t x ix ok) (cond ok (.tup [r.getD z, .bool r.isSome]) (r.getD z)) [] [b]
  | mapUpdate {t kt et : TypeId} {x ix y : Operand} {b g : Nat} {bx : Box} {r : Option LV} (hx : ρ x = .mref b g) (hm : m b = some bx) (hg : bx.gen = g) (hk : bx.kind = .mp) (hf : bx.frz = false)
      (ht : P.underlying t = some (.map kt et)) (hkt : scalK P kt = true) (hkp : pureL (ρ ix) = true) (h : findL P kt (ρ ix) bx.es = some r) (hp : pureL (ρ y) = true) :
      OpR P d ρ m (.mapUpdate t x ix y) .skip [(b, { bx with es := setL P kt (ρ ix) (ρ y) bx.es })] [b]
  | extract {x : Operand} {i : Nat} {vs : List LV} {v : LV} (hx : ρ x = .tup vs) (hv : vs[i]? = some v) : OpR P d ρ m (.extract x i) v [] []
  | makeFunc {f : FuncId} {cap : Array Operand} : OpR P d ρ m (.makeFunc (.func f) #[] cap) (.fn f (cap.toList.map ρ)) [] []
  | len {x : Operand} {t : TypeId} {n : Nat} {R : List Nat} (h : lenL (ρ x) = some n) (hl : LiveS m (ρ x) R)
      (ht : ((∃ e, P.underlying t = some (.slice e)) ∧ ∀ s, ρ x ≠ .str s) ∨ (P.underlying t = some .string ∧ ∃ s, ρ x = .str s)) :
      OpR P d ρ m (.call { callee := .builtin .len, args := #[x], argTypes := #[t] }) (.int .i64 n) [] R
  | lenM {x : Operand} {t kt et : TypeId} {b g : Nat} {y : Box} (hx : ρ x = .mref b g) (hm : m b = some y) (hg : y.gen = g) (hk : y.kind = .mp) (ht : P.underlying t = some (.map kt et)) :
      OpR P d ρ m (.call { callee := .builtin .len, args := #[x], argTypes := #[t] }) (.int .i64 y.es.length) [] [b]
  | max {x : Operand} {xs : List Operand} {ts : Array TypeId} {v : LV} (h : fold2L max2L (ρ x) (xs.map ρ) = some v) :
      OpR P d ρ m (.call { callee := .builtin .max, args := (x :: xs).toArray, argTypes := ts }) v [] []
  | min {x : Operand} {xs : List Operand} {ts : Array TypeId} {v : LV} (h : fold2L min2L (ρ x) (xs.map ρ) = some v) :
      OpR P d ρ m (.call { callee := .builtin .min, args := (x :: xs).toArray, argTypes := ts }) v [] []
  | appendN {x y : Operand} {t u e : TypeId} {es : List (List LV)} {z : List LV} {R : List Nat} (hx : ρ x = .nils) (ht : sliceE P t = some e) (hu : u = t) (hz : zeroL P e = some z) (hs : szT P e = some z.length) (hzl : 0 < z.length)
      (hy : SrcR m (ρ y) z.length es R) (h0 : 0 < es.length) (hone : ∀ e ∈ es, e.all oneC = true) (h1 : es.length ≤ 4294967296) (hb : P.bytesOf e ≤ 4096) :
      OpR P d ρ m (.call { callee := .builtin .append, args := #[x, y], argTypes := #[t, u] }) (.own d (genAt m d) 0 es.length none) [(d, ⟨genAt m d, false, .slc, z.length, es⟩)] (d :: R)
  | append0 {x y : Operand} {t u e : TypeId} {n : Nat} {R S : List Nat} (hx : lenL (ρ x) = some n) (hxs : ∀ s, ρ x ≠ .str s) (ht : sliceE P t = some e) (hu : u = t) (hsz : (szT P e).isSome = true) (hy : lenL (ρ y) = some 0) (hys : ∀ s, ρ y ≠ .str s) (hlx : LiveS m (ρ x) R) (hly : LiveS m (ρ y) S) :
      OpR P d ρ m (.call { callee := .builtin .append, args := #[x, y], argTypes := #[t, u] }) (ρ x) [] (R ++ S)
  | append {x y : Operand} {t u e : TypeId} {b g off len : Nat} {bx : Box} {es : List (List LV)} {z : List LV} {R : List Nat} (hx : ρ x = .own b g off len none) (hm : m b = some bx) (hg : bx.gen = g) (hf : bx.frz = false) (hk : bx.kind = .slc)
      (hend : off + len = bx.es.length) (ht : sliceE P t = some e) (hu : u = t) (hz : zeroL P e = some z) (hs : szT P e = some z.length) (hzs : bx.sz = z.length) (hzl : 0 < z.length) (hy : SrcR m (ρ y) z.length es R) (hyb : b ∉ R)
      (h0 : 0 < es.length) (hone : ∀ e ∈ es, e.all oneC = true) (h1 : len + es.length ≤ 4294967296) (hb : P.bytesOf e ≤ 4096) :
      OpR P d ρ m (.call { callee := .builtin .append, args := #[x, y], argTypes := #[t, u] }) (.own b (g + 1) 0 (len + es.length) none) [(b, { bx with gen := g + 1, es := bx.es.drop off ++ es })] (b :: R)
  | appendC {x y : Operand} {t u e : TypeId} {b g off len c : Nat} {bx : Box} {es : List (List LV)} {z : List LV} {R : List Nat} (hx : ρ x = .own b g off len (some c)) (hm : m b = some bx) (hg : bx.gen = g) (hk : bx.kind = .slc)
      (hl : off + len ≤ bx.es.length) (ht : sliceE P t = some e) (hu : u = t) (hz : zeroL P e = some z) (hs : szT P e = some z.length) (hzs : bx.sz = z.length) (hzl : 0 < z.length) (hy : SrcR m (ρ y) z.length es R)
      (h0 : 0 < es.length) (hgr : c < len + es.length) (h1 : len + es.length ≤ 4294967296) (hb : P.bytesOf e ≤ 4096) :
      OpR P d ρ m (.call { callee := .builtin .append, args := #[x, y], argTypes := #[t, u] }) (.own d (genAt m d) 0 (len + es.length) none) [(d, ⟨genAt m d, false, .slc, z.length, (bx.es.drop off).take len ++ es⟩)] (d :: b :: R)
end Go.Proofs.Ytpepcfombibpeaa.Mv
