/- The calculus by which the program is walked, and its plain laws: part A. -/
import Derived.Calls
import Derived.Orders
import Derived.Laws.Sem
import Derived.Laws.CopyRow
import Derived.Laws.AppendOwn
import Derived.Laws.Append
import Derived.ChangeKeysEq
import Derived.Laws.Tables
import Derived.Great.BuildSlice
import Derived.Laws.MakeOwn
import Derived.Laws.StructEq
import Derived.Laws.Pointers
import Derived.Laws.Cover3
set_option linter.all false
namespace Go.Proofs.Ytoadnomjbibcgaa.Mv
def YdK := @Nat.le_of_ble_eq_true
def YdL := @Array.getElem?_eq_getElem
def YdM := @List.getElem?_eq_some_iff
def YdN := @List.length_append
def YdO := @List.getElem?_eq_getElem
def YdP := @List.take_of_length_le
def YdQ := @List.length_set
def YdR := @List.take_succ_cons
def YdS := @List.set_cons_zero
def YdT := @List.set_cons_succ
def YdU := @List.drop_succ_cons
def YdV := @List.mem_cons_of_mem
def YdW := @List.cons_append
def YdX := @List.append_nil
def YdY := @List.nil_append
def YdZ := @Nat.zero_add
def Ye0 := @Bool.and_eq_true
def Ye1 := @Nat.zero_le
def Ye2 := @Nat.le_refl
def Ye3 := @List.drop_zero
def Ye4 := @List.length_map
def Ye5 := @Nat.le_trans
def Ye6 := @List.take_zero
def Ye7 := @Array.getD_eq_getD_getElem?
def Ye8 := @List.mem_map
def Ye9 := @List.getD_eq_getElem?_getD
def Yea := @List.drop_nil
def Yeb := @List.take_nil
def Yec := @List.nodup_nil
def Yed := @List.all_eq_true
def Yee := @List.mem_append_left
def Yef := @List.getElem?_append_left
def Yeg := @List.mem_append_right
def Yeh := @Array.getElem?_eq_some_iff
def Yei := @List.mem_append
def Yej := @List.mem_singleton
def Yek := @List.length_take
def Yel := @Result.andThen_ok
def Yem := @Option.some.injEq
def Yen := @List.length_cons
def Yeo := @List.eq_nil_of_length_eq_zero
def Yep := @List.mem_cons
def Yeq := @List.getElem?_append_right
def Yer := @List.length_singleton
def Yes := @Array.getElem?_setIfInBounds_self_of_lt
def Yet := @List.mem_of_getElem?
def Yeu := @Array.getElem?_setIfInBounds_ne
def Yev := @List.mem_cons_self
def Yew := @List.getElem?_cons_zero
def Yex := @List.length_filter_le
def Yey := @List.map_cons
def Yez := @List.length_drop
def YeA := @Option.getD_some
def YeB := @Nat.add_mul
def YeC := @List.mem_of_mem_take
def YeD := @Array.getElem?_toList
def YeE := @List.mem_of_mem_drop
def YeF := @List.getElem?_set_ne
def YeG := @List.foldl_append
def YeH := @List.getElem?_set_self
def YeI := @List.mem_range
def YeJ := @Bool.and_false
def YeK := @Array.getElem?_append_left
def YeL := @List.mem_filter
def YeM := @List.length_nil
def YeN := @Array.length_toList
def YeO := @List.getElem_mem
def YeP := @Nat.eq_of_beq_eq_true
def YeQ := @List.eq_of_mem_replicate
def YeR := @List.length_replicate
def YeS := @List.getElem?_eq_none
def YeT := @Int.toNat_natCast
def YeU := @List.getElem?_take
def YeV := @List.nodup_cons
def YeW := @List.getElem_of_mem
def YeX := @Nat.mul_le_mul_right
def YeY := @List.getElem?_map
def YeZ := @List.mem_or_eq_of_mem_set
def Yf0 := @Nat.add_assoc
def Yf1 := @Option.map_some
def Yf2 := @Bool.eq_iff_iff
def Yf3 := @List.getElem?_drop
def Yf4 := @Bool.false_eq_true
def Yf5 := @Bool.false_and
def Yf6 := @List.map_congr_left
def Yf7 := @List.foldl_cons
def Yf8 := @Option.isSome_iff_exists
def Yf9 := @Array.getElem?_append_right
def Yfa := @List.all_cons
def Yfb := @Array.getElem?_extract
def Yfc := @List.map_append
def Yfd := @List.filter_cons
def Yfe := @List.getElem?_toArray
def Yff := @List.nodup_append
def Yfg := @List.take_append_drop
def Yfh := @Nat.lt_of_lt_of_le
def Yfi := @List.map_nil
def Yfj := @Array.getElem?_push
def Yfk := @List.append_assoc
def Yfl := @Nat.pos_of_ne_zero
def Yfm := @Nat.eq_zero_or_pos
def Yfn := @List.filter_append
def Yfo := @List.pairwise_cons
def Yfp := @Bool.not_eq_true
def Yfq := @List.range_eq_range'
def Yfr := @List.getD_cons_succ
def Yfs := @Nat.not_lt_zero
def Yft := @List.map_toArray
def Yfu := @Nat.lt_succ_self
def Yfv := @List.not_mem_nil
def Yfw := @List.take_length
def Yfx := @Nat.beq_refl
def Yfy := @Nat.add_right_comm
def Yfz := @List.mem_iff_getElem
def YfA := @List.pairwise_append
def YfB := @List.size_toArray
def YfC := @List.flatten_cons
def YfD := @Nat.zero_mul
def YfE := @Nat.add_zero
def YfF := @Bool.and_true
def YfG := @Nat.div_lt_iff_lt_mul
def YfH := @Bool.or_eq_true
def YfI := @Nat.le_succ
def YfJ := @List.range_succ
def YfK := @List.pairwise_iff_getElem
def YfL := @Bool.true_and
def YfM := @Array.getElem?_eq_none
def YfN := @List.drop_of_length_le
def YfO := @Option.map_eq_some_iff
def YfP := @Bool.not_eq_true'
def YfQ := @Bool.and_assoc
def YfR := @List.range'_succ
def YfS := @List.any_eq_true
def YfT := @List.mem_flatten
def YfU := @List.perm_middle
inductive LV where
 | undef
 | skip
 | int (k:IntKind) (n:Int)
 | bool (b:Bool)
 | str (s:ByteArray)
 | nilp
 | nils
 | nilm
 | sl (es:List (List LV))
 | slo (sz:Nat) (es:List (List LV))
 | fmap (es:List (List LV))
 | own (b g off len:Nat) (cap:Option Nat)
 | ref (b g i c:Nat)
 | mref (b g:Nat)
 | fad (es:List (List LV)) (i c:Nat)
 | agg (cs:List LV)
 | tup (vs:List LV)
 | fn (f:FuncId) (caps:List LV)
 | ptro (cs:List LV)
 deriving Inhabited
inductive BK where
 | var | slc | mp | nst
def isSl:BK→Bool
 | .slc=>true
 | .nst=>true
 | _=>false
theorem Y3f {k:BK}(h:isSl k=true): k≠.mp:=fun e=>by rw[e] at h;cases h
structure Box where
 gen:Nat
 frz:Bool
 kind:BK
 sz:Nat
 es:List (List LV)
abbrev Slots:=Nat→LV
abbrev Mem:=Nat→Option Box
structure St where
 ts:Slots
 m:Mem
def updS (f:Slots)(i:Nat)(v:LV): Slots:=fun j=>cond (Nat.beq i j) v (f j)
def updM (f:Mem)(i:Nat)(b:Box): Mem:=fun j=>cond (Nat.beq i j) (some b) (f j)
theorem Y0N (f:Slots)(i:Nat)(v:LV): updS f i v i=v:=by simp[updS]
theorem Y3u (f:Slots){i j:Nat}(v:LV)(h:i≠j): updS f i v j=f j:=by
 have:Nat.beq i j=false:=by
  cases h':Nat.beq i j
  ·rfl
  ·exact absurd (YeP h') h
 simp[updS,this]
theorem Y07 (f:Mem)(i:Nat)(v:Box): updM f i v i=some v:=by simp[updM]
theorem Y0e (f:Mem){i j:Nat}(v:Box)(h:i≠j): updM f i v j=f j:=by
 have:Nat.beq i j=false:=by
  cases h':Nat.beq i j
  ·rfl
  ·exact absurd (YeP h') h
 simp[updM,this]
def putS (f:Slots)(d:Option Nat)(v:LV): Slots :=
 match d with
 | some i=>updS f i v
 | none=>f
def effM (f:Mem): List (Nat × Box)→Mem
 | []=>f
 | (n,b)::r=>effM (updM f n b) r
def genAt (m:Mem)(n:Nat): Nat :=
 match m n with
 | some x=>x.gen+1
 | none=>0
def szT (P:Program)(t:TypeId): Option Nat:=(P.info? t).map (·.size)
def isAggT (P:Program)(t:TypeId): Option Bool :=
 match P.underlying t with
 | some (.struct _) | some (.array _ _)=>some true
 | some _=>some false
 | none=>none
def offF (P:Program)(s:TypeId)(f:Nat): Option Nat :=
 match P.underlying s with
 | some (.struct fs) =>
  match fs[f]? with
  | some fd =>
   match szT P fd.type with
   | some n=>if n=0 then none else some fd.offset
   | none=>none
  | none=>none
 | _=>none
def sliceE (P:Program)(t:TypeId): Option TypeId :=
 match P.underlying t with
 | some (.slice e)=>some e
 | _=>none
def arrayE (P:Program)(t:TypeId): Option (Nat × TypeId) :=
 match P.underlying t with
 | some (.array n e)=>some (n,e)
 | _=>none
def constC:Value→LV
 | .int k n=>.int k n
 | .bool b=>.bool b
 | .string s=>.str s
 | .pointer none=>.nilp
 | .slice none 0 0=>.nils
 | .map none=>.nilm
 | _=>.undef
def constL:Value→LV
 | .agg cs=>.agg (cs.toList.map constC)
 | v=>constC v
def pureC:LV→LV
 | .nils=>.sl []
 | v=>v
def zeroL (P:Program)(t:TypeId): Option (List LV) :=
 match P.info? t with
 | some i =>
  match i.zero with
  | some v=>some (v.cells.toList.map constC)
  | none=>none
 | none=>none
def zero1L (P:Program)(t:TypeId): Option LV :=
 match P.info? t with
 | some i =>
  match i.zero with
  | some (.agg _)=>none
  | some v=>some (constC v)
  | none=>none
 | none=>none
def evalO (f:Slots): Operand→LV
 | .tmp t=>f t
 | .const v=>constL v
 | .func g=>.fn g []
 | .global _=>.undef
def cellsL:LV→List LV
 | .agg cs=>cs
 | v=>[v]
def oneC:LV→Bool
 | .agg _=>false
 | .tup _=>false
 | .slo ..=>false
 | .ptro _=>false
 | .undef=>false
 | .skip=>false
 | _=>true
def pureL:LV→Bool
 | .own ..=>false
 | .ref ..=>false
 | .mref ..=>false
 | .agg _=>false
 | .tup _=>false
 | .slo ..=>false
 | .ptro _=>false
 | .undef=>false
 | .skip=>false
 | .nils=>false
 | .nilm=>false
 | .fn _ _=>false
 | _=>true
inductive Frz (m:Mem):LV→LV→List Nat→Prop
 | pure {v:LV}(h:pureL v=true):Frz m v v []
 | nils:Frz m .nils (.sl []) []
 | nilm:Frz m .nilm (.fmap []) []
 | nilmE:Frz m .nilm .nilm []
 | refU {b g i c:Nat}:Frz m (.ref b g i c) .undef []
 | undU:Frz m .undef .undef []
 | own {b g off len:Nat}{cap:Option Nat}{x:Box}(hm:m b=some x) (hg:x.gen=g) (hk:x.kind=.slc) (hl:off+len≤x.es.length) :
   Frz m (.own b g off len cap) (.sl ((x.es.drop off).take len)) [b]
 | mref {b g:Nat}{x:Box}(hm:m b=some x) (hg:x.gen=g) (hk:x.kind=.mp) (hn:x.sz=2):Frz m (.mref b g) (.fmap x.es) [b]
 | ref {b g c:Nat}{x:Box}{cs cs':List LV}{T:List Nat}(hm:m b=some x) (hg:x.gen=g) (hk:x.kind=.var) (he:x.es=[cs])
   (hc:Frz m (.agg cs) (.agg cs') T):Frz m (.ref b g 0 c) (.fad [cs'] 0 c) (b::T)
 | aggn:Frz m (.agg []) (.agg []) []
 | aggc {v v':LV}{vs vs':List LV}{S T:List Nat}(h:Frz m v v' S) (hs:Frz m (.agg vs) (.agg vs') T):Frz m (.agg (v::vs)) (.agg (v'::vs')) (S++T)
 | fn {f:FuncId}{cs cs':List LV}{T:List Nat}(h:Frz m (.agg cs) (.agg cs') T):Frz m (.fn f cs) (.fn f cs') T
def markE (m:Mem): List Nat→List (Nat × Box)
 | []=>[]
 | b::r =>
  match m b with
  | some x=>(b,{ x with frz:=true })::markE m r
  | none=>markE m r
def binI (op:BinOp)(k:IntKind)(a b:Int): Option LV :=
 match op with
 | .add=>some (.int k (k.wrap (a+b)))
 | .sub=>some (.int k (k.wrap (a - b)))
 | .mul=>some (.int k (k.wrap (a*b)))
 | .quo=>if b=0 then none else some (.int k (k.wrap (a.tdiv b)))
 | .rem=>if b=0 then none else some (.int k (a.tmod b))
 | .and=>some (.int k (k.wrap (BitVec.ofInt k.bits a &&& BitVec.ofInt k.bits b).toNat))
 | .or=>some (.int k (k.wrap (BitVec.ofInt k.bits a ||| BitVec.ofInt k.bits b).toNat))
 | .xor=>some (.int k (k.wrap (BitVec.ofInt k.bits a ^^^ BitVec.ofInt k.bits b).toNat))
 | .andNot=>some (.int k (k.wrap (BitVec.ofInt k.bits a &&& ~~~(BitVec.ofInt k.bits b)).toNat))
 | .eql=>some (.bool (a == b))
 | .neq=>some (.bool (a != b))
 | .lss=>some (.bool (decide (a<b)))
 | .leq=>some (.bool (decide (a≤b)))
 | .gtr=>some (.bool (decide (a>b)))
 | .geq=>some (.bool (decide (a≥b)))
 | _=>none
def binS (op:BinOp)(a b:ByteArray): Option LV :=
 match op with
 | .add=>if a.size+b.size≤1099511627776 then some (.str (a++b)) else none
 | .eql=>some (.bool (a.toList == b.toList))
 | .neq=>some (.bool (!(a.toList == b.toList)))
 | _=>none
def eqT (P:Program)(t:TypeId)(x y:LV): Option Bool :=
 match P.underlying t,x,y with
 | some (.int _),.int k a,.int k' b=>if k=k' then some (a == b) else none
 | some .bool,.bool a,.bool b=>some (a == b)
 | some .string,.str a,.str b=>some (a.toList == b.toList)
 | _,_,_=>none
def eqFs (P:Program): Nat→List Field→List LV→List LV→Option Bool
 | _,[],[],[]=>some true
 | i,f::fs,x::xs,y::ys =>
  if f.offset = i ∧ f.name ≠ "_" then
   match eqT P f.type x y,eqFs P (i+1) fs xs ys with
   | some a,some b=>some (a && b)
   | _,_=>none
  else none
 | _,_,_,_=>none
def eqAs (P:Program)(e:TypeId): List LV→List LV→Option Bool
 | [],[]=>some true
 | x::xs,y::ys =>
  match eqT P e x y,eqAs P e xs ys with
  | some a,some b=>some (a && b)
  | _,_=>none
 | _,_=>none
def eqAgg (P:Program)(t:TypeId)(xs ys:List LV): Option Bool :=
 match P.underlying t with
 | some (.struct fs)=>if P.eqGuardType P.depth t=false∧P.stoodInHeld t=false then eqFs P 0 fs.toList xs ys else none
 | some (.array n e)=>if P.eqGuardType P.depth t=false∧P.cellsOf e=1∧(P.info? e).isSome=true∧n=xs.length then eqAs P e xs ys else none
 | _=>none
def isPtr:LV→Option Bool
 | .nilp=>some false
 | .fad ..=>some true
 | _=>none
def binL (P:Program)(op:BinOp)(t:TypeId)(x y:LV): Option LV :=
 match x,y with
 | .int k a,.int k' b =>
  match op with
  | .shl=>if b<0 then none else some (.int k (k.wrap (a*2 ^ min b.toNat k.bits)))
  | .shr=>if b<0 then none else some (.int k (a.fdiv (2 ^ min b.toNat k.bits)))
  | _=>if k=k' then binI op k a b else none
 | .str a,.str b=>binS op a b
 | .bool a,.bool b =>
  match op,P.underlying t with
  | .eql,some .bool=>some (.bool (a == b))
  | .neq,some .bool=>some (.bool (!(a == b)))
  | _,_=>none
 | .agg as,.agg bs =>
  match op with
  | .eql=>(eqAgg P t as bs).map .bool
  | .neq=>(eqAgg P t as bs).map (fun b=>.bool (!b))
  | _=>none
 | x,.nilp =>
  match op,P.underlying t,isPtr x with
  | .eql,some (.pointer _),some b=>some (.bool (!b))
  | .neq,some (.pointer _),some b=>some (.bool b)
  | _,_,_=>none
 | .nilm,.nilm =>
  match op,P.underlying t with
  | .eql,some (.map _ _)=>some (.bool true)
  | .neq,some (.map _ _)=>some (.bool false)
  | _,_=>none
 | _,_=>none
def unL (op:UnOp)(x:LV): Option LV :=
 match op,x with
 | .neg,.int k n=>some (.int k (k.wrap (0 - n)))
 | .not,.bool b=>some (.bool (!b))
 | _,_=>none
def convL (P:Program)(_src dst:TypeId)(x:LV): Option LV :=
 match P.underlying dst,x with
 | some (.int k),.int _ n=>some (.int k (k.wrap n))
 | _,_=>none
def fillL (place:Nat→Option (Nat × Nat))(cells:List LV): List (Nat × LV)→Option (List LV)
 | []=>some cells
 | (i,v)::rest =>
  match place i with
  | none=>none
  | some (off,size) =>
   if (cellsL v).length=size∧off+size≤cells.length then fillL place (cells.take off++cellsL v++cells.drop (off+size)) rest else none
def placeS (P:Program)(t:TypeId)(i:Nat): Option (Nat × Nat) :=
 match P.underlying t with
 | some (.struct fs) =>
  match fs[i]? with
  | some f=>match szT P f.type with | some n=>some (f.offset,n) | none=>none
  | none=>none
 | some (.array _ e)=>match szT P e with | some n=>some (i*n,n) | none=>none
 | _=>none
def sizesOk (P:Program)(t:TypeId): Bool :=
 match P.underlying t with
 | some (.struct fs)=>fs.toList.all fun f=>(szT P f.type).isSome
 | some (.array _ e)=>(szT P e).isSome
 | _=>false
def buildL (P:Program)(t:TypeId)(parts:List (Nat × LV)): Option LV :=
 match zeroL P t with
 | some z=>if sizesOk P t then (fillL (placeS P t) z parts).map .agg else none
 | none=>none
def fillE (es:List (List LV)): List (Nat × List LV)→List (List LV)
 | []=>es
 | (i,cs)::rest=>fillE (es.set i cs) rest
inductive FrzP (m:Mem) (sz n:Nat) (ρ:Operand→LV):List (Nat × Operand)→List (Nat × List LV)→List Nat→Prop
 | nil:FrzP m sz n ρ [] [] []
 | cons {i:Nat}{x:Operand}{cs:List LV}{r:List (Nat × Operand)}{r':List (Nat × List LV)}{S T:List Nat}
   (h:Frz m (.agg (cellsL (ρ x))) (.agg cs) S) (h1:cs.all oneC=true) (hi:i<n) (hl:cs.length=sz) (hr:FrzP m sz n ρ r r' T):FrzP m sz n ρ ((i,x)::r) ((i,cs)::r') (S++T)
def intOf:LV→Option Int
 | .int _ n=>some n
 | _=>none
def bndL (ρ:Operand→LV)(dflt:Nat): Option Operand→Option Nat
 | none=>some dflt
 | some x =>
  match ρ x with
  | .int _ n=>if 0≤n then some n.toNat else none
  | _=>none
def lenL:LV→Option Nat
 | .nils=>some 0
 | .own _ _ _ len _=>some len
 | .sl es=>some es.length
 | .str s=>some s.size
 | _=>none
def max2L:LV→LV→Option LV
 | .int k x,.int _ y=>some (.int k (if y>x then y else x))
 | _,_=>none
def min2L:LV→LV→Option LV
 | .int k x,.int _ y=>some (.int k (if y<x then y else x))
 | _,_=>none
def fold2L (f:LV→LV→Option LV): LV→List LV→Option LV
 | x,[]=>some x
 | x,y::r =>
  match f x y with
  | some z=>fold2L f z r
  | none=>none
def scalK (P:Program)(t:TypeId): Bool :=
 match P.underlying t with
 | some .bool | some (.int _) | some .string=>true
 | _=>false
def eqK (P:Program)(t:TypeId)(x y:LV): Option Bool :=
 match x,y with
 | .agg xs,.agg ys=>eqAgg P t xs ys
 | _,_=>eqT P t x y
def fieldsK (P:Program): Nat→List Field→Bool
 | _,[]=>true
 | i,f::fs=>decide (f.offset=i) && decide (szT P f.type=some 1) && decide (isAggT P f.type=some false) && scalK P f.type && fieldsK P (i+1) fs
def keyK (P:Program)(t:TypeId): LV→Bool
 | .agg cs =>
  match P.underlying t with
  | some (.struct fs)=>fieldsK P 0 fs.toList && decide (cs.length=fs.size) && cs.all pureL
  | _=>false
 | v=>scalK P t && pureL v
def findL (P:Program)(t:TypeId)(k:LV): List (List LV)→Option (Option LV)
 | []=>some none
 | [k',v]::r =>
  match eqK P t k k' with
  | some true=>some (some v)
  | some false=>findL P t k r
  | none=>none
 | _::_=>none
def setL (P:Program)(t:TypeId)(k v:LV): List (List LV)→List (List LV)
 | []=>[[k,v]]
 | [k',v']::r=>cond ((eqK P t k k').getD false) ([k,v]::r) ([k',v']::setL P t k v r)
 | x::r=>x::setL P t k v r
inductive SrcR (m:Mem):LV→Nat→List (List LV)→List Nat→Prop
 | own {b g off len:Nat}{cap:Option Nat}{x:Box}(hm:m b=some x) (hg:x.gen=g) (hk:x.kind=.slc) (hl:off+len≤x.es.length) :
   SrcR m (.own b g off len cap) x.sz ((x.es.drop off).take len) [b]
 | sl {es:List (List LV)}{sz:Nat}(h:∀ e∈es,e.length=sz):SrcR m (.sl es) sz es []
 | nils {sz:Nat}:SrcR m .nils sz [] []
inductive LiveS (m:Mem):LV→List Nat→Prop
 | own {b g off len:Nat}{cap:Option Nat}{x:Box}(hm:m b=some x) (hg:x.gen=g):LiveS m (.own b g off len cap) [b]
 | nils:LiveS m .nils []
 | sl {es:List (List LV)}:LiveS m (.sl es) []
 | str {s:ByteArray}:LiveS m (.str s) []
theorem LiveS.live {m:Mem}{l:LV}{R:List Nat}(h:LiveS m l R): ∀ b g off len cap,l=.own b g off len cap→∃ y,m b=some y∧y.gen=g:=by
 intro b g off len cap he
 cases h with
 | own hm hg=>injection he with h1 h2;subst h1 h2;exact⟨_,hm,hg⟩
 | nils=>cases he
 | sl=>cases he
 | str=>cases he
inductive OpR (P:Program) (d:Nat) (ρ:Operand→LV) (m:Mem):Op→LV→List (Nat × Box)→List Nat→Prop
 | move {x:Operand}:OpR P d ρ m (.move x) (ρ x) [] []
 | assign {x:Operand}:OpR P d ρ m (.assign x) (ρ x) [] []
 | pick {c a b:Operand}{t:Bool}(h:ρ c=.bool t):OpR P d ρ m (.pick c a b) (cond t (ρ a) (ρ b)) [] []
 | alloc {e:TypeId}{cs:List LV}(h:zeroL P e=some cs) :
   OpR P d ρ m (.alloc e) (.ref d (genAt m d) 0 0) [(d,⟨genAt m d,false,.var,cs.length,[cs]⟩)] [d]
 | box {e:TypeId}{x:Operand}{cs:List LV}(h:cellsL (ρ x)=cs) (h1:cs.all oneC=true) :
   OpR P d ρ m (.box e x) (.ref d (genAt m d) 0 0) [(d,⟨genAt m d,false,.var,cs.length,[cs]⟩)] [d]
 | build {t:TypeId}{ps:Array (Nat × Operand)}{v:LV}(h:buildL P t (ps.toList.map fun (i,x)=>(i,ρ x))=some v)
   (hp:(ps.toList.all fun p=>(cellsL (ρ p.2)).all oneC)=true):OpR P d ρ m (.build t ps) v [] []
 | buildSlice {t e:TypeId}{n:Nat}{ps:Array (Nat × Operand)}{z:List LV}{ps':List (Nat × List LV)}{T:List Nat}
   (ht:sliceE P t=some e) (hz:zeroL P e=some z) (hs:szT P e=some z.length) (hn:0<z.length) (hb:n*z.length≤16777216) (hn0:0<n) (hp:FrzP m z.length n ρ ps.toList ps' T) :
   OpR P d ρ m (.buildSlice t n ps) (.own d (genAt m d) 0 n none)
    (markE m T++[(d,⟨genAt m d,false,.slc,z.length,fillE (List.replicate n (z.map pureC)) ps'⟩)]) (d::T)
 | buildSliceN {t e:TypeId}{y:Operand}{z cs:List LV}(ht:sliceE P t=some e) (hz:zeroL P e=some z) (hs:szT P e=some z.length) (hn:0<z.length) (hb:1*z.length≤16777216) (hy:cellsL (ρ y)=cs) (hl:cs.length=z.length) (h1:cs.all oneC=true) :
   OpR P d ρ m (.buildSlice t 1 #[(0,y)]) (.own d (genAt m d) 0 1 none) [(d,⟨genAt m d,false,.nst,z.length,[cs]⟩)] [d]
 | buildSlice00 {t e:TypeId}(ht:sliceE P t=some e) {n:Nat}(hs:szT P e=some n) (hn:0<n) :
   OpR P d ρ m (.buildSlice t 0 #[]) (.own d (genAt m d) 0 0 none) [(d,⟨genAt m d,false,.slc,n,[]⟩)] [d]
 | load {t:TypeId}{a:Operand}{b g i c:Nat}{x:Box}{cs:List LV}{v:LV}(ha:ρ a=.ref b g i c) (hm:m b=some x) (hg:x.gen=g) (hk:x.kind≠.mp)
   (he:x.es[i]?=some cs) (ht:isAggT P t=some false) (hv:cs[c]?=some v):OpR P d ρ m (.load t a) v [] [b]
 | loadA {t:TypeId}{a:Operand}{b g i c n:Nat}{x:Box}{cs:List LV}(ha:ρ a=.ref b g i c) (hm:m b=some x) (hg:x.gen=g) (hk:x.kind≠.mp)
   (he:x.es[i]?=some cs) (ht:isAggT P t=some true) (hs:szT P t=some n) (hc:c+n≤cs.length):OpR P d ρ m (.load t a) (.agg ((cs.drop c).take n)) [] [b]
 | loadF {t:TypeId}{a:Operand}{es:List (List LV)}{i c:Nat}{cs:List LV}{v:LV}(ha:ρ a=.fad es i c)
   (he:es[i]?=some cs) (ht:isAggT P t=some false) (hv:cs[c]?=some v):OpR P d ρ m (.load t a) v [] []
 | loadFA {t:TypeId}{a:Operand}{es:List (List LV)}{i c n:Nat}{cs:List LV}(ha:ρ a=.fad es i c)
   (he:es[i]?=some cs) (ht:isAggT P t=some true) (hs:szT P t=some n) (hc:c+n≤cs.length):OpR P d ρ m (.load t a) (.agg ((cs.drop c).take n)) [] []
 | store {t:TypeId}{a y:Operand}{b g i c n:Nat}{x:Box}{cs vs:List LV}(ha:ρ a=.ref b g i c) (hm:m b=some x) (hg:x.gen=g) (hf:x.frz=false) (hk:x.kind=.var∨x.kind=.nst)
   (he:x.es[i]?=some cs) (hs:szT P t=some n) (hy:cellsL (ρ y)=vs) (hl:vs.length=n) (h1:vs.all oneC=true) (hc:c+n≤cs.length) :
   OpR P d ρ m (.store t a y) .skip [(b,{ x with es:=x.es.set i (cs.take c++vs++cs.drop (c+n)) })] [b]
 | storeP {t:TypeId}{a y:Operand}{b g i c n:Nat}{x:Box}{cs vs:List LV}{T:List Nat}(ha:ρ a=.ref b g i c) (hm:m b=some x) (hg:x.gen=g) (hf:x.frz=false) (hk:x.kind=.slc)
   (he:x.es[i]?=some cs) (hs:szT P t=some n) (hy:Frz m (.agg (cellsL (ρ y))) (.agg vs) T) (hb:b∉T) (hl:vs.length=n) (h1:vs.all oneC=true) (hc:c+n≤cs.length) :
   OpR P d ρ m (.store t a y) .skip (markE m T++[(b,{ x with es:=x.es.set i (cs.take c++vs++cs.drop (c+n)) })]) (b::T)
 | nilCheck {x:Operand}(h:isPtr (ρ x)=some true):OpR P d ρ m (.nilCheck x) (ρ x) [] []
 | nilCheckR {x:Operand}{b g i c:Nat}{y:Box}(hx:ρ x=.ref b g i c) (hm:m b=some y) (hg:y.gen=g):OpR P d ρ m (.nilCheck x) (ρ x) [] [b]
 | nilEq {t u e:TypeId}{x y:Operand}{b g i c:Nat}{z:Box}(hx:ρ x=.ref b g i c) (hm:m b=some z) (hg:z.gen=g) (hy:ρ y=.nilp) (ht:P.underlying t=some (.pointer e)) :
   OpR P d ρ m (.binOp .eql t x y u) (.bool false) [] [b]
 | nilNe {t u e:TypeId}{x y:Operand}{b g i c:Nat}{z:Box}(hx:ρ x=.ref b g i c) (hm:m b=some z) (hg:z.gen=g) (hy:ρ y=.nilp) (ht:P.underlying t=some (.pointer e)) :
   OpR P d ρ m (.binOp .neq t x y u) (.bool true) [] [b]
 | nilCheckF {x:Operand}{f:FuncId}{cs:List LV}(h:ρ x=.fn f cs):OpR P d ρ m (.nilCheck x) (ρ x) [] []
 | bin {op:BinOp}{t u:TypeId}{x y:Operand}{v:LV}(h:binL P op t (ρ x) (ρ y)=some v):OpR P d ρ m (.binOp op t x y u) v [] []
 | un {op:UnOp}{t:TypeId}{x:Operand}{v:LV}(h:unL op (ρ x)=some v):OpR P d ρ m (.unOp op t x) v [] []
 | conv {s t:TypeId}{x:Operand}{v:LV}(h:convL P s t (ρ x)=some v) (hs:(P.underlying s).isSome=true):OpR P d ρ m (.convert s t x) v [] []
 | fieldAddr {s:TypeId}{x:Operand}{f b g i c o:Nat}{y:Box}(hx:ρ x=.ref b g i c) (hm:m b=some y) (hg:y.gen=g) (ho:offF P s f=some o):OpR P d ρ m (.fieldAddr s x f) (.ref b g i (c+o)) [] [b]
 | fieldAddrF {s:TypeId}{x:Operand}{f i c o:Nat}{es:List (List LV)}(hx:ρ x=.fad es i c) (ho:offF P s f=some o):OpR P d ρ m (.fieldAddr s x f) (.fad es i (c+o)) [] []
 | indexAddr {t e:TypeId}{x ix:Operand}{k:IntKind}{n:Int}{b g off len:Nat}{cap:Option Nat}{y:Box}(hx:ρ x=.own b g off len cap) (hi:ρ ix=.int k n)
   (hm:m b=some y) (hg:y.gen=g) (hk:y.kind=.slc) (ht:sliceE P t=some e) (hs:szT P e=some y.sz) (h0:0≤n) (h1:n<(len:Int)):OpR P d ρ m (.indexAddr t x ix) (.ref b g (off+n.toNat) 0) [] [b]
 | indexAddrN {t e:TypeId}{x ix:Operand}{k:IntKind}{n:Int}{b g off len:Nat}{cap:Option Nat}{y:Box}(hx:ρ x=.own b g off len cap) (hi:ρ ix=.int k n)
   (hm:m b=some y) (hg:y.gen=g) (hk:y.kind=.nst) (ht:sliceE P t=some e) (hs:szT P e=some y.sz) (h0:0≤n) (h1:n<(len:Int)):OpR P d ρ m (.indexAddr t x ix) (.ref b g (off+n.toNat) 0) [] [b]
 | indexAddrF {t e:TypeId}{x ix:Operand}{k:IntKind}{n:Int}{es:List (List LV)}{sz:Nat}(hx:ρ x=.sl es) (hi:ρ ix=.int k n)
   (ht:sliceE P t=some e) (hs:szT P e=some sz) (h0:0≤n) (h1:n<(es.length:Int)) (hz:∀ e∈es,e.length=sz):OpR P d ρ m (.indexAddr t x ix) (.fad es n.toNat 0) [] []
 | indexAddrA {t e:TypeId}{x ix:Operand}{k:IntKind}{n:Int}{b g i c len sz:Nat}{y:Box}(hx:ρ x=.ref b g i c) (hi:ρ ix=.int k n) (hm:m b=some y) (hg:y.gen=g)
   (ht:arrayE P t=some (len,e)) (hs:szT P e=some sz) (h0:0≤n) (h1:n<(len:Int)):OpR P d ρ m (.indexAddr t x ix) (.ref b g i (c+n.toNat*sz)) [] [b]
 | indexAddrFA {t e:TypeId}{x ix:Operand}{k:IntKind}{n:Int}{es:List (List LV)}{i c len sz:Nat}(hx:ρ x=.fad es i c) (hi:ρ ix=.int k n)
   (ht:arrayE P t=some (len,e)) (hs:szT P e=some sz) (h0:0≤n) (h1:n<(len:Int)):OpR P d ρ m (.indexAddr t x ix) (.fad es i (c+n.toNat*sz)) [] []
 | field {t:TypeId}{x:Operand}{f o:Nat}{cs:List LV}{fs:Array Field}{fd:Field}{v:LV}(hx:ρ x=.agg cs) (ht:P.underlying t=some (.struct fs)) (hf:fs[f]?=some fd)
   (ho:fd.offset=o) (ha:isAggT P fd.type=some false) (hv:cs[o]?=some v):OpR P d ρ m (.field t x f) v [] []
 | fieldA {t:TypeId}{x:Operand}{f o n:Nat}{cs:List LV}{fs:Array Field}{fd:Field}(hx:ρ x=.agg cs) (ht:P.underlying t=some (.struct fs)) (hf:fs[f]?=some fd)
   (ho:fd.offset=o) (ha:isAggT P fd.type=some true) (hs:szT P fd.type=some n) (hc:o+n≤cs.length):OpR P d ρ m (.field t x f) (.agg ((cs.drop o).take n)) [] []
 | indexS {t:TypeId}{x ix:Operand}{k:IntKind}{n:Int}{s:ByteArray}(hx:ρ x=.str s) (hi:ρ ix=.int k n) (ht:P.underlying t=some .string) (h0:0≤n) (h1:n.toNat<s.size) :
   OpR P d ρ m (.index t x ix) (.int .u8 ((s[n.toNat]'h1).toNat:Int)) [] []
 | slice {t e:TypeId}{x:Operand}{lo hi:Option Operand}{b g off len l h:Nat}{cap:Option Nat}{y:Box}(hx:ρ x=.own b g off len cap) (hm:m b=some y) (hg:y.gen=g) (hk:y.kind=.slc)
   (ht:sliceE P t=some e) (hs:szT P e=some y.sz) (hl:bndL ρ 0 lo=some l) (hh:bndL ρ len hi=some h) (h1:l≤h) (h2:off+h≤y.es.length) (h3:∀ c,cap=some c→h≤c) :
   OpR P d ρ m (.slice t x lo hi none) (.own b g (off+l) (h - l) (cap.map (· - l))) [] [b]
 | slice3 {t e:TypeId}{x:Operand}{lo hi:Option Operand}{mx:Operand}{b g off len l h c:Nat}{cap:Option Nat}{y:Box}(hx:ρ x=.own b g off len cap) (hm:m b=some y) (hg:y.gen=g) (hk:y.kind=.slc)
   (ht:sliceE P t=some e) (hs:szT P e=some y.sz) (hl:bndL ρ 0 lo=some l) (hhs:hi.isSome=true) (hh:bndL ρ len hi=some h) (hc:bndL ρ 0 (some mx)=some c) (h1:l≤h) (h2:h≤c) (h3:off+c≤y.es.length) (h4:∀ k,cap=some k→c≤k) :
   OpR P d ρ m (.slice t x lo hi (some mx)) (.own b g (off+l) (h - l) (some (c - l))) [] [b]
 | sliceF {t e:TypeId}{x:Operand}{lo hi:Option Operand}{es:List (List LV)}{l h sz:Nat}(hx:ρ x=.sl es) (ht:sliceE P t=some e) (hs:szT P e=some sz) (hz:∀ e∈es,e.length=sz)
   (hl:bndL ρ 0 lo=some l) (hh:bndL ρ es.length hi=some h) (h1:l≤h) (h2:h≤es.length):OpR P d ρ m (.slice t x lo hi none) (.sl ((es.drop l).take (h - l))) [] []
 | sliceN {t e:TypeId}{x:Operand}{lo hi:Option Operand}{l h sz:Nat}(hx:ρ x=.nils) (ht:sliceE P t=some e) (hs:szT P e=some sz)
   (hl:bndL ρ 0 lo=some l) (hh:bndL ρ 0 hi=some h) (h1:l≤h) (h2:h≤0):OpR P d ρ m (.slice t x lo hi none) .nils [] []
 | sliceS {t:TypeId}{x:Operand}{lo hi:Option Operand}{s:ByteArray}{l h:Nat}(hx:ρ x=.str s) (ht:P.underlying t=some .string)
   (hl:bndL ρ 0 lo=some l) (hh:bndL ρ s.size hi=some h) (h1:l≤h) (h2:h≤s.size):OpR P d ρ m (.slice t x lo hi none) (.str (s.extract l h)) [] []
 | makeSlice {t e:TypeId}{ln cp:Operand}{k k':IntKind}{n c:Int}{z:List LV}(ht:sliceE P t=some e) (hz:zeroL P e=some z) (hs:szT P e=some z.length) (hzl:0<z.length)
   (hn:ρ ln=.int k n) (hc:ρ cp=.int k' c) (h0:0≤n) (h1:n≤c) (h2:c≤4294967296) (hb:P.bytesOf e≤4096) :
   OpR P d ρ m (.makeSlice t ln cp) (.own d (genAt m d) 0 n.toNat none) [(d,⟨genAt m d,false,.slc,z.length,List.replicate c.toNat (z.map pureC)⟩)] [d]
 | makeMap {t:TypeId}:OpR P d ρ m (.makeMap t none) (.mref d (genAt m d)) [(d,⟨genAt m d,false,.mp,2,[]⟩)] [d]
 | lookup {t kt et:TypeId}{x ix:Operand}{ok:Bool}{b g:Nat}{y:Box}{r:Option LV}{z:LV}(hx:ρ x=.mref b g) (hm:m b=some y) (hg:y.gen=g) (hk:y.kind=.mp)
   (hn:y.sz=2) (ht:P.underlying t=some (.map kt et)) (hkt:keyK P kt (ρ ix)=true) (hz:zero1L P et=some z) (h:findL P kt (ρ ix) y.es=some r) :
   OpR P d ρ m (.lookup t x ix ok) (cond ok (.tup [r.getD z,.bool r.isSome]) (r.getD z)) [] [b]
 | lookupF {t kt et:TypeId}{x ix:Operand}{ok:Bool}{es:List (List LV)}{r:Option LV}{z:LV}(hx:ρ x=.fmap es)
   (ht:P.underlying t=some (.map kt et)) (hkt:keyK P kt (ρ ix)=true) (hz:zero1L P et=some z) (h:findL P kt (ρ ix) es=some r) :
   OpR P d ρ m (.lookup t x ix ok) (cond ok (.tup [r.getD z,.bool r.isSome]) (r.getD z)) [] []
 | mapUpdate {t kt et:TypeId}{x ix y:Operand}{b g:Nat}{bx:Box}{r:Option LV}{v:LV}{T:List Nat}(hx:ρ x=.mref b g) (hm:m b=some bx) (hg:bx.gen=g) (hk:bx.kind=.mp) (hn:bx.sz=2) (hf:bx.frz=false)
   (ht:P.underlying t=some (.map kt et)) (hkt:keyK P kt (ρ ix)=true) (h:findL P kt (ρ ix) bx.es=some r) (hy:Frz m (ρ y) v T) (hb:b∉T) :
   OpR P d ρ m (.mapUpdate t x ix y) .skip (markE m T++[(b,{ bx with es:=setL P kt (ρ ix) v bx.es })]) (b::T)
 | insert {t kt et:TypeId}{x ix y:Operand}{b g:Nat}{bx:Box}{r:Option LV}{v:LV}{T:List Nat}(hx:ρ x=.mref b g) (hm:m b=some bx) (hg:bx.gen=g) (hk:bx.kind=.mp) (hn:bx.sz=2) (hf:bx.frz=false)
   (ht:P.underlying t=some (.map kt et)) (hkt:keyK P kt (ρ ix)=true) (h:findL P kt (ρ ix) bx.es=some r) (hy:Frz m (ρ y) v T) (hb:b∉T) :
   OpR P d ρ m (.insert t x ix y) .skip (markE m T++[(b,{ bx with es:=setL P kt (ρ ix) v bx.es })]) (b::T)
 | range {t kt et:TypeId}{x:Operand}{es:List (List LV)}{T:List Nat}(ht:P.underlying t=some (.map kt et)) (hx:Frz m (ρ x) (.fmap es) T) :
   OpR P d ρ m (.range t x) (.mref d (genAt m d)) (markE m T++[(d,⟨genAt m d,false,.mp,3,[]::es⟩)]) (d::T)
 | entry {x:Operand}{b g:Nat}{y:Box}{k v:LV}{es:List (List LV)}(hx:ρ x=.mref b g) (hm:m b=some y) (hg:y.gen=g) (hk:y.kind=.mp) (hn:y.sz=3) (he:y.es=[k,v]::es) :
   OpR P d ρ m (.entry x) (.tup [k,v]) [] [b]
 | extract {x:Operand}{i:Nat}{vs:List LV}{v:LV}(hx:ρ x=.tup vs) (hv:vs[i]?=some v):OpR P d ρ m (.extract x i) v [] []
 | makeFunc {f:FuncId}{cap:Array Operand}:OpR P d ρ m (.makeFunc (.func f) #[] cap) (.fn f (cap.toList.map ρ)) [] []
 | len {x:Operand}{t:TypeId}{n:Nat}{R:List Nat}(h:lenL (ρ x)=some n) (hl:LiveS m (ρ x) R)
   (ht:((∃ e,P.underlying t=some (.slice e))∧∀ s,ρ x≠.str s)∨(P.underlying t=some .string∧∃ s,ρ x=.str s)) :
   OpR P d ρ m (.call { callee:=.builtin .len,args:=#[x],argTypes:=#[t] }) (.int .i64 n) [] R
 | lenM {x:Operand}{t kt et:TypeId}{b g:Nat}{y:Box}(hx:ρ x=.mref b g) (hm:m b=some y) (hg:y.gen=g) (hk:y.kind=.mp) (hn:y.sz=2) (ht:P.underlying t=some (.map kt et)) :
   OpR P d ρ m (.call { callee:=.builtin .len,args:=#[x],argTypes:=#[t] }) (.int .i64 y.es.length) [] [b]
 | lenMF {x:Operand}{t kt et:TypeId}{es:List (List LV)}(hx:ρ x=.fmap es) (ht:P.underlying t=some (.map kt et)) :
   OpR P d ρ m (.call { callee:=.builtin .len,args:=#[x],argTypes:=#[t] }) (.int .i64 es.length) [] []
 | clear {x:Operand}{t e:TypeId}{b g off len:Nat}{cap:Option Nat}{y:Box}{z:List LV}(hx:ρ x=.own b g off len cap) (hm:m b=some y) (hg:y.gen=g) (hf:y.frz=false) (hk:y.kind=.slc) (ht:sliceE P t=some e)
   (hz:zeroL P e=some z) (hzs:z.length=y.sz) (hzl:0<z.length) (hone:z.all oneC=true) (hl:off+len≤y.es.length) :
   OpR P d ρ m (.call { callee:=.builtin .clear,args:=#[x],argTypes:=#[t] }) (.tup []) [(b,{ y with es:=y.es.take off++List.replicate len (z.map pureC)++y.es.drop (off+len) })] [b]
 | indexAr {t e:TypeId}{x ix:Operand}{k:IntKind}{n:Int}{len:Nat}{cs:List LV}{v:LV}(hx:ρ x=.agg cs) (hi:ρ ix=.int k n) (ht:arrayE P t=some (len,e)) (hs:szT P e=some 1) (ha:isAggT P e=some false)
   (h0:0≤n) (h1:n<(len:Int)) (hv:cs[n.toNat]?=some v):OpR P d ρ m (.index t x ix) v [] []
 | max {x:Operand}{xs:List Operand}{ts:Array TypeId}{v:LV}(h:fold2L max2L (ρ x) (xs.map ρ)=some v) :
   OpR P d ρ m (.call { callee:=.builtin .max,args:=(x::xs).toArray,argTypes:=ts }) v [] []
 | min {x:Operand}{xs:List Operand}{ts:Array TypeId}{v:LV}(h:fold2L min2L (ρ x) (xs.map ρ)=some v) :
   OpR P d ρ m (.call { callee:=.builtin .min,args:=(x::xs).toArray,argTypes:=ts }) v [] []
 | appendN {x y:Operand}{t u e:TypeId}{es:List (List LV)}{z:List LV}{R:List Nat}(hx:ρ x=.nils) (ht:sliceE P t=some e) (hu:u=t) (hz:zeroL P e=some z) (hs:szT P e=some z.length) (hzl:0<z.length)
   (hy:SrcR m (ρ y) z.length es R) (h0:0<es.length) (hone:∀ e∈es,e.all oneC=true) (h1:es.length≤4294967296) (hb:P.bytesOf e≤4096) :
   OpR P d ρ m (.call { callee:=.builtin .append,args:=#[x,y],argTypes:=#[t,u] }) (.own d (genAt m d) 0 es.length none) [(d,⟨genAt m d,false,.slc,z.length,es⟩)] (d::R)
 | append0 {x y:Operand}{t u e:TypeId}{n:Nat}{R S:List Nat}(hx:lenL (ρ x)=some n) (hxs:∀ s,ρ x≠.str s) (ht:sliceE P t=some e) (hu:u=t) (hsz:(szT P e).isSome=true) (hy:lenL (ρ y)=some 0) (hys:∀ s,ρ y≠.str s) (hlx:LiveS m (ρ x) R) (hly:LiveS m (ρ y) S) :
   OpR P d ρ m (.call { callee:=.builtin .append,args:=#[x,y],argTypes:=#[t,u] }) (ρ x) [] (R++S)
 | appendNE {x y:Operand}{t u e:TypeId}{sz:Nat}{S:List Nat}(hx:ρ x=.nils) (ht:sliceE P t=some e) (hu:u=t) (hs:szT P e=some sz) (hy:lenL (ρ y)=some 0) (hys:∀ s,ρ y≠.str s) (hly:LiveS m (ρ y) S) :
   OpR P d ρ m (.call { callee:=.builtin .append,args:=#[x,y],argTypes:=#[t,u] }) (.own d (genAt m d) 0 0 none) [(d,⟨genAt m d,false,.slc,sz,[]⟩)] (d::S)
 | append {x y:Operand}{t u e:TypeId}{b g off len:Nat}{bx:Box}{es:List (List LV)}{z:List LV}{R:List Nat}(hx:ρ x=.own b g off len none) (hm:m b=some bx) (hg:bx.gen=g) (hf:bx.frz=false) (hk:bx.kind=.slc)
   (hend:off+len=bx.es.length) (ht:sliceE P t=some e) (hu:u=t) (hz:zeroL P e=some z) (hs:szT P e=some z.length) (hzs:bx.sz=z.length) (hzl:0<z.length) (hy:SrcR m (ρ y) z.length es R) (hyb:b∉R)
   (h0:0<es.length) (hone:∀ e∈es,e.all oneC=true) (h1:len+es.length≤4294967296) (hb:P.bytesOf e≤4096) :
   OpR P d ρ m (.call { callee:=.builtin .append,args:=#[x,y],argTypes:=#[t,u] }) (.own b (g+1) 0 (len+es.length) none) [(b,{ bx with gen:=g+1,es:=bx.es.drop off++es })] (b::R)
 | appendNs {x y:Operand}{t u e:TypeId}{b g off len b' g' off' len':Nat}{cap:Option Nat}{bx by':Box}{z:List LV}(hx:ρ x=.own b g off len none) (hm:m b=some bx) (hg:bx.gen=g) (hf:bx.frz=false) (hk:bx.kind=.nst)
   (hend:off+len=bx.es.length) (ht:sliceE P t=some e) (hu:u=t) (hz:zeroL P e=some z) (hs:szT P e=some z.length) (hzs:bx.sz=z.length) (hzl:0<z.length)
   (hy:ρ y=.own b' g' off' len' cap) (hym:m b'=some by') (hyg:by'.gen=g') (hyk:by'.kind=.nst) (hyl:off'+len'≤by'.es.length) (hyz:by'.sz=z.length) (hyb:b≠b')
   (h0:0<len') (hone:∀ e∈(by'.es.drop off').take len',e.all oneC=true) (h1:len+len'≤4294967296) (hb:P.bytesOf e≤4096) :
   OpR P d ρ m (.call { callee:=.builtin .append,args:=#[x,y],argTypes:=#[t,u] }) (.own b (g+1) 0 (len+len') none) [(b,{ bx with gen:=g+1,es:=bx.es.drop off++(by'.es.drop off').take len' })] [b,b']
 | appendC {x y:Operand}{t u e:TypeId}{b g off len c:Nat}{bx:Box}{es:List (List LV)}{z:List LV}{R:List Nat}(hx:ρ x=.own b g off len (some c)) (hm:m b=some bx) (hg:bx.gen=g) (hk:bx.kind=.slc)
   (hl:off+len≤bx.es.length) (ht:sliceE P t=some e) (hu:u=t) (hz:zeroL P e=some z) (hs:szT P e=some z.length) (hzs:bx.sz=z.length) (hzl:0<z.length) (hy:SrcR m (ρ y) z.length es R)
   (h0:0<es.length) (hgr:c<len+es.length) (h1:len+es.length≤4294967296) (hb:P.bytesOf e≤4096) :
   OpR P d ρ m (.call { callee:=.builtin .append,args:=#[x,y],argTypes:=#[t,u] }) (.own d (genAt m d) 0 (len+es.length) none) [(d,⟨genAt m d,false,.slc,z.length,(bx.es.drop off).take len++es⟩)] (d::b::R)
inductive OpN (P:Program) (ρ:Operand→LV) (m:Mem):Op→(LV→List (Nat × Box)→Prop)→Prop
 | nilEq {t e u:TypeId}{x y:Operand}{es:List (List LV)}(ht:P.underlying t=some (.slice e)) (hx:ρ x=.sl es) (hy:ρ y=.nils) :
   OpN P ρ m (.binOp .eql t x y u) fun v eff=>eff=[]∧∃ b,v=.bool b∧(b=true→es=[])
 | nilNe {t e u:TypeId}{x y:Operand}{es:List (List LV)}(ht:P.underlying t=some (.slice e)) (hx:ρ x=.sl es) (hy:ρ y=.nils) :
   OpN P ρ m (.binOp .neq t x y u) fun v eff=>eff=[]∧∃ b,v=.bool b∧(b=false→es=[])
 | next {x:Operand}{b g:Nat}{y:Box}{h:List LV}{es:List (List LV)}(hx:ρ x=.mref b g) (hm:m b=some y) (hg:y.gen=g) (hf:y.frz=false) (hk:y.kind=.mp) (hn:y.sz=3) (he:y.es=h::es) :
   OpN P ρ m (.next x false) fun v eff=>(es=[]∧v=.tup [.bool false]∧eff=[]) ∨
    ∃ i k w,es[i]?=some [k,w]∧v=.tup [.bool true,k,w]∧eff=[(b,{ y with es:=[k,w]::es.eraseIdx i })]
structure Ext (O:List Nat) (w w':World):Prop where
 os:w'.os=w.os
 tape:w'.tape=w.tape
 output:w'.output=w.output
 size:w.heap.size≤w'.heap.size
 block:∀ k,k<w.heap.size→k∉O→w'.heap[k]?=w.heap[k]?
theorem Ext.refl (O:List Nat)(w:World): Ext O w w:=⟨rfl,rfl,rfl,Ye2 _,fun _ _ _=>rfl⟩
theorem Ext.step {O O':List Nat}{a b c:World}(h:Ext O a b)(k:Ext O' b c)(ho:∀ x∈O',x∈O∨a.heap.size≤x): Ext O a c :=
 ⟨k.os.trans h.os,k.tape.trans h.tape,k.output.trans h.output,Ye5 h.size k.size,fun i hi hno=>by
  refine (k.block i (Yfh hi h.size) fun hm=>?_).trans (h.block i hi hno)
  rcases ho i hm with h1 | h1
  ·exact hno h1
  ·omega⟩
theorem Y30 {w w':World}{p:Addr}(h:w'.heap[p.block]?=w.heap[p.block]?): w'.cell? p=w.cell? p:=by
 simp only[World.cell?,h]
def WFM (l:List MapEntry)(clock:Nat): Prop:=(l.map (·.born)).Nodup∧∀ e∈l,e.born<clock
inductive RelF (w:World) (F:Nat→Prop):Value→LV→Prop
 | int (k:IntKind) (n:Int):RelF w F (.int k n) (.int k n)
 | bool (b:Bool):RelF w F (.bool b) (.bool b)
 | str (s:ByteArray):RelF w F (.string s) (.str s)
 | nilp:RelF w F (.pointer none) .nilp
 | nils:RelF w F (.slice none 0 0) .nils
 | nilm:RelF w F (.map none) .nilm
 | skip:RelF w F Go.undef .skip
 | undef (v:Value):RelF w F v .undef
 | sl {a:Option Addr}{len cap:Nat}{es:List (List LV)}{blk off sz:Nat}(val:Nat→Nat→Value) (hl:len=es.length) (hc:len≤cap)
   (ha:0<len→a=some ⟨blk,off,none⟩∧F blk) (hsz:∀ e∈es,e.length=sz)
   (hcell:∀ (i:Nat) e (c:Nat) l,es[i]?=some e→e[c]?=some l→w.cell? ⟨blk,off+(i*sz+c),none⟩=some (val i c))
   (hrel:∀ (i:Nat) e (c:Nat) l,es[i]?=some e→e[c]?=some l→RelF w F (val i c) l):RelF w F (.slice a len cap) (.sl es)
 | fad {es:List (List LV)}{i c blk off sz:Nat}(val:Nat→Nat→Value) (hF:F blk) (hsz:∀ e∈es,e.length=sz)
   (hcell:∀ (i:Nat) e (c:Nat) l,es[i]?=some e→e[c]?=some l→w.cell? ⟨blk,off+(i*sz+c),none⟩=some (val i c))
   (hrel:∀ (i:Nat) e (c:Nat) l,es[i]?=some e→e[c]?=some l→RelF w F (val i c) l):RelF w F (.pointer (some ⟨blk,off+(i*sz+c),none⟩)) (.fad es i c)
 | fmap0:RelF w F (.map none) (.fmap [])
 | fmap {r clock:Nat}{ents:Array MapEntry}{es:List (List LV)}(kv:Nat→LV × LV) (hF:F r) (hr:w.heap[r]?=some (.map ents clock)) (hwf:WFM ents.toList clock) (hn:ents.size=es.length)
   (he:∀ (i:Nat) e,es[i]?=some e→e=[(kv i).1,(kv i).2])
   (hk:∀ (i:Nat) ent,ents[i]?=some ent→RelF w F ent.key (kv i).1) (hv:∀ (i:Nat) ent,ents[i]?=some ent→RelF w F ent.val (kv i).2):RelF w F (.map (some r)) (.fmap es)
 | agg {cs:Array Value}{ls:List LV}(hn:cs.size=ls.length) (h:∀ (i:Nat) v l,cs[i]?=some v→ls[i]?=some l→RelF w F v l):RelF w F (.agg cs) (.agg ls)
 | tup {cs:Array Value}{ls:List LV}(hn:cs.size=ls.length) (h:∀ (i:Nat) v l,cs[i]?=some v→ls[i]?=some l→RelF w F v l):RelF w F (.tuple cs) (.tup ls)
 | fn {f:FuncId}{cs:Array Value}{ls:List LV}(hn:cs.size=ls.length) (h:∀ (i:Nat) v l,cs[i]?=some v→ls[i]?=some l→RelF w F v l):RelF w F (.func (.func f) #[] cs) (.fn f ls)
theorem RelF.mono {w w':World}{F F':Nat→Prop}(hF:∀ b,F b→F' b)(hw:∀ b,F b→w'.heap[b]?=w.heap[b]?){v:Value}{l:LV}(h:RelF w F v l): RelF w' F' v l:=by
 induction h with
 | int k n=>exact .int k n
 | bool b=>exact .bool b
 | str s=>exact .str s
 | nilp=>exact .nilp
 | nils=>exact .nils
 | nilm=>exact .nilm
 | skip=>exact .skip
 | undef v=>exact .undef v
 | @sl a len cap es blk off sz val hl hc ha hsz hcell hrel ih =>
  refine .sl (blk:=blk) (off:=off) (sz:=sz) val hl hc (fun h0=>⟨(ha h0).1,hF _ (ha h0).2⟩) hsz (fun i e c l he hc'=>?_) ih
  have hlen:i<es.length:=(YdM.1 he).1
  rw[Y30 (w:=w) (hw _ (ha (by omega)).2)]
  exact hcell i e c l he hc'
 | @fad es i c blk off sz val hFb hsz hcell hrel ih =>
  refine .fad val (hF _ hFb) hsz (fun i e c l he hc'=>?_) ih
  rw[Y30 (w:=w) (hw _ hFb)]
  exact hcell i e c l he hc'
 | fmap0=>exact .fmap0
 | fmap kv hFr hr hwf hn he hk hv ihk ihv=>exact .fmap kv (hF _ hFr) ((hw _ hFr).trans hr) hwf hn he ihk ihv
 | agg hn h ih=>exact .agg hn ih
 | tup hn h ih=>exact .tup hn ih
 | fn hn h ih=>exact .fn hn ih
structure Loc where
 blk:Nat
 base:Nat
 ext:Nat
abbrev Locs:=Nat→Option Loc
def updR (f:Locs)(i:Nat)(b:Loc): Locs:=fun j=>cond (Nat.beq i j) (some b) (f j)
theorem Y0d (f:Locs)(i:Nat)(v:Loc): updR f i v i=some v:=by simp[updR]
theorem Y2x (f:Locs){i j:Nat}(v:Loc)(h:i≠j): updR f i v j=f j:=by
 have:Nat.beq i j=false:=by
  cases h':Nat.beq i j
  ·rfl
  ·exact absurd (YeP h') h
 simp[updR,this]
def HdrOK (L:Option Loc)(x:Box)(v:Value)(off len:Nat)(cap:Option Nat): Prop :=
 isSl x.kind=true∧off+len≤x.es.length ∧
 match L with
 | none=>∃ a,v=.slice a 0 0
 | some l=>∃ a cap',v=.slice a len cap'∧(0<cap'→a=some ⟨l.blk,l.base+off*x.sz,none⟩)∧len≤cap' ∧
   match cap with
   | none=>off+cap'=l.ext
   | some c=>cap'=c∧off+c≤l.ext
def mval (sz blk:Nat): Value:=if sz=3 then .pointer (some ⟨blk,0,none⟩) else .map (some blk)
inductive RelL (w:World) (F:Nat→Prop) (ρ:Locs) (m:Mem):Value→LV→Prop
 | frz {v:Value}{l:LV}(h:RelF w F v l):RelL w F ρ m v l
 | own {v:Value}{b g off len:Nat}{cap:Option Nat}{x:Box}(h1:v.oneCell'=true) (hm:m b=some x) (hg:g≤x.gen) (h:x.gen=g→HdrOK (ρ b) x v off len cap):RelL w F ρ m v (.own b g off len cap)
 | ref {v:Value}{b g i c:Nat}{x:Box}(h1:v.oneCell'=true) (hm:m b=some x) (hg:g≤x.gen)
   (h:x.gen=g→x.kind≠.mp∧∃ l,ρ b=some l∧v=.pointer (some ⟨l.blk,l.base+(i*x.sz+c),none⟩)):RelL w F ρ m v (.ref b g i c)
 | mref {v:Value}{b g:Nat}{x:Box}(h1:v.oneCell'=true) (hm:m b=some x) (hg:g≤x.gen) (h:x.gen=g→x.kind=.mp∧∃ l,ρ b=some l∧v=mval x.sz l.blk):RelL w F ρ m v (.mref b g)
 | agg {cs:Array Value}{ls:List LV}(hn:cs.size=ls.length) (h:∀ (i:Nat) v l,cs[i]?=some v→ls[i]?=some l→RelL w F ρ m v l):RelL w F ρ m (.agg cs) (.agg ls)
 | tup {cs:Array Value}{ls:List LV}(hn:cs.size=ls.length) (h:∀ (i:Nat) v l,cs[i]?=some v→ls[i]?=some l→RelL w F ρ m v l):RelL w F ρ m (.tuple cs) (.tup ls)
 | fn {f:FuncId}{cs:Array Value}{ls:List LV}(hn:cs.size=ls.length) (h:∀ (i:Nat) v l,cs[i]?=some v→ls[i]?=some l→RelL w F ρ m v l):RelL w F ρ m (.func (.func f) #[] cs) (.fn f ls)
def Compat (m:Mem)(ρ:Locs)(m':Mem)(ρ':Locs): Prop :=
 ∀ b x,m b=some x→∃ x',m' b=some x'∧((x'.gen=x.gen∧ρ' b=ρ b∧x'.sz=x.sz∧(x.kind=.mp∨x'.es.length=x.es.length)∧x'.kind=x.kind)∨x.gen<x'.gen)
theorem RelL.mono {w w':World}{F F':Nat→Prop}{ρ ρ':Locs}{m m':Mem}(hF:∀ b,F b→F' b)(hw:∀ b,F b→w'.heap[b]?=w.heap[b]?)(hc:Compat m ρ m' ρ')
  {v:Value}{l:LV}(h:RelL w F ρ m v l):RelL w' F' ρ' m' v l:=by
 induction h with
 | frz h=>exact .frz (h.mono hF hw)
 | @own v b g off len cap x hone hm hg h =>
  obtain⟨x',hm',hx⟩:=hc b x hm
  rcases hx with ⟨h1,h2,h3,h4,h5⟩ | h1
  ·refine .own hone hm' (by omega) fun he=>?_
   have:=h (by omega)
   unfold HdrOK at this ⊢
   rcases h4 with h4 | h4
   ·rw[h4] at this
    cases this.1
   ·rw[h2,h3,h4,h5]
    exact this
  ·exact .own hone hm' (by omega) fun he=>by omega
 | @ref v b g i c x hone hm hg h =>
  obtain⟨x',hm',hx⟩:=hc b x hm
  rcases hx with ⟨h1,h2,h3,h4,h5⟩ | h1
  ·refine .ref hone hm' (by omega) fun he=>?_
   rw[h2,h3,h5]
   exact h (by omega)
  ·exact .ref hone hm' (by omega) fun he=>by omega
 | @mref v b g x hone hm hg h =>
  obtain⟨x',hm',hx⟩:=hc b x hm
  rcases hx with ⟨h1,h2,h3,h4,h5⟩ | h1
  ·refine .mref hone hm' (by omega) fun he=>?_
   rw[h2,h3,h5]
   exact h (by omega)
  ·exact .mref hone hm' (by omega) fun he=>by omega
 | agg hn h ih=>exact .agg hn ih
 | tup hn h ih=>exact .tup hn ih
 | fn hn h ih=>exact .fn hn ih
def CellR (w:World)(F:Nat→Prop)(ρ:Locs)(m:Mem)(k:BK)(v:Value)(l:LV): Prop :=
 match k with
 | .var=>RelL w F ρ m v l
 | .nst=>RelL w F ρ m v l
 | _=>RelF w F v l
theorem CellR.relL {w:World}{F:Nat→Prop}{ρ:Locs}{m:Mem}{k:BK}{v:Value}{l:LV}(h:CellR w F ρ m k v l): RelL w F ρ m v l:=by
 cases k
 ·exact h
 ·exact .frz h
 ·exact .frz h
 ·exact h
theorem CellR.mono {w w':World}{F F':Nat→Prop}{ρ ρ':Locs}{m m':Mem}(hF:∀ b,F b→F' b)(hw:∀ b,F b→w'.heap[b]?=w.heap[b]?)(hc:Compat m ρ m' ρ')
  {k:BK}{v:Value}{l:LV}(h:CellR w F ρ m k v l):CellR w' F' ρ' m' k v l:=by
 cases k
 ·exact RelL.mono hF hw hc h
 ·exact RelF.mono hF hw h
 ·exact RelF.mono hF hw h
 ·exact RelL.mono hF hw hc h
def CellsOK (w:World)(F:Nat→Prop)(ρ:Locs)(m:Mem)(L:Option Loc)(x:Box): Prop :=
 match L with
 | none=>x.es=[]
 | some l=>∃ cs t,w.heap[l.blk]?=some (.cells cs t (0,0))∧l.base+l.ext*x.sz≤cs.size∧x.es.length≤l.ext∧(∀ e∈x.es,e.length=x.sz) ∧
   ∀ (i:Nat) e (c:Nat) q,x.es[i]?=some e→e[c]?=some q→∃ v,cs[l.base+(i*x.sz+c)]?=some v∧CellR w F ρ m x.kind v q
def EntsR (w:World)(F:Nat→Prop): List MapEntry→List (List LV)→Prop
 | [],[]=>True
 | e::r,[k,v]::s=>RelF w F e.key k∧RelF w F e.val v∧EntsR w F r s
 | _,_=>False
theorem EntsR.mono {w w':World}{F F':Nat→Prop}(hF:∀ b,F b→F' b)(hw:∀ b:Nat,F b→w'.heap[b]?=w.heap[b]?): ∀ {r:List MapEntry}{s:List (List LV)},EntsR w F r s→EntsR w' F' r s
 | [],[],_=>trivial
 | _::_,[_,_]::_,h=>⟨h.1.mono hF hw,h.2.1.mono hF hw,EntsR.mono hF hw h.2.2⟩
 | [],_::_,h=>h.elim
 | _::_,[],h=>h.elim
 | _::_,[]::_,h=>h.elim
 | _::_,[_]::_,h=>h.elim
 | _::_,(_::_::_::_)::_,h=>h.elim
theorem EntsR.fn {w:World}{F:Nat→Prop}: ∀ {r:List MapEntry}{s:List (List LV)},EntsR w F r s→r.length=s.length∧∃ kv:Nat→LV × LV,(∀ (i:Nat) e,s[i]?=some e→e=[(kv i).1,(kv i).2]) ∧
  (∀ (i:Nat) (ent:MapEntry),r[i]?=some ent→RelF w F ent.key (kv i).1)∧(∀ (i:Nat) (ent:MapEntry),r[i]?=some ent→RelF w F ent.val (kv i).2)
 | [],[],_=>⟨rfl,fun _=>(.undef,.undef),by simp,by simp,by simp⟩
 | e::r,[k,v]::s,h=>by
  obtain⟨h1,kv,h2,h3,h4⟩:=EntsR.fn h.2.2
  refine⟨by simp[h1],fun i=>match i with | 0=>(k,v) | i+1=>kv i,fun i e' he=>?_,fun i ent hi=>?_,fun i ent hi=>?_⟩
  ·cases i with
   | zero=>simp at he;simp[← he]
   | succ i=>simpa using h2 i e' (by simpa using he)
  ·cases i with
   | zero=>simp at hi;subst hi;exact h.1
   | succ i=>exact h3 i ent (by simpa using hi)
  ·cases i with
   | zero=>simp at hi;subst hi;exact h.2.1
   | succ i=>exact h4 i ent (by simpa using hi)
 | [],_::_,h=>h.elim
 | _::_,[],h=>h.elim
 | _::_,[]::_,h=>h.elim
 | _::_,[_]::_,h=>h.elim
 | _::_,(_::_::_::_)::_,h=>h.elim
def MapOK (w:World)(F:Nat→Prop)(L:Option Loc)(x:Box): Prop :=
 ∃ (l:Loc) (ents:Array MapEntry) (clock:Nat),L=some l∧w.heap[l.blk]?=some (.map ents clock)∧WFM ents.toList clock∧EntsR w F ents.toList x.es
def ItrOK (w:World)(F:Nat→Prop)(L:Option Loc)(x:Box): Prop :=
 ∃ (l:Loc) (h:List LV) (rest:List (List LV)),L=some l∧x.es=h::rest ∧
  ((∃ s seen c,w.heap[l.blk]?=some (.mapIter none s seen c)∧h=[]∧rest=[]) ∨
   ∃ (mb:Nat) (seen:Array Nat) (ents:Array MapEntry) (clock:Nat),w.heap[l.blk]?=some (.mapIter (some mb) clock seen clock)∧F mb∧w.heap[mb]?=some (.map ents clock)∧WFM ents.toList clock ∧
    EntsR w F (ents.toList.filter fun e=>!seen.contains e.born) rest∧(h=[]∨∃ e k v,e∈ents.toList∧seen.back?=some e.born∧h=[k,v]∧RelF w F e.key k∧RelF w F e.val v))
def MpOK (w:World)(F:Nat→Prop)(L:Option Loc)(x:Box): Prop:=if x.sz=3 then ItrOK w F L x else MapOK w F L x
theorem MpOK.map {w:World}{F:Nat→Prop}{L:Option Loc}{x:Box}(h:x.sz=2): MpOK w F L x=MapOK w F L x:=by simp[MpOK,h]
theorem MpOK.itr {w:World}{F:Nat→Prop}{L:Option Loc}{x:Box}(h:x.sz=3): MpOK w F L x=ItrOK w F L x:=by simp[MpOK,h]
def BoxOK (w:World)(F:Nat→Prop)(ρ:Locs)(m:Mem)(n:Nat)(x:Box): Prop :=
 match x.kind with
 | .mp=>MpOK w F (ρ n) x
 | .var=>CellsOK w F ρ m (ρ n) x∧∀ l,ρ n=some l→l.ext=1
 | .slc=>CellsOK w F ρ m (ρ n) x
 | .nst=>CellsOK w F ρ m (ρ n) x
theorem BoxOK.of_cells {w:World}{F:Nat→Prop}{ρ:Locs}{m:Mem}{n:Nat}{x:Box}(hk:x.kind≠.mp)(h:CellsOK w F ρ m (ρ n) x)(hv:x.kind=.var→∀ l,ρ n=some l→l.ext=1:=by intro h;cases h): BoxOK w F ρ m n x:=by
 unfold BoxOK
 split
 ·rename_i h';exact absurd h' hk
 ·rename_i h';exact⟨h,hv h'⟩
 ·exact h
 ·exact h
def Ygc := @BoxOK.of_cells
theorem BoxOK.cells {w:World}{F:Nat→Prop}{ρ:Locs}{m:Mem}{n:Nat}{x:Box}(hk:x.kind≠.mp)(h:BoxOK w F ρ m n x): CellsOK w F ρ m (ρ n) x:=by
 unfold BoxOK at h
 split at h
 ·rename_i h';exact absurd h' hk
 ·exact h.1
 ·exact h
 ·exact h
def Ygg := @BoxOK.cells
theorem BoxOK.ext {w:World}{F:Nat→Prop}{ρ:Locs}{m:Mem}{n:Nat}{x:Box}(hk:x.kind=.var)(h:BoxOK w F ρ m n x): ∀ l,ρ n=some l→l.ext=1:=by
 unfold BoxOK at h
 rw[hk] at h
 exact h.2
theorem BoxOK.mono {w w':World}{F F':Nat→Prop}{ρ ρ':Locs}{m m':Mem}(hF:∀ b,F b→F' b)(hw:∀ b,F b→w'.heap[b]?=w.heap[b]?)(hc:Compat m ρ m' ρ')
  {n:Nat}{x:Box}(hr:ρ' n=ρ n) (hb:∀ l,ρ n=some l→w'.heap[l.blk]?=w.heap[l.blk]?) (h:BoxOK w F ρ m n x):BoxOK w' F' ρ' m' n x:=by
 have hcells:CellsOK w F ρ m (ρ n) x→CellsOK w' F' ρ' m' (ρ' n) x:=by
  intro h
  rw[hr]
  unfold CellsOK at h ⊢
  cases hl:ρ n with
  | none=>rw[hl] at h;exact h
  | some l =>
   rw[hl] at h
   obtain⟨cs,t,h1,h2,h3,h4,h5⟩:=h
   refine⟨cs,t,(hb l hl).trans h1,h2,h3,h4,fun i e c q he hq=>?_⟩
   obtain⟨v,hv,hrel⟩:=h5 i e c q he hq
   exact⟨v,hv,hrel.mono hF hw hc⟩
 unfold BoxOK at h ⊢
 cases hk:x.kind with
 | var=>rw[hk] at h;exact⟨hcells h.1,fun l hl=>h.2 l (hr ▸ hl)⟩
 | slc=>rw[hk] at h;exact hcells h
 | nst=>rw[hk] at h;exact hcells h
 | mp =>
  rw[hk] at h
  simp only at h ⊢
  unfold MpOK at h ⊢
  split
  ·rename_i h3
   rw[if_pos h3] at h
   obtain⟨l,u,rest,h1,h2,h4⟩:=h
   refine⟨l,u,rest,hr.trans h1,h2,?_⟩
   rcases h4 with ⟨s,seen,c,g1,g2,g3⟩ | ⟨mb,seen,ents,clock,g1,g2,g3,g4,g5,g6⟩
   ·exact .inl ⟨s,seen,c,(hb l h1).trans g1,g2,g3⟩
   ·refine .inr ⟨mb,seen,ents,clock,(hb l h1).trans g1,hF _ g2,(hw _ g2).trans g3,g4,g5.mono hF hw,?_⟩
    rcases g6 with g6 | ⟨e,k,v,e1,e2,e3,e4,e5⟩
    ·exact .inl g6
    ·exact .inr ⟨e,k,v,e1,e2,e3,e4.mono hF hw,e5.mono hF hw⟩
  ·rename_i h3
   rw[if_neg h3] at h
   obtain⟨l,ents,clock,h1,h2,h3,h4⟩:=h
   exact⟨l,ents,clock,hr.trans h1,(hb l h1).trans h2,h3,h4.mono hF hw⟩
structure Ctx where
 w0:World
 F0:Nat→Prop
 O0:List Nat
 K:Value→LV→Prop
structure Inv (X:Ctx) (st:St) (a:Act) (w:World) (F:Nat→Prop) (ρ:Locs):Prop where
 defers:a.defers=[]
 slots:∀ j,RelL w F ρ st.m (a.tmps.getD j Go.undef) (st.ts j)
 boxes:∀ n x,st.m n=some x→BoxOK w F ρ st.m n x
 place:∀ n x l,st.m n=some x→ρ n=some l→l.blk<w.heap.size∧(x.frz=true→F l.blk)∧(x.frz=false→¬ F l.blk∧(l.blk∈X.O0∨X.w0.heap.size≤l.blk))
 inj:∀ n n' x x' l l',st.m n=some x→st.m n'=some x'→x.frz=false→x'.frz=false→ρ n=some l→ρ n'=some l'→l.blk=l'.blk→n=n'
 frz0:∀ b,X.F0 b→F b
 frz1:∀ b,F b→X.F0 b∨b∈X.O0∨X.w0.heap.size≤b
 frzlt:∀ b,F b→b<w.heap.size
 ext:Ext X.O0 X.w0 w
 kept:∀ v l,X.K v l→RelL w F ρ st.m v l
section
variable {X:Ctx}{st:St}{a:Act}{w:World}{F:Nat→Prop}{ρ:Locs}
theorem Inv.put (h:Inv X st a w F ρ){d:Option Nat}{v:Value}{l:LV}(hd:∀ i,d=some i→i<a.tmps.size)(hv:RelL w F ρ st.m v l):
  Inv X ⟨putS st.ts d l,st.m⟩ (a.put d v) w F ρ:=by
 refine { h with defers:=?_,slots:=fun j=>?_ }
 ·cases d <;> exact h.defers
 ·cases d with
  | none=>exact h.slots j
  | some i =>
   have hi:=hd i rfl
   show RelL w F ρ st.m ((a.tmps.setIfInBounds i v).getD j Go.undef) (updS st.ts i l j)
   by_cases hij:i=j
   ·subst hij
    rw[Y0N,Ye7,Yes hi]
    exact hv
   ·rw[Y3u _ _ hij,Ye7,Yeu hij,← Ye7]
    exact h.slots j
theorem Inv.heap (h:Inv X st a w F ρ){w':World}(hh:w'.heap=w.heap)(ho:w'.os=w.os)(ht:w'.tape=w.tape)(hu:w'.output=w.output): Inv X st a w' F ρ:=by
 have hc:Compat st.m ρ st.m ρ:=fun b x hx=>⟨x,hx,.inl ⟨rfl,rfl,rfl,.inr rfl,rfl⟩⟩
 have hw:∀ b:Nat,w'.heap[b]?=w.heap[b]?:=fun b=>by rw[hh]
 refine⟨h.defers,fun j=>(h.slots j).mono (fun _ h=>h) (fun b _=>hw b) hc,fun n x hx=>(h.boxes n x hx).mono (fun _ h=>h) (fun b _=>hw b) hc rfl (fun l _=>hw _),fun n x l hx hl=>?_,h.inj,h.frz0,h.frz1,fun b hb=>?_,
  ⟨ho.trans h.ext.os,ht.trans h.ext.tape,hu.trans h.ext.output,?_,fun k hk hn=>(hw k).trans (h.ext.block k hk hn)⟩,fun v l hv=>(h.kept v l hv).mono (fun _ h=>h) (fun b _=>hw b) hc⟩
 ·rw[hh];exact h.place n x l hx hl
 ·rw[hh];exact h.frzlt b hb
 ·rw[hh];exact h.ext.size
theorem Inv.write (h:Inv X st a w F ρ){w':World}{ρ':Locs}{n:Nat}{x':Box}
  (ho:w'.os=w.os) (ht:w'.tape=w.tape) (hu:w'.output=w.output) (hsz:w.heap.size≤w'.heap.size)
  (hblk:∀ b,b<w.heap.size→(∀ x l,st.m n=some x→x.frz=false→ρ n=some l→b≠l.blk)→w'.heap[b]?=w.heap[b]?)
  (hρ:∀ k,k≠n→ρ' k=ρ k) (hf:x'.frz=false)
  (hcompat:∀ x,st.m n=some x→(x'.gen=x.gen∧ρ' n=ρ n∧x'.sz=x.sz∧(x.kind=.mp∨x'.es.length=x.es.length)∧x'.kind=x.kind)∨x.gen<x'.gen)
  (hloc:∀ l,ρ' n=some l→l.blk<w'.heap.size∧(w.heap.size≤l.blk∨∃ x l0,st.m n=some x∧x.frz=false∧ρ n=some l0∧l0.blk=l.blk))
  (hbox:Compat st.m ρ (updM st.m n x') ρ'→(∀ b,F b→w'.heap[b]?=w.heap[b]?)→BoxOK w' F ρ' (updM st.m n x') n x') :
  Inv X ⟨st.ts,updM st.m n x'⟩ a w' F ρ':=by
 have hc:Compat st.m ρ (updM st.m n x') ρ':=by
  intro b x hx
  by_cases hb:n=b
  ·subst hb
   exact⟨x',Y07 _ _ _,hcompat x hx⟩
  ·exact⟨x,by rw[Y0e _ _ hb];exact hx,.inl ⟨rfl,hρ b (Ne.symm hb),rfl,.inr rfl,rfl⟩⟩
 have hw:∀ b,F b→w'.heap[b]?=w.heap[b]?:=by
  intro b hb
  refine hblk b (h.frzlt b hb) fun x l hx hxf hl he=>?_
  subst he
  exact ((h.place n x l hx hl).2.2 hxf).1 hb
 have hother:∀ k x l,st.m k=some x→k≠n→ρ k=some l→w'.heap[l.blk]?=w.heap[l.blk]?:=by
  intro k x l hx hk hl
  refine hblk _ (h.place k x l hx hl).1 fun y l' hy hyf hl' he=>?_
  cases hxf:x.frz with
  | false=>exact hk (h.inj k n x y l l' hx hy hxf hyf hl hl' he)
  | true =>
   have:=(h.place k x l hx hl).2.1 hxf
   rw[he] at this
   exact ((h.place n y l' hy hl').2.2 hyf).1 this
 have hlook:∀ k x,(updM st.m n x') k=some x→(k=n∧x=x')∨(k≠n∧st.m k=some x):=by
  intro k x hx
  by_cases hk:n=k
  ·subst hk
   rw[Y07] at hx
   exact .inl ⟨rfl,(Option.some.inj hx).symm⟩
  ·rw[Y0e _ _ hk] at hx
   exact .inr ⟨Ne.symm hk,hx⟩
 refine⟨h.defers,fun j=>(h.slots j).mono (fun _ h=>h) hw hc,?_,?_,?_,h.frz0,h.frz1,fun b hb=>Yfh (h.frzlt b hb) hsz,?_,fun v l hv=>(h.kept v l hv).mono (fun _ h=>h) hw hc⟩
 ·intro k x hx
  rcases hlook k x hx with ⟨rfl,rfl⟩ | ⟨hk,hx⟩
  ·exact hbox hc hw
  ·exact (h.boxes k x hx).mono (fun _ h=>h) hw hc (hρ k hk) fun l hl=>hother k x l hx hk hl
 ·intro k x l hx hl
  rcases hlook k x hx with ⟨rfl,rfl⟩ | ⟨hk,hx⟩
  ·refine⟨(hloc l hl).1,fun hf'=>by rw[hf] at hf';exact absurd hf' (by simp),fun _=>?_⟩
   rcases (hloc l hl).2 with h1 | ⟨y,l0,hy,hyf,hl0,he⟩
   ·exact⟨fun hF=>by have:=h.frzlt _ hF;omega,.inr (Ye5 h.ext.size h1)⟩
   ·rw[← he]
    exact (h.place k y l0 hy hl0).2.2 hyf
  ·rw[hρ k hk] at hl
   obtain⟨h1,h2,h3⟩:=h.place k x l hx hl
   exact⟨Yfh h1 hsz,h2,h3⟩
 ·intro k k' x y l l' hx hy hxf hyf hl hl' he
  have hmix:∀ k y l l',st.m k=some y→k≠n→y.frz=false→ρ k=some l'→ρ' n=some l→l.blk=l'.blk→False:=by
   intro k y l l' hy hk hyf hl' hl he
   rcases (hloc l hl).2 with h1 | ⟨z,l0,hz,hzf,hl0,he0⟩
   ·have:=(h.place k y l' hy hl').1
    omega
   ·exact hk (h.inj k n y z l' l0 hy hz hyf hzf hl' hl0 (by omega))
  rcases hlook k x hx with ⟨h1,h2⟩ | ⟨hk,hx2⟩
  ·rcases hlook k' y hy with ⟨h3,h4⟩ | ⟨hk',hy2⟩
   ·rw[h1,h3]
   ·rw[h1] at hl
    rw[hρ k' hk'] at hl'
    exact (hmix k' y l l' hy2 hk' hyf hl' hl he).elim
  ·rcases hlook k' y hy with ⟨h3,h4⟩ | ⟨hk',hy2⟩
   ·rw[h3] at hl'
    rw[hρ k hk] at hl
    exact (hmix k x l' l hx2 hk hxf hl hl' he.symm).elim
   ·rw[hρ k hk] at hl
    rw[hρ k' hk'] at hl'
    exact h.inj k k' x y l l' hx2 hy2 hxf hyf hl hl' he
 ·refine h.ext.step (O':=X.O0++[((ρ n).getD ⟨0,0,0⟩).blk].filter fun b=>decide (X.w0.heap.size≤b)) ⟨ho,ht,hu,hsz,fun k hk hn=>?_⟩ ?_
  ·refine hblk k hk fun x l hx hxf hl he=>?_
   rcases ((h.place n x l hx hl).2.2 hxf).2 with h1 | h1
   ·exact hn (Yee _ (he ▸ h1))
   ·exact hn (Yeg _ (by simp[hl,he,h1]))
  ·intro b hb
   rcases Yei.1 hb with h1 | h1
   ·exact .inl h1
   ·exact .inr (by simpa using (YeL.1 h1).2)
theorem Inv.mark1 (h:Inv X st a w F ρ){n:Nat}{x:Box}(hx:st.m n=some x):
  ∃ F',(∀ b,F b→F' b)∧(∀ l,ρ n=some l→F' l.blk)∧Inv X ⟨st.ts,updM st.m n { x with frz:=true }⟩ a w F' ρ:=by
 cases hxf:x.frz with
 | true =>
  refine⟨F,fun _ h=>h,fun l hl=>(h.place n x l hx hl).2.1 hxf,?_⟩
  have:updM st.m n { x with frz:=true }=st.m:=by
   funext k
   by_cases hk:n=k
   ·subst hk
    rw[Y07,hx]
    cases x
    simp at hxf
    simp[hxf]
   ·rw[Y0e _ _ hk]
  rw[this]
  exact h
 | false =>
  have hc:Compat st.m ρ (updM st.m n { x with frz:=true }) ρ:=by
   intro b y hy
   by_cases hb:n=b
   ·subst hb
    rw[hx] at hy
    injection hy with hy
    subst hy
    exact⟨_,Y07 _ _ _,.inl ⟨rfl,rfl,rfl,.inr rfl,rfl⟩⟩
   ·exact⟨y,by rw[Y0e _ _ hb];exact hy,.inl ⟨rfl,rfl,rfl,.inr rfl,rfl⟩⟩
  have hF:∀ b,F b→(F b∨∃ l,ρ n=some l∧l.blk=b):=fun b hb=>.inl hb
  have hlook:∀ k y,(updM st.m n { x with frz:=true }) k=some y→(k=n∧y={ x with frz:=true })∨(k≠n∧st.m k=some y):=by
   intro k y hy
   by_cases hk:n=k
   ·subst hk
    rw[Y07] at hy
    exact .inl ⟨rfl,(Option.some.inj hy).symm⟩
   ·rw[Y0e _ _ hk] at hy
    exact .inr ⟨Ne.symm hk,hy⟩
  refine⟨fun b=>F b∨∃ l,ρ n=some l∧l.blk=b,hF,fun l hl=>.inr ⟨l,hl,rfl⟩,h.defers,fun j=>(h.slots j).mono hF (fun _ _=>rfl) hc,?_,?_,?_,fun b hb=>.inl (h.frz0 b hb),?_,?_,h.ext,fun v l hv=>(h.kept v l hv).mono hF (fun _ _=>rfl) hc⟩
  ·intro k y hy
   rcases hlook k y hy with ⟨rfl,rfl⟩ | ⟨hk,hy⟩
   ·have:=(h.boxes k x hx).mono hF (fun _ _=>rfl) hc rfl (fun l _=>rfl)
    exact this
   ·exact (h.boxes k y hy).mono hF (fun _ _=>rfl) hc rfl (fun l _=>rfl)
  ·intro k y l hy hl
   rcases hlook k y hy with ⟨rfl,rfl⟩ | ⟨hk,hy⟩
   ·exact⟨(h.place k x l hx hl).1,fun _=>.inr ⟨l,hl,rfl⟩,fun hf=>absurd hf (by simp)⟩
   ·obtain⟨h1,h2,h3⟩:=h.place k y l hy hl
    refine⟨h1,fun hf=>.inl (h2 hf),fun hf=>⟨fun hF'=>?_,(h3 hf).2⟩⟩
    rcases hF' with hF' | ⟨l',hl',he⟩
    ·exact (h3 hf).1 hF'
    ·exact hk (h.inj k n y x l l' hy hx hf hxf hl hl' he.symm)
  ·intro k k' y y' l l' hy hy' hf hf' hl hl' he
   rcases hlook k y hy with ⟨h1,h2⟩ | ⟨hk,hy⟩
   ·rw[h2] at hf
    exact absurd hf (by simp)
   ·rcases hlook k' y' hy' with ⟨h1,h2⟩ | ⟨hk',hy'⟩
    ·rw[h2] at hf'
     exact absurd hf' (by simp)
    ·exact h.inj k k' y y' l l' hy hy' hf hf' hl hl' he
  ·intro b hb
   rcases hb with hb | ⟨l,hl,he⟩
   ·exact h.frz1 b hb
   ·rw[← he]
    exact .inr ((h.place n x l hx hl).2.2 hxf).2
  ·intro b hb
   rcases hb with hb | ⟨l,hl,he⟩
   ·exact h.frzlt b hb
   ·rw[← he]
    exact (h.place n x l hx hl).1
end
def FT (F:Nat→Prop)(ρ:Locs)(T:List Nat): Nat→Prop:=fun b=>F b∨∃ n∈T,∃ l,ρ n=some l∧l.blk=b
theorem FT.mono {F:Nat→Prop}{ρ:Locs}{T:List Nat}: ∀ b,F b→FT F ρ T b:=fun _ h=>.inl h
theorem FT.sub {F:Nat→Prop}{ρ:Locs}{S T:List Nat}(h:∀ x∈S,x∈T): ∀ b,FT F ρ S b→FT F ρ T b:=fun b hb=>by
 rcases hb with h1 | ⟨n,hn,l,hl⟩
 ·exact .inl h1
 ·exact .inr ⟨n,h n hn,l,hl⟩
theorem RelF.of_pure {w:World}{F:Nat→Prop}{ρ:Locs}{m:Mem}{v:Value}{l:LV}(hp:pureL l=true)(h:RelL w F ρ m v l): RelF w F v l:=by
 cases h with
 | frz h=>exact h
 | own=>simp[pureL] at hp
 | ref=>simp[pureL] at hp
 | mref=>simp[pureL] at hp
 | agg=>simp[pureL] at hp
 | tup=>simp[pureL] at hp
 | fn=>simp[pureL] at hp
theorem RelL.cells {w:World}{F:Nat→Prop}{ρ:Locs}{m:Mem}{v:Value}{ls:List LV}(h:RelL w F ρ m v (.agg ls)):
  ∃ cs:Array Value,v=.agg cs∧cs.size=ls.length∧∀ (i:Nat) u l,cs[i]?=some u→ls[i]?=some l→RelL w F ρ m u l:=by
 cases h with
 | frz h =>
  cases h with
  | agg hn h=>exact⟨_,rfl,hn,fun i u l hu hl=>.frz (h i u l hu hl)⟩
 | agg hn h=>exact⟨_,rfl,hn,h⟩
theorem RelF.cells {w:World}{F:Nat→Prop}{v:Value}{ls:List LV}(h:RelF w F v (.agg ls)):
  ∃ cs:Array Value,v=.agg cs∧cs.size=ls.length∧∀ (i:Nat) u l,cs[i]?=some u→ls[i]?=some l→RelF w F u l:=by
 cases h with
 | agg hn h=>exact⟨_,rfl,hn,h⟩
theorem Frz.len {m:Mem}{l l':LV}{T:List Nat}(h:Frz m l l' T): ∀ cs,l=.agg cs→∃ cs',l'=.agg cs'∧cs'.length=cs.length:=by
 induction h with
 | aggn=>intro cs h;cases h;exact⟨[],rfl,rfl⟩
 | aggc h hs ih1 ih2 =>
  intro cs he
  injection he with he
  subst he
  obtain⟨cs',h1,h2⟩:=ih2 _ rfl
  injection h1 with h1
  subst h1
  exact⟨_,rfl,by simp[h2]⟩
 | pure hp=>intro cs he;subst he;simp[pureL] at hp
 | nils=>intro cs he;cases he
 | nilm=>intro cs he;cases he
 | nilmE=>intro cs he;cases he
 | refU=>intro cs he;cases he
 | undU=>intro cs he;cases he
 | own=>intro cs he;cases he
 | mref=>intro cs he;cases he
 | ref=>intro cs he;cases he
 | fn=>intro cs he;cases he
theorem Y0C {α:Type}{es:List α}{off len i:Nat}{e:α}(h:((es.drop off).take len)[i]?=some e): i<len∧es[off+i]?=some e:=by
 rw[YeU] at h
 split at h
 ·rw[Yf3] at h
  exact⟨by assumption,h⟩
 ·cases h
theorem Frz.sound {w:World}{F:Nat→Prop}{ρ:Locs}{m:Mem}(hb:∀ n x,m n=some x→BoxOK w F ρ m n x){l l':LV}{T:List Nat}(h:Frz m l l' T):
  ∀ v,RelL w F ρ m v l→RelF w (FT F ρ T) v l':=by
 induction h with
 | pure hp=>exact fun v hv=>(RelF.of_pure hp hv).mono FT.mono (fun _ _=>rfl)
 | nils =>
  intro v hv
  cases hv with
  | frz h=>cases h;exact .sl (blk:=0) (off:=0) (sz:=0) (fun _ _=>undef) rfl (Ye2 _) (fun h=>absurd h (by omega)) (by simp) (by simp) (by simp)
 | nilm =>
  intro v hv
  cases hv with
  | frz h=>cases h;exact .fmap0
 | nilmE =>
  intro v hv
  cases hv with
  | frz h=>cases h;exact .nilm
 | refU=>exact fun v hv=>.undef v
 | undU=>exact fun v hv=>.undef v
 | @own b g off len cap x hm hg hk hl =>
  intro v hv
  cases hv with
  | frz h=>cases h
  | @own _ _ _ _ _ _ x' _ hm' hg' h =>
   rw[hm] at hm'
   injection hm' with hm'
   subst hm'
   obtain⟨-,-,h⟩:=h hg
   have hbox:=hb b x hm
   unfold BoxOK at hbox
   rw[hk] at hbox
   have hlen:((x.es.drop off).take len).length=len:=by simp;omega
   cases hr:ρ b with
   | none =>
    rw[hr] at h hbox
    obtain⟨a0,h⟩:=h
    subst h
    have he:x.es=[]:=hbox
    have h0:len=0:=by rw[he] at hl;simp at hl;omega
    subst h0
    exact .sl (blk:=0) (off:=0) (sz:=0) (fun _ _=>undef) (by simp) (Ye2 _) (fun h=>absurd h (by omega)) (by simp) (by simp) (by simp)
   | some lc =>
    rw[hr] at h hbox
    obtain⟨a,cap',rfl,ha,hlc,-⟩:=h
    obtain⟨cs,t,h1,h2,h3,h4,h5⟩:=hbox
    rw[hk] at h5
    have key:∀ (i:Nat) e (c:Nat) q,((x.es.drop off).take len)[i]?=some e→e[c]?=some q →
      ∃ u,w.cell? ⟨lc.blk,lc.base+off*x.sz+(i*x.sz+c),none⟩=some u∧RelF w F u q:=by
     intro i e c q he hq
     obtain⟨-,he⟩:=Y0C he
     obtain⟨u,hu,hrel⟩:=h5 _ _ _ _ he hq
     refine⟨u,?_,hrel⟩
     have:lc.base+off*x.sz+(i*x.sz+c)=lc.base+((off+i)*x.sz+c):=by rw[YeB];omega
     simp only[World.cell?,h1,this]
     exact hu
    refine .sl (blk:=lc.blk) (off:=lc.base+off*x.sz) (sz:=x.sz) (fun i c=>(w.cell? ⟨lc.blk,lc.base+off*x.sz+(i*x.sz+c),none⟩).getD undef) hlen.symm hlc (fun h0=>⟨ha (by omega),.inr ⟨b,by simp,lc,hr,rfl⟩⟩)
     (fun e he=>h4 e (YeE (YeC he))) (fun i e c q he hq=>?_) (fun i e c q he hq=>?_)
    ·obtain⟨u,hu,-⟩:=key i e c q he hq
     rw[hu];rfl
    ·obtain⟨u,hu,hrel⟩:=key i e c q he hq
     rw[hu]
     exact hrel.mono FT.mono (fun _ _=>rfl)
 | @mref b g x hm hg hk hn =>
  intro v hv
  cases hv with
  | frz h=>cases h
  | @mref _ _ _ x' _ hm' hg' h =>
   rw[hm] at hm'
   injection hm' with hm'
   subst hm'
   obtain⟨-,lc,hr,rfl⟩:=h hg
   have hbox:=hb b x hm
   unfold BoxOK at hbox
   rw[hk] at hbox
   simp only at hbox
   rw[MpOK.map hn] at hbox
   obtain⟨l,ents,clock,h1,h2,hwf,hen⟩:=hbox
   rw[show mval x.sz lc.blk=.map (some lc.blk) by simp[mval,hn]]
   obtain⟨h3,kv,h4,h5,h6⟩:=hen.fn
   rw[hr] at h1
   injection h1 with h1
   subst h1
   exact .fmap kv (.inr ⟨b,by simp,lc,hr,rfl⟩) h2 hwf (by simpa using h3) h4 (fun i e he=>(h5 i e (by simpa using he)).mono FT.mono (fun _ _=>rfl)) (fun i e he=>(h6 i e (by simpa using he)).mono FT.mono (fun _ _=>rfl))
 | @ref b g c x cs cs' T hm hg hk he hc ih =>
  intro v hv
  cases hv with
  | frz h=>cases h
  | @ref _ _ _ _ _ x' _ hm' hg' h =>
   rw[hm] at hm'
   injection hm' with hm'
   subst hm'
   obtain⟨-,lc,hr,rfl⟩:=h hg
   have hbox:=hb b x hm
   unfold BoxOK at hbox
   rw[hk,hr] at hbox
   obtain⟨⟨cs0,t,h1,h2,h3,h4,h5⟩,-⟩:=hbox
   rw[he] at h4 h5 h3
   rw[hk] at h5
   have hsz:cs.length=x.sz:=h4 cs (by simp)
   have hfit:lc.base+x.sz≤cs0.size:=by
    simp at h3
    have:1*x.sz≤lc.ext*x.sz:=YeX _ h3
    omega
   have hrel:RelL w F ρ m (.agg (cs0.extract lc.base (lc.base+x.sz))) (.agg cs):=by
    refine .agg (by simp;omega) fun i u l hu hl=>?_
    have hi:i<cs.length:=(YdM.1 hl).1
    obtain⟨u',hu',hrel⟩:=h5 0 cs i l rfl hl
    have:(cs0.extract lc.base (lc.base+x.sz))[i]?=cs0[lc.base+i]?:=by
     rw[Yfb,if_pos (by omega)]
    rw[this] at hu
    simp only[YfD,YdZ] at hu'
    rw[hu'] at hu
    injection hu with hu
    subst hu
    exact hrel
   obtain⟨cs2,h6,h7,h8⟩:=(ih _ hrel).cells
   injection h6 with h6
   subst h6
   have hl':cs'.length=cs.length:=by rw[← h7];simp;omega
   have hF:FT F ρ (b::T) lc.blk:=.inr ⟨b,by simp,lc,hr,rfl⟩
   have e0:lc.base+(0*x.sz+c)=lc.base+(0*cs'.length+c):=by simp
   rw[e0]
   refine .fad (sz:=cs'.length) (fun i c=>cs0.getD (lc.base+c) undef) hF (by simp) (fun i e c q he' hq=>?_) (fun i e c q he' hq=>?_)
   ·have hi:i=0:=by
     have:=(YdM.1 he').1
     simp at this
     omega
    subst hi
    simp only[Yew,Yem] at he'
    subst he'
    have hc:c<cs'.length:=(YdM.1 hq).1
    simp only[World.cell?,h1,YfD,YdZ]
    rw[Ye7,YdL (by omega)]
    rfl
   ·have hi:i=0:=by
     have:=(YdM.1 he').1
     simp at this
     omega
    subst hi
    simp only[Yew,Yem] at he'
    subst he'
    have hc:c<cs'.length:=(YdM.1 hq).1
    have hg:(cs0.extract lc.base (lc.base+x.sz))[c]?=some (cs0.getD (lc.base+c) undef):=by
     rw[Yfb,if_pos (by omega),Ye7,YdL (by omega)]
     rfl
    exact (h8 c _ q hg hq).mono (FT.sub (fun x hx=>YdV _ hx)) (fun _ _=>rfl)
 | aggn =>
  intro v hv
  obtain⟨cs,rfl,hn,-⟩:=hv.cells
  exact .agg hn (by simp)
 | @aggc u u' vs vs' S T h hs ih1 ih2 =>
  intro v hv
  obtain⟨cs,rfl,hn,hr⟩:=hv.cells
  obtain⟨cs⟩:=cs
  cases cs with
  | nil=>simp at hn
  | cons c0 rest =>
   have h1:=(ih1 c0 (hr 0 c0 u (by simp) (by simp))).mono (FT.sub (T:=S++T) (fun x hx=>Yee _ hx)) (fun _ _=>rfl)
   have h2:=(ih2 (.agg ⟨rest⟩) (.agg (by simpa using hn) fun i a l ha hl=>hr (i+1) a l (by simpa using ha) (by simpa using hl))).mono (FT.sub (T:=S++T) (fun x hx=>Yeg _ hx)) (fun _ _=>rfl)
   obtain⟨cs2,h3,h4,h5⟩:=h2.cells
   injection h3 with h3
   subst h3
   refine .agg (by simpa using h4) fun i a l ha hl=>?_
   cases i with
   | zero =>
    simp at ha hl
    subst ha hl
    exact h1
   | succ i=>exact h5 i a l (by simpa using ha) (by simpa using hl)
 | @fn f cs cs' T h ih =>
  intro v hv
  have hc:∃ vs:Array Value,v=.func (.func f) #[] vs∧RelL w F ρ m (.agg vs) (.agg cs):=by
   cases hv with
   | frz h =>
    cases h with
    | fn hn h=>exact⟨_,rfl,.frz (.agg hn h)⟩
   | fn hn h=>exact⟨_,rfl,.agg hn h⟩
  obtain⟨vs,rfl,hr⟩:=hc
  obtain⟨cs2,h3,h4,h5⟩:=(ih _ hr).cells
  injection h3 with h3
  subst h3
  exact .fn h4 h5
theorem Y0b (f:Mem)(a b:List (Nat × Box)): effM f (a++b)=effM (effM f a) b:=by
 induction a generalizing f with
 | nil=>rfl
 | cons x r ih=>exact ih _
theorem Y2r {m:Mem}{n:Nat}{x:Box}(hx:m n=some x)(T:List Nat): markE (updM m n { x with frz:=true }) T=markE m T:=by
 induction T with
 | nil=>rfl
 | cons b r ih =>
  simp only[markE]
  by_cases hb:n=b
  ·subst hb
   rw[Y07,hx]
   simp[ih]
  ·rw[Y0e _ _ hb,ih]
theorem Inv.mark {X:Ctx}{a:Act}{w:World}{ρ:Locs}(T:List Nat):
  ∀ {st:St}{F:Nat→Prop},Inv X st a w F ρ→∃ F',(∀ b,F b→F' b)∧(∀ b,FT F ρ T b→(∀ n∈T,(st.m n).isSome=true)→F' b)∧Inv X ⟨st.ts,effM st.m (markE st.m T)⟩ a w F' ρ:=by
 induction T with
 | nil =>
  intro st F h
  refine⟨F,fun _ h=>h,fun b hb _=>?_,h⟩
  rcases hb with hb | ⟨n,hn,-⟩
  ·exact hb
  ·cases hn
 | cons n r ih =>
  intro st F h
  cases hx:st.m n with
  | none =>
   obtain⟨F',h1,h2,h3⟩:=ih h
   refine⟨F',h1,fun b hb hs=>?_,by simpa only[markE,hx] using h3⟩
   have:=hs n (by simp)
   rw[hx] at this
   cases this
  | some x =>
   obtain⟨F1,h1,h2,h3⟩:=h.mark1 hx
   obtain⟨F2,k1,k2,k3⟩:=ih h3
   refine⟨F2,fun b hb=>k1 b (h1 b hb),fun b hb hs=>?_,?_⟩
   ·rcases hb with hb | ⟨k,hk,l,hl,he⟩
    ·exact k1 b (h1 b hb)
    ·rcases Yep.1 hk with hk | hk
     ·subst hk
      exact k1 b (he ▸ h2 l hl)
     ·refine k2 b (.inr ⟨k,hk,l,hl,he⟩) fun j hj=>?_
      by_cases hjn:n=j
      ·subst hjn
       show (updM st.m n _ n).isSome=true
       rw[Y07]
       rfl
      ·show (updM st.m n _ j).isSome=true
       rw[Y0e _ _ hjn]
       exact hs j (YdV _ hj)
   ·simp only[markE,hx,effM]
    rw[← Y2r hx]
    exact k3
theorem Frz.some {m:Mem}{l l':LV}{T:List Nat}(h:Frz m l l' T): ∀ n∈T,(m n).isSome=true:=by
 induction h with
 | pure=>simp
 | nils=>simp
 | nilm=>simp
 | nilmE=>simp
 | refU=>simp
 | undU=>simp
 | own hm=>simp[hm]
 | mref hm=>simp[hm]
 | ref hm hg hk he hc ih =>
  intro n hn
  rcases Yep.1 hn with rfl | hn
  ·simp[hm]
  ·exact ih n hn
 | aggn=>simp
 | aggc h hs ih1 ih2 =>
  intro n hn
  rcases Yei.1 hn with hn | hn
  ·exact ih1 n hn
  ·exact ih2 n hn
 | fn h ih=>exact ih
section
variable {w:World}{F:Nat→Prop}{ρ:Locs}{m:Mem}
theorem RelL.int {v:Value}{k:IntKind}{n:Int}(h:RelL w F ρ m v (.int k n)): v=.int k n:=by
 cases h with
 | frz h=>cases h;rfl
theorem RelL.bool {v:Value}{b:Bool}(h:RelL w F ρ m v (.bool b)): v=.bool b:=by
 cases h with
 | frz h=>cases h;rfl
theorem RelL.str {v:Value}{s:ByteArray}(h:RelL w F ρ m v (.str s)): v=.string s:=by
 cases h with
 | frz h=>cases h;rfl
theorem RelL.nilp {v:Value}(h:RelL w F ρ m v .nilp): v=.pointer none:=by
 cases h with
 | frz h=>cases h;rfl
theorem RelL.nils {v:Value}(h:RelL w F ρ m v .nils): v=.slice none 0 0:=by
 cases h with
 | frz h=>cases h;rfl
theorem RelL.nilm {v:Value}(h:RelL w F ρ m v .nilm): v=.map none:=by
 cases h with
 | frz h=>cases h;rfl
theorem RelL.skip {v:Value}(h:RelL w F ρ m v .skip): v=Go.undef:=by
 cases h with
 | frz h=>cases h;rfl
theorem RelL.mk_int (k:IntKind)(n:Int): RelL w F ρ m (.int k n) (.int k n):=.frz (.int k n)
theorem RelL.mk_bool (b:Bool): RelL w F ρ m (.bool b) (.bool b):=.frz (.bool b)
theorem RelL.tupcells {v:Value}{ls:List LV}(h:RelL w F ρ m v (.tup ls)):
  ∃ cs:Array Value,v=.tuple cs∧cs.size=ls.length∧∀ (i:Nat) u l,cs[i]?=some u→ls[i]?=some l→RelL w F ρ m u l:=by
 cases h with
 | frz h =>
  cases h with
  | tup hn h=>exact⟨_,rfl,hn,fun i u l hu hl=>.frz (h i u l hu hl)⟩
 | tup hn h=>exact⟨_,rfl,hn,h⟩
theorem RelL.toOwn {v:Value}{b g off len:Nat}{cap:Option Nat}{x:Box}(h:RelL w F ρ m v (.own b g off len cap))(hm:m b=some x)(hg:x.gen=g): HdrOK (ρ b) x v off len cap:=by
 cases h with
 | frz h=>cases h
 | own _ hm' hg' h =>
  rw[hm] at hm'
  injection hm' with hm'
  subst hm'
  exact h hg
theorem RelL.toRef {v:Value}{b g i c:Nat}{x:Box}(h:RelL w F ρ m v (.ref b g i c))(hm:m b=some x)(hg:x.gen=g):
  x.kind≠.mp∧∃ l,ρ b=some l∧v=.pointer (some ⟨l.blk,l.base+(i*x.sz+c),none⟩):=by
 cases h with
 | frz h=>cases h
 | ref _ hm' hg' h =>
  rw[hm] at hm'
  injection hm' with hm'
  subst hm'
  exact h hg
theorem RelL.toMref {v:Value}{b g:Nat}{x:Box}(h:RelL w F ρ m v (.mref b g))(hm:m b=some x)(hg:x.gen=g):
  x.kind=.mp∧∃ l,ρ b=some l∧v=mval x.sz l.blk:=by
 cases h with
 | frz h=>cases h
 | mref _ hm' hg' h =>
  rw[hm] at hm'
  injection hm' with hm'
  subst hm'
  exact h hg
theorem RelL.toFad {v:Value}{es:List (List LV)}{i c:Nat}(h:RelL w F ρ m v (.fad es i c)):
  ∃ blk off sz,∃ val:Nat→Nat→Value,v=.pointer (some ⟨blk,off+(i*sz+c),none⟩)∧F blk∧(∀ e∈es,e.length=sz) ∧
   (∀ (i:Nat) e (c:Nat) l,es[i]?=some e→e[c]?=some l→w.cell? ⟨blk,off+(i*sz+c),none⟩=some (val i c)) ∧
   ∀ (i:Nat) e (c:Nat) l,es[i]?=some e→e[c]?=some l→RelF w F (val i c) l:=by
 cases h with
 | frz h =>
  cases h with
  | fad val h1 h2 h3 h4=>exact⟨_,_,_,val,rfl,h1,h2,h3,h4⟩
theorem RelL.toSl {v:Value}{es:List (List LV)}(h:RelL w F ρ m v (.sl es)):
  ∃ a len cap blk off sz,∃ val:Nat→Nat→Value,v=.slice a len cap∧len=es.length∧len≤cap∧(0<len→a=some ⟨blk,off,none⟩∧F blk)∧(∀ e∈es,e.length=sz) ∧
   (∀ (i:Nat) e (c:Nat) l,es[i]?=some e→e[c]?=some l→w.cell? ⟨blk,off+(i*sz+c),none⟩=some (val i c)) ∧
   ∀ (i:Nat) e (c:Nat) l,es[i]?=some e→e[c]?=some l→RelF w F (val i c) l:=by
 cases h with
 | frz h =>
  cases h with
  | sl val h1 h2 h3 h4 h5 h6=>exact⟨_,_,_,_,_,_,val,rfl,h1,h2,h3,h4,h5,h6⟩
theorem RelF.one {v:Value}{l:LV}(h:RelF w F v l)(ho:oneC l=true): v.oneCell'=true:=by
 cases h <;> first | rfl | (simp[oneC] at ho)
theorem RelL.one {v:Value}{l:LV}(h:RelL w F ρ m v l)(ho:oneC l=true): v.oneCell'=true:=by
 cases h with
 | frz h=>exact h.one ho
 | own h1=>exact h1
 | ref h1=>exact h1
 | mref h1=>exact h1
 | agg=>simp[oneC] at ho
 | tup=>simp[oneC] at ho
 | fn=>rfl
theorem Yb0 {v:Value}(h:v.oneCell'=true): v.cells=#[v]:=by
 cases v <;> first | rfl | (simp[Value.oneCell'] at h)
theorem RelL.cellsOf {v:Value}{l:LV}(h:RelL w F ρ m v l)(ho:(cellsL l).all oneC=true):
  v.cells.size=(cellsL l).length∧∀ (i:Nat) u q,v.cells[i]?=some u→(cellsL l)[i]?=some q→RelL w F ρ m u q∧u.oneCell'=true:=by
 by_cases ha:∃ cs,l=.agg cs
 ·obtain⟨cs,rfl⟩:=ha
  obtain⟨vs,rfl,hn,hr⟩:=h.cells
  refine⟨hn,fun i u q hu hq=>?_⟩
  have h1:=hr i u q hu hq
  refine⟨h1,h1.one ?_⟩
  rw[Yed] at ho
  exact ho q (Yet hq)
 ·have hc:cellsL l=[l]:=by
   cases l <;> first | rfl | exact absurd ⟨_,rfl⟩ ha
  rw[hc] at ho
  have hv:=h.one (by simpa using ho)
  rw[Yb0 hv,hc]
  refine⟨rfl,fun i u q hu hq=>?_⟩
  have hi:i=0:=by have:=(YdM.1 hq).1;simp at this;omega
  subst hi
  simp at hu hq
  subst hu hq
  exact⟨h,hv⟩
theorem Y1w (v:Value): RelF w F v (constC v):=by
 unfold constC
 split <;> first | exact .int _ _ | exact .bool _ | exact .str _ | exact .nilp | exact .nils | exact .nilm | exact .undef _
theorem Y8Q (v:Value): RelF w F v (constL v):=by
 unfold constL
 split
 ·refine .agg (by simp) fun i v l hv hl=>?_
  rename_i cs
  rw[YeY,YeD,hv] at hl
  simp at hl
  subst hl
  exact Y1w v
 ·exact Y1w _
end
section
variable {P:Program}{X:Ctx}{st:St}{a:Act}{w:World}{F:Nat→Prop}{ρ:Locs}
theorem Inv.eval (h:Inv X st a w F ρ)(x:Operand): RelL w F ρ st.m (a.eval x) (evalO st.ts x):=by
 cases x with
 | tmp t=>exact h.slots t
 | const v=>exact .frz (Y8Q v)
 | global g=>exact .frz (.undef _)
 | func f=>exact .frz (.fn rfl (by simp))
theorem Y0G {t:TypeId}{n:Nat}(h:szT P t=some n): ∃ i,P.info? t=some i∧i.size=n:=by
 unfold szT at h
 cases hi:P.info? t with
 | none=>simp[hi] at h
 | some i=>exact⟨i,rfl,by simpa [hi] using h⟩
theorem Y0i {t:TypeId}{n:Nat}(h:szT P t=some n)(w:World): (sizeOf t).run P w=.ok n w:=by
 obtain⟨i,hi,hs⟩:=Y0G h
 simp[sizeOf,typeInfo,hi,hs]
theorem Y0c {t e:TypeId}(h:sliceE P t=some e): P.underlying t=some (.slice e):=by
 unfold sliceE at h
 split at h
 ·rename_i h'
  injection h with h
  rw[h',h]
 ·cases h
theorem Y4q {t e:TypeId}{n:Nat}(h:arrayE P t=some (n,e)): P.underlying t=some (.array n e):=by
 unfold arrayE at h
 split at h
 ·rename_i h'
  injection h with h
  injection h with h1 h2
  rw[h',h1,h2]
 ·cases h
theorem Y2O {t:TypeId}{b:Bool}(h:isAggT P t=some b)(w:World): (isAgg t).run P w=.ok b w:=by
 unfold isAggT at h
 cases hu:P.underlying t with
 | none=>rw[hu] at h;cases h
 | some d =>
  rw[hu] at h
  cases d <;> simp at h <;> subst h <;> simp[isAgg,run_underlying hu]
theorem Y4H {t:TypeId}{p:Addr}{v:Value}(ht:isAggT P t=some false)(hc:w.cell? p=some v): (Instr.loadAt t (.pointer (some p))).run P w=.ok v w:=by
 simp[Instr.loadAt,Instr.sureAddr,loadVar,Y2O ht,run_load,hc]
theorem Y4I {t:TypeId}{p:Addr}{n:Nat}{cs:List Value}(ht:isAggT P t=some true)(hs:szT P t=some n)(hn:cs.length=n)
  (hc:∀ j v,cs[j]?=some v→w.cell? (p.add j)=some v):(Instr.loadAt t (.pointer (some p))).run P w=.ok (.agg cs.toArray) w:=by
 subst hn
 simp[Instr.loadAt,Instr.sureAddr,loadVar,Y2O ht,Y0i hs,run_loadCells_list (P:=P) w p cs hc]
theorem Y0g (b o n:Nat): (⟨b,o,none⟩:Addr).add n=⟨b,o+n,none⟩:=by
 unfold Addr.add
 split <;> simp_all
theorem Y1t {P:Nat→Value→Prop}{w:World}{blk o n:Nat}(h:∀ j,j<n→∃ v,w.cell? ⟨blk,o+j,none⟩=some v∧P j v):
  ∃ cs:List Value,cs.length=n∧∀ j v,cs[j]?=some v→w.cell? ⟨blk,o+j,none⟩=some v∧P j v:=by
 induction n with
 | zero=>exact⟨[],rfl,by simp⟩
 | succ n ih =>
  obtain⟨cs,h1,h2⟩:=ih fun j hj=>h j (by omega)
  obtain⟨v,hv,hp⟩:=h n (by omega)
  refine⟨cs++[v],by simp[h1],fun j u hu=>?_⟩
  by_cases hj:j<n
  ·rw[Yef (by omega)] at hu
   exact h2 j u hu
  ·rw[Yeq (by omega)] at hu
   have:j - cs.length=0:=by
    have:=(YdM.1 hu).1
    simp at this
    omega
   rw[this] at hu
   simp at hu
   subst hu
   have:j=n:=by omega
   subst this
   exact⟨hv,hp⟩
theorem Inv.boxCell (h:Inv X st a w F ρ){b:Nat}{x:Box}{l:Loc}(hm:st.m b=some x)(hk:x.kind≠.mp)(hl:ρ b=some l){i c:Nat}{e:List LV}{q:LV}
  (he:x.es[i]?=some e) (hq:e[c]?=some q):∃ v,w.cell? ⟨l.blk,l.base+(i*x.sz+c),none⟩=some v∧CellR w F ρ st.m x.kind v q:=by
 have hb:=h.boxes b x hm
 unfold BoxOK at hb
 rw[hl] at hb
 have:CellsOK w F ρ st.m (some l) x:=by
  cases hkk:x.kind with
  | var=>rw[hkk] at hb;exact hb.1
  | slc=>rw[hkk] at hb;exact hb
  | nst=>rw[hkk] at hb;exact hb
  | mp=>exact absurd hkk hk
 obtain⟨cs,t,h1,h2,h3,h4,h5⟩:=this
 obtain⟨v,hv,hr⟩:=h5 i e c q he hq
 exact⟨v,by simp only[World.cell?,h1];exact hv,hr⟩
theorem aggOfCells {cs:List Value}{ls:List LV}{n c:Nat}(hn:cs.length=n)(hc:c+n≤ls.length)(h:∀ j v,cs[j]?=some v→∃ l,ls[c+j]?=some l∧RelL w F ρ st.m v l):
  RelL w F ρ st.m (.agg cs.toArray) (.agg ((ls.drop c).take n)):=by
 refine .agg (by simp;omega) fun j v l hv hl=>?_
 have hv':cs[j]?=some v:=by simpa using hv
 obtain⟨l',hl',hr⟩:=h j v hv'
 have hj:j<n:=by have:=(YdM.1 hv').1;omega
 rw[YeU,if_pos hj,Yf3,hl'] at hl
 injection hl with hl
 subst hl
 exact hr
end
section
variable {P:Program}{w:World}{F:Nat→Prop}{ρ:Locs}{m:Mem}
theorem Y8E {op:BinOp}{t:TypeId}{k:IntKind}{x y:Int}{v:LV}(h:binI op k x y=some v)(u u':Operand):
  ∃ val,(do eqGuard op t u u' (.int k x) (.int k y);binOp op t (.int k x) (.int k y):Sem Value).run P w=.ok val w∧RelL w F ρ m val v:=by
 unfold binI at h
 cases op <;> simp only[reduceCtorEq,Yem] at h
 case add=>subst h;exact⟨_,by simp[eqGuard,binOp,Op.intArith],.mk_int _ _⟩
 case sub=>subst h;exact⟨_,by simp[eqGuard,binOp,Op.intArith],.mk_int _ _⟩
 case mul=>subst h;exact⟨_,by simp[eqGuard,binOp,Op.intArith],.mk_int _ _⟩
 case quo =>
  split at h
  ·cases h
  ·rename_i hy
   injection h with h
   subst h
   exact⟨_,by simp[eqGuard,binOp,Op.intDiv,hy],.mk_int _ _⟩
 case rem =>
  split at h
  ·cases h
  ·rename_i hy
   injection h with h
   subst h
   exact⟨_,by simp[eqGuard,binOp,Op.intDiv,hy],.mk_int _ _⟩
 case and=>subst h;exact⟨_,by simp only[eqGuard,binOp,Op.intBits];simp,.mk_int _ _⟩
 case or=>subst h;exact⟨_,by simp only[eqGuard,binOp,Op.intBits];simp,.mk_int _ _⟩
 case xor=>subst h;exact⟨_,by simp only[eqGuard,binOp,Op.intBits];simp,.mk_int _ _⟩
 case andNot=>subst h;exact⟨_,by simp only[eqGuard,binOp,Op.intBits];simp,.mk_int _ _⟩
 case eql=>subst h;exact⟨_,by simp[eqGuard,binOp,Op.intCmp],.mk_bool _⟩
 case neq=>subst h;exact⟨_,by simp[eqGuard,binOp,Op.intCmp],.mk_bool _⟩
 case lss=>subst h;exact⟨_,by simp[eqGuard,binOp,Op.intCmp],.mk_bool _⟩
 case leq=>subst h;exact⟨_,by simp[eqGuard,binOp,Op.intCmp],.mk_bool _⟩
 case gtr=>subst h;exact⟨_,by simp[eqGuard,binOp,Op.intCmp],.mk_bool _⟩
 case geq=>subst h;exact⟨_,by simp[eqGuard,binOp,Op.intCmp],.mk_bool _⟩
theorem Y6q {d:Nat}{t:TypeId}{x y:LV}{vx vy:Value}{b:Bool}(hx:RelL w F ρ m vx x)(hy:RelL w F ρ m vy y)(h:eqT P t x y=some b): (Op.equalIn (d+1) t vx vy).run P w=.ok b w:=by
 unfold eqT at h
 split at h
 ·rename_i hu
  split at h
  ·rename_i hk
   injection h with h
   subst hk h
   rw[hx.int,hy.int]
   exact run_equalIn_int w d t _ _ _ _ hu
  ·cases h
 ·rename_i hu
  injection h with h
  subst h
  rw[hx.bool,hy.bool]
  exact run_equalIn_bool' w d t _ _ hu
 ·rename_i hu
  injection h with h
  subst h
  rw[hx.str,hy.str]
  exact run_equalIn_string w d t _ _ hu
 ·cases h
theorem Y5F {t:TypeId}{x y:LV}{b:Bool}(h:eqT P t x y=some b): isAggT P t=some false:=by
 unfold eqT at h
 split at h <;> first | (rename_i hu;simp[isAggT,hu];done) | cases h
theorem Y1G {t:TypeId}{cs:Array Value}{i:Nat}{v:Value}(ht:isAggT P t=some false)(hv:cs[i]?=some v): (part t cs i).run P w=.ok v w:=by
 simp[part,Y2O ht,hv]
theorem Y9k {d:Nat}{cx cy:Array Value}: ∀ {fs:List Field}{i:Nat}{xs ys:List LV}{b:Bool},
  (∀ (j:Nat) l,xs[j]?=some l→∃ v,cx[i+j]?=some v∧RelL w F ρ m v l)→(∀ (j:Nat) l,ys[j]?=some l→∃ v,cy[i+j]?=some v∧RelL w F ρ m v l) →
  eqFs P i fs xs ys=some b→(Op.eqFields (d+1) cx cy fs).run P w=.ok b w:=by
 intro fs
 induction fs with
 | nil =>
  intro i xs ys b hx hy h
  cases xs with
  | nil =>
   cases ys with
   | nil =>
    simp only[eqFs,Yem] at h
    subst h
    rfl
   | cons=>simp[eqFs] at h
  | cons=>simp[eqFs] at h
 | cons f fs ih =>
  intro i xs ys b hx hy h
  cases xs with
  | nil=>simp[eqFs] at h
  | cons x xs =>
   cases ys with
   | nil=>simp[eqFs] at h
   | cons y ys =>
    simp only[eqFs] at h
    split at h
    ·rename_i hf
     split at h
     ·rename_i p q hp hq
      injection h with h
      subst h
      obtain⟨vx,hvx,rx⟩:=hx 0 x rfl
      obtain⟨vy,hvy,ry⟩:=hy 0 y rfl
      have h1:=Y1G (P:=P) (w:=w) (Y5F hp) (i:=f.offset) (by rw[hf.1];exact hvx)
      have h2:=Y1G (P:=P) (w:=w) (Y5F hp) (i:=f.offset) (by rw[hf.1];exact hvy)
      have h3:=Y6q (d:=d) rx ry hp
      have h4:=ih (i:=i+1) (xs:=xs) (ys:=ys) (fun j l hl=>by have:=hx (j+1) l hl;rwa [show i+(j+1)=i+1+j by omega] at this)
       (fun j l hl=>by have:=hy (j+1) l hl;rwa [show i+(j+1)=i+1+j by omega] at this) hq
      simp only[Op.eqFields]
      rw[if_pos hf.2]
      simp only[Sem.run_bind,h1,h2,h3,Yel]
      cases p
      ·simp
      ·simpa using h4
     ·cases h
    ·cases h
theorem Y9a {d:Nat}{e:TypeId}{cx cy:Array Value}(hc:P.cellsOf e=1): ∀ {n i:Nat}{xs ys:List LV}{b:Bool},n=xs.length →
  (∀ (j:Nat) l,xs[j]?=some l→∃ v,cx[i+j]?=some v∧RelL w F ρ m v l)→(∀ (j:Nat) l,ys[j]?=some l→∃ v,cy[i+j]?=some v∧RelL w F ρ m v l) →
  eqAs P e xs ys=some b→(Op.eqItems (d+1) e 1 cx cy (List.range' i n)).run P w=.ok b w:=by
 intro n
 induction n with
 | zero =>
  intro i xs ys b hn hx hy h
  cases xs with
  | nil =>
   cases ys with
   | nil =>
    simp only[eqAs,Yem] at h
    subst h
    rfl
   | cons=>simp[eqAs] at h
  | cons=>simp at hn
 | succ n ih =>
  intro i xs ys b hn hx hy h
  cases xs with
  | nil=>simp at hn
  | cons x xs =>
   cases ys with
   | nil=>simp[eqAs] at h
   | cons y ys =>
    simp only[eqAs] at h
    split at h
    ·rename_i p q hp hq
     injection h with h
     subst h
     obtain⟨vx,hvx,rx⟩:=hx 0 x rfl
     obtain⟨vy,hvy,ry⟩:=hy 0 y rfl
     have h1:=Y1G (P:=P) (w:=w) (Y5F hp) (i:=i*1) (by rw[Nat.mul_one];exact hvx)
     have h2:=Y1G (P:=P) (w:=w) (Y5F hp) (i:=i*1) (by rw[Nat.mul_one];exact hvy)
     have h3:=Y6q (d:=d) rx ry hp
     have h4:=ih (i:=i+1) (xs:=xs) (ys:=ys) (by simpa using hn) (fun j l hl=>by have:=hx (j+1) l hl;rwa [show i+(j+1)=i+1+j by omega] at this)
      (fun j l hl=>by have:=hy (j+1) l hl;rwa [show i+(j+1)=i+1+j by omega] at this) hq
     simp only[YfR,Op.eqItems]
     simp only[Sem.run_bind,h1,h2,h3,Yel]
     cases p
     ·simp
     ·simpa using h4
    ·cases h
theorem Y2E {d:Nat}{t:TypeId}{xs ys:List LV}{vx vy:Value}{b:Bool}(hx:RelL w F ρ m vx (.agg xs))(hy:RelL w F ρ m vy (.agg ys))(h:eqAgg P t xs ys=some b):
  P.eqGuardType P.depth t=false∧∃ cx cy,vx=.agg cx∧vy=.agg cy∧(Op.equalIn (d+2) t (.agg cx) (.agg cy)).run P w=.ok b w:=by
 unfold eqAgg at h
 split at h
 ·rename_i fs hu
  split at h
  ·rename_i hg
   obtain⟨cx,rfl,hnx,hcx⟩:=hx.cells
   obtain⟨cy,rfl,hny,hcy⟩:=hy.cells
   refine⟨hg.1,cx,cy,rfl,rfl,?_⟩
   have hfs:P.fieldsOf t=fs:=by simp[Program.fieldsOf,hu]
   rw[run_equalIn_struct w (d+1) t cx cy (by rw[hfs];exact hu) hg.2,hfs]
   refine Y9k (F:=F) (ρ:=ρ) (m:=m) (i:=0) (fun j l hl=>?_) (fun j l hl=>?_) h
   ·have hj:=(YdM.1 hl).1
    refine⟨cx[j]'(by omega),?_,?_⟩
    ·rw[YdZ];exact YdL _
    ·exact hcx j _ l (YdL _) hl
   ·have hj:=(YdM.1 hl).1
    refine⟨cy[j]'(by omega),?_,?_⟩
    ·rw[YdZ];exact YdL _
    ·exact hcy j _ l (YdL _) hl
  ·cases h
 ·rename_i n e hu
  split at h
  ·rename_i hg
   obtain⟨hg,hc1,hi,hn⟩:=hg
   obtain⟨cx,rfl,hnx,hcx⟩:=hx.cells
   obtain⟨cy,rfl,hny,hcy⟩:=hy.cells
   obtain⟨inf,hinf⟩:=Yf8.1 hi
   refine⟨hg,cx,cy,rfl,rfl,?_⟩
   rw[run_equalIn_array w (d+1) cx cy hu hinf,hc1,Yfq]
   refine Y9a (F:=F) (ρ:=ρ) (m:=m) (i:=0) hc1 hn (fun j l hl=>?_) (fun j l hl=>?_) h
   ·have hj:=(YdM.1 hl).1
    refine⟨cx[j]'(by omega),?_,?_⟩
    ·rw[YdZ];exact YdL _
    ·exact hcx j _ l (YdL _) hl
   ·have hj:=(YdM.1 hl).1
    refine⟨cy[j]'(by omega),?_,?_⟩
    ·rw[YdZ];exact YdL _
    ·exact hcy j _ l (YdL _) hl
  ·cases h
 ·cases h
theorem Y2z {v:Value}{l:LV}{b:Bool}(h:isPtr l=some b)(hr:RelL w F ρ m v l): ∃ p,v=.pointer p∧p.isNone=!b:=by
 unfold isPtr at h
 split at h
 ·injection h with h;subst h;exact⟨none,hr.nilp,rfl⟩
 ·injection h with h
  subst h
  obtain⟨blk,off,sz,val,rfl,-⟩:=hr.toFad
  exact⟨_,rfl,rfl⟩
 ·cases h
theorem Y93 {op:BinOp}{t:TypeId}{x y v:LV}{vx vy:Value}(hx:RelL w F ρ m vx x)(hy:RelL w F ρ m vy y)(h:binL P op t x y=some v)(u u':Operand):
  ∃ val,(do eqGuard op t u u' vx vy;binOp op t vx vy:Sem Value).run P w=.ok val w∧RelL w F ρ m val v:=by
 unfold binL at h
 split at h
 ·-- whole numbers
  rw[hx.int,hy.int]
  split at h
  ·split at h
   ·cases h
   ·rename_i hb
    injection h with h
    subst h
    exact⟨_,by simp[eqGuard,binOp,Op.shift,hb],.mk_int _ _⟩
  ·split at h
   ·cases h
   ·rename_i hb
    injection h with h
    subst h
    exact⟨_,by simp[eqGuard,binOp,Op.shift,hb],.mk_int _ _⟩
  ·split at h
   ·rename_i hk
    subst hk
    exact Y8E h u u'
   ·cases h
 ·-- texts
  rw[hx.str,hy.str]
  unfold binS at h
  split at h
  ·split at h
   ·rename_i hs
    injection h with h
    subst h
    refine⟨_,?_,.frz (.str _)⟩
    simp[eqGuard,binOp,Op.stringOp,IntKind.max,IntKind.signed,IntKind.bits]
    omega
   ·cases h
  ·injection h with h
   subst h
   exact⟨_,by simp[eqGuard,binOp,Op.stringOp],.mk_bool _⟩
  ·injection h with h
   subst h
   exact⟨_,by simp[eqGuard,binOp,Op.stringOp],.mk_bool _⟩
  ·cases h
 ·-- truths
  rw[hx.bool,hy.bool]
  split at h
  ·rename_i hu
   injection h with h
   subst h
   exact⟨_,by simp[eqGuard,binOp,run_equal_bool w t _ _ hu],.mk_bool _⟩
  ·rename_i hu
   injection h with h
   subst h
   exact⟨_,by simp[eqGuard,binOp,run_equal_bool w t _ _ hu],.mk_bool _⟩
  ·cases h
 ·-- structs
  split at h
  ·cases hb:eqAgg P t _ _ with
   | none=>rw[hb] at h;cases h
   | some b =>
    rw[hb] at h
    simp only[Yf1,Yem] at h
    subst h
    obtain⟨hg,cx,cy,rfl,rfl,he⟩:=Y2E (d:=9998) hx hy hb
    refine⟨.bool b,?_,.mk_bool _⟩
    simp only[Sem.run_bind,run_eqGuard_agg w _ t u u' cx cy hg,Yel,run_eql_struct,he]
  ·cases hb:eqAgg P t _ _ with
   | none=>rw[hb] at h;cases h
   | some b =>
    rw[hb] at h
    simp only[Yf1,Yem] at h
    subst h
    obtain⟨hg,cx,cy,rfl,rfl,he⟩:=Y2E (d:=9998) hx hy hb
    refine⟨.bool !b,?_,.mk_bool _⟩
    simp only[Sem.run_bind,run_eqGuard_agg w _ t u u' cx cy hg,Yel,run_neq_struct,he]
  ·cases h
 ·-- a pointer against nil
  rw[hy.nilp]
  split at h
  ·rename_i b hu hp
   injection h with h
   subst h
   obtain⟨p,rfl,hn⟩:=Y2z hp hx
   have hu':P.underlying t=some (.pointer (P.pointee t)):=by rw[hu];simp[Program.pointee,hu]
   refine⟨_,?_,.mk_bool _⟩
   rw[← hn]
   simp[eqGuard,run_eql_pointer_nil w t p hu']
  ·rename_i b hu hp
   injection h with h
   subst h
   obtain⟨p,rfl,hn⟩:=Y2z hp hx
   have hu':P.underlying t=some (.pointer (P.pointee t)):=by rw[hu];simp[Program.pointee,hu]
   refine⟨_,?_,.mk_bool _⟩
   have:b=!p.isNone:=by rw[hn];simp
   rw[this]
   simp[eqGuard,run_neq_pointer_nil w t p hu']
  ·cases h
 ·-- nil maps
  rw[hx.nilm,hy.nilm]
  split at h
  ·rename_i k e hu
   injection h with h
   subst h
   refine⟨.bool true,?_,.mk_bool _⟩
   simp[eqGuard,binOp,run_equal_map_nil w t k e none hu]
  ·rename_i k e hu
   injection h with h
   subst h
   refine⟨.bool false,?_,.mk_bool _⟩
   simp[eqGuard,run_neq_map_nil w t k e none hu]
  ·cases h
 ·cases h
theorem YaS {op:UnOp}{x v:LV}{vx:Value}(hx:RelL w F ρ m vx x)(h:unL op x=some v): ∃ val,(Op.unary op vx).run P w=.ok val w∧RelL w F ρ m val v:=by
 unfold unL at h
 split at h
 ·injection h with h
  subst h
  rw[hx.int]
  exact⟨_,by simp[Op.unary,Op.intArith],.mk_int _ _⟩
 ·injection h with h
  subst h
  rw[hx.bool]
  exact⟨_,by simp[Op.unary],.mk_bool _⟩
 ·cases h
theorem Y7x {s t:TypeId}{x v:LV}{vx:Value}(hx:RelL w F ρ m vx x)(hs:(P.underlying s).isSome=true)(h:convL P s t x=some v):
  ∃ val,(convert s t vx).run P w=.ok val w∧RelL w F ρ m val v:=by
 unfold convL at h
 split at h
 ·rename_i hu
  injection h with h
  subst h
  rw[hx.int]
  cases hd:P.underlying s with
  | none=>rw[hd] at hs;cases hs
  | some d=>exact⟨_,by simp[convert,run_underlying hu,run_underlying hd,Conv.intToInt],.mk_int _ _⟩
 ·cases h
end
def Sound (P:Program)(X:Ctx)(st:St)(a:Act)(w:World)(o:Oper)(v:LV)(eff:List (Nat × Box)): Prop :=
 ∃ nx val w' F' ρ',(execOp a.eval o).run P w=.ok nx w'∧(nx=.value val∨(nx=.skip∧val=Go.undef))∧Inv X ⟨st.ts,effM st.m eff⟩ a w' F' ρ'∧RelL w' F' ρ' (effM st.m eff) val v
section
variable {P:Program}{X:Ctx}{st:St}{a:Act}{w:World}{F:Nat→Prop}{ρ:Locs}
theorem Sound.val (h:Inv X st a w F ρ){o:Oper}{v:LV}{val:Value}(hr:(execOp a.eval o).run P w=.ok (.value val) w)(hv:RelL w F ρ st.m val v): Sound P X st a w o v [] :=
 ⟨_,val,w,F,ρ,hr,.inl rfl,h,hv⟩
def Yge := @Sound.val
theorem Inv.newCells (h:Inv X st a w F ρ)(d:Nat){cs0:Array Value}{t:TypeId}{k:BK}(hk:k≠.mp){sz ext:Nat}{es:List (List LV)}(hsz:∀ e∈es,e.length=sz)
  (hext:ext*sz≤cs0.size) (hlen:es.length≤ext)
  (hcell:∀ (i:Nat) e (c:Nat) q,es[i]?=some e→e[c]?=some q→∃ v,cs0[i*sz+c]?=some v∧CellR w F ρ st.m k v q) {w':World}(hh:w'.heap=w.heap.push (.cells cs0 t (0,0)))
  (ho:w'.os=w.os) (ht:w'.tape=w.tape) (hu:w'.output=w.output) (hvar:k=.var→ext=1:=by first | (intro h;cases h;done) | (intro _;rfl)) :
  Inv X ⟨st.ts,updM st.m d ⟨genAt st.m d,false,k,sz,es⟩⟩ a w' F (updR ρ d ⟨w.heap.size,0,ext⟩):=by
 have hpush:∀ b:Nat,b<w.heap.size→w'.heap[b]?=w.heap[b]?:=fun b hb=>by rw[hh,Yfj,if_neg (by omega)]
 refine h.write ho ht hu (by rw[hh];simp) (fun b hb _=>hpush b hb) (fun j hj=>Y2x _ _ (Ne.symm hj)) rfl (fun x hx=>.inr ?_) (fun l hl=>?_) fun hc hF=>?_
 ·simp[genAt,hx]
 ·rw[Y0d] at hl
  injection hl with hl
  subst hl
  exact⟨by rw[hh];simp,.inl (Ye2 _)⟩
 ·have:CellsOK w' F (updR ρ d ⟨w.heap.size,0,ext⟩) (updM st.m d ⟨genAt st.m d,false,k,sz,es⟩) ((updR ρ d ⟨w.heap.size,0,ext⟩) d) ⟨genAt st.m d,false,k,sz,es⟩:=by
   rw[Y0d]
   refine⟨cs0,t,by rw[hh];simp,by simpa using hext,hlen,hsz,fun i e c q he hq=>?_⟩
   obtain⟨v,hv,hr⟩:=hcell i e c q he hq
   exact⟨v,by simpa using hv,hr.mono (fun _ h=>h) hF hc⟩
  unfold BoxOK
  cases k with
  | var =>
   refine⟨this,fun l hl=>?_⟩
   rw[Y0d] at hl
   injection hl with hl
   subst hl
   exact hvar rfl
  | slc=>exact this
  | nst=>exact this
  | mp=>exact absurd rfl hk
theorem Y0t {e:TypeId}{cs:List LV}(h:zeroL P e=some cs): ∃ i z,P.info? e=some i∧i.zero=some z∧cs=z.cells.toList.map constC:=by
 unfold zeroL at h
 cases hi:P.info? e with
 | none=>simp[hi] at h
 | some i =>
  cases hz:i.zero with
  | none=>simp[hi,hz] at h
  | some z =>
   simp[hi,hz] at h
   exact⟨i,z,rfl,hz,h.symm⟩
theorem Y3V {e:TypeId}{i:TypeInfo}{z:Value}(hi:P.info? e=some i)(hz:i.zero=some z)(w:World): (zeroValue e).run P w=.ok z w:=by
 simp[zeroValue,typeInfo,hi,hz]
theorem Y7V {w':World}{F':Nat→Prop}{ρ:Locs}{m:Mem}{d blk ext:Nat}{x:Box}(hk:x.kind=.var):
  RelL w' F' (updR ρ d ⟨blk,0,ext⟩) (updM m d x) (.pointer (some ⟨blk,0,none⟩)) (.ref d x.gen 0 0) :=
 .ref rfl (Y07 _ _ _) (Ye2 _) fun _=>⟨by rw[hk];simp,_,Y0d _ _ _,by simp⟩
theorem Y6Z (h:Inv X st a w F ρ){d:Nat}{e:TypeId}{cs:List LV}(hz:zeroL P e=some cs){o:Oper}(ho:o.op=.alloc e):
  Sound P X st a w o (.ref d (genAt st.m d) 0 0) [(d,⟨genAt st.m d,false,.var,cs.length,[cs]⟩)]:=by
 obtain⟨i,z,hi,hz',rfl⟩:=Y0t hz
 obtain⟨dst,op,ty,pos,after,guard⟩:=o
 simp only at ho
 subst ho
 refine⟨_,.pointer (some ⟨w.heap.size,0,none⟩),{ w with heap:=w.heap.push (.cells z.cells e) },F,updR ρ d ⟨w.heap.size,0,1⟩,?_,.inl rfl,?_,Y7V rfl⟩
 ·simp[execOp,Instr.alloc,Y3V hi hz',newVar,newRow]
 ·refine h.newCells d (by simp) (ext:=1) (by simp) (by simp) (by simp) (fun j e' c q he hq=>?_) rfl rfl rfl rfl
  have hj:j=0:=by have:=(YdM.1 he).1;simp at this;omega
  subst hj
  simp only[Yew,Yem] at he
  subst he
  have hc:c<z.cells.size:=by have:=(YdM.1 hq).1;simpa using this
  rw[YeY,YeD,YdL hc] at hq
  simp only[Yf1,Yem] at hq
  subst hq
  exact⟨z.cells[c],by simp[hc],.frz (Y1w _)⟩
theorem Y9J (h:Inv X st a w F ρ){d:Nat}{e:TypeId}{x:Operand}{cs:List LV}(hx:cellsL (evalO st.ts x)=cs)(h1:cs.all oneC=true){o:Oper}(ho:o.op=.box e x):
  Sound P X st a w o (.ref d (genAt st.m d) 0 0) [(d,⟨genAt st.m d,false,.var,cs.length,[cs]⟩)]:=by
 subst hx
 obtain⟨hn,hr⟩:=(h.eval x).cellsOf h1
 obtain⟨dst,op,ty,pos,after,guard⟩:=o
 simp only at ho
 subst ho
 refine⟨_,.pointer (some ⟨w.heap.size,0,none⟩),{ w with heap:=w.heap.push (.cells (a.eval x).cells e) },F,updR ρ d ⟨w.heap.size,0,1⟩,?_,.inl rfl,?_,Y7V rfl⟩
 ·simp[execOp,Instr.box,newVar,newRow]
 ·refine h.newCells d (by simp) (ext:=1) (by simp) (by simp[hn]) (by simp) (fun j e' c q he hq=>?_) rfl rfl rfl rfl
  have hj:j=0:=by have:=(YdM.1 he).1;simp at this;omega
  subst hj
  simp only[Yew,Yem] at he
  subst he
  have hc:c<(a.eval x).cells.size:=by have:=(YdM.1 hq).1;omega
  exact⟨(a.eval x).cells[c],by simp[hc],(hr c _ q (YdL hc) hq).1⟩
theorem foldSet (off:Nat): ∀ (l:List Value) (j0:Nat) (cs:Array Value),off+j0+l.length≤cs.size →
  ((l.zipIdx j0).foldl (fun cs (c,j)=>cs.setIfInBounds (off+j) c) cs).size=cs.size ∧
  ∀ k,((l.zipIdx j0).foldl (fun cs (c,j)=>cs.setIfInBounds (off+j) c) cs)[k]?=if off+j0≤k∧k<off+j0+l.length then l[k - (off+j0)]? else cs[k]?:=by
 intro l
 induction l with
 | nil=>intro j0 cs _;refine⟨rfl,fun k=>?_⟩;rw[if_neg (by simp only[YeM];omega)];rfl
 | cons v r ih =>
  intro j0 cs hl
  simp only[Yen] at hl
  obtain⟨h1,h2⟩:=ih (j0+1) (cs.setIfInBounds (off+j0) v) (by simp;omega)
  simp only[List.zipIdx_cons,Yf7]
  refine⟨by rw[h1];simp,fun k=>?_⟩
  rw[h2 k]
  simp only[Yen]
  by_cases hk:k=off+j0
  ·subst hk
   rw[if_neg (by omega),if_pos (by omega),Yes (by omega)]
   simp
  ·by_cases hk2:off+(j0+1)≤k∧k<off+(j0+1)+r.length
   ·rw[if_pos hk2,if_pos (by omega),show k - (off+j0)=(k - (off+(j0+1)))+1 by omega,List.getElem?_cons_succ]
   ·rw[if_neg hk2,if_neg (by omega),Yeu (by omega)]
def CellsRel (w:World)(F:Nat→Prop)(ρ:Locs)(m:Mem)(cs:Array Value)(ls:List LV): Prop :=
 cs.size=ls.length∧∀ (i:Nat) v l,cs[i]?=some v→ls[i]?=some l→RelL w F ρ m v l
theorem Yab {cs:Array Value}{ls:List LV}(hr:CellsRel w F ρ st.m cs ls){v:Value}{q:List LV}(hv:CellsRel w F ρ st.m v.cells q){off:Nat}(hf:off+q.length≤ls.length):
  CellsRel w F ρ st.m (v.cells.zipIdx.foldl (fun cs (c,j)=>cs.setIfInBounds (off+j) c) cs) (ls.take off++q++ls.drop (off+q.length)):=by
 rw[← Array.foldl_toList,Array.toList_zipIdx]
 obtain⟨h1,h2⟩:=foldSet off v.cells.toList 0 cs (by simp[hv.1,hr.1];omega)
 refine⟨by rw[h1];simp[hr.1];omega,fun i u l hu hl=>?_⟩
 rw[h2 i] at hu
 simp only[YfE,YeN,hv.1] at hu
 have ht:(ls.take off).length=off:=by simp;omega
 by_cases hi:off≤i∧i<off+q.length
 ·rw[if_pos hi,YeD] at hu
  rw[Yef (by simp;omega),Yeq (by omega),ht] at hl
  exact hv.2 _ u l hu hl
 ·rw[if_neg hi] at hu
  refine hr.2 i u l hu ?_
  by_cases hlt:i<off
  ·rw[Yef (by simp;omega),Yef (by omega),YeU,if_pos hlt] at hl
   exact hl
  ·rw[Yeq (by simp;omega),Yf3] at hl
   simp only[YdN,ht] at hl
   rw[show off+q.length+(i - (off+q.length))=i by omega] at hl
   exact hl
theorem Y9c {place place':Nat→Option (Nat × Nat)}(hp:∀ i p,place' i=some p→place i=some p)(pv:Operand→Value)(pl:Operand→LV)
  (hrel:∀ x,RelL w F ρ st.m (pv x) (pl x)):∀ {ps:List (Nat × Operand)}{cs:Array Value}{ls ls':List LV},
  (∀ p∈ps,(cellsL (pl p.2)).all oneC=true)→CellsRel w F ρ st.m cs ls→fillL place' ls (ps.map fun (i,x)=>(i,pl x))=some ls' →
  ∃ cs',Instr.fill place cs (ps.map fun (i,x)=>(i,pv x))=some cs'∧CellsRel w F ρ st.m cs' ls':=by
 intro ps
 induction ps with
 | nil =>
  intro cs ls ls' _ hr h
  simp only[Yfi,fillL,Yem] at h
  subst h
  exact⟨cs,rfl,hr⟩
 | cons p r ih =>
  intro cs ls ls' h1 hr h
  obtain⟨i,x⟩:=p
  simp only[Yey,fillL] at h
  cases hpi:place' i with
  | none=>rw[hpi] at h;cases h
  | some pp =>
   obtain⟨off,size⟩:=pp
   rw[hpi] at h
   simp only at h
   split at h
   ·rename_i hc
    have hcx:=(hrel x).cellsOf (h1 (i,x) (by simp))
    have hcr:CellsRel w F ρ st.m (pv x).cells (cellsL (pl x)):=⟨hcx.1,fun j u l hu hl=>(hcx.2 j u l hu hl).1⟩
    have hst:=Yab hr hcr (off:=off) (by rw[hc.1];exact hc.2)
    rw[hc.1] at hst
    obtain⟨cs',h2,h3⟩:=ih (fun p hp=>h1 p (YdV _ hp)) hst h
    refine⟨cs',?_,h3⟩
    simp only[Yey,Instr.fill,hp i _ hpi]
    rw[if_neg]
    ·exact h2
    ·have:cs.size=ls.length:=hr.1
     simp[hcx.1,hc.1]
     omega
   ·cases h
def partsOk (ρ:Operand→LV)(ps:List (Nat × Operand)): Bool:=ps.all fun p=>(cellsL (ρ p.2)).all oneC
theorem Y7g (h:Inv X st a w F ρ){t:TypeId}{ps:Array (Nat × Operand)}{v:LV}(hb:buildL P t (ps.toList.map fun (i,x)=>(i,evalO st.ts x))=some v)
  (hpo:partsOk (evalO st.ts) ps.toList=true) {o:Oper}(ho:o.op=.build t ps):Sound P X st a w o v []:=by
 obtain⟨dst,op,ty,pos,after,guard⟩:=o
 simp only at ho
 subst ho
 unfold buildL at hb
 cases hz:zeroL P t with
 | none=>rw[hz] at hb;cases hb
 | some zl =>
  rw[hz] at hb
  simp only at hb
  split at hb
  case isFalse=>cases hb
  rename_i hso
  cases hf:fillL (placeS P t) zl (ps.toList.map fun (i,x)=>(i,evalO st.ts x)) with
  | none=>rw[hf] at hb;cases hb
  | some ls' =>
   rw[hf] at hb
   simp only[Yf1,Yem] at hb
   subst hb
   obtain⟨i,z,hi,hz',rfl⟩:=Y0t hz
   have hzr:CellsRel w F ρ st.m z.cells (z.cells.toList.map constC):=by
    refine⟨by simp,fun j u l hu hl=>?_⟩
    rw[YeY,YeD,hu] at hl
    simp at hl
    subst hl
    exact .frz (Y1w u)
   have hpo':∀ p∈ps.toList,(cellsL (evalO st.ts p.2)).all oneC=true:=by
    intro p hp
    unfold partsOk at hpo
    rw[Yed] at hpo
    exact hpo p hp
   have run:∀ (place:Nat→Option (Nat × Nat)),(∀ j p,placeS P t j=some p→place j=some p) →
     ∃ cs',Instr.fill place z.cells (ps.toList.map fun (i,x)=>(i,a.eval x))=some cs'∧CellsRel w F ρ st.m cs' ls':=fun place hp =>
    Y9c hp a.eval (evalO st.ts) h.eval hpo' hzr hf
   have hbuilt:∃ cs',P.built t (ps.toList.map fun (i,x)=>(i,a.eval x))=some cs'∧CellsRel w F ρ st.m cs' ls':=by
    unfold Program.built
    unfold sizesOk at hso
    cases hu:P.underlying t with
    | none=>rw[hu] at hso;cases hso
    | some d =>
     rw[hu] at hso
     cases d <;> try (simp at hso;done)
     case struct fs =>
      simp only[hi,hz']
      have hso:∀ f∈fs.toList,(szT P f.type).isSome=true:=Yed.1 hso
      have hpl:∃ places,fs.toList.mapM (fun f=>(P.info? f.type).map fun i=>(f.offset,i.size))=some places∧∀ (j:Nat) f n,fs.toList[j]?=some f→szT P f.type=some n→places[j]?=some (f.offset,n):=by
       revert hso
       generalize fs.toList=l
       intro hso
       induction l with
       | nil=>exact⟨[],rfl,by simp⟩
       | cons f r ih =>
        obtain⟨places,h1,h2⟩:=ih fun f hf=>hso f (YdV _ hf)
        have hf:=hso f (by simp)
        cases hfi:szT P f.type with
        | none=>rw[hfi] at hf;cases hf
        | some n =>
         obtain⟨fi,hfi',hfs⟩:=Y0G hfi
         refine⟨(f.offset,fi.size)::places,by simp[List.mapM_cons,hfi',h1],fun j g k hg hk=>?_⟩
         cases j with
         | zero =>
          simp at hg
          subst hg
          rw[hfi] at hk
          injection hk with hk
          simp[hfs,hk]
         | succ j=>exact h2 j g k (by simpa using hg) hk
      obtain⟨places,h1,h2⟩:=hpl
      simp only[h1]
      refine run _ fun j p hp=>?_
      unfold placeS at hp
      rw[hu] at hp
      simp only at hp
      cases hfj:fs[j]? with
      | none=>rw[hfj] at hp;cases hp
      | some f =>
       rw[hfj] at hp
       simp only at hp
       cases hn:szT P f.type with
       | none=>rw[hn] at hp;cases hp
       | some n =>
        rw[hn] at hp
        injection hp with hp
        subst hp
        simpa using h2 j f n (by simpa using hfj) hn
     case array n e =>
      simp only[hi,hz']
      cases hn:szT P e with
      | none =>
       have hso:(szT P e).isSome=true:=hso
       rw[hn] at hso
       cases hso
      | some k =>
       obtain⟨ie,hie,hk⟩:=Y0G hn
       simp only[hie]
       refine run _ fun j p hp=>?_
       unfold placeS at hp
       rw[hu] at hp
       simp only[hn] at hp
       rw[hk]
       exact hp
   obtain⟨cs',h1,h2⟩:=hbuilt
   refine Yge h (val:=.agg cs') ?_ (.agg h2.1 h2.2)
   have:(ps.map fun (i,x)=>(i,a.eval x)).toList=ps.toList.map fun (i,x)=>(i,a.eval x):=by simp
   simp only[execOp,Sem.run_bind,run_build w t _ cs' (by rw[this];exact h1),Yel]
   rfl
end
theorem Frz.one1 {m:Mem}{l l':LV}{T:List Nat}(h:Frz m l l' T)(ho:oneC l'=true): oneC l=true:=by
 cases h <;> first | exact ho | rfl | (simp[oneC] at ho)
theorem Frz.all {m:Mem}{l l':LV}{T:List Nat}(h:Frz m l l' T): ∀ cs cs',l=.agg cs→l'=.agg cs'→cs'.all oneC=true→cs.all oneC=true:=by
 induction h with
 | aggn=>intro cs cs' h1 h2 h3;cases h1;rfl
 | aggc h hs ih1 ih2 =>
  intro cs cs' h1 h2 h3
  injection h1 with h1
  injection h2 with h2
  subst h1 h2
  simp only[Yfa,Ye0] at h3 ⊢
  exact⟨h.one1 h3.1,ih2 _ _ rfl rfl h3.2⟩
 | pure hp=>intro cs cs' h1 h2;subst h1;simp[pureL] at hp
 | nils=>intro cs cs' h1;cases h1
 | nilm=>intro cs cs' h1;cases h1
 | nilmE=>intro cs cs' h1;cases h1
 | refU=>intro cs cs' h1;cases h1
 | undU=>intro cs cs' h1;cases h1
 | own=>intro cs cs' h1;cases h1
 | mref=>intro cs cs' h1;cases h1
 | ref=>intro cs cs' h1;cases h1
 | fn=>intro cs cs' h1;cases h1
section
variable {P:Program}{X:Ctx}{st:St}{a:Act}{w:World}{F:Nat→Prop}{ρ:Locs}
theorem Y65 (h:Inv X st a w F ρ){v:Value}{l:LV}(hv:RelL w F ρ st.m v l){cs:List LV}{T:List Nat}(hf:Frz st.m (.agg (cellsL l)) (.agg cs) T)(h1:cs.all oneC=true):
  v.cells.size=cs.length∧∀ (i:Nat) u q,v.cells[i]?=some u→cs[i]?=some q→RelF w (FT F ρ T) u q∧u.oneCell'=true:=by
 obtain⟨hn,hr⟩:=hv.cellsOf (hf.all _ _ rfl rfl h1)
 obtain⟨cs',h2,h3⟩:=hf.len _ rfl
 injection h2 with h2
 subst h2
 obtain⟨cs2,h4,h5,h6⟩:=(Frz.sound h.boxes hf (.agg v.cells) (.agg hn fun i u q hu hq=>(hr i u q hu hq).1)).cells
 injection h4 with h4
 subst h4
 refine⟨h5,fun i u q hu hq=>⟨h6 i u q hu hq,?_⟩⟩
 have hi:i<(cellsL l).length:=by rw[← hn];exact (Yeh.1 hu).1
 exact (hr i u _ hu (YdO hi)).2
def ERel (w:World)(F:Nat→Prop)(cs:Array Value)(sz:Nat)(es:List (List LV)): Prop :=
 cs.size=es.length*sz∧(∀ e∈es,e.length=sz)∧∀ (i:Nat) e (c:Nat) q,es[i]?=some e→e[c]?=some q→∃ v,cs[i*sz+c]?=some v∧RelF w F v q
theorem Ycc {sz i c i' c':Nat}(h:i*sz+c=i'*sz+c')(hc:c<sz)(hc':c'<sz): i=i'∧c=c':=by
 have hi:i=i':=by
  rcases Nat.lt_trichotomy i i' with h1 | h1 | h1
  ·have:(i+1)*sz≤i'*sz:=YeX _ h1
   rw[YeB] at this
   omega
  ·exact h1
  ·have:(i'+1)*sz≤i*sz:=YeX _ h1
   rw[YeB] at this
   omega
 subst hi
 exact⟨rfl,by omega⟩
theorem Y1S {sz i n:Nat}(h:i<n): i*sz+sz≤n*sz:=by
 have:(i+1)*sz≤n*sz:=YeX _ h
 rwa [YeB,Nat.one_mul] at this
theorem Yca {sz i c i' c':Nat}(hc:c<sz)(hne:i≠i'): i'*sz+c'<i'*sz∨i*sz+c<i'*sz∨i'*sz+sz≤i*sz+c:=by
 rcases Nat.lt_or_gt_of_ne hne with h1 | h1
 ·have:=Y1S (sz:=sz) h1
  omega
 ·have:=Y1S (sz:=sz) h1
  omega
theorem ERel.set {cs:Array Value}{sz:Nat}{es:List (List LV)}(h:ERel w F cs sz es){i:Nat}(hi:i<es.length){v:Value}{q:List LV}(hn:v.cells.size=q.length)(hq:q.length=sz)
  (hv:∀ (j:Nat) u l,v.cells[j]?=some u→q[j]?=some l→RelF w F u l) :
  ERel w F (v.cells.zipIdx.foldl (fun cs (c,j)=>cs.setIfInBounds (i*sz+j) c) cs) sz (es.set i q):=by
 rw[← Array.foldl_toList,Array.toList_zipIdx]
 have hfit:=Y1S (sz:=sz) hi
 obtain⟨h1,h2⟩:=foldSet (i*sz) v.cells.toList 0 cs (by simp[hn,hq,h.1];omega)
 refine⟨by rw[h1,h.1];simp,fun e he=>?_,fun j e c l he hl=>?_⟩
 ·rcases YeZ he with he | he
  ·exact h.2.1 e he
  ·rw[he,hq]
 ·simp only[YfE,YeN,hn,hq] at h2
  by_cases hj:j=i
  ·subst hj
   rw[YeH hi] at he
   injection he with he
   subst he
   have hc:c<sz:=by have:=(YdM.1 hl).1;omega
   have hcv:c<v.cells.size:=by omega
   refine⟨v.cells[c],?_,hv c _ l (YdL hcv) hl⟩
   rw[h2,if_pos (by omega),YeD,show j*sz+c - j*sz=c by omega]
   exact YdL hcv
  ·rw[YeF (Ne.symm hj)] at he
   have hc:c<sz:=by
    have:=(YdM.1 hl).1
    rw[h.2.1 e (Yet he)] at this
    exact this
   obtain⟨u,hu,hr⟩:=h.2.2 j e c l he hl
   refine⟨u,?_,hr⟩
   have:=Yca (i':=i) (c':=0) hc hj
   rw[h2,if_neg (by omega)]
   exact hu
theorem FrzP.some {m:Mem}{sz n:Nat}{ρl:Operand→LV}{ps:List (Nat × Operand)}{ps':List (Nat × List LV)}{T:List Nat}(h:FrzP m sz n ρl ps ps' T): ∀ b∈T,(m b).isSome=true:=by
 induction h with
 | nil=>simp
 | cons h h1 hi hl hr ih =>
  intro b hb
  rcases Yei.1 hb with hb | hb
  ·exact h.some b hb
  ·exact ih b hb
theorem Y7G (h:Inv X st a w F ρ){sz n:Nat}{ps:List (Nat × Operand)}{ps':List (Nat × List LV)}{T:List Nat}(hp:FrzP st.m sz n (evalO st.ts) ps ps' T):
  ∀ {cs:Array Value}{es:List (List LV)}{F':Nat→Prop},es.length=n→(∀ b,FT F ρ T b→F' b)→ERel w F' cs sz es →
  ∃ cs',Instr.fill (fun i=>some (i*sz,sz)) cs (ps.map fun (i,x)=>(i,a.eval x))=some cs'∧ERel w F' cs' sz (fillE es ps'):=by
 induction hp with
 | nil=>intro cs es F' _ _ hr;exact⟨cs,rfl,hr⟩
 | @cons i x q r r' S T hf h1 hi hl hr ih =>
  intro cs es F' hn hF her
  obtain⟨h2,h3⟩:=Y65 h (h.eval x) hf h1
  have hset:=her.set (i:=i) (by omega) (v:=a.eval x) (q:=q) h2 hl (fun j u l hu hl=>((h3 j u l hu hl).1).mono (fun b hb=>hF b (FT.sub (fun x hx=>Yee _ hx) b hb)) (fun _ _=>rfl))
  obtain⟨cs',h4,h5⟩:=ih (by simpa using hn) (fun b hb=>hF b (FT.sub (fun x hx=>Yeg _ hx) b hb)) hset
  refine⟨cs',?_,h5⟩
  simp only[Yey,Instr.fill]
  rw[if_neg]
  ·exact h4
  ·have:=Y1S (sz:=sz) hi
   have h6:=her.1
   rw[hn] at h6
   simp[h2,hl]
   omega
theorem Y9Z (v:Value): RelF w F v (pureC (constC v)):=by
 unfold constC
 split <;> first | exact .int _ _ | exact .bool _ | exact .str _ | exact .nilp | exact .nilm | exact .undef _ | skip
 exact .sl (blk:=0) (off:=0) (sz:=0) (fun _ _=>Go.undef) rfl (Ye2 _) (fun h=>absurd h (by omega)) (by simp) (by simp) (by simp)
theorem Y4J (z:Array Value)(hz:0<z.size)(n:Nat): ERel w F (madeCells z (n*z.size)) z.size (List.replicate n ((z.toList.map constC).map pureC)):=by
 refine⟨by simp[madeCells],fun e he=>?_,fun i e c q he hq=>?_⟩
 ·rw[YeQ he]
  simp
 ·have he':=YeQ (Yet he)
  subst he'
  have hi:i<n:=by have:=(YdM.1 he).1;simpa using this
  have hc:c<z.size:=by have:=(YdM.1 hq).1;simpa using this
  have hfit:=Y1S (sz:=z.size) hi
  refine⟨z[c],?_,?_⟩
  ·unfold madeCells
   rw[Array.getElem?_map,Array.getElem?_range,if_pos (by omega)]
   simp only[Yf1,Yem]
   rw[Nat.mul_comm,Nat.mul_add_mod,Nat.mod_eq_of_lt hc,getElem!_pos z c hc]
  ·simp only[YeY,YeD,YdL hc,Yf1,Yem] at hq
   subst hq
   exact Y9Z _
theorem Y3F (h:Inv X st a w F ρ){d:Nat}{t e:TypeId}{n:Nat}{ps:Array (Nat × Operand)}{z:List LV}{ps':List (Nat × List LV)}{T:List Nat}
  (ht:sliceE P t=some e) (hz:zeroL P e=some z) (hs:szT P e=some z.length) (hn:0<z.length) (hb:n*z.length≤16777216) (hn0:0<n) (hp:FrzP st.m z.length n (evalO st.ts) ps.toList ps' T)
  {o:Oper}(ho:o.op=.buildSlice t n ps) :
  Sound P X st a w o (.own d (genAt (effM st.m (markE st.m T)) d) 0 n none)
   (markE st.m T++[(d,⟨genAt (effM st.m (markE st.m T)) d,false,.slc,z.length,fillE (List.replicate n (z.map pureC)) ps'⟩)]):=by
 obtain⟨dst,op,ty,pos,after,guard⟩:=o
 simp only at ho
 subst ho
 obtain⟨i,zv,hi,hz',rfl⟩:=Y0t hz
 simp only[Ye4,YeN] at hs hn hb hp ⊢
 obtain⟨i',hi',hs'⟩:=Y0G hs
 rw[hi] at hi'
 injection hi' with hi'
 subst hi'
 obtain⟨F',hF1,hF2,hI⟩:=h.mark T
 have hF3:∀ b,FT F ρ T b→F' b:=fun b hb=>hF2 b hb hp.some
 obtain⟨cs',h1,h2⟩:=Y7G h hp (cs:=madeCells zv.cells (n*zv.cells.size)) (F':=F') (YeR ..) hF3 (Y4J zv.cells hn n)
 have hlen:(fillE (List.replicate n ((zv.cells.toList.map constC).map pureC)) ps').length=n:=by
  have:∀ (ps':List (Nat × List LV)) (es:List (List LV)),(fillE es ps').length=es.length:=by
   intro ps'
   induction ps' with
   | nil=>intro es;rfl
   | cons p r ih=>intro es;obtain⟨i,cs⟩:=p;simp only[fillE];rw[ih];simp
  rw[this]
  simp
 refine⟨_,.slice (some ⟨w.heap.size,0,none⟩) n n,{ w with heap:=w.heap.push (.cells cs' e) },F',updR ρ d ⟨w.heap.size,0,n⟩,?_,.inl rfl,?_,?_⟩
 ·have hbs:=run_buildSlice (P:=P) w t e n (ps.map fun (i,x)=>(i,a.eval x)) cs' i zv (Y0c ht) hi hz' (by rw[hs'];omega) (by rw[hs'];exact fun h0=>by have:=Nat.mul_pos hn0 hn;omega)
   (by rw[hs'];simpa [madeCells] using h1)
  simp only[execOp,Sem.run_bind,hbs,Yel]
  rfl
 ·rw[Y0b]
  refine hI.newCells d (k:=.slc) (by simp) h2.2.1 (by rw[h2.1,hlen];exact Ye2 _) (by rw[hlen];exact Ye2 _) (fun i e c q he hq=>?_) rfl rfl rfl rfl
  obtain⟨v,hv,hr⟩:=h2.2.2 i e c q he hq
  exact⟨v,hv,hr⟩
 ·rw[Y0b]
  exact .own rfl (Y07 _ _ _) (Ye2 _) fun _=>⟨rfl,by simp only[YdZ,hlen];exact Ye2 _,by
   rw[Y0d]
   exact⟨_,n,rfl,fun _=>by simp,Ye2 _,by simp⟩⟩
theorem Y36 (h:Inv X st a w F ρ){d:Nat}{t e:TypeId}{n:Nat}(ht:sliceE P t=some e)(hs:szT P e=some n)(hn:0<n){o:Oper}(ho:o.op=.buildSlice t 0 #[]):
  Sound P X st a w o (.own d (genAt st.m d) 0 0 none) [(d,⟨genAt st.m d,false,.slc,n,[]⟩)]:=by
 obtain⟨dst,op,ty,pos,after,guard⟩:=o
 simp only at ho
 subst ho
 obtain⟨i,hi,hs'⟩:=Y0G hs
 refine⟨_,.slice (some ⟨w.heap.size,0,none⟩) 0 0,{ w with heap:=w.heap.push (.cells #[] e) },F,updR ρ d ⟨w.heap.size,0,0⟩,?_,.inl rfl,?_,?_⟩
 ·have h0:∀ f:Nat→Value,(Array.range 0).map f=#[]:=fun f=>Array.eq_empty_of_size_eq_zero (by simp)
  simp[execOp,Instr.buildSlice,run_underlying (Y0c ht),Y0i hs,h0,Instr.fill]
  rfl
 ·exact h.newCells d (k:=.slc) (cs0:=#[]) (t:=e) (by simp) (by simp) (by simp) (by simp) (by simp) rfl rfl rfl rfl
 ·exact .own rfl (Y07 _ _ _) (Ye2 _) fun _=>⟨rfl,by simp,by
   rw[Y0d]
   exact⟨_,0,rfl,fun h=>absurd h (by omega),Ye2 _,by simp⟩⟩
theorem Y9i (h:Inv X st a w F ρ){t:TypeId}{x:Operand}{b g i c:Nat}{y:Box}{cs:List LV}{v:LV}(ha:evalO st.ts x=.ref b g i c)(hm:st.m b=some y)(hg:y.gen=g)(hk:y.kind≠.mp)
  (he:y.es[i]?=some cs) (ht:isAggT P t=some false) (hv:cs[c]?=some v) {o:Oper}(ho:o.op=.load t x):Sound P X st a w o v []:=by
 obtain⟨dst,op,ty,pos,after,guard⟩:=o
 simp only at ho
 subst ho
 have hx:=h.eval x
 rw[ha] at hx
 obtain⟨-,l,hl,hx⟩:=hx.toRef hm hg
 obtain⟨u,hu,hr⟩:=h.boxCell hm hk hl he hv
 refine Yge h (val:=u) ?_ hr.relL
 simp only[execOp,Sem.run_bind,hx,Y4H (P:=P) ht hu,Yel]
 rfl
theorem Y7k (h:Inv X st a w F ρ){t:TypeId}{x:Operand}{b g i c n:Nat}{y:Box}{cs:List LV}(ha:evalO st.ts x=.ref b g i c)(hm:st.m b=some y)(hg:y.gen=g)(hk:y.kind≠.mp)
  (he:y.es[i]?=some cs) (ht:isAggT P t=some true) (hs:szT P t=some n) (hc:c+n≤cs.length) {o:Oper}(ho:o.op=.load t x):Sound P X st a w o (.agg ((cs.drop c).take n)) []:=by
 obtain⟨dst,op,ty,pos,after,guard⟩:=o
 simp only at ho
 subst ho
 have hx:=h.eval x
 rw[ha] at hx
 obtain⟨-,l,hl,hx⟩:=hx.toRef hm hg
 obtain⟨vs,hn,hcells⟩:=Y1t (P:=fun j v=>∃ q,cs[c+j]?=some q∧RelL w F ρ st.m v q) (w:=w) (blk:=l.blk) (o:=l.base+(i*y.sz+c)) (n:=n) fun j hj=>by
  have hq:cs[c+j]?=some (cs[c+j]'(by omega)):=YdO _
  obtain⟨u,hu,hr⟩:=h.boxCell hm hk hl he hq
  exact⟨u,by rw[show l.base+(i*y.sz+c)+j=l.base+(i*y.sz+(c+j)) by omega];exact hu,_,hq,hr.relL⟩
 refine Yge h (val:=.agg vs.toArray) ?_ (aggOfCells hn hc fun j v hv=>(hcells j v hv).2)
 have:=Y4I (P:=P) (w:=w) (p:=⟨l.blk,l.base+(i*y.sz+c),none⟩) ht hs hn (fun j v hv=>by rw[Y0g];exact (hcells j v hv).1)
 simp only[execOp,Sem.run_bind,hx,this,Yel]
 rfl
theorem Y79 (h:Inv X st a w F ρ){t:TypeId}{x:Operand}{es:List (List LV)}{i c:Nat}{cs:List LV}{v:LV}(ha:evalO st.ts x=.fad es i c)
  (he:es[i]?=some cs) (ht:isAggT P t=some false) (hv:cs[c]?=some v) {o:Oper}(ho:o.op=.load t x):Sound P X st a w o v []:=by
 obtain⟨dst,op,ty,pos,after,guard⟩:=o
 simp only at ho
 subst ho
 have hx:=h.eval x
 rw[ha] at hx
 obtain⟨blk,off,sz,val,hx,hF,hsz,hcell,hrel⟩:=hx.toFad
 refine Yge h (val:=val i c) ?_ (.frz (hrel i cs c v he hv))
 simp only[execOp,Sem.run_bind,hx,Y4H (P:=P) ht (hcell i cs c v he hv),Yel]
 rfl
theorem Y6I (h:Inv X st a w F ρ){t:TypeId}{x:Operand}{es:List (List LV)}{i c n:Nat}{cs:List LV}(ha:evalO st.ts x=.fad es i c)
  (he:es[i]?=some cs) (ht:isAggT P t=some true) (hs:szT P t=some n) (hc:c+n≤cs.length) {o:Oper}(ho:o.op=.load t x):Sound P X st a w o (.agg ((cs.drop c).take n)) []:=by
 obtain⟨dst,op,ty,pos,after,guard⟩:=o
 simp only at ho
 subst ho
 have hx:=h.eval x
 rw[ha] at hx
 obtain⟨blk,off,sz,val,hx,hF,hsz,hcell,hrel⟩:=hx.toFad
 obtain⟨vs,hn,hcells⟩:=Y1t (P:=fun j v=>∃ q,cs[c+j]?=some q∧RelL w F ρ st.m v q) (w:=w) (blk:=blk) (o:=off+(i*sz+c)) (n:=n) fun j hj=>by
  have hq:cs[c+j]?=some (cs[c+j]'(by omega)):=YdO _
  exact⟨val i (c+j),by rw[show off+(i*sz+c)+j=off+(i*sz+(c+j)) by omega];exact hcell i cs _ _ he hq,_,hq,.frz (hrel i cs _ _ he hq)⟩
 refine Yge h (val:=.agg vs.toArray) ?_ (aggOfCells hn hc fun j v hv=>(hcells j v hv).2)
 have:=Y4I (P:=P) (w:=w) (p:=⟨blk,off+(i*sz+c),none⟩) ht hs hn (fun j v hv=>by rw[Y0g];exact (hcells j v hv).1)
 simp only[execOp,Sem.run_bind,hx,this,Yel]
 rfl
end
theorem Y5e (T:List Nat): ∀ (m:Mem) (d:Nat),genAt (effM m (markE m T)) d=genAt m d:=by
 induction T with
 | nil=>intro m d;rfl
 | cons b r ih =>
  intro m d
  cases hb:m b with
  | none=>simp only[markE,hb];exact ih m d
  | some x =>
   simp only[markE,hb,effM]
   have:=ih (updM m b { x with frz:=true }) d
   rw[Y2r hb] at this
   rw[this]
   unfold genAt
   by_cases hd:b=d
   ·subst hd
    rw[Y07,hb]
   ·rw[Y0e _ _ hd]
theorem Y7e (T:List Nat): ∀ (m:Mem) (d:Nat),d∉T→effM m (markE m T) d=m d:=by
 induction T with
 | nil=>intro m d _;rfl
 | cons b r ih =>
  intro m d hd
  have hbd:b≠d:=fun h=>hd (by simp[h])
  have hdr:d∉r:=fun h=>hd (YdV _ h)
  cases hb:m b with
  | none=>simp only[markE,hb];exact ih m d hdr
  | some x =>
   simp only[markE,hb,effM]
   have:=ih (updM m b { x with frz:=true }) d hdr
   rw[Y2r hb] at this
   rw[this,Y0e _ _ hbd]
section
variable {P:Program}{X:Ctx}{st:St}{a:Act}{w:World}{F:Nat→Prop}{ρ:Locs}
theorem Inv.store (h:Inv X st a w F ρ){b i c:Nat}{x:Box}{l:Loc}{cs vs:List LV}{us:List Value}(hm:st.m b=some x)(hf:x.frz=false)(hk:x.kind≠.mp)(hl:ρ b=some l)
  (he:x.es[i]?=some cs) (hn:us.length=vs.length) (hc:c+vs.length≤cs.length) (h1:∀ u∈us,u.oneCell'=true)
  (hr:∀ (j:Nat) u q,us[j]?=some u→vs[j]?=some q→CellR w F ρ st.m x.kind u q) :
  ∃ w',(storeCells ⟨l.blk,l.base+(i*x.sz+c),none⟩ us).run P w=.ok () w' ∧
   Inv X ⟨st.ts,updM st.m b { x with es:=x.es.set i (cs.take c++vs++cs.drop (c+vs.length)) }⟩ a w' F ρ:=by
 have hb:=h.boxes b x hm
 unfold BoxOK at hb
 rw[hl] at hb
 have hb:CellsOK w F ρ st.m (some l) x:=by
  cases hkk:x.kind with
  | var=>rw[hkk] at hb;exact hb.1
  | slc=>rw[hkk] at hb;exact hb
  | nst=>rw[hkk] at hb;exact hb
  | mp=>exact absurd hkk hk
 obtain⟨cur,t,g1,g2,g3,g4,g5⟩:=hb
 have hi:i<x.es.length:=(YdM.1 he).1
 have hcl:cs.length=x.sz:=g4 cs (Yet he)
 have hfit:=Y1S (sz:=x.sz) hi
 have hfit2:x.es.length*x.sz≤l.ext*x.sz:=YeX _ g3
 have hst:=run_storeCells_at P l.blk (l.base+(i*x.sz+c)) t us 0 cur w g1 (by omega) h1
 simp only[YfE] at hst
 refine⟨_,hst,?_⟩
 have hlen:(cs.take c++vs++cs.drop (c+vs.length)).length=x.sz:=by simp;omega
 refine h.write rfl rfl rfl (by simp) (fun k hk' hne=>setRow_other w l.blk k _ (hne x l hm hf hl)) (fun k hk=>rfl) hf (fun y hy=>.inl ?_) (fun l' hl'=>?_) fun hcm hF=>?_
 ·rw[hm] at hy
  injection hy with hy
  subst hy
  exact⟨rfl,rfl,rfl,.inr (by simp),rfl⟩
 ·rw[hl] at hl'
  injection hl' with hl'
  subst hl'
  exact⟨by simp;exact (h.place b x l hm hl).1,.inr ⟨x,l,hm,hf,hl,rfl⟩⟩
 ·have:CellsOK (w.setRow l.blk (cur.toList.take (l.base+(i*x.sz+c))++us++cur.toList.drop (l.base+(i*x.sz+c)+us.length)).toArray) F ρ
    (updM st.m b { x with es:=x.es.set i (cs.take c++vs++cs.drop (c+vs.length)) }) (some l) { x with es:=x.es.set i (cs.take c++vs++cs.drop (c+vs.length)) }:=by
   refine⟨_,t,setRow_heap w l.blk cur _ t _ g1,by simp;omega,by simpa using g3,fun e he'=>?_,fun j e k q he' hq=>?_⟩
   ·rcases YeZ he' with he' | he'
    ·exact g4 e he'
    ·rw[he'];exact hlen
   ·have look:∀ p,((cur.toList.take (l.base+(i*x.sz+c))++us++cur.toList.drop (l.base+(i*x.sz+c)+us.length)).toArray)[p]? =
      if l.base+(i*x.sz+c)≤p∧p<l.base+(i*x.sz+c)+us.length then us[p - (l.base+(i*x.sz+c))]? else cur[p]?:=by
     intro p
     have htl:(cur.toList.take (l.base+(i*x.sz+c))).length=l.base+(i*x.sz+c):=by simp;omega
     rw[Yfe]
     by_cases hp:l.base+(i*x.sz+c)≤p∧p<l.base+(i*x.sz+c)+us.length
     ·rw[if_pos hp,Yef (by simp;omega),Yeq (by omega),htl]
     ·rw[if_neg hp]
      by_cases hlt:p<l.base+(i*x.sz+c)
      ·rw[Yef (by simp;omega),Yef (by omega),YeU,if_pos hlt,YeD]
      ·rw[Yeq (by simp;omega),Yf3]
       simp only[YdN,htl]
       rw[show l.base+(i*x.sz+c)+us.length+(p - (l.base+(i*x.sz+c)+us.length))=p by omega,YeD]
    change ∃ v,(List.toArray _)[l.base+(j*x.sz+k)]?=some v∧_
    rw[look]
    by_cases hj:j=i
    ·subst hj
     rw[YeH hi] at he'
     injection he' with he'
     subst he'
     have hk':k<x.sz:=by have:=(YdM.1 hq).1;omega
     have htc:(cs.take c).length=c:=by simp;omega
     by_cases hin:c≤k∧k<c+vs.length
     ·rw[Yef (by simp;omega),Yeq (by omega),htc] at hq
      rw[if_pos (by omega),show l.base+(j*x.sz+k) - (l.base+(j*x.sz+c))=k - c by omega]
      have hus:us[k - c]?=some (us[k - c]'(by omega)):=YdO _
      exact⟨_,hus,(hr _ _ q hus hq).mono (fun _ h=>h) hF hcm⟩
     ·rw[if_neg (by omega)]
      have hq':cs[k]?=some q:=by
       by_cases hlt:k<c
       ·rw[Yef (by simp;omega),Yef (by omega),YeU,if_pos hlt] at hq
        exact hq
       ·rw[Yeq (by simp;omega),Yf3] at hq
        simp only[YdN,htc] at hq
        rwa [show c+vs.length+(k - (c+vs.length))=k by omega] at hq
      obtain⟨v,hv,hrel⟩:=g5 j cs k q he hq'
      exact⟨v,hv,hrel.mono (fun _ h=>h) hF hcm⟩
    ·rw[YeF (Ne.symm hj)] at he'
     have hk':k<x.sz:=by
      have:=(YdM.1 hq).1
      rw[g4 e (Yet he')] at this
      exact this
     have:=Yca (i':=i) (c':=0) hk' hj
     obtain⟨v,hv,hrel⟩:=g5 j e k q he' hq
     rw[if_neg (by omega)]
     exact⟨v,hv,hrel.mono (fun _ h=>h) hF hcm⟩
  exact Ygc hk (by rw[hl];exact this) fun hv l' hl'=>BoxOK.ext (x:=x) hv (h.boxes b x hm) l' hl'
theorem Y7K (h:Inv X st a w F ρ){t:TypeId}{p y:Operand}{b g i c n:Nat}{x:Box}{cs vs:List LV}(ha:evalO st.ts p=.ref b g i c)(hm:st.m b=some x)(hg:x.gen=g)(hf:x.frz=false)
  (hk:x.kind=.var∨x.kind=.nst) (he:x.es[i]?=some cs) (hs:szT P t=some n) (hy:cellsL (evalO st.ts y)=vs) (hl:vs.length=n) (h1:vs.all oneC=true) (hc:c+n≤cs.length)
  {o:Oper}(ho:o.op=.store t p y):Sound P X st a w o .skip [(b,{ x with es:=x.es.set i (cs.take c++vs++cs.drop (c+n)) })]:=by
 obtain⟨dst,op,ty,pos,after,guard⟩:=o
 simp only at ho
 subst ho
 subst hy
 have hx:=h.eval p
 rw[ha] at hx
 obtain⟨hk0,l,hl',hx⟩:=hx.toRef hm hg
 obtain⟨hn,hr⟩:=(h.eval y).cellsOf h1
 have q1:∀ u∈(a.eval y).cells.toList,u.oneCell'=true:=fun u hu=>by
  obtain⟨j,hj,hju⟩:=Yfz.1 hu
  have hj':j<(a.eval y).cells.size:=by simpa using hj
  have hu':(a.eval y).cells[j]?=some u:=by rw[YdL hj',← hju];simp
  exact (hr j u _ hu' (YdO (by omega))).2
 obtain⟨w',hrun,hI⟩:=h.store (P:=P) (us:=(a.eval y).cells.toList) (vs:=cellsL (evalO st.ts y)) (c:=c) hm hf hk0 hl' he (by simpa using hn) (by omega) q1 (fun j u q hu hq=>by
  rcases hk with hk | hk <;> rw[hk] <;> exact (hr j u q (by simpa using hu) hq).1)
 ·rw[hl] at hI
  refine⟨.skip,Go.undef,w',F,ρ,?_,.inr ⟨rfl,rfl⟩,hI,.frz .skip⟩
  have hsz:(a.eval y).cells.size=n:=by omega
  simp[execOp,hx,Instr.storeAt,Instr.sureAddr,storeVar,Y0i hs,hsz,hrun]
theorem Y6m (h:Inv X st a w F ρ){t:TypeId}{p y:Operand}{b g i c n:Nat}{x:Box}{cs vs:List LV}{T:List Nat}(ha:evalO st.ts p=.ref b g i c)(hm:st.m b=some x)(hg:x.gen=g)(hf:x.frz=false)
  (hk:x.kind=.slc) (he:x.es[i]?=some cs) (hs:szT P t=some n) (hy:Frz st.m (.agg (cellsL (evalO st.ts y))) (.agg vs) T) (hb:b∉T) (hl:vs.length=n) (h1:vs.all oneC=true) (hc:c+n≤cs.length)
  {o:Oper}(ho:o.op=.store t p y):Sound P X st a w o .skip (markE st.m T++[(b,{ x with es:=x.es.set i (cs.take c++vs++cs.drop (c+n)) })]):=by
 obtain⟨dst,op,ty,pos,after,guard⟩:=o
 simp only at ho
 subst ho
 have hx:=h.eval p
 rw[ha] at hx
 obtain⟨hk0,l,hl',hx⟩:=hx.toRef hm hg
 obtain⟨F',hF1,hF2,hI0⟩:=h.mark T
 obtain⟨hn,hr⟩:=Y65 h (h.eval y) hy h1
 have hm':(effM st.m (markE st.m T)) b=some x:=by rw[Y7e T _ _ hb];exact hm
 have q1:∀ u∈(a.eval y).cells.toList,u.oneCell'=true:=fun u hu=>by
  obtain⟨j,hj,hju⟩:=Yfz.1 hu
  have hj':j<(a.eval y).cells.size:=by simpa using hj
  have hu':(a.eval y).cells[j]?=some u:=by rw[YdL hj',← hju];simp
  exact (hr j u _ hu' (YdO (by omega))).2
 obtain⟨w',hrun,hI⟩:=hI0.store (P:=P) (us:=(a.eval y).cells.toList) (vs:=vs) (c:=c) hm' hf hk0 hl' he (by simpa using hn) (by omega) q1 (fun j u q hu hq=>by
  rw[hk]
  exact ((hr j u q (by simpa using hu) hq).1).mono (fun b hb=>hF2 b hb hy.some) (fun _ _=>rfl))
 ·rw[hl] at hI
  refine⟨.skip,Go.undef,w',F',ρ,?_,.inr ⟨rfl,rfl⟩,by rw[Y0b];exact hI,.frz .skip⟩
  have hsz:(a.eval y).cells.size=n:=by omega
  simp[execOp,hx,Instr.storeAt,Instr.sureAddr,storeVar,Y0i hs,hsz,hrun]
theorem Y9L {s:TypeId}{f k:Nat}(h:offF P s f=some k): ∃ fs fd n,P.underlying s=some (.struct fs)∧fs[f]?=some fd∧fd.offset=k∧szT P fd.type=some n∧n≠0:=by
 unfold offF at h
 cases hu:P.underlying s with
 | none=>rw[hu] at h;cases h
 | some d =>
  rw[hu] at h
  cases d <;> try (simp at h;done)
  case struct fs =>
   simp only at h
   cases hf:fs[f]? with
   | none=>rw[hf] at h;cases h
   | some fd =>
    rw[hf] at h
    simp only at h
    cases hn:szT P fd.type with
    | none=>rw[hn] at h;cases h
    | some n =>
     rw[hn] at h
     simp only at h
     split at h
     ·cases h
     ·rename_i h0
      injection h with h
      exact⟨fs,fd,n,rfl,hf,h,hn,h0⟩
theorem Y4C {s:TypeId}{f k blk o:Nat}(h:offF P s f=some k): (Instr.fieldAt s (.pointer (some ⟨blk,o,none⟩)) f).run P w=.ok (.pointer (some ⟨blk,o+k,none⟩)) w:=by
 obtain⟨fs,fd,n,hu,hf,hk,hn,h0⟩:=Y9L h
 simp[Instr.fieldAt,run_underlying hu,hf,Instr.sureAddr,fieldPlace,Y0i hn,h0,Y0g,hk]
theorem Y4p (h:Inv X st a w F ρ){s:TypeId}{x:Operand}{f b g i c k:Nat}{y:Box}(hx:evalO st.ts x=.ref b g i c)(hm:st.m b=some y)(hg:y.gen=g)(hof:offF P s f=some k)
  {o:Oper}(ho:o.op=.fieldAddr s x f):Sound P X st a w o (.ref b g i (c+k)) []:=by
 obtain⟨dst,op,ty,pos,after,guard⟩:=o
 simp only at ho
 subst ho
 have hv:=h.eval x
 rw[hx] at hv
 obtain⟨hk0,l,hl,hv⟩:=hv.toRef hm hg
 refine Yge h (val:=.pointer (some ⟨l.blk,l.base+(i*y.sz+c)+k,none⟩)) ?_ (.ref rfl hm (by omega) fun _=>⟨hk0,l,hl,by rw[Yf0,Yf0]⟩)
 simp only[execOp,Sem.run_bind,hv,Y4C (P:=P) hof,Yel]
 rfl
theorem Y3H (h:Inv X st a w F ρ){s:TypeId}{x:Operand}{f i c k:Nat}{es:List (List LV)}(hx:evalO st.ts x=.fad es i c)(hof:offF P s f=some k)
  {o:Oper}(ho:o.op=.fieldAddr s x f):Sound P X st a w o (.fad es i (c+k)) []:=by
 obtain⟨dst,op,ty,pos,after,guard⟩:=o
 simp only at ho
 subst ho
 have hv:=h.eval x
 rw[hx] at hv
 obtain⟨blk,off,sz,val,hv,h1,h2,h3,h4⟩:=hv.toFad
 refine Yge h (val:=.pointer (some ⟨blk,off+(i*sz+(c+k)),none⟩)) ?_ (.frz (.fad val h1 h2 h3 h4))
 simp only[execOp,Sem.run_bind,hv,Y4C (P:=P) hof,Yel]
 rw[show off+(i*sz+c)+k=off+(i*sz+(c+k)) by omega]
 rfl
theorem Y28 (h:Inv X st a w F ρ){t e:TypeId}{x ix:Operand}{k:IntKind}{n:Int}{b g off len:Nat}{cap:Option Nat}{y:Box}(hx:evalO st.ts x=.own b g off len cap)(hi:evalO st.ts ix=.int k n)
  (hm:st.m b=some y) (hg:y.gen=g) (ht:sliceE P t=some e) (hs:szT P e=some y.sz) (h0:0≤n) (h1:n<(len:Int)) {o:Oper}(ho:o.op=.indexAddr t x ix) :
  Sound P X st a w o (.ref b g (off+n.toNat) 0) []:=by
 obtain⟨dst,op,ty,pos,after,guard⟩:=o
 simp only at ho
 subst ho
 have hv:=h.eval x
 rw[hx] at hv
 have hiv:=h.eval ix
 rw[hi] at hiv
 obtain⟨hk,hlen,hh⟩:=hv.toOwn hm hg
 cases hr:ρ b with
 | none =>
  exfalso
  have hb:=Ygg (Y3f hk) (h.boxes b y hm)
  rw[hr] at hb
  have:y.es=[]:=hb
  rw[this] at hlen
  simp at hlen
  omega
 | some l =>
  rw[hr] at hh
  obtain⟨ad,cap',hv2,ha,hc,-⟩:=hh
  have had:=ha (by omega)
  refine Yge h (val:=.pointer (some ⟨l.blk,l.base+off*y.sz+n.toNat*y.sz,none⟩)) ?_ (.ref rfl hm (by omega) fun _=>⟨Y3f hk,l,hr,by rw[YeB];simp[Yf0]⟩)
  have hcond:0≤n∧n<(len:Int):=⟨h0,h1⟩
  simp[execOp,hv2,hiv.int,Instr.indexAt,asIntOf,run_underlying (Y0c ht),had,hcond,Y0i hs,Y0g]
theorem Y3G (h:Inv X st a w F ρ){t e:TypeId}{x ix:Operand}{k:IntKind}{n:Int}{es:List (List LV)}{sz:Nat}(hx:evalO st.ts x=.sl es)(hi:evalO st.ts ix=.int k n)
  (ht:sliceE P t=some e) (hs:szT P e=some sz) (h0:0≤n) (h1:n<(es.length:Int)) (hz:∀ e∈es,e.length=sz) {o:Oper}(ho:o.op=.indexAddr t x ix) :
  Sound P X st a w o (.fad es n.toNat 0) []:=by
 obtain⟨dst,op,ty,pos,after,guard⟩:=o
 simp only at ho
 subst ho
 have hv:=h.eval x
 rw[hx] at hv
 have hiv:=h.eval ix
 rw[hi] at hiv
 obtain⟨ad,len,cap,blk,off,sz',val,hv,g1,g2,g3,g4,g5,g6⟩:=hv.toSl
 have hpos:0<es.length:=by omega
 have hsz:sz'=sz:=by
  have hm:es[0]∈es:=YeO hpos
  rw[← g4 _ hm,hz _ hm]
 subst hsz
 obtain⟨had,hF⟩:=g3 (by omega)
 refine Yge h (val:=.pointer (some ⟨blk,off+n.toNat*sz',none⟩)) ?_ (.frz ?_)
 ·have hcond:0≤n∧n<(len:Int):=⟨h0,by omega⟩
  simp[execOp,hv,hiv.int,Instr.indexAt,asIntOf,run_underlying (Y0c ht),had,hcond,Y0i hs,Y0g]
 ·have:=RelF.fad (i:=n.toNat) (c:=0) val hF g4 g5 g6
  simpa using this
theorem Y3I (h:Inv X st a w F ρ){t e:TypeId}{x ix:Operand}{k:IntKind}{n:Int}{b g i c len sz:Nat}{y:Box}(hx:evalO st.ts x=.ref b g i c)(hi:evalO st.ts ix=.int k n)
  (hm:st.m b=some y) (hg:y.gen=g) (ht:arrayE P t=some (len,e)) (hs:szT P e=some sz) (h0:0≤n) (h1:n<(len:Int)) {o:Oper}(ho:o.op=.indexAddr t x ix) :
  Sound P X st a w o (.ref b g i (c+n.toNat*sz)) []:=by
 obtain⟨dst,op,ty,pos,after,guard⟩:=o
 simp only at ho
 subst ho
 have hv:=h.eval x
 rw[hx] at hv
 have hiv:=h.eval ix
 rw[hi] at hiv
 obtain⟨hk0,l,hl,hv⟩:=hv.toRef hm hg
 refine Yge h (val:=.pointer (some ⟨l.blk,l.base+(i*y.sz+c)+n.toNat*sz,none⟩)) ?_ (.ref rfl hm (by omega) fun _=>⟨hk0,l,hl,by rw[Yf0,Yf0]⟩)
 have hcond:0≤n∧n<(len:Int):=⟨h0,h1⟩
 simp[execOp,hv,hiv.int,Instr.indexAt,asIntOf,run_underlying (Y4q ht),Instr.sureAddr,hcond,Y0i hs,Y0g]
theorem Y3j (h:Inv X st a w F ρ){t e:TypeId}{x ix:Operand}{k:IntKind}{n:Int}{es:List (List LV)}{i c len sz:Nat}(hx:evalO st.ts x=.fad es i c)(hi:evalO st.ts ix=.int k n)
  (ht:arrayE P t=some (len,e)) (hs:szT P e=some sz) (h0:0≤n) (h1:n<(len:Int)) {o:Oper}(ho:o.op=.indexAddr t x ix) :
  Sound P X st a w o (.fad es i (c+n.toNat*sz)) []:=by
 obtain⟨dst,op,ty,pos,after,guard⟩:=o
 simp only at ho
 subst ho
 have hv:=h.eval x
 rw[hx] at hv
 have hiv:=h.eval ix
 rw[hi] at hiv
 obtain⟨blk,off,sz',val,hv,g1,g2,g3,g4⟩:=hv.toFad
 refine Yge h (val:=.pointer (some ⟨blk,off+(i*sz'+(c+n.toNat*sz)),none⟩)) ?_ (.frz (.fad val g1 g2 g3 g4))
 have hcond:0≤n∧n<(len:Int):=⟨h0,h1⟩
 simp[execOp,hv,hiv.int,Instr.indexAt,asIntOf,run_underlying (Y4q ht),Instr.sureAddr,hcond,Y0i hs,Y0g]
 omega
theorem Y2m {ρl:Operand→LV}{ρv:Operand→Value}(hr:∀ x,RelL w F ρ st.m (ρv x) (ρl x)){d n:Nat}{x:Option Operand}(h:bndL ρl d x=some n):
  (x=none∧n=d)∨∃ y k,x=some y∧ρv y=.int k (n:Int):=by
 cases x with
 | none =>
  simp only[bndL,Yem] at h
  exact .inl ⟨rfl,h.symm⟩
 | some y =>
  simp only[bndL] at h
  split at h
  ·rename_i k i hi
   split at h
   ·rename_i h0
    injection h with h
    have:=hr y
    rw[hi] at this
    refine .inr ⟨y,k,rfl,?_⟩
    rw[this.int]
    congr 1
    omega
   ·cases h
  ·cases h
theorem Y1o {ρl:Operand→LV}{ρv:Operand→Value}(hr:∀ x,RelL w F ρ st.m (ρv x) (ρl x)){isS:Bool}{len cap l hgh:Nat}{lo hi:Option Operand}(hl:bndL ρl 0 lo=some l)(hh:bndL ρl len hi=some hgh)
  (h1:l≤hgh) (h2:hgh≤cap):(Instr.sliceBounds isS len cap (lo.map ρv) (hi.map ρv) none).run P w=.ok (l,hgh,cap) w:=by
 have sb:∀ (v:Value) (k:IntKind) (n y:Nat) (code:BoundsCode),v=.int k (n:Int)→n≤y→(Instr.sliceBound v y code).run P w=.ok n w:=by
  intro v k n y code hv hn
  subst hv
  have:(0:Int)≤(n:Int)∧(n:Int)≤(y:Int):=by omega
  simp[Instr.sliceBound,asIntOf,this]
 rcases Y2m hr hl with ⟨rfl,rfl⟩ | ⟨y,k,rfl,hy⟩
 ·rcases Y2m hr hh with ⟨rfl,rfl⟩ | ⟨z,k',rfl,hz⟩
  ·simp[Instr.sliceBounds]
  ·simp[Instr.sliceBounds,sb _ _ _ _ _ hz h2]
 ·rcases Y2m hr hh with ⟨rfl,rfl⟩ | ⟨z,k',rfl,hz⟩
  ·simp[Instr.sliceBounds,sb _ _ _ _ _ hy h1]
  ·simp[Instr.sliceBounds,sb _ _ _ _ _ hy h1,sb _ _ _ _ _ hz h2]
theorem Y4y {ρl:Operand→LV}{ρv:Operand→Value}(hr:∀ x,RelL w F ρ st.m (ρv x) (ρl x)){isS:Bool}{len cap l hgh c:Nat}{lo hi:Option Operand}{mx:Operand}(hl:bndL ρl 0 lo=some l)(hhs:hi.isSome=true)
  (hh:bndL ρl len hi=some hgh) (hc:bndL ρl 0 (some mx)=some c) (h1:l≤hgh) (h2:hgh≤c) (h3:c≤cap):(Instr.sliceBounds isS len cap (lo.map ρv) (hi.map ρv) (some (ρv mx))).run P w=.ok (l,hgh,c) w:=by
 have sb:∀ (v:Value) (k:IntKind) (n y:Nat) (code:BoundsCode),v=.int k (n:Int)→n≤y→(Instr.sliceBound v y code).run P w=.ok n w:=by
  intro v k n y code hv hn
  subst hv
  have:(0:Int)≤(n:Int)∧(n:Int)≤(y:Int):=by omega
  simp[Instr.sliceBound,asIntOf,this]
 obtain⟨km,hm⟩:∃ k,ρv mx=.int k (c:Int):=by
  rcases Y2m hr hc with ⟨h,-⟩ | ⟨y,k,h,hy⟩
  ·cases h
  ·injection h with h
   subst h
   exact⟨k,hy⟩
 rcases Y2m hr hh with ⟨rfl,rfl⟩ | ⟨z,k',rfl,hz⟩
 ·cases hhs
 rcases Y2m hr hl with ⟨rfl,rfl⟩ | ⟨y,k,rfl,hy⟩
 ·simp[Instr.sliceBounds,sb _ _ _ _ _ hm h3,sb _ _ _ _ _ hz h2]
 ·simp[Instr.sliceBounds,sb _ _ _ _ _ hm h3,sb _ _ _ _ _ hz h2,sb _ _ _ _ _ hy h1]
theorem Y7M (h:Inv X st a w F ρ){t e:TypeId}{x:Operand}{lo hi:Option Operand}{b g off len l hgh:Nat}{cap:Option Nat}{y:Box}(hx:evalO st.ts x=.own b g off len cap)(hm:st.m b=some y)(hg:y.gen=g)
  (ht:sliceE P t=some e) (hs:szT P e=some y.sz) (hl:bndL (evalO st.ts) 0 lo=some l) (hh:bndL (evalO st.ts) len hi=some hgh) (h1:l≤hgh) (h2:off+hgh≤y.es.length) (h3:∀ c,cap=some c→hgh≤c)
  {o:Oper}(ho:o.op=.slice t x lo hi none):Sound P X st a w o (.own b g (off+l) (hgh - l) (cap.map (· - l))) []:=by
 obtain⟨dst,op,ty,pos,after,guard⟩:=o
 simp only at ho
 subst ho
 have hv:=h.eval x
 rw[hx] at hv
 obtain⟨hk,hlen,hv2⟩:=hv.toOwn hm hg
 cases hr:ρ b with
 | none =>
  rw[hr] at hv2
  obtain⟨a0,hv2⟩:=hv2
  have hb:=Ygg (Y3f hk) (h.boxes b y hm)
  rw[hr] at hb
  have hes:y.es=[]:=hb
  rw[hes] at h2 hlen
  simp only[YeM] at h2 hlen
  have e1:off=0:=by omega
  have e2:hgh=0:=by omega
  have e3:l=0:=by omega
  have e4:len=0:=by omega
  subst e1 e2 e3 e4
  refine Yge h (val:=.slice a0 0 0) ?_ (.own rfl hm (by omega) fun _=>⟨hk,by simp,by rw[hr];exact⟨a0,rfl⟩⟩)
  have hb:=Y1o (P:=P) (w:=w) (isS:=true) (cap:=0) h.eval hl hh h1 (Ye2 _)
  simp[execOp,Instr.sliceAt,Instr.slice,run_underlying (Y0c ht),hv2,hb,Y0i hs]
 | some lc =>
  rw[hr] at hv2
  obtain⟨ad,cap',hv2,ha,hc,hcap⟩:=hv2
  have hbx:=Ygg (Y3f hk) (h.boxes b y hm)
  rw[hr] at hbx
  obtain⟨cs,tt,g1,g2,g3,g4,g5⟩:=hbx
  have hcc:hgh≤cap':=by
   cases cap with
   | none=>simp only at hcap;omega
   | some c=>simp only at hcap;have:=h3 c rfl;omega
  have hb:=Y1o (P:=P) (w:=w) (isS:=true) (cap:=cap') h.eval hl hh h1 hcc
  refine Yge h (val:=.slice (if cap'=l then ad else ad.map (·.add (l*y.sz))) (hgh - l) (cap' - l)) ?_ (.own rfl hm (by omega) fun _=>⟨hk,by omega,?_⟩)
  ·simp[execOp,Instr.sliceAt,Instr.slice,run_underlying (Y0c ht),hv2,hb,Y0i hs]
  ·rw[hr]
   refine⟨_,_,rfl,fun hp=>?_,by omega,?_⟩
   ·rw[if_neg (by omega),ha (by omega)]
    simp only[Yf1,Y0g]
    rw[YeB]
    congr 2
    omega
   ·cases cap with
    | none=>simp only[Option.map_none] at hcap ⊢;omega
    | some c=>simp only[Yf1] at hcap ⊢;omega
theorem Y63 (h:Inv X st a w F ρ){t e:TypeId}{x:Operand}{lo hi:Option Operand}{mx:Operand}{b g off len l hgh c:Nat}{cap:Option Nat}{y:Box}(hx:evalO st.ts x=.own b g off len cap)(hm:st.m b=some y)(hg:y.gen=g)
  (ht:sliceE P t=some e) (hs:szT P e=some y.sz) (hl:bndL (evalO st.ts) 0 lo=some l) (hhs:hi.isSome=true) (hh:bndL (evalO st.ts) len hi=some hgh) (hc:bndL (evalO st.ts) 0 (some mx)=some c) (h1:l≤hgh) (h2:hgh≤c)
  (h3:off+c≤y.es.length) (h4:∀ k,cap=some k→c≤k) {o:Oper}(ho:o.op=.slice t x lo hi (some mx)):Sound P X st a w o (.own b g (off+l) (hgh - l) (some (c - l))) []:=by
 obtain⟨dst,op,ty,pos,after,guard⟩:=o
 simp only at ho
 subst ho
 have hv:=h.eval x
 rw[hx] at hv
 obtain⟨hk,hlen,hv2⟩:=hv.toOwn hm hg
 have hbx:=Ygg (Y3f hk) (h.boxes b y hm)
 cases hr:ρ b with
 | none =>
  rw[hr] at hv2 hbx
  obtain⟨a0,hv2⟩:=hv2
  have hes:y.es=[]:=hbx
  rw[hes] at h3 hlen
  simp only[YeM] at h3 hlen
  have e1:off=0:=by omega
  have e2:c=0:=by omega
  have e3:hgh=0:=by omega
  have e4:l=0:=by omega
  have e5:len=0:=by omega
  subst e1 e2 e3 e4 e5
  refine Yge h (val:=.slice a0 0 0) ?_ (.own rfl hm (by omega) fun _=>⟨hk,by simp,by rw[hr];exact⟨a0,rfl⟩⟩)
  have hb:=Y4y (P:=P) (w:=w) (isS:=true) (cap:=0) h.eval hl hhs hh hc h1 h2 (Ye2 _)
  simp[execOp,Instr.sliceAt,Instr.slice,run_underlying (Y0c ht),hv2,hb,Y0i hs]
 | some lc =>
  rw[hr] at hv2 hbx
  obtain⟨ad,cap',hv2,ha,hcp,hcap⟩:=hv2
  obtain⟨cs,tt,g1,g2,g3,g4,g5⟩:=hbx
  have hcc:c≤cap':=by
   cases cap with
   | none=>simp only at hcap;omega
   | some k=>simp only at hcap;have:=h4 k rfl;omega
  have hb:=Y4y (P:=P) (w:=w) (isS:=true) (cap:=cap') h.eval hl hhs hh hc h1 h2 hcc
  refine Yge h (val:=.slice (if c=l then ad else ad.map (·.add (l*y.sz))) (hgh - l) (c - l)) ?_ (.own rfl hm (by omega) fun _=>⟨hk,by omega,?_⟩)
  ·simp[execOp,Instr.sliceAt,Instr.slice,run_underlying (Y0c ht),hv2,hb,Y0i hs]
  ·rw[hr]
   refine⟨_,_,rfl,fun hp=>?_,by omega,?_⟩
   ·rw[if_neg (by omega),ha (by omega)]
    simp only[Yf1,Y0g]
    rw[YeB]
    congr 2
    omega
   ·simp only
    exact⟨trivial,by omega⟩
theorem Y6Q (h:Inv X st a w F ρ){t e:TypeId}{x:Operand}{lo hi:Option Operand}{es:List (List LV)}{l hgh sz:Nat}(hx:evalO st.ts x=.sl es)(ht:sliceE P t=some e)(hs:szT P e=some sz)(hz:∀ e∈es,e.length=sz)
  (hl:bndL (evalO st.ts) 0 lo=some l) (hh:bndL (evalO st.ts) es.length hi=some hgh) (h1:l≤hgh) (h2:hgh≤es.length) {o:Oper}(ho:o.op=.slice t x lo hi none) :
  Sound P X st a w o (.sl ((es.drop l).take (hgh - l))) []:=by
 obtain⟨dst,op,ty,pos,after,guard⟩:=o
 simp only at ho
 subst ho
 have hv:=h.eval x
 rw[hx] at hv
 obtain⟨ad,len,cap,blk,off,sz',val,hv,g1,g2,g3,g4,g5,g6⟩:=hv.toSl
 have hb:=Y1o (P:=P) (w:=w) (isS:=true) (cap:=cap) (len:=len) h.eval hl (by rw[g1];exact hh) h1 (by omega)
 have hmap:∀ {i:Nat}{e:List LV},((es.drop l).take (hgh - l))[i]?=some e→es[l+i]?=some e:=fun he=>(Y0C he).2
 refine Yge h (val:=.slice (if cap=l then ad else ad.map (·.add (l*sz))) (hgh - l) (cap - l)) ?_
  (.frz (.sl (blk:=blk) (off:=off+l*sz') (sz:=sz') (fun i c=>val (l+i) c) (by simp;omega) (by omega) (fun hp=>?_) (fun e he=>g4 e (YeE (YeC he))) (fun i e c q he hq=>?_) (fun i e c q he hq=>g6 _ e c q (hmap he) hq)))
 ·simp[execOp,Instr.sliceAt,Instr.slice,run_underlying (Y0c ht),hv,hb,Y0i hs]
 ·have hpos:0<es.length:=by omega
  have hsz:sz'=sz:=by
   have hm:es[0]∈es:=YeO hpos
   rw[← g4 _ hm,hz _ hm]
  subst hsz
  obtain⟨had,hF⟩:=g3 (by omega)
  rw[if_neg (by omega),had]
  exact⟨by simp only[Yf1,Y0g],hF⟩
 ·have:=g5 _ e c q (hmap he) hq
  rw[YeB] at this
  rw[show off+l*sz'+(i*sz'+c)=off+(l*sz'+i*sz'+c) by omega]
  exact this
theorem Y6G (h:Inv X st a w F ρ){t e:TypeId}{x:Operand}{lo hi:Option Operand}{l hgh sz:Nat}(hx:evalO st.ts x=.nils)(ht:sliceE P t=some e)(hs:szT P e=some sz)
  (hl:bndL (evalO st.ts) 0 lo=some l) (hh:bndL (evalO st.ts) 0 hi=some hgh) (h1:l≤hgh) (h2:hgh≤0) {o:Oper}(ho:o.op=.slice t x lo hi none) :
  Sound P X st a w o .nils []:=by
 obtain⟨dst,op,ty,pos,after,guard⟩:=o
 simp only at ho
 subst ho
 have hv:=h.eval x
 rw[hx] at hv
 have hv:=hv.nils
 have hb:=Y1o (P:=P) (w:=w) (isS:=true) (cap:=0) (len:=0) h.eval hl hh h1 h2
 refine Yge h (val:=.slice none 0 0) ?_ (.frz .nils)
 have e1:hgh=0:=by omega
 have e2:l=0:=by omega
 subst e1 e2
 simp[execOp,Instr.sliceAt,Instr.slice,run_underlying (Y0c ht),hv,hb,Y0i hs]
theorem Y6s (h:Inv X st a w F ρ){t:TypeId}{x:Operand}{lo hi:Option Operand}{s:ByteArray}{l hgh:Nat}(hx:evalO st.ts x=.str s)(ht:P.underlying t=some .string)
  (hl:bndL (evalO st.ts) 0 lo=some l) (hh:bndL (evalO st.ts) s.size hi=some hgh) (h1:l≤hgh) (h2:hgh≤s.size) {o:Oper}(ho:o.op=.slice t x lo hi none) :
  Sound P X st a w o (.str (s.extract l hgh)) []:=by
 obtain⟨dst,op,ty,pos,after,guard⟩:=o
 simp only at ho
 subst ho
 have hv:=h.eval x
 rw[hx] at hv
 have hv:=hv.str
 have hb:=Y1o (P:=P) (w:=w) (isS:=false) (cap:=s.size) (len:=s.size) h.eval hl hh h1 h2
 refine Yge h (val:=.string (s.extract l hgh)) ?_ (.frz (.str _))
 simp[execOp,Instr.sliceAt,Instr.slice,run_underlying ht,hv,hb]
end
section
variable {P:Program}{X:Ctx}{st:St}{a:Act}{w:World}{F:Nat→Prop}{ρ:Locs}
theorem Y3o {blk o n sz:Nat}{es:List (List LV)}(hn:es.length=n)(hsz:∀ e∈es,e.length=sz)
  (h:∀ (i:Nat) e (c:Nat) q,es[i]?=some e→e[c]?=some q→∃ v,w.cell? ⟨blk,o+(i*sz+c),none⟩=some v∧RelF w F v q) :
  ∃ news:List Value,news.length=n*sz∧(∀ j u,news[j]?=some u→w.cell? ⟨blk,o+j,none⟩=some u) ∧
   ∀ (i:Nat) e (c:Nat) q,es[i]?=some e→e[c]?=some q→∃ v,news[i*sz+c]?=some v∧RelF w F v q:=by
 have key:∀ j,j<n*sz→∃ v,w.cell? ⟨blk,o+j,none⟩=some v∧∀ (i:Nat) e (c:Nat) q,es[i]?=some e→e[c]?=some q→i*sz+c=j→RelF w F v q:=by
  intro j hj
  have hs0:0<sz:=Yfl fun h0=>by subst h0;simp at hj
  have hq:j / sz<es.length:=by rw[hn];exact (YfG hs0).2 hj
  have hm:j % sz<sz:=Nat.mod_lt _ hs0
  have hel:(es[j / sz]).length=sz:=hsz _ (YeO hq)
  have he:es[j / sz]?=some es[j / sz]:=YdO hq
  have hc:(es[j / sz])[j % sz]?=some ((es[j / sz])[j % sz]'(by omega)):=YdO _
  obtain⟨v,hv,hr⟩:=h _ _ _ _ he hc
  have hdm:j / sz*sz+j % sz=j:=by rw[Nat.mul_comm];exact Nat.div_add_mod j sz
  rw[hdm] at hv
  refine⟨v,hv,fun i e c q he' hc' hij=>?_⟩
  have hcl:c<sz:=by have:=(YdM.1 hc').1;rw[hsz e (Yet he')] at this;exact this
  obtain⟨h1,h2⟩:=Ycc (hij.trans hdm.symm) hcl hm
  subst h1 h2
  rw[he] at he'
  injection he' with he'
  subst he'
  rw[hc] at hc'
  injection hc' with hc'
  subst hc'
  exact hr
 obtain⟨cs,h1,h2⟩:=Y1t (w:=w) (blk:=blk) (o:=o) key
 refine⟨cs,h1,fun j u hu=>(h2 j u hu).1,fun i e c q he hq=>?_⟩
 have hi:i<n:=by have:=(YdM.1 he).1;omega
 have hcl:c<sz:=by have:=(YdM.1 hq).1;rw[hsz e (Yet he)] at this;exact this
 have:=Y1S (sz:=sz) hi
 have hj:cs[i*sz+c]?=some (cs[i*sz+c]'(by omega)):=YdO _
 exact⟨_,hj,(h2 _ _ hj).2 i e c q he hq rfl⟩
def SrcOK (w:World)(F:Nat→Prop)(v:Value)(sz:Nat)(es:List (List LV)): Prop :=
 ∃ (ad:Addr) (cap:Nat) (news:List Value),v=.slice (some ad) es.length cap∧news.length=es.length*sz∧(∀ j u,news[j]?=some u→w.cell? (ad.add j)=some u)∧(∀ e∈es,e.length=sz) ∧
  ∀ (i:Nat) e (c:Nat) q,es[i]?=some e→e[c]?=some q→∃ v,news[i*sz+c]?=some v∧RelF w F v q
theorem Y4z (h:Inv X st a w F ρ){v:Value}{l:LV}{sz:Nat}{es:List (List LV)}{R:List Nat}(hv:RelL w F ρ st.m v l)(hs:SrcR st.m l sz es R)(h0:0<es.length): SrcOK w F v sz es:=by
 cases hs with
 | nils=>simp at h0
 | sl hz =>
  obtain⟨ad,len,cap,blk,off,sz',val,rfl,g1,g2,g3,g4,g5,g6⟩:=hv.toSl
  obtain⟨rfl,hF⟩:=g3 (by omega)
  have hsz:sz'=sz:=by
   have hm:es[0]∈es:=YeO h0
   rw[← g4 _ hm,hz _ hm]
  subst hsz
  obtain⟨news,k1,k2,k3⟩:=Y3o (w:=w) (F:=F) (blk:=blk) (o:=off) (sz:=sz') rfl g4 fun i e c q he hq=>⟨_,g5 i e c q he hq,g6 i e c q he hq⟩
  exact⟨_,cap,news,by rw[g1],k1,fun j u hu=>by rw[Y0g];exact k2 j u hu,g4,k3⟩
 | @own b g off len cap x hm hg hk hl =>
  obtain⟨-,-,hh⟩:=hv.toOwn hm hg
  have hb:=Ygg (by rw[hk];simp) (h.boxes b x hm)
  have hlen:((x.es.drop off).take len).length=len:=by simp;omega
  cases hr:ρ b with
  | none =>
   rw[hr] at hb
   have:x.es=[]:=hb
   rw[this] at h0
   simp at h0
  | some lc =>
   rw[hr] at hh hb
   obtain⟨ad,cap',rfl,ha,hc,-⟩:=hh
   obtain⟨cs,t,g1,g2,g3,g4,g5⟩:=hb
   have had:=ha (by omega)
   subst had
   rw[hk] at g5
   obtain⟨news,k1,k2,k3⟩:=Y3o (w:=w) (F:=F) (blk:=lc.blk) (o:=lc.base+off*x.sz) (sz:=x.sz) (es:=(x.es.drop off).take len) rfl
    (fun e he=>g4 e (YeE (YeC he))) fun i e c q he hq=>by
     obtain⟨-,he⟩:=Y0C he
     obtain⟨u,hu,hrel⟩:=g5 _ _ _ _ he hq
     refine⟨u,?_,hrel⟩
     have:lc.base+off*x.sz+(i*x.sz+c)=lc.base+((off+i)*x.sz+c):=by rw[YeB];omega
     simp only[World.cell?,g1,this]
     exact hu
   exact⟨_,cap',news,by rw[hlen],k1,fun j u hu=>by rw[Y0g];exact k2 j u hu,fun e he=>g4 e (YeE (YeC he)),k3⟩
theorem Y3O {t ty e:TypeId}{i:TypeInfo}{z:Value}(ht:P.underlying t=some (.slice e))(hi:P.info? e=some i)(hz:i.zero=some z)(hzs:z.cells.size=i.size)
  {ao:Option Addr}{len cap:Nat}{olds:List Value}(hlo:olds.length=len*i.size) (holds:∀ ad,ao=some ad→∀ j v,olds[j]?=some v→w.cell? (ad.add j)=some v) (hnone:ao=none→len=0∧cap=0)
  {ad:Addr}{n c:Nat}{news:List Value}(hl:news.length=n*i.size) (hnews:∀ j v,news[j]?=some v→w.cell? (ad.add j)=some v) (h0:0<n) (hg:cap<len+n) (hb:len+n≤4294967296) (hby:i.bytes≤4096) :
  ∃ w' cap2,(Builtin.append_ #[t,t] ty #[.slice ao len cap,.slice (some ad) n c]).run P w=.ok (.slice (some ⟨w.heap.size,0,none⟩) (len+n) cap2) w'∧len+n≤cap2 ∧
   w'.heap=w.heap.push (.cells (olds.toArray++news.toArray++Builtin.zeroCells z.cells (cap2 - (len+n))) e (0,0))∧w'.os=w.os∧w'.tape=w.tape∧w'.output=w.output:=by
 have hbytes:(len+n)*i.bytes≤17592186044416:=by
  have:=Nat.mul_le_mul hb hby
  omega
 cases ao with
 | none =>
  obtain⟨rfl,rfl⟩:=hnone rfl
  have ho:olds=[]:=Yeo (by simpa using hlo)
  subst ho
  have hr:=run_append_nil (P:=P) w t ty e i z ht hi hz ad n c news hl hnews h0 (by omega) (by simp only[YdZ] at hbytes;omega)
  refine⟨w.drew.alloc (.cells (news.toArray++Builtin.zeroCells z.cells (grownCap w n 0 e - n)) e),grownCap w n 0 e,by rw[YdZ];exact hr,by rw[YdZ];exact grownCap_ge w n 0 e,?_,rfl,rfl,rfl⟩
  simp only[YdZ,Array.empty_append]
  rfl
 | some b =>
  have hr:=run_append_grow (P:=P) w t ty e i z ht hi hz b len cap olds hlo (holds b rfl) ad n c news hl hnews hg (by omega) (growslice_fits hg (by omega))
  exact⟨_,grownCap w (len+n) cap e,hr,grownCap_ge w (len+n) cap e,rfl,rfl,rfl,rfl⟩
theorem Y2A {sz len n cap2:Nat}{z:Array Value}(hz:z.size=sz){olds news:List Value}{es1 es2:List (List LV)}(hlo:olds.length=len*sz)(hl:news.length=n*sz)(h1:es1.length=len)(h2:es2.length=n)
  (hs1:∀ e∈es1,e.length=sz) (hs2:∀ e∈es2,e.length=sz) (hc:len+n≤cap2)
  (r1:∀ (i:Nat) e (c:Nat) q,es1[i]?=some e→e[c]?=some q→∃ v,olds[i*sz+c]?=some v∧RelF w F v q)
  (r2:∀ (i:Nat) e (c:Nat) q,es2[i]?=some e→e[c]?=some q→∃ v,news[i*sz+c]?=some v∧RelF w F v q) :
  (olds.toArray++news.toArray++Builtin.zeroCells z (cap2 - (len+n))).size=cap2*sz∧(∀ e∈es1++es2,e.length=sz) ∧
   ∀ (i:Nat) e (c:Nat) q,(es1++es2)[i]?=some e→e[c]?=some q→∃ v,(olds.toArray++news.toArray++Builtin.zeroCells z (cap2 - (len+n)))[i*sz+c]?=some v∧RelF w F v q:=by
 refine⟨?_,fun e he=>?_,fun i e c q he hq=>?_⟩
 ·simp only[Array.size_append,YfB,size_zeroCells,hz,hlo,hl,← YeB]
  congr 1
  omega
 ·rcases Yei.1 he with he | he
  ·exact hs1 e he
  ·exact hs2 e he
 ·by_cases hi:i<len
  ·rw[Yef (by omega)] at he
   obtain⟨v,hv,hr⟩:=r1 i e c q he hq
   refine⟨v,?_,hr⟩
   have hlt:=(YdM.1 hv).1
   rw[YeK (by simp;omega),YeK (by simpa using hlt)]
   simpa using hv
  ·rw[Yeq (by omega),h1] at he
   obtain⟨v,hv,hr⟩:=r2 (i - len) e c q he hq
   refine⟨v,?_,hr⟩
   have hlt:=(YdM.1 hv).1
   have e1:i*sz+c=len*sz+((i - len)*sz+c):=by
    rw[← Yf0,← YeB]
    congr 2
    omega
   rw[YeK (by simp;omega),Yf9 (by simp;omega)]
   simp only[YfB,hlo,e1]
   rw[Nat.add_sub_cancel_left]
   simpa using hv
theorem Y5S (h:Inv X st a w F ρ){d:Nat}{x y:Operand}{t e:TypeId}{es:List (List LV)}{z:List LV}{R:List Nat}(hx:evalO st.ts x=.nils)(ht:sliceE P t=some e)(hz:zeroL P e=some z)(hs:szT P e=some z.length)
  (hy:SrcR st.m (evalO st.ts y) z.length es R) (h0:0<es.length) (h1:es.length≤4294967296) (hb:P.bytesOf e≤4096) {o:Oper}(ho:o.op=.call { callee:=.builtin .append,args:=#[x,y],argTypes:=#[t,t] }) :
  Sound P X st a w o (.own d (genAt st.m d) 0 es.length none) [(d,⟨genAt st.m d,false,.slc,z.length,es⟩)]:=by
 obtain⟨dst,op,ty,pos,after,guard⟩:=o
 simp only at ho
 subst ho
 have hv:=h.eval x
 rw[hx] at hv
 have hv:=hv.nils
 obtain⟨ad,cap,news,hyv,g1,g2,g3,g4⟩:=Y4z h (h.eval y) hy h0
 obtain⟨i,zv,hi,hz',rfl⟩:=Y0t hz
 simp only[Ye4,YeN] at hs g1 g3 g4 ⊢
 obtain⟨i',hi',hs'⟩:=Y0G hs
 rw[hi] at hi'
 injection hi' with hi'
 subst hi'
 have hby:i.bytes≤4096:=by simpa [Program.bytesOf,hi] using hb
 obtain⟨w',cap2,hr,hcap,hheap,q1,q2,q3⟩:=Y3O (P:=P) (w:=w) (ty:=ty) (Y0c ht) hi hz' hs'.symm (c:=cap) (ao:=none) (len:=0) (cap:=0) (olds:=[]) (by simp) (by simp) (fun _=>⟨rfl,rfl⟩) (by rw[hs'];exact g1) g2 h0 (by omega) (by omega) hby
 simp only[YdZ] at hr hcap hheap
 obtain⟨k1,k2,k3⟩:=Y2A (w:=w) (F:=F) (sz:=zv.cells.size) (len:=0) (n:=es.length) (cap2:=cap2) (z:=zv.cells) rfl (olds:=[]) (es1:=[]) (es2:=es) (by simp) g1 rfl rfl (by simp) g3 (by omega) (by simp) g4
 simp only[YdZ,YdY] at k1 k2 k3
 refine⟨_,.slice (some ⟨w.heap.size,0,none⟩) es.length cap2,w',F,updR ρ d ⟨w.heap.size,0,cap2⟩,?_,.inl rfl,h.newCells d (k:=.slc) (by simp) k2 (by rw[k1];exact Ye2 _) hcap (fun i e c q he hq=>k3 i e c q he hq) hheap q1 q2 q3,?_⟩
 ·simp only[execOp,resolve,Yft,Yey,Yfi,Sem.run_bind,Sem.run_pure,Yel,invoke,builtin,hv,hyv]
  rw[hr]
  rfl
 ·exact .own rfl (Y07 _ _ _) (Ye2 _) fun _=>⟨rfl,by simp,by rw[Y0d];exact⟨_,cap2,rfl,fun _=>by simp,hcap,by simp⟩⟩
theorem Y88 (h:Inv X st a w F ρ){b off len:Nat}{bx:Box}{lc:Loc}(hm:st.m b=some bx)(hk:bx.kind=.slc)(hr:ρ b=some lc)(hl:off+len≤bx.es.length):
  ∃ olds:List Value,olds.length=len*bx.sz∧(∀ j u,olds[j]?=some u→w.cell? ⟨lc.blk,lc.base+off*bx.sz+j,none⟩=some u)∧(∀ e∈(bx.es.drop off).take len,e.length=bx.sz) ∧
   ∀ (i:Nat) e (c:Nat) q,((bx.es.drop off).take len)[i]?=some e→e[c]?=some q→∃ v,olds[i*bx.sz+c]?=some v∧RelF w F v q:=by
 have hb:=Ygg (by rw[hk];simp) (h.boxes b bx hm)
 rw[hr] at hb
 obtain⟨cs,t,g1,g2,g3,g4,g5⟩:=hb
 rw[hk] at g5
 obtain⟨news,k1,k2,k3⟩:=Y3o (w:=w) (F:=F) (blk:=lc.blk) (o:=lc.base+off*bx.sz) (sz:=bx.sz) (es:=(bx.es.drop off).take len) (n:=len) (by simp;omega)
  (fun e he=>g4 e (YeE (YeC he))) fun i e c q he hq=>by
   obtain⟨-,he⟩:=Y0C he
   obtain⟨u,hu,hrel⟩:=g5 _ _ _ _ he hq
   refine⟨u,?_,hrel⟩
   have:lc.base+off*bx.sz+(i*bx.sz+c)=lc.base+((off+i)*bx.sz+c):=by rw[YeB];omega
   simp only[World.cell?,g1,this]
   exact hu
 exact⟨news,k1,k2,fun e he=>g4 e (YeE (YeC he)),k3⟩
theorem Y5X (h:Inv X st a w F ρ){d:Nat}{x y:Operand}{t e:TypeId}{b g off len c:Nat}{bx:Box}{es:List (List LV)}{z:List LV}{R:List Nat}(hx:evalO st.ts x=.own b g off len (some c))(hm:st.m b=some bx)(hg:bx.gen=g)
  (hk:bx.kind=.slc) (hl:off+len≤bx.es.length) (ht:sliceE P t=some e) (hz:zeroL P e=some z) (hs:szT P e=some z.length) (hzs:bx.sz=z.length) (hy:SrcR st.m (evalO st.ts y) z.length es R) (h0:0<es.length) (hgr:c<len+es.length)
  (h1:len+es.length≤4294967296) (hb:P.bytesOf e≤4096) {o:Oper}(ho:o.op=.call { callee:=.builtin .append,args:=#[x,y],argTypes:=#[t,t] }) :
  Sound P X st a w o (.own d (genAt st.m d) 0 (len+es.length) none) [(d,⟨genAt st.m d,false,.slc,z.length,(bx.es.drop off).take len++es⟩)]:=by
 obtain⟨dst,op,ty,pos,after,guard⟩:=o
 simp only at ho
 subst ho
 have hv:=h.eval x
 rw[hx] at hv
 obtain⟨-,-,hh⟩:=hv.toOwn hm hg
 obtain⟨ad,cap,news,hyv,g1,g2,g3,g4⟩:=Y4z h (h.eval y) hy h0
 obtain⟨i,zv,hi,hz',rfl⟩:=Y0t hz
 simp only[Ye4,YeN] at hs hzs g1 g3 g4 ⊢
 obtain⟨i',hi',hs'⟩:=Y0G hs
 rw[hi] at hi'
 injection hi' with hi'
 subst hi'
 have hby:i.bytes≤4096:=by simpa [Program.bytesOf,hi] using hb
 have hkey:∃ (ao:Option Addr) (cap':Nat) (olds:List Value),a.eval x=.slice ao len cap'∧cap'<len+es.length∧olds.length=len*i.size∧(∀ ad,ao=some ad→∀ j v,olds[j]?=some v→w.cell? (ad.add j)=some v)∧(ao=none→len=0∧cap'=0) ∧
   (∀ e∈(bx.es.drop off).take len,e.length=bx.sz)∧∀ (i:Nat) e (c:Nat) q,((bx.es.drop off).take len)[i]?=some e→e[c]?=some q→∃ v,olds[i*bx.sz+c]?=some v∧RelF w F v q:=by
  cases hr:ρ b with
  | none =>
   rw[hr] at hh
   have hbx:=Ygg (by rw[hk];simp) (h.boxes b bx hm)
   rw[hr] at hbx
   have hes:bx.es=[]:=hbx
   rw[hes] at hl ⊢
   simp only[YeM] at hl
   have e1:len=0:=by omega
   subst e1
   obtain⟨a0,hh⟩:=hh
   exact⟨a0,0,[],hh,by omega,by simp,by simp,fun _=>⟨rfl,rfl⟩,by simp,by simp⟩
  | some lc =>
   rw[hr] at hh
   obtain⟨ao,cap',hv2,ha,hlc,hcc⟩:=hh
   obtain⟨olds,k1,k2,k3,k4⟩:=Y88 h hm hk hr hl
   refine⟨ao,cap',olds,hv2,by omega,by rw[k1,hzs,hs'],fun ad had j v hj=>?_,fun hn=>?_,k3,k4⟩
   ·have hjl:=(YdM.1 hj).1
    have:0<len:=Yfl fun h0=>by subst h0;simp at k1;simp[k1] at hjl
    rw[ha (by omega)] at had
    injection had with had
    subst had
    rw[Y0g]
    exact k2 j v hj
   ·have:¬ 0<cap':=fun hp=>by rw[hn] at ha;simpa using ha hp
    omega
 obtain⟨ao,cap',olds,hv2,hlt,k1,k2,k3,k4,k5⟩:=hkey
 obtain⟨w',cap2,hr,hcap,hheap,q1,q2,q3⟩:=Y3O (P:=P) (w:=w) (ty:=ty) (c:=cap) (Y0c ht) hi hz' hs'.symm k1 k2 k3 (by rw[hs'];exact g1) g2 h0 hlt h1 hby
 have hlen:((bx.es.drop off).take len).length=len:=by simp;omega
 rw[hzs] at k4 k5
 obtain⟨p1,p2,p3⟩:=Y2A (w:=w) (F:=F) (sz:=zv.cells.size) (len:=len) (n:=es.length) (cap2:=cap2) (z:=zv.cells) rfl (by rw[k1,hs']) g1 hlen rfl k4 g3 hcap k5 g4
 refine⟨_,.slice (some ⟨w.heap.size,0,none⟩) (len+es.length) cap2,w',F,updR ρ d ⟨w.heap.size,0,cap2⟩,?_,.inl rfl,h.newCells d (k:=.slc) (by simp) p2 (by rw[p1];exact Ye2 _) (by simp only[YdN,hlen];exact hcap) (fun i e c q he hq=>p3 i e c q he hq) hheap q1 q2 q3,?_⟩
 ·simp only[execOp,resolve,Yft,Yey,Yfi,Sem.run_bind,Sem.run_pure,Yel,invoke,builtin,hv2,hyv]
  rw[hr]
  rfl
 ·exact .own rfl (Y07 _ _ _) (Ye2 _) fun _=>⟨rfl,by simp only[YdN,hlen];omega,by rw[Y0d];exact⟨_,cap2,rfl,fun _=>by simp,hcap,by simp⟩⟩
theorem Y6B (h:Inv X st a w F ρ){x y:Operand}{t e:TypeId}{b g off len:Nat}{bx:Box}{es:List (List LV)}{z:List LV}{R:List Nat}(hx:evalO st.ts x=.own b g off len none)(hm:st.m b=some bx)(hg:bx.gen=g)
    (hf:bx.frz=false) (hk:bx.kind=.slc) (hend:off+len=bx.es.length) (ht:sliceE P t=some e) (hz:zeroL P e=some z) (hs:szT P e=some z.length) (hzs:bx.sz=z.length) (hy:SrcR st.m (evalO st.ts y) z.length es R)
    (h0:0<es.length) (hone:∀ e∈es,e.all oneC=true) (h1:len+es.length≤4294967296) (hb:P.bytesOf e≤4096) {o:Oper}(ho:o.op=.call { callee:=.builtin .append,args:=#[x,y],argTypes:=#[t,t] }) :
    Sound P X st a w o (.own b (g+1) 0 (len+es.length) none) [(b,{ bx with gen:=g+1,es:=bx.es.drop off++es })]:=by
  obtain⟨dst,op,ty,pos,after,guard⟩:=o
  simp only at ho
  subst ho
  have hv:=h.eval x
  rw[hx] at hv
  obtain⟨-,-,hh⟩:=hv.toOwn hm hg
  obtain⟨ad,cap,news,hyv,g1,g2,g3,g4⟩:=Y4z h (h.eval y) hy h0
  obtain⟨i,zv,hi,hz',rfl⟩:=Y0t hz
  simp only[Ye4,YeN] at hs hzs g1 g3 g4 ⊢
  obtain⟨i',hi',hs'⟩:=Y0G hs
  rw[hi] at hi'
  injection hi' with hi'
  subst hi'
  have hby:i.bytes≤4096:=by simpa [Program.bytesOf,hi] using hb
  have hdt:(bx.es.drop off).take len=bx.es.drop off:=YdP (by simp;omega)
  have hdl:(bx.es.drop off).length=len:=by simp;omega
  have hbx:=Ygg (by rw[hk];simp) (h.boxes b bx hm)
  have runeq:∀ {v:Value}{w':World}{ao:Option Addr}{cap':Nat},a.eval x=.slice ao len cap'→(Builtin.append_ #[t,t] ty #[.slice ao len cap',.slice (some ad) es.length cap]).run P w=.ok v w' →
      (execOp a.eval { dst:=dst,op:=.call { callee:=.builtin .append,args:=#[x,y],argTypes:=#[t,t] },type:=ty,pos:=pos,after:=after,guard:=guard }).run P w=.ok (.value v) w':=by
    intro v w' ao cap' hv hr
    simp only[execOp,resolve,Yft,Yey,Yfi,Sem.run_bind,Sem.run_pure,Yel,invoke,builtin,hv,hyv]
    rw[hr]
    rfl
  -- a new block
  have grow:∀ (ao:Option Addr) (cap':Nat) (olds:List Value),a.eval x=.slice ao len cap'→cap'<len+es.length→olds.length=len*i.size→(∀ ad,ao=some ad→∀ j v,olds[j]?=some v→w.cell? (ad.add j)=some v)→(ao=none→len=0∧cap'=0) →
      (∀ e∈bx.es.drop off,e.length=bx.sz)→(∀ (i:Nat) e (c:Nat) q,(bx.es.drop off)[i]?=some e→e[c]?=some q→∃ v,olds[i*bx.sz+c]?=some v∧RelF w F v q) →
      Sound P X st a w { dst:=dst,op:=.call { callee:=.builtin .append,args:=#[x,y],argTypes:=#[t,t] },type:=ty,pos:=pos,after:=after,guard:=guard } (.own b (g+1) 0 (len+es.length) none) [(b,{ bx with gen:=g+1,es:=bx.es.drop off++es })]:=by
    intro ao cap' olds hv2 hlt k1 k2 k3 k4 k5
    obtain⟨w',cap2,hr,hcap,hheap,q1,q2,q3⟩:=Y3O (P:=P) (w:=w) (ty:=ty) (c:=cap) (Y0c ht) hi hz' hs'.symm k1 k2 k3 (by rw[hs'];exact g1) g2 h0 hlt h1 hby
    rw[hzs] at k4 k5
    obtain⟨p1,p2,p3⟩:=Y2A (w:=w) (F:=F) (sz:=zv.cells.size) (len:=len) (n:=es.length) (cap2:=cap2) (z:=zv.cells) rfl (by rw[k1,hs']) g1 hdl rfl k4 g3 hcap k5 g4
    refine⟨_,.slice (some ⟨w.heap.size,0,none⟩) (len+es.length) cap2,w',F,updR ρ b ⟨w.heap.size,0,cap2⟩,runeq hv2 hr,.inl rfl,?_,?_⟩
    · have hpush:∀ b:Nat,b<w.heap.size→w'.heap[b]?=w.heap[b]?:=fun b hb=>by rw[hheap,Yfj,if_neg (by omega)]
      refine h.write q1 q2 q3 (by rw[hheap];simp) (fun b hb _=>hpush b hb) (fun j hj=>Y2x _ _ (Ne.symm hj)) hf (fun y hy=>.inr ?_) (fun l hl=>?_) fun hc hF=>Ygc (by simp only[hk];simp) ?_ (fun hv=>by rw[hk] at hv;cases hv)
      · rw[hm] at hy
        injection hy with hy
        subst hy
        simp only
        omega
      · rw[Y0d] at hl
        injection hl with hl
        subst hl
        exact⟨by rw[hheap];simp,.inl (Ye2 _)⟩
      · rw[Y0d]
        refine⟨olds.toArray++news.toArray++Builtin.zeroCells zv.cells (cap2 - (len+es.length)),e,by rw[hheap,Yfj,if_pos rfl],by simp only[YdZ,p1,hzs];exact Ye2 _,by simp only[YdN,hdl];exact hcap,by simp only[hzs];exact p2,fun j e' c q he hq=>?_⟩
        obtain⟨v,hv,hr⟩:=p3 j e' c q he hq
        refine⟨v,by simpa [hzs] using hv,?_⟩
        simp only[hk]
        exact hr.mono (fun _ h=>h) hF
    · refine .own rfl (Y07 _ _ _) (Ye2 _) fun _=>⟨by show isSl bx.kind=true;rw[hk];rfl,by simp only[YdN,hdl];omega,?_⟩
      rw[Y0d]
      exact⟨_,cap2,rfl,fun _=>by simp,hcap,by simp⟩
  cases hr:ρ b with
  | none =>
    rw[hr] at hh hbx
    have hes:bx.es=[]:=hbx
    have e1:len=0:=by rw[hes] at hend;simp at hend;omega
    subst e1
    obtain⟨a0,hh⟩:=hh
    refine grow a0 0 [] hh (by omega) (by simp) (by simp) (fun _=>⟨rfl,rfl⟩) ?_ ?_
    · rw[hes];simp
    · rw[hes];simp
  | some lc =>
    rw[hr] at hh hbx
    obtain⟨ao,cap',hv2,ha,hlc,hcc⟩:=hh
    simp only at hcc
    obtain⟨olds,k1,k2,k3,k4⟩:=Y88 h hm hk hr (Nat.le_of_eq hend)
    rw[hdt] at k3 k4
    by_cases hroom:len+es.length≤cap'
    · -- in place
      have had:=ha (by omega)
      subst had
      obtain⟨cur,t',c1,c2,c3,c4,c5⟩:=hbx
      have n1:∀ u∈news,u.oneCell'=true:=by
        intro u hu
        obtain⟨j,hj,rfl⟩:=Yfz.1 hu
        have hz0:0<zv.cells.size:=Yfl fun h0=>by rw[h0] at g1;simp at g1;simp[g1] at hj
        have hq:j / zv.cells.size<es.length:=by rw[YfG hz0];omega
        have hmm:j % zv.cells.size<zv.cells.size:=Nat.mod_lt _ hz0
        have hel:(es[j / zv.cells.size]).length=zv.cells.size:=g3 _ (YeO hq)
        obtain⟨v,hv,hrel⟩:=g4 _ _ _ _ (YdO hq) (YdO (by omega:j % zv.cells.size<(es[j / zv.cells.size]).length))
        have hdm:j / zv.cells.size*zv.cells.size+j % zv.cells.size=j:=by rw[Nat.mul_comm];exact Nat.div_add_mod j _
        rw[hdm,YdO hj] at hv
        injection hv with hv
        rw[hv]
        refine hrel.one ?_
        have:=hone _ (YeO hq)
        rw[Yed] at this
        exact this _ (YeO _)
      have hfit:len*zv.cells.size+es.length*zv.cells.size≤cap'*zv.cells.size:=by rw[← YeB];exact YeX _ hroom
      have hext:off*zv.cells.size+cap'*zv.cells.size=lc.ext*zv.cells.size:=by rw[← YeB,hcc]
      rw[hzs] at c2
      have hst:=run_storeCells_at P lc.blk (lc.base+off*bx.sz+len*i.size) t' news 0 cur w c1 (by rw[hzs,hs'];omega) n1
      simp only[YfE] at hst
      have hf1:=run_firstCells_some (P:=P) w i.size es.length ad es.length cap news (by rw[hs'];exact g1) g2
      have hrun:(Builtin.append_ #[t,t] ty #[.slice (some ⟨lc.blk,lc.base+off*bx.sz,none⟩) len cap',.slice (some ad) es.length cap]).run P w =
          .ok (.slice (some ⟨lc.blk,lc.base+off*bx.sz,none⟩) (len+es.length) cap') (w.setRow lc.blk (cur.toList.take (lc.base+off*bx.sz+len*i.size)++news++cur.toList.drop (lc.base+off*bx.sz+len*i.size+news.length)).toArray):=by
        simp[Builtin.append_,run_underlying (Y0c ht),sizeOf,typeInfo,hi,Builtin.lenOf,hroom,hf1,Y0g,hst]
      refine⟨_,_,_,F,updR ρ b ⟨lc.blk,lc.base+off*bx.sz,cap'⟩,runeq hv2 hrun,.inl rfl,?_,?_⟩
      · refine h.write rfl rfl rfl (by simp) (fun k hk' hne=>setRow_other w lc.blk k _ (hne bx lc hm hf hr)) (fun j hj=>Y2x _ _ (Ne.symm hj)) hf (fun y hy=>.inr ?_) (fun l hl=>?_) fun hc hF=>Ygc (by simp only[hk];simp) ?_ (fun hv=>by rw[hk] at hv;cases hv)
        · rw[hm] at hy
          injection hy with hy
          subst hy
          simp only
          omega
        · rw[Y0d] at hl
          injection hl with hl
          subst hl
          exact⟨by simp;exact (h.place b bx lc hm hr).1,.inr ⟨bx,lc,hm,hf,hr,rfl⟩⟩
        · rw[Y0d]
          refine⟨_,t',setRow_heap w lc.blk cur _ t' _ c1,?_,by simp only[YdN,hdl];exact hroom,?_,fun j e' c q he hq=>?_⟩
          · simp only[YfB,YdN,Yek,Yez,YeN,hzs,hs',g1]
            omega
          · simp only
            intro e' he'
            rcases Yei.1 he' with he' | he'
            · exact k3 e' he'
            · rw[hzs];exact g3 e' he'
          · have hkey:∃ v,((cur.toList.take (lc.base+off*bx.sz+len*i.size)++news++cur.toList.drop (lc.base+off*bx.sz+len*i.size+news.length)).toArray)[lc.base+off*bx.sz+(j*bx.sz+c)]?=some v∧RelF w F v q:=by
             simp only[hzs,hs'] at he hq ⊢
             have htl:(cur.toList.take (lc.base+off*zv.cells.size+len*zv.cells.size)).length=lc.base+off*zv.cells.size+len*zv.cells.size:=by simp;omega
             by_cases hj:j<len
             · rw[Yef (by omega)] at he
               have hcl:c<zv.cells.size:=by
                 have:=(YdM.1 hq).1
                 rw[k3 e' (Yet he),hzs] at this
                 exact this
               have hjf:=Y1S (sz:=zv.cells.size) hj
               rw[Yf3] at he
               obtain⟨u,hu,hrel⟩:=c5 (off+j) e' c q he hq
               rw[hk] at hrel
               refine⟨u,?_,hrel⟩
               rw[Yfe,Yef (by simp;omega),Yef (by omega),YeU,if_pos (by omega),YeD]
               rw[hzs,YeB] at hu
               rw[show lc.base+off*zv.cells.size+(j*zv.cells.size+c)=lc.base+(off*zv.cells.size+j*zv.cells.size+c) by omega]
               exact hu
             · rw[Yeq (by omega),hdl] at he
               obtain⟨v,hv,hrel⟩:=g4 (j - len) e' c q he hq
               refine⟨v,?_,hrel⟩
               have hvl:=(YdM.1 hv).1
               have e1:j*zv.cells.size+c=len*zv.cells.size+((j - len)*zv.cells.size+c):=by
                 rw[← Yf0,← YeB]
                 congr 2
                 omega
               rw[Yfe,Yef (by simp;omega),Yeq (by omega),htl,e1]
               rw[show lc.base+off*zv.cells.size+(len*zv.cells.size+((j - len)*zv.cells.size+c)) - (lc.base+off*zv.cells.size+len*zv.cells.size)=(j - len)*zv.cells.size+c by omega]
               exact hv
            obtain⟨v,hv,hrel⟩:=hkey
            refine⟨v,hv,?_⟩
            simp only[hk]
            exact hrel.mono (fun _ h=>h) hF
      · refine .own rfl (Y07 _ _ _) (Ye2 _) fun _=>⟨by show isSl bx.kind=true;rw[hk];rfl,by simp only[YdN,hdl];omega,?_⟩
        rw[Y0d]
        exact⟨_,cap',rfl,fun _=>by simp,hroom,by simp⟩
    · refine grow ao cap' olds hv2 (by omega) (by rw[k1,hzs,hs']) (fun ad had j v hj=>?_) (fun hn=>?_) k3 k4
      · have hjl:=(YdM.1 hj).1
        have:0<len:=Yfl fun h0=>by subst h0;simp at k1;simp[k1] at hjl
        rw[ha (by omega)] at had
        injection had with had
        subst had
        rw[Y0g]
        exact k2 j v hj
      · have:¬ 0<cap':=fun hp=>by rw[hn] at ha;simpa using ha hp
        omega
end
section
variable {P:Program}{X:Ctx}{st:St}{a:Act}{w:World}{F:Nat→Prop}{ρ:Locs}
theorem CellR.nst {w:World}{F:Nat→Prop}{ρ:Locs}{m:Mem}{k:BK}{v:Value}{l:LV}(hk:k=.nst)(h:RelL w F ρ m v l): CellR w F ρ m k v l:=by subst hk;exact h
theorem Y7l {m:Mem}{blk o n sz:Nat}{es:List (List LV)}(hn:es.length=n)(hsz:∀ e∈es,e.length=sz)
  (h:∀ (i:Nat) e (c:Nat) q,es[i]?=some e→e[c]?=some q→∃ v,w.cell? ⟨blk,o+(i*sz+c),none⟩=some v∧RelL w F ρ m v q) :
  ∃ news:List Value,news.length=n*sz∧(∀ j u,news[j]?=some u→w.cell? ⟨blk,o+j,none⟩=some u) ∧
   ∀ (i:Nat) e (c:Nat) q,es[i]?=some e→e[c]?=some q→∃ v,news[i*sz+c]?=some v∧RelL w F ρ m v q:=by
 have key:∀ j,j<n*sz→∃ v,w.cell? ⟨blk,o+j,none⟩=some v∧∀ (i:Nat) e (c:Nat) q,es[i]?=some e→e[c]?=some q→i*sz+c=j→RelL w F ρ m v q:=by
  intro j hj
  have hs0:0<sz:=Yfl fun h0=>by subst h0;simp at hj
  have hq:j / sz<es.length:=by rw[hn];exact (YfG hs0).2 hj
  have hm:j % sz<sz:=Nat.mod_lt _ hs0
  have hel:(es[j / sz]).length=sz:=hsz _ (YeO hq)
  have he:es[j / sz]?=some es[j / sz]:=YdO hq
  have hc:(es[j / sz])[j % sz]?=some ((es[j / sz])[j % sz]'(by omega)):=YdO _
  obtain⟨v,hv,hr⟩:=h _ _ _ _ he hc
  have hdm:j / sz*sz+j % sz=j:=by rw[Nat.mul_comm];exact Nat.div_add_mod j sz
  rw[hdm] at hv
  refine⟨v,hv,fun i e c q he' hc' hij=>?_⟩
  have hcl:c<sz:=by have:=(YdM.1 hc').1;rw[hsz e (Yet he')] at this;exact this
  obtain⟨h1,h2⟩:=Ycc (hij.trans hdm.symm) hcl hm
  subst h1 h2
  rw[he] at he'
  injection he' with he'
  subst he'
  rw[hc] at hc'
  injection hc' with hc'
  subst hc'
  exact hr
 obtain⟨cs,h1,h2⟩:=Y1t (w:=w) (blk:=blk) (o:=o) key
 refine⟨cs,h1,fun j u hu=>(h2 j u hu).1,fun i e c q he hq=>?_⟩
 have hi:i<n:=by have:=(YdM.1 he).1;omega
 have hcl:c<sz:=by have:=(YdM.1 hq).1;rw[hsz e (Yet he)] at this;exact this
 have:=Y1S (sz:=sz) hi
 have hj:cs[i*sz+c]?=some (cs[i*sz+c]'(by omega)):=YdO _
 exact⟨_,hj,(h2 _ _ hj).2 i e c q he hq rfl⟩
theorem Y68 {m:Mem}{sz len n cap2:Nat}{z:Array Value}(hz:z.size=sz){olds news:List Value}{es1 es2:List (List LV)}(hlo:olds.length=len*sz)(hl:news.length=n*sz)(h1:es1.length=len)(h2:es2.length=n)
  (hs1:∀ e∈es1,e.length=sz) (hs2:∀ e∈es2,e.length=sz) (hc:len+n≤cap2)
  (r1:∀ (i:Nat) e (c:Nat) q,es1[i]?=some e→e[c]?=some q→∃ v,olds[i*sz+c]?=some v∧RelL w F ρ m v q)
  (r2:∀ (i:Nat) e (c:Nat) q,es2[i]?=some e→e[c]?=some q→∃ v,news[i*sz+c]?=some v∧RelL w F ρ m v q) :
  (olds.toArray++news.toArray++Builtin.zeroCells z (cap2 - (len+n))).size=cap2*sz∧(∀ e∈es1++es2,e.length=sz) ∧
   ∀ (i:Nat) e (c:Nat) q,(es1++es2)[i]?=some e→e[c]?=some q→∃ v,(olds.toArray++news.toArray++Builtin.zeroCells z (cap2 - (len+n)))[i*sz+c]?=some v∧RelL w F ρ m v q:=by
 refine⟨?_,fun e he=>?_,fun i e c q he hq=>?_⟩
 ·simp only[Array.size_append,YfB,size_zeroCells,hz,hlo,hl,← YeB]
  congr 1
  omega
 ·rcases Yei.1 he with he | he
  ·exact hs1 e he
  ·exact hs2 e he
 ·by_cases hi:i<len
  ·rw[Yef (by omega)] at he
   obtain⟨v,hv,hr⟩:=r1 i e c q he hq
   refine⟨v,?_,hr⟩
   have hlt:=(YdM.1 hv).1
   rw[YeK (by simp;omega),YeK (by simpa using hlt)]
   simpa using hv
  ·rw[Yeq (by omega),h1] at he
   obtain⟨v,hv,hr⟩:=r2 (i - len) e c q he hq
   refine⟨v,?_,hr⟩
   have hlt:=(YdM.1 hv).1
   have e1:i*sz+c=len*sz+((i - len)*sz+c):=by
    rw[← Yf0,← YeB]
    congr 2
    omega
   rw[YeK (by simp;omega),Yf9 (by simp;omega)]
   simp only[YfB,hlo,e1]
   rw[Nat.add_sub_cancel_left]
   simpa using hv
theorem Y6w (h:Inv X st a w F ρ){b off len:Nat}{bx:Box}{lc:Loc}(hm:st.m b=some bx)(hk:bx.kind=.nst)(hr:ρ b=some lc)(hl:off+len≤bx.es.length):
  ∃ olds:List Value,olds.length=len*bx.sz∧(∀ j u,olds[j]?=some u→w.cell? ⟨lc.blk,lc.base+off*bx.sz+j,none⟩=some u)∧(∀ e∈(bx.es.drop off).take len,e.length=bx.sz) ∧
   ∀ (i:Nat) e (c:Nat) q,((bx.es.drop off).take len)[i]?=some e→e[c]?=some q→∃ v,olds[i*bx.sz+c]?=some v∧RelL w F ρ st.m v q:=by
 have hb:=Ygg (by rw[hk];simp) (h.boxes b bx hm)
 rw[hr] at hb
 obtain⟨cs,t,g1,g2,g3,g4,g5⟩:=hb
 rw[hk] at g5
 obtain⟨news,k1,k2,k3⟩:=Y7l (w:=w) (F:=F) (blk:=lc.blk) (o:=lc.base+off*bx.sz) (sz:=bx.sz) (es:=(bx.es.drop off).take len) (n:=len) (by simp;omega)
  (fun e he=>g4 e (YeE (YeC he))) fun i e c q he hq=>by
   obtain⟨-,he⟩:=Y0C he
   obtain⟨u,hu,hrel⟩:=g5 _ _ _ _ he hq
   refine⟨u,?_,hrel⟩
   have:lc.base+off*bx.sz+(i*bx.sz+c)=lc.base+((off+i)*bx.sz+c):=by rw[YeB];omega
   simp only[World.cell?,g1,this]
   exact hu
 exact⟨news,k1,k2,fun e he=>g4 e (YeE (YeC he)),k3⟩
def SrcOKN (w:World)(F:Nat→Prop)(ρ:Locs)(m:Mem)(v:Value)(sz:Nat)(es:List (List LV)): Prop :=
 ∃ (ad:Addr) (cap:Nat) (news:List Value),v=.slice (some ad) es.length cap∧news.length=es.length*sz∧(∀ j u,news[j]?=some u→w.cell? (ad.add j)=some u)∧(∀ e∈es,e.length=sz) ∧
  ∀ (i:Nat) e (c:Nat) q,es[i]?=some e→e[c]?=some q→∃ v,news[i*sz+c]?=some v∧RelL w F ρ m v q
theorem Y8G (h:Inv X st a w F ρ){y:Operand}{b g off len:Nat}{cap:Option Nat}{x:Box}(hy:evalO st.ts y=.own b g off len cap)(hm:st.m b=some x)(hg:x.gen=g)(hk:x.kind=.nst)(hl:off+len≤x.es.length)(h0:0<len):
  SrcOKN w F ρ st.m (a.eval y) x.sz ((x.es.drop off).take len):=by
 have hv:=h.eval y
 rw[hy] at hv
 obtain⟨-,-,hh⟩:=hv.toOwn hm hg
 have hb:=Ygg (by rw[hk];simp) (h.boxes b x hm)
 have hlen:((x.es.drop off).take len).length=len:=by simp;omega
 cases hr:ρ b with
 | none =>
  rw[hr] at hb
  have:x.es=[]:=hb
  rw[this] at hl
  simp at hl
  omega
 | some lc =>
  rw[hr] at hh
  obtain⟨ad,cap',hv2,ha,hc,-⟩:=hh
  have had:=ha (by omega)
  subst had
  obtain⟨news,k1,k2,k3,k4⟩:=Y6w h hm hk hr hl
  exact⟨_,cap',news,by rw[hv2,hlen],by rw[hlen];exact k1,fun j u hu=>by rw[Y0g];exact k2 j u hu,k3,k4⟩
theorem Y5R (h:Inv X st a w F ρ){x y:Operand}{t e:TypeId}{b g off len:Nat}{bx:Box}{es:List (List LV)}{z:List LV}(hx:evalO st.ts x=.own b g off len none)(hm:st.m b=some bx)(hg:bx.gen=g)
    (hf:bx.frz=false) (hk:bx.kind=.nst) (hend:off+len=bx.es.length) (ht:sliceE P t=some e) (hz:zeroL P e=some z) (hs:szT P e=some z.length) (hzs:bx.sz=z.length) (hy:SrcOKN w F ρ st.m (a.eval y) z.length es)
    (h0:0<es.length) (hone:∀ e∈es,e.all oneC=true) (h1:len+es.length≤4294967296) (hb:P.bytesOf e≤4096) {o:Oper}(ho:o.op=.call { callee:=.builtin .append,args:=#[x,y],argTypes:=#[t,t] }) :
    Sound P X st a w o (.own b (g+1) 0 (len+es.length) none) [(b,{ bx with gen:=g+1,es:=bx.es.drop off++es })]:=by
  obtain⟨dst,op,ty,pos,after,guard⟩:=o
  simp only at ho
  subst ho
  have hv:=h.eval x
  rw[hx] at hv
  obtain⟨-,-,hh⟩:=hv.toOwn hm hg
  obtain⟨ad,cap,news,hyv,g1,g2,g3,g4⟩:=hy
  obtain⟨i,zv,hi,hz',rfl⟩:=Y0t hz
  simp only[Ye4,YeN] at hs hzs g1 g3 g4 ⊢
  obtain⟨i',hi',hs'⟩:=Y0G hs
  rw[hi] at hi'
  injection hi' with hi'
  subst hi'
  have hby:i.bytes≤4096:=by simpa [Program.bytesOf,hi] using hb
  have hdt:(bx.es.drop off).take len=bx.es.drop off:=YdP (by simp;omega)
  have hdl:(bx.es.drop off).length=len:=by simp;omega
  have hbx:=Ygg (by rw[hk];simp) (h.boxes b bx hm)
  have runeq:∀ {v:Value}{w':World}{ao:Option Addr}{cap':Nat},a.eval x=.slice ao len cap'→(Builtin.append_ #[t,t] ty #[.slice ao len cap',.slice (some ad) es.length cap]).run P w=.ok v w' →
      (execOp a.eval { dst:=dst,op:=.call { callee:=.builtin .append,args:=#[x,y],argTypes:=#[t,t] },type:=ty,pos:=pos,after:=after,guard:=guard }).run P w=.ok (.value v) w':=by
    intro v w' ao cap' hv hr
    simp only[execOp,resolve,Yft,Yey,Yfi,Sem.run_bind,Sem.run_pure,Yel,invoke,builtin,hv,hyv]
    rw[hr]
    rfl
  -- a new block
  have grow:∀ (ao:Option Addr) (cap':Nat) (olds:List Value),a.eval x=.slice ao len cap'→cap'<len+es.length→olds.length=len*i.size→(∀ ad,ao=some ad→∀ j v,olds[j]?=some v→w.cell? (ad.add j)=some v)→(ao=none→len=0∧cap'=0) →
      (∀ e∈bx.es.drop off,e.length=bx.sz)→(∀ (i:Nat) e (c:Nat) q,(bx.es.drop off)[i]?=some e→e[c]?=some q→∃ v,olds[i*bx.sz+c]?=some v∧RelL w F ρ st.m v q) →
      Sound P X st a w { dst:=dst,op:=.call { callee:=.builtin .append,args:=#[x,y],argTypes:=#[t,t] },type:=ty,pos:=pos,after:=after,guard:=guard } (.own b (g+1) 0 (len+es.length) none) [(b,{ bx with gen:=g+1,es:=bx.es.drop off++es })]:=by
    intro ao cap' olds hv2 hlt k1 k2 k3 k4 k5
    obtain⟨w',cap2,hr,hcap,hheap,q1,q2,q3⟩:=Y3O (P:=P) (w:=w) (ty:=ty) (c:=cap) (Y0c ht) hi hz' hs'.symm k1 k2 k3 (by rw[hs'];exact g1) g2 h0 hlt h1 hby
    rw[hzs] at k4 k5
    obtain⟨p1,p2,p3⟩:=Y68 (w:=w) (F:=F) (sz:=zv.cells.size) (len:=len) (n:=es.length) (cap2:=cap2) (z:=zv.cells) rfl (by rw[k1,hs']) g1 hdl rfl k4 g3 hcap k5 g4
    refine⟨_,.slice (some ⟨w.heap.size,0,none⟩) (len+es.length) cap2,w',F,updR ρ b ⟨w.heap.size,0,cap2⟩,runeq hv2 hr,.inl rfl,?_,?_⟩
    · have hpush:∀ b:Nat,b<w.heap.size→w'.heap[b]?=w.heap[b]?:=fun b hb=>by rw[hheap,Yfj,if_neg (by omega)]
      refine h.write q1 q2 q3 (by rw[hheap];simp) (fun b hb _=>hpush b hb) (fun j hj=>Y2x _ _ (Ne.symm hj)) hf (fun y hy=>.inr ?_) (fun l hl=>?_) fun hc hF=>Ygc (by simp only[hk];simp) ?_ (fun hv=>by rw[hk] at hv;cases hv)
      · rw[hm] at hy
        injection hy with hy
        subst hy
        simp only
        omega
      · rw[Y0d] at hl
        injection hl with hl
        subst hl
        exact⟨by rw[hheap];simp,.inl (Ye2 _)⟩
      · rw[Y0d]
        refine⟨olds.toArray++news.toArray++Builtin.zeroCells zv.cells (cap2 - (len+es.length)),e,by rw[hheap,Yfj,if_pos rfl],by simp only[YdZ,p1,hzs];exact Ye2 _,by simp only[YdN,hdl];exact hcap,by simp only[hzs];exact p2,fun j e' c q he hq=>?_⟩
        obtain⟨v,hv,hr⟩:=p3 j e' c q he hq
        refine⟨v,by simpa [hzs] using hv,?_⟩
        exact CellR.nst hk (RelL.mono (fun _ h=>h) hF hc hr)
    · refine .own rfl (Y07 _ _ _) (Ye2 _) fun _=>⟨by show isSl bx.kind=true;rw[hk];rfl,by simp only[YdN,hdl];omega,?_⟩
      rw[Y0d]
      exact⟨_,cap2,rfl,fun _=>by simp,hcap,by simp⟩
  cases hr:ρ b with
  | none =>
    rw[hr] at hh hbx
    have hes:bx.es=[]:=hbx
    have e1:len=0:=by rw[hes] at hend;simp at hend;omega
    subst e1
    obtain⟨a0,hh⟩:=hh
    refine grow a0 0 [] hh (by omega) (by simp) (by simp) (fun _=>⟨rfl,rfl⟩) ?_ ?_
    · rw[hes];simp
    · rw[hes];simp
  | some lc =>
    rw[hr] at hh hbx
    obtain⟨ao,cap',hv2,ha,hlc,hcc⟩:=hh
    simp only at hcc
    obtain⟨olds,k1,k2,k3,k4⟩:=Y6w h hm hk hr (Nat.le_of_eq hend)
    rw[hdt] at k3 k4
    by_cases hroom:len+es.length≤cap'
    · -- in place
      have had:=ha (by omega)
      subst had
      obtain⟨cur,t',c1,c2,c3,c4,c5⟩:=hbx
      have n1:∀ u∈news,u.oneCell'=true:=by
        intro u hu
        obtain⟨j,hj,rfl⟩:=Yfz.1 hu
        have hz0:0<zv.cells.size:=Yfl fun h0=>by rw[h0] at g1;simp at g1;simp[g1] at hj
        have hq:j / zv.cells.size<es.length:=by rw[YfG hz0];omega
        have hmm:j % zv.cells.size<zv.cells.size:=Nat.mod_lt _ hz0
        have hel:(es[j / zv.cells.size]).length=zv.cells.size:=g3 _ (YeO hq)
        obtain⟨v,hv,hrel⟩:=g4 _ _ _ _ (YdO hq) (YdO (by omega:j % zv.cells.size<(es[j / zv.cells.size]).length))
        have hdm:j / zv.cells.size*zv.cells.size+j % zv.cells.size=j:=by rw[Nat.mul_comm];exact Nat.div_add_mod j _
        rw[hdm,YdO hj] at hv
        injection hv with hv
        rw[hv]
        refine hrel.one ?_
        have:=hone _ (YeO hq)
        rw[Yed] at this
        exact this _ (YeO _)
      have hfit:len*zv.cells.size+es.length*zv.cells.size≤cap'*zv.cells.size:=by rw[← YeB];exact YeX _ hroom
      have hext:off*zv.cells.size+cap'*zv.cells.size=lc.ext*zv.cells.size:=by rw[← YeB,hcc]
      rw[hzs] at c2
      have hst:=run_storeCells_at P lc.blk (lc.base+off*bx.sz+len*i.size) t' news 0 cur w c1 (by rw[hzs,hs'];omega) n1
      simp only[YfE] at hst
      have hf1:=run_firstCells_some (P:=P) w i.size es.length ad es.length cap news (by rw[hs'];exact g1) g2
      have hrun:(Builtin.append_ #[t,t] ty #[.slice (some ⟨lc.blk,lc.base+off*bx.sz,none⟩) len cap',.slice (some ad) es.length cap]).run P w =
          .ok (.slice (some ⟨lc.blk,lc.base+off*bx.sz,none⟩) (len+es.length) cap') (w.setRow lc.blk (cur.toList.take (lc.base+off*bx.sz+len*i.size)++news++cur.toList.drop (lc.base+off*bx.sz+len*i.size+news.length)).toArray):=by
        simp[Builtin.append_,run_underlying (Y0c ht),sizeOf,typeInfo,hi,Builtin.lenOf,hroom,hf1,Y0g,hst]
      refine⟨_,_,_,F,updR ρ b ⟨lc.blk,lc.base+off*bx.sz,cap'⟩,runeq hv2 hrun,.inl rfl,?_,?_⟩
      · refine h.write rfl rfl rfl (by simp) (fun k hk' hne=>setRow_other w lc.blk k _ (hne bx lc hm hf hr)) (fun j hj=>Y2x _ _ (Ne.symm hj)) hf (fun y hy=>.inr ?_) (fun l hl=>?_) fun hc hF=>Ygc (by simp only[hk];simp) ?_ (fun hv=>by rw[hk] at hv;cases hv)
        · rw[hm] at hy
          injection hy with hy
          subst hy
          simp only
          omega
        · rw[Y0d] at hl
          injection hl with hl
          subst hl
          exact⟨by simp;exact (h.place b bx lc hm hr).1,.inr ⟨bx,lc,hm,hf,hr,rfl⟩⟩
        · rw[Y0d]
          refine⟨_,t',setRow_heap w lc.blk cur _ t' _ c1,?_,by simp only[YdN,hdl];exact hroom,?_,fun j e' c q he hq=>?_⟩
          · simp only[YfB,YdN,Yek,Yez,YeN,hzs,hs',g1]
            omega
          · simp only
            intro e' he'
            rcases Yei.1 he' with he' | he'
            · exact k3 e' he'
            · rw[hzs];exact g3 e' he'
          · have hkey:∃ v,((cur.toList.take (lc.base+off*bx.sz+len*i.size)++news++cur.toList.drop (lc.base+off*bx.sz+len*i.size+news.length)).toArray)[lc.base+off*bx.sz+(j*bx.sz+c)]?=some v∧RelL w F ρ st.m v q:=by
             simp only[hzs,hs'] at he hq ⊢
             have htl:(cur.toList.take (lc.base+off*zv.cells.size+len*zv.cells.size)).length=lc.base+off*zv.cells.size+len*zv.cells.size:=by simp;omega
             by_cases hj:j<len
             · rw[Yef (by omega)] at he
               have hcl:c<zv.cells.size:=by
                 have:=(YdM.1 hq).1
                 rw[k3 e' (Yet he),hzs] at this
                 exact this
               have hjf:=Y1S (sz:=zv.cells.size) hj
               rw[Yf3] at he
               obtain⟨u,hu,hrel⟩:=c5 (off+j) e' c q he hq
               rw[hk] at hrel
               refine⟨u,?_,hrel⟩
               rw[Yfe,Yef (by simp;omega),Yef (by omega),YeU,if_pos (by omega),YeD]
               rw[hzs,YeB] at hu
               rw[show lc.base+off*zv.cells.size+(j*zv.cells.size+c)=lc.base+(off*zv.cells.size+j*zv.cells.size+c) by omega]
               exact hu
             · rw[Yeq (by omega),hdl] at he
               obtain⟨v,hv,hrel⟩:=g4 (j - len) e' c q he hq
               refine⟨v,?_,hrel⟩
               have hvl:=(YdM.1 hv).1
               have e1:j*zv.cells.size+c=len*zv.cells.size+((j - len)*zv.cells.size+c):=by
                 rw[← Yf0,← YeB]
                 congr 2
                 omega
               rw[Yfe,Yef (by simp;omega),Yeq (by omega),htl,e1]
               rw[show lc.base+off*zv.cells.size+(len*zv.cells.size+((j - len)*zv.cells.size+c)) - (lc.base+off*zv.cells.size+len*zv.cells.size)=(j - len)*zv.cells.size+c by omega]
               exact hv
            obtain⟨v,hv,hrel⟩:=hkey
            refine⟨v,hv,?_⟩
            exact CellR.nst hk (RelL.mono (fun _ h=>h) hF hc hrel)
      · refine .own rfl (Y07 _ _ _) (Ye2 _) fun _=>⟨by show isSl bx.kind=true;rw[hk];rfl,by simp only[YdN,hdl];omega,?_⟩
        rw[Y0d]
        exact⟨_,cap',rfl,fun _=>by simp,hroom,by simp⟩
    · refine grow ao cap' olds hv2 (by omega) (by rw[k1,hzs,hs']) (fun ad had j v hj=>?_) (fun hn=>?_) k3 k4
      · have hjl:=(YdM.1 hj).1
        have:0<len:=Yfl fun h0=>by subst h0;simp at k1;simp[k1] at hjl
        rw[ha (by omega)] at had
        injection had with had
        subst had
        rw[Y0g]
        exact k2 j v hj
      · have:¬ 0<cap':=fun hp=>by rw[hn] at ha;simpa using ha hp
        omega
theorem Y3q (h:Inv X st a w F ρ){d:Nat}{t e:TypeId}{y:Operand}{z cs:List LV}(ht:sliceE P t=some e)(hz:zeroL P e=some z)(hs:szT P e=some z.length)(hn:0<z.length)(hb:1*z.length≤16777216)
  (hy:cellsL (evalO st.ts y)=cs) (hl:cs.length=z.length) (h1:cs.all oneC=true) {o:Oper}(ho:o.op=.buildSlice t 1 #[(0,y)]) :
  Sound P X st a w o (.own d (genAt st.m d) 0 1 none) [(d,⟨genAt st.m d,false,.nst,z.length,[cs]⟩)]:=by
 obtain⟨dst,op,ty,pos,after,guard⟩:=o
 simp only at ho
 subst ho
 subst hy
 obtain⟨i,zv,hi,hz',rfl⟩:=Y0t hz
 simp only[Ye4,YeN] at hs hn hb hl ⊢
 obtain⟨i',hi',hs'⟩:=Y0G hs
 rw[hi] at hi'
 injection hi' with hi'
 subst hi'
 obtain⟨h2,h3⟩:=(h.eval y).cellsOf h1
 have hmade:(madeCells zv.cells (1*zv.cells.size)).size=zv.cells.size:=by simp[madeCells]
 obtain⟨k1,k2⟩:=foldSet 0 (a.eval y).cells.toList 0 (madeCells zv.cells (1*zv.cells.size)) (by simp[h2,hl,madeCells])
 have hfill:Instr.fill (fun i=>some (i*zv.cells.size,zv.cells.size)) (madeCells zv.cells (1*zv.cells.size)) [(0,a.eval y)]=some ((a.eval y).cells.toList.zipIdx.foldl (fun cs (c,j)=>cs.setIfInBounds (0+j) c) (madeCells zv.cells (1*zv.cells.size))):=by
  simp only[Instr.fill]
  rw[if_neg (by simp[h2,hl,madeCells]),← Array.foldl_toList,Array.toList_zipIdx]
  simp
 have hbs:=run_buildSlice (P:=P) w t e 1 #[(0,a.eval y)] _ i zv (Y0c ht) hi hz' (by rw[hs'];omega) (by rw[hs'];omega) (by rw[hs'];exact hfill)
 refine⟨_,.slice (some ⟨w.heap.size,0,none⟩) 1 1,{ w with heap:=w.heap.push (.cells ((a.eval y).cells.toList.zipIdx.foldl (fun cs (c,j)=>cs.setIfInBounds (0+j) c) (madeCells zv.cells (1*zv.cells.size))) e) },F,updR ρ d ⟨w.heap.size,0,1⟩,?_,.inl rfl,?_,?_⟩
 ·simp only[execOp,Sem.run_bind,Yft,Yey,Yfi,hbs,Yel]
  rfl
 ·refine h.newCells d (k:=.nst) (t:=e) (by simp) (by simp[hl]) (by rw[k1,hmade];omega) (by simp) (fun j q c l hq hl'=>?_) rfl rfl rfl rfl
  have hj:j=0:=by have:=(YdM.1 hq).1;simp at this;omega
  subst hj
  simp only[Yew,Yem] at hq
  subst hq
  have hc:c<(cellsL (evalO st.ts y)).length:=(YdM.1 hl').1
  have hcv:c<(a.eval y).cells.size:=by omega
  refine⟨(a.eval y).cells[c],?_,?_⟩
  ·rw[k2]
   simp only[YeN,YfE,YdZ,YfD]
   rw[if_pos (by omega),YeD]
   exact YdL hcv
  ·exact (h3 c _ l (YdL hcv) hl').1
 ·exact .own rfl (Y07 _ _ _) (Ye2 _) fun _=>⟨rfl,by simp,by
   rw[Y0d]
   exact⟨_,1,rfl,fun _=>by simp,Ye2 _,by simp⟩⟩
end
end Go.Proofs.Ytoadnomjbibcgaa.Mv
