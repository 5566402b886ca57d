/- Sets of stops as digits; heads and tails of routes. -/
import Derived.Test.YtpepcfombibpeaaMv39
set_option linter.unusedVariables false
set_option linter.unusedSimpArgs false
namespace Go.Proofs.Ytpepcfombibpeaa.Mv

/-! ### Digits -/
def u32 (b : BitVec 32) : LV := .int .u32 (b.toNat : Int)
theorem ofInt_toNat (b : BitVec 32) : BitVec.ofInt 32 (b.toNat : Int) = b := by
  simp
theorem wrap_u32 (b : BitVec 32) : IntKind.u32.wrap (b.toNat : Int) = (b.toNat : Int) := by
  have := b.isLt
  unfold IntKind.wrap
  simp [IntKind.bits, IntKind.signed]
  omega
theorem binI_and (a b : BitVec 32) : binI .and .u32 (a.toNat : Int) (b.toNat : Int) = some (u32 (a &&& b)) := by
  show some (LV.int .u32 (IntKind.u32.wrap (BitVec.ofInt 32 _ &&& BitVec.ofInt 32 _).toNat)) = _
  rw [ofInt_toNat, ofInt_toNat, wrap_u32]; rfl
theorem binI_or (a b : BitVec 32) : binI .or .u32 (a.toNat : Int) (b.toNat : Int) = some (u32 (a ||| b)) := by
  show some (LV.int .u32 (IntKind.u32.wrap (BitVec.ofInt 32 _ ||| BitVec.ofInt 32 _).toNat)) = _
  rw [ofInt_toNat, ofInt_toNat, wrap_u32]; rfl
theorem binI_andNot (a b : BitVec 32) : binI .andNot .u32 (a.toNat : Int) (b.toNat : Int) = some (u32 (a &&& ~~~b)) := by
  show some (LV.int .u32 (IntKind.u32.wrap (BitVec.ofInt 32 _ &&& ~~~(BitVec.ofInt 32 _)).toNat)) = _
  rw [ofInt_toNat, ofInt_toNat, wrap_u32]; rfl
theorem toNat_beq (a b : BitVec 32) : ((a.toNat : Int) == (b.toNat : Int)) = decide (a = b) := by
  rw [Bool.eq_iff_iff, beq_iff_eq, decide_eq_true_iff]
  exact ⟨fun h => BitVec.eq_of_toNat_eq (by omega), fun h => by rw [h]⟩
/-- A stop's digit. -/
def digit (n : Int) : BitVec 32 := if n < 1 then 0#32 else 1#32 <<< n.toNat
theorem shl_one {P : Program} {t : TypeId} (n : Int) (h0 : 1 ≤ n) (h1 : n ≤ 1000000) : binL P .shl t (.int .u32 1) (.int .u64 (IntKind.u64.wrap n)) = some (u32 (digit n)) := by
  have e : IntKind.u64.wrap n = n := by
    unfold IntKind.wrap
    simp [IntKind.bits, IntKind.signed]
    omega
  rw [e]
  have e2 : digit n = 1#32 <<< n.toNat := if_neg (by omega)
  rw [e2]
  show (if n < 0 then none else some (LV.int .u32 (IntKind.u32.wrap (1 * 2 ^ min n.toNat 32)))) = _
  rw [if_neg (by omega)]
  have e3 : IntKind.u32.wrap (1 * 2 ^ min n.toNat 32) = (((1#32 <<< n.toNat).toNat : Nat) : Int) := by
    have e4 : ((1#32 <<< n.toNat).toNat : Nat) = 2 ^ n.toNat % 2 ^ 32 := by
      rw [BitVec.toNat_shiftLeft]; simp [Nat.shiftLeft_eq]
    rw [e4]
    have e5 : IntKind.u32.wrap (1 * 2 ^ min n.toNat 32) = (2 ^ min n.toNat 32 : Int) % 4294967296 := by
      unfold IntKind.wrap
      simp [IntKind.bits, IntKind.signed]
    rw [e5]
    by_cases h : n.toNat ≤ 32
    · rw [Nat.min_eq_left h]; simp
    · rw [Nat.min_eq_right (by omega)]
      have : 2 ^ n.toNat % 2 ^ 32 = 0 := Nat.mod_eq_zero_of_dvd (Nat.pow_dvd_pow 2 (by omega))
      rw [this]; rfl
  rw [e3]; rfl
section
variable {P : Program} {I : InlP} {nb : Nat} {Q : Ex → St → Prop} {ops : Array Oper} {K : St → Prop} {r : List Oper} {ts : Slots} {m : Mem} {t : Nat} {ty : TypeId} {pos : String} {af : Array Edge} {d : Bool} {i : Nat} {acc : List (Nat × List Nat × List Nat)}
theorem GL.conv (hI : InlM I) {s e : TypeId} {x : Operand} {v : LV} (h : convL P s e (evalO ts x) = some v) (hs : (P.underlying s).isSome = true) (k : GL P I nb ops K d r (i + 1) ((i, [], []) :: acc) ⟨updS ts t v, m⟩) :
    GL P I nb ops K d (⟨some t, .convert s e x, ty, pos, af, none⟩ :: r) i acc ⟨ts, m⟩ := .stepP hI (.conv h hs) k
theorem GL.makeSlice (hI : InlM I) {tt e : TypeId} {ln cp : Operand} {n : Int} {j : Nat} {z : List LV} {sz : Nat} (ht : sliceE P tt = some e) (hz : zeroL P e = some z) (hs : szT P e = some sz) (hzl : z.length = sz) (h0 : 0 < sz) (hn : evalO ts ln = .int .i64 n) (hc : evalO ts cp = .int .i64 n) (h1 : 0 ≤ n) (h2 : n ≤ 4294967296) (hb : P.bytesOf e ≤ 4096) (hj : n.toNat = j)
    (k : ∀ g, GL P I nb ops K d r (i + 1) ((i, [nb + 64 * t], [nb + 64 * t]) :: acc) ⟨updS ts t (.own (nb + 64 * t) g 0 j none), updM m (nb + 64 * t) ⟨g, false, .slc, sz, List.replicate j (z.map pureC)⟩⟩) :
    GL P I nb ops K d (⟨some t, .makeSlice tt ln cp, ty, pos, af, none⟩ :: r) i acc ⟨ts, m⟩ := by
  subst hj hzl
  exact .step hI (.makeSlice ht hz hs h0 hn hc h1 (Int.le_refl n) h2 hb) (by simp) (k _)
theorem GL.andB (hI : InlM I) {xt yt : TypeId} {x y : Operand} {a b : BitVec 32} (hx : evalO ts x = u32 a) (hy : evalO ts y = u32 b) (k : GL P I nb ops K d r (i + 1) ((i, [], []) :: acc) ⟨updS ts t (u32 (a &&& b)), m⟩) :
    GL P I nb ops K d (⟨some t, .binOp .and xt x y yt, ty, pos, af, none⟩ :: r) i acc ⟨ts, m⟩ := .bin hI (by rw [hx, hy]; exact binI_and a b) k
theorem GL.orB (hI : InlM I) {xt yt : TypeId} {x y : Operand} {a b : BitVec 32} (hx : evalO ts x = u32 a) (hy : evalO ts y = u32 b) (k : GL P I nb ops K d r (i + 1) ((i, [], []) :: acc) ⟨updS ts t (u32 (a ||| b)), m⟩) :
    GL P I nb ops K d (⟨some t, .binOp .or xt x y yt, ty, pos, af, none⟩ :: r) i acc ⟨ts, m⟩ := .bin hI (by rw [hx, hy]; exact binI_or a b) k
theorem GL.andNotB (hI : InlM I) {xt yt : TypeId} {x y : Operand} {a b : BitVec 32} (hx : evalO ts x = u32 a) (hy : evalO ts y = u32 b) (k : GL P I nb ops K d r (i + 1) ((i, [], []) :: acc) ⟨updS ts t (u32 (a &&& ~~~b)), m⟩) :
    GL P I nb ops K d (⟨some t, .binOp .andNot xt x y yt, ty, pos, af, none⟩ :: r) i acc ⟨ts, m⟩ := .bin hI (by rw [hx, hy]; exact binI_andNot a b) k
theorem GL.eqlB (hI : InlM I) {xt yt : TypeId} {x y : Operand} {a b : BitVec 32} (hx : evalO ts x = u32 a) (hy : evalO ts y = u32 b) (k : GL P I nb ops K d r (i + 1) ((i, [], []) :: acc) ⟨updS ts t (.bool (decide (a = b))), m⟩) :
    GL P I nb ops K d (⟨some t, .binOp .eql xt x y yt, ty, pos, af, none⟩ :: r) i acc ⟨ts, m⟩ := .bin hI (by rw [hx, hy]; show some (LV.bool ((a.toNat : Int) == (b.toNat : Int))) = _; rw [toNat_beq]) k
theorem GL.neqB (hI : InlM I) {xt yt : TypeId} {x y : Operand} {a b : BitVec 32} (hx : evalO ts x = u32 a) (hy : evalO ts y = u32 b) (k : GL P I nb ops K d r (i + 1) ((i, [], []) :: acc) ⟨updS ts t (.bool (decide (a ≠ b))), m⟩) :
    GL P I nb ops K d (⟨some t, .binOp .neq xt x y yt, ty, pos, af, none⟩ :: r) i acc ⟨ts, m⟩ := .bin hI (by
      rw [hx, hy]
      show some (LV.bool (!((a.toNat : Int) == (b.toNat : Int)))) = _
      rw [toNat_beq]
      simp) k
end

/-! ### Heads and tails -/
structure Head where
  ok : Bool
  last : Int
  leave : Int
  load : Int
  opn : BitVec 32
  set : BitVec 32
  cost : Int
  deriving DecidableEq, Inhabited
structure Tail where
  ok : Bool
  first : Int
  late : Int
  low : Int
  high : Int
  need : BitVec 32
  set : BitVec 32
  cost : Int
  deriving DecidableEq, Inhabited
def nh (h : Head) : List LV := [.bool h.ok, .int .i64 h.last, .int .i64 h.leave, .int .i64 h.load, u32 h.opn, u32 h.set, .int .i64 h.cost]
def nl (h : Tail) : List LV := [.bool h.ok, .int .i64 h.first, .int .i64 h.late, .int .i64 h.low, .int .i64 h.high, u32 h.need, u32 h.set, .int .i64 h.cost]
def zeroH : Head := ⟨false, 0, 0, 0, 0, 0, 0⟩
def zeroTl : Tail := ⟨false, 0, 0, 0, 0, 0, 0, 0⟩
def wsub (a b : Int) : Int := IntKind.i64.wrap (a - b)
/-- Is there such a car, such a stop? -/
def isT (i : Inst) (c s : Int) : Bool := decide (c ≥ 0) && (decide (c < (i.cars.length : Int)) && (decide (s ≥ 0) && decide (s ≤ (i.stops.length : Int))))
def drive (i : Inst) (a b : Int) : Int :=
  if a < 0 ∨ a ≥ (i.travel.length : Int) ∨ b < 0 ∨ b ≥ ((i.travel.getD a.toNat default).length : Int) then 0
  else (i.travel.getD a.toNat default).getD b.toNat default
def beginT (i : Inst) (c : Int) : Head := if isT i c 0 = true then ⟨true, 0, (carAt i c).c1, 0, 0, 0, 0⟩ else zeroH
def endT (i : Inst) (c : Int) : Tail := if isT i c 0 = true then ⟨true, 0, (carAt i c).c2, 0, 0, 0, 0, 0⟩ else zeroTl
def xbeg (i : Inst) (h : Head) (s : Int) : Int := imax (stopAt i s).s1 (wadd h.leave (drive i h.last s))
def xout (i : Inst) (h : Head) (s : Int) (o : BitVec 32) : Head := ⟨true, s, wadd (xbeg i h s) (stopAt i s).s3, wadd h.load (stopAt i s).s0, o, h.set ||| digit s, wadd h.cost (drive i h.last s)⟩
def extend (i : Inst) (c : Int) (h : Head) (s : Int) : Head :=
  if h.ok = true ∧ isT i c s = true ∧ 1 ≤ s ∧ h.set &&& digit s = 0#32 then
    if xbeg i h s ≤ (stopAt i s).s2 ∧ 0 ≤ wadd h.load (stopAt i s).s0 ∧ wadd h.load (stopAt i s).s0 ≤ (carAt i c).c0 then
      if digit (mate i.pairs s) = 0#32 then xout i h s h.opn
      else if Mv.first i.pairs s = true then xout i h s (h.opn ||| digit s)
      else if h.opn &&& digit (mate i.pairs s) = 0#32 then zeroH
      else xout i h s (h.opn &&& ~~~ digit (mate i.pairs s))
    else zeroH
  else zeroH
def ylate (i : Inst) (s : Int) (t : Tail) : Int := imin (stopAt i s).s2 (wsub (wsub t.late (drive i s t.first)) (stopAt i s).s3)
def yout (i : Inst) (s : Int) (t : Tail) (o : BitVec 32) : Tail :=
  ⟨true, s, ylate i s t, imin 0 (wadd (stopAt i s).s0 t.low), imax 0 (wadd (stopAt i s).s0 t.high), o, t.set ||| digit s, wadd t.cost (drive i s t.first)⟩
def before (i : Inst) (c s : Int) (t : Tail) : Tail :=
  if t.ok = true ∧ isT i c s = true ∧ 1 ≤ s ∧ t.set &&& digit s = 0#32 then
    if (stopAt i s).s1 ≤ ylate i s t then
      if digit (mate i.pairs s) = 0#32 then yout i s t t.need
      else if Mv.first i.pairs s = false then yout i s t (t.need ||| digit (mate i.pairs s))
      else if t.need &&& digit s = 0#32 then zeroTl
      else yout i s t (t.need &&& ~~~ digit s)
    else zeroTl
  else zeroTl
def meet (i : Inst) (c : Int) (h : Head) (t : Tail) : Option Int :=
  if isT i c 0 = true ∧ h.ok = true ∧ t.ok = true ∧ h.set &&& t.set = 0#32 ∧ h.opn = t.need then
    if wadd h.leave (drive i h.last t.first) ≤ t.late ∧ 0 ≤ wadd h.load t.low ∧ wadd h.load t.high ≤ (carAt i c).c0 then some (wadd (wadd h.cost (drive i h.last t.first)) t.cost) else none
  else none
/-- The head of a list; the tail of a list. -/
def headOf (i : Inst) (c : Int) (l : List Int) : Head := l.foldl (extend i c) (beginT i c)
def tailOf (i : Inst) (c : Int) : List Int → Tail
  | [] => endT i c
  | s :: r => before i c s (tailOf i c r)
def headsK (i : Inst) (c : Int) (l : List Int) (k : Nat) : List Head := (List.range (k + 1)).map fun j => headOf i c (l.take j)
def heads (i : Inst) (c : Int) (l : List Int) : List Head := if isT i c 0 = true then headsK i c l l.length else []
/-- The tails from place a on; zeros ahead. -/
def tailsK (i : Inst) (c : Int) (l : List Int) (a : Nat) : List Tail := (List.range (l.length + 1)).map fun j => if j < a then zeroTl else tailOf i c (l.drop j)
def tails (i : Inst) (c : Int) (l : List Int) : List Tail := if isT i c 0 = true then tailsK i c l 0 else []
theorem headOf_take (i : Inst) (c : Int) {l : List Int} {k : Nat} (h : k < l.length) : headOf i c (l.take (k + 1)) = extend i c (headOf i c (l.take k)) (l.getD k default) := by
  rw [← take_snoc h]
  unfold headOf
  rw [List.foldl_append]
  rfl
theorem headsK_succ (i : Inst) (c : Int) (l : List Int) (k : Nat) : headsK i c l (k + 1) = headsK i c l k ++ [headOf i c (l.take (k + 1))] := by
  unfold headsK
  rw [List.range_succ (n := k + 1), List.map_append]
  rfl
theorem headsK_len (i : Inst) (c : Int) (l : List Int) (k : Nat) : (headsK i c l k).length = k + 1 := by simp [headsK]
theorem headsK_get (i : Inst) (c : Int) (l : List Int) {k j : Nat} (h : j ≤ k) : (headsK i c l k).getD j default = headOf i c (l.take j) := by
  simp [headsK, show j < k + 1 by omega]
theorem tailOf_drop (i : Inst) (c : Int) {l : List Int} {k : Nat} (h : k < l.length) : tailOf i c (l.drop k) = before i c (l.getD k default) (tailOf i c (l.drop (k + 1))) := by
  rw [drop_getD h]
  rfl
theorem tailsK_len (i : Inst) (c : Int) (l : List Int) (a : Nat) : (tailsK i c l a).length = l.length + 1 := by simp [tailsK]
theorem tailsK_get (i : Inst) (c : Int) (l : List Int) {a j : Nat} (h : j ≤ l.length) : (tailsK i c l a).getD j default = if j < a then zeroTl else tailOf i c (l.drop j) := by
  simp [tailsK, show j < l.length + 1 by omega]
theorem tailsK_set (i : Inst) (c : Int) (l : List Int) {a : Nat} (h : a ≤ l.length) : (tailsK i c l (a + 1)).set a (tailOf i c (l.drop a)) = tailsK i c l a := by
  refine List.ext_getElem (by simp [tailsK]) fun j h1 h2 => ?_
  have hj : j ≤ l.length := by rw [tailsK_len] at h2; omega
  rw [List.getElem_set]
  simp only [tailsK, List.getElem_map, List.getElem_range]
  by_cases e : a = j
  · subst e; simp
  · rw [if_neg e]
    by_cases e2 : j < a
    · rw [if_pos (by omega), if_pos e2]
    · rw [if_neg (by omega), if_neg e2]
theorem tailsK_zero (i : Inst) (c : Int) (l : List Int) : tailsK i c l (l.length + 1) = List.replicate (l.length + 1) zeroTl := by
  refine List.ext_getElem (by simp [tailsK]) fun j h1 h2 => ?_
  have hj : j < l.length + 1 := by simpa using h2
  simp only [tailsK, List.getElem_map, List.getElem_range, List.getElem_replicate]
  rw [if_pos hj]
theorem em_replicate {α : Type} (f : α → List LV) (n : Nat) (a : α) : em f (List.replicate n a) = List.replicate n (f a) := by simp [em]
/-- What the tables need of an instance. -/
structure Tb (i : Inst) : Prop where
  short : i.Short
  stops : i.stops.length ≤ 1000
  mate : ∀ n, Mv.mate i.pairs n ≤ 1000000
end Go.Proofs.Ytpepcfombibpeaa.Mv
