/- The plain laws: from contracts to rows; instances, routes, tables, in plain Lean. -/
import Derived.Test.YtffnlhjdlhpmjaaMvB
import Derived.Below
import Derived.ChangeSlices
import Derived.DataReads
/- From a function's contract to what a row asks of a call. -/
set_option linter.unusedVariables false
set_option linter.unusedSimpArgs false
namespace Go.Proofs.Ytffnlhjdlhpmjaa.Mv
open Go.RowKit

theorem RelI.bool {w : World} {F : Nat → Prop} {v : Value} {b : Bool} {O : List Nat} (h : RelI w F v (.bool b) O) : v = .bool b := by
  cases h with
  | frz h => cases h; rfl

/-- A law that answers true: the call's answer, and nothing that was there has turned. -/
theorem law_walk {P : Program} {f : FuncId} {vs : Array Value} {args : List LV} {w : World} (h : CallsV P f args (.bool true)) (hr : RelF w (fun b => b < w.heap.size) (.agg vs) (.agg args)) :
    Calls P f vs w fun e w' => e = .returned (.bool true) ∧ Below w.heap.size w w' := by
  refine Calls.mono (h.2 w _ vs hr fun _ h => h) fun e w' he => ?_
  obtain ⟨v, res, F', O, rfl, hR, hext, -, -, -, q4, -, -⟩ := he
  subst hR
  rw [q4.bool]
  exact ⟨rfl, hext.os, hext.tape, hext.output, hext.size, fun k hk => hext.block k hk (by simp)⟩

theorem RelF.nil {w : World} {F : Nat → Prop} : RelF w F (.agg #[]) (.agg []) := .agg rfl fun i v l hv => by simp at hv
theorem RelF.cons {w : World} {F : Nat → Prop} {v : Value} {vs : List Value} {l : LV} {ls : List LV} (h : RelF w F v l) (hs : RelF w F (.agg vs.toArray) (.agg ls)) : RelF w F (.agg (v :: vs).toArray) (.agg (l :: ls)) := by
  obtain ⟨cs, e1, e2, e3⟩ := hs.cells
  injection e1 with e1
  subst e1
  refine .agg (by simp at e2 ⊢; exact e2) fun i u q hu hq => ?_
  cases i with
  | zero =>
    simp at hu hq
    subst hu hq
    exact h
  | succ i => exact e3 i u q (by simpa using hu) (by simpa using hq)
end Go.Proofs.Ytffnlhjdlhpmjaa.Mv

/- Slices of integers that come in as a law's arguments. -/
set_option linter.unusedVariables false
set_option linter.unusedSimpArgs false
namespace Go.Proofs.Ytffnlhjdlhpmjaa.Mv
open Go.ChangeShapes Go.WideShapes Go.RowKit

/-- What is known of a slice of integers that came in. -/
structure Ints (z : List Int) : Prop where
  len : z.length ≤ maxLen
  num : ∀ n ∈ z, (Lit.int .i64 n).wf = true

theorem getD_mem_or {z : List Int} {i : Nat} (h : i < z.length) : z.getD i 0 ∈ z := by
  rw [List.getD_eq_getElem?_getD, List.getElem?_eq_getElem h]
  exact List.getElem_mem h

theorem ints_in {H : Type} {enc : TypeId × Value → H} {P : Program} {w : World} {base : Nat} {spare : Nat → Bool} {held : Bool} {t e : TypeId} {fuel : Nat} {a : Option Addr} {len cap : Nat} {x : DataW H × List MemPlace}
    (ht : P.underlying t = some (.slice e)) (he : P.underlying e = some (.int .i64)) (hc : P.cellsOf e = 1) (h : DataW.trod enc P w base spare held fuel t [.slice a len cap] = some x) :
    ∃ z, RelF w (fun b => b < w.heap.size) (.slice a len cap) (.sl (em ni z)) ∧ Ints z := by
  rcases open_ints ht he hc h with ⟨hcs, -⟩ | ⟨ad, l, c, zs, hcs, -, hl, hm, hz, -, hcell, hw⟩
  · injection hcs with h1
    injection h1 with h1 h2 h3
    subst h1 h2 h3
    exact ⟨[], .sl (blk := 0) (off := 0) (sz := 1) (fun _ _ => .int .i64 0) rfl (Nat.le_refl _) (fun h => absurd h (by omega)) (fun e he => by cases he) (fun i e c l he => by simp [em] at he) (fun i e c l he => by simp [em] at he), ⟨Nat.zero_le _, by simp⟩⟩
  · injection hcs with h1
    injection h1 with h1 h2 h3
    subst h1 h2 h3
    have hlz : len ≤ zs.length := by rw [hz]; split <;> omega
    have htl : (zs.take len).length = len := by simp; omega
    refine ⟨zs.take len, ?_, ⟨by omega, fun n hn => hw n (List.mem_of_mem_take hn)⟩⟩
    obtain ⟨b, o, s⟩ := ad
    by_cases h0 : 0 < len
    · have hc0 := hcell 0 (by omega)
      have hs : s = none := by
        have e0 : (⟨b, o, s⟩ : Addr).add 0 = ⟨b, o, s⟩ := by simp [Addr.add]
        rw [e0] at hc0
        exact World.cell?_spot hc0
      subst hs
      have hb : b < w.heap.size := by
        rw [add_plain] at hc0
        simp only [World.cell?] at hc0
        cases hq : w.heap[b]? with
        | none => rw [hq] at hc0; simp at hc0
        | some u => exact (Array.getElem?_eq_some_iff.1 hq).1
      refine .sl (blk := b) (off := o) (sz := 1) (fun i _ => .int .i64 (zs.getD i 0)) (by rw [em_len, htl]) hl (fun _ => ⟨rfl, hb⟩) (fun e he => by obtain ⟨n, -, rfl⟩ := List.mem_map.1 he; rfl) (fun i e c l he hq => ?_) fun i e c l he hq => ?_
      · have hi : i < len := by have := (List.getElem?_eq_some_iff.1 he).1; rw [em_len, htl] at this; exact this
        rw [em_get (by rw [htl]; exact hi)] at he
        injection he with he
        subst he
        have hc1 : c = 0 := by have := (List.getElem?_eq_some_iff.1 hq).1; simp [ni] at this; exact this
        subst hc1
        have := hcell i (by omega)
        rw [add_plain] at this
        simpa using this
      · have hi : i < len := by have := (List.getElem?_eq_some_iff.1 he).1; rw [em_len, htl] at this; exact this
        rw [em_get (by rw [htl]; exact hi)] at he
        injection he with he
        subst he
        have hc1 : c = 0 := by have := (List.getElem?_eq_some_iff.1 hq).1; simp [ni] at this; exact this
        subst hc1
        simp only [ni, List.getElem?_cons_zero, Option.some.injEq] at hq
        subst hq
        have : (zs.take len).getD i default = zs.getD i 0 := by
          simp [List.getElem?_take, hi]
        rw [this]
        exact .int _ _
    · have hl0 : len = 0 := by omega
      subst hl0
      exact .sl (blk := 0) (off := 0) (sz := 1) (fun _ _ => .int .i64 0) (by simp [em]) hl (fun h => absurd h (by omega)) (fun e he => by simp [em] at he) (fun i e c l he => by simp [em] at he) (fun i e c l he => by simp [em] at he)
end Go.Proofs.Ytffnlhjdlhpmjaa.Mv

/- Numbers drawn out of a law's arguments. -/
set_option linter.unusedVariables false
set_option linter.unusedSimpArgs false
namespace Go.Proofs.Ytffnlhjdlhpmjaa.Mv
open Go.IntWalk

theorem wadd_in (a b : Int) : In (wadd a b) := by
  unfold wadd In
  rw [IntKind.wrap_i64]
  omega
theorem Ints.at {z : List Int} (h : Ints z) (i : Nat) : In (z.getD i default) := by
  by_cases hi : i < z.length
  · have := h.num _ (getD_mem_or hi)
    simp only [Lit.wf, Bool.and_eq_true, decide_eq_true_eq] at this
    exact this
  · rw [List.getD_eq_getElem?_getD, List.getElem?_eq_none (by omega)]
    unfold In
    decide
/-- The k-th number that a law's list stands for. -/
def num (z : List Int) (k : Int) : Int :=
  if z.length = 0 then k * 7 else wadd ((z.getD (k.tmod z.length).toNat default).tdiv (1 + k.tdiv z.length)) (k.tdiv z.length)
theorem num_in (z : List Int) {k : Int} (h0 : 0 ≤ k) (h1 : k < 1000000) : In (num z k) := by
  unfold num
  split
  · unfold In
    omega
  · exact wadd_in _ _
theorem within_in {a n : Int} (h : 1 ≤ n) : 0 ≤ within a n ∧ within a n < n := by
  unfold within
  rw [if_neg (by omega)]
  exact ⟨Int.emod_nonneg _ (by omega), Int.emod_lt_of_pos _ (by omega)⟩
theorem bne_true {a b : Int} (h : (a != b) = true) : a ≠ b := by simpa using h
theorem bne_false {a b : Int} (h : (a != b) = false) : a = b := by simpa using h
end Go.Proofs.Ytffnlhjdlhpmjaa.Mv

/- Stores into slices of this call's own; the instance that a law plays with. -/
set_option linter.unusedVariables false
set_option linter.unusedSimpArgs false
namespace Go.Proofs.Ytffnlhjdlhpmjaa.Mv
theorem em_set {α : Type} (f : α → List LV) (l : List α) (j : Nat) (v : α) : (em f l).set j (f v) = em f (l.set j v) := by simp [em, List.map_set]
theorem em_replicate {α : Type} (f : α → List LV) (n : Nat) (a : α) : em f (List.replicate n a) = List.replicate n (f a) := by simp [em]
section
variable {P : Program} {I : InlP} {nb : Nat} {Q : Ex → St → Prop} {ops : Array Oper} {K : St → Prop} {r : List Oper} {ts : Slots} {m : Mem} {t : Nat} {ty : TypeId} {pos : String} {af : Array Edge} {d : Bool} {i : Nat} {acc : List (Nat × List Nat × List Nat)}
theorem GL.storeS (hI : InlM I) {e : TypeId} {a y : Operand} {b g j c n : Nat} {x : Box} {cs vs cs' : List LV} {es' : List (List LV)} (hs : szT P e = some n) (ha : evalO ts a = .ref b g j c) (hm : m b = some x) (hg : x.gen = g) (hf : x.frz = false) (hk : x.kind = .slc)
    (he : x.es[j]? = some cs) (hy : cellsL (evalO ts y) = vs) (hp : vs.all pureL = true) (hl : vs.length = n) (h1 : vs.all oneC = true) (hc : c + n ≤ cs.length) (hn : cs.take c ++ vs ++ cs.drop (c + n) = cs') (hn' : x.es.set j cs' = es')
    (k : GL P I nb ops K d r (i + 1) ((i, [b], [b]) :: acc) ⟨ts, updM m b ⟨g, false, .slc, x.sz, es'⟩⟩) : GL P I nb ops K d (⟨none, .store e a y, ty, pos, af, none⟩ :: r) i acc ⟨ts, m⟩ := by
  refine .stepN hI (eff := [_]) (R := [b]) (.storeP (T := []) ha hm hg hf hk he hs (by rw [hy]; exact Frz.pures hp) (by simp) hl h1 hc) (by simp [hf]) ?_
  rw [hn, hn']
  simp only [effM, Wn, List.map]
  rw [hg, hf, hk]
  exact k
theorem GL.negR (hI : InlM I) {xt : TypeId} {x : Operand} {a : Int} (hx : evalO ts x = .int .i64 a) (h : -9223372036854775807 ≤ a ∧ a ≤ 9223372036854775807) (k : GL P I nb ops K d r (i + 1) ((i, [], []) :: acc) ⟨updS ts t (.int .i64 (-a)), m⟩) :
    GL P I nb ops K d (⟨some t, .unOp .neg xt x, ty, pos, af, none⟩ :: r) i acc ⟨ts, m⟩ :=
  .un hI (v := .int .i64 (-a)) (by rw [hx]; show some (LV.int .i64 (IntKind.i64.wrap (0 - a))) = _; rw [Go.IntWalk.i64_in _ (by omega)]; congr 2; omega) k
theorem GL.conv (hI : InlM I) {s e : TypeId} {x : Operand} {v : LV} (h : convL P s e (evalO ts x) = some v) (hs : (P.underlying s).isSome = true) (k : GL P I nb ops K d r (i + 1) ((i, [], []) :: acc) ⟨updS ts t v, m⟩) :
    GL P I nb ops K d (⟨some t, .convert s e x, ty, pos, af, none⟩ :: r) i acc ⟨ts, m⟩ := .stepP hI (.conv h hs) k
theorem GL.makeSlice (hI : InlM I) {tt e : TypeId} {ln cp : Operand} {n : Int} {j : Nat} {z : List LV} {sz : Nat} (ht : sliceE P tt = some e) (hz : zeroL P e = some z) (hs : szT P e = some sz) (hzl : z.length = sz) (h0 : 0 < sz) (hn : evalO ts ln = .int .i64 n) (hc : evalO ts cp = .int .i64 n) (h1 : 0 ≤ n) (h2 : n ≤ 4294967296) (hb : P.bytesOf e ≤ 4096) (hj : n.toNat = j)
    (k : ∀ g, GL P I nb ops K d r (i + 1) ((i, [nb + 64 * t], [nb + 64 * t]) :: acc) ⟨updS ts t (.own (nb + 64 * t) g 0 j none), updM m (nb + 64 * t) ⟨g, false, .slc, sz, List.replicate j (z.map pureC)⟩⟩) :
    GL P I nb ops K d (⟨some t, .makeSlice tt ln cp, ty, pos, af, none⟩ :: r) i acc ⟨ts, m⟩ := by
  subst hj hzl
  exact .step hI (.makeSlice ht hz hs h0 hn hc h1 (Int.le_refl n) h2 hb) (by simp) (k _)
end

/-! ### The instance -/
def carOf (z : List Int) (k : Int) : Car :=
  ⟨[20, 60, 9, 30].getD (within (num z (1 + k)) 4).toNat default, within ((num z (1 + k)).tdiv 4) 9, [1000, 200, 90, 60].getD (within ((num z (1 + k)).tdiv 36) 4).toNat default⟩
def imin (x y : Int) : Int := if y < x then y else x
def stopOf (z : List Int) (k : Int) : Stop :=
  ⟨if within (num z (5 + k)) 9 = 8 then -1 - within ((num z (5 + k)).tdiv 9) 4 else within (num z (5 + k)) 8, within ((num z (5 + k)).tdiv 8) 30,
    imin (within ((num z (5 + k)).tdiv 8) 30 + [900, 60, 25, 8].getD (within ((num z (5 + k)).tdiv 7) 4).toNat default) 1000, within ((num z (5 + k)).tdiv 240) 6⟩
def nCars (z : List Int) : Nat := (1 + within (num z 0) 3).toNat
def nStops (z : List Int) : Nat := (2 + within (num z 4) 7).toNat
def cars (z : List Int) (n : Nat) : List Car := (List.range n).map fun k : Nat => carOf z (k : Int)
def stops0 (z : List Int) (n : Nat) : List Stop := (List.range n).map fun k : Nat => stopOf z (k : Int)
theorem cars_succ (z : List Int) (n : Nat) : cars z (n + 1) = cars z n ++ [carOf z n] := by simp [cars, List.range_succ]
theorem stops0_succ (z : List Int) (n : Nat) : stops0 z (n + 1) = stops0 z n ++ [stopOf z n] := by simp [stops0, List.range_succ]
theorem cars_len (z : List Int) (n : Nat) : (cars z n).length = n := by simp [cars]
theorem stops0_len (z : List Int) (n : Nat) : (stops0 z n).length = n := by simp [stops0]
/-- The k-th pair: which stop is picked up at, which is delivered to. -/
def pairOf (z : List Int) (k : Int) : Two := if within (num z (15 + k)) 2 = 1 then ⟨2 * k + 2, 2 * k + 1⟩ else ⟨2 * k + 1, 2 * k + 2⟩
def pairQ (z : List Int) (k : Int) : Int := within (num z (16 + k)) 9
def nPairs (z : List Int) : Nat := min (within (num z 14) 3).toNat (nStops z / 2)
def setQ (l : List Stop) (j : Nat) (q : Int) : List Stop := l.set j { l.getD j default with s0 := q }
def pairStep (z : List Int) (l : List Stop) (k : Int) : List Stop := setQ (setQ l ((pairOf z k).p0 - 1).toNat (pairQ z k)) ((pairOf z k).p1 - 1).toNat (-(pairQ z k))
def stopsK (z : List Int) (l : List Stop) : Nat → List Stop
  | 0 => l
  | k + 1 => pairStep z (stopsK z l k) k
def pairsK (z : List Int) (n : Nat) : List Two := (List.range n).map fun k : Nat => pairOf z (k : Int)
theorem pairsK_succ (z : List Int) (n : Nat) : pairsK z (n + 1) = pairsK z n ++ [pairOf z n] := by simp [pairsK, List.range_succ]
theorem setQ_len (l : List Stop) (j : Nat) (q : Int) : (setQ l j q).length = l.length := by simp [setQ]
theorem stopsK_len (z : List Int) (l : List Stop) : ∀ k, (stopsK z l k).length = l.length
  | 0 => rfl
  | k + 1 => by simp [stopsK, pairStep, setQ_len, stopsK_len z l k]
def wayOf (z : List Int) (x y : Int) : Int := if x = y then 0 else 1 + within (num z (20 + 3 * x + 5 * y)) 14
def wayRow (z : List Int) (x : Int) (n : Nat) : List Int := (List.range n).map fun y : Nat => wayOf z x (y : Int)
def ways (z : List Int) (m n : Nat) : List (List Int) := (List.range n).map fun x : Nat => wayRow z (x : Int) m
theorem wayRow_succ (z : List Int) (x : Int) (n : Nat) : wayRow z x (n + 1) = wayRow z x n ++ [wayOf z x n] := by simp [wayRow, List.range_succ]
theorem ways_succ (z : List Int) (m n : Nat) : ways z m (n + 1) = ways z m n ++ [wayRow z n m] := by simp [ways, List.range_succ]
def instOf (z : List Int) : Inst := ⟨cars z (nCars z), stopsK z (stops0 z (nStops z)) (nPairs z), pairsK z (nPairs z), ways z (nStops z + 1) (nStops z + 1)⟩
end Go.Proofs.Ytffnlhjdlhpmjaa.Mv

/- The row of stops that a law plays with. -/
set_option linter.unusedVariables false
set_option linter.unusedSimpArgs false
namespace Go.Proofs.Ytffnlhjdlhpmjaa.Mv

def rowA (i : Inst) (w : Int) : Int := if within (w.tdiv 20) 40 = 39 then within w 20 - 2 else 1 + within w (imax i.stops.length 1)
def seen (l : List Int) (a : Int) : Bool := l.any fun x => x == a
theorem seen_take (l : List Int) (a : Int) {k : Nat} (h : k < l.length) : seen (l.take (k + 1)) a = (seen (l.take k) a || (l.getD k default == a)) := by
  unfold seen
  rw [List.take_add_one, List.any_append]
  simp [List.getElem?_eq_getElem h]
def rowStep (i : Inst) (l : List Int) (w : Int) : List Int :=
  if seen l (rowA i w) = true ∧ ¬ within (w.tdiv 7) 30 = 29 then l
  else if mate i.pairs (rowA i w) > 0 ∧ within (w.tdiv 3) 8 < 7 ∧ first i.pairs (rowA i w) = true then l ++ [rowA i w] ++ [mate i.pairs (rowA i w)]
  else l ++ [rowA i w]
def rowK (i : Inst) (z : List Int) : Nat → List Int
  | 0 => []
  | k + 1 => rowStep i (rowK i z k) (z.getD k default)
theorem rowK_len (i : Inst) (z : List Int) : ∀ k, (rowK i z k).length ≤ 2 * k
  | 0 => by simp [rowK]
  | k + 1 => by
    have := rowK_len i z k
    simp only [rowK, rowStep]
    split
    · omega
    · split <;> simp <;> omega
def rowOf (i : Inst) (z : List Int) : List Int := rowK i z (min z.length 7)
end Go.Proofs.Ytffnlhjdlhpmjaa.Mv

/- Calls that hand over a slice whole; appends of nothing, and of what is only read. -/
set_option linter.unusedVariables false
set_option linter.unusedSimpArgs false
namespace Go.Proofs.Ytffnlhjdlhpmjaa.Mv
section
variable {P : Program} {I : InlP} {nb : Nat} {Q : Ex → St → Prop} {ops : Array Oper} {K : St → Prop} {r : List Oper} {ts : Slots} {m : Mem} {t : Nat} {ty : TypeId} {pos : String} {af : Array Edge} {d : Bool} {i : Nat} {acc : List (Nat × List Nat × List Nat)}
theorem GL.callSlo (hI : InlM I) {g : Operand} {as : Array Operand} {tys : Array TypeId} {f : FuncId} {caps args : List LV} {T : List Nat} {sz n : Nat} {es : List (List LV)} (hg : evalO ts g = .fn f caps) (hf : Frz m (.agg (as.toList.map (evalO ts) ++ caps)) (.agg args) T) (hc : CallsV P f args (.slo sz es))
    (hT : unmark m (markE m T) = []) (hn : es.length = n) (k : ∀ gg, GL P I nb ops K d r (i + 1) ((i, [nb + 64 * t], T ++ [nb + 64 * t]) :: acc) ⟨updS ts t (.own (nb + 64 * t) gg 0 n none), updM m (nb + 64 * t) ⟨gg, false, .slc, sz, es⟩⟩) :
    GL P I nb ops K d (⟨some t, .call { callee := .value g, args := as, argTypes := tys }, ty, pos, af, none⟩ :: r) i acc ⟨ts, m⟩ := by
  subst hn
  have hm : effM m (markE m T) = m := by rw [effM_unmarkE T fun n x hx => .inl hx, hT]; rfl
  cases d with
  | false =>
    simp only [GL, wantedL]
    refine .call (o := ⟨some t, .call { callee := .value g, args := as, argTypes := tys }, ty, pos, af, none⟩) rfl hg hf hc fun r' hr' => ?_
    subst hr'
    refine ⟨rfl, ?_⟩
    simp only [nameO, Option.getD_some, hm]
    exact GL.accI hI (k _)
  | true =>
    simp only [GL, wantedL]
    refine ⟨_, .call (o := ⟨some t, .call { callee := .value g, args := as, argTypes := tys }, ty, pos, af, none⟩) rfl hg hf hc rfl, ?_⟩
    simp only [nameO, Option.getD_some, hm, hT]
    exact k _
/-- As 'call0', and more is known to be read only behind it; 'W': what was marked anew. -/
theorem GL.callMW (hI : InlM I) {g : Operand} {as : Array Operand} {tys : Array TypeId} {f : FuncId} {caps args : List LV} {T W : List Nat} {res : LV} {e : List (Nat × Box)} (hg : evalO ts g = .fn f caps) (hf : Frz m (.agg (as.toList.map (evalO ts) ++ caps)) (.agg args) T) (hc : CallsV P f args res)
    (he : unmark m (markE m T) = e) (hW : Wn e = W) (ht : topI res = true) (hr : ∀ m, impT m (nb + 64 * t) res = (res, [])) (k : GL P I nb ops K d r (i + 1) ((i, W, T) :: acc) ⟨updS ts t res, effM m e⟩) :
    GL P I nb ops K d (⟨some t, .call { callee := .value g, args := as, argTypes := tys }, ty, pos, af, none⟩ :: r) i acc ⟨ts, m⟩ := by
  have hm : effM m (markE m T) = effM m e := by rw [effM_unmarkE T fun n x hx => .inl hx, he]
  cases d with
  | false =>
    simp only [GL, wantedL]
    refine .call (o := ⟨some t, .call { callee := .value g, args := as, argTypes := tys }, ty, pos, af, none⟩) rfl hg hf hc fun r' hr' => ?_
    subst hr'
    refine ⟨ht, ?_⟩
    simp only [nameO, Option.getD_some, hm, hr]
    exact GL.accI hI k
  | true =>
    simp only [GL, wantedL]
    refine ⟨_, .call (o := ⟨some t, .call { callee := .value g, args := as, argTypes := tys }, ty, pos, af, none⟩) rfl hg hf hc ht, ?_⟩
    simp only [nameO, Option.getD_some, hr, he, List.append_nil, Wn, List.map_nil]
    rw [show e.map (·.1) = W from hW]
    exact k
theorem GL.appendNil (hI : InlM I) {x y : Operand} {e u et : TypeId} (ht : sliceE P e = some et) (hu : u = e) (hs : (szT P et).isSome = true) (hx : evalO ts x = .nils) (hy : evalO ts y = .sl [])
    (k : GL P I nb ops K d r (i + 1) ((i, [], []) :: acc) ⟨updS ts t .nils, m⟩) : GL P I nb ops K d (⟨some t, .call { callee := .builtin .append, args := #[x, y], argTypes := #[e, u] }, ty, pos, af, none⟩ :: r) i acc ⟨ts, m⟩ := by
  have := GL.stepP (P := P) (I := I) (nb := nb) (ops := ops) (K := K) (d := d) (r := r) (ts := ts) (m := m) (t := t) (ty := ty) (pos := pos) (af := af) (i := i) (acc := acc) hI
    (.append0 (x := x) (y := y) (t := e) (u := u) (e := et) (n := 0) (R := []) (S := []) (by rw [hx]; rfl) (by simp [hx]) ht hu hs (by rw [hy]; rfl) (by simp [hy]) (by rw [hx]; exact .nils) (by rw [hy]; exact .sl))
  rw [hx] at this
  exact this k
theorem GL.appendSl (hI : InlM I) {α : Type} {f : α → List LV} {l : List α} {x y : Operand} {e u et : TypeId} {z : List LV} {sz : Nat} (hz : zeroL P et = some z) (hzl : z.length = sz) (hs : szT P et = some sz) (ht : sliceE P e = some et) (hu : u = e) (h0 : 0 < sz) (hb : P.bytesOf et ≤ 4096)
    (hx : evalO ts x = .nils) (hy : evalO ts y = .sl (em f l)) (hf : ∀ a, (f a).length = sz) (h1 : ∀ a, (f a).all oneC = true) (hpos : 0 < l.length) (hle : l.length ≤ 4294967296)
    (k : ∀ g, GL P I nb ops K d r (i + 1) ((i, [nb + 64 * t], [nb + 64 * t]) :: acc) ⟨updS ts t (.own (nb + 64 * t) g 0 l.length none), updM m (nb + 64 * t) ⟨g, false, .slc, sz, em f l⟩⟩) :
    GL P I nb ops K d (⟨some t, .call { callee := .builtin .append, args := #[x, y], argTypes := #[e, u] }, ty, pos, af, none⟩ :: r) i acc ⟨ts, m⟩ :=
  .appendN hI ht hu hz hzl hs h0 hb hx (by rw [hy]; exact .sl (em_sz hf l)) (em_len f l) hpos (em_one h1 l) hle k
end
end Go.Proofs.Ytffnlhjdlhpmjaa.Mv

/- What is known of the instance that a law plays with; sums that may wrap. -/
set_option linter.unusedVariables false
set_option linter.unusedSimpArgs false
namespace Go.Proofs.Ytffnlhjdlhpmjaa.Mv
open Go.IntWalk

theorem nCars_le (z : List Int) : 1 ≤ nCars z ∧ nCars z ≤ 3 := by
  have := within_in (a := num z 0) (n := 3) (by decide)
  unfold nCars
  omega
theorem nStops_le (z : List Int) : 2 ≤ nStops z ∧ nStops z ≤ 8 := by
  have := within_in (a := num z 4) (n := 7) (by decide)
  unfold nStops
  omega
theorem nPairs_le (z : List Int) : 2 * nPairs z ≤ nStops z ∧ nPairs z ≤ 2 := by
  have := within_in (a := num z 14) (n := 3) (by decide)
  unfold nPairs
  omega
theorem inst_cars (z : List Int) : (instOf z).cars.length = nCars z := cars_len z _
theorem inst_stops (z : List Int) : (instOf z).stops.length = nStops z := by
  show (stopsK z (stops0 z (nStops z)) (nPairs z)).length = _
  rw [stopsK_len, stops0_len]
theorem inst_pairs (z : List Int) : (instOf z).pairs.length = nPairs z := by simp [instOf, pairsK]
theorem inst_travel (z : List Int) : (instOf z).travel.length = nStops z + 1 := by simp [instOf, Mv.ways]
theorem inst_row (z : List Int) {a : Nat} (h : a < nStops z + 1) : (instOf z).travel.getD a default = wayRow z a (nStops z + 1) := by
  simp [instOf, Mv.ways, h]
theorem inst_cell (z : List Int) {a b : Nat} (ha : a < nStops z + 1) (hb : b < nStops z + 1) : ((instOf z).travel.getD a default).getD b default = wayOf z a b := by
  rw [inst_row z ha]
  simp [wayRow, hb]
theorem wayOf_in (z : List Int) (a b : Int) : 0 ≤ wayOf z a b ∧ wayOf z a b ≤ 14 := by
  have := within_in (a := num z (20 + 3 * a + 5 * b)) (n := 14) (by decide)
  unfold wayOf
  split <;> omega
theorem inst_short (z : List Int) : (instOf z).Short := by
  have h1 := nCars_le z
  have h2 := nStops_le z
  have h3 := nPairs_le z
  refine ⟨?_, ?_, ?_, ?_, ?_⟩
  · unfold Short; rw [inst_cars]; omega
  · unfold Short; rw [inst_stops]; omega
  · unfold Short; rw [inst_pairs]; omega
  · unfold Short; rw [inst_travel]; omega
  · intro r hr
    obtain ⟨x, -, rfl⟩ := List.mem_map.1 hr
    unfold Short
    simp [wayRow]
    omega
theorem way_inst (z : List Int) {a b : Int} (ha : 0 ≤ a) (hb : 0 ≤ b) (ha2 : a < (nStops z : Int) + 1) (hb2 : b < (nStops z : Int) + 1) : way (instOf z) a b = wayOf z a b := by
  have e1 : ((a.toNat : Nat) : Int) = a := Int.toNat_of_nonneg ha
  have e2 : ((b.toNat : Nat) : Int) = b := Int.toNat_of_nonneg hb
  unfold way
  rw [if_neg (by rw [inst_travel]; omega), inst_row z (by omega), if_neg (by simp [wayRow]; omega), ← inst_row z (by omega), inst_cell z (by omega) (by omega), e1, e2]

/-! ### Sums that may wrap -/
theorem wadd_eq (a b : Int) : ∃ k : Int, wadd a b = a + b + k * 18446744073709551616 := by
  unfold wadd
  rw [IntKind.wrap_i64]
  exact ⟨-((a + b + 9223372036854775808) / 18446744073709551616), by omega⟩
theorem in_unique {a b : Int} (ha : In a) (hb : In b) {k : Int} (h : a = b + k * 18446744073709551616) : a = b := by
  unfold In at ha hb
  omega
theorem wadd_small {a b : Int} (h : -9223372036854775808 ≤ a + b ∧ a + b ≤ 9223372036854775807) : wadd a b = a + b := by
  unfold wadd
  exact i64_in _ h
theorem cost_bad (i : Inst) : ∀ (l : List Int) (p s : Int), (∃ x ∈ l, isStop i x = false) → costGo i p s l = 0
  | [], _, _, h => by obtain ⟨x, hx, -⟩ := h; cases hx
  | y :: r, p, s, h => by
    simp only [costGo]
    cases hy : isStop i y with
    | false => simp
    | true =>
      simp only [if_true]
      refine cost_bad i r _ _ ?_
      obtain ⟨x, hx, hb⟩ := h
      rcases List.mem_cons.1 hx with rfl | hx
      · rw [hy] at hb
        cases hb
      · exact ⟨x, hx, hb⟩
theorem eval_cost {i : Inst} {c : Int} {l : List Int} (h : (eval i c l).isSome = true) : ((eval i c l).getD zeroT).t2 = cost i l := by
  unfold eval at h ⊢
  split
  · rename_i hc
    rw [if_pos hc] at h
    cases h
  · rename_i hc
    rw [if_neg hc] at h
    cases he : evalGo i (i.cars.getD c.toNat default) 0 (i.cars.getD c.toNat default).c1 0 [] [] l with
    | none => rw [he] at h; cases h
    | some r => rfl
end Go.Proofs.Ytffnlhjdlhpmjaa.Mv

/- An instance with square travel; the cost of one stop more. -/
set_option linter.unusedVariables false
set_option linter.unusedSimpArgs false
namespace Go.Proofs.Ytffnlhjdlhpmjaa.Mv

/-- What the laws need of the instance that they play with. -/
structure Sq (i : Inst) (N : Nat) : Prop where
  short : i.Short
  low : 2 ≤ N
  high : N ≤ 8
  cars0 : 1 ≤ i.cars.length
  cars1 : i.cars.length ≤ 3
  stops : i.stops.length = N
  travel : i.travel.length = N + 1
  row : ∀ a, a < N + 1 → (i.travel.getD a default).length = N + 1
  cell : ∀ a b, a < N + 1 → b < N + 1 → 0 ≤ (i.travel.getD a default).getD b default ∧ (i.travel.getD a default).getD b default ≤ 14
  diag : ∀ a, a < N + 1 → (i.travel.getD a default).getD a default = 0
theorem inst_sq (z : List Int) : Sq (instOf z) (nStops z) := by
  refine ⟨inst_short z, (nStops_le z).1, (nStops_le z).2, ?_, ?_, inst_stops z, inst_travel z, fun a ha => ?_, fun a b ha hb => ?_, fun a ha => ?_⟩
  · rw [inst_cars]; exact (nCars_le z).1
  · rw [inst_cars]; exact (nCars_le z).2
  · rw [inst_row z ha]; simp [wayRow]
  · rw [inst_cell z ha hb]; exact wayOf_in z a b
  · rw [inst_cell z ha ha]; simp [wayOf]
def cell (i : Inst) (a b : Int) : Int := (i.travel.getD a.toNat default).getD b.toNat default
theorem Sq.way {i : Inst} {N : Nat} (h : Sq i N) {a b : Int} (ha : 0 ≤ a) (ha2 : a ≤ N) (hb : 0 ≤ b) (hb2 : b ≤ N) : Mv.way i a b = Mv.cell i a b := by
  unfold Mv.way Mv.cell
  rw [if_neg (by rw [h.travel]; omega), if_neg (by rw [h.row _ (by omega)]; omega)]
theorem Sq.cell_in {i : Inst} {N : Nat} (h : Sq i N) {a b : Int} (ha : 0 ≤ a) (ha2 : a ≤ N) (hb : 0 ≤ b) (hb2 : b ≤ N) : 0 ≤ Mv.cell i a b ∧ Mv.cell i a b ≤ 14 :=
  h.cell _ _ (by omega) (by omega)

/-- The ways of a row, added up; and where it ends. -/
def legs (i : Inst) : Int → List Int → Int
  | _, [] => 0
  | p, x :: r => Mv.cell i p x + legs i x r
def lastOf : Int → List Int → Int
  | p, [] => p
  | _, x :: r => lastOf x r
theorem costGo_legs {i : Inst} {N : Nat} (h : Sq i N) : ∀ (l : List Int) (p s : Int), 0 ≤ p → p ≤ N → 0 ≤ s → s + 14 * l.length ≤ 1000000 → (∀ x ∈ l, isStop i x = true) →
    costGo i p s l = s + legs i p l + Mv.cell i (lastOf p l) 0
  | [], p, s, hp, hp2, hs, hb, _ => by
    have := h.cell_in hp hp2 (b := 0) (by omega) (by omega)
    simp only [costGo, legs, lastOf]
    rw [h.way hp hp2 (by omega) (by omega), wadd_small (by simp at hb; omega)]
    omega
  | x :: r, p, s, hp, hp2, hs, hb, hv => by
    have hx := hv x (by simp)
    have hx2 := isStop_le hx
    rw [h.stops] at hx2
    have hc := h.cell_in hp hp2 (b := x) (by omega) (by omega)
    simp only [List.length_cons] at hb
    simp only [costGo, legs, lastOf, hx, if_true]
    rw [h.way hp hp2 (by omega) (by omega), wadd_small (by omega), costGo_legs h r x _ (by omega) (by omega) (by omega) (by omega) fun y hy => hv y (by simp [hy])]
    omega
theorem legs_snoc (i : Inst) : ∀ (l : List Int) (p x : Int), legs i p (l ++ [x]) = legs i p l + Mv.cell i (lastOf p l) x
  | [], p, x => by simp [legs, lastOf]
  | y :: r, p, x => by
    simp only [List.cons_append, legs, lastOf, legs_snoc i r y x]
    omega
theorem lastOf_snoc : ∀ (l : List Int) (p x : Int), lastOf p (l ++ [x]) = x
  | [], _, _ => rfl
  | y :: r, _, x => lastOf_snoc r y x
theorem lastOf_get : ∀ (l : List Int) (p : Int), lastOf p l = if l.length = 0 then p else l.getD (l.length - 1) default
  | [], p => rfl
  | [y], p => rfl
  | y :: z :: r, p => by
    have := lastOf_get (z :: r) y
    simp only [lastOf] at this ⊢
    rw [this]
    simp
theorem legs_in {i : Inst} {N : Nat} (h : Sq i N) : ∀ (l : List Int) (p : Int), 0 ≤ p → p ≤ N → (∀ x ∈ l, isStop i x = true) → 0 ≤ legs i p l ∧ legs i p l ≤ 14 * l.length
  | [], p, _, _, _ => by simp [legs]
  | x :: r, p, hp, hp2, hv => by
    have hx2 := isStop_le (hv x (by simp))
    rw [h.stops] at hx2
    have hc := h.cell_in hp hp2 (b := x) (by omega) (by omega)
    have := legs_in h r x (by omega) (by omega) fun y hy => hv y (by simp [hy])
    simp only [legs, List.length_cons]
    omega
end Go.Proofs.Ytffnlhjdlhpmjaa.Mv

/- How a route is driven, in closed form; what is known of an instance's numbers. -/
set_option linter.unusedVariables false
set_option linter.unusedSimpArgs false
namespace Go.Proofs.Ytffnlhjdlhpmjaa.Mv

/-- An instance whose numbers are small. -/
structure Sb (i : Inst) (N : Nat) : Prop where
  sq : Sq i N
  car : ∀ a, a < i.cars.length → 0 ≤ (i.cars.getD a default).c0 ∧ (i.cars.getD a default).c0 ≤ 1000 ∧ 0 ≤ (i.cars.getD a default).c1 ∧ (i.cars.getD a default).c1 ≤ 1000 ∧ 0 ≤ (i.cars.getD a default).c2 ∧ (i.cars.getD a default).c2 ≤ 1000
  stop : ∀ a, a < N → -1000 ≤ (i.stops.getD a default).s0 ∧ (i.stops.getD a default).s0 ≤ 1000 ∧ 0 ≤ (i.stops.getD a default).s1 ∧ (i.stops.getD a default).s1 ≤ 2000 ∧ (i.stops.getD a default).s2 ≤ 1000 ∧ 0 ≤ (i.stops.getD a default).s3 ∧ (i.stops.getD a default).s3 ≤ 1000

theorem nth4 {Q : Int → Prop} {a b c d : Int} (h0 : Q a) (h1 : Q b) (h2 : Q c) (h3 : Q d) {j : Nat} (h : j < 4) : Q ([a, b, c, d].getD j default) :=
  match j, h with
  | 0, _ => h0
  | 1, _ => h1
  | 2, _ => h2
  | 3, _ => h3
theorem within4 (a : Int) : (within a 4).toNat < 4 := by
  have := within_in (a := a) (n := 4) (by decide)
  omega
theorem carOf_in (z : List Int) (k : Int) : 0 ≤ (carOf z k).c0 ∧ (carOf z k).c0 ≤ 1000 ∧ 0 ≤ (carOf z k).c1 ∧ (carOf z k).c1 ≤ 1000 ∧ 0 ≤ (carOf z k).c2 ∧ (carOf z k).c2 ≤ 1000 := by
  have h0 : 0 ≤ (carOf z k).c0 ∧ (carOf z k).c0 ≤ 1000 := nth4 (Q := fun n => 0 ≤ n ∧ n ≤ 1000) (by decide) (by decide) (by decide) (by decide) (within4 _)
  have h2 : 0 ≤ (carOf z k).c2 ∧ (carOf z k).c2 ≤ 1000 := nth4 (Q := fun n => 0 ≤ n ∧ n ≤ 1000) (by decide) (by decide) (by decide) (by decide) (within4 _)
  have h1 := within_in (a := (num z (1 + k)).tdiv 4) (n := 9) (by decide)
  have e1 : (carOf z k).c1 = within ((num z (1 + k)).tdiv 4) 9 := rfl
  omega
def StopIn (s : Stop) : Prop := -1000 ≤ s.s0 ∧ s.s0 ≤ 1000 ∧ 0 ≤ s.s1 ∧ s.s1 ≤ 2000 ∧ s.s2 ≤ 1000 ∧ 0 ≤ s.s3 ∧ s.s3 ≤ 1000
theorem stopOf_in (z : List Int) (k : Int) : StopIn (stopOf z k) := by
  have h1 := within_in (a := (num z (5 + k)).tdiv 9) (n := 4) (by decide)
  have h2 := within_in (a := num z (5 + k)) (n := 8) (by decide)
  have h3 := within_in (a := (num z (5 + k)).tdiv 8) (n := 30) (by decide)
  have h4 := within_in (a := (num z (5 + k)).tdiv 240) (n := 6) (by decide)
  refine ⟨?_, ?_, ?_, ?_, ?_, ?_, ?_⟩ <;> simp only [stopOf]
  · split <;> omega
  · split <;> omega
  · omega
  · omega
  · unfold imin; split <;> omega
  · omega
  · omega
theorem getD_set {α : Type} [Inhabited α] (l : List α) (j a : Nat) (v : α) (h : a < l.length) : (l.set j v).getD a default = if j = a then v else l.getD a default := by
  rw [List.getD_eq_getElem?_getD, List.getElem?_set]
  by_cases e : j = a
  · subst e; simp [h]
  · simp [e]
theorem setQ_in {l : List Stop} (h : ∀ a, a < l.length → StopIn (l.getD a default)) (j : Nat) {q : Int} (h1 : -1000 ≤ q) (h2 : q ≤ 1000) : ∀ a, a < (setQ l j q).length → StopIn ((setQ l j q).getD a default) := by
  intro a ha
  rw [setQ_len] at ha
  unfold setQ
  rw [getD_set _ _ _ _ ha]
  by_cases e : j = a
  · subst e
    rw [if_pos rfl]
    obtain ⟨-, -, h3⟩ := h j ha
    exact ⟨h1, h2, h3⟩
  · rw [if_neg e]
    exact h a ha
theorem stopsK_in {z : List Int} {l : List Stop} (h : ∀ a, a < l.length → StopIn (l.getD a default)) : ∀ k a, a < (stopsK z l k).length → StopIn ((stopsK z l k).getD a default)
  | 0 => h
  | k + 1 => by
    have hq := within_in (a := num z (16 + (k : Int))) (n := 9) (by decide)
    have e : pairQ z k = within (num z (16 + (k : Int))) 9 := rfl
    exact setQ_in (setQ_in (stopsK_in h k) _ (by omega) (by omega)) _ (by omega) (by omega)
theorem inst_sb (z : List Int) : Sb (instOf z) (nStops z) := by
  refine ⟨inst_sq z, fun a ha => ?_, fun a ha => ?_⟩
  · rw [inst_cars] at ha
    have : (instOf z).cars.getD a default = carOf z a := by simp [instOf, cars, ha]
    rw [this]
    exact carOf_in z a
  · refine stopsK_in (z := z) (fun a ha => ?_) (nPairs z) a (by rw [stopsK_len, stops0_len]; exact ha)
    rw [stops0_len] at ha
    have : (stops0 z (nStops z)).getD a default = stopOf z a := by simp [stops0, ha]
    rw [this]
    exact stopOf_in z a

/-! ### A route, driven -/
def begun (i : Inst) (p k x : Int) : Int := imax (stopAt i x).s1 (k + Mv.cell i p x)
def goes (i : Inst) (p k x : Int) : Int := begun i p k x + (stopAt i x).s3
/-- Can it be driven from p on, left at k, with o loaded? -/
def fine (i : Inst) (c : Car) : Int → Int → Int → List Int → Bool
  | p, k, _, [] => decide (k + Mv.cell i p 0 ≤ c.c2)
  | p, k, o, x :: r => decide (begun i p k x ≤ (stopAt i x).s2) && (decide (0 ≤ o + (stopAt i x).s0) && (decide (o + (stopAt i x).s0 ≤ c.c0) && fine i c x (goes i p k x) (o + (stopAt i x).s0) r))
def arr (i : Inst) : Int → Int → List Int → List Int
  | _, _, [] => []
  | p, k, x :: r => begun i p k x :: arr i x (goes i p k x) r
def lds (i : Inst) : Int → List Int → List Int
  | _, [] => []
  | o, x :: r => (o + (stopAt i x).s0) :: lds i (o + (stopAt i x).s0) r
def lv (i : Inst) : Int → Int → List Int → Int
  | _, k, [] => k
  | p, k, x :: r => lv i x (goes i p k x) r
def ld (i : Inst) : Int → List Int → Int
  | o, [] => o
  | o, x :: r => ld i (o + (stopAt i x).s0) r

theorem imax_ge (x y : Int) : x ≤ imax x y ∧ y ≤ imax x y ∧ (imax x y = x ∨ imax x y = y) := by
  unfold imax
  split <;> omega
theorem Sb.at {i : Inst} {N : Nat} (h : Sb i N) {x : Int} (hx : isStop i x = true) : StopIn (stopAt i x) := by
  have hx2 := isStop_le hx
  rw [h.sq.stops] at hx2
  exact h.stop _ (by omega)
theorem evalGo_fine {i : Inst} {N : Nat} (hb : Sb i N) {c : Car} (hc : c.c0 ≤ 1000) : ∀ (l : List Int) (p k o : Int) (ss ls : List Int), 0 ≤ p → p ≤ N → 0 ≤ k → k ≤ 3000 → 0 ≤ o → o ≤ 1000 → (∀ x ∈ l, isStop i x = true) →
    evalGo i c p k o ss ls l = if fine i c p k o l = true then some (ss ++ arr i p k l, ls ++ lds i o l, lv i p k l + Mv.cell i (lastOf p l) 0) else none
  | [], p, k, o, ss, ls, hp, hp2, hk, hk2, _, _, _ => by
    have hc := hb.sq.cell_in hp hp2 (b := 0) (by omega) (by omega)
    simp only [evalGo, fine, arr, lds, lv, lastOf, List.append_nil]
    rw [hb.sq.way hp hp2 (by omega) (by omega), wadd_small (by omega)]
    by_cases h : k + Mv.cell i p 0 ≤ c.c2
    · rw [if_neg (by omega), if_pos (by simpa using h)]
    · rw [if_pos (by omega), if_neg (by simpa using h)]
  | x :: r, p, k, o, ss, ls, hp, hp2, hk, hk2, ho, ho2, hv => by
    have hx := hv x (by simp)
    have hx2 := isStop_le hx
    rw [hb.sq.stops] at hx2
    have hw := hb.sq.cell_in hp hp2 (b := x) (by omega) (by omega)
    obtain ⟨s1, s2, s3, s4, s5, s6, s7⟩ := hb.at hx
    have hm := imax_ge (stopAt i x).s1 (k + Mv.cell i p x)
    have eB : imax (stopAt i x).s1 (k + Mv.cell i p x) = begun i p k x := rfl
    have eG : begun i p k x + (stopAt i x).s3 = goes i p k x := rfl
    rw [eB] at hm
    simp only [evalGo, fine, arr, lds, lv, lastOf]
    rw [hb.sq.way hp hp2 (by omega) (by omega), wadd_small (a := k) (by omega), wadd_small (a := o) (by omega), eB]
    by_cases h1 : begun i p k x ≤ (stopAt i x).s2
    · by_cases h2 : 0 ≤ o + (stopAt i x).s0
      · by_cases h3 : o + (stopAt i x).s0 ≤ c.c0
        · rw [if_neg (by omega), wadd_small (by omega), eG, evalGo_fine hb hc r x _ _ _ _ (by omega) (by omega) (by omega) (by omega) (by omega) (by omega) fun y hy => hv y (by simp [hy])]
          simp only [h1, h2, h3, decide_true, Bool.true_and, List.append_assoc, List.singleton_append]
        · rw [if_pos (by omega)]; simp [h3]
      · rw [if_pos (by omega)]; simp [h2]
    · rw [if_pos (by omega)]; simp [h1]
theorem arr_len (i : Inst) : ∀ (l : List Int) (p k : Int), (arr i p k l).length = l.length
  | [], _, _ => rfl
  | x :: r, p, k => by simp [arr, arr_len i r]
theorem lds_len (i : Inst) : ∀ (l : List Int) (o : Int), (lds i o l).length = l.length
  | [], _ => rfl
  | x :: r, o => by simp [lds, lds_len i r]
theorem arr_get (i : Inst) : ∀ (l : List Int) (p k : Int) (j : Nat), j < l.length → (arr i p k l).getD j default = begun i (lastOf p (l.take j)) (lv i p k (l.take j)) (l.getD j default)
  | [], _, _, _, h => absurd h (by simp)
  | x :: r, p, k, 0, _ => rfl
  | x :: r, p, k, j + 1, h => by
    have := arr_get i r x (goes i p k x) j (by simpa using h)
    simpa [arr, lastOf, lv] using this
theorem lv_take (i : Inst) : ∀ (l : List Int) (p k : Int) (j : Nat), j < l.length → lv i p k (l.take (j + 1)) = goes i (lastOf p (l.take j)) (lv i p k (l.take j)) (l.getD j default)
  | [], _, _, _, h => absurd h (by simp)
  | x :: r, p, k, 0, _ => by simp [lv, lastOf]
  | x :: r, p, k, j + 1, h => by
    have := lv_take i r x (goes i p k x) j (by simpa using h)
    simpa [lastOf, lv] using this
theorem lds_get (i : Inst) : ∀ (l : List Int) (o : Int) (j : Nat), j < l.length → (lds i o l).getD j default = ld i o (l.take (j + 1))
  | [], _, _, h => absurd h (by simp)
  | x :: r, o, 0, _ => by simp [lds, ld]
  | x :: r, o, j + 1, h => by
    have := lds_get i r (o + (stopAt i x).s0) j (by simpa using h)
    simpa [lds, ld] using this
theorem ld_take (i : Inst) : ∀ (l : List Int) (o : Int) (j : Nat), j < l.length → ld i o (l.take (j + 1)) = ld i o (l.take j) + (stopAt i (l.getD j default)).s0
  | [], _, _, h => absurd h (by simp)
  | x :: r, o, 0, _ => by simp [ld]
  | x :: r, o, j + 1, h => by
    have := ld_take i r (o + (stopAt i x).s0) j (by simpa using h)
    simpa [ld] using this
theorem legs_take (i : Inst) : ∀ (l : List Int) (p : Int) (j : Nat), j < l.length → legs i p (l.take (j + 1)) = legs i p (l.take j) + Mv.cell i (lastOf p (l.take j)) (l.getD j default)
  | [], _, _, h => absurd h (by simp)
  | x :: r, p, 0, _ => by simp [legs, lastOf]
  | x :: r, p, j + 1, h => by
    have := legs_take i r x j (by simpa using h)
    simp only [List.take_succ_cons, legs, lastOf, List.getD_cons_succ] at this ⊢
    omega
theorem fine_all (i : Inst) (c : Car) : ∀ (l : List Int) (p k o : Int), fine i c p k o l = true → (∀ j, j < l.length → begun i (lastOf p (l.take j)) (lv i p k (l.take j)) (l.getD j default) ≤ (stopAt i (l.getD j default)).s2 ∧ 0 ≤ ld i o (l.take (j + 1)) ∧ ld i o (l.take (j + 1)) ≤ c.c0) ∧
    lv i p k l + Mv.cell i (lastOf p l) 0 ≤ c.c2
  | [], p, k, o, h => ⟨fun j hj => absurd hj (by simp), by simpa [fine, lv, lastOf] using h⟩
  | x :: r, p, k, o, h => by
    simp only [fine, Bool.and_eq_true, decide_eq_true_eq] at h
    obtain ⟨h1, h2⟩ := fine_all i c r _ _ _ h.2.2.2
    refine ⟨fun j hj => ?_, h2⟩
    match j, hj with
    | 0, _ => exact ⟨h.1, h.2.1, h.2.2.1⟩
    | j + 1, hj => simpa [lastOf, lv, ld] using h1 j (by simpa using hj)
theorem fine_of (i : Inst) (c : Car) : ∀ (l : List Int) (p k o : Int), (∀ j, j < l.length → begun i (lastOf p (l.take j)) (lv i p k (l.take j)) (l.getD j default) ≤ (stopAt i (l.getD j default)).s2 ∧ 0 ≤ ld i o (l.take (j + 1)) ∧ ld i o (l.take (j + 1)) ≤ c.c0) →
    lv i p k l + Mv.cell i (lastOf p l) 0 ≤ c.c2 → fine i c p k o l = true
  | [], p, k, o, _, h => by simpa [fine, lv, lastOf] using h
  | x :: r, p, k, o, h, h2 => by
    have h0 := h 0 (by simp)
    simp only [fine, Bool.and_eq_true, decide_eq_true_eq]
    refine ⟨by simpa [lastOf, lv] using h0.1, by simpa [ld] using h0.2.1, by simpa [ld] using h0.2.2, fine_of i c r _ _ _ (fun j hj => ?_) h2⟩
    simpa [lastOf, lv, ld] using h (j + 1) (by simpa using hj)
/-- The whole of 'eval'. -/
theorem order_all {i : Inst} {l : List Int} (h : order i l = true) : ∀ x ∈ l, isStop i x = true := fun x hx => by
  obtain ⟨j, hj, rfl⟩ := List.getElem_of_mem hx
  have := order_stop h j hj
  rwa [List.getD_eq_getElem?_getD, List.getElem?_eq_getElem hj] at this
def carAt (i : Inst) (car : Int) : Car := i.cars.getD car.toNat default
theorem eval_eq {i : Inst} {N : Nat} (hb : Sb i N) {car : Int} (h0 : 0 ≤ car) (h1 : car < i.cars.length) (l : List Int) :
    eval i car l = if order i l = true ∧ fine i (carAt i car) 0 (carAt i car).c1 0 l = true then
      some ⟨arr i 0 (carAt i car).c1 l, lds i 0 l, cost i l, lv i 0 (carAt i car).c1 l + Mv.cell i (lastOf 0 l) 0⟩ else none := by
  have hc := hb.car car.toNat (by omega)
  cases ho : order i l with
  | false => rw [eval, if_pos (.inr (.inr ho)), if_neg (by simp)]
  | true =>
    rw [eval, if_neg (by rw [ho]; simp; omega), evalGo_fine hb (by omega) l 0 _ 0 [] [] (by omega) (by omega) (by omega) (by omega) (by omega) (by omega) (order_all ho)]
    show Option.map _ (if fine i (carAt i car) 0 (carAt i car).c1 0 l = true then _ else _) = _
    by_cases hf : fine i (carAt i car) 0 (carAt i car).c1 0 l = true
    · rw [if_pos hf, if_pos ⟨rfl, hf⟩]; rfl
    · rw [if_neg hf, if_neg (fun h => hf h.2)]; rfl
theorem row_short (i : Inst) (z : List Int) : (rowOf i z).length ≤ 14 := by
  have := rowK_len i z (min z.length 7)
  unfold rowOf
  omega
theorem lastOf_in {I : Inst} : ∀ (r : List Int) (p : Int), (∀ x ∈ r, isStop I x = true) → 0 ≤ p → p ≤ I.stops.length → 0 ≤ lastOf p r ∧ lastOf p r ≤ I.stops.length
  | [], _, _, h0, h1 => ⟨h0, h1⟩
  | x :: r, _, hv, _, _ => by
    have := isStop_le (hv x (by simp))
    exact lastOf_in r x (fun y hy => hv y (by simp [hy])) (by omega) (by omega)
theorem lastOf_take : ∀ (l : List Int) (p : Int) (k : Nat), k < l.length → lastOf p (l.take (k + 1)) = l.getD k default
  | [], _, _, h => absurd h (by simp)
  | x :: l, p, 0, _ => rfl
  | x :: l, p, k + 1, h => by
    have := lastOf_take l x k (by simpa using h)
    simpa [lastOf] using this
/-- The facts of a route that is driven, place by place. -/
structure Drv (I : Inst) (N : Nat) (c : Car) (r : List Int) (T : Trip) : Prop where
  len0 : T.t0.length = r.length
  len1 : T.t1.length = r.length
  at' : ∀ j, j < r.length → 1 ≤ r.getD j default ∧ r.getD j default ≤ N ∧ 0 ≤ lastOf 0 (r.take j) ∧ lastOf 0 (r.take j) ≤ N ∧ 0 ≤ lv I 0 c.c1 (r.take j) ∧ lv I 0 c.c1 (r.take j) ≤ 3000 ∧
    (I.travel.getD (lastOf 0 (r.take j)).toNat default).length = N + 1 ∧ 0 ≤ (I.travel.getD (lastOf 0 (r.take j)).toNat default).getD (r.getD j default).toNat default ∧ (I.travel.getD (lastOf 0 (r.take j)).toNat default).getD (r.getD j default).toNat default ≤ 14 ∧
    (I.stops.getD (r.getD j default - 1).toNat default).s1 ≤ T.t0.getD j default ∧ T.t0.getD j default ≤ (I.stops.getD (r.getD j default - 1).toNat default).s2 ∧
    lv I 0 c.c1 (r.take j) + (I.travel.getD (lastOf 0 (r.take j)).toNat default).getD (r.getD j default).toNat default ≤ T.t0.getD j default ∧
    (T.t0.getD j default = lv I 0 c.c1 (r.take j) + (I.travel.getD (lastOf 0 (r.take j)).toNat default).getD (r.getD j default).toNat default ∨ T.t0.getD j default = (I.stops.getD (r.getD j default - 1).toNat default).s1) ∧
    T.t1.getD j default = ld I 0 (r.take (j + 1)) ∧ ld I 0 (r.take (j + 1)) = ld I 0 (r.take j) + (I.stops.getD (r.getD j default - 1).toNat default).s0 ∧ 0 ≤ ld I 0 (r.take (j + 1)) ∧ ld I 0 (r.take (j + 1)) ≤ c.c0 ∧
    lv I 0 c.c1 (r.take (j + 1)) = T.t0.getD j default + (I.stops.getD (r.getD j default - 1).toNat default).s3 ∧ lastOf 0 (r.take (j + 1)) = r.getD j default ∧
    legs I 0 (r.take (j + 1)) = legs I 0 (r.take j) + (I.travel.getD (lastOf 0 (r.take j)).toNat default).getD (r.getD j default).toNat default ∧ 0 ≤ legs I 0 (r.take j) ∧ legs I 0 (r.take j) ≤ 100000 ∧
    0 ≤ ld I 0 (r.take j) ∧ ld I 0 (r.take j) ≤ 1000 ∧ StopIn (I.stops.getD (r.getD j default - 1).toNat default)
  home : 0 ≤ lastOf 0 r ∧ lastOf 0 r ≤ N ∧ 0 ≤ lv I 0 c.c1 r ∧ lv I 0 c.c1 r ≤ 3000 ∧ (I.travel.getD (lastOf 0 r).toNat default).length = N + 1 ∧ 0 ≤ (I.travel.getD (lastOf 0 r).toNat default).getD (Int.toNat 0) default ∧ (I.travel.getD (lastOf 0 r).toNat default).getD (Int.toNat 0) default ≤ 14 ∧
    T.t3 = lv I 0 c.c1 r + (I.travel.getD (lastOf 0 r).toNat default).getD (Int.toNat 0) default ∧ T.t3 ≤ c.c2 ∧ T.t2 = legs I 0 r + (I.travel.getD (lastOf 0 r).toNat default).getD (Int.toNat 0) default ∧ cost I r = T.t2 ∧ 0 ≤ legs I 0 r ∧ legs I 0 r ≤ 100000
theorem lv_in {I : Inst} {N : Nat} (hb : Sb I N) : ∀ (l : List Int) (p k : Int), (∀ x ∈ l, isStop I x = true) → 0 ≤ p → p ≤ N → 0 ≤ k → k ≤ 3000 → (∀ j, j < l.length → begun I (lastOf p (l.take j)) (lv I p k (l.take j)) (l.getD j default) ≤ (stopAt I (l.getD j default)).s2) → 0 ≤ lv I p k l ∧ lv I p k l ≤ 3000
  | [], _, _, _, _, _, h0, h1, _ => ⟨h0, h1⟩
  | x :: r, p, k, hv, hp, hp2, h0, h1, h => by
    have hx := hv x (by simp)
    have hx2 := isStop_le hx
    rw [hb.sq.stops] at hx2
    have hw := hb.sq.cell_in hp hp2 (b := x) (by omega) (by omega)
    obtain ⟨s1, s2, s3, s4, s5, s6, s7⟩ := hb.at hx
    have hm := imax_ge (stopAt I x).s1 (k + Mv.cell I p x)
    have hg : begun I p k x ≤ (stopAt I x).s2 := by simpa [lastOf, lv] using h 0 (by simp)
    unfold begun at hg
    refine lv_in hb r x _ (fun y hy => hv y (by simp [hy])) (by omega) (by omega) (by unfold goes begun; omega) (by unfold goes begun; omega) fun j hj => ?_
    simpa [lastOf, lv] using h (j + 1) (by simpa using hj)
theorem drv_of {I : Inst} {N : Nat} (hb : Sb I N) {car : Int} (h0 : 0 ≤ car) (h1 : car < I.cars.length) {r : List Int} (hrl : r.length ≤ 1000) {T : Trip} (h : eval I car r = some T) : Drv I N (carAt I car) r T := by
  rw [eval_eq hb h0 h1] at h
  split at h
  · rename_i hc
    injection h with h
    subst h
    obtain ⟨ho, hf⟩ := hc
    have hv := order_all ho
    obtain ⟨hj, hh⟩ := fine_all I _ r 0 _ 0 hf
    have hca := hb.car car.toNat (by omega)
    have hst := hb.sq.stops
    have hvt : ∀ j, ∀ x ∈ r.take j, isStop I x = true := fun j x hx => hv x (List.mem_of_mem_take hx)
    have hlv : ∀ j, j ≤ r.length → 0 ≤ lv I 0 (carAt I car).c1 (r.take j) ∧ lv I 0 (carAt I car).c1 (r.take j) ≤ 3000 := fun j hjl =>
      lv_in hb (r.take j) 0 _ (hvt j) (by omega) (by omega) (by unfold carAt; omega) (by unfold carAt; omega) fun q hq => by
        have hq2 : q < j ∧ q < r.length := by simp at hq; omega
        have := (hj q hq2.2).1
        rw [List.take_take, show min q j = q by omega]
        have e : (r.take j).getD q default = r.getD q default := by simp [List.getElem?_take, hq2.1]
        rw [e]
        exact this
    have hla : ∀ j, 0 ≤ lastOf 0 (r.take j) ∧ lastOf 0 (r.take j) ≤ N := fun j => by
      have := lastOf_in (r.take j) 0 (hvt j) (by omega) (by omega)
      omega
    have hlg : ∀ j, j ≤ r.length → 0 ≤ legs I 0 (r.take j) ∧ legs I 0 (r.take j) ≤ 100000 := fun j hjl => by
      have := legs_in hb.sq (r.take j) 0 (by omega) (by omega) (hvt j)
      simp at this
      omega
    have hld : ∀ j, j ≤ r.length → 0 ≤ ld I 0 (r.take j) ∧ ld I 0 (r.take j) ≤ 1000 := fun j hjl => by
      cases j with
      | zero => simp [ld]
      | succ j =>
        have := (hj j (by omega)).2
        unfold carAt at this
        omega
    have ht : r.take r.length = r := List.take_length
    refine ⟨arr_len I r _ _, lds_len I r _, fun j hjl => ?_, ?_⟩
    · have hx : isStop I (r.getD j default) = true := order_stop ho j hjl
      have hx2 := isStop_le hx
      have hl := hla j
      have hc := hb.sq.cell_in hl.1 hl.2 (b := r.getD j default) (by omega) (by omega)
      have hk := hlv j (by omega)
      have hd := hj j hjl
      have hm := imax_ge (stopAt I (r.getD j default)).s1 (lv I 0 (carAt I car).c1 (r.take j) + Mv.cell I (lastOf 0 (r.take j)) (r.getD j default))
      refine ⟨hx2.1, by omega, hl.1, hl.2, hk.1, hk.2, hb.sq.row _ (by omega), hc.1, hc.2, ?_, ?_, ?_, ?_, lds_get I r 0 j hjl, ld_take I r 0 j hjl, hd.2.1, hd.2.2, ?_, lastOf_take r 0 j hjl, legs_take I r 0 j hjl, (hlg j (by omega)).1, (hlg j (by omega)).2, (hld j (by omega)).1, (hld j (by omega)).2, hb.at hx⟩
      · rw [arr_get I r _ _ j hjl]; exact hm.1
      · rw [arr_get I r _ _ j hjl]; exact hd.1
      · rw [arr_get I r _ _ j hjl]; exact hm.2.1
      · rw [arr_get I r _ _ j hjl]; exact hm.2.2.symm
      · rw [arr_get I r _ _ j hjl, lv_take I r _ _ j hjl]; rfl
    · have hl := hla r.length
      have hk := hlv r.length (by omega)
      have hg := hlg r.length (by omega)
      rw [ht] at hl hk hg
      have hc := hb.sq.cell_in hl.1 hl.2 (b := 0) (by omega) (by omega)
      have e1 : cost I r = _ := costGo_legs hb.sq r 0 0 (by omega) (by omega) (by omega) (by omega) hv
      refine ⟨hl.1, hl.2, hk.1, hk.2, hb.sq.row _ (by omega), hc.1, hc.2, rfl, hh, ?_, rfl, hg.1, hg.2⟩
      show cost I r = _
      rw [e1]
      unfold Mv.cell
      omega
  · cases h
end Go.Proofs.Ytffnlhjdlhpmjaa.Mv

/- Maps that tell where a number stands in a list. -/
set_option linter.unusedVariables false
set_option linter.unusedSimpArgs false
namespace Go.Proofs.Ytffnlhjdlhpmjaa.Mv

/-- A map from the numbers of a list to their places, counted from c on. -/
def ents (c : Int) : List Int → List (List LV)
  | [] => []
  | x :: r => [.int .i64 x, .int .i64 c] :: ents (c + 1) r
/-- What such a map answers. -/
def look (c : Int) (l : List Int) (n : Int) : Int := if index l n < 0 then 0 else c + index l n
theorem findL_ents {P : Program} {t : TypeId} (ht : P.underlying t = some (.int .i64)) (n : Int) : ∀ (l : List Int) (c : Int), findL P t (.int .i64 n) (ents c l) = some (if index l n < 0 then none else some (.int .i64 (c + index l n)))
  | [], c => rfl
  | x :: r, c => by
    have h1 := index_ge r n
    have ei : index (x :: r) n = if n = x then 0 else if index r n < 0 then -1 else index r n + 1 := rfl
    rw [ei]
    simp only [ents, findL, eqK, eqT, ht, if_true]
    by_cases e : n = x
    · subst e
      rw [show (n == n) = true by simp]
      simp
    · rw [show (n == x) = false by simpa using e]
      show findL P t (.int .i64 n) (ents (c + 1) r) = _
      rw [findL_ents ht n r (c + 1)]
      by_cases h : index r n < 0
      · simp [e, h]
      · have : ¬ index r n + 1 < 0 := by omega
        simp only [e, h, this, if_false, show c + 1 + index r n = c + (index r n + 1) by omega]
theorem setL_ents {P : Program} {t : TypeId} (ht : P.underlying t = some (.int .i64)) (n : Int) : ∀ (l : List Int) (c v : Int), index l n < 0 → v = c + l.length → setL P t (.int .i64 n) (.int .i64 v) (ents c l) = ents c (l ++ [n])
  | [], c, v, _, h => by subst h; simp [ents, setL]
  | x :: r, c, v, h0, h => by
    have h1 := index_ge r n
    simp only [index] at h0
    have e : n ≠ x := fun e => by rw [if_pos e] at h0; omega
    rw [if_neg e] at h0
    have hr : index r n < 0 := by
      by_cases hq : index r n < 0
      · exact hq
      · rw [if_neg hq] at h0; omega
    simp only [ents, setL, eqK, eqT, ht, if_true, List.cons_append]
    rw [show (n == x) = false by simpa using e]
    show _ :: setL P t (.int .i64 n) (.int .i64 v) (ents (c + 1) r) = _
    rw [setL_ents ht n r (c + 1) v hr (by simp at h; omega)]
section
variable {P : Program} {I : InlP} {nb : Nat} {Q : Ex → St → Prop} {ops : Array Oper} {K : St → Prop} {r : List Oper} {ts : Slots} {m : Mem} {t : Nat} {ty : TypeId} {pos : String} {af : Array Edge} {d : Bool} {i : Nat} {acc : List (Nat × List Nat × List Nat)}
theorem GL.makeMap (hI : InlM I) {e : TypeId} (k : ∀ g, GL P I nb ops K d r (i + 1) ((i, [nb + 64 * t], [nb + 64 * t]) :: acc) ⟨updS ts t (.mref (nb + 64 * t) g), updM m (nb + 64 * t) ⟨g, false, .mp, 2, []⟩⟩) :
    GL P I nb ops K d (⟨some t, .makeMap e none, ty, pos, af, none⟩ :: r) i acc ⟨ts, m⟩ := .step hI .makeMap (by simp) (k _)
theorem GL.look1 (hI : InlM I) {tt kt et : TypeId} {x ix : Operand} {b g : Nat} {y : Box} {c n : Int} {l : List Int} (ht : P.underlying tt = some (.map kt et)) (hkt : P.underlying kt = some (.int .i64)) (hz : zero1L P et = some (.int .i64 0)) (hx : evalO ts x = .mref b g) (hm : m b = some y) (hg : y.gen = g) (hk : y.kind = .mp) (hq : y.sz = 2) (he : y.es = ents c l) (hn : evalO ts ix = .int .i64 n)
    (k : GL P I nb ops K d r (i + 1) ((i, [], [b]) :: acc) ⟨updS ts t (.int .i64 (look c l n)), m⟩) : GL P I nb ops K d (⟨some t, .lookup tt x ix false, ty, pos, af, none⟩ :: r) i acc ⟨ts, m⟩ := by
  have h := OpR.lookup (d := nb + 64 * t) (ok := false) (ix := ix) hx hm hg hk hq ht (by rw [hn]; simp [keyK, scalK, hkt, pureL]) hz (by rw [hn, he]; exact findL_ents hkt n l c)
  refine .stepP hI h ?_
  unfold look at k
  by_cases e : index l n < 0
  · rw [if_pos e] at k ⊢; exact k
  · rw [if_neg e] at k ⊢; exact k
theorem GL.look2 (hI : InlM I) {tt kt et : TypeId} {x ix : Operand} {b g : Nat} {y : Box} {c n : Int} {l : List Int} (ht : P.underlying tt = some (.map kt et)) (hkt : P.underlying kt = some (.int .i64)) (hz : zero1L P et = some (.int .i64 0)) (hx : evalO ts x = .mref b g) (hm : m b = some y) (hg : y.gen = g) (hk : y.kind = .mp) (hq : y.sz = 2) (he : y.es = ents c l) (hn : evalO ts ix = .int .i64 n)
    (k : GL P I nb ops K d r (i + 1) ((i, [], [b]) :: acc) ⟨updS ts t (.tup [.int .i64 (look c l n), .bool (Mv.has l n)]), m⟩) : GL P I nb ops K d (⟨some t, .lookup tt x ix true, ty, pos, af, none⟩ :: r) i acc ⟨ts, m⟩ := by
  have h := OpR.lookup (d := nb + 64 * t) (ok := true) (ix := ix) hx hm hg hk hq ht (by rw [hn]; simp [keyK, scalK, hkt, pureL]) hz (by rw [hn, he]; exact findL_ents hkt n l c)
  refine .stepP hI h ?_
  unfold look Mv.has at k
  by_cases e : index l n < 0
  · rw [if_pos e, show decide (index l n ≥ 0) = false by simp; omega] at k
    rw [if_pos e]; exact k
  · rw [if_neg e, show decide (index l n ≥ 0) = true by simp; omega] at k
    rw [if_neg e]; exact k
theorem GL.mapPut (hI : InlM I) {tt kt et : TypeId} {x ix y : Operand} {b g : Nat} {bx : Box} {c n v : Int} {l : List Int} (ht : P.underlying tt = some (.map kt et)) (hkt : P.underlying kt = some (.int .i64)) (hx : evalO ts x = .mref b g) (hm : m b = some bx) (hg : bx.gen = g) (hf : bx.frz = false) (hk : bx.kind = .mp) (hq : bx.sz = 2) (he : bx.es = ents c l) (hn : evalO ts ix = .int .i64 n) (hy : evalO ts y = .int .i64 v)
    (h0 : index l n < 0) (hv : v = c + l.length) (k : GL P I nb ops K d r (i + 1) ((i, [b], [b]) :: acc) ⟨ts, updM m b ⟨g, false, .mp, bx.sz, ents c (l ++ [n])⟩⟩) : GL P I nb ops K d (⟨none, .mapUpdate tt x ix y, ty, pos, af, none⟩ :: r) i acc ⟨ts, m⟩ := by
  have h := OpR.mapUpdate (d := nb + 64 * 4000) (ix := ix) (y := y) hx hm hg hk hq hf ht (by rw [hn]; simp [keyK, scalK, hkt, pureL]) (by rw [hn, he]; exact findL_ents hkt n l c) (.pure (by rw [hy]; rfl)) (by simp)
  refine .stepN hI h (by simp [hf, markE]) ?_
  rw [hn, hy, he, setL_ents hkt n l c v h0 hv]
  simp only [markE, List.nil_append]
  simp only [effM, Wn, List.map]
  rw [hg, hf, hk]
  exact k
end
end Go.Proofs.Ytffnlhjdlhpmjaa.Mv

/- The reference's way to say that a route's order is right; a route on its way. -/
set_option linter.unusedVariables false
set_option linter.unusedSimpArgs false
namespace Go.Proofs.Ytffnlhjdlhpmjaa.Mv

theorem index_mem : ∀ (l : List Int) (n : Int), 0 ≤ index l n ↔ n ∈ l
  | [], n => by simp [index]
  | x :: r, n => by
    have h := index_mem r n
    have h1 := index_ge r n
    have ei : index (x :: r) n = if n = x then 0 else if index r n < 0 then -1 else index r n + 1 := rfl
    rw [ei, List.mem_cons, ← h]
    by_cases e : n = x
    · simp [e]
    · rw [if_neg e]
      split <;> omega
theorem has_mem {l : List Int} {n : Int} : Mv.has l n = true ↔ n ∈ l := by
  unfold Mv.has
  rw [decide_eq_true_iff, ge_iff_le, index_mem]
theorem has_false {l : List Int} {n : Int} (h : Mv.has l n = false) : index l n < 0 := by
  unfold Mv.has at h
  simpa using h
theorem has_true {l : List Int} {n : Int} (h : Mv.has l n = true) : 0 ≤ index l n := by
  unfold Mv.has at h
  simpa using h
theorem index_get : ∀ {l : List Int} {n : Int}, 0 ≤ index l n → (index l n).toNat < l.length ∧ l.getD (index l n).toNat default = n
  | [], n, h => by simp [index] at h
  | x :: r, n, h => by
    have ei : index (x :: r) n = if n = x then 0 else if index r n < 0 then -1 else index r n + 1 := rfl
    rw [ei] at h ⊢
    by_cases e : n = x
    · simp [e]
    · rw [if_neg e] at h ⊢
      by_cases e2 : index r n < 0
      · rw [if_pos e2] at h; omega
      · rw [if_neg e2]
        have := index_get (l := r) (n := n) (by omega)
        have e3 : (index r n + 1).toNat = (index r n).toNat + 1 := by omega
        rw [e3]
        simpa using this
theorem index_at {l : List Int} {k : Nat} (hk : k < l.length) (h : Mv.has (l.take k) (l.getD k default) = false) : index l (l.getD k default) = k := by
  have hn : ¬ l.getD k default ∈ l.take k := fun hm => by rw [has_mem.2 hm] at h; cases h
  rw [index_off l _ k (by omega) fun j hj e => hn (by
    rw [e]
    have : j < (l.take k).length := by simp; omega
    have e2 : (l.take k)[j] = l.getD j default := by simp [List.getElem?_eq_getElem (show j < l.length by omega)]
    rw [← e2]
    exact List.getElem_mem this), drop_getD hk]
  simp [index]
theorem mate_mem : ∀ (ps : List Two) (n : Int), mate ps n ≠ 0 → ∃ p ∈ ps, (n = p.p0 ∧ mate ps n = p.p1) ∨ (n = p.p1 ∧ mate ps n = p.p0)
  | [], n, h => absurd rfl h
  | p :: r, n, h => by
    have em : mate (p :: r) n = if n = p.p0 then p.p1 else if n = p.p1 then p.p0 else mate r n := rfl
    rw [em] at h ⊢
    by_cases e0 : n = p.p0
    · exact ⟨p, by simp, .inl ⟨e0, if_pos e0⟩⟩
    · rw [if_neg e0] at h ⊢
      by_cases e1 : n = p.p1
      · exact ⟨p, by simp, .inr ⟨e1, if_pos e1⟩⟩
      · rw [if_neg e1] at h ⊢
        obtain ⟨q, hq, hh⟩ := mate_mem r n h
        exact ⟨q, by simp [hq], hh⟩
/-- The pairs stand apart. -/
def Sp (i : Inst) : Prop := ∀ p ∈ i.pairs, p.p0 ≠ 0 ∧ p.p1 ≠ 0 ∧ p.p0 ≠ p.p1 ∧ mate i.pairs p.p0 = p.p1 ∧ mate i.pairs p.p1 = p.p0 ∧ first i.pairs p.p0 = true ∧ first i.pairs p.p1 = false
/-- Is a pair as it must be on a route? -/
def POk (l : List Int) (p : Two) : Prop := Mv.has l p.p0 = Mv.has l p.p1 ∧ (Mv.has l p.p0 = true → index l p.p0 ≤ index l p.p1)
theorem chk_iff {i : Inst} {l : List Int} {k : Nat} {x : Int} : chk i l k x = true ↔ isStop i x = true ∧ Mv.has (l.take k) x = false ∧ (mate i.pairs x = 0 ∨ (0 ≤ index l (mate i.pairs x) ∧ (first i.pairs x = true ↔ index l (mate i.pairs x) > (k : Int)))) := by
  unfold chk
  simp only [Bool.and_eq_true, Bool.or_eq_true, Bool.not_eq_true', decide_eq_true_iff, beq_iff_eq, Int.not_lt, and_assoc]
  constructor
  · rintro ⟨h1, h2, h3⟩
    refine ⟨h1, h2, h3.imp id fun h => ⟨h.1, ?_⟩⟩
    rw [h.2, decide_eq_true_iff]
  · rintro ⟨h1, h2, h3⟩
    refine ⟨h1, h2, h3.imp id fun h => ⟨h.1, ?_⟩⟩
    rw [Bool.eq_iff_iff, decide_eq_true_iff]
    exact h.2
theorem order_pairs {i : Inst} (hp : Sp i) {l : List Int} (hv : ∀ k, k < l.length → isStop i (l.getD k default) = true) (hd : ∀ k, k < l.length → Mv.has (l.take k) (l.getD k default) = false) (h : ∀ p ∈ i.pairs, POk l p) : order i l = true := by
  refine order_true fun k hk => chk_iff.2 ⟨hv k hk, hd k hk, ?_⟩
  by_cases hm : mate i.pairs (l.getD k default) = 0
  · exact .inl hm
  · refine .inr ?_
    have hik := index_at hk (hd k hk)
    have hhas : Mv.has l (l.getD k default) = true := by unfold Mv.has; rw [hik]; simp
    obtain ⟨p, hpm, hc⟩ := mate_mem _ _ hm
    obtain ⟨p1, p2, p3, p4, p5, p6, p7⟩ := hp p hpm
    obtain ⟨q1, q2⟩ := h p hpm
    rcases hc with ⟨e1, e2⟩ | ⟨e1, e2⟩
    · rw [e1] at hik hhas ⊢
      rw [p4, p6]
      have h1 := has_true (q1 ▸ hhas)
      have h2 := q2 hhas
      have h3 := index_get h1
      have h4 := index_get (has_true hhas)
      refine ⟨h1, fun _ => ?_, fun _ => rfl⟩
      rcases Int.lt_or_eq_of_le h2 with h2 | h2
      · omega
      · rw [← h2, h4.2] at h3
        exact absurd h3.2 p3
    · rw [e1] at hik hhas ⊢
      rw [p5, p7]
      have h1 := has_true (q1.trans hhas)
      have h2 := q2 (q1.trans hhas)
      exact ⟨h1, ⟨fun hh => Bool.noConfusion hh, fun hh => by omega⟩⟩
theorem order_bad {i : Inst} {l : List Int} {k : Nat} (hk : k < l.length) (h : isStop i (l.getD k default) = false ∨ Mv.has (l.take k) (l.getD k default) = true) : order i l = false := by
  refine order_false hk ?_
  rw [← Bool.not_eq_true, chk_iff]
  rintro ⟨h1, h2, -⟩
  rcases h with h | h
  · rw [h] at h1; cases h1
  · rw [h] at h2; cases h2
theorem order_at {i : Inst} {l : List Int} (h : order i l = true) {x : Int} (hx : Mv.has l x = true) : mate i.pairs x = 0 ∨ (0 ≤ index l (mate i.pairs x) ∧ (first i.pairs x = true ↔ index l (mate i.pairs x) > index l x)) := by
  have h1 := index_get (has_true hx)
  have h0 := has_true hx
  unfold order at h
  rw [List.all_eq_true] at h
  have := chk_iff.1 (h (index l x).toNat (List.mem_range.2 h1.1))
  rw [h1.2] at this
  have e : (((index l x).toNat : Nat) : Int) = index l x := by omega
  rw [e] at this
  exact this.2.2
theorem order_pok {i : Inst} (hp : Sp i) {l : List Int} (h : order i l = true) {p : Two} (hm : p ∈ i.pairs) : POk l p := by
  obtain ⟨p1, p2, p3, p4, p5, p6, p7⟩ := hp p hm
  by_cases h0 : Mv.has l p.p0 = true
  · rcases order_at h h0 with h1 | h1
    · rw [p4] at h1; exact absurd h1 p2
    · rw [p4, p6] at h1
      have h2 := h1.2.1 rfl
      refine ⟨?_, fun _ => by omega⟩
      rw [h0]
      unfold Mv.has
      simpa using h1.1
  · refine ⟨?_, fun hh => absurd hh h0⟩
    by_cases h1 : Mv.has l p.p1 = true
    · rcases order_at h h1 with h2 | h2
      · rw [p5] at h2; exact absurd h2 p1
      · rw [p5] at h2
        refine absurd ?_ h0
        unfold Mv.has
        simpa using h2.1
    · rw [Bool.not_eq_true] at h0 h1
      rw [h0, h1]
theorem order_bad_pair {i : Inst} (hp : Sp i) {l : List Int} {p : Two} (hm : p ∈ i.pairs) (h : ¬ POk l p) : order i l = false := by
  rw [← Bool.not_eq_true]
  exact fun ho => h (order_pok hp ho hm)
theorem look_has {c : Int} {l : List Int} {n : Int} (h : Mv.has l n = true) : look c l n = c + index l n := by
  have := has_true h
  unfold look
  rw [if_neg (by omega)]
theorem pok_none {l : List Int} {p : Two} (h : (!(Mv.has l p.p0 == Mv.has l p.p1)) = false) (h0 : Mv.has l p.p0 = false) : POk l p := ⟨by simpa using h, fun hh => by rw [h0] at hh; cases hh⟩
theorem pok_both {l : List Int} {p : Two} (h : (!(Mv.has l p.p0 == Mv.has l p.p1)) = false) (h0 : Mv.has l p.p0 = true) (h1 : ¬ look 0 l p.p0 > look 0 l p.p1) : POk l p := by
  have e : Mv.has l p.p0 = Mv.has l p.p1 := by simpa using h
  rw [look_has h0, look_has (e ▸ h0)] at h1
  exact ⟨e, fun _ => by omega⟩
theorem pok_not1 {l : List Int} {p : Two} (h : (!(Mv.has l p.p0 == Mv.has l p.p1)) = true) : ¬ POk l p := fun hp => by rw [hp.1] at h; simp at h
theorem pok_not2 {l : List Int} {p : Two} (h : (!(Mv.has l p.p0 == Mv.has l p.p1)) = false) (h0 : Mv.has l p.p0 = true) (h1 : look 0 l p.p0 > look 0 l p.p1) : ¬ POk l p := fun hp => by
  have e : Mv.has l p.p0 = Mv.has l p.p1 := by simpa using h
  rw [look_has h0, look_has (e ▸ h0)] at h1
  have := hp.2 h0
  omega
theorem pairs_mem {i : Inst} {k : Nat} (h : k < i.pairs.length) : i.pairs.getD k default ∈ i.pairs := by
  rw [List.getD_eq_getElem?_getD, List.getElem?_eq_getElem h]
  exact List.getElem_mem h
theorem pairs_all {i : Inst} {Q : Two → Prop} (h : ∀ k, k < i.pairs.length → Q (i.pairs.getD k default)) : ∀ p ∈ i.pairs, Q p := fun p hp => by
  obtain ⟨k, hk, rfl⟩ := List.getElem_of_mem hp
  have := h k hk
  rwa [List.getD_eq_getElem?_getD, List.getElem?_eq_getElem hk] at this
theorem inst_sp (z : List Int) : Sp (instOf z) := by
  have h := nPairs_le z
  have e : (instOf z).pairs = pairsK z (nPairs z) := rfl
  have e0 : pairOf z 0 = ⟨2, 1⟩ ∨ pairOf z 0 = ⟨1, 2⟩ := by unfold pairOf; split <;> simp
  have e1 : pairOf z 1 = ⟨4, 3⟩ ∨ pairOf z 1 = ⟨3, 4⟩ := by unfold pairOf; split <;> simp
  unfold Sp
  rw [e]
  generalize nPairs z = n at h
  match n, h with
  | 0, _ => intro p hp; simp [pairsK] at hp
  | 1, _ =>
    have e2 : pairsK z 1 = [pairOf z 0] := rfl
    rw [e2]
    rcases e0 with e0 | e0 <;> rw [e0] <;> decide
  | 2, _ =>
    have e2 : pairsK z 2 = [pairOf z 0, pairOf z 1] := rfl
    rw [e2]
    rcases e0 with e0 | e0 <;> rcases e1 with e1 | e1 <;> rw [e0, e1] <;> decide
  | n + 3, h => omega
theorem take_snoc {α : Type} [Inhabited α] {l : List α} {k : Nat} (h : k < l.length) : l.take k ++ [l.getD k default] = l.take (k + 1) := by
  rw [List.take_add_one, List.getElem?_eq_getElem h]
  simp [List.getElem?_eq_getElem h]

/-! ### On the way -/
/-- The stop at place j can be begun, and what is loaded then may be. -/
def Fin1 (i : Inst) (c : Car) (l : List Int) (j : Nat) : Prop :=
  Mv.begun i (lastOf 0 (l.take j)) (lv i 0 c.c1 (l.take j)) (l.getD j default) ≤ (stopAt i (l.getD j default)).s2 ∧ 0 ≤ ld i 0 (l.take (j + 1)) ∧ ld i 0 (l.take (j + 1)) ≤ c.c0
structure Onway (i : Inst) (N : Nat) (c : Car) (l : List Int) (k : Nat) : Prop where
  l0 : 0 ≤ lastOf 0 (l.take k)
  l1 : lastOf 0 (l.take k) ≤ N
  v0 : 0 ≤ lv i 0 c.c1 (l.take k)
  v1 : lv i 0 c.c1 (l.take k) ≤ 3000
  d0 : 0 ≤ ld i 0 (l.take k)
  d1 : ld i 0 (l.take k) ≤ 1000
  g0 : 0 ≤ legs i 0 (l.take k)
  g1 : legs i 0 (l.take k) ≤ 100000
  row : (i.travel.getD (lastOf 0 (l.take k)).toNat default).length = N + 1
theorem run_at {i : Inst} {N : Nat} (hb : Sb i N) {c : Car} (hc : c.c0 ≤ 1000 ∧ 0 ≤ c.c1 ∧ c.c1 ≤ 1000) {l : List Int} (hl : l.length ≤ 1000) (hv : ∀ j, j < l.length → isStop i (l.getD j default) = true) {k : Nat} (hk : k ≤ l.length) (h : ∀ j, j < k → Fin1 i c l j) : Onway i N c l k := by
  have hst := hb.sq.stops
  have hvt : ∀ x ∈ l.take k, isStop i x = true := fun x hx => by
    obtain ⟨j, hj, rfl⟩ := List.getElem_of_mem (List.mem_of_mem_take hx)
    have := hv j hj
    rwa [List.getD_eq_getElem?_getD, List.getElem?_eq_getElem hj] at this
  have h1 := lastOf_in (l.take k) 0 hvt (by omega) (by omega)
  have h2 := lv_in hb (l.take k) 0 c.c1 hvt (by omega) (by omega) (by omega) (by omega) fun q hq => by
    have hq2 : q < k ∧ q < l.length := by simp at hq; omega
    have := (h q hq2.1).1
    rw [List.take_take, show min q k = q by omega]
    have e : (l.take k).getD q default = l.getD q default := by simp [List.getElem?_take, hq2.1]
    rw [e]
    exact this
  have h3 := legs_in hb.sq (l.take k) 0 (by omega) (by omega) hvt
  have h4 : 0 ≤ ld i 0 (l.take k) ∧ ld i 0 (l.take k) ≤ 1000 := by
    cases k with
    | zero => simp [ld]
    | succ k =>
      have := (h k (by omega)).2
      omega
  have h5 : (l.take k).length ≤ 1000 := by simp; omega
  exact ⟨h1.1, by omega, h2.1, h2.2, h4.1, h4.2, h3.1, by omega, hb.sq.row _ (by omega)⟩
theorem arr_snoc (i : Inst) : ∀ (l : List Int) (p k x : Int), arr i p k (l ++ [x]) = arr i p k l ++ [Mv.begun i (lastOf p l) (lv i p k l) x]
  | [], _, _, _ => rfl
  | y :: r, p, k, x => by simp [arr, lastOf, lv, arr_snoc i r]
theorem lds_snoc (i : Inst) : ∀ (l : List Int) (o x : Int), lds i o (l ++ [x]) = lds i o l ++ [ld i o l + (stopAt i x).s0]
  | [], _, _ => rfl
  | y :: r, o, x => by simp [lds, ld, lds_snoc i r]
theorem imax_comm (x y : Int) : imax x y = imax y x := by
  unfold imax
  split <;> split <;> omega
/-- A route that was driven to its end. -/
theorem eval_win {i : Inst} {N : Nat} (hb : Sb i N) {car : Int} (h0 : 0 ≤ car) (h1 : car < i.cars.length) {l : List Int} (hl : l.length ≤ 1000) (ho : order i l = true) (h : ∀ j, j < l.length → Fin1 i (carAt i car) l j) (he : ¬ lv i 0 (carAt i car).c1 l + (i.travel.getD (lastOf 0 l).toNat default).getD (Int.toNat 0) default > (carAt i car).c2) :
    eval i car l = some ⟨arr i 0 (carAt i car).c1 l, lds i 0 l, legs i 0 l + (i.travel.getD (lastOf 0 l).toNat default).getD (Int.toNat 0) default, lv i 0 (carAt i car).c1 l + (i.travel.getD (lastOf 0 l).toNat default).getD (Int.toNat 0) default⟩ := by
  have hf : fine i (carAt i car) 0 (carAt i car).c1 0 l = true := fine_of i _ l 0 _ 0 h (by unfold Mv.cell; omega)
  rw [eval_eq hb h0 h1, if_pos ⟨ho, hf⟩]
  have e1 : cost i l = _ := costGo_legs hb.sq l 0 0 (by omega) (by omega) (by omega) (by omega) (order_all ho)
  rw [e1, Int.zero_add]
  rfl
theorem eval_lose {i : Inst} {N : Nat} (hb : Sb i N) {car : Int} (h0 : 0 ≤ car) (h1 : car < i.cars.length) {l : List Int} (h : (∃ j, j < l.length ∧ ¬ Fin1 i (carAt i car) l j) ∨ lv i 0 (carAt i car).c1 l + (i.travel.getD (lastOf 0 l).toNat default).getD (Int.toNat 0) default > (carAt i car).c2) : eval i car l = none := by
  rw [eval_eq hb h0 h1, if_neg]
  rintro ⟨-, hf⟩
  obtain ⟨ha, he⟩ := fine_all i _ l 0 _ 0 hf
  rcases h with ⟨j, hj, hn⟩ | h
  · exact hn (ha j hj)
  · unfold Mv.cell at he
    omega
end Go.Proofs.Ytffnlhjdlhpmjaa.Mv

/- Results that read no memory; results that are handed over, taken as read only. -/
set_option linter.unusedVariables false
set_option linter.unusedSimpArgs false
namespace Go.Proofs.Ytffnlhjdlhpmjaa.Mv

/-- Scalars: what reads no memory at all. -/
def scaL : LV → Bool
  | .int .. => true
  | .bool _ => true
  | .str _ => true
  | .nilp => true
  | .nils => true
  | .nilm => true
  | _ => false
theorem RelF.sca {w : World} {F F' : Nat → Prop} {v : Value} {l : LV} (hl : scaL l = true) (h : RelF w F v l) : RelF w F' v l := by
  cases h with
  | int k n => exact .int k n
  | bool b => exact .bool b
  | str s => exact .str s
  | nilp => exact .nilp
  | nils => exact .nils
  | nilm => exact .nilm
  | skip => simp [scaL] at hl
  | undef => simp [scaL] at hl
  | sl => simp [scaL] at hl
  | fad => simp [scaL] at hl
  | fmap0 => simp [scaL] at hl
  | fmap => simp [scaL] at hl
  | agg => simp [scaL] at hl
  | tup => simp [scaL] at hl
  | fn => simp [scaL] at hl
theorem FlatI.sca {l : LV} (hl : scaL l = true) : FlatI l := by
  intro w F F' v O h
  cases h with
  | frz h => exact .frz (h.sca hl)
  | slo0 => simp [scaL] at hl
  | slo => simp [scaL] at hl
  | aggn => simp [scaL] at hl
  | aggc => simp [scaL] at hl
  | tup => simp [scaL] at hl
  | ptro => simp [scaL] at hl
theorem FlatI.slo {sz : Nat} {es : List (List LV)} (hl : ∀ e ∈ es, ∀ l ∈ e, scaL l = true) : FlatI (.slo sz es) := by
  intro w F F' v O h
  cases h with
  | frz h => cases h
  | slo0 => exact .slo0
  | slo h1 h2 h3 h4 h5 h6 =>
    exact .slo h1 h2 h3 h4 h5 fun i e c q he hq => let ⟨u, hu, hr⟩ := h6 i e c q he hq
      ⟨u, hu, hr.sca (hl e (List.mem_of_getElem? he) q (List.mem_of_getElem? hq))⟩
theorem FlatI.aggn : FlatI (.agg []) := by
  intro w F F' v O h
  obtain ⟨rfl, rfl⟩ := h.nil
  exact .aggn
theorem FlatI.aggc {l : LV} {ls : List LV} (h1 : FlatI l) (h2 : FlatI (.agg ls)) : FlatI (.agg (l :: ls)) := by
  intro w F F' v O h
  obtain ⟨u, us, O1, O2, rfl, rfl, q1, q2⟩ := h.uncons
  exact .aggc (h1 w F F' _ _ q1) (h2 w F F' _ _ q2)
theorem FlatI.tup {ls : List LV} (h1 : FlatI (.agg ls)) : FlatI (.tup ls) := by
  intro w F F' v O h
  cases h with
  | frz h =>
    cases h with
    | tup hn h => exact .tup (h1 w F F' _ _ (.frz (.agg hn h)))
  | tup h => exact .tup (h1 w F F' _ _ h)
theorem flat_ni (l : List Int) : ∀ e ∈ em ni l, ∀ q ∈ e, scaL q = true := by
  intro e he
  obtain ⟨a, -, rfl⟩ := List.mem_map.1 he
  simp [ni, scaL]

/-! ### Taking a result as read only -/
def fzC : LV → LV
  | .slo _ es => .sl es
  | l => l
def fzV : LV → LV
  | .agg cs => .agg (cs.map fzC)
  | l => fzC l
def fzT : LV → LV
  | .tup vs => .tup (vs.map fzV)
  | l => fzV l
def FO (F : Nat → Prop) (O : List Nat) : Nat → Prop := fun b => F b ∨ b ∈ O
theorem RelI.fzC {w : World} {F : Nat → Prop} {v : Value} {l : LV} {O : List Nat} (h : RelI w F v l O) (hc : cellI l = true) : RelF w (FO F O) v (fzC l) := by
  cases h with
  | frz h =>
    have e : Mv.fzC l = l := by cases l <;> first | rfl | cases h
    rw [e]
    exact h.mono (fun _ h => .inl h) (fun _ _ => rfl)
  | slo0 => exact .sl (blk := 0) (off := 0) (sz := 0) (fun _ _ => undef) rfl (Nat.le_refl _) (fun h => absurd h (by omega)) (by simp) (by simp) (by simp)
  | @slo blk off len cap sz es cs t h1 h2 h3 h4 h5 h6 =>
    have hv : ∀ (i : Nat) e (c : Nat) q, es[i]? = some e → e[c]? = some q → ∃ u, w.cell? ⟨blk, off + (i * sz + c), none⟩ = some u ∧ RelF w F u q := fun i e c q he hq => by
      obtain ⟨u, hu, hr⟩ := h6 i e c q he hq
      exact ⟨u, by simp only [World.cell?, h3]; exact hu, hr⟩
    refine .sl (blk := blk) (off := off) (sz := sz) (fun i c => (w.cell? ⟨blk, off + (i * sz + c), none⟩).getD undef) h1 h2 (fun _ => ⟨rfl, .inr (by simp)⟩) h5 (fun i e c q he hq => ?_) fun i e c q he hq => ?_
    · obtain ⟨u, hu, hr⟩ := hv i e c q he hq
      rw [hu]; rfl
    · obtain ⟨u, hu, hr⟩ := hv i e c q he hq
      rw [hu]
      exact hr.mono (fun _ h => .inl h) (fun _ _ => rfl)
  | aggn => cases hc
  | aggc => cases hc
  | tup => cases hc
  | ptro => cases hc
theorem RelI.fzCs {w : World} {F : Nat → Prop} : ∀ {ls : List LV} {v : Value} {O : List Nat}, RelI w F v (.agg ls) O → ls.all cellI = true → RelF w (FO F O) v (.agg (ls.map Mv.fzC))
  | [], v, O, h, _ => by
    obtain ⟨rfl, rfl⟩ := h.nil
    exact RelF.nil
  | l :: ls, v, O, h, hc => by
    simp only [List.all_cons, Bool.and_eq_true] at hc
    obtain ⟨u, us, O1, O2, rfl, rfl, q1, q2⟩ := h.uncons
    exact RelF.cons ((q1.fzC hc.1).mono (fun b hb => hb.imp id fun hb => List.mem_append_left _ hb) (fun _ _ => rfl)) ((RelI.fzCs q2 hc.2).mono (fun b hb => hb.imp id fun hb => List.mem_append_right _ hb) (fun _ _ => rfl))
theorem RelI.fzV {w : World} {F : Nat → Prop} {v : Value} {l : LV} {O : List Nat} (h : RelI w F v l O) (hc : valI l = true) : RelF w (FO F O) v (fzV l) := by
  cases l with
  | agg cs => exact h.fzCs hc
  | _ => exact h.fzC hc
theorem RelI.fzVs {w : World} {F : Nat → Prop} : ∀ {ls : List LV} {v : Value} {O : List Nat}, RelI w F v (.agg ls) O → ls.all valI = true → RelF w (FO F O) v (.agg (ls.map Mv.fzV))
  | [], v, O, h, _ => by
    obtain ⟨rfl, rfl⟩ := h.nil
    exact RelF.nil
  | l :: ls, v, O, h, hc => by
    simp only [List.all_cons, Bool.and_eq_true] at hc
    obtain ⟨u, us, O1, O2, rfl, rfl, q1, q2⟩ := h.uncons
    exact RelF.cons ((q1.fzV hc.1).mono (fun b hb => hb.imp id fun hb => List.mem_append_left _ hb) (fun _ _ => rfl)) ((RelI.fzVs q2 hc.2).mono (fun b hb => hb.imp id fun hb => List.mem_append_right _ hb) (fun _ _ => rfl))
def topF : LV → Bool
  | .tup vs => vs.all valI
  | l => valI l
theorem RelI.fzT {w : World} {F : Nat → Prop} {v : Value} {l : LV} {O : List Nat} (h : RelI w F v l O) (hc : topF l = true) : RelF w (FO F O) v (fzT l) := by
  cases l with
  | tup vs =>
    have hc' : vs.all valI = true := hc
    cases h with
    | frz h =>
      cases h with
      | tup hn h =>
        obtain ⟨cs, e1, e2, e3⟩ := (RelI.fzVs (.frz (.agg hn h)) hc').cells
        injection e1 with e1
        subst e1
        exact .tup e2 e3
    | tup h =>
      obtain ⟨cs, e1, e2, e3⟩ := (RelI.fzVs h hc').cells
      injection e1 with e1
      subst e1
      exact .tup e2 e3
  | _ => exact h.fzV hc
/-- A contract whose result is handed over is one whose result is only read. -/
theorem CallsV.freeze {P : Program} {f : FuncId} {args : List LV} {res : LV} (h : CallsV P f args res) (hc : topF res = true) : CallsV P f args (fzT res) := by
  refine ⟨h.1, fun w F vs hr hF => (h.2 w F vs hr hF).mono fun e w' he => ?_⟩
  obtain ⟨v, r, F', O, rfl, hR, q1, q2, q3, q4, q5, q6, q7⟩ := he
  subst hR
  refine ⟨v, _, FO F' O, [], rfl, rfl, q1, fun b hb => .inl (q2 b hb), fun b hb => ?_, fun b hb => ?_, .frz (q5.fzT hc), List.nodup_nil, by simp⟩
  · rcases hb with hb | hb
    · exact q3 b hb
    · exact .inr (q7 b hb).2.2
  · rcases hb with hb | hb
    · exact q4 b hb
    · exact (q7 b hb).1

section
variable {P : Program} {I : InlP} {nb : Nat} {Q : Ex → St → Prop} {ops : Array Oper} {K : St → Prop} {r : List Oper} {ts : Slots} {m : Mem} {t : Nat} {ty : TypeId} {pos : String} {af : Array Edge} {i : Nat} {acc : List (Nat × List Nat × List Nat)}
/-- A call whose result reads no memory: what was handed in may be written again behind it. -/
theorem GL.callFl (hI : InlM I) {g : Operand} {as : Array Operand} {tys : Array TypeId} {f : FuncId} {caps args : List LV} {T : List Nat} {res v : LV} {e : List (Nat × Box)} (hg : evalO ts g = .fn f caps) (hf : Frz m (.agg (as.toList.map (evalO ts) ++ caps)) (.agg args) T) (hc : CallsV P f args res)
    (hl : FlatI res) (ht : topI res = true) (hr : impT m (nb + 64 * t) res = (v, e)) (k : GL P I nb ops K false r (i + 1) acc ⟨updS ts t v, effM m e⟩) :
    GL P I nb ops K false (⟨some t, .call { callee := .value g, args := as, argTypes := tys }, ty, pos, af, none⟩ :: r) i acc ⟨ts, m⟩ := by
  simp only [GL, wantedL]
  refine .callF (o := ⟨some t, .call { callee := .value g, args := as, argTypes := tys }, ty, pos, af, none⟩) rfl hg hf hc fun r' hr' => ?_
  subst hr'
  refine ⟨hl, ht, ?_⟩
  simp only [nameO, Option.getD_some, hr]
  exact GL.accI hI k
theorem GL.callFlT {g : Operand} {as : Array Operand} {tys : Array TypeId} {f : FuncId} {caps args : List LV} {T : List Nat} {res v : LV} {e : List (Nat × Box)} (hg : evalO ts g = .fn f caps) (hf : Frz m (.agg (as.toList.map (evalO ts) ++ caps)) (.agg args) T) (hc : CallsV P f args res)
    (hl : FlatI res) (ht : topI res = true) (hr : impT m (nb + 64 * t) res = (v, e)) (k : GL P I nb ops K true r (i + 1) ((i, Wn e, T ++ Wn e) :: acc) ⟨updS ts t v, effM m e⟩) :
    GL P I nb ops K true (⟨some t, .call { callee := .value g, args := as, argTypes := tys }, ty, pos, af, none⟩ :: r) i acc ⟨ts, m⟩ := by
  simp only [GL, wantedL]
  refine ⟨_, .callF (o := ⟨some t, .call { callee := .value g, args := as, argTypes := tys }, ty, pos, af, none⟩) rfl hg hf hc hl ht, ?_⟩
  simp only [nameO, Option.getD_some, hr]
  exact k
end
end Go.Proofs.Ytffnlhjdlhpmjaa.Mv

/- Sets of stops as digits; heads and tails of routes. -/
set_option linter.unusedVariables false
set_option linter.unusedSimpArgs false
namespace Go.Proofs.Ytffnlhjdlhpmjaa.Mv

/-! ### Digits -/
def u32 (b : BitVec 32) : LV := .int .u32 (b.toNat : Int)
theorem ofInt_toNat (b : BitVec 32) : BitVec.ofInt 32 (b.toNat : Int) = b := by
  simp
theorem wrap_u32 (b : BitVec 32) : IntKind.u32.wrap (b.toNat : Int) = (b.toNat : Int) := by
  have := b.isLt
  unfold IntKind.wrap
  simp [IntKind.bits, IntKind.signed]
  omega
theorem binI_and (a b : BitVec 32) : binI .and .u32 (a.toNat : Int) (b.toNat : Int) = some (u32 (a &&& b)) := by
  show some (LV.int .u32 (IntKind.u32.wrap (BitVec.ofInt 32 _ &&& BitVec.ofInt 32 _).toNat)) = _
  rw [ofInt_toNat, ofInt_toNat, wrap_u32]; rfl
theorem binI_or (a b : BitVec 32) : binI .or .u32 (a.toNat : Int) (b.toNat : Int) = some (u32 (a ||| b)) := by
  show some (LV.int .u32 (IntKind.u32.wrap (BitVec.ofInt 32 _ ||| BitVec.ofInt 32 _).toNat)) = _
  rw [ofInt_toNat, ofInt_toNat, wrap_u32]; rfl
theorem binI_andNot (a b : BitVec 32) : binI .andNot .u32 (a.toNat : Int) (b.toNat : Int) = some (u32 (a &&& ~~~b)) := by
  show some (LV.int .u32 (IntKind.u32.wrap (BitVec.ofInt 32 _ &&& ~~~(BitVec.ofInt 32 _)).toNat)) = _
  rw [ofInt_toNat, ofInt_toNat, wrap_u32]; rfl
theorem toNat_beq (a b : BitVec 32) : ((a.toNat : Int) == (b.toNat : Int)) = decide (a = b) := by
  rw [Bool.eq_iff_iff, beq_iff_eq, decide_eq_true_iff]
  exact ⟨fun h => BitVec.eq_of_toNat_eq (by omega), fun h => by rw [h]⟩
/-- A stop's digit. -/
def digit (n : Int) : BitVec 32 := if n < 1 then 0#32 else 1#32 <<< n.toNat
theorem shl_one {P : Program} {t : TypeId} (n : Int) (h0 : 1 ≤ n) (h1 : n ≤ 1000000) : binL P .shl t (.int .u32 1) (.int .u64 (IntKind.u64.wrap n)) = some (u32 (digit n)) := by
  have e : IntKind.u64.wrap n = n := by
    unfold IntKind.wrap
    simp [IntKind.bits, IntKind.signed]
    omega
  rw [e]
  have e2 : digit n = 1#32 <<< n.toNat := if_neg (by omega)
  rw [e2]
  show (if n < 0 then none else some (LV.int .u32 (IntKind.u32.wrap (1 * 2 ^ min n.toNat 32)))) = _
  rw [if_neg (by omega)]
  have e3 : IntKind.u32.wrap (1 * 2 ^ min n.toNat 32) = (((1#32 <<< n.toNat).toNat : Nat) : Int) := by
    have e4 : ((1#32 <<< n.toNat).toNat : Nat) = 2 ^ n.toNat % 2 ^ 32 := by
      rw [BitVec.toNat_shiftLeft]; simp [Nat.shiftLeft_eq]
    rw [e4]
    have e5 : IntKind.u32.wrap (1 * 2 ^ min n.toNat 32) = (2 ^ min n.toNat 32 : Int) % 4294967296 := by
      unfold IntKind.wrap
      simp [IntKind.bits, IntKind.signed]
    rw [e5]
    by_cases h : n.toNat ≤ 32
    · rw [Nat.min_eq_left h]; simp
    · rw [Nat.min_eq_right (by omega)]
      have : 2 ^ n.toNat % 2 ^ 32 = 0 := Nat.mod_eq_zero_of_dvd (Nat.pow_dvd_pow 2 (by omega))
      rw [this]; rfl
  rw [e3]; rfl
section
variable {P : Program} {I : InlP} {nb : Nat} {Q : Ex → St → Prop} {ops : Array Oper} {K : St → Prop} {r : List Oper} {ts : Slots} {m : Mem} {t : Nat} {ty : TypeId} {pos : String} {af : Array Edge} {d : Bool} {i : Nat} {acc : List (Nat × List Nat × List Nat)}
theorem GL.andB (hI : InlM I) {xt yt : TypeId} {x y : Operand} {a b : BitVec 32} (hx : evalO ts x = u32 a) (hy : evalO ts y = u32 b) (k : GL P I nb ops K d r (i + 1) ((i, [], []) :: acc) ⟨updS ts t (u32 (a &&& b)), m⟩) :
    GL P I nb ops K d (⟨some t, .binOp .and xt x y yt, ty, pos, af, none⟩ :: r) i acc ⟨ts, m⟩ := .bin hI (by rw [hx, hy]; exact binI_and a b) k
theorem GL.orB (hI : InlM I) {xt yt : TypeId} {x y : Operand} {a b : BitVec 32} (hx : evalO ts x = u32 a) (hy : evalO ts y = u32 b) (k : GL P I nb ops K d r (i + 1) ((i, [], []) :: acc) ⟨updS ts t (u32 (a ||| b)), m⟩) :
    GL P I nb ops K d (⟨some t, .binOp .or xt x y yt, ty, pos, af, none⟩ :: r) i acc ⟨ts, m⟩ := .bin hI (by rw [hx, hy]; exact binI_or a b) k
theorem GL.andNotB (hI : InlM I) {xt yt : TypeId} {x y : Operand} {a b : BitVec 32} (hx : evalO ts x = u32 a) (hy : evalO ts y = u32 b) (k : GL P I nb ops K d r (i + 1) ((i, [], []) :: acc) ⟨updS ts t (u32 (a &&& ~~~b)), m⟩) :
    GL P I nb ops K d (⟨some t, .binOp .andNot xt x y yt, ty, pos, af, none⟩ :: r) i acc ⟨ts, m⟩ := .bin hI (by rw [hx, hy]; exact binI_andNot a b) k
theorem GL.eqlB (hI : InlM I) {xt yt : TypeId} {x y : Operand} {a b : BitVec 32} (hx : evalO ts x = u32 a) (hy : evalO ts y = u32 b) (k : GL P I nb ops K d r (i + 1) ((i, [], []) :: acc) ⟨updS ts t (.bool (decide (a = b))), m⟩) :
    GL P I nb ops K d (⟨some t, .binOp .eql xt x y yt, ty, pos, af, none⟩ :: r) i acc ⟨ts, m⟩ := .bin hI (by rw [hx, hy]; show some (LV.bool ((a.toNat : Int) == (b.toNat : Int))) = _; rw [toNat_beq]) k
theorem GL.neqB (hI : InlM I) {xt yt : TypeId} {x y : Operand} {a b : BitVec 32} (hx : evalO ts x = u32 a) (hy : evalO ts y = u32 b) (k : GL P I nb ops K d r (i + 1) ((i, [], []) :: acc) ⟨updS ts t (.bool (decide (a ≠ b))), m⟩) :
    GL P I nb ops K d (⟨some t, .binOp .neq xt x y yt, ty, pos, af, none⟩ :: r) i acc ⟨ts, m⟩ := .bin hI (by
      rw [hx, hy]
      show some (LV.bool (!((a.toNat : Int) == (b.toNat : Int)))) = _
      rw [toNat_beq]
      simp) k
end

/-! ### Heads and tails -/
structure Head where
  ok : Bool
  last : Int
  leave : Int
  load : Int
  opn : BitVec 32
  set : BitVec 32
  cost : Int
  deriving DecidableEq, Inhabited
structure Tail where
  ok : Bool
  first : Int
  late : Int
  low : Int
  high : Int
  need : BitVec 32
  set : BitVec 32
  cost : Int
  deriving DecidableEq, Inhabited
def nh (h : Head) : List LV := [.bool h.ok, .int .i64 h.last, .int .i64 h.leave, .int .i64 h.load, u32 h.opn, u32 h.set, .int .i64 h.cost]
def nl (h : Tail) : List LV := [.bool h.ok, .int .i64 h.first, .int .i64 h.late, .int .i64 h.low, .int .i64 h.high, u32 h.need, u32 h.set, .int .i64 h.cost]
def zeroH : Head := ⟨false, 0, 0, 0, 0, 0, 0⟩
def zeroTl : Tail := ⟨false, 0, 0, 0, 0, 0, 0, 0⟩
def wsub (a b : Int) : Int := IntKind.i64.wrap (a - b)
/-- Is there such a car, such a stop? -/
def isT (i : Inst) (c s : Int) : Bool := decide (c ≥ 0) && (decide (c < (i.cars.length : Int)) && (decide (s ≥ 0) && decide (s ≤ (i.stops.length : Int))))
def drive (i : Inst) (a b : Int) : Int :=
  if a < 0 ∨ a ≥ (i.travel.length : Int) ∨ b < 0 ∨ b ≥ ((i.travel.getD a.toNat default).length : Int) then 0
  else (i.travel.getD a.toNat default).getD b.toNat default
def beginT (i : Inst) (c : Int) : Head := if isT i c 0 = true then ⟨true, 0, (carAt i c).c1, 0, 0, 0, 0⟩ else zeroH
def endT (i : Inst) (c : Int) : Tail := if isT i c 0 = true then ⟨true, 0, (carAt i c).c2, 0, 0, 0, 0, 0⟩ else zeroTl
def xbeg (i : Inst) (h : Head) (s : Int) : Int := imax (stopAt i s).s1 (wadd h.leave (drive i h.last s))
def xout (i : Inst) (h : Head) (s : Int) (o : BitVec 32) : Head := ⟨true, s, wadd (xbeg i h s) (stopAt i s).s3, wadd h.load (stopAt i s).s0, o, h.set ||| digit s, wadd h.cost (drive i h.last s)⟩
def extend (i : Inst) (c : Int) (h : Head) (s : Int) : Head :=
  if h.ok = true ∧ isT i c s = true ∧ 1 ≤ s ∧ h.set &&& digit s = 0#32 then
    if xbeg i h s ≤ (stopAt i s).s2 ∧ 0 ≤ wadd h.load (stopAt i s).s0 ∧ wadd h.load (stopAt i s).s0 ≤ (carAt i c).c0 then
      if digit (mate i.pairs s) = 0#32 then xout i h s h.opn
      else if Mv.first i.pairs s = true then xout i h s (h.opn ||| digit s)
      else if h.opn &&& digit (mate i.pairs s) = 0#32 then zeroH
      else xout i h s (h.opn &&& ~~~ digit (mate i.pairs s))
    else zeroH
  else zeroH
def ylate (i : Inst) (s : Int) (t : Tail) : Int := imin (stopAt i s).s2 (wsub (wsub t.late (drive i s t.first)) (stopAt i s).s3)
def yout (i : Inst) (s : Int) (t : Tail) (o : BitVec 32) : Tail :=
  ⟨true, s, ylate i s t, imin 0 (wadd (stopAt i s).s0 t.low), imax 0 (wadd (stopAt i s).s0 t.high), o, t.set ||| digit s, wadd t.cost (drive i s t.first)⟩
def before (i : Inst) (c s : Int) (t : Tail) : Tail :=
  if t.ok = true ∧ isT i c s = true ∧ 1 ≤ s ∧ t.set &&& digit s = 0#32 then
    if (stopAt i s).s1 ≤ ylate i s t then
      if digit (mate i.pairs s) = 0#32 then yout i s t t.need
      else if Mv.first i.pairs s = false then yout i s t (t.need ||| digit (mate i.pairs s))
      else if t.need &&& digit s = 0#32 then zeroTl
      else yout i s t (t.need &&& ~~~ digit s)
    else zeroTl
  else zeroTl
def meet (i : Inst) (c : Int) (h : Head) (t : Tail) : Option Int :=
  if isT i c 0 = true ∧ h.ok = true ∧ t.ok = true ∧ h.set &&& t.set = 0#32 ∧ h.opn = t.need then
    if wadd h.leave (drive i h.last t.first) ≤ t.late ∧ 0 ≤ wadd h.load t.low ∧ wadd h.load t.high ≤ (carAt i c).c0 then some (wadd (wadd h.cost (drive i h.last t.first)) t.cost) else none
  else none
/-- The head of a list; the tail of a list. -/
def headOf (i : Inst) (c : Int) (l : List Int) : Head := l.foldl (extend i c) (beginT i c)
def tailOf (i : Inst) (c : Int) : List Int → Tail
  | [] => endT i c
  | s :: r => before i c s (tailOf i c r)
def headsK (i : Inst) (c : Int) (l : List Int) (k : Nat) : List Head := (List.range (k + 1)).map fun j => headOf i c (l.take j)
def heads (i : Inst) (c : Int) (l : List Int) : List Head := if isT i c 0 = true then headsK i c l l.length else []
/-- The tails from place a on; zeros ahead. -/
def tailsK (i : Inst) (c : Int) (l : List Int) (a : Nat) : List Tail := (List.range (l.length + 1)).map fun j => if j < a then zeroTl else tailOf i c (l.drop j)
def tails (i : Inst) (c : Int) (l : List Int) : List Tail := if isT i c 0 = true then tailsK i c l 0 else []
theorem headOf_take (i : Inst) (c : Int) {l : List Int} {k : Nat} (h : k < l.length) : headOf i c (l.take (k + 1)) = extend i c (headOf i c (l.take k)) (l.getD k default) := by
  rw [← take_snoc h]
  unfold headOf
  rw [List.foldl_append]
  rfl
theorem headsK_succ (i : Inst) (c : Int) (l : List Int) (k : Nat) : headsK i c l (k + 1) = headsK i c l k ++ [headOf i c (l.take (k + 1))] := by
  unfold headsK
  rw [List.range_succ (n := k + 1), List.map_append]
  rfl
theorem headsK_len (i : Inst) (c : Int) (l : List Int) (k : Nat) : (headsK i c l k).length = k + 1 := by simp [headsK]
theorem headsK_get (i : Inst) (c : Int) (l : List Int) {k j : Nat} (h : j ≤ k) : (headsK i c l k).getD j default = headOf i c (l.take j) := by
  simp [headsK, show j < k + 1 by omega]
theorem tailOf_drop (i : Inst) (c : Int) {l : List Int} {k : Nat} (h : k < l.length) : tailOf i c (l.drop k) = before i c (l.getD k default) (tailOf i c (l.drop (k + 1))) := by
  rw [drop_getD h]
  rfl
theorem tailsK_len (i : Inst) (c : Int) (l : List Int) (a : Nat) : (tailsK i c l a).length = l.length + 1 := by simp [tailsK]
theorem tailsK_get (i : Inst) (c : Int) (l : List Int) {a j : Nat} (h : j ≤ l.length) : (tailsK i c l a).getD j default = if j < a then zeroTl else tailOf i c (l.drop j) := by
  simp [tailsK, show j < l.length + 1 by omega]
theorem tailsK_set (i : Inst) (c : Int) (l : List Int) {a : Nat} (h : a ≤ l.length) : (tailsK i c l (a + 1)).set a (tailOf i c (l.drop a)) = tailsK i c l a := by
  refine List.ext_getElem (by simp [tailsK]) fun j h1 h2 => ?_
  have hj : j ≤ l.length := by rw [tailsK_len] at h2; omega
  rw [List.getElem_set]
  simp only [tailsK, List.getElem_map, List.getElem_range]
  by_cases e : a = j
  · subst e; simp
  · rw [if_neg e]
    by_cases e2 : j < a
    · rw [if_pos (by omega), if_pos e2]
    · rw [if_neg (by omega), if_neg e2]
theorem tailsK_zero (i : Inst) (c : Int) (l : List Int) : tailsK i c l (l.length + 1) = List.replicate (l.length + 1) zeroTl := by
  refine List.ext_getElem (by simp [tailsK]) fun j h1 h2 => ?_
  have hj : j < l.length + 1 := by simpa using h2
  simp only [tailsK, List.getElem_map, List.getElem_range, List.getElem_replicate]
  rw [if_pos hj]
/-- What the tables need of an instance. -/
structure Tb (i : Inst) : Prop where
  short : i.Short
  stops : i.stops.length ≤ 1000
  mate : ∀ n, Mv.mate i.pairs n ≤ 1000000
end Go.Proofs.Ytffnlhjdlhpmjaa.Mv

/- Fields of values; heads and tails compared. -/
set_option linter.unusedVariables false
set_option linter.unusedSimpArgs false
namespace Go.Proofs.Ytffnlhjdlhpmjaa.Mv
section
variable {P : Program} {I : InlP} {nb : Nat} {Q : Ex → St → Prop} {ops : Array Oper} {K : St → Prop} {r : List Oper} {ts : Slots} {m : Mem} {t : Nat} {ty : TypeId} {pos : String} {af : Array Edge} {d : Bool} {i : Nat} {acc : List (Nat × List Nat × List Nat)}
theorem GL.field (hI : InlM I) {e : TypeId} {x : Operand} {f o : Nat} {cs : List LV} {fs : Array Field} {fd : Field} {v : LV} (hx : evalO ts x = .agg cs) (ht : P.underlying e = some (.struct fs)) (hf : fs[f]? = some fd) (ho : fd.offset = o) (ha : isAggT P fd.type = some false) (hv : cs[o]? = some v)
    (k : GL P I nb ops K d r (i + 1) ((i, [], []) :: acc) ⟨updS ts t v, m⟩) : GL P I nb ops K d (⟨some t, .field e x f, ty, pos, af, none⟩ :: r) i acc ⟨ts, m⟩ := .stepP hI (.field hx ht hf ho ha hv) k
theorem GL.eqlA (hI : InlM I) {xt yt : TypeId} {x y : Operand} {as bs : List LV} {b : Bool} (hx : evalO ts x = .agg as) (hy : evalO ts y = .agg bs) (h : eqAgg P xt as bs = some b) (k : GL P I nb ops K d r (i + 1) ((i, [], []) :: acc) ⟨updS ts t (.bool b), m⟩) :
    GL P I nb ops K d (⟨some t, .binOp .eql xt x y yt, ty, pos, af, none⟩ :: r) i acc ⟨ts, m⟩ := .bin hI (by rw [hx, hy]; show Option.map _ (eqAgg P xt as bs) = _; rw [h]; rfl) k
theorem GL.neqA (hI : InlM I) {xt yt : TypeId} {x y : Operand} {as bs : List LV} {b : Bool} (hx : evalO ts x = .agg as) (hy : evalO ts y = .agg bs) (h : eqAgg P xt as bs = some b) (k : GL P I nb ops K d r (i + 1) ((i, [], []) :: acc) ⟨updS ts t (.bool (!b)), m⟩) :
    GL P I nb ops K d (⟨some t, .binOp .neq xt x y yt, ty, pos, af, none⟩ :: r) i acc ⟨ts, m⟩ := .bin hI (by rw [hx, hy]; show Option.map _ (eqAgg P xt as bs) = _; rw [h]; rfl) k
end
theorem beq_toNat (a b : BitVec 32) : ((a.toNat : Int) == (b.toNat : Int)) = (a == b) := by
  rw [toNat_beq, Bool.eq_iff_iff, decide_eq_true_iff, beq_iff_eq]
theorem head_dec (h g : Head) : ((h.ok == g.ok) && ((h.last == g.last) && ((h.leave == g.leave) && ((h.load == g.load) && (((h.opn.toNat : Int) == (g.opn.toNat : Int)) && (((h.set.toNat : Int) == (g.set.toNat : Int)) && ((h.cost == g.cost) && true))))))) = decide (h = g) := by
  rw [beq_toNat, beq_toNat, Bool.eq_iff_iff, decide_eq_true_iff]
  obtain ⟨h1, h2, h3, h4, h5, h6, h7⟩ := h
  obtain ⟨g1, g2, g3, g4, g5, g6, g7⟩ := g
  simp
theorem tail_dec (h g : Tail) : ((h.ok == g.ok) && ((h.first == g.first) && ((h.late == g.late) && ((h.low == g.low) && ((h.high == g.high) && (((h.need.toNat : Int) == (g.need.toNat : Int)) && (((h.set.toNat : Int) == (g.set.toNat : Int)) && ((h.cost == g.cost) && true)))))))) = decide (h = g) := by
  rw [beq_toNat, beq_toNat, Bool.eq_iff_iff, decide_eq_true_iff]
  obtain ⟨h1, h2, h3, h4, h5, h6, h7, h8⟩ := h
  obtain ⟨g1, g2, g3, g4, g5, g6, g7, g8⟩ := g
  simp
end Go.Proofs.Ytffnlhjdlhpmjaa.Mv

/- Appends of what is only read. -/
set_option linter.unusedVariables false
set_option linter.unusedSimpArgs false
namespace Go.Proofs.Ytffnlhjdlhpmjaa.Mv
section
variable {P : Program} {I : InlP} {nb : Nat} {Q : Ex → St → Prop} {ops : Array Oper} {K : St → Prop} {r : List Oper} {ts : Slots} {m : Mem} {t : Nat} {ty : TypeId} {pos : String} {af : Array Edge} {d : Bool} {i : Nat} {acc : List (Nat × List Nat × List Nat)}
/-- Nothing is appended. -/
theorem GL.appendE (hI : InlM I) {x y : Operand} {e u et : TypeId} {b g off n : Nat} {cap : Option Nat} {bx : Box} (ht : sliceE P e = some et) (hu : u = e) (hs : (szT P et).isSome = true) (hx : evalO ts x = .own b g off n cap) (hm : m b = some bx) (hg : bx.gen = g) (hy : evalO ts y = .sl [])
    (k : GL P I nb ops K d r (i + 1) ((i, [], [b]) :: acc) ⟨updS ts t (.own b g off n cap), m⟩) : GL P I nb ops K d (⟨some t, .call { callee := .builtin .append, args := #[x, y], argTypes := #[e, u] }, ty, pos, af, none⟩ :: r) i acc ⟨ts, m⟩ := by
  have := GL.stepP (P := P) (I := I) (nb := nb) (ops := ops) (K := K) (d := d) (r := r) (ts := ts) (m := m) (t := t) (ty := ty) (pos := pos) (af := af) (i := i) (acc := acc) hI
    (.append0 (x := x) (y := y) (t := e) (u := u) (e := et) (n := n) (R := [b]) (S := []) (by rw [hx]; rfl) (by simp [hx]) ht hu hs (by rw [hy]; rfl) (by simp [hy]) (by rw [hx]; exact .own hm hg) (by rw [hy]; exact .sl))
  rw [hx] at this
  exact this k
/-- Some are appended to a slice of this call's own. -/
theorem GL.appendO (hI : InlM I) {α : Type} {f : α → List LV} {l l2 : List α} {x y : Operand} {e u et : TypeId} {b g n n2 : Nat} {bx : Box} {z : List LV} {sz : Nat} (hz : zeroL P et = some z) (hzl : z.length = sz) (hs : szT P et = some sz) (ht : sliceE P e = some et) (hu : u = e) (h0 : 0 < sz) (hb : P.bytesOf et ≤ 4096)
    (hx : evalO ts x = .own b g 0 n none) (hm : m b = some bx) (hg : bx.gen = g) (hf : bx.frz = false) (hk : bx.kind = .slc) (hsz : bx.sz = sz) (he : bx.es = em f l) (hn : n = l.length)
    (hy : evalO ts y = .sl (em f l2)) (hfs : ∀ a, (f a).length = sz) (h1 : ∀ a, (f a).all oneC = true) (hn2 : l2.length = n2) (hpos : 0 < n2) (hle : n + n2 ≤ 4294967296)
    (k : GL P I nb ops K d r (i + 1) ((i, [b], [b]) :: acc) ⟨updS ts t (.own b (g + 1) 0 (n + n2) none), updM m b ⟨g + 1, false, .slc, sz, em f (l ++ l2)⟩⟩) :
    GL P I nb ops K d (⟨some t, .call { callee := .builtin .append, args := #[x, y], argTypes := #[e, u] }, ty, pos, af, none⟩ :: r) i acc ⟨ts, m⟩ := by
  subst hzl hn2
  have hl2 : (em f l2).length = l2.length := em_len f l2
  have hr := OpR.append (P := P) (d := nb + 64 * t) (ρ := evalO ts) (m := m) (x := x) (y := y) (t := e) (u := u) (e := et) (off := 0) (len := n) (es := em f l2) (z := z) (R := []) hx hm hg hf hk (by rw [he, em_len]; omega) ht hu hz hs hsz h0 (by rw [hy]; exact .sl (em_sz hfs l2)) (by simp) (by rw [hl2]; exact hpos) (em_one h1 l2) (by rw [hl2]; exact hle) hb
  refine .step hI hr (by simp [hf]) ?_
  rw [hl2, he]
  have e1 : (em f l).drop 0 ++ em f l2 = em f (l ++ l2) := by simp [em]
  rw [e1]
  simp only [effM, Wn, List.map]
  rw [hf, hk, hsz]
  exact k
end
end Go.Proofs.Ytffnlhjdlhpmjaa.Mv
