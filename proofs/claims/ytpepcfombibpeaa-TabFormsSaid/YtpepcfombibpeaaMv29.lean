/- Stores into slices of this call's own; the instance that a law plays with. -/
import Derived.Test.YtpepcfombibpeaaMv28
set_option linter.unusedVariables false
set_option linter.unusedSimpArgs false
namespace Go.Proofs.Ytpepcfombibpeaa.Mv
theorem em_set {α : Type} (f : α → List LV) (l : List α) (j : Nat) (v : α) : (em f l).set j (f v) = em f (l.set j v) := by simp [em, List.map_set]
section
variable {P : Program} {I : InlP} {nb : Nat} {Q : Ex → St → Prop} {ops : Array Oper} {K : St → Prop} {r : List Oper} {ts : Slots} {m : Mem} {t : Nat} {ty : TypeId} {pos : String} {af : Array Edge} {d : Bool} {i : Nat} {acc : List (Nat × List Nat × List Nat)}
theorem GL.storeS (hI : InlM I) {e : TypeId} {a y : Operand} {b g j c n : Nat} {x : Box} {cs vs cs' : List LV} {es' : List (List LV)} (hs : szT P e = some n) (ha : evalO ts a = .ref b g j c) (hm : m b = some x) (hg : x.gen = g) (hf : x.frz = false) (hk : x.kind = .slc)
    (he : x.es[j]? = some cs) (hy : cellsL (evalO ts y) = vs) (hp : vs.all pureL = true) (hl : vs.length = n) (h1 : vs.all oneC = true) (hc : c + n ≤ cs.length) (hn : cs.take c ++ vs ++ cs.drop (c + n) = cs') (hn' : x.es.set j cs' = es')
    (k : GL P I nb ops K d r (i + 1) ((i, [b], [b]) :: acc) ⟨ts, updM m b ⟨g, false, .slc, x.sz, es'⟩⟩) : GL P I nb ops K d (⟨none, .store e a y, ty, pos, af, none⟩ :: r) i acc ⟨ts, m⟩ := by
  refine .stepN hI (eff := [_]) (R := [b]) (.storeP (T := []) ha hm hg hf hk he hs (by rw [hy]; exact Frz.pures hp) (by simp) hl h1 hc) (by simp [hf]) ?_
  rw [hn, hn']
  simp only [effM, Wn, List.map]
  rw [hg, hf, hk]
  exact k
theorem GL.negR (hI : InlM I) {xt : TypeId} {x : Operand} {a : Int} (hx : evalO ts x = .int .i64 a) (h : -9223372036854775807 ≤ a ∧ a ≤ 9223372036854775807) (k : GL P I nb ops K d r (i + 1) ((i, [], []) :: acc) ⟨updS ts t (.int .i64 (-a)), m⟩) :
    GL P I nb ops K d (⟨some t, .unOp .neg xt x, ty, pos, af, none⟩ :: r) i acc ⟨ts, m⟩ :=
  .un hI (v := .int .i64 (-a)) (by rw [hx]; show some (LV.int .i64 (IntKind.i64.wrap (0 - a))) = _; rw [Go.IntWalk.i64_in _ (by omega)]; congr 2; omega) k
end

/-! ### The instance -/
def carOf (z : List Int) (k : Int) : Car :=
  ⟨[20, 60, 9, 30].getD (within (num z (1 + k)) 4).toNat default, within ((num z (1 + k)).tdiv 4) 9, [1000, 200, 90, 60].getD (within ((num z (1 + k)).tdiv 36) 4).toNat default⟩
def imin (x y : Int) : Int := if y < x then y else x
def stopOf (z : List Int) (k : Int) : Stop :=
  ⟨if within (num z (5 + k)) 9 = 8 then -1 - within ((num z (5 + k)).tdiv 9) 4 else within (num z (5 + k)) 8, within ((num z (5 + k)).tdiv 8) 30,
    imin (within ((num z (5 + k)).tdiv 8) 30 + [900, 60, 25, 8].getD (within ((num z (5 + k)).tdiv 7) 4).toNat default) 1000, within ((num z (5 + k)).tdiv 240) 6⟩
def nCars (z : List Int) : Nat := (1 + within (num z 0) 3).toNat
def nStops (z : List Int) : Nat := (2 + within (num z 4) 7).toNat
def cars (z : List Int) (n : Nat) : List Car := (List.range n).map fun k : Nat => carOf z (k : Int)
def stops0 (z : List Int) (n : Nat) : List Stop := (List.range n).map fun k : Nat => stopOf z (k : Int)
theorem cars_succ (z : List Int) (n : Nat) : cars z (n + 1) = cars z n ++ [carOf z n] := by simp [cars, List.range_succ]
theorem stops0_succ (z : List Int) (n : Nat) : stops0 z (n + 1) = stops0 z n ++ [stopOf z n] := by simp [stops0, List.range_succ]
theorem cars_len (z : List Int) (n : Nat) : (cars z n).length = n := by simp [cars]
theorem stops0_len (z : List Int) (n : Nat) : (stops0 z n).length = n := by simp [stops0]
/-- The k-th pair: which stop is picked up at, which is delivered to. -/
def pairOf (z : List Int) (k : Int) : Two := if within (num z (15 + k)) 2 = 1 then ⟨2 * k + 2, 2 * k + 1⟩ else ⟨2 * k + 1, 2 * k + 2⟩
def pairQ (z : List Int) (k : Int) : Int := within (num z (16 + k)) 9
def nPairs (z : List Int) : Nat := min (within (num z 14) 3).toNat (nStops z / 2)
def setQ (l : List Stop) (j : Nat) (q : Int) : List Stop := l.set j { l.getD j default with s0 := q }
def pairStep (z : List Int) (l : List Stop) (k : Int) : List Stop := setQ (setQ l ((pairOf z k).p0 - 1).toNat (pairQ z k)) ((pairOf z k).p1 - 1).toNat (-(pairQ z k))
def stopsK (z : List Int) (l : List Stop) : Nat → List Stop
  | 0 => l
  | k + 1 => pairStep z (stopsK z l k) k
def pairsK (z : List Int) (n : Nat) : List Two := (List.range n).map fun k : Nat => pairOf z (k : Int)
theorem pairsK_succ (z : List Int) (n : Nat) : pairsK z (n + 1) = pairsK z n ++ [pairOf z n] := by simp [pairsK, List.range_succ]
theorem setQ_len (l : List Stop) (j : Nat) (q : Int) : (setQ l j q).length = l.length := by simp [setQ]
theorem stopsK_len (z : List Int) (l : List Stop) : ∀ k, (stopsK z l k).length = l.length
  | 0 => rfl
  | k + 1 => by simp [stopsK, pairStep, setQ_len, stopsK_len z l k]
def wayOf (z : List Int) (x y : Int) : Int := if x = y then 0 else 1 + within (num z (20 + 3 * x + 5 * y)) 14
def wayRow (z : List Int) (x : Int) (n : Nat) : List Int := (List.range n).map fun y : Nat => wayOf z x (y : Int)
def ways (z : List Int) (m n : Nat) : List (List Int) := (List.range n).map fun x : Nat => wayRow z (x : Int) m
theorem wayRow_succ (z : List Int) (x : Int) (n : Nat) : wayRow z x (n + 1) = wayRow z x n ++ [wayOf z x n] := by simp [wayRow, List.range_succ]
theorem ways_succ (z : List Int) (m n : Nat) : ways z m (n + 1) = ways z m n ++ [wayRow z n m] := by simp [ways, List.range_succ]
def instOf (z : List Int) : Inst := ⟨cars z (nCars z), stopsK z (stops0 z (nStops z)) (nPairs z), pairsK z (nPairs z), ways z (nStops z + 1) (nStops z + 1)⟩
end Go.Proofs.Ytpepcfombibpeaa.Mv
