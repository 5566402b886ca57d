/- What 'trip.Eval' computes. -/
import Derived.Test.YtpepcfombibpeaaMv23
set_option linter.unusedVariables false
set_option linter.unusedSimpArgs false
namespace Go.Proofs.Ytpepcfombibpeaa.Mv

structure Trip where
  t0 : List Int
  t1 : List Int
  t2 : Int
  t3 : Int
  deriving DecidableEq
def zeroT : Trip := ⟨[], [], 0, 0⟩
def nt (t : Trip) : List LV := [.sl (em ni t.t0), .sl (em ni t.t1), .int .i64 t.t2, .int .i64 t.t3]
def imax (x y : Int) : Int := if y > x then y else x
def stopAt (i : Inst) (x : Int) : Stop := i.stops.getD (x - 1).toNat default
def evalGo (i : Inst) (c : Car) (at' clock load : Int) (ss ls : List Int) : List Int → Option (List Int × List Int × Int)
  | [] => if wadd clock (way i at' 0) > c.c2 then none else some (ss, ls, wadd clock (way i at' 0))
  | x :: r =>
    if imax (stopAt i x).s1 (wadd clock (way i at' x)) > (stopAt i x).s2 ∨ wadd load (stopAt i x).s0 < 0 ∨ wadd load (stopAt i x).s0 > c.c0 then none
    else evalGo i c x (wadd (imax (stopAt i x).s1 (wadd clock (way i at' x))) (stopAt i x).s3) (wadd load (stopAt i x).s0) (ss ++ [imax (stopAt i x).s1 (wadd clock (way i at' x))]) (ls ++ [wadd load (stopAt i x).s0]) r
def eval (i : Inst) (car : Int) (l : List Int) : Option Trip :=
  if car < 0 ∨ car ≥ (i.cars.length : Int) ∨ order i l = false then none
  else (evalGo i (i.cars.getD car.toNat default) 0 (i.cars.getD car.toNat default).c1 0 [] [] l).map fun r => ⟨r.1, r.2.1, cost i l, r.2.2⟩
def tripR (o : Option Trip) : LV := .tup [.agg (nt (o.getD zeroT)), .bool o.isSome]
theorem order_stop {i : Inst} {l : List Int} (h : order i l = true) (k : Nat) (hk : k < l.length) : isStop i (l.getD k default) = true := by
  unfold order at h
  rw [List.all_eq_true] at h
  have := h k (List.mem_range.2 hk)
  unfold chk at this
  simp only [Bool.and_eq_true] at this
  exact this.1.1
theorem eval_out {i : Inst} {car : Int} {l : List Int} (h : car < 0 ∨ car ≥ (i.cars.length : Int) ∨ order i l = false) : eval i car l = none := by
  rw [eval, if_pos h]
theorem eval_in {i : Inst} {car : Int} {l : List Int} (h0 : ¬ car < 0) (h1 : ¬ car ≥ (i.cars.length : Int)) (h2 : order i l = true) {r : Option (List Int × List Int × Int)} (h : evalGo i (i.cars.getD car.toNat default) 0 (i.cars.getD car.toNat default).c1 0 [] [] l = r) :
    eval i car l = r.map fun r => ⟨r.1, r.2.1, cost i l, r.2.2⟩ := by
  rw [eval, if_neg (by rw [h2]; simp; omega), h]
theorem evalGo_len (i : Inst) (c : Car) : ∀ (l : List Int) (p k o : Int) (ss ls : List Int) {r : List Int × List Int × Int}, evalGo i c p k o ss ls l = some r → r.1.length = ss.length + l.length ∧ r.2.1.length = ls.length + l.length
  | [], p, k, o, ss, ls, r, h => by
    simp only [evalGo] at h
    split at h
    · cases h
    · cases h
      simp
  | x :: t, p, k, o, ss, ls, r, h => by
    simp only [evalGo] at h
    split at h
    · cases h
    · have := evalGo_len i c t _ _ _ _ _ h
      simp at this ⊢
      omega
theorem eval_len {i : Inst} {car : Int} {l : List Int} : ((eval i car l).getD zeroT).t0.length ≤ l.length ∧ ((eval i car l).getD zeroT).t1.length ≤ l.length := by
  unfold eval
  split
  · simp [zeroT]
  · cases h : evalGo i (i.cars.getD car.toNat default) 0 (i.cars.getD car.toNat default).c1 0 [] [] l with
    | none => simp [zeroT]
    | some r =>
      have := evalGo_len _ _ _ _ _ _ _ _ h
      simp at this ⊢
      omega
end Go.Proofs.Ytpepcfombibpeaa.Mv
