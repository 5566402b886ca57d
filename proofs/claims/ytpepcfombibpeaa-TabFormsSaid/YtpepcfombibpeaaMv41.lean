/- Fields of values; heads and tails compared. -/
import Derived.Test.YtpepcfombibpeaaMv40
set_option linter.unusedVariables false
set_option linter.unusedSimpArgs false
namespace Go.Proofs.Ytpepcfombibpeaa.Mv
section
variable {P : Program} {I : InlP} {nb : Nat} {Q : Ex → St → Prop} {ops : Array Oper} {K : St → Prop} {r : List Oper} {ts : Slots} {m : Mem} {t : Nat} {ty : TypeId} {pos : String} {af : Array Edge} {d : Bool} {i : Nat} {acc : List (Nat × List Nat × List Nat)}
theorem GL.field (hI : InlM I) {e : TypeId} {x : Operand} {f o : Nat} {cs : List LV} {fs : Array Field} {fd : Field} {v : LV} (hx : evalO ts x = .agg cs) (ht : P.underlying e = some (.struct fs)) (hf : fs[f]? = some fd) (ho : fd.offset = o) (ha : isAggT P fd.type = some false) (hv : cs[o]? = some v)
    (k : GL P I nb ops K d r (i + 1) ((i, [], []) :: acc) ⟨updS ts t v, m⟩) : GL P I nb ops K d (⟨some t, .field e x f, ty, pos, af, none⟩ :: r) i acc ⟨ts, m⟩ := .stepP hI (.field hx ht hf ho ha hv) k
theorem GL.eqlA (hI : InlM I) {xt yt : TypeId} {x y : Operand} {as bs : List LV} {b : Bool} (hx : evalO ts x = .agg as) (hy : evalO ts y = .agg bs) (h : eqAgg P xt as bs = some b) (k : GL P I nb ops K d r (i + 1) ((i, [], []) :: acc) ⟨updS ts t (.bool b), m⟩) :
    GL P I nb ops K d (⟨some t, .binOp .eql xt x y yt, ty, pos, af, none⟩ :: r) i acc ⟨ts, m⟩ := .bin hI (by rw [hx, hy]; show Option.map _ (eqAgg P xt as bs) = _; rw [h]; rfl) k
theorem GL.neqA (hI : InlM I) {xt yt : TypeId} {x y : Operand} {as bs : List LV} {b : Bool} (hx : evalO ts x = .agg as) (hy : evalO ts y = .agg bs) (h : eqAgg P xt as bs = some b) (k : GL P I nb ops K d r (i + 1) ((i, [], []) :: acc) ⟨updS ts t (.bool (!b)), m⟩) :
    GL P I nb ops K d (⟨some t, .binOp .neq xt x y yt, ty, pos, af, none⟩ :: r) i acc ⟨ts, m⟩ := .bin hI (by rw [hx, hy]; show Option.map _ (eqAgg P xt as bs) = _; rw [h]; rfl) k
end
theorem beq_toNat (a b : BitVec 32) : ((a.toNat : Int) == (b.toNat : Int)) = (a == b) := by
  rw [toNat_beq, Bool.eq_iff_iff, decide_eq_true_iff, beq_iff_eq]
theorem head_dec (h g : Head) : ((h.ok == g.ok) && ((h.last == g.last) && ((h.leave == g.leave) && ((h.load == g.load) && (((h.opn.toNat : Int) == (g.opn.toNat : Int)) && (((h.set.toNat : Int) == (g.set.toNat : Int)) && ((h.cost == g.cost) && true))))))) = decide (h = g) := by
  rw [beq_toNat, beq_toNat, Bool.eq_iff_iff, decide_eq_true_iff]
  obtain ⟨h1, h2, h3, h4, h5, h6, h7⟩ := h
  obtain ⟨g1, g2, g3, g4, g5, g6, g7⟩ := g
  simp
theorem tail_dec (h g : Tail) : ((h.ok == g.ok) && ((h.first == g.first) && ((h.late == g.late) && ((h.low == g.low) && ((h.high == g.high) && (((h.need.toNat : Int) == (g.need.toNat : Int)) && (((h.set.toNat : Int) == (g.set.toNat : Int)) && ((h.cost == g.cost) && true)))))))) = decide (h = g) := by
  rw [beq_toNat, beq_toNat, Bool.eq_iff_iff, decide_eq_true_iff]
  obtain ⟨h1, h2, h3, h4, h5, h6, h7, h8⟩ := h
  obtain ⟨g1, g2, g3, g4, g5, g6, g7, g8⟩ := g
  simp
end Go.Proofs.Ytpepcfombibpeaa.Mv
