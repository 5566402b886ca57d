/- More rules: maps, lent slices, sorting; edits, in plain Lean. -/
import Derived.Test.YtffnlhjdlhpmjaaMvC
import Derived.Sort.Grow
import Derived.Sort.Row
import Derived.MapKept
/- What the parts of a route know, when it can be driven; where it can't. -/
set_option linter.unusedVariables false
set_option linter.unusedSimpArgs false
namespace Go.Proofs.Ytffnlhjdlhpmjaa.Mv

/-- Ways through a piece of code that come to the same are walked on from there once. -/
theorem Wp.merge {P : Program} {I : InlP} {nb : Nat} {Q : Ex → St → Prop} {st : St} (hI : InlM I) {x y : Code} (B : St → Prop) (h : Wp P I nb x (thenX (fun s => ∃ s', Weak s s' ∧ B s') Q) st) (hy : ∀ s, B s → Wp P I nb y Q s) : Wp P I nb (.seq x y) Q st :=
  Wp.mono (Q := thenX (fun s => ∃ s', Weak s s' ∧ B s') Q) (Q' := thenX (fun s => ∃ s', Weak s s' ∧ Wp P I nb y Q s') Q) hI (fun e s hs => by
    cases e with
    | normal =>
      obtain ⟨s', h1, h2⟩ := hs
      exact ⟨s', h1, hy s' h2⟩
    | exit id => exact hs
    | ret => exact hs) h
theorem tb_inst {i : Inst} {N : Nat} (hb : Sb i N) (hsd : Sd i) : Tb i := ⟨hb.sq.short, by have := hb.sq.stops; have := hb.sq.high; omega, fun n => by have := mate_in hb hsd n; omega⟩
theorem bne_self {a b : Int} (h : a = b) : (a != b) = false := by simpa using h
theorem meet_some {i : Inst} {c : Int} {h : Head} {t : Tail} {v : Int} (e : meet i c h t = some v) : h.ok = true ∧ t.ok = true ∧ wadd h.leave (drive i h.last t.first) ≤ t.late := by
  unfold meet at e
  split at e
  · rename_i h1
    split at e
    · rename_i h2
      exact ⟨h1.2.1, h1.2.2.1, h2.1⟩
    · cases e
  · cases e
theorem meet_at {i : Inst} {N : Nat} (hb : Sb i N) (hp : Sp i) (hsd : Sd i) {c : Int} (hc0 : 0 ≤ c) (hc1 : c < i.cars.length) {l : List Int} (hl : l.length ≤ 1000) (k : Nat) : meet i c (headOf i c (l.take k)) (tailOf i c (l.drop k)) = (eval i c l).map (·.t2) := by
  rw [meet_eval hb hp hsd hc0 hc1 _ _ (by rw [List.length_take, List.length_drop]; omega), List.take_append_drop]
/-- A route that can be driven, place by place: its heads and tails. -/
structure Parts (i : Inst) (l : List Int) (T : Trip) (HL : List Head) (TL : List Tail) : Prop where
  ok : ∀ k : Nat, k ≤ l.length → (HL.getD k default).ok = true ∧ (TL.getD k default).ok = true
  head : ∀ k : Nat, k ≤ l.length → 0 < k → (HL.getD k default).last = l.getD ((k : Int) - 1).toNat default ∧ (HL.getD k default).load = T.t1.getD ((k : Int) - 1).toNat default ∧
    (HL.getD k default).leave = T.t0.getD ((k : Int) - 1).toNat default + (i.stops.getD (l.getD ((k : Int) - 1).toNat default - 1).toNat default).s3
  tail : ∀ k : Nat, k < l.length → (TL.getD k default).first = l.getD k default ∧ T.t0.getD k default ≤ (TL.getD k default).late
theorem parts_of {i : Inst} {N : Nat} (hb : Sb i N) (hp : Sp i) (hsd : Sd i) {c : Int} (hc0 : 0 ≤ c) (hc1 : c < i.cars.length) {l : List Int} (hl : l.length ≤ 1000) {T : Trip} (he : eval i c l = some T) : Parts i l T (headsK i c l l.length) (tailsK i c l 0) := by
  have hD := drv_of hb hc0 hc1 hl he
  have hall : ∀ j, j < l.length → Cd i c l j := by
    rw [eval_eq hb hc0 hc1] at he
    split at he
    · rename_i h
      exact ((order_cd hp).1 ⟨h.1, (fine_all i _ l 0 _ 0 h.2).1⟩).1
    · cases he
  have hm : ∀ k, meet i c (headOf i c (l.take k)) (tailOf i c (l.drop k)) = some T.t2 := fun k => by rw [meet_at hb hp hsd hc0 hc1 hl, he]; rfl
  have hok : ∀ k, (headOf i c (l.take k)).ok = true ∧ (tailOf i c (l.drop k)).ok = true := fun k => ⟨(meet_some (hm k)).1, (meet_some (hm k)).2.1⟩
  refine ⟨fun k hk => ?_, fun k hk h0 => ?_, fun k hk => ?_⟩
  · rw [headsK_get _ _ _ hk, tailsK_get _ _ _ hk, if_neg (Nat.not_lt_zero _)]
    exact hok k
  · rw [headsK_get _ _ _ hk]
    have hC := (hc_all hb hp hsd hc0 hc1 hl k hk).2 (hok k).1
    obtain ⟨k, rfl⟩ : ∃ q, k = q + 1 := ⟨k - 1, by omega⟩
    rw [show (((k + 1 : Nat) : Int) - 1).toNat = k by omega]
    obtain ⟨d1, d2, d3, d4, d5, d6, d7, d8, d9, d10, d11, d12, d13, d14, d15, d16, d17, d18, d19, -⟩ := hD.at' k (by omega)
    exact ⟨by rw [hC.last, d19], by rw [hC.load, d14], by rw [hC.leave, d18]⟩
  · rw [tailsK_get _ _ _ (by omega), if_neg (Nat.not_lt_zero _)]
    have h2 := (meet_some (hm k)).2.2
    have ht := (hok k).2
    have hC := (hc_all hb hp hsd hc0 hc1 hl k (by omega)).2 (hok k).1
    have hH := headOf_hi hb hsd c l hl k (by omega) (hok k).1
    have hx := isStop_le (hall k hk).1
    have hst := hb.sq.stops
    obtain ⟨d1, d2, d3, d4, d5, d6, d7, d8, d9, d10, d11, d12, d13, -⟩ := hD.at' k hk
    rw [tailOf_drop i c hk] at ht h2 ⊢
    obtain ⟨-, t1, o, eo, -⟩ := before_inv ht
    rw [eo] at h2 ⊢
    have e1 : drive i (headOf i c (l.take k)).last (l.getD k default) = Mv.cell i (headOf i c (l.take k)).last (l.getD k default) := drive_cell hb.sq hH.l0 hH.l1 (by omega) (by omega)
    have w1 := hb.sq.cell_in hH.l0 hH.l1 (b := l.getD k default) (by omega) (by omega)
    have h3 : wadd (headOf i c (l.take k)).leave (drive i (headOf i c (l.take k)).last (l.getD k default)) ≤ ylate i (l.getD k default) (tailOf i c (l.drop (k + 1))) := h2
    have hv0 := hH.v0
    have hv1 := hH.v1
    rw [e1, wadd_small (by omega), hC.leave, hC.last] at h3
    refine ⟨rfl, ?_⟩
    show T.t0.getD k default ≤ ylate i (l.getD k default) (tailOf i c (l.drop (k + 1)))
    unfold stopAt at t1
    unfold Mv.cell at h3
    rcases d13 with d13 | d13
    · rw [d13]; exact h3
    · rw [d13]; exact t1
theorem heads_prev (i : Inst) (c : Int) (l : List Int) {k : Nat} (hk : k ≤ l.length) (h0 : 0 < k) (h : ((headsK i c l l.length).getD k default).ok = true) : ((headsK i c l l.length).getD ((k : Int) - 1).toNat default).ok = true := by
  obtain ⟨k, rfl⟩ : ∃ q, k = q + 1 := ⟨k - 1, by omega⟩
  rw [show (((k + 1 : Nat) : Int) - 1).toNat = k by omega]
  rw [headsK_get _ _ _ (by omega)] at h ⊢
  rw [headOf_take i c (by omega)] at h
  exact (extend_inv h).1.1
theorem tails_next (i : Inst) (c : Int) (l : List Int) {k : Nat} (hk : k ≤ l.length) (h0 : 0 < k) (h : ((tailsK i c l 0).getD ((k : Int) - 1).toNat default).ok = true) : ((tailsK i c l 0).getD k default).ok = true := by
  obtain ⟨k, rfl⟩ : ∃ q, k = q + 1 := ⟨k - 1, by omega⟩
  rw [show (((k + 1 : Nat) : Int) - 1).toNat = k by omega] at h
  rw [tailsK_get _ _ _ (by omega), if_neg (Nat.not_lt_zero _)] at h ⊢
  rw [tailOf_drop i c (by omega)] at h
  exact (before_inv h).1.1
end Go.Proofs.Ytffnlhjdlhpmjaa.Mv

/- The sets of heads and tails. -/
set_option linter.unusedVariables false
set_option linter.unusedSimpArgs false
namespace Go.Proofs.Ytffnlhjdlhpmjaa.Mv

/-- What is known of the tail of some stops. -/
structure TC (i : Inst) (b : List Int) (t : Tail) : Prop where
  set : ∀ y, 1 ≤ y → y ≤ 31 → inS t.set y = Mv.has b y
  need : ∀ y, 1 ≤ y → y ≤ 31 → (inS t.need y = true ↔ ∃ p ∈ i.pairs, p.p0 = y ∧ Mv.has b p.p1 = true ∧ Mv.has b p.p0 = false)
  z0 : t.need.getLsbD 0 = false
  s0 : t.set.getLsbD 0 = false
  ord : ∀ p ∈ i.pairs, Mv.has b p.p0 = true → Mv.has b p.p1 = true
  stop : ∀ x ∈ b, isStop i x = true
theorem has_cons (x : Int) (b : List Int) (y : Int) : Mv.has (x :: b) y = (decide (y = x) || Mv.has b y) := by
  rw [Bool.eq_iff_iff, Bool.or_eq_true, decide_eq_true_iff, has_mem, has_mem, List.mem_cons]
theorem digit_b0 {x : Int} (h0 : 1 ≤ x) (h1 : x ≤ 31) : (digit x).getLsbD 0 = false := by
  rw [digit_bit h0 h1 (by omega)]
  simp
  omega
theorem tc_all {i : Inst} {N : Nat} (hb : Sb i N) (hp : Sp i) (hsd : Sd i) (c : Int) : ∀ l : List Int, (tailOf i c l).ok = true → TC i l (tailOf i c l)
  | [], h => by
    have e : (tailOf i c []).set = 0#32 ∧ (tailOf i c []).need = 0#32 := by
      simp only [tailOf, endT]
      split
      · exact ⟨rfl, rfl⟩
      · exact ⟨rfl, rfl⟩
    refine ⟨fun y _ _ => by rw [e.1, inS_zero]; rfl, fun y _ _ => ?_, by rw [e.2]; decide, by rw [e.1]; decide, fun p _ q => (by cases q), fun x hx => (by cases hx)⟩
    rw [e.2, inS_zero]
    exact ⟨fun q => (by cases q), fun ⟨p, _, _, q, _⟩ => (by cases q)⟩
  | x :: b, h => by
    have hN := hb.sq.high
    have hst := hb.sq.stops
    have h' : (before i c x (tailOf i c b)).ok = true := h
    obtain ⟨⟨h1, hT, hx1, h4⟩, -, o, eo, ho⟩ := before_inv h'
    have hC := tc_all hb hp hsd c b h1
    have hT' := isT_get hT
    have hxS : isStop i x = true := by unfold isStop; simp; omega
    rw [and_digit hx1 (by omega), hC.set x hx1 (by omega)] at h4
    have hmi := mate_in hb hsd x
    have hmx0 : ∀ p ∈ i.pairs, p.p1 = x → mate i.pairs x = p.p0 ∧ Mv.first i.pairs x = false := fun p hpm hpx => by
      obtain ⟨p1, p2, p3, p4, p5, p6, p7⟩ := hp p hpm
      rw [← hpx]
      exact ⟨p5, p7⟩
    have hmx1 : ∀ p ∈ i.pairs, p.p0 = x → mate i.pairs x = p.p1 ∧ Mv.first i.pairs x = true := fun p hpm hpx => by
      obtain ⟨p1, p2, p3, p4, p5, p6, p7⟩ := hp p hpm
      rw [← hpx]
      exact ⟨p4, p6⟩
    have hm0 : ∀ p ∈ i.pairs, p.p0 = x ∨ p.p1 = x → ¬ digit (mate i.pairs x) = 0#32 := fun p hpm hh q => by
      have hps := hsd p hpm
      have a1 := isStop_le hps.1
      have a2 := isStop_le hps.2.1
      rw [digit_zero (by omega)] at q
      rcases hh with hh | hh
      · rw [(hmx1 p hpm hh).1] at q; omega
      · rw [(hmx0 p hpm hh).1] at q; omega
    have e : tailOf i c (x :: b) = yout i x (tailOf i c b) o := eo
    rw [e]
    have hord : ∀ p ∈ i.pairs, Mv.has (x :: b) p.p0 = true → Mv.has (x :: b) p.p1 = true := fun p hpm q => by
      rw [has_cons, Bool.or_eq_true, decide_eq_true_iff] at q
      rw [has_cons, Bool.or_eq_true]
      rcases q with q | q
      · have hf := (hmx1 p hpm q).2
        rcases ho with ⟨hd, -⟩ | ⟨-, hf2, -⟩ | ⟨-, -, hn, -⟩
        · exact absurd hd (hm0 p hpm (.inl q))
        · rw [hf] at hf2; cases hf2
        · rw [and_digit hx1 (by omega), Bool.not_eq_false, hC.need x hx1 (by omega)] at hn
          obtain ⟨p', hpm', q0, q1, -⟩ := hn
          have := sp_second hp hpm' hpm (.inl (q0.trans q.symm))
          exact .inr (by rw [← this.2]; exact q1)
      · exact .inr (hC.ord p hpm q)
    refine ⟨fun y g0 g1 => ?_, fun y g0 g1 => ?_, ?_, ?_, hord, fun z hz => ?_⟩
    · show inS ((tailOf i c b).set ||| digit x) y = _
      rw [inS_or, hC.set y g0 g1, inS_digit hx1 (by omega) g0 g1, has_cons, Bool.or_comm]
    · show inS o y = true ↔ _
      rcases ho with ⟨hd, rfl⟩ | ⟨hd, hf, rfl⟩ | ⟨hd, hf, hn, rfl⟩
      · rw [hC.need y g0 g1]
        have hno : ∀ p ∈ i.pairs, p.p0 ≠ x ∧ p.p1 ≠ x := fun p hpm => ⟨fun q => hm0 p hpm (.inl q) hd, fun q => hm0 p hpm (.inr q) hd⟩
        constructor
        · rintro ⟨p, hpm, q0, q1, q2⟩
          exact ⟨p, hpm, q0, by rw [has_cons, q1]; simp, by rw [has_cons, q2, decide_eq_false (hno p hpm).1]; rfl⟩
        · rintro ⟨p, hpm, q0, q1, q2⟩
          rw [has_cons, decide_eq_false (hno p hpm).2, Bool.false_or] at q1
          rw [has_cons, decide_eq_false (hno p hpm).1, Bool.false_or] at q2
          exact ⟨p, hpm, q0, q1, q2⟩
      · have hm1 : 1 ≤ mate i.pairs x := by
          by_cases q : 1 ≤ mate i.pairs x
          · exact q
          · exact absurd ((digit_zero (by omega)).2 (by omega)) hd
        have hno : ∀ p ∈ i.pairs, p.p0 ≠ x := fun p hpm q => by rw [(hmx1 p hpm q).2] at hf; cases hf
        rw [inS_or, inS_digit hm1 (by omega) g0 g1, Bool.or_eq_true, decide_eq_true_iff, hC.need y g0 g1]
        constructor
        · rintro (⟨p, hpm, q0, q1, q2⟩ | rfl)
          · exact ⟨p, hpm, q0, by rw [has_cons, q1]; simp, by rw [has_cons, q2, decide_eq_false (hno p hpm)]; rfl⟩
          · obtain ⟨p, hpm, hh⟩ := mate_mem _ _ (show mate i.pairs x ≠ 0 by omega)
            rcases hh with ⟨hh, -⟩ | ⟨hh, hh2⟩
            · exact absurd hh.symm (hno p hpm)
            · refine ⟨p, hpm, hh2.symm, by rw [has_cons, ← hh]; simp, ?_⟩
              rw [has_cons, decide_eq_false (hno p hpm), Bool.false_or, ← Bool.not_eq_true]
              intro q
              have := hC.ord p hpm q
              rw [← hh, h4] at this
              cases this
        · rintro ⟨p, hpm, q0, q1, q2⟩
          rw [has_cons, decide_eq_false (hno p hpm), Bool.false_or] at q2
          rw [has_cons, Bool.or_eq_true, decide_eq_true_iff] at q1
          rcases q1 with q1 | q1
          · exact .inr (by rw [← q0, (hmx0 p hpm q1).1])
          · exact .inl ⟨p, hpm, q0, q1, q2⟩
      · have hno : ∀ p ∈ i.pairs, p.p1 ≠ x := fun p hpm q => by rw [(hmx0 p hpm q).2] at hf; cases hf
        rw [inS_del hx1 (by omega) g0 g1, Bool.and_eq_true, Bool.not_eq_true', decide_eq_false_iff_not, hC.need y g0 g1]
        constructor
        · rintro ⟨⟨p, hpm, q0, q1, q2⟩, q3⟩
          exact ⟨p, hpm, q0, by rw [has_cons, q1]; simp, by rw [has_cons, q2, decide_eq_false (by rw [q0]; exact q3)]; rfl⟩
        · rintro ⟨p, hpm, q0, q1, q2⟩
          rw [has_cons, decide_eq_false (hno p hpm), Bool.false_or] at q1
          rw [has_cons, Bool.or_eq_false_iff, decide_eq_false_iff_not] at q2
          exact ⟨⟨p, hpm, q0, q1, q2.2⟩, by rw [← q0]; exact q2.1⟩
    · show o.getLsbD 0 = false
      have z0 := hC.z0
      rcases ho with ⟨hd, rfl⟩ | ⟨hd, hf, rfl⟩ | ⟨hd, hf, hn, rfl⟩
      · exact z0
      · have hm1 : 1 ≤ mate i.pairs x := by
          by_cases q : 1 ≤ mate i.pairs x
          · exact q
          · exact absurd ((digit_zero (by omega)).2 (by omega)) hd
        rw [BitVec.getLsbD_or, z0, digit_b0 hm1 (by omega)]; rfl
      · rw [BitVec.getLsbD_and, z0]; rfl
    · show ((tailOf i c b).set ||| digit x).getLsbD 0 = false
      rw [BitVec.getLsbD_or, hC.s0, digit_b0 hx1 (by omega)]; rfl
    · rcases List.mem_cons.1 hz with rfl | hz
      · exact hxS
      · exact hC.stop z hz
theorem head_s0 {i : Inst} {N : Nat} (hb : Sb i N) (c : Int) {l : List Int} : ∀ k : Nat, k ≤ l.length → (headOf i c (l.take k)).ok = true → (headOf i c (l.take k)).set.getLsbD 0 = false
  | 0, _, h => by
    have e : (headOf i c (l.take 0)).set = 0#32 := by
      show (beginT i c).set = _
      unfold beginT
      split <;> rfl
    rw [e]; decide
  | k + 1, hk, h => by
    have hN := hb.sq.high
    have hst := hb.sq.stops
    rw [headOf_take i c (by omega)] at h ⊢
    obtain ⟨⟨h1, hT, hx1, h4⟩, -, o, eo, ho⟩ := extend_inv h
    have hT' := isT_get hT
    rw [eo]
    show ((headOf i c (l.take k)).set ||| digit (l.getD k default)).getLsbD 0 = false
    rw [BitVec.getLsbD_or, head_s0 hb c k (by omega) h1, digit_b0 hx1 (by omega)]; rfl

/-! ### The sets, told by a law -/
def bits (i : Inst) (l : List Int) : BitVec 32 := l.foldl (fun b s => if isStop i s = true then b ||| digit s else b) 0#32
def opens (a : BitVec 32) (ps : List Two) : BitVec 32 := ps.foldl (fun b p => if inS a p.p0 = true ∧ inS a p.p1 = false then b ||| digit p.p0 else b) 0#32
def needs (a : BitVec 32) (ps : List Two) : BitVec 32 := ps.foldl (fun b p => if inS a p.p1 = true ∧ inS a p.p0 = false then b ||| digit p.p0 else b) 0#32
theorem bits_snoc (i : Inst) (l : List Int) (s : Int) : bits i (l ++ [s]) = if isStop i s = true then bits i l ||| digit s else bits i l := by
  unfold bits
  rw [List.foldl_append]
  rfl
theorem opens_snoc (a : BitVec 32) (ps : List Two) (p : Two) : opens a (ps ++ [p]) = if inS a p.p0 = true ∧ inS a p.p1 = false then opens a ps ||| digit p.p0 else opens a ps := by
  unfold opens
  rw [List.foldl_append]
  rfl
theorem needs_snoc (a : BitVec 32) (ps : List Two) (p : Two) : needs a (ps ++ [p]) = if inS a p.p1 = true ∧ inS a p.p0 = false then needs a ps ||| digit p.p0 else needs a ps := by
  unfold needs
  rw [List.foldl_append]
  rfl
theorem bits_in {i : Inst} {N : Nat} (hb : Sb i N) : ∀ (k : Nat) (l : List Int), l.length = k → (∀ x ∈ l, isStop i x = true) → (bits i l).getLsbD 0 = false ∧ ∀ y, 1 ≤ y → y ≤ 31 → inS (bits i l) y = Mv.has l y
  | 0, l, hl, _ => by
    have := List.eq_nil_of_length_eq_zero hl
    subst this
    exact ⟨by show (0#32).getLsbD 0 = false; decide, fun y _ _ => inS_zero y⟩
  | k + 1, l, hl, hv => by
    have hN := hb.sq.high
    have hst := hb.sq.stops
    have e : l.take k ++ [l.getD k default] = l := by rw [take_snoc (by omega), List.take_of_length_le (by omega)]
    have hm : l.getD k default ∈ l := by
      rw [List.getD_eq_getElem?_getD, List.getElem?_eq_getElem (by omega)]
      exact List.getElem_mem _
    have hx := hv _ hm
    have hx2 := isStop_le hx
    obtain ⟨i1, i2⟩ := bits_in hb k (l.take k) (by simp; omega) (fun x hx => hv x (List.mem_of_mem_take hx))
    have e2 : bits i l = bits i (l.take k) ||| digit (l.getD k default) := by
      rw [← e, bits_snoc, e, if_pos hx]
    refine ⟨by rw [e2, BitVec.getLsbD_or, i1, digit_b0 hx2.1 (by omega)]; rfl, fun y g0 g1 => ?_⟩
    rw [e2, inS_or, i2 y g0 g1, inS_digit hx2.1 (by omega) g0 g1]
    have := has_take (l := l) (k := k) (by omega) y
    rw [List.take_of_length_le (by omega)] at this
    exact this.symm
theorem opens_in {a : BitVec 32} : ∀ (k : Nat) (ps : List Two), ps.length = k → (∀ p ∈ ps, 1 ≤ p.p0 ∧ p.p0 ≤ 31) → (opens a ps).getLsbD 0 = false ∧ ∀ y, 1 ≤ y → y ≤ 31 → (inS (opens a ps) y = true ↔ ∃ p ∈ ps, p.p0 = y ∧ inS a p.p0 = true ∧ inS a p.p1 = false)
  | 0, ps, hl, _ => by
    have := List.eq_nil_of_length_eq_zero hl
    subst this
    refine ⟨by show (0#32).getLsbD 0 = false; decide, fun y _ _ => ⟨fun q => ?_, fun ⟨p, hp, _⟩ => (by cases hp)⟩⟩
    have : inS 0#32 y = true := q
    rw [inS_zero] at this
    cases this
  | k + 1, ps, hl, hv => by
    have e : ps.take k ++ [ps.getD k default] = ps := by rw [take_snoc (by omega), List.take_of_length_le (by omega)]
    have hm : ps.getD k default ∈ ps := by
      rw [List.getD_eq_getElem?_getD, List.getElem?_eq_getElem (by omega)]
      exact List.getElem_mem _
    have hx := hv _ hm
    obtain ⟨i1, i2⟩ := opens_in (a := a) k (ps.take k) (by simp; omega) (fun x hx => hv x (List.mem_of_mem_take hx))
    have hmem : ∀ q : Two, q ∈ ps ↔ q ∈ ps.take k ∨ q = ps.getD k default := fun q => by rw [← e, List.mem_append, e, List.mem_singleton]
    have e2 := opens_snoc a (ps.take k) (ps.getD k default)
    rw [e] at e2
    by_cases hc : inS a (ps.getD k default).p0 = true ∧ inS a (ps.getD k default).p1 = false
    · rw [if_pos hc] at e2
      refine ⟨by rw [e2, BitVec.getLsbD_or, i1, digit_b0 hx.1 hx.2]; rfl, fun y g0 g1 => ?_⟩
      rw [e2, inS_or, inS_digit hx.1 hx.2 g0 g1, Bool.or_eq_true, decide_eq_true_iff, i2 y g0 g1]
      constructor
      · rintro (⟨p, hp, q⟩ | rfl)
        · exact ⟨p, (hmem p).2 (.inl hp), q⟩
        · exact ⟨_, (hmem _).2 (.inr rfl), rfl, hc⟩
      · rintro ⟨p, hp, q0, q⟩
        rcases (hmem p).1 hp with hp | rfl
        · exact .inl ⟨p, hp, q0, q⟩
        · exact .inr q0.symm
    · rw [if_neg hc] at e2
      refine ⟨by rw [e2, i1], fun y g0 g1 => ?_⟩
      rw [e2, i2 y g0 g1]
      constructor
      · rintro ⟨p, hp, q⟩
        exact ⟨p, (hmem p).2 (.inl hp), q⟩
      · rintro ⟨p, hp, q0, q⟩
        rcases (hmem p).1 hp with hp | rfl
        · exact ⟨p, hp, q0, q⟩
        · exact absurd q hc
theorem needs_in {a : BitVec 32} : ∀ (k : Nat) (ps : List Two), ps.length = k → (∀ p ∈ ps, 1 ≤ p.p0 ∧ p.p0 ≤ 31) → (needs a ps).getLsbD 0 = false ∧ ∀ y, 1 ≤ y → y ≤ 31 → (inS (needs a ps) y = true ↔ ∃ p ∈ ps, p.p0 = y ∧ inS a p.p1 = true ∧ inS a p.p0 = false)
  | 0, ps, hl, _ => by
    have := List.eq_nil_of_length_eq_zero hl
    subst this
    refine ⟨by show (0#32).getLsbD 0 = false; decide, fun y _ _ => ⟨fun q => ?_, fun ⟨p, hp, _⟩ => (by cases hp)⟩⟩
    have : inS 0#32 y = true := q
    rw [inS_zero] at this
    cases this
  | k + 1, ps, hl, hv => by
    have e : ps.take k ++ [ps.getD k default] = ps := by rw [take_snoc (by omega), List.take_of_length_le (by omega)]
    have hm : ps.getD k default ∈ ps := by
      rw [List.getD_eq_getElem?_getD, List.getElem?_eq_getElem (by omega)]
      exact List.getElem_mem _
    have hx := hv _ hm
    obtain ⟨i1, i2⟩ := needs_in (a := a) k (ps.take k) (by simp; omega) (fun x hx => hv x (List.mem_of_mem_take hx))
    have hmem : ∀ q : Two, q ∈ ps ↔ q ∈ ps.take k ∨ q = ps.getD k default := fun q => by rw [← e, List.mem_append, e, List.mem_singleton]
    have e2 := needs_snoc a (ps.take k) (ps.getD k default)
    rw [e] at e2
    by_cases hc : inS a (ps.getD k default).p1 = true ∧ inS a (ps.getD k default).p0 = false
    · rw [if_pos hc] at e2
      refine ⟨by rw [e2, BitVec.getLsbD_or, i1, digit_b0 hx.1 hx.2]; rfl, fun y g0 g1 => ?_⟩
      rw [e2, inS_or, inS_digit hx.1 hx.2 g0 g1, Bool.or_eq_true, decide_eq_true_iff, i2 y g0 g1]
      constructor
      · rintro (⟨p, hp, q⟩ | rfl)
        · exact ⟨p, (hmem p).2 (.inl hp), q⟩
        · exact ⟨_, (hmem _).2 (.inr rfl), rfl, hc⟩
      · rintro ⟨p, hp, q0, q⟩
        rcases (hmem p).1 hp with hp | rfl
        · exact .inl ⟨p, hp, q0, q⟩
        · exact .inr q0.symm
    · rw [if_neg hc] at e2
      refine ⟨by rw [e2, i1], fun y g0 g1 => ?_⟩
      rw [e2, i2 y g0 g1]
      constructor
      · rintro ⟨p, hp, q⟩
        exact ⟨p, (hmem p).2 (.inl hp), q⟩
      · rintro ⟨p, hp, q0, q⟩
        rcases (hmem p).1 hp with hp | rfl
        · exact ⟨p, hp, q0, q⟩
        · exact absurd q hc
/-- The sets are just what a law tells. -/
theorem head_sets {i : Inst} {N : Nat} (hb : Sb i N) (hp : Sp i) (hsd : Sd i) {c : Int} (hc0 : 0 ≤ c) (hc1 : c < i.cars.length) {l : List Int} (hl : l.length ≤ 1000) {k : Nat} (hk : k ≤ l.length) (h : (headOf i c (l.take k)).ok = true) :
    (headOf i c (l.take k)).set = bits i (l.take k) ∧ (headOf i c (l.take k)).opn = opens (bits i (l.take k)) i.pairs := by
  obtain ⟨i1, i2⟩ := hc_all hb hp hsd hc0 hc1 hl k hk
  have hC := i2 h
  have hv : ∀ x ∈ l.take k, isStop i x = true := fun x hx => by
    obtain ⟨j, hj, rfl⟩ := List.getElem_of_mem hx
    have hjk : j < k ∧ j < l.length := by simp at hj; omega
    have := (i1.1 h j hjk.1).1
    rw [List.getElem_take]
    rwa [List.getD_eq_getElem?_getD, List.getElem?_eq_getElem hjk.2] at this
  obtain ⟨b1, b2⟩ := bits_in hb _ (l.take k) rfl hv
  have hN := hb.sq.high
  have hst := hb.sq.stops
  obtain ⟨o1, o2⟩ := opens_in (a := bits i (l.take k)) _ i.pairs rfl (fun p hpm => by have := isStop_le (hsd p hpm).1; omega)
  refine ⟨set_ext (head_s0 hb c k hk h) b1 fun y g0 g1 => by rw [hC.set y g0 g1, b2 y g0 g1], set_ext hC.z0 o1 fun y g0 g1 => ?_⟩
  rw [Bool.eq_iff_iff, hC.opn y g0 g1, o2 y g0 g1]
  constructor
  · rintro ⟨p, hpm, q0, q1, q2⟩
    have a1 := isStop_le (hsd p hpm).1
    have a2 := isStop_le (hsd p hpm).2.1
    exact ⟨p, hpm, q0, by rw [b2 _ a1.1 (by omega)]; exact q1, by rw [b2 _ a2.1 (by omega)]; exact q2⟩
  · rintro ⟨p, hpm, q0, q1, q2⟩
    have a1 := isStop_le (hsd p hpm).1
    have a2 := isStop_le (hsd p hpm).2.1
    rw [b2 _ a1.1 (by omega)] at q1
    rw [b2 _ a2.1 (by omega)] at q2
    exact ⟨p, hpm, q0, q1, q2⟩
theorem tail_sets {i : Inst} {N : Nat} (hb : Sb i N) (hp : Sp i) (hsd : Sd i) {c : Int} {l : List Int} (h : (tailOf i c l).ok = true) :
    (tailOf i c l).set = bits i l ∧ (tailOf i c l).need = needs (bits i l) i.pairs := by
  have hC := tc_all hb hp hsd c l h
  obtain ⟨b1, b2⟩ := bits_in hb _ l rfl hC.stop
  have hN := hb.sq.high
  have hst := hb.sq.stops
  obtain ⟨o1, o2⟩ := needs_in (a := bits i l) _ i.pairs rfl (fun p hpm => by have := isStop_le (hsd p hpm).1; omega)
  refine ⟨set_ext hC.s0 b1 fun y g0 g1 => by rw [hC.set y g0 g1, b2 y g0 g1], set_ext hC.z0 o1 fun y g0 g1 => ?_⟩
  rw [Bool.eq_iff_iff, hC.need y g0 g1, o2 y g0 g1]
  constructor
  · rintro ⟨p, hpm, q0, q1, q2⟩
    have a1 := isStop_le (hsd p hpm).1
    have a2 := isStop_le (hsd p hpm).2.1
    exact ⟨p, hpm, q0, by rw [b2 _ a2.1 (by omega)]; exact q1, by rw [b2 _ a1.1 (by omega)]; exact q2⟩
  · rintro ⟨p, hpm, q0, q1, q2⟩
    have a1 := isStop_le (hsd p hpm).1
    have a2 := isStop_le (hsd p hpm).2.1
    rw [b2 _ a2.1 (by omega)] at q1
    rw [b2 _ a1.1 (by omega)] at q2
    exact ⟨p, hpm, q0, q1, q2⟩
theorem head_zero {i : Inst} {c : Int} : ∀ {l : List Int} (k : Nat), k ≤ l.length → ¬ (headOf i c (l.take k)).ok = true → headOf i c (l.take k) = zeroH
  | l, 0, _, h => by
    have e : headOf i c (l.take 0) = beginT i c := rfl
    rw [e] at h ⊢
    unfold beginT at h ⊢
    split
    · rename_i q
      rw [if_pos q] at h
      exact absurd rfl h
    · rfl
  | l, k + 1, hk, h => by
    rw [headOf_take i c (by omega)] at h ⊢
    rcases extend_cases i c (headOf i c (l.take k)) (l.getD k default) with e | ⟨o, e⟩
    · exact e
    · rw [e] at h
      exact absurd rfl h
theorem tail_zero {i : Inst} {c : Int} : ∀ (l : List Int), ¬ (tailOf i c l).ok = true → tailOf i c l = zeroTl
  | [], h => by
    simp only [tailOf] at h ⊢
    unfold endT at h ⊢
    split
    · rename_i q
      rw [if_pos q] at h
      exact absurd rfl h
    · rfl
  | x :: r, h => by
    simp only [tailOf] at h ⊢
    rcases before_cases i c x (tailOf i c r) with e | ⟨o, e⟩
    · exact e
    · rw [e] at h
      exact absurd rfl h
end Go.Proofs.Ytffnlhjdlhpmjaa.Mv

/- A tail's latest time is just the latest. -/
set_option linter.unusedVariables false
set_option linter.unusedSimpArgs false
namespace Go.Proofs.Ytffnlhjdlhpmjaa.Mv

/-- The instance of a law about times alone: no pairs, nothing to load, a car that carries all; one stop's opening is another one. -/
def zeroD (l : List Stop) : Nat → List Stop
  | 0 => l
  | k + 1 => (zeroD l k).set k ⟨0, ((zeroD l k).getD k default).s1, ((zeroD l k).getD k default).s2, ((zeroD l k).getD k default).s3⟩
theorem zeroD_len (l : List Stop) : ∀ k, (zeroD l k).length = l.length
  | 0 => rfl
  | k + 1 => by simp [zeroD, zeroD_len l k]
theorem zeroD_get (l : List Stop) : ∀ (k a : Nat), a < l.length → (zeroD l k).getD a default = if a < k then ⟨0, (l.getD a default).s1, (l.getD a default).s2, (l.getD a default).s3⟩ else l.getD a default
  | 0, a, h => by simp [zeroD]
  | k + 1, a, h => by
    have ha := zeroD_get l k a h
    simp only [zeroD]
    rw [getD_set _ _ _ _ (by rw [zeroD_len]; exact h)]
    by_cases e : k = a
    · subst e
      rw [if_pos rfl, if_pos (by omega), ha, if_neg (by omega)]
    · rw [if_neg e, ha]
      by_cases e2 : a < k
      · rw [if_pos e2, if_pos (by omega)]
      · rw [if_neg e2, if_neg (by omega)]
def lateStops (l : List Stop) (x : Nat) (o : Int) : List Stop := (zeroD l l.length).set x ⟨0, o, (l.getD x default).s2, (l.getD x default).s3⟩
def lateInst (i : Inst) (c : Int) (x : Int) (o : Int) : Inst := ⟨i.cars.set c.toNat ⟨60, (carAt i c).c1, (carAt i c).c2⟩, lateStops i.stops (x - 1).toNat o, [], i.travel⟩
theorem lateStops_len (l : List Stop) (x : Nat) (o : Int) : (lateStops l x o).length = l.length := by simp [lateStops, zeroD_len]
theorem late_at {i : Inst} {c x o : Int} {y : Int} (hy : isStop i y = true) (hx : isStop i x = true) : stopAt (lateInst i c x o) y = ⟨0, if y = x then o else (stopAt i y).s1, (stopAt i y).s2, (stopAt i y).s3⟩ := by
  have h1 := isStop_le hy
  have h2 := isStop_le hx
  show (lateStops i.stops (x - 1).toNat o).getD (y - 1).toNat default = _
  unfold lateStops
  rw [getD_set _ _ _ _ (by rw [zeroD_len]; omega)]
  by_cases e : y = x
  · subst e
    rw [if_pos rfl, if_pos rfl]
    rfl
  · rw [if_neg (by omega), zeroD_get _ _ _ (by omega), if_pos (by omega), if_neg e]
    rfl
theorem late_sb {i : Inst} {N : Nat} (h : Sb i N) {c : Int} (h0 : 0 ≤ c) (h1 : c < i.cars.length) {x o : Int} (hx : isStop i x = true) (ho : 0 ≤ o) (ho2 : o ≤ 2000) : Sb (lateInst i c x o) N := by
  have hat := fun y hy => late_at (c := c) (o := o) (y := y) hy hx
  have hcc := h.car c.toNat (by omega)
  have hs3 := h.stop
  have hst := h.sq.stops
  obtain ⟨⟨⟨s1, s2, s3, s4, s5⟩, q2, q3, q4, q5, q6, q7, q8, q9, q10⟩, g2, g3⟩ := h
  refine ⟨⟨⟨by unfold Short at *; simpa [lateInst] using s1, by unfold Short at *; show (lateStops _ _ _).length < _; rw [lateStops_len]; exact s2, by unfold Short; simp [lateInst], s4, s5⟩, q2, q3, by simpa [lateInst] using q4, by simpa [lateInst] using q5, by show (lateStops _ _ _).length = _; rw [lateStops_len]; exact q6, q7, q8, q9, q10⟩, fun a ha => ?_, fun a ha => ?_⟩
  · have ha' : a < i.cars.length := by simpa [lateInst] using ha
    have e : (lateInst i c x o).cars.getD a default = if c.toNat = a then ⟨60, (carAt i c).c1, (carAt i c).c2⟩ else i.cars.getD a default := getD_set _ _ _ _ ha'
    rw [e]
    by_cases e1 : c.toNat = a
    · rw [if_pos e1]
      exact ⟨by show (0 : Int) ≤ 60; omega, by show (60 : Int) ≤ 1000; omega, hcc.2.2.1, hcc.2.2.2.1, hcc.2.2.2.2.1, hcc.2.2.2.2.2⟩
    · rw [if_neg e1]; exact g2 a ha'
  · have hs := g3 a ha
    have hy : isStop i ((a : Int) + 1) = true := by unfold isStop; simp; omega
    have e := hat ((a : Int) + 1) hy
    have e2 : stopAt (lateInst i c x o) ((a : Int) + 1) = (lateInst i c x o).stops.getD a default := by
      unfold stopAt
      rw [show ((a : Int) + 1 - 1).toNat = a by omega]
    have e3 : stopAt i ((a : Int) + 1) = i.stops.getD a default := by
      unfold stopAt
      rw [show ((a : Int) + 1 - 1).toNat = a by omega]
    rw [← e2, e, e3]
    refine ⟨by show (-1000 : Int) ≤ 0; omega, by show (0 : Int) ≤ 1000; omega, ?_, ?_, hs.2.2.2.2.1, hs.2.2.2.2.2.1, hs.2.2.2.2.2.2⟩
    · show (0 : Int) ≤ if (a : Int) + 1 = x then o else (i.stops.getD a default).s1
      split
      · exact ho
      · exact hs.2.2.1
    · show (if (a : Int) + 1 = x then o else (i.stops.getD a default).s1) ≤ 2000
      split
      · exact ho2
      · exact hs.2.2.2.1
theorem nopairs {i : Inst} (h : i.pairs = []) : Sp i ∧ Sd i := ⟨fun p hp => (by rw [h] at hp; cases hp), fun p hp => (by rw [h] at hp; cases hp)⟩
theorem late_tail {i : Inst} {N : Nat} (hb : Sb i N) (hnp : i.pairs = []) {c : Int} (h0 : 0 ≤ c) (h1 : c < i.cars.length) {x o : Int} (hx : isStop i x = true) : ∀ l : List Int, (tailOf i c l).ok = true → x ∉ l →
    tailOf (lateInst i c x o) c l = ⟨true, (tailOf i c l).first, (tailOf i c l).late, 0, 0, (tailOf i c l).need, (tailOf i c l).set, (tailOf i c l).cost⟩
  | [], h, _ => by
    have hT : isT i c 0 = true := isT_mk ⟨h0, h1, by omega, by omega⟩
    have hT2 : isT (lateInst i c x o) c 0 = true := isT_mk ⟨h0, by simpa [lateInst] using h1, by omega, by omega⟩
    simp only [tailOf, endT]
    rw [if_pos hT, if_pos hT2]
    have : carAt (lateInst i c x o) c = ⟨60, (carAt i c).c1, (carAt i c).c2⟩ := getD_set_same _ _ _ (by omega)
    rw [this]
  | y :: r, h, hnx => by
    have h' : (before i c y (tailOf i c r)).ok = true := h
    obtain ⟨⟨q1, q2, q3, q4⟩, t1, ob, eo, ho⟩ := before_inv h'
    have ih := late_tail hb hnp h0 h1 (o := o) hx r q1 (fun hm => hnx (List.mem_cons_of_mem _ hm))
    have hT := isT_get q2
    have hyS : isStop i y = true := by unfold isStop; simp; omega
    have hxy : ¬ y = x := fun e => hnx (by rw [← e]; simp)
    have hlen : (lateInst i c x o).stops.length = i.stops.length := lateStops_len _ _ _
    have hat := late_at (c := c) (o := o) hyS hx
    rw [if_neg hxy] at hat
    have hT2 : isT (lateInst i c x o) c y = true := isT_mk ⟨h0, by simpa [lateInst] using h1, by omega, by rw [hlen]; omega⟩
    have hm : mate i.pairs y = 0 := by rw [hnp]; rfl
    have hd : digit 0 = 0#32 := rfl
    have ey : ylate (lateInst i c x o) y (tailOf (lateInst i c x o) c r) = ylate i y (tailOf i c r) := by
      rw [ih]
      unfold ylate
      rw [hat]
      rfl
    simp only [tailOf]
    rw [before, if_pos (by rw [ih]; exact ⟨rfl, hT2, q3, q4⟩), if_pos (by rw [ey, hat]; exact t1), if_pos (by show digit (mate [] y) = 0#32; rfl)]
    rw [before, if_pos ⟨q1, q2, q3, q4⟩, if_pos t1, if_pos (by rw [hm]; rfl)]
    unfold yout
    rw [ey, ih, hat]
    simp only [Tail.mk.injEq, true_and, and_true]
    refine ⟨?_, ?_, rfl⟩
    · show imin 0 (wadd 0 0) = 0; decide
    · show imax 0 (wadd 0 0) = 0; decide
/-- Begun just at the latest time the rest can be driven, if one can be there; begun later it can't. -/
theorem late_eval {i : Inst} {N : Nat} (hb : Sb i N) (hnp : i.pairs = []) {c : Int} (h0 : 0 ≤ c) (h1 : c < i.cars.length) {x : Int} {r : List Int} (hl : r.length ≤ 900) (h : (tailOf i c (x :: r)).ok = true) {o : Int} (ho : 0 ≤ o) (ho2 : o ≤ 2000) :
    (o ≤ (tailOf i c (x :: r)).late → (carAt i c).c1 + (i.travel.getD 0 default).getD x.toNat default ≤ (tailOf i c (x :: r)).late → (eval (lateInst i c x o) c (x :: r)).isSome = true) ∧
    (o > (tailOf i c (x :: r)).late → eval (lateInst i c x o) c (x :: r) = none) := by
  have h' : (before i c x (tailOf i c r)).ok = true := h
  obtain ⟨⟨q1, q2, q3, q4⟩, t1, ob, eo, hob⟩ := before_inv h'
  have hT := isT_get q2
  have hN := hb.sq.high
  have hst := hb.sq.stops
  have hxS : isStop i x = true := by unfold isStop; simp; omega
  have hp := (nopairs hnp).1
  have hsd := (nopairs hnp).2
  have hC := tc_all hb hp hsd c r q1
  have hnx : x ∉ r := fun hm => by
    rw [and_digit q3 (by omega), hC.set x q3 (by omega)] at q4
    rw [has_mem.2 hm] at q4
    cases q4
  have hJ := late_sb hb h0 h1 (c := c) hxS ho ho2
  have hJp : Sp (lateInst i c x o) ∧ Sd (lateInst i c x o) := nopairs rfl
  have hc1J : c < (lateInst i c x o).cars.length := by simpa [lateInst] using h1
  have ht := late_tail hb hnp h0 h1 (o := o) hxS r q1 hnx
  have hat := late_at (c := c) (o := o) hxS hxS
  rw [if_pos rfl] at hat
  have hcar : carAt (lateInst i c x o) c = ⟨60, (carAt i c).c1, (carAt i c).c2⟩ := getD_set_same _ _ _ (by omega)
  have hlen : (lateInst i c x o).stops.length = i.stops.length := lateStops_len _ _ _
  have ey : ylate (lateInst i c x o) x (tailOf (lateInst i c x o) c r) = ylate i x (tailOf i c r) := by
    rw [ht]
    unfold ylate
    rw [hat]
    rfl
  have hlate : (tailOf i c (x :: r)).late = ylate i x (tailOf i c r) := by
    show (before i c x (tailOf i c r)).late = _
    rw [eo]; rfl
  have hT2 : isT (lateInst i c x o) c x = true := isT_mk ⟨h0, hc1J, by omega, by rw [hlen]; omega⟩
  have hT3 : isT (lateInst i c x o) c 0 = true := isT_mk ⟨h0, hc1J, by omega, by omega⟩
  have hcond : (tailOf (lateInst i c x o) c r).ok = true ∧ isT (lateInst i c x o) c x = true ∧ 1 ≤ x ∧ (tailOf (lateInst i c x o) c r).set &&& digit x = 0#32 := by rw [ht]; exact ⟨rfl, hT2, q3, q4⟩
  have hme := meet_eval hJ hJp.1 hJp.2 h0 hc1J [] (x :: r) (by simp; omega)
  rw [hlate]
  constructor
  · intro g1 g2
    have hb2 : before (lateInst i c x o) c x (tailOf (lateInst i c x o) c r) = yout (lateInst i c x o) x (tailOf (lateInst i c x o) c r) (tailOf (lateInst i c x o) c r).need := by
      rw [before, if_pos hcond, if_pos (by rw [ey, hat]; exact g1), if_pos (by show digit (mate [] x) = 0#32; rfl)]
    have hbeg : headOf (lateInst i c x o) c [] = ⟨true, 0, (carAt i c).c1, 0, 0, 0, 0⟩ := by
      show beginT _ c = _
      rw [beginT, if_pos hT3, hcar]
    have hca := hb.car c.toNat (by omega)
    have hcc : carAt i c = i.cars.getD c.toNat default := rfl
    have w1 := hb.sq.cell_in (a := 0) (b := x) (by omega) (by omega) (by omega) (by omega)
    have e1 : drive (lateInst i c x o) 0 x = Mv.cell i 0 x := drive_cell hJ.sq (by omega) (by omega) (by omega) (by omega)
    have w0 : Mv.cell i 0 x = (i.travel.getD 0 default).getD x.toNat default := rfl
    have hneed : (tailOf i c r).need = 0#32 := set_ext hC.z0 rfl fun y g0 g1 => by
      rw [inS_zero, ← Bool.not_eq_true, hC.need y g0 g1]
      rintro ⟨p, hpm, -⟩
      rw [hnp] at hpm
      cases hpm
    have hsome : (meet (lateInst i c x o) c (headOf (lateInst i c x o) c []) (tailOf (lateInst i c x o) c (x :: r))).isSome = true := by
      show (meet _ _ _ (before (lateInst i c x o) c x (tailOf (lateInst i c x o) c r))).isSome = true
      rw [hb2, hbeg, meet, if_pos ⟨hT3, rfl, rfl, by show 0#32 &&& _ = 0#32; simp, by show 0#32 = (tailOf (lateInst i c x o) c r).need; rw [ht]; exact hneed.symm⟩, if_pos]
      · rfl
      · refine ⟨?_, ?_, ?_⟩
        · show wadd (carAt i c).c1 (drive (lateInst i c x o) 0 x) ≤ ylate _ _ _
          rw [ey, e1, wadd_small (by rw [hcc]; omega), w0]
          exact g2
        · show 0 ≤ wadd 0 (imin 0 (wadd (stopAt (lateInst i c x o) x).s0 (tailOf (lateInst i c x o) c r).low))
          rw [ht, hat]
          show (0 : Int) ≤ wadd 0 (imin 0 (wadd 0 0))
          decide
        · show wadd 0 (imax 0 (wadd (stopAt (lateInst i c x o) x).s0 (tailOf (lateInst i c x o) c r).high)) ≤ (carAt (lateInst i c x o) c).c0
          rw [ht, hat, hcar]
          show wadd 0 (imax 0 (wadd 0 0)) ≤ (60 : Int)
          decide
    rw [hme] at hsome
    simpa using hsome
  · intro g1
    have hb2 : before (lateInst i c x o) c x (tailOf (lateInst i c x o) c r) = zeroTl := by
      rw [before, if_pos hcond, if_neg (by rw [ey, hat]; exact Int.not_le.2 g1)]
    have hnone : meet (lateInst i c x o) c (headOf (lateInst i c x o) c []) (tailOf (lateInst i c x o) c (x :: r)) = none := by
      show meet _ _ _ (before (lateInst i c x o) c x (tailOf (lateInst i c x o) c r)) = none
      rw [hb2]
      exact meet_t zeroTl_no
    rw [hme] at hnone
    simpa using hnone
end Go.Proofs.Ytffnlhjdlhpmjaa.Mv

/- Calls that are walked in place: what they write of the caller's own is known behind them. -/
set_option linter.unusedVariables false
set_option linter.unusedSimpArgs false
namespace Go.Proofs.Ytffnlhjdlhpmjaa.Mv

/-- What a call that is walked in place hands back, and leaves. -/
def RetM (P : Program) (rvs : List ResultVar) (R : LV → Mem → Prop) : Ex → St → Prop
  | .exit _, _ => False
  | _, st => ∃ vs, ResVs P st rvs vs ∧ R (oneOf vs) st.m
theorem RetM.mono {P : Program} {rvs : List ResultVar} {R R' : LV → Mem → Prop} (h : ∀ v m, R v m → R' v m) : ∀ e s, RetM P rvs R e s → RetM P rvs R' e s := by
  intro e s hs
  cases e with
  | exit id => exact hs
  | normal => obtain ⟨vs, h1, h2⟩ := hs; exact ⟨vs, h1, h _ _ h2⟩
  | ret => obtain ⟨vs, h1, h2⟩ := hs; exact ⟨vs, h1, h _ _ h2⟩
theorem RetM.ret_ {P : Program} {rvs : List ResultVar} {R : LV → Mem → Prop} {st : St} (h : ∃ vs, ResVs P st rvs vs ∧ R (oneOf vs) st.m) : RetM P rvs R .ret st := h
theorem RetM.normal_ {P : Program} {rvs : List ResultVar} {R : LV → Mem → Prop} {st : St} (h : ∃ vs, ResVs P st rvs vs ∧ R (oneOf vs) st.m) : RetM P rvs R .normal st := h
/-- One function's calls are walked in place, those of the functions that it calls by their contracts. -/
def I1 (P : Program) (f0 : FuncId) (fn : Func) (n : Nat) : InlP := fun nb f args m R => f = f0 ∧ args.length = n ∧ ∀ c, fn.body = some c → Wp P I0 nb c (RetM P fn.results.toList R) ⟨argS args, m⟩
theorem I1.mono {P : Program} {f0 : FuncId} {fn : Func} {n : Nat} : InlM (I1 P f0 fn n) := by
  rintro nb f args m R R' h ⟨h1, h2, h3⟩
  exact ⟨h1, h2, fun c hc => Wp.mono I0.mono (RetM.mono h) (h3 c hc)⟩
theorem inl_intro {P : Program} {I : InlP} (hI : InlS P I) (hmix : P.follows .mixedOrders = true) {f : FuncId} {fn : Func} {c : Code} (hf : P.funcs[f]? = some fn) (hb : fn.body = some c) (hname : (fn.name == "runtime.NumGoroutine") = false)
    {args : List LV} {m : Mem} {R : LV → Mem → Prop} (hlen : args.length ≤ fn.ntmps) (hd : dstsOK fn.ntmps c = true) {nb : Nat} (hw : Wp P I nb c (RetM P fn.results.toList R) ⟨argS args, m⟩) :
    FuncOK P f ∧ ∀ X a w F ρ ts, Inv X ⟨ts, m⟩ a w F ρ → ∀ vs, RelL w F ρ m (.agg vs) (.agg args) →
      Calls P f vs w fun e w' => ∃ v r m' F' ρ', e = .returned v ∧ R r m' ∧ Inv X ⟨ts, m'⟩ a w' F' ρ' ∧ RelL w' F' ρ' m' v r := by
  refine ⟨⟨fn, hf, hname, by rw [hb]; rfl⟩, fun X a0 w F ρ ts h vs hrel => ?_⟩
  obtain ⟨cs, e1, e2, e3⟩ := hrel.cells
  injection e1 with e1
  subst e1
  refine calls_of_wp hf hb ?_
  have hinv : Inv ⟨X.w0, X.F0, X.O0, fun v l => X.K v l ∨ ∃ j, v = a0.tmps.getD j Go.undef ∧ l = ts j⟩ ⟨argS args, m⟩ { tmps := vs ++ Array.replicate (fn.ntmps - vs.size) undef, defers := [] } w F ρ := by
    refine ⟨rfl, fun j => ?_, h.boxes, h.place, h.inj, h.frz0, h.frz1, h.frzlt, h.ext, fun v l hv => ?_⟩
    · show RelL w F ρ m _ (argS args j)
      unfold argS
      rw [Array.getD_eq_getD_getElem?]
      by_cases hj : j < vs.size
      · rw [Array.getElem?_append_left hj, Array.getElem?_eq_getElem hj]
        have hj' : j < args.length := by omega
        rw [List.getElem?_eq_getElem hj']
        exact e3 j _ _ (Array.getElem?_eq_getElem hj) (List.getElem?_eq_getElem hj')
      · rw [List.getElem?_eq_none (by omega)]
        have : ((vs ++ Array.replicate (fn.ntmps - vs.size) undef)[j]?).getD Go.undef = Go.undef := by
          rw [Array.getElem?_append_right (by omega)]
          by_cases h2 : j - vs.size < fn.ntmps - vs.size
          · rw [Array.getElem?_eq_getElem (by simpa using h2)]
            simp
          · rw [Array.getElem?_eq_none (by simp; omega)]
            rfl
        rw [this]
        exact .frz .skip
    · rcases hv with hv | ⟨j, rfl, rfl⟩
      · exact h.kept v l hv
      · exact h.slots j
  refine wp_mono (Wp.sound hI hmix c hd hw hinv (by simp; omega)) fun e a w' hp => ?_
  obtain ⟨ex, st, F', ρ', rfl, hq, hi, -⟩ := hp
  have key : (∃ vs', ResVs P st fn.results.toList vs' ∧ R (oneOf vs') st.m) → a.defers = [] ∧ ∃ v, (results fn a.tmps).run P w' = .ok v w' ∧ ∃ v_1 r m' F' ρ', Ending.returned v = .returned v_1 ∧ R r m' ∧ Inv X ⟨ts, m'⟩ a0 w' F' ρ' ∧ RelL w' F' ρ' m' v_1 r := by
    rintro ⟨vs', h1, h2⟩
    obtain ⟨val, k1, k2⟩ := results_sound hi h1
    exact ⟨hi.defers, val, k1, val, _, st.m, F', ρ', rfl, h2, ⟨h.defers, fun j => hi.kept _ _ (.inr ⟨j, rfl, rfl⟩), hi.boxes, hi.place, hi.inj, hi.frz0, hi.frz1, hi.frzlt, hi.ext, fun v l hv => hi.kept v l (.inl hv)⟩, k2⟩
  cases ex with
  | normal => exact key hq
  | ret => exact key hq
  | exit id => exact hq.elim
theorem I1.sound {P : Program} (hmix : P.follows .mixedOrders = true) {f0 : FuncId} {fn : Func} {c : Code} {n : Nat} (hf : P.funcs[f0]? = some fn) (hb : fn.body = some c) (hname : (fn.name == "runtime.NumGoroutine") = false) (hlen : n ≤ fn.ntmps) (hd : dstsOK fn.ntmps c = true) : InlS P (I1 P f0 fn n) := by
  rintro nb f args m R ⟨rfl, h2, h3⟩
  exact inl_intro (I0.sound _) hmix hf hb hname (by rw [h2]; exact hlen) hd (h3 c hb)
section
variable {P : Program} {I : InlP} {nb : Nat} {Q : Ex → St → Prop} {ops : Array Oper} {K : St → Prop} {r : List Oper} {ts : Slots} {m : Mem} {t : Nat} {ty : TypeId} {pos : String} {af : Array Edge} {d : Bool} {i : Nat} {acc : List (Nat × List Nat × List Nat)}
/-- A call that is walked in place. -/
theorem GL.inl (hI : InlM I) {g : Operand} {as : Array Operand} {tys : Array TypeId} {f : FuncId} {caps : List LV} {nb' : Nat} {dst : Option Nat} (hg : evalO ts g = .fn f caps)
    (k : I nb' f (as.toList.map (evalO ts) ++ caps) m fun v m' => GL P I nb ops K false r (i + 1) [] ⟨putS ts dst v, m'⟩) :
    GL P I nb ops K false (⟨dst, .call { callee := .value g, args := as, argTypes := tys }, ty, pos, af, none⟩ :: r) i acc ⟨ts, m⟩ := by
  simp only [GL, wantedL]
  refine .inl (o := ⟨dst, .call { callee := .value g, args := as, argTypes := tys }, ty, pos, af, none⟩) rfl hg (hI _ _ _ _ _ _ (fun v m' h => ?_) k)
  exact GL.accI hI h
theorem GL.nilCheckF (hI : InlM I) {x : Operand} {es : List (List LV)} {j c : Nat} (hx : evalO ts x = .fad es j c) (k : GL P I nb ops K d r (i + 1) ((i, [], []) :: acc) ⟨updS ts t (.fad es j c), m⟩) :
    GL P I nb ops K d (⟨some t, .nilCheck x, ty, pos, af, none⟩ :: r) i acc ⟨ts, m⟩ := by
  have h := OpR.nilCheck (P := P) (d := nb + 64 * t) (ρ := evalO ts) (m := m) (x := x) (by rw [hx]; rfl)
  rw [hx] at h
  exact .stepP hI h k
theorem GL.nilCheckR (hI : InlM I) {x : Operand} {b g j c : Nat} {y : Box} (hx : evalO ts x = .ref b g j c) (hm : m b = some y) (hg : y.gen = g) (k : GL P I nb ops K d r (i + 1) ((i, [], [b]) :: acc) ⟨updS ts t (.ref b g j c), m⟩) :
    GL P I nb ops K d (⟨some t, .nilCheck x, ty, pos, af, none⟩ :: r) i acc ⟨ts, m⟩ := by
  have h := OpR.nilCheckR (P := P) (d := nb + 64 * t) (ρ := evalO ts) (m := m) (x := x) hx hm hg
  rw [hx] at h
  exact .stepP hI h k
end

/-! ### The table of a route -/
def tabL (i : Inst) (c n : Int) (HL : List Head) (TL : List Tail) : List LV := [.sl (em nc i.cars), .sl (em ns i.stops), .sl (em np i.pairs), .sl (em nr i.travel), .int .i64 c, .int .i64 n, .sl (em nh HL), .sl (em nl TL)]
def tabP (i : Inst) (c n : Int) (HL : List Head) (TL : List Tail) : LV := .fad [tabL i c n HL TL] 0 0
def headAt (HL : List Head) (k : Int) : Head := if k < 0 ∨ k ≥ HL.length then zeroH else HL.getD k.toNat default
def tailAt (TL : List Tail) (k : Int) : Tail := if k < 0 ∨ k ≥ TL.length then zeroTl else TL.getD k.toNat default
end Go.Proofs.Ytffnlhjdlhpmjaa.Mv

/- Pointers against nil; calls that hand over a table. -/
set_option linter.unusedVariables false
set_option linter.unusedSimpArgs false
namespace Go.Proofs.Ytffnlhjdlhpmjaa.Mv

section
variable {P : Program} {I : InlP} {nb : Nat} {Q : Ex → St → Prop} {ops : Array Oper} {K : St → Prop} {r : List Oper} {ts : Slots} {m : Mem} {t : Nat} {ty : TypeId} {pos : String} {af : Array Edge} {d : Bool} {i : Nat} {acc : List (Nat × List Nat × List Nat)}
theorem GL.nilEq (hI : InlM I) {xt yt e : TypeId} {x y : Operand} {b g j c : Nat} {z : Box} (hx : evalO ts x = .ref b g j c) (hm : m b = some z) (hg : z.gen = g) (hy : evalO ts y = .nilp) (ht : P.underlying xt = some (.pointer e)) (k : GL P I nb ops K d r (i + 1) ((i, [], [b]) :: acc) ⟨updS ts t (.bool false), m⟩) :
    GL P I nb ops K d (⟨some t, .binOp .eql xt x y yt, ty, pos, af, none⟩ :: r) i acc ⟨ts, m⟩ := .stepP hI (.nilEq hx hm hg hy ht) k
theorem GL.nilNe (hI : InlM I) {xt yt e : TypeId} {x y : Operand} {b g j c : Nat} {z : Box} (hx : evalO ts x = .ref b g j c) (hm : m b = some z) (hg : z.gen = g) (hy : evalO ts y = .nilp) (ht : P.underlying xt = some (.pointer e)) (k : GL P I nb ops K d r (i + 1) ((i, [], [b]) :: acc) ⟨updS ts t (.bool true), m⟩) :
    GL P I nb ops K d (⟨some t, .binOp .neq xt x y yt, ty, pos, af, none⟩ :: r) i acc ⟨ts, m⟩ := .stepP hI (.nilNe hx hm hg hy ht) k
/-- A call of which nothing handed in is this call's own still: what it hands over. -/
theorem GL.callN (hI : InlM I) {g : Operand} {as : Array Operand} {tys : Array TypeId} {f : FuncId} {caps args : List LV} {T : List Nat} {res v : LV} {e : List (Nat × Box)} (hg : evalO ts g = .fn f caps) (hf : Frz m (.agg (as.toList.map (evalO ts) ++ caps)) (.agg args) T) (hc : CallsV P f args res)
    (hT : unmark m (markE m T) = []) (ht : topI res = true) (hr : impT m (nb + 64 * t) res = (v, e)) (k : GL P I nb ops K d r (i + 1) ((i, Wn e, T ++ Wn e) :: acc) ⟨updS ts t v, effM m e⟩) :
    GL P I nb ops K d (⟨some t, .call { callee := .value g, args := as, argTypes := tys }, ty, pos, af, none⟩ :: r) i acc ⟨ts, m⟩ := by
  have hm : effM m (markE m T) = m := by rw [effM_unmarkE T fun n x hx => .inl hx, hT]; rfl
  cases d with
  | false =>
    simp only [GL, wantedL]
    refine .call (o := ⟨some t, .call { callee := .value g, args := as, argTypes := tys }, ty, pos, af, none⟩) rfl hg hf hc fun r' hr' => ?_
    subst hr'
    refine ⟨ht, ?_⟩
    simp only [nameO, Option.getD_some, hm, hr]
    exact GL.accI hI k
  | true =>
    simp only [GL, wantedL]
    refine ⟨_, .call (o := ⟨some t, .call { callee := .value g, args := as, argTypes := tys }, ty, pos, af, none⟩) rfl hg hf hc ht, ?_⟩
    simp only [nameO, Option.getD_some, hm, hr, hT, List.nil_append]
    exact k
/-- Any call: what it marks anew, what it hands over. -/
theorem GL.callX (hI : InlM I) {g : Operand} {as : Array Operand} {tys : Array TypeId} {f : FuncId} {caps args : List LV} {T W : List Nat} {res v : LV} {u e : List (Nat × Box)} (hg : evalO ts g = .fn f caps) (hf : Frz m (.agg (as.toList.map (evalO ts) ++ caps)) (.agg args) T) (hc : CallsV P f args res)
    (hu : unmark m (markE m T) = u) (hW : Wn u = W) (ht : topI res = true) (hr : impT (effM m u) (nb + 64 * t) res = (v, e)) (k : GL P I nb ops K d r (i + 1) ((i, W ++ Wn e, T ++ Wn e) :: acc) ⟨updS ts t v, effM (effM m u) e⟩) :
    GL P I nb ops K d (⟨some t, .call { callee := .value g, args := as, argTypes := tys }, ty, pos, af, none⟩ :: r) i acc ⟨ts, m⟩ := by
  have hm : effM m (markE m T) = effM m u := by rw [effM_unmarkE T fun n x hx => .inl hx, hu]
  cases d with
  | false =>
    simp only [GL, wantedL]
    refine .call (o := ⟨some t, .call { callee := .value g, args := as, argTypes := tys }, ty, pos, af, none⟩) rfl hg hf hc fun r' hr' => ?_
    subst hr'
    refine ⟨ht, ?_⟩
    simp only [nameO, Option.getD_some, hm, hr]
    exact GL.accI hI k
  | true =>
    simp only [GL, wantedL]
    refine ⟨_, .call (o := ⟨some t, .call { callee := .value g, args := as, argTypes := tys }, ty, pos, af, none⟩) rfl hg hf hc ht, ?_⟩
    simp only [nameO, Option.getD_some, hm, hr, hu, effM_append]
    rw [show Wn (u ++ e) = W ++ Wn e by rw [← hW]; simp [Wn]]
    exact k
end
theorem imp_tab (m : Mem) (d : Nat) (i : Inst) (c n : Int) (HL : List Head) (TL : List Tail) : impT m d (.ptro (tabL i c n HL TL)) = (.ref d (genAt m d) 0 0, [(d, ⟨genAt m d, false, .var, 8, [tabL i c n HL TL]⟩)]) := by
  simp [tabL, impT, impCs, impC]
theorem flat_ib (a : Int) (b : Bool) : FlatI (.tup [.int .i64 a, .bool b]) := .tup (.aggc (.sca rfl) (.aggc (.sca rfl) .aggn))
/-- A nil slice is a slice of none that is only read. -/
theorem Weak.nilSl {ts : Slots} {m : Mem} {j : Nat} (hj : ts j = .nils) : Weak ⟨ts, m⟩ ⟨updS ts j (.sl []), m⟩ := by
  intro X a w F ρ h
  refine ⟨F, ρ, { h with slots := fun i => ?_ }⟩
  by_cases hi : j = i
  · subst hi
    have hv := h.slots j
    change RelL w F ρ m _ (ts j) at hv
    rw [hj] at hv
    show RelL w F _ _ _ (updS ts j _ j)
    rw [updS_same, hv.nils]
    exact .frz (.sl (blk := 0) (off := 0) (sz := 0) (fun _ _ => undef) rfl (Nat.le_refl _) (fun h => absurd h (by omega)) (by simp) (by simp) (by simp))
  · show RelL w F _ _ _ (updS ts j _ i)
    rw [updS_ne _ _ hi]
    exact h.slots i
end Go.Proofs.Ytffnlhjdlhpmjaa.Mv

/- What a table of a route answers, in plain Lean. -/
set_option linter.unusedVariables false
set_option linter.unusedSimpArgs false
namespace Go.Proofs.Ytffnlhjdlhpmjaa.Mv

theorem within_le (a : Int) {n : Int} (h0 : 0 ≤ n) : 0 ≤ within a n ∧ within a n ≤ n := by
  by_cases h : n < 1
  · unfold within
    rw [if_pos h]
    omega
  · have := within_in (a := a) (n := n) (by omega)
    omega
theorem headAt_in {i : Inst} {c : Int} {l : List Int} (hT : isT i c 0 = true) {k : Int} (h0 : 0 ≤ k) (h1 : k ≤ l.length) : headAt (heads i c l) k = headOf i c (l.take k.toNat) := by
  rw [heads, if_pos hT, headAt, if_neg (by rw [headsK_len]; omega), headsK_get _ _ _ (by omega)]
theorem tailAt_in {i : Inst} {c : Int} {l : List Int} (hT : isT i c 0 = true) {k : Int} (h0 : 0 ≤ k) (h1 : k ≤ l.length) : tailAt (tails i c l) k = tailOf i c (l.drop k.toNat) := by
  rw [tails, if_pos hT, tailAt, if_neg (by rw [tailsK_len]; omega), tailsK_get _ _ _ (by omega), if_neg (Nat.not_lt_zero _)]
theorem headAt_out {i : Inst} {c : Int} {l : List Int} {k : Int} (h : k < 0 ∨ l.length < k) : headAt (heads i c l) k = zeroH := by
  rw [heads, headAt]
  split
  · rw [if_pos (by rw [headsK_len]; omega)]
  · rw [if_pos (by simp; omega)]
theorem tailAt_out {i : Inst} {c : Int} {l : List Int} {k : Int} (h : k < 0 ∨ l.length < k) : tailAt (tails i c l) k = zeroTl := by
  rw [tails, tailAt]
  split
  · rw [if_pos (by rw [tailsK_len]; omega)]
  · rw [if_pos (by simp; omega)]
theorem meet_zh {i : Inst} {c : Int} {t : Tail} : meet i c zeroH t = none := by
  rw [meet, if_neg]
  rintro ⟨-, h, -⟩
  cases h
theorem meet_zt {i : Inst} {c : Int} {h : Head} : meet i c h zeroTl = none := by
  rw [meet, if_neg]
  rintro ⟨-, -, h, -⟩
  cases h
theorem ext_zh {i : Inst} {c s : Int} : extend i c zeroH s = zeroH := by
  rw [extend, if_neg]
  rintro ⟨h, -⟩
  cases h
theorem headOf_snoc (i : Inst) (c : Int) (l : List Int) (s : Int) : headOf i c (l ++ [s]) = extend i c (headOf i c l) s := by
  unfold headOf
  rw [List.foldl_append]
  rfl
section
variable {i : Inst} {N : Nat} (hb : Sb i N) (hp : Sp i) (hsd : Sd i) {c : Int} (hc0 : 0 ≤ c) (hc1 : c < i.cars.length)
include hc0 hc1
theorem isT_car : isT i c 0 = true := isT_mk ⟨hc0, hc1, by omega, by omega⟩
include hb hp hsd
theorem t_insert {l : List Int} (hl : l.length ≤ 900) {k : Int} (h0 : 0 ≤ k) (h1 : k ≤ l.length) (s : Int) : meet i c (extend i c (headAt (heads i c l) k) s) (tailAt (tails i c l) k) = (eval i c (l.take k.toNat ++ [s] ++ l.drop k.toNat)).map (·.t2) := by
  rw [headAt_in (isT_car hc0 hc1) h0 h1, tailAt_in (isT_car hc0 hc1) h0 h1, ← headOf_snoc, meet_eval hb hp hsd hc0 hc1 _ _ (by rw [List.length_append, List.length_take, List.length_drop]; simp; omega)]
theorem t_cross {l l2 : List Int} (hl : l.length ≤ 400) (hl2 : l2.length ≤ 400) {k m : Int} (h0 : 0 ≤ k) (h1 : k ≤ l.length) (m0 : 0 ≤ m) (m1 : m ≤ l2.length) : meet i c (headAt (heads i c l) k) (tailAt (tails i c l2) m) = (eval i c (l.take k.toNat ++ l2.drop m.toNat)).map (·.t2) := by
  rw [headAt_in (isT_car hc0 hc1) h0 h1, tailAt_in (isT_car hc0 hc1) m0 m1, meet_eval hb hp hsd hc0 hc1 _ _ (by rw [List.length_take, List.length_drop]; omega)]
theorem t_remove {l : List Int} (hl : l.length ≤ 400) {k : Int} (h0 : 0 ≤ k) (h1 : k < l.length) : meet i c (headAt (heads i c l) k) (tailAt (tails i c l) (wadd k 1)) = (eval i c (l.take k.toNat ++ l.drop (k + 1).toNat)).map (·.t2) := by
  rw [wadd_small (by omega)]
  exact t_cross hb hp hsd hc0 hc1 hl hl h0 (by omega) (by omega) (by omega)
theorem t_whole {l : List Int} (hl : l.length ≤ 400) : meet i c (headAt (heads i c l) l.length) (tailAt (tails i c l) l.length) = (eval i c l).map (·.t2) := by
  rw [t_cross hb hp hsd hc0 hc1 hl hl (Int.natCast_nonneg _) (Int.le_refl _) (Int.natCast_nonneg _) (Int.le_refl _), Int.toNat_natCast, List.take_length, List.drop_length, List.append_nil]
theorem t_self {l : List Int} (hl : l.length ≤ 400) {k : Int} (h0 : 0 ≤ k) (h1 : k ≤ l.length) : meet i c (headAt (heads i c l) k) (tailAt (tails i c l) k) = (eval i c l).map (·.t2) := by
  rw [t_cross hb hp hsd hc0 hc1 hl hl h0 h1 h0 h1, List.take_append_drop]
end
end Go.Proofs.Ytffnlhjdlhpmjaa.Mv

/- Steps: maps that are ranged over, slices against nil. -/
set_option linter.unusedVariables false
set_option linter.unusedSimpArgs false
namespace Go.Proofs.Ytffnlhjdlhpmjaa.Mv
/-- The end of a slice of this call's own. -/
theorem Frz.tail {m : Mem} {b g k n : Nat} {cap : Option Nat} {x : Box} {α : Type} {f : α → List LV} {l : List α} (hm : m b = Option.some x) (hg : x.gen = g) (hk : x.kind = .slc) (he : x.es = em f l) (hn : k + n = l.length) : Frz m (.own b g k n cap) (.sl (em f (l.drop k))) [b] := by
  have hl : x.es.length = l.length := by rw [he, em_len]
  have := Frz.own (m := m) (b := b) (g := g) (off := k) (len := n) (cap := cap) hm hg hk (by omega)
  rw [he, List.take_of_length_le (by rw [List.length_drop, em_len]; omega)] at this
  rwa [show em f (l.drop k) = (em f l).drop k by simp [em]]
section
variable {P : Program} {I : InlP} {nb : Nat} {Q : Ex → St → Prop} {ops : Array Oper} {K : St → Prop} {r : List Oper} {ts : Slots} {m : Mem} {t : Nat} {ty : TypeId} {pos : String} {af : Array Edge} {d : Bool} {i : Nat} {acc : List (Nat × List Nat × List Nat)}
theorem GL.any (hI : InlM I) {op : Op} {R : LV → List (Nat × Box) → Prop} (h : OpN P (evalO ts) m op R) (k : ∀ v eff, R v eff → GL P I nb ops K false r (i + 1) acc ⟨updS ts t v, effM m eff⟩) : GL P I nb ops K false (⟨some t, op, ty, pos, af, none⟩ :: r) i acc ⟨ts, m⟩ := by
  simp only [GL, wantedL]
  exact .any (o := ⟨some t, op, ty, pos, af, none⟩) h fun v eff hr => k v eff hr
/-- A slice that is only read, against nil: empty ones may be it. -/
theorem GL.nilSl (hI : InlM I) {st e u : TypeId} {x y : Operand} {es : List (List LV)} (ht : P.underlying st = some (.slice e)) (hx : evalO ts x = .sl es) (hy : evalO ts y = .nils)
    (k : ∀ b : Bool, (b = true → es = []) → GL P I nb ops K false r (i + 1) acc ⟨updS ts t (.bool b), m⟩) : GL P I nb ops K false (⟨some t, .binOp .eql st x y u, ty, pos, af, none⟩ :: r) i acc ⟨ts, m⟩ := by
  refine .any hI (.nilEq ht hx hy) fun v eff hr => ?_
  obtain ⟨rfl, b, rfl, hb⟩ := hr
  exact k b hb
theorem GL.nilSlN (hI : InlM I) {st e u : TypeId} {x y : Operand} {es : List (List LV)} (ht : P.underlying st = some (.slice e)) (hx : evalO ts x = .sl es) (hy : evalO ts y = .nils)
    (k : ∀ b : Bool, (b = false → es = []) → GL P I nb ops K false r (i + 1) acc ⟨updS ts t (.bool b), m⟩) : GL P I nb ops K false (⟨some t, .binOp .neq st x y u, ty, pos, af, none⟩ :: r) i acc ⟨ts, m⟩ := by
  refine .any hI (.nilNe ht hx hy) fun v eff hr => ?_
  obtain ⟨rfl, b, rfl, hb⟩ := hr
  exact k b hb
theorem GL.buildSlice00 (hI : InlM I) {st e : TypeId} {n : Nat} (ht : sliceE P st = some e) (hs : szT P e = some n) (hn : 0 < n) (k : ∀ g, GL P I nb ops K d r (i + 1) ((i, [nb + 64 * t], [nb + 64 * t]) :: acc) ⟨updS ts t (.own (nb + 64 * t) g 0 0 none), updM m (nb + 64 * t) ⟨g, false, .slc, n, []⟩⟩) :
    GL P I nb ops K d (⟨some t, .buildSlice st 0 #[], ty, pos, af, none⟩ :: r) i acc ⟨ts, m⟩ := .step hI (.buildSlice00 ht hs hn) (by simp) (k _)
/-- The end of a slice of this call's own, cut off. -/
theorem GL.sliceFromO (hI : InlM I) {st e : TypeId} {x lo : Operand} {kk : IntKind} {n : Int} {b g off len j len' : Nat} {y : Box} {sz : Nat} (ht : sliceE P st = some e) (hs : szT P e = some sz) (hx : evalO ts x = .own b g off len none) (hm : m b = some y) (hg : y.gen = g) (hk : y.kind = .slc) (hz : y.sz = sz) (hl : evalO ts lo = .int kk n)
    (h0 : 0 ≤ n) (h1 : n ≤ (len : Int)) (h2 : off + len ≤ y.es.length) (hj : off + n.toNat = j) (hl' : len - n.toNat = len') (k : GL P I nb ops K d r (i + 1) ((i, [], [b]) :: acc) ⟨updS ts t (.own b g j len' none), m⟩) : GL P I nb ops K d (⟨some t, .slice st x (some lo) none none, ty, pos, af, none⟩ :: r) i acc ⟨ts, m⟩ := by
  subst hj hl'
  exact .stepP hI (.slice (l := n.toNat) (h := len) hx hm hg hk ht (hz ▸ hs) (by simp only [bndL]; rw [hl]; simp only [h0, if_true]) rfl (by omega) h2 (by simp)) k
/-- A map that is ranged over: it is only read from here on. -/
theorem GL.range (hI : InlM I) {mt kt et : TypeId} {x : Operand} {es : List (List LV)} {T : List Nat} {m' : Mem} (ht : P.underlying mt = some (.map kt et)) (hx : Frz m (evalO ts x) (.fmap es) T) (hm : effM m (markE m T) = m')
    (k : ∀ g, GL P I nb ops K false r (i + 1) acc ⟨updS ts t (.mref (nb + 64 * t) g), updM m' (nb + 64 * t) ⟨g, false, .mp, 3, [] :: es⟩⟩) : GL P I nb ops K false (⟨some t, .range mt x, ty, pos, af, none⟩ :: r) i acc ⟨ts, m⟩ := by
  subst hm
  simp only [GL, wantedL]
  refine .op (o := ⟨some t, .range mt x, ty, pos, af, none⟩) (.range ht hx) ?_
  rw [effM_append]
  exact k _
theorem GL.next (hI : InlM I) {x : Operand} {b g : Nat} {y : Box} {h : List LV} {es : List (List LV)} (hx : evalO ts x = .mref b g) (hm : m b = some y) (hg : y.gen = g) (hf : y.frz = false) (hk : y.kind = .mp) (hn : y.sz = 3) (he : y.es = h :: es)
    (k0 : es = [] → GL P I nb ops K false r (i + 1) acc ⟨updS ts t (.tup [.bool false]), m⟩)
    (k1 : ∀ (j : Nat) (k v : LV), es[j]? = some [k, v] → GL P I nb ops K false r (i + 1) acc ⟨updS ts t (.tup [.bool true, k, v]), updM m b ⟨g, false, .mp, 3, [k, v] :: es.eraseIdx j⟩⟩) :
    GL P I nb ops K false (⟨some t, .next x false, ty, pos, af, none⟩ :: r) i acc ⟨ts, m⟩ := by
  refine .any hI (.next hx hm hg hf hk hn he) fun v eff hr => ?_
  rcases hr with ⟨h0, rfl, rfl⟩ | ⟨j, k, w, h1, rfl, rfl⟩
  · exact k0 h0
  · have := k1 j k w h1
    simp only [effM, hg, hf, hk, hn]
    exact this
theorem GL.entry (hI : InlM I) {x : Operand} {b g : Nat} {y : Box} {k v : LV} {es : List (List LV)} (hx : evalO ts x = .mref b g) (hm : m b = some y) (hg : y.gen = g) (hk : y.kind = .mp) (hn : y.sz = 3) (he : y.es = [k, v] :: es)
    (kk : GL P I nb ops K d r (i + 1) ((i, [], [b]) :: acc) ⟨updS ts t (.tup [k, v]), m⟩) : GL P I nb ops K d (⟨some t, .entry x, ty, pos, af, none⟩ :: r) i acc ⟨ts, m⟩ := .stepP hI (.entry hx hm hg hk hn he) kk
end
end Go.Proofs.Ytffnlhjdlhpmjaa.Mv

/- Proofs that a route can be driven, in plain Lean. -/
set_option linter.unusedVariables false
set_option linter.unusedSimpArgs false
namespace Go.Proofs.Ytffnlhjdlhpmjaa.Mv
structure Cert where
  car : Int
  stops : List Int
  arrive : List Int
  load : List Int
  cost : Int
  deriving DecidableEq, Inhabited
def zeroC : Cert := ⟨0, [], [], [], 0⟩
/-- What is driven, told. -/
def certOf (i : Inst) (c : Int) (l : List Int) : Option Cert := (eval i c l).map fun T => ⟨c, l, T.t0, T.t1, T.t2⟩
def kc (c : Cert) : List LV := [.int .i64 c.car, .sl (em ni c.stops), .sl (em ni c.arrive), .sl (em ni c.load), .int .i64 c.cost]
def ec (c : Cert) : LV := .agg (kc c)
def kco (c : Cert) : List LV := [.int .i64 c.car, .slo 1 (em ni c.stops), .slo 1 (em ni c.arrive), .slo 1 (em ni c.load), .int .i64 c.cost]
def certO (o : Option Cert) : LV := .tup [.agg (kco (o.getD zeroC)), .bool o.isSome]
def certR (o : Option Cert) : LV := .tup [.agg (kc (o.getD zeroC)), .bool o.isSome]
/-- Does it prove its route? -/
def right (i : Inst) (c : Cert) : Bool :=
  match eval i c.car c.stops with
  | some T => decide (T.t0 = c.arrive) && decide (T.t1 = c.load) && decide (T.t2 = c.cost)
  | none => false
theorem flat_certO (o : Option Cert) : FlatI (certO o) := .tup (.aggc (.aggc (.sca rfl) (.aggc (.slo (flat_ni _)) (.aggc (.slo (flat_ni _)) (.aggc (.slo (flat_ni _)) (.aggc (.sca rfl) .aggn))))) (.aggc (.sca rfl) .aggn))
theorem imp_certO (m : Mem) (d : Nat) (o : Option Cert) : impT m d (certO o) = (.tup [.agg [.int .i64 (o.getD zeroC).car, .own d (genAt m d) 0 (o.getD zeroC).stops.length none, .own (d + 1) (genAt m (d + 1)) 0 (o.getD zeroC).arrive.length none, .own (d + 1 + 1) (genAt m (d + 1 + 1)) 0 (o.getD zeroC).load.length none, .int .i64 (o.getD zeroC).cost], .bool o.isSome],
    [(d, ⟨genAt m d, false, .slc, 1, em ni (o.getD zeroC).stops⟩), (d + 1, ⟨genAt m (d + 1), false, .slc, 1, em ni (o.getD zeroC).arrive⟩), (d + 1 + 1, ⟨genAt m (d + 1 + 1), false, .slc, 1, em ni (o.getD zeroC).load⟩)]) := by
  simp [certO, kco, impT, impVs, impV, impCs, impC, em_len]
end Go.Proofs.Ytffnlhjdlhpmjaa.Mv

/- Steps: calls that are lent memory; slices that are cut. -/
set_option linter.unusedVariables false
set_option linter.unusedSimpArgs false
namespace Go.Proofs.Ytffnlhjdlhpmjaa.Mv
/-- A slice's beginning, alone: what lies behind it is forgotten, and the older headers too. -/
theorem Weak.cutSl {ts : Slots} {m : Mem} {j b g i : Nat} {x : Box} (hj : ts j = .own b g 0 i none) (hm : m b = some x) (hg : x.gen = g) (hf : x.frz = false) (hk : x.kind = .slc) (hi : i ≤ x.es.length) :
    Weak ⟨ts, m⟩ ⟨updS ts j (.own b (g + 1) 0 i none), updM m b ⟨g + 1, false, .slc, x.sz, x.es.take i⟩⟩ := by
  intro X a w F ρ h
  have hv := h.slots j
  change RelL w F ρ m _ (ts j) at hv
  rw [hj] at hv
  obtain ⟨-, -, hh⟩ := hv.toOwn hm hg
  have hbx := BoxOK.cells (by rw [hk]; simp) (h.boxes b x hm)
  have h1 : Inv X ⟨ts, updM m b ⟨g + 1, false, .slc, x.sz, x.es.take i⟩⟩ a w F ρ := by
    refine h.write (n := b) (x' := ⟨g + 1, false, .slc, x.sz, x.es.take i⟩) rfl rfl rfl (Nat.le_refl _) (fun _ _ _ => rfl) (fun _ _ => rfl) rfl (fun y hy => ?_) (fun l hl => ⟨(h.place b x l hm hl).1, .inr ⟨x, l, hm, hf, hl, rfl⟩⟩) fun hcm _ => ?_
    · change m b = some y at hy
      rw [hm] at hy
      injection hy with hy
      subst hy
      exact .inr (by rw [hg]; exact Nat.lt_succ_self g)
    · refine BoxOK.of_cells (by simp) ?_
      cases hr : ρ b with
      | none =>
        rw [hr] at hbx
        have : x.es = [] := hbx
        show x.es.take i = []
        rw [this]
        simp
      | some l =>
        rw [hr] at hbx
        obtain ⟨cs, t, g1, g2, g3, g4, g5⟩ := hbx
        rw [hk] at g5
        refine ⟨cs, t, g1, g2, Nat.le_trans (by simp; omega) g3, fun e he => g4 e (List.mem_of_mem_take he), fun k e c q he hq => ?_⟩
        have he' : x.es[k]? = some e := by
          rw [List.getElem?_take] at he
          split at he
          · exact he
          · cases he
        exact g5 k e c q he' hq
  refine ⟨F, ρ, { h1 with slots := fun k => ?_ }⟩
  by_cases hk' : j = k
  · subst hk'
    show RelL w F ρ _ _ (updS ts j _ j)
    rw [updS_same]
    refine .own (x := ⟨g + 1, false, .slc, x.sz, x.es.take i⟩) ?_ (updM_same _ _ _) (Nat.le_refl _) fun _ => ⟨rfl, by simp; omega, ?_⟩
    · cases hr : ρ b with
      | none => rw [hr] at hh; obtain ⟨a0, hh⟩ := hh; rw [hh]; rfl
      | some lc => rw [hr] at hh; obtain ⟨ao, cap', hv2, -⟩ := hh; rw [hv2]; rfl
    · cases hr : ρ b with
      | none => rw [hr] at hh; exact hh
      | some lc => rw [hr] at hh; exact hh
  · show RelL w F ρ _ _ (updS ts j _ k)
    rw [updS_ne _ _ hk']
    exact h1.slots k
theorem Frz.cons0 {m : Mem} {l : LV} {cs : List LV} (h : Frz m l l []) (hc : cs.all pureL = true) : Frz m (.agg (l :: cs)) (.agg (l :: cs)) [] := Frz.aggc (S := []) (T := []) h (Frz.pures hc)

section
variable {P : Program} {I : InlP} {nb : Nat} {Q : Ex → St → Prop} {ops : Array Oper} {K : St → Prop} {r : List Oper} {ts : Slots} {m : Mem} {t : Nat} {ty : TypeId} {pos : String} {af : Array Edge} {d : Bool} {i : Nat} {acc : List (Nat × List Nat × List Nat)}
theorem GL.indexAr (hI : InlM I) {xt e : TypeId} {x ix : Operand} {kk : IntKind} {n : Int} {len j : Nat} {cs : List LV} {v : LV} (ht : arrayE P xt = some (len, e)) (hs : szT P e = some 1) (ha : isAggT P e = some false) (hx : evalO ts x = .agg cs) (hi : evalO ts ix = .int kk n) (h0 : 0 ≤ n) (h1 : n < (len : Int)) (hj : n.toNat = j) (hv : cs[j]? = some v)
    (k : GL P I nb ops K d r (i + 1) ((i, [], []) :: acc) ⟨updS ts t v, m⟩) : GL P I nb ops K d (⟨some t, .index xt x ix, ty, pos, af, none⟩ :: r) i acc ⟨ts, m⟩ := .stepP hI (.indexAr hx hi ht hs ha h0 h1 (hj ▸ hv)) k
theorem GL.clear (hI : InlM I) {x : Operand} {st e : TypeId} {b g off len : Nat} {cap : Option Nat} {y : Box} {z : List LV} {es' : List (List LV)} (ht : sliceE P st = some e) (hz : zeroL P e = some z) (hzl : 0 < z.length) (hone : z.all oneC = true) (hx : evalO ts x = .own b g off len cap) (hm : m b = some y) (hg : y.gen = g) (hf : y.frz = false) (hk : y.kind = .slc)
    (hzs : z.length = y.sz) (hl : off + len ≤ y.es.length) (he : y.es.take off ++ List.replicate len (z.map pureC) ++ y.es.drop (off + len) = es') (k : GL P I nb ops K d r (i + 1) ((i, [b], [b]) :: acc) ⟨ts, updM m b ⟨g, false, .slc, y.sz, es'⟩⟩) :
    GL P I nb ops K d (⟨none, .call { callee := .builtin .clear, args := #[x], argTypes := #[st] }, ty, pos, af, none⟩ :: r) i acc ⟨ts, m⟩ := by
  subst he
  have hr := OpR.clear (P := P) (d := nb + 64 * 4000) (ρ := evalO ts) (m := m) hx hm hg hf hk ht hz hzs hzl hone hl
  cases d with
  | false =>
    simp only [GL, wantedL]
    refine .op (o := ⟨none, .call { callee := .builtin .clear, args := #[x], argTypes := #[st] }, ty, pos, af, none⟩) hr ?_
    simp only [effM, hg, hf, hk]
    exact GL.accI hI k
  | true =>
    simp only [GL, wantedL]
    refine ⟨_, .op (o := ⟨none, .call { callee := .builtin .clear, args := #[x], argTypes := #[st] }, ty, pos, af, none⟩) hr, ?_⟩
    rw [unmark_new (by simp [hf])]
    simp only [effM, hg, hf, hk]
    exact k
/-- A call that is handed memory for good. -/
theorem GL.lend (hI : InlM I) {g : Operand} {as : Array Operand} {tys : Array TypeId} {f : FuncId} {caps args : List LV} {T M : List Nat} {dst : Option Nat} {R : LV → LV → Prop} {m1 m2 : Mem} (hg : evalO ts g = .fn f caps) (he : Exp m (.agg (as.toList.map (evalO ts) ++ caps)) (.agg args) T M)
    (hM : M.Nodup) (hMT : ∀ n ∈ M, n ∉ T) (hc : CallsM P f args none R) (h1 : effM m (markE m T) = m1) (h2 : effM m1 (lendE m1 [] M) = m2)
    (k : ∀ res q, R res q → topI res = true ∧ GL P I nb ops K false r (i + 1) acc ⟨putS ts dst (impT m2 (nb + 64 * dst.getD 4000) res).1, effM m2 (impT m2 (nb + 64 * dst.getD 4000) res).2⟩) :
    GL P I nb ops K false (⟨dst, .call { callee := .value g, args := as, argTypes := tys }, ty, pos, af, none⟩ :: r) i acc ⟨ts, m⟩ := by
  subst h2 h1
  simp only [GL, wantedL]
  exact .lend (o := ⟨dst, .call { callee := .value g, args := as, argTypes := tys }, ty, pos, af, none⟩) rfl hg he hM hMT hc fun res q hr => k res q hr
/-- A call that is lent memory; one argument is given back. -/
theorem GL.lend1 (hI : InlM I) {g : Operand} {as : Array Operand} {tys : Array TypeId} {f : FuncId} {caps args : List LV} {T M : List Nat} {dst : Option Nat} {R : LV → LV → Prop} {j : Nat} {u : LV} {m1 : Mem} (hg : evalO ts g = .fn f caps) (he : Exp m (.agg (as.toList.map (evalO ts) ++ caps)) (.agg args) T M)
    (hM : M.Nodup) (hMT : ∀ n ∈ M, n ∉ T) (hc : CallsM P f args (some j) R) (hu : (as.toList.map (evalO ts) ++ caps)[j]? = some u) (h1 : effM m (markE m T) = m1)
    (k : ∀ res q, R res q → topI res = true ∧ ∃ b x, Back1 m1 u q b x ∧ b ∈ M ∧ b < 1000000000 ∧ ∃ m2 m3, effM m1 (lendE m1 [(b, x)] M) = m2 ∧ effM m2 (fill1 m2 (nb + 64 * dst.getD 4000) b x q) = m3 ∧
      GL P I nb ops K false r (i + 1) acc ⟨putS ts dst (impT m3 (nb + 64 * dst.getD 4000) res).1, effM m3 (impT m3 (nb + 64 * dst.getD 4000) res).2⟩) :
    GL P I nb ops K false (⟨dst, .call { callee := .value g, args := as, argTypes := tys }, ty, pos, af, none⟩ :: r) i acc ⟨ts, m⟩ := by
  subst h1
  simp only [GL, wantedL]
  refine .lend1 (o := ⟨dst, .call { callee := .value g, args := as, argTypes := tys }, ty, pos, af, none⟩) rfl hg he hM hMT hc hu fun res q hr => ?_
  obtain ⟨h2, b, x, h3, h4, h5, m2, m3, e2, e3, h6⟩ := k res q hr
  refine ⟨b, x, h2, h3, h4, h5, fun n1 n2 q1 q2 => ?_⟩
  have z1 : m2 = n1 := e2.symm.trans q1
  subst z1
  have z2 : m3 = n2 := e3.symm.trans q2
  subst z2
  exact h6
/-- A slice of this call's own is sorted, or the like: the slice is given back. -/
theorem GL.lendS (hI : InlM I) {g : Operand} {as : Array Operand} {tys : Array TypeId} {f : FuncId} {caps args : List LV} {T : List Nat} {dst : Option Nat} {b gb n sz : Nat} {es es' : List (List LV)} {x : Box} {rest : List LV} (hg : evalO ts g = .fn f caps) (hu : as.toList.map (evalO ts) ++ caps = .own b gb 0 n none :: rest)
    (hm : m b = some x) (hgb : x.gen = gb) (hf : x.frz = false) (hk : x.kind = .slc) (hes : x.es = es) (hn : n = es.length) (h0 : 0 < n) (hsz : x.sz = sz) (hlen : es'.length = es.length) (hfr : Frz m (.agg rest) (.agg args) []) (hb : b < 1000000000)
    (hc : CallsM P f (.slo sz es :: args) (some 0) fun res q => res = .tup [] ∧ q = .slo sz es') (k : GL P I nb ops K false r (i + 1) acc ⟨putS ts dst (.tup []), updM m b ⟨gb, false, .slc, sz, es'⟩⟩) :
    GL P I nb ops K false (⟨dst, .call { callee := .value g, args := as, argTypes := tys }, ty, pos, af, none⟩ :: r) i acc ⟨ts, m⟩ := by
  subst hes hn hsz
  have he : Exp m (.agg (as.toList.map (evalO ts) ++ caps)) (.agg (.slo x.sz x.es :: args)) ([] ++ []) ([b] ++ []) := by
    rw [hu]
    have := Exp.slo (m := m) (b := b) (g := gb) (off := 0) (len := x.es.length) hm hgb hf hk (by omega)
    rw [List.drop_zero] at this
    exact .aggc this (.frz hfr)
  refine GL.lend1 hI (u := .own b gb 0 x.es.length none) hg he (by simp) (by simp) hc (by rw [hu]; rfl) rfl fun res q hr => ?_
  obtain ⟨rfl, rfl⟩ := hr
  refine ⟨rfl, b, ⟨gb, false, .slc, x.sz, es'⟩, .slc hm hgb hk rfl h0 rfl hlen, by simp, hb, _, _, rfl, rfl, ?_⟩
  have e : effM (effM m (markE m ([] ++ []))) (lendE (effM m (markE m ([] ++ []))) [(b, ⟨gb, false, .slc, x.sz, es'⟩)] ([b] ++ [])) = updM m b ⟨gb, false, .slc, x.sz, es'⟩ := by
    simp [lendE, findB, markE, effM]
  rw [e]
  exact k
/-- A slice of this call's own is handed over; another one, or what is left of it, comes back. -/
theorem GL.lendT (hI : InlM I) {g : Operand} {as : Array Operand} {tys : Array TypeId} {f : FuncId} {caps args : List LV} {b gb n sz n' : Nat} {es es' : List (List LV)} {x : Box} {rest : List LV} (hg : evalO ts g = .fn f caps) (hu : as.toList.map (evalO ts) ++ caps = .own b gb 0 n none :: rest)
    (hm : m b = some x) (hgb : x.gen = gb) (hf : x.frz = false) (hk : x.kind = .slc) (hes : x.es = es) (hn : n = es.length) (hsz : x.sz = sz) (hfr : Frz m (.agg rest) (.agg args) [])
    (hc : CallsM P f (.slo sz es :: args) none fun res q => res = .slo sz es') (hn' : es'.length = n')
    (k : ∀ y g2, GL P I nb ops K false r (i + 1) acc ⟨updS ts t (.own (nb + 64 * t) g2 0 n' none), updM (updM m b y) (nb + 64 * t) ⟨g2, false, .slc, sz, es'⟩⟩) :
    GL P I nb ops K false (⟨some t, .call { callee := .value g, args := as, argTypes := tys }, ty, pos, af, none⟩ :: r) i acc ⟨ts, m⟩ := by
  subst hes hn hsz hn'
  have he : Exp m (.agg (as.toList.map (evalO ts) ++ caps)) (.agg (.slo x.sz x.es :: args)) ([] ++ []) ([b] ++ []) := by
    rw [hu]
    have := Exp.slo (m := m) (b := b) (g := gb) (off := 0) (len := x.es.length) hm hgb hf hk (by omega)
    rw [List.drop_zero] at this
    exact .aggc this (.frz hfr)
  refine GL.lend hI hg he (by simp) (by simp) hc rfl rfl fun res q hr => ?_
  subst hr
  refine ⟨rfl, ?_⟩
  simp only [impT, impV, impC, Option.getD_some, putS, effM]
  exact k _ _
end
end Go.Proofs.Ytffnlhjdlhpmjaa.Mv

/- The library's sort of integers, as a contract of a function that is lent a slice. -/
set_option linter.unusedVariables false
set_option linter.unusedSimpArgs false
namespace Go.Proofs.Ytffnlhjdlhpmjaa.Mv
open Go.Sort
theorem RelI.sole {w : World} {F : Nat → Prop} {vs : Array Value} {l : LV} {O : List Nat} (h : RelI w F (.agg vs) (.agg [l]) O) : ∃ v, vs = #[v] ∧ RelI w F v l O := by
  cases h with
  | frz h =>
    cases h with
    | agg hn h =>
      have h1 : vs.size = 1 := hn
      have e : vs = #[vs[0]'(by omega)] := by
        apply Array.ext
        · simp [h1]
        · intro i q1 q2
          have : i = 0 := by simp at q2; exact q2
          subst this
          rfl
      refine ⟨_, e, .frz (h 0 _ _ (Array.getElem?_eq_getElem (by omega)) rfl)⟩
  | aggc h hs =>
    cases hs with
    | frz h2 =>
      cases h2 with
      | agg hn _ =>
        rename_i vs' _ _
        have : vs' = [] := List.eq_nil_of_length_eq_zero (by simpa using hn)
        subst this
        exact ⟨_, rfl, by rw [List.append_nil]; exact h⟩
    | aggn => exact ⟨_, rfl, by rw [List.append_nil]; exact h⟩
theorem heap_put {w : World} {n blk off : Nat} {d : Array Int} {os : Array Obj} {cs : Array Value} {t : TypeId} {z : Nat × Nat} (hb : w.heap[blk]? = some (.cells cs t z)) :
    (grow (putRow (Value.int .i64) (Sort.ahead w n) blk off d) os).heap[blk]? = some (.cells (putCells (Value.int .i64) off d cs) t z) := by
  obtain ⟨hlt, he⟩ := Array.getElem?_eq_some_iff.1 hb
  show ((w.heap.modify blk (onCells (putCells (Value.int .i64) off d))) ++ os)[blk]? = _
  rw [Array.getElem?_append_left (by simpa using hlt), Array.getElem?_modify]
  simp [hb, onCells]
theorem heap_put_ne {w : World} {n blk off : Nat} {d : Array Int} {os : Array Obj} {k : Nat} (hk : k < w.heap.size) (hn : k ≠ blk) : (grow (putRow (Value.int .i64) (Sort.ahead w n) blk off d) os).heap[k]? = w.heap[k]? := by
  show ((w.heap.modify blk (onCells (putCells (Value.int .i64) off d))) ++ os)[k]? = _
  rw [Array.getElem?_append_left (by simpa using hk), Array.getElem?_modify, if_neg (Ne.symm hn)]
def sorted (zs : List Int) : List Int := zs.mergeSort fun x y => decide (x ≤ y)
theorem sorted_len (zs : List Int) : (sorted zs).length = zs.length := List.length_mergeSort _
theorem sortM {P : Program} {f : FuncId} (hok : FuncOK P f)
    (h1 : ∀ (blk off cap : Nat) (zs : List Int) (w : World), Holds (Value.int .i64) w blk off zs.toArray → blk < w.heap.size → zs.length < 4611686018427387904 →
      Calls P f #[.slice (some ⟨blk, off, none⟩) zs.length cap] w fun e w' => e = .returned (.tuple #[]) ∧ ∃ n os, w' = grow (putRow (Value.int .i64) (Sort.ahead w n) blk off (zs.mergeSort fun x y => decide (x ≤ y)).toArray) os)
    (h0 : ∀ (p : Option Addr) (cap : Nat) (w : World), Calls P f #[.slice p 0 cap] w fun e w' => e = .returned (.tuple #[]) ∧ w' = w)
    (zs : List Int) (hz : zs.length < 4611686018427387904) : CallsM P f [.slo 1 (em (fun n => [.int .i64 n]) zs)] (some 0) fun res q => res = .tup [] ∧ q = .slo 1 (em (fun n => [.int .i64 n]) (sorted zs)) := by
  refine ⟨hok, fun w F vs O hrel hnd hlt hO => ?_⟩
  obtain ⟨v, rfl, hv⟩ := hrel.sole
  have nil : ∀ (p : Option Addr) (cap : Nat), v = .slice p 0 cap → zs = [] → RelI w F v (.slo 1 []) O → Calls P f #[v] w fun e w' => ∃ v' res q F' O1 O2, e = .returned v' ∧ (res = .tup [] ∧ q = .slo 1 (em (fun n => [.int .i64 n]) (sorted zs))) ∧ Ext O w w' ∧ (∀ b, F b → F' b) ∧ (∀ b, F' b → F b ∨ b ∈ O ∨ w.heap.size ≤ b) ∧ (∀ b, F' b → b < w'.heap.size) ∧
      RelI w' F' v' res O1 ∧ (∀ k, some 0 = some k → RelI w' F' (#[v].getD k Go.undef) q O2) ∧ (some 0 = none → O2 = []) ∧ (O1 ++ O2).Nodup ∧ ∀ b ∈ O1 ++ O2, b < w'.heap.size ∧ ¬ F' b ∧ (b ∈ O ∨ w.heap.size ≤ b) := by
    intro p cap e1 e2 hr
    subst e1 e2
    refine (h0 p cap w).mono fun e w' he => ?_
    obtain ⟨rfl, rfl⟩ := he
    refine ⟨_, _, _, F, [], O, rfl, ⟨rfl, rfl⟩, Ext.refl _ _, fun b h => h, fun b h => .inl h, hlt, .frz (.tup rfl fun i v l hv => by simp at hv), fun k hk => ?_, by simp, by simpa using hnd, fun b hb => ?_⟩
    · cases hk
      have e3 : sorted [] = [] := List.eq_nil_of_length_eq_zero (by rw [sorted_len]; rfl)
      rw [e3]
      exact hr
    · exact ⟨(hO b (by simpa using hb)).1, (hO b (by simpa using hb)).2, .inl (by simpa using hb)⟩
  cases zs with
  | nil =>
    cases hv with
    | frz h => cases h
    | slo0 => exact nil _ _ rfl rfl .slo0
    | slo hl hc hb hf hsz hcell =>
      rename_i len cap cs t
      have : len = 0 := hl
      subst this
      exact nil _ _ rfl rfl (.slo hl hc hb hf hsz hcell)
  | cons z zs =>
    generalize hZ : z :: zs = Z at hv hz nil ⊢
    have hpos : 0 < Z.length := by rw [← hZ]; simp
    generalize hE : em (fun n => [LV.int .i64 n]) Z = E at hv
    have hEl : E.length = Z.length := by rw [← hE, em_len]
    cases hv with
    | frz h => cases h
    | slo0 => simp at hEl; omega
    | slo hl hc hb hf hsz hcell =>
      rename_i blk off len cap cs t
      have hlen : len = Z.length := by rw [hl, hEl]
      subst hE
      subst hlen
      obtain ⟨hblk, -⟩ := Array.getElem?_eq_some_iff.1 hb
      have hget : ∀ j, j < Z.length → cs[off + j]? = some (.int .i64 (Z.getD j default)) := fun j hj => by
        obtain ⟨v, h1, h2⟩ := hcell j _ 0 _ (em_get (f := fun n => [LV.int .i64 n]) hj) rfl
        cases h2
        simpa using h1
      have hH : Holds (Value.int .i64) w blk off Z.toArray := fun j hj => by
        have hj' : j < Z.length := by simpa using hj
        refine ⟨?_, ?_⟩
        · simp only [World.cell?, hb, Option.isSome_none]
          rw [if_neg (by simp), hget j hj']
          simp [hj', List.getD]
        · simp only [World.frozen?, hb]
          simp
      refine (h1 blk off cap Z w hH hblk hz).mono fun e w' he => ?_
      obtain ⟨rfl, n, os, rfl⟩ := he
      have hsz' : w.heap.size ≤ (grow (putRow (Value.int .i64) (Sort.ahead w n) blk off (Z.mergeSort fun x y => decide (x ≤ y)).toArray) os).heap.size := by
        show _ ≤ ((w.heap.modify blk _) ++ os).size
        simp
      refine ⟨_, _, _, F, [], [blk], rfl, ⟨rfl, rfl⟩, ⟨rfl, rfl, rfl, hsz', fun k hk hn => heap_put_ne hk (by simpa using hn)⟩, fun b h => h, fun b h => .inl h, fun b h => Nat.lt_of_lt_of_le (hlt b h) hsz', .frz (.tup rfl fun i v l hv => by simp at hv), fun k hk => ?_, by simp, by simp, fun b hb' => ?_⟩
      · cases hk
        refine .slo (by rw [em_len, sorted_len]) hc (heap_put hb) (by show off + cap * 1 ≤ (putCells (Value.int .i64) off _ cs).size; rw [putCells, Array.size_mapIdx]; exact hf) (em_sz (k := 1) (fun _ => rfl) (sorted Z)) fun i e c q he hq => ?_
        have hi : i < (sorted Z).length := by
          have := (List.getElem?_eq_some_iff.1 he).1
          rwa [em_len] at this
        rw [em_get hi] at he
        injection he with he
        subst he
        have hc0 : c = 0 := by
          have := (List.getElem?_eq_some_iff.1 hq).1
          simpa using this
        subst hc0
        injection hq with hq
        subst hq
        have hi' : i < Z.length := by rwa [sorted_len] at hi
        have hcs : off + i < cs.size := (Array.getElem?_eq_some_iff.1 (hget i hi')).1
        refine ⟨.int .i64 ((sorted Z).getD i default), ?_, .int _ _⟩
        have e1 : i * 1 + 0 = i := by omega
        rw [e1, putCells, Array.getElem?_mapIdx, Array.getElem?_eq_getElem hcs]
        simp only [Option.map_some]
        rw [if_pos ⟨by omega, by show off + i < off + (sorted Z).toArray.size; simpa using by omega⟩]
        have e2 : off + i - off = i := by omega
        rw [e2]
        show some (Value.int .i64 ((sorted Z).toArray[i]!)) = _
        simp [hi, List.getD]
      · have : b = blk := by simpa using hb'
        subst this
        have h3 := hO b (by simp)
        exact ⟨Nat.lt_of_lt_of_le h3.1 hsz', h3.2, .inl (by simp)⟩
end Go.Proofs.Ytffnlhjdlhpmjaa.Mv

/- Edits: how they lie in memory; sorting by putting in, one by one; removal. -/
set_option linter.unusedVariables false
set_option linter.unusedSimpArgs false
namespace Go.Proofs.Ytffnlhjdlhpmjaa.Mv
structure Turn where
  car : Int
  before : List Int
  after : List Int
deriving Inhabited, DecidableEq
structure Hold where
  n : Int
  before : Int
  after : Int
deriving Inhabited, DecidableEq
structure Delta where
  turns : List Turn
  locks : List Hold
  ices : List Hold
deriving Inhabited, DecidableEq
def kt (t : Turn) : List LV := [.int .i64 t.car, .sl (em ni t.before), .sl (em ni t.after)]
def kh (h : Hold) : List LV := [.int .i64 h.n, .int .i64 h.before, .int .i64 h.after]
def kd (d : Delta) : List LV := [.sl (em kt d.turns), .sl (em kh d.locks), .sl (em kh d.ices)]
def cmpI (a b : Int) : Int := if a < b then -1 else if b < a then 1 else 0
theorem cmpI_neg (a b : Int) : decide (cmpI a b < 0) = decide (a < b) := by
  unfold cmpI
  split
  · simp [*]
  · split <;> simp [*]
section
variable {α : Type} {f : α → List LV}
/-- Where an element comes to lie that goes forward past greater ones. -/
def posI [Inhabited α] (k : α → Int) (x : α) (p : List α) : Nat → Nat
  | 0 => 0
  | j + 1 => if k x < k (p.getD j default) then posI k x p j else j + 1
def mid (p : List α) (x : α) (r : List α) (j : Nat) : List α := p.take j ++ x :: (p.drop j ++ r)
def insI [Inhabited α] (k : α → Int) (p : List α) (x : α) : List α := p.take (posI k x p p.length) ++ x :: p.drop (posI k x p p.length)
def isort [Inhabited α] (k : α → Int) : List α → List α → List α
  | p, [] => p
  | p, x :: r => isort k (insI k p x) r
theorem posI_le [Inhabited α] (k : α → Int) (x : α) (p : List α) (j : Nat) : posI k x p j ≤ j := by
  induction j with
  | zero => exact Nat.le_refl _
  | succ j ih =>
    rw [posI]
    split
    · omega
    · exact Nat.le_refl _
theorem insI_len [Inhabited α] (k : α → Int) (p : List α) (x : α) : (insI k p x).length = p.length + 1 := by
  have := posI_le k x p p.length
  simp [insI]
  omega
theorem isort_len [Inhabited α] (k : α → Int) (p r : List α) : (isort k p r).length = p.length + r.length := by
  induction r generalizing p with
  | nil => simp [isort]
  | cons x r ih =>
    rw [isort, ih, insI_len]
    simp
    omega
theorem mid_len {p : List α} {x : α} {r : List α} {j : Nat} (hj : j ≤ p.length) : (mid p x r j).length = p.length + 1 + r.length := by
  simp [mid]
  omega
theorem mid_at {p : List α} {x : α} {r : List α} {i j : Nat} (hi : i = j) (hj : j ≤ p.length) : (em f (mid p x r j))[i]? = some (f x) := by
  subst hi
  simp [em, mid, List.getElem?_append_right, List.length_take, Nat.min_eq_left hj]
theorem mid_pr [Inhabited α] {p : List α} {x : α} {r : List α} {i j : Nat} (hi : i + 1 = j) (hj : j ≤ p.length) : (em f (mid p x r j))[i]? = some (f (p.getD i default)) := by
  have h : i < p.length := by omega
  have h2 : i < j := by omega
  simp [em, mid, List.getElem?_append_left, h, h2, Nat.min_eq_left hj, List.getElem?_take, List.getD]
theorem mid_swap [Inhabited α] {p : List α} {x : α} {r : List α} {i j : Nat} (hi : i + 1 = j) (hj : j ≤ p.length) : ((em f (mid p x r j)).set j (f (p.getD i default))).set i (f x) = em f (mid p x r i) := by
  subst hi
  have h : i < p.length := by omega
  have e1 : p.take (i + 1) = p.take i ++ [p.getD i default] := by
    rw [List.take_add_one]
    simp [h, List.getD]
  have e2 : p.drop i = p.getD i default :: p.drop (i + 1) := by
    rw [List.drop_eq_getElem_cons h]
    simp [h, List.getD]
  have l1 : (p.take i).length = i := by rw [List.length_take]; omega
  simp only [em, mid]
  rw [e2, e1]
  simp only [List.map_append, List.map_cons, List.append_assoc, List.cons_append, List.nil_append, List.map_nil]
  have l2 : (List.map f (p.take i)).length = i := by rw [List.length_map, l1]
  rw [List.set_append_right _ _ (by omega), List.set_append_right _ _ (by omega), l2]
  simp
theorem mid_full (p : List α) (x : α) (r : List α) : mid p x r p.length = p ++ x :: r := by simp [mid]
theorem mid_pos [Inhabited α] (k : α → Int) (p : List α) (x : α) (r : List α) : mid p x r (posI k x p p.length) = insI k p x ++ r := by simp [mid, insI]
end
end Go.Proofs.Ytffnlhjdlhpmjaa.Mv

/- Steps for removal in place; the first one that is so. -/
set_option linter.unusedVariables false
set_option linter.unusedSimpArgs false
namespace Go.Proofs.Ytffnlhjdlhpmjaa.Mv
theorem RetJX.normalW {P : Program} {rvs : List ResultVar} {ju : Option LV} {R : LV → LV → Prop} {st st' : St} (hw : Weak st st') (h : RetJ P rvs ju R st') : RetJX P rvs ju R .normal st := ⟨st', hw, h⟩
theorem RetJX.retW {P : Program} {rvs : List ResultVar} {ju : Option LV} {R : LV → LV → Prop} {st st' : St} (hw : Weak st st') (h : RetJ P rvs ju R st') : RetJX P rvs ju R .ret st := ⟨st', hw, h⟩
section
variable {P : Program} {I : InlP} {nb : Nat} {Q : Ex → St → Prop} {ops : Array Oper} {K : St → Prop} {r : List Oper} {ts : Slots} {m : Mem} {t : Nat} {ty : TypeId} {pos : String} {af : Array Edge} {d : Bool} {i : Nat} {acc : List (Nat × List Nat × List Nat)}
/-- The beginning of a slice of this call's own. -/
theorem GL.sliceToO (hI : InlM I) {st e : TypeId} {x hi : Operand} {kk : IntKind} {n : Int} {b g off len j : Nat} {y : Box} {sz : Nat} (ht : sliceE P st = some e) (hs : szT P e = some sz) (hx : evalO ts x = .own b g off len none) (hm : m b = some y) (hg : y.gen = g) (hk : y.kind = .slc) (hz : y.sz = sz) (hh : evalO ts hi = .int kk n)
    (h0 : 0 ≤ n) (h1 : n ≤ (len : Int)) (h2 : off + len ≤ y.es.length) (hj : n.toNat = j) (k : GL P I nb ops K d r (i + 1) ((i, [], [b]) :: acc) ⟨updS ts t (.own b g off j none), m⟩) : GL P I nb ops K d (⟨some t, .slice st x none (some hi) none, ty, pos, af, none⟩ :: r) i acc ⟨ts, m⟩ := by
  subst hj
  exact .stepP hI (.slice (l := 0) (h := n.toNat) hx hm hg hk ht (hz ▸ hs) rfl (by simp only [bndL]; rw [hh]; simp only [h0, if_true]) (Nat.zero_le _) (by omega) (by simp)) k
end
section
variable {α : Type}
def idxP (p : α → Bool) : List α → Int → Int
  | [], _ => -1
  | x :: r, i => if p x then i else idxP p r (i + 1)
theorem idxP_all [Inhabited α] (p : α → Bool) (l : List α) (j : Nat) (hj : j < l.length) : idxP p (l.drop j) j = if p (l.getD j default) then (j : Int) else idxP p (l.drop (j + 1)) ((j + 1 : Nat) : Int) := by
  have : l.drop j = l.getD j default :: l.drop (j + 1) := by
    rw [List.drop_eq_getElem_cons hj]
    simp [hj, List.getD]
  rw [this, idxP]
  rfl
theorem idxP_end (p : α → Bool) (l : List α) (j : Nat) (hj : l.length ≤ j) (i : Int) : idxP p (l.drop j) i = -1 := by
  rw [List.drop_of_length_le hj]
  rfl
/-- What the search finds: none, or the first one. -/
theorem idxP_spec [Inhabited α] (p : α → Bool) (l : List α) : ∀ n : Int, (idxP p l n = -1 ∧ ∀ x ∈ l, p x = false) ∨ ∃ j : Nat, j < l.length ∧ idxP p l n = n + j ∧ p (l.getD j default) = true ∧ ∀ x ∈ l.take j, p x = false := by
  induction l with
  | nil => exact fun n => .inl ⟨rfl, by simp⟩
  | cons x r ih =>
    intro n
    rw [idxP]
    by_cases h : p x = true
    · rw [if_pos h]
      exact .inr ⟨0, by simp, by simp, by simpa using h, by simp⟩
    · rw [if_neg h]
      have h' : p x = false := by simpa using h
      rcases ih (n + 1) with ⟨e1, e2⟩ | ⟨j, e1, e2, e3, e4⟩
      · exact .inl ⟨e1, fun y hy => by
          rcases List.mem_cons.1 hy with rfl | hy
          · exact h'
          · exact e2 y hy⟩
      · refine .inr ⟨j + 1, by simpa using e1, by rw [e2]; omega, by simpa using e3, fun y hy => ?_⟩
        rw [List.take_succ_cons] at hy
        rcases List.mem_cons.1 hy with rfl | hy
        · exact h'
        · exact e4 y hy
theorem getD_mem [Inhabited α] {l : List α} {j : Nat} (h : j < l.length) : l.getD j default ∈ l := by
  have : l.getD j default = l[j] := by simp [h, List.getD]
  rw [this]
  exact List.getElem_mem h
theorem take_snocG [Inhabited α] {l : List α} {j : Nat} (h : j < l.length) : l.take (j + 1) = l.take j ++ [l.getD j default] := by
  rw [List.take_add_one]
  simp [h, List.getD]
theorem take_set [Inhabited α] {s : List α} {i : Nat} {x : α} (h : i < s.length) : (s.set i x).take (i + 1) = s.take i ++ [x] := by
  rw [List.take_add_one, List.take_set_of_le (Nat.le_refl _)]
  simp [h]
theorem drop_getD_eq [Inhabited α] {s l : List α} {j : Nat} (h : s.drop j = l.drop j) (hj : j < l.length) : s.getD j default = l.getD j default := by
  have h1 := congrArg (fun z => z[0]?) h
  simp only [List.getElem?_drop, Nat.add_zero] at h1
  simp [List.getD, h1]
theorem drop_tail_eq {s l : List α} {j : Nat} (h : s.drop j = l.drop j) : s.drop (j + 1) = l.drop (j + 1) := by
  rw [← List.drop_drop, ← List.drop_drop, h]
theorem set_drop {s l : List α} {i j : Nat} {x : α} (hij : i < j) (h : s.drop j = l.drop j) : (s.set i x).drop j = l.drop j := by
  rw [List.drop_set_of_lt hij, h]
theorem filter_prefix {p : α → Bool} {l : List α} (h : ∀ x ∈ l, p x = false) : l.filter (fun x => !p x) = l := List.filter_eq_self.2 fun x hx => by rw [h x hx]; rfl
end
end Go.Proofs.Ytffnlhjdlhpmjaa.Mv

/- Maps that are sets of numbers; what is sorted does not hang on the order. -/
set_option linter.unusedVariables false
set_option linter.unusedSimpArgs false
namespace Go.Proofs.Ytffnlhjdlhpmjaa.Mv
def kb (n : Int) : List LV := [.int .i64 n, .bool true]
def addK (l : List Int) (n : Int) : List Int := if n ∈ l then l else l ++ [n]
theorem addK_nodup {l : List Int} (h : l.Nodup) (n : Int) : (addK l n).Nodup := by
  unfold addK
  split
  · exact h
  · rename_i hn
    exact List.nodup_append.2 ⟨h, by simp, fun a ha b hb => by
      rw [List.mem_singleton] at hb
      subst hb
      exact fun e => hn (e ▸ ha)⟩
theorem mem_addK {l : List Int} {n x : Int} : x ∈ addK l n ↔ x ∈ l ∨ x = n := by
  unfold addK
  split
  · rename_i h
    exact ⟨.inl, fun h' => h'.elim id fun e => e ▸ h⟩
  · simp
theorem addK_len (l : List Int) (n : Int) : (addK l n).length ≤ l.length + 1 := by
  unfold addK
  split <;> simp
theorem findL_kb {P : Program} {t : TypeId} (ht : P.underlying t = some (.int .i64)) (n : Int) : ∀ (l : List Int), findL P t (.int .i64 n) (em kb l) = some (if n ∈ l then some (.bool true) else none)
  | [] => rfl
  | x :: r => by
    show findL P t (.int .i64 n) ([.int .i64 x, .bool true] :: em kb r) = _
    simp only [findL, eqK, eqT, ht, if_true]
    by_cases e : n = x
    · subst e
      rw [show (n == n) = true by simp]
      simp
    · rw [show (n == x) = false by simpa using e]
      show findL P t (.int .i64 n) (em kb r) = _
      rw [findL_kb ht n r]
      simp [e]
theorem setL_kb {P : Program} {t : TypeId} (ht : P.underlying t = some (.int .i64)) (n : Int) : ∀ (l : List Int), setL P t (.int .i64 n) (.bool true) (em kb l) = em kb (addK l n)
  | [] => rfl
  | x :: r => by
    show setL P t (.int .i64 n) (.bool true) ([.int .i64 x, .bool true] :: em kb r) = _
    simp only [setL, eqK, eqT, ht, if_true]
    by_cases e : n = x
    · subst e
      rw [show (n == n) = true by simp]
      simp [addK, em, kb]
    · rw [show (n == x) = false by simpa using e]
      show _ :: setL P t (.int .i64 n) (.bool true) (em kb r) = _
      rw [setL_kb ht n r]
      unfold addK
      by_cases h : n ∈ r
      · simp [h, em, kb]
      · simp [h, e, em, kb]
section
variable {P : Program} {I : InlP} {nb : Nat} {Q : Ex → St → Prop} {ops : Array Oper} {K : St → Prop} {r : List Oper} {ts : Slots} {m : Mem} {t : Nat} {ty : TypeId} {pos : String} {af : Array Edge} {d : Bool} {i : Nat} {acc : List (Nat × List Nat × List Nat)}
theorem GL.setLook (hI : InlM I) {tt kt et : TypeId} {x ix : Operand} {b g : Nat} {y : Box} {n : Int} {l : List Int} (ht : P.underlying tt = some (.map kt et)) (hkt : P.underlying kt = some (.int .i64)) (hz : zero1L P et = some (.bool false)) (hx : evalO ts x = .mref b g) (hm : m b = some y) (hg : y.gen = g) (hk : y.kind = .mp) (hq : y.sz = 2) (he : y.es = em kb l) (hn : evalO ts ix = .int .i64 n)
    (k : GL P I nb ops K d r (i + 1) ((i, [], [b]) :: acc) ⟨updS ts t (.bool (decide (n ∈ l))), m⟩) : GL P I nb ops K d (⟨some t, .lookup tt x ix false, ty, pos, af, none⟩ :: r) i acc ⟨ts, m⟩ := by
  have h := OpR.lookup (d := nb + 64 * t) (ok := false) (ix := ix) hx hm hg hk hq ht (by rw [hn]; simp [keyK, scalK, hkt, pureL]) hz (by rw [hn, he]; exact findL_kb hkt n l)
  refine .stepP hI h ?_
  by_cases e : n ∈ l
  · rw [decide_eq_true e] at k
    rw [if_pos e]
    exact k
  · rw [decide_eq_false e] at k
    rw [if_neg e]
    exact k
theorem GL.setPut (hI : InlM I) {tt kt et : TypeId} {x ix y : Operand} {b g : Nat} {bx : Box} {n : Int} {l : List Int} (ht : P.underlying tt = some (.map kt et)) (hkt : P.underlying kt = some (.int .i64)) (hx : evalO ts x = .mref b g) (hm : m b = some bx) (hg : bx.gen = g) (hf : bx.frz = false) (hk : bx.kind = .mp) (hq : bx.sz = 2) (he : bx.es = em kb l) (hn : evalO ts ix = .int .i64 n) (hy : evalO ts y = .bool true)
    (k : GL P I nb ops K d r (i + 1) ((i, [b], [b]) :: acc) ⟨ts, updM m b ⟨g, false, .mp, bx.sz, em kb (addK l n)⟩⟩) : GL P I nb ops K d (⟨none, .mapUpdate tt x ix y, ty, pos, af, none⟩ :: r) i acc ⟨ts, m⟩ := by
  have h := OpR.mapUpdate (d := nb + 64 * 4000) (ix := ix) (y := y) hx hm hg hk hq hf ht (by rw [hn]; simp [keyK, scalK, hkt, pureL]) (by rw [hn, he]; exact findL_kb hkt n l) (.pure (by rw [hy]; rfl)) (by simp)
  refine .stepN hI h (by simp [hf, markE]) ?_
  rw [hn, hy, he, setL_kb hkt n l]
  simp only [markE, List.nil_append]
  simp only [effM, Wn, List.map]
  rw [hg, hf, hk]
  exact k
end
theorem kb_at {R : List Int} {j : Nat} {k v : LV} (h : (em kb R)[j]? = some [k, v]) : ∃ n : Int, R[j]? = some n ∧ k = .int .i64 n ∧ v = .bool true := by
  simp only [em, List.getElem?_map, Option.map_eq_some_iff, kb] at h
  obtain ⟨n, h1, h2⟩ := h
  injection h2 with h2 h3
  injection h3 with h3
  exact ⟨n, h1, h2.symm, h3.symm⟩
theorem em_erase {α : Type} (f : α → List LV) : ∀ (l : List α) (j : Nat), (em f l).eraseIdx j = em f (l.eraseIdx j)
  | [], j => by simp [em]
  | x :: r, 0 => rfl
  | x :: r, j + 1 => by
    show f x :: (em f r).eraseIdx j = f x :: em f (r.eraseIdx j)
    rw [em_erase f r j]
theorem erase_perm {α : Type} : ∀ {l : List α} {j : Nat} {n : α}, l[j]? = some n → (n :: l.eraseIdx j).Perm l
  | [], j, n, h => by simp at h
  | x :: r, 0, n, h => by
    simp at h
    subst h
    exact .refl _
  | x :: r, j + 1, n, h => by
    have h' : r[j]? = some n := by simpa using h
    show (n :: x :: r.eraseIdx j).Perm (x :: r)
    exact (List.Perm.swap x n _).trans ((erase_perm h').cons x)
theorem erase_len {α : Type} {l : List α} {j : Nat} {n : α} (h : l[j]? = some n) : (l.eraseIdx j).length + 1 = l.length := by
  have := (erase_perm h).length_eq
  simpa using this
theorem sorted_perm (l : List Int) : (sorted l).Perm l := List.mergeSort_perm _ _
theorem sorted_le (l : List Int) : (sorted l).Pairwise (fun a b => decide (a ≤ b) = true) := List.pairwise_mergeSort (fun a b c h1 h2 => by simp at *; omega) (fun a b => by simp; omega) l
theorem sorted_eq {l l' : List Int} (h : l.Perm l') : sorted l = sorted l' :=
  List.Perm.eq_of_pairwise (le := fun a b => decide (a ≤ b) = true) (fun a b _ _ h1 h2 => by simp at h1 h2; omega) (sorted_le l) (sorted_le l') (((sorted_perm l).trans h).trans (sorted_perm l').symm)
theorem sorted_of {l l' : List Int} (h : l.Perm l') (hs : l'.Pairwise (fun a b => decide (a ≤ b) = true)) : sorted l = l' :=
  List.Perm.eq_of_pairwise (le := fun a b => decide (a ≤ b) = true) (fun a b _ _ h1 h2 => by simp at h1 h2; omega) (sorted_le l) hs ((sorted_perm l).trans h)
/-- The sort of a slice that has no elements. -/
theorem sortN {P : Program} {f : FuncId} (hok : FuncOK P f) (h0 : ∀ (p : Option Addr) (cap : Nat) (w : World), Calls P f #[.slice p 0 cap] w fun e w' => e = .returned (.tuple #[]) ∧ w' = w) : CallsV P f [.sl []] (.tup []) := by
  refine ⟨hok, fun w F vs hrel hlt => ?_⟩
  obtain ⟨v, rfl, hv⟩ := (RelI.frz hrel).sole
  cases hv with
  | frz h =>
    cases h with
    | sl val hl hc ha hsz hcell hr =>
      have hl0 : _ = 0 := hl
      subst hl0
      refine (h0 _ _ w).mono fun e w' he => ?_
      obtain ⟨rfl, rfl⟩ := he
      exact ⟨_, _, F, [], rfl, rfl, Ext.refl _ _, fun b h => h, fun b h => .inl h, hlt, .frz (.tup rfl fun i v l hv => by simp at hv), by simp, by simp⟩
/-- The stops that are assigned before, and then; those that come or go, rising. -/
def collB (ts : List Turn) : List Int := ts.foldl (fun b t => t.before.foldl addK b) []
def collA (ts : List Turn) : List Int := ts.foldl (fun b t => t.after.foldl addK b) []
def movedL (d : Delta) : List Int := sorted ((collB d.turns).filter (fun s => !decide (s ∈ collA d.turns)) ++ (collA d.turns).filter (fun s => !decide (s ∈ collB d.turns)))
theorem coll_len (g : Turn → List Int) : ∀ (ts : List Turn) (b : List Int), (ts.foldl (fun b t => (g t).foldl addK b) b).length ≤ b.length + (ts.map fun t => (g t).length).sum := by
  have h1 : ∀ (l b : List Int), (l.foldl addK b).length ≤ b.length + l.length := by
    intro l
    induction l with
    | nil => intro b; simp
    | cons x r ih =>
      intro b
      have := ih (addK b x)
      have := addK_len b x
      simp only [List.foldl_cons, List.length_cons]
      omega
  intro ts
  induction ts with
  | nil => intro b; simp
  | cons t r ih =>
    intro b
    have := ih ((g t).foldl addK b)
    have := h1 (g t) b
    simp only [List.foldl_cons, List.map_cons, List.sum_cons]
    omega
end Go.Proofs.Ytffnlhjdlhpmjaa.Mv

/- A literal slice whose parts are slices, in a region whose order is drawn. -/
set_option linter.unusedVariables false
set_option linter.unusedSimpArgs false
namespace Go.Proofs.Ytffnlhjdlhpmjaa.Mv
section
variable {P : Program} {I : InlP} {nb : Nat} {Q : Ex → St → Prop} {ops : Array Oper} {K : St → Prop} {r : List Oper} {ts : Slots} {m : Mem} {t : Nat} {ty : TypeId} {pos : String} {af : Array Edge} {d : Bool} {i : Nat} {acc : List (Nat × List Nat × List Nat)}
theorem GL.buildSliceMT {e et : TypeId} {n sz : Nat} {ps : Array (Nat × Operand)} {z : List LV} {ps' : List (Nat × List LV)} {T W : List Nat} {E : List (Nat × Box)} {es : List (List LV)} (ht : sliceE P e = some et) (hz : zeroL P et = some z) (hzl : z.length = sz) (hs : szT P et = some sz) (hn : 0 < sz) (hb : n * sz ≤ 16777216) (hn0 : 0 < n)
    (hp : FrzP m sz n (evalO ts) ps.toList ps' T) (hm : unmark m (markE m T) = E) (hW : Wn E = W) (he : fillE (List.replicate n (z.map pureC)) ps' = es)
    (k : ∀ g, GL P I nb ops K true r (i + 1) ((i, W ++ [nb + 64 * t], (nb + 64 * t) :: T) :: acc) ⟨updS ts t (.own (nb + 64 * t) g 0 n none), updM (effM m E) (nb + 64 * t) ⟨g, false, .slc, sz, es⟩⟩) :
    GL P I nb ops K true (⟨some t, .buildSlice e n ps, ty, pos, af, none⟩ :: r) i acc ⟨ts, m⟩ := by
  subst he hzl hm hW
  simp only [GL, wantedL]
  refine ⟨_, .op (o := ⟨some t, .buildSlice e n ps, ty, pos, af, none⟩) (.buildSlice ht hz hs hn hb hn0 hp), ?_⟩
  rw [unmark_append, unmark_new (e := [_]) (by simp), effM_append]
  simp only [Wn, List.map_append, List.map_cons, List.map_nil]
  exact k _
end
end Go.Proofs.Ytffnlhjdlhpmjaa.Mv

/- A slot's own slice, frozen in place; sorting by exchanging neighbours. -/
set_option linter.unusedVariables false
set_option linter.unusedSimpArgs false
namespace Go.Proofs.Ytffnlhjdlhpmjaa.Mv
theorem Weak.frzSlot {ts : Slots} {m : Mem} {j : Nat} {l : LV} {T : List Nat} (hF : Frz m (ts j) l T) : Weak ⟨ts, m⟩ ⟨updS ts j l, effM m (markE m T)⟩ := fun X a w F ρ h => by
  obtain ⟨F', f1, f2, h'⟩ := h.mark T
  refine ⟨F', ρ, { h' with slots := fun i => ?_ }⟩
  by_cases hi : j = i
  · subst hi
    show RelL w F' ρ _ _ (updS ts j l j)
    rw [updS_same]
    exact .frz ((hF.sound (fun n x hx => h.boxes n x hx) _ (h.slots j)).mono (fun b hb => f2 b hb (fun n hn => hF.some n hn)) (fun _ _ => rfl))
  · show RelL w F' ρ _ _ (updS ts j l i)
    rw [updS_ne _ _ hi]
    exact h'.slots i
def swapAt (w : List Int) (j : Nat) : List Int := w.take j ++ [w.getD (j + 1) default, w.getD j default] ++ w.drop (j + 2)
theorem split2 {w : List Int} {j : Nat} (h : j + 1 < w.length) : w = w.take j ++ (w.getD j default :: w.getD (j + 1) default :: w.drop (j + 2)) := by
  have e1 : w.drop j = w.getD j default :: w.drop (j + 1) := by
    rw [List.drop_eq_getElem_cons (by omega)]
    simp [show j < w.length by omega, List.getD]
  have e2 : w.drop (j + 1) = w.getD (j + 1) default :: w.drop (j + 2) := by
    rw [List.drop_eq_getElem_cons h]
    simp [h, List.getD]
  rw [← e2, ← e1, List.take_append_drop]
theorem swapAt_perm {w : List Int} {j : Nat} (h : j + 1 < w.length) : (swapAt w j).Perm w := by
  conv => rhs; rw [split2 h]
  rw [swapAt, List.append_assoc]
  exact List.Perm.append_left _ (List.Perm.swap _ _ _)
theorem swapAt_len {w : List Int} {j : Nat} (h : j + 1 < w.length) : (swapAt w j).length = w.length := (swapAt_perm h).length_eq
theorem swapAt_at {w : List Int} {j : Nat} (h : j + 1 < w.length) (i : Nat) (hi : i < w.length) : (swapAt w j).getD i default = if i = j then w.getD (j + 1) default else if i = j + 1 then w.getD j default else w.getD i default := by
  have lt : (w.take j).length = j := by rw [List.length_take]; omega
  rw [swapAt, List.append_assoc]
  simp only [List.getD_eq_getElem?_getD]
  by_cases h1 : i < j
  · rw [List.getElem?_append_left (by omega), if_neg (by omega), if_neg (by omega), List.getElem?_take, if_pos h1]
  · rw [List.getElem?_append_right (by omega), lt]
    by_cases h2 : i = j
    · subst h2
      simp
    · by_cases h3 : i = j + 1
      · subst h3
        simp [show j + 1 - j = 1 by omega]
      · rw [if_neg h2, if_neg h3, show i - j = (i - j - 2) + 2 by omega]
        show (((w.drop (j + 2)))[i - j - 2]?).getD default = _
        rw [List.getElem?_drop, show j + 2 + (i - j - 2) = i by omega]
/-- What holds within a pass that brings the greatest one to the end. -/
structure Bub (Y w : List Int) (k j : Nat) : Prop where
  perm : w.Perm Y
  top : ∀ i h, w.length - k ≤ i → i < w.length → h < i → w.getD h default ≤ w.getD i default
  pre : ∀ h, h < j → w.getD h default ≤ w.getD j default
  mid : w.length - k - 1 ≤ j → ∀ h, h < w.length - k - 1 → w.getD h default ≤ w.getD (w.length - k - 1) default
theorem Bub.init (Y : List Int) : Bub Y Y 0 0 := ⟨.refl _, fun i h h1 h2 _ => by omega, fun h hh => by omega, fun h0 h hh => by omega⟩
theorem Bub.len {Y w : List Int} {k j : Nat} (h : Bub Y w k j) : w.length = Y.length := h.perm.length_eq
theorem Bub.keep {Y w : List Int} {k j : Nat} (b : Bub Y w k j) (h : j + 1 < w.length) (hle : w.getD j default ≤ w.getD (j + 1) default) : Bub Y w k (j + 1) := by
  refine ⟨b.perm, b.top, fun x hx => ?_, fun h0 x hx => ?_⟩
  · by_cases e : x = j
    · subst e; exact hle
    · have := b.pre x (by omega)
      omega
  · by_cases e : w.length - k - 1 ≤ j
    · exact b.mid e x hx
    · have e2 : w.length - k - 1 = j + 1 := by omega
      rw [e2] at hx ⊢
      by_cases e3 : x = j
      · subst e3; exact hle
      · have := b.pre x (by omega)
        omega
theorem Bub.swap {Y w : List Int} {k j : Nat} (b : Bub Y w k j) (h : j + 1 < w.length) (hgt : w.getD (j + 1) default < w.getD j default) : Bub Y (swapAt w j) k (j + 1) := by
  have hl := swapAt_len h
  have hk : j + 1 < w.length - k := by
    by_cases e : w.length - k ≤ j + 1
    · have := b.top (j + 1) j e h (by omega)
      omega
    · omega
  refine ⟨(swapAt_perm h).trans b.perm, fun i x h1 h2 h3 => ?_, fun x hx => ?_, fun h0 x hx => ?_⟩
  · rw [hl] at h1 h2
    rw [swapAt_at h x (by omega), swapAt_at h i h2, if_neg (show ¬ i = j by omega), if_neg (show ¬ i = j + 1 by omega)]
    split
    · exact b.top i (j + 1) h1 h2 (by omega)
    · split
      · exact b.top i j h1 h2 (by omega)
      · exact b.top i x h1 h2 h3
  · rw [swapAt_at h x (by omega), swapAt_at h (j + 1) h, if_neg (show ¬ j + 1 = j by omega), if_pos rfl]
    split
    · omega
    · rw [if_neg (by omega)]
      exact b.pre x (by omega)
  · rw [hl] at h0 hx ⊢
    have e2 : w.length - k - 1 = j + 1 := by omega
    rw [e2] at hx ⊢
    rw [swapAt_at h x (by omega), swapAt_at h (j + 1) h, if_neg (show ¬ j + 1 = j by omega), if_pos rfl]
    split
    · omega
    · rw [if_neg (by omega)]
      exact b.pre x (by omega)
theorem Bub.next {Y w : List Int} {k j : Nat} (b : Bub Y w k j) (h : ¬ j + 1 < w.length) (hj : j = 0 ∨ j < w.length) : Bub Y w (k + 1) 0 := by
  refine ⟨b.perm, fun i x h1 h2 h3 => ?_, fun x hx => by omega, fun h0 x hx => by omega⟩
  by_cases e : w.length - k ≤ i
  · exact b.top i x e h2 h3
  · have e2 : i = w.length - k - 1 := by omega
    subst e2
    exact b.mid (by omega) x h3
theorem Bub.done {Y w : List Int} {k : Nat} (b : Bub Y w k 0) (h : w.length ≤ k) : w = sorted Y := by
  refine (sorted_of b.perm.symm ?_).symm
  rw [List.pairwise_iff_getElem]
  intro i j hi hj hij
  have := b.top j i (by omega) hj hij
  simpa [List.getD, hi, hj] using this
theorem addAll_nodup : ∀ {l b : List Int}, (b ++ l).Nodup → l.foldl addK b = b ++ l
  | [], b, h => by simp
  | x :: r, b, h => by
    have hx : x ∉ b := fun hx => by
      have := (List.nodup_append.1 h).2.2 x hx x (by simp)
      exact this rfl
    rw [List.foldl_cons, addK, if_neg hx]
    rw [addAll_nodup (by simpa using h)]
    simp
end Go.Proofs.Ytffnlhjdlhpmjaa.Mv

/- Sorting by putting in, by a comparison; equal neighbours left out; the keys of what was seen. -/
set_option linter.unusedVariables false
set_option linter.unusedSimpArgs false
namespace Go.Proofs.Ytffnlhjdlhpmjaa.Mv
structure SKey where
  kind : Int
  n : Int
deriving Inhabited, DecidableEq
def kk (k : SKey) : List LV := [.int .i64 k.kind, .int .i64 k.n]
def cmpK (a b : SKey) : Int := if cmpI a.kind b.kind = 0 then cmpI a.n b.n else cmpI a.kind b.kind
section
variable {α : Type} {f : α → List LV}
/-- Where an element comes to lie that goes forward past such as come behind it. -/
def posC [Inhabited α] (c : α → α → Int) (x : α) (p : List α) : Nat → Nat
  | 0 => 0
  | j + 1 => if c x (p.getD j default) < 0 then posC c x p j else j + 1
def insC [Inhabited α] (c : α → α → Int) (p : List α) (x : α) : List α := p.take (posC c x p p.length) ++ x :: p.drop (posC c x p p.length)
def isortC [Inhabited α] (c : α → α → Int) : List α → List α → List α
  | p, [] => p
  | p, x :: r => isortC c (insC c p x) r
theorem posC_le [Inhabited α] (c : α → α → Int) (x : α) (p : List α) (j : Nat) : posC c x p j ≤ j := by
  induction j with
  | zero => exact Nat.le_refl _
  | succ j ih =>
    rw [posC]
    split
    · omega
    · exact Nat.le_refl _
theorem insC_len [Inhabited α] (c : α → α → Int) (p : List α) (x : α) : (insC c p x).length = p.length + 1 := by
  have := posC_le c x p p.length
  simp [insC]
  omega
theorem isortC_len [Inhabited α] (c : α → α → Int) (p r : List α) : (isortC c p r).length = p.length + r.length := by
  induction r generalizing p with
  | nil => simp [isortC]
  | cons x r ih =>
    rw [isortC, ih, insC_len]
    simp
    omega
theorem posC_go [Inhabited α] {c : α → α → Int} {x : α} {p : List α} {j : Nat} (h0 : 0 < j) (h : c x (p.getD (j - 1) default) < 0) : posC c x p j = posC c x p (j - 1) := by
  obtain ⟨i, rfl⟩ : ∃ i, j = i + 1 := ⟨j - 1, by omega⟩
  rw [posC, Nat.add_sub_cancel, if_pos (by simpa using h)]
theorem posC_stop [Inhabited α] {c : α → α → Int} {x : α} {p : List α} {j : Nat} (h0 : 0 < j) (h : ¬ c x (p.getD (j - 1) default) < 0) : posC c x p j = j := by
  obtain ⟨i, rfl⟩ : ∃ i, j = i + 1 := ⟨j - 1, by omega⟩
  rw [posC, if_neg (by simpa using h)]
theorem posC_zero [Inhabited α] {c : α → α → Int} {x : α} {p : List α} {j : Nat} (h : j = 0) : posC c x p j = j := by
  subst h
  rfl
theorem mid_posC [Inhabited α] (c : α → α → Int) (p : List α) (x : α) (r : List α) : mid p x r (posC c x p p.length) = insC c p x ++ r := by simp [mid, insC]
/-- Of equal neighbours the first one. -/
def compactG [DecidableEq α] : List α → List α
  | [] => []
  | [x] => [x]
  | x :: y :: r => if x = y then compactG (y :: r) else x :: compactG (y :: r)
end
end Go.Proofs.Ytffnlhjdlhpmjaa.Mv

/- The library's copy of a map, as a contract. -/
set_option linter.unusedVariables false
set_option linter.unusedSimpArgs false
namespace Go.Proofs.Ytffnlhjdlhpmjaa.Mv
theorem RelF.sole {w : World} {F : Nat → Prop} {vs : Array Value} {l : LV} (h : RelF w F (.agg vs) (.agg [l])) : ∃ v, vs = #[v] ∧ RelF w F v l := by
  cases h with
  | agg hn h =>
    have h1 : vs.size = 1 := hn
    have e : vs = #[vs[0]'(by omega)] := by
      apply Array.ext
      · simp [h1]
      · intro i q1 q2
        have : i = 0 := by simp at q2; exact q2
        subst this
        rfl
    exact ⟨_, e, h 0 _ _ (Array.getElem?_eq_getElem (by omega)) rfl⟩
theorem cloneMp {P : Program} {f : FuncId} (hok : FuncOK P f)
    (h1 : ∀ (b : Nat) (es : Array MapEntry) (clock : Nat) (w : World), w.heap[b]? = some (.map es clock) → Calls P f #[.map (some b)] w fun e w' => e = .returned (.map (some w.heap.size)) ∧ w' = w.alloc (.map es clock))
    (h0 : ∀ w : World, Calls P f #[.map none] w fun e w' => e = .returned (.map none) ∧ w' = w) (es : List (List LV)) : CallsV P f [.fmap es] (.fmap es) := by
  refine ⟨hok, fun w F vs hrel hlt => ?_⟩
  obtain ⟨v, rfl, hv⟩ := hrel.sole
  cases hv with
  | fmap0 =>
    refine (h0 w).mono fun e w' he => ?_
    obtain ⟨rfl, rfl⟩ := he
    exact ⟨_, _, F, [], rfl, rfl, Ext.refl _ _, fun b h => h, fun b h => .inl h, hlt, .frz .fmap0, List.nodup_nil, by simp⟩
  | @fmap r clock ents _ kv hF hr hwf hn he hk hv =>
    refine (h1 r ents clock w hr).mono fun e w' he => ?_
    obtain ⟨rfl, rfl⟩ := he
    have ea : (w.alloc (.map ents clock)).heap = w.heap.push (.map ents clock) := rfl
    have es' : (w.alloc (.map ents clock)).heap.size = w.heap.size + 1 := by rw [ea, Array.size_push]
    have hold : ∀ b, b < w.heap.size → (w.alloc (.map ents clock)).heap[b]? = w.heap[b]? := fun b hb => by
      rw [ea]
      simp [Array.getElem?_push, Nat.ne_of_lt hb]
    have hnew : (w.alloc (.map ents clock)).heap[w.heap.size]? = some (.map ents clock) := by rw [ea]; simp
    have hw : ∀ b, F b → (w.alloc (.map ents clock)).heap[b]? = w.heap[b]? := fun b hb => hold b (hlt b hb)
    refine ⟨_, _, fun b => F b ∨ b = w.heap.size, [], rfl, rfl, ⟨rfl, rfl, rfl, by omega, fun k h _ => hold k h⟩, fun b h => .inl h, fun b h => h.imp id (fun h => by omega), fun b h => ?_, .frz (.fmap kv (.inr rfl) hnew hwf hn he (fun i e h => (hk i e h).mono (fun b h => .inl h) hw) (fun i e h => (hv i e h).mono (fun b h => .inl h) hw)), List.nodup_nil, by simp⟩
    rcases h with h | h
    · have := hlt b h
      omega
    · subst h
      omega
theorem cloneM0 {P : Program} {f : FuncId} (hok : FuncOK P f) (h0 : ∀ w : World, Calls P f #[.map none] w fun e w' => e = .returned (.map none) ∧ w' = w) : CallsV P f [.nilm] .nilm := by
  refine ⟨hok, fun w F vs hrel hlt => ?_⟩
  obtain ⟨v, rfl, hv⟩ := hrel.sole
  cases hv with
  | nilm =>
    refine (h0 w).mono fun e w' he => ?_
    obtain ⟨rfl, rfl⟩ := he
    exact ⟨_, _, F, [], rfl, rfl, Ext.refl _ _, fun b h => h, fun b h => .inl h, hlt, .frz .nilm, List.nodup_nil, by simp⟩
theorem FlatI.sl0 : FlatI (.sl []) := by
  intro w F F' v O h
  cases h with
  | frz h =>
    cases h with
    | sl val hl hc ha hsz hcell hrel =>
      have h0 := hl
      simp only [List.length_nil] at h0
      subst h0
      exact .frz (.sl (blk := 0) (off := 0) (sz := 0) (fun _ _ => Go.undef) rfl hc (fun h => absurd h (by omega)) (by simp) (by simp) (by simp))
theorem FlatI.nilm : FlatI .nilm := by
  intro w F F' v O h
  cases h with
  | frz h =>
    cases h with
    | nilm => exact .frz .nilm
theorem Exp.sloW {m : Mem} {b g len sz : Nat} {x : Box} {es : List (List LV)} (hm : m b = Option.some x) (hg : x.gen = g) (hf : x.frz = false) (hk : x.kind = .slc) (hs : x.sz = sz) (he : x.es = es) (hl : len = es.length) : Exp m (.own b g 0 len none) (.slo sz es) [] [b] := by
  subst hs he hl
  have := Exp.slo (m := m) (b := b) (g := g) (off := 0) (len := x.es.length) hm hg hf hk (by omega)
  rwa [List.drop_zero] at this
end Go.Proofs.Ytffnlhjdlhpmjaa.Mv

/- Plans: how they lie in memory; where a stop is; what is held. -/
set_option linter.unusedVariables false
set_option linter.unusedSimpArgs false
namespace Go.Proofs.Ytffnlhjdlhpmjaa.Mv
structure Plan where
  routes : List (List Int)
  lock : List Int
  ice : List Int
  rv : List Int
  sv : List Int
  iv : List Int
  pv : Int
deriving Inhabited, DecidableEq
def kp (p : Plan) : List LV := [.sl (em nr p.routes), .sl (em ni p.lock), .sl (em ni p.ice), .sl (em ni p.rv), .sl (em ni p.sv), .sl (em ni p.iv), .int .i64 p.pv]
/-- A plan whose memory is the caller's own. -/
def kpo (p : Plan) : LV := .agg [.slo 1 (em nr p.routes), .slo 1 (em ni p.lock), .slo 1 (em ni p.ice), .slo 1 (em ni p.rv), .slo 1 (em ni p.sv), .slo 1 (em ni p.iv), .int .i64 p.pv]
structure OkP (p : Plan) : Prop where
  routes : p.routes.length ≤ 1000000
  each : ∀ r ∈ p.routes, r.length ≤ 1000000
  lock : p.lock.length ≤ 1000000
  ice : p.ice.length ≤ 1000000
  rv : p.rv.length ≤ 1000000
  sv : p.sv.length ≤ 1000000
  iv : p.iv.length ≤ 1000000
def okPb (p : Plan) : Bool := decide (p.routes.length ≤ 1000000) && (p.routes.all (fun r => decide (r.length ≤ 1000000)) && (decide (p.lock.length ≤ 1000000) && (decide (p.ice.length ≤ 1000000) && (decide (p.rv.length ≤ 1000000) && (decide (p.sv.length ≤ 1000000) && decide (p.iv.length ≤ 1000000))))))
theorem okP_of {p : Plan} (h : okPb p = true) : OkP p := by
  simp only [okPb, Bool.and_eq_true, decide_eq_true_eq, List.all_eq_true] at h
  exact ⟨h.1, h.2.1, h.2.2.1, h.2.2.2.1, h.2.2.2.2.1, h.2.2.2.2.2.1, h.2.2.2.2.2.2⟩
def whereGo (s : Int) : List (List Int) → Int → Int × Int
  | [], _ => (-1, -1)
  | r :: t, k => if index r s ≥ 0 then (k, index r s) else whereGo s t (k + 1)
def whereR (R : List (List Int)) (s : Int) : Int × Int := whereGo s R 0
theorem where_go {s : Int} {R : List (List Int)} {i : Nat} (h : i < R.length) (hx : ¬ index (R.getD i default) s ≥ 0) : whereGo s (R.drop i) (i : Int) = whereGo s (R.drop (i + 1)) ((i + 1 : Nat) : Int) := by
  rw [drop_getD h, whereGo, if_neg hx]
  rfl
theorem where_hit {s : Int} {R : List (List Int)} {i : Nat} (h : i < R.length) (hx : index (R.getD i default) s ≥ 0) : whereGo s (R.drop i) (i : Int) = ((i : Int), index (R.getD i default) s) := by
  rw [drop_getD h, whereGo, if_pos hx]
theorem where_end {s : Int} {R : List (List Int)} {i : Nat} (h : ¬ i < R.length) : whereGo s (R.drop i) (i : Int) = (-1, -1) := by
  rw [drop_all h, whereGo]
def other (h w : Int) : Bool := decide (h ≠ -1) && decide (h ≠ w)
theorem any_idxP {α : Type} [Inhabited α] (p : α → Bool) (l : List α) : decide (idxP p l 0 ≥ 0) = l.any p := by
  rcases idxP_spec p l 0 with ⟨h1, h2⟩ | ⟨j, h1, h2, h3, -⟩
  · rw [h1]
    symm
    simpa using fun x hx => h2 x hx
  · rw [h2]
    have e : l.any p = true := List.any_eq_true.2 ⟨_, getD_mem h1, h3⟩
    rw [e]
    simp
def icedB (p : Plan) (t : Turn) : Bool := decide (0 ≤ t.car) && (decide (t.car < p.ice.length) && decide (p.ice.getD t.car.toNat default ≠ -1))
def setR1 (R : List (List Int)) (t : Turn) : List (List Int) := if 0 ≤ t.car ∧ t.car < R.length then R.set t.car.toNat t.after else R
def setR (R : List (List Int)) (l : List Turn) : List (List Int) := l.foldl setR1 R
theorem setR1_len (R : List (List Int)) (t : Turn) : (setR1 R t).length = R.length := by
  unfold setR1
  split <;> simp
theorem setR_len (R : List (List Int)) (l : List Turn) : (setR R l).length = R.length := by
  induction l generalizing R with
  | nil => rfl
  | cons t r ih => rw [setR, List.foldl_cons, ← setR, ih, setR1_len]
theorem setR_snoc (R : List (List Int)) (l : List Turn) {i : Nat} (h : i < l.length) : setR R (l.take (i + 1)) = setR1 (setR R (l.take i)) (l.getD i default) := by
  rw [take_snocG h, setR, List.foldl_append]
  rfl
theorem setR_each {N : Nat} {R : List (List Int)} (hR : ∀ r ∈ R, r.length ≤ N) (l : List Turn) (hl : ∀ t ∈ l, t.after.length ≤ N) : ∀ r ∈ setR R l, r.length ≤ N := by
  induction l generalizing R with
  | nil => exact hR
  | cons t l ih =>
    rw [setR, List.foldl_cons, ← setR]
    refine ih (fun r hr => ?_) fun t ht => hl t (List.mem_cons_of_mem _ ht)
    unfold setR1 at hr
    split at hr
    · rcases List.mem_or_eq_of_mem_set hr with h | h
      · exact hR r h
      · rw [h]; exact hl t (by simp)
    · exact hR r hr
def badS (R R' : List (List Int)) (lock : List Int) (who : Int) (s : Nat) : Bool := decide (0 < s) && (other (lock.getD s default) who && decide (whereR R s ≠ whereR R' s))
def movedB (R R' : List (List Int)) (lock : List Int) (who : Int) : Bool := (List.range lock.length).any (badS R R' lock who)
theorem moved_no {R R' : List (List Int)} {lock : List Int} {who : Int} (h : ∀ j, j < lock.length → badS R R' lock who j = false) : movedB R R' lock who = false := by
  unfold movedB
  simpa using h
theorem moved_yes {R R' : List (List Int)} {lock : List Int} {who : Int} {j : Nat} (hj : j < lock.length) (h : badS R R' lock who j = true) : movedB R R' lock who = true :=
  List.any_eq_true.2 ⟨j, List.mem_range.2 hj, h⟩
def relGo (who : Int) : List Int → Int → List Hold
  | [], _ => []
  | h :: t, k => if h = who ∧ who ≠ -1 then ⟨k, who, -1⟩ :: relGo who t (k + 1) else relGo who t (k + 1)
def releaseL (l : List Int) (who : Int) : List Hold := relGo who l 0
theorem relGo_len (who : Int) : ∀ (l : List Int) (k : Int), (relGo who l k).length ≤ l.length
  | [], _ => Nat.le_refl _
  | h :: t, k => by
    rw [relGo]
    have := relGo_len who t (k + 1)
    split <;> simp <;> omega
theorem rel_yes {who : Int} {l : List Int} {i : Nat} {r : List Hold} (h : i < l.length) (h1 : l.getD i default = who) (h2 : who ≠ -1) : r ++ relGo who (l.drop i) (i : Int) = (r ++ [⟨(i : Int), who, -1⟩]) ++ relGo who (l.drop (i + 1)) ((i + 1 : Nat) : Int) := by
  rw [drop_getD h, relGo, if_pos ⟨h1, h2⟩, List.append_assoc]
  rfl
theorem rel_no {who : Int} {l : List Int} {i : Nat} {r : List Hold} (h : i < l.length) (h1 : ¬ (l.getD i default = who ∧ who ≠ -1)) : r ++ relGo who (l.drop i) (i : Int) = r ++ relGo who (l.drop (i + 1)) ((i + 1 : Nat) : Int) := by
  rw [drop_getD h, relGo, if_neg h1]
  rfl
section
variable {P : Program} {I : InlP} {nb : Nat} {ops : Array Oper} {K : St → Prop} {r : List Oper} {ts : Slots} {m : Mem} {t : Nat} {ty : TypeId} {pos : String} {af : Array Edge} {d : Bool} {i : Nat} {acc : List (Nat × List Nat × List Nat)}
/-- A struct of which parts are structs. -/
theorem GL.buildG (hI : InlM I) {e : TypeId} {ps : Array (Nat × Operand)} {vs : List (Nat × LV)} {z cs : List LV} (hz : zeroL P e = some z) (hs : sizesOk P e = true) (hv : EvS ts ps.toList vs) (hp : (vs.all fun p => (cellsL p.2).all oneC) = true) (h : fillL (placeS P e) z vs = some cs)
    (k : GL P I nb ops K d r (i + 1) ((i, [], []) :: acc) ⟨updS ts t (.agg cs), m⟩) : GL P I nb ops K d (⟨some t, .build e ps, ty, pos, af, none⟩ :: r) i acc ⟨ts, m⟩ := by
  refine .build hI ?_ (by rw [hv.all]; exact hp) k
  rw [hv.map, buildL, hz]
  simp only [hs, if_true, h, Option.map_some]
end
end Go.Proofs.Ytffnlhjdlhpmjaa.Mv
