/- Appending, making, and the small builtins are sound. -/
import Derived.Test.YtpepcfombibpeaaMv8
set_option linter.unusedVariables false
set_option linter.unusedSimpArgs false
namespace Go.Proofs.Ytpepcfombibpeaa.Mv

section
variable {P : Program} {X : Ctx} {st : St} {a : Act} {w : World} {F : Nat → Prop} {ρ : Locs}

/-- Elements as a list of values. -/
theorem flat_cells {blk o n sz : Nat} {es : List (List LV)} (hn : es.length = n) (hsz : ∀ e ∈ es, e.length = sz)
    (h : ∀ (i : Nat) e (c : Nat) q, es[i]? = some e → e[c]? = some q → ∃ v, w.cell? ⟨blk, o + (i * sz + c), none⟩ = some v ∧ RelF w F v q) :
    ∃ news : List Value, news.length = n * sz ∧ (∀ j u, news[j]? = some u → w.cell? ⟨blk, o + j, none⟩ = some u) ∧
      ∀ (i : Nat) e (c : Nat) q, es[i]? = some e → e[c]? = some q → ∃ v, news[i * sz + c]? = some v ∧ RelF w F v q := by
  have key : ∀ j, j < n * sz → ∃ v, w.cell? ⟨blk, o + j, none⟩ = some v ∧ ∀ (i : Nat) e (c : Nat) q, es[i]? = some e → e[c]? = some q → i * sz + c = j → RelF w F v q := by
    intro j hj
    have hs0 : 0 < sz := Nat.pos_of_ne_zero fun h0 => by subst h0; simp at hj
    have hq : j / sz < es.length := by rw [hn]; exact (Nat.div_lt_iff_lt_mul hs0).2 hj
    have hm : j % sz < sz := Nat.mod_lt _ hs0
    have hel : (es[j / sz]).length = sz := hsz _ (List.getElem_mem hq)
    have he : es[j / sz]? = some es[j / sz] := List.getElem?_eq_getElem hq
    have hc : (es[j / sz])[j % sz]? = some ((es[j / sz])[j % sz]'(by omega)) := List.getElem?_eq_getElem _
    obtain ⟨v, hv, hr⟩ := h _ _ _ _ he hc
    have hdm : j / sz * sz + j % sz = j := by rw [Nat.mul_comm]; exact Nat.div_add_mod j sz
    rw [hdm] at hv
    refine ⟨v, hv, fun i e c q he' hc' hij => ?_⟩
    have hcl : c < sz := by have := (List.getElem?_eq_some_iff.1 hc').1; rw [hsz e (List.mem_of_getElem? he')] at this; exact this
    obtain ⟨h1, h2⟩ := at_inj (hij.trans hdm.symm) hcl hm
    subst h1 h2
    rw [he] at he'
    injection he' with he'
    subst he'
    rw [hc] at hc'
    injection hc' with hc'
    subst hc'
    exact hr
  obtain ⟨cs, h1, h2⟩ := cells_list (w := w) (blk := blk) (o := o) key
  refine ⟨cs, h1, fun j u hu => (h2 j u hu).1, fun i e c q he hq => ?_⟩
  have hi : i < n := by have := (List.getElem?_eq_some_iff.1 he).1; omega
  have hcl : c < sz := by have := (List.getElem?_eq_some_iff.1 hq).1; rw [hsz e (List.mem_of_getElem? he)] at this; exact this
  have := at_fit (sz := sz) hi
  have hj : cs[i * sz + c]? = some (cs[i * sz + c]'(by omega)) := List.getElem?_eq_getElem _
  exact ⟨_, hj, (h2 _ _ hj).2 i e c q he hq rfl⟩

/-- What an append takes, as values. -/
def SrcOK (w : World) (F : Nat → Prop) (v : Value) (sz : Nat) (es : List (List LV)) : Prop :=
  ∃ (ad : Addr) (cap : Nat) (news : List Value), v = .slice (some ad) es.length cap ∧ news.length = es.length * sz ∧ (∀ j u, news[j]? = some u → w.cell? (ad.add j) = some u) ∧ (∀ e ∈ es, e.length = sz) ∧
    ∀ (i : Nat) e (c : Nat) q, es[i]? = some e → e[c]? = some q → ∃ v, news[i * sz + c]? = some v ∧ RelF w F v q

theorem src_sound (h : Inv X st a w F ρ) {v : Value} {l : LV} {sz : Nat} {es : List (List LV)} {R : List Nat} (hv : RelL w F ρ st.m v l) (hs : SrcR st.m l sz es R) (h0 : 0 < es.length) : SrcOK w F v sz es := by
  cases hs with
  | nils => simp at h0
  | sl hz =>
    obtain ⟨ad, len, cap, blk, off, sz', val, rfl, g1, g2, g3, g4, g5, g6⟩ := hv.toSl
    obtain ⟨rfl, hF⟩ := g3 (by omega)
    have hsz : sz' = sz := by
      have hm : es[0] ∈ es := List.getElem_mem h0
      rw [← g4 _ hm, hz _ hm]
    subst hsz
    obtain ⟨news, k1, k2, k3⟩ := flat_cells (w := w) (F := F) (blk := blk) (o := off) (sz := sz') rfl g4 fun i e c q he hq => ⟨_, g5 i e c q he hq, g6 i e c q he hq⟩
    exact ⟨_, cap, news, by rw [g1], k1, fun j u hu => by rw [add_plain]; exact k2 j u hu, g4, k3⟩
  | @own b g off len cap x hm hg hk hl =>
    obtain ⟨-, -, hh⟩ := hv.toOwn hm hg
    have hb := BoxOK.cells (by rw [hk]; simp) (h.boxes b x hm)
    have hlen : ((x.es.drop off).take len).length = len := by simp; omega
    cases hr : ρ b with
    | none =>
      rw [hr] at hb
      have : x.es = [] := hb
      rw [this] at h0
      simp at h0
    | some lc =>
      rw [hr] at hh hb
      obtain ⟨ad, cap', rfl, ha, hc, -⟩ := hh
      obtain ⟨cs, t, g1, g2, g3, g4, g5⟩ := hb
      have had := ha (by omega)
      subst had
      rw [hk] at g5
      obtain ⟨news, k1, k2, k3⟩ := flat_cells (w := w) (F := F) (blk := lc.blk) (o := lc.base + off * x.sz) (sz := x.sz) (es := (x.es.drop off).take len) rfl
        (fun e he => g4 e (List.mem_of_mem_drop (List.mem_of_mem_take he))) fun i e c q he hq => by
          obtain ⟨-, he⟩ := drop_take_get he
          obtain ⟨u, hu, hrel⟩ := g5 _ _ _ _ he hq
          refine ⟨u, ?_, hrel⟩
          have : lc.base + off * x.sz + (i * x.sz + c) = lc.base + ((off + i) * x.sz + c) := by rw [Nat.add_mul]; omega
          simp only [World.cell?, g1, this]
          exact hu
      exact ⟨_, cap', news, by rw [hlen], k1, fun j u hu => by rw [add_plain]; exact k2 j u hu, fun e he => g4 e (List.mem_of_mem_drop (List.mem_of_mem_take he)), k3⟩

/-- An append that needs a new block. -/
theorem run_grow {t ty e : TypeId} {i : TypeInfo} {z : Value} (ht : P.underlying t = some (.slice e)) (hi : P.info? e = some i) (hz : i.zero = some z) (hzs : z.cells.size = i.size)
    {ao : Option Addr} {len cap : Nat} {olds : List Value} (hlo : olds.length = len * i.size) (holds : ∀ ad, ao = some ad → ∀ j v, olds[j]? = some v → w.cell? (ad.add j) = some v) (hnone : ao = none → len = 0 ∧ cap = 0)
    {ad : Addr} {n c : Nat} {news : List Value} (hl : news.length = n * i.size) (hnews : ∀ j v, news[j]? = some v → w.cell? (ad.add j) = some v) (h0 : 0 < n) (hg : cap < len + n) (hb : len + n ≤ 4294967296) (hby : i.bytes ≤ 4096) :
    ∃ w' cap2, (Builtin.append_ #[t, t] ty #[.slice ao len cap, .slice (some ad) n c]).run P w = .ok (.slice (some ⟨w.heap.size, 0, none⟩) (len + n) cap2) w' ∧ len + n ≤ cap2 ∧
      w'.heap = w.heap.push (.cells (olds.toArray ++ news.toArray ++ Builtin.zeroCells z.cells (cap2 - (len + n))) e (0, 0)) ∧ w'.os = w.os ∧ w'.tape = w.tape ∧ w'.output = w.output := by
  have hbytes : (len + n) * i.bytes ≤ 17592186044416 := by
    have := Nat.mul_le_mul hb hby
    omega
  cases ao with
  | none =>
    obtain ⟨rfl, rfl⟩ := hnone rfl
    have ho : olds = [] := List.eq_nil_of_length_eq_zero (by simpa using hlo)
    subst ho
    have hr := run_append_nil (P := P) w t ty e i z ht hi hz ad n c news hl hnews h0 (by omega) (by simp only [Nat.zero_add] at hbytes; omega)
    refine ⟨w.drew.alloc (.cells (news.toArray ++ Builtin.zeroCells z.cells (grownCap w n 0 e - n)) e), grownCap w n 0 e, by rw [Nat.zero_add]; exact hr, by rw [Nat.zero_add]; exact grownCap_ge w n 0 e, ?_, rfl, rfl, rfl⟩
    simp only [Nat.zero_add, Array.empty_append]
    rfl
  | some b =>
    have hr := run_append_grow (P := P) w t ty e i z ht hi hz b len cap olds hlo (holds b rfl) ad n c news hl hnews hg (by omega) (growslice_fits hg (by omega))
    exact ⟨_, grownCap w (len + n) cap e, hr, grownCap_ge w (len + n) cap e, rfl, rfl, rfl, rfl⟩

/-- What lies in the new block. -/
theorem grown_cells {sz len n cap2 : Nat} {z : Array Value} (hz : z.size = sz) {olds news : List Value} {es1 es2 : List (List LV)} (hlo : olds.length = len * sz) (hl : news.length = n * sz) (h1 : es1.length = len) (h2 : es2.length = n)
    (hs1 : ∀ e ∈ es1, e.length = sz) (hs2 : ∀ e ∈ es2, e.length = sz) (hc : len + n ≤ cap2)
    (r1 : ∀ (i : Nat) e (c : Nat) q, es1[i]? = some e → e[c]? = some q → ∃ v, olds[i * sz + c]? = some v ∧ RelF w F v q)
    (r2 : ∀ (i : Nat) e (c : Nat) q, es2[i]? = some e → e[c]? = some q → ∃ v, news[i * sz + c]? = some v ∧ RelF w F v q) :
    (olds.toArray ++ news.toArray ++ Builtin.zeroCells z (cap2 - (len + n))).size = cap2 * sz ∧ (∀ e ∈ es1 ++ es2, e.length = sz) ∧
      ∀ (i : Nat) e (c : Nat) q, (es1 ++ es2)[i]? = some e → e[c]? = some q → ∃ v, (olds.toArray ++ news.toArray ++ Builtin.zeroCells z (cap2 - (len + n)))[i * sz + c]? = some v ∧ RelF w F v q := by
  refine ⟨?_, fun e he => ?_, fun i e c q he hq => ?_⟩
  · simp only [Array.size_append, List.size_toArray, size_zeroCells, hz, hlo, hl, ← Nat.add_mul]
    congr 1
    omega
  · rcases List.mem_append.1 he with he | he
    · exact hs1 e he
    · exact hs2 e he
  · by_cases hi : i < len
    · rw [List.getElem?_append_left (by omega)] at he
      obtain ⟨v, hv, hr⟩ := r1 i e c q he hq
      refine ⟨v, ?_, hr⟩
      have hlt := (List.getElem?_eq_some_iff.1 hv).1
      rw [Array.getElem?_append_left (by simp; omega), Array.getElem?_append_left (by simpa using hlt)]
      simpa using hv
    · rw [List.getElem?_append_right (by omega), h1] at he
      obtain ⟨v, hv, hr⟩ := r2 (i - len) e c q he hq
      refine ⟨v, ?_, hr⟩
      have hlt := (List.getElem?_eq_some_iff.1 hv).1
      have e1 : i * sz + c = len * sz + ((i - len) * sz + c) := by
        rw [← Nat.add_assoc, ← Nat.add_mul]
        congr 2
        omega
      rw [Array.getElem?_append_left (by simp; omega), Array.getElem?_append_right (by simp; omega)]
      simp only [List.size_toArray, hlo, e1]
      rw [Nat.add_sub_cancel_left]
      simpa using hv

theorem appendN_sound (h : Inv X st a w F ρ) {d : Nat} {x y : Operand} {t e : TypeId} {es : List (List LV)} {z : List LV} {R : List Nat} (hx : evalO st.ts x = .nils) (ht : sliceE P t = some e) (hz : zeroL P e = some z) (hs : szT P e = some z.length)
    (hy : SrcR st.m (evalO st.ts y) z.length es R) (h0 : 0 < es.length) (h1 : es.length ≤ 4294967296) (hb : P.bytesOf e ≤ 4096) {o : Oper} (ho : o.op = .call { callee := .builtin .append, args := #[x, y], argTypes := #[t, t] }) :
    Sound P X st a w o (.own d (genAt st.m d) 0 es.length none) [(d, ⟨genAt st.m d, false, .slc, z.length, es⟩)] := by
  obtain ⟨dst, op, ty, pos, after, guard⟩ := o
  simp only at ho
  subst ho
  have hv := h.eval x
  rw [hx] at hv
  have hv := hv.nils
  obtain ⟨ad, cap, news, hyv, g1, g2, g3, g4⟩ := src_sound h (h.eval y) hy h0
  obtain ⟨i, zv, hi, hz', rfl⟩ := zeroL_some hz
  simp only [List.length_map, Array.length_toList] at hs g1 g3 g4 ⊢
  obtain ⟨i', hi', hs'⟩ := szT_some hs
  rw [hi] at hi'
  injection hi' with hi'
  subst hi'
  have hby : i.bytes ≤ 4096 := by simpa [Program.bytesOf, hi] using hb
  obtain ⟨w', cap2, hr, hcap, hheap, q1, q2, q3⟩ := run_grow (P := P) (w := w) (ty := ty) (sliceE_some ht) hi hz' hs'.symm (c := cap) (ao := none) (len := 0) (cap := 0) (olds := []) (by simp) (by simp) (fun _ => ⟨rfl, rfl⟩) (by rw [hs']; exact g1) g2 h0 (by omega) (by omega) hby
  simp only [Nat.zero_add] at hr hcap hheap
  obtain ⟨k1, k2, k3⟩ := grown_cells (w := w) (F := F) (sz := zv.cells.size) (len := 0) (n := es.length) (cap2 := cap2) (z := zv.cells) rfl (olds := []) (es1 := []) (es2 := es) (by simp) g1 rfl rfl (by simp) g3 (by omega) (by simp) g4
  simp only [Nat.zero_add, List.nil_append] at k1 k2 k3
  refine ⟨_, .slice (some ⟨w.heap.size, 0, none⟩) es.length cap2, w', F, updR ρ d ⟨w.heap.size, 0, cap2⟩, ?_, .inl rfl, h.newCells d (k := .slc) (by simp) k2 (by rw [k1]; exact Nat.le_refl _) hcap (fun i e c q he hq => k3 i e c q he hq) hheap q1 q2 q3, ?_⟩
  · simp only [execOp, resolve, List.map_toArray, List.map_cons, List.map_nil, Sem.run_bind, Sem.run_pure, Result.andThen_ok, invoke, builtin, hv, hyv]
    rw [hr]
    rfl
  · exact .own rfl (updM_same _ _ _) (Nat.le_refl _) fun _ => ⟨rfl, by simp, by rw [updR_same]; exact ⟨_, cap2, rfl, fun _ => by simp, hcap, by simp⟩⟩

/-- The cells under a header. -/
theorem own_olds (h : Inv X st a w F ρ) {b off len : Nat} {bx : Box} {lc : Loc} (hm : st.m b = some bx) (hk : bx.kind = .slc) (hr : ρ b = some lc) (hl : off + len ≤ bx.es.length) :
    ∃ olds : List Value, olds.length = len * bx.sz ∧ (∀ j u, olds[j]? = some u → w.cell? ⟨lc.blk, lc.base + off * bx.sz + j, none⟩ = some u) ∧ (∀ e ∈ (bx.es.drop off).take len, e.length = bx.sz) ∧
      ∀ (i : Nat) e (c : Nat) q, ((bx.es.drop off).take len)[i]? = some e → e[c]? = some q → ∃ v, olds[i * bx.sz + c]? = some v ∧ RelF w F v q := by
  have hb := BoxOK.cells (by rw [hk]; simp) (h.boxes b bx hm)
  rw [hr] at hb
  obtain ⟨cs, t, g1, g2, g3, g4, g5⟩ := hb
  rw [hk] at g5
  obtain ⟨news, k1, k2, k3⟩ := flat_cells (w := w) (F := F) (blk := lc.blk) (o := lc.base + off * bx.sz) (sz := bx.sz) (es := (bx.es.drop off).take len) (n := len) (by simp; omega)
    (fun e he => g4 e (List.mem_of_mem_drop (List.mem_of_mem_take he))) fun i e c q he hq => by
      obtain ⟨-, he⟩ := drop_take_get he
      obtain ⟨u, hu, hrel⟩ := g5 _ _ _ _ he hq
      refine ⟨u, ?_, hrel⟩
      have : lc.base + off * bx.sz + (i * bx.sz + c) = lc.base + ((off + i) * bx.sz + c) := by rw [Nat.add_mul]; omega
      simp only [World.cell?, g1, this]
      exact hu
  exact ⟨news, k1, k2, fun e he => g4 e (List.mem_of_mem_drop (List.mem_of_mem_take he)), k3⟩

theorem appendC_sound (h : Inv X st a w F ρ) {d : Nat} {x y : Operand} {t e : TypeId} {b g off len c : Nat} {bx : Box} {es : List (List LV)} {z : List LV} {R : List Nat} (hx : evalO st.ts x = .own b g off len (some c)) (hm : st.m b = some bx) (hg : bx.gen = g)
    (hk : bx.kind = .slc) (hl : off + len ≤ bx.es.length) (ht : sliceE P t = some e) (hz : zeroL P e = some z) (hs : szT P e = some z.length) (hzs : bx.sz = z.length) (hy : SrcR st.m (evalO st.ts y) z.length es R) (h0 : 0 < es.length) (hgr : c < len + es.length)
    (h1 : len + es.length ≤ 4294967296) (hb : P.bytesOf e ≤ 4096) {o : Oper} (ho : o.op = .call { callee := .builtin .append, args := #[x, y], argTypes := #[t, t] }) :
    Sound P X st a w o (.own d (genAt st.m d) 0 (len + es.length) none) [(d, ⟨genAt st.m d, false, .slc, z.length, (bx.es.drop off).take len ++ es⟩)] := by
  obtain ⟨dst, op, ty, pos, after, guard⟩ := o
  simp only at ho
  subst ho
  have hv := h.eval x
  rw [hx] at hv
  obtain ⟨-, -, hh⟩ := hv.toOwn hm hg
  obtain ⟨ad, cap, news, hyv, g1, g2, g3, g4⟩ := src_sound h (h.eval y) hy h0
  obtain ⟨i, zv, hi, hz', rfl⟩ := zeroL_some hz
  simp only [List.length_map, Array.length_toList] at hs hzs g1 g3 g4 ⊢
  obtain ⟨i', hi', hs'⟩ := szT_some hs
  rw [hi] at hi'
  injection hi' with hi'
  subst hi'
  have hby : i.bytes ≤ 4096 := by simpa [Program.bytesOf, hi] using hb
  have hkey : ∃ (ao : Option Addr) (cap' : Nat) (olds : List Value), a.eval x = .slice ao len cap' ∧ cap' < len + es.length ∧ olds.length = len * i.size ∧ (∀ ad, ao = some ad → ∀ j v, olds[j]? = some v → w.cell? (ad.add j) = some v) ∧ (ao = none → len = 0 ∧ cap' = 0) ∧
      (∀ e ∈ (bx.es.drop off).take len, e.length = bx.sz) ∧ ∀ (i : Nat) e (c : Nat) q, ((bx.es.drop off).take len)[i]? = some e → e[c]? = some q → ∃ v, olds[i * bx.sz + c]? = some v ∧ RelF w F v q := by
    cases hr : ρ b with
    | none =>
      rw [hr] at hh
      have hbx := BoxOK.cells (by rw [hk]; simp) (h.boxes b bx hm)
      rw [hr] at hbx
      have hes : bx.es = [] := hbx
      rw [hes] at hl ⊢
      simp only [List.length_nil] at hl
      have e1 : len = 0 := by omega
      subst e1
      obtain ⟨a0, hh⟩ := hh
      exact ⟨a0, 0, [], hh, by omega, by simp, by simp, fun _ => ⟨rfl, rfl⟩, by simp, by simp⟩
    | some lc =>
      rw [hr] at hh
      obtain ⟨ao, cap', hv2, ha, hlc, hcc⟩ := hh
      obtain ⟨olds, k1, k2, k3, k4⟩ := own_olds h hm hk hr hl
      refine ⟨ao, cap', olds, hv2, by omega, by rw [k1, hzs, hs'], fun ad had j v hj => ?_, fun hn => ?_, k3, k4⟩
      · have hjl := (List.getElem?_eq_some_iff.1 hj).1
        have : 0 < len := Nat.pos_of_ne_zero fun h0 => by subst h0; simp at k1; simp [k1] at hjl
        rw [ha (by omega)] at had
        injection had with had
        subst had
        rw [add_plain]
        exact k2 j v hj
      · have : ¬ 0 < cap' := fun hp => by rw [hn] at ha; simpa using ha hp
        omega
  obtain ⟨ao, cap', olds, hv2, hlt, k1, k2, k3, k4, k5⟩ := hkey
  obtain ⟨w', cap2, hr, hcap, hheap, q1, q2, q3⟩ := run_grow (P := P) (w := w) (ty := ty) (c := cap) (sliceE_some ht) hi hz' hs'.symm k1 k2 k3 (by rw [hs']; exact g1) g2 h0 hlt h1 hby
  have hlen : ((bx.es.drop off).take len).length = len := by simp; omega
  rw [hzs] at k4 k5
  obtain ⟨p1, p2, p3⟩ := grown_cells (w := w) (F := F) (sz := zv.cells.size) (len := len) (n := es.length) (cap2 := cap2) (z := zv.cells) rfl (by rw [k1, hs']) g1 hlen rfl k4 g3 hcap k5 g4
  refine ⟨_, .slice (some ⟨w.heap.size, 0, none⟩) (len + es.length) cap2, w', F, updR ρ d ⟨w.heap.size, 0, cap2⟩, ?_, .inl rfl, h.newCells d (k := .slc) (by simp) p2 (by rw [p1]; exact Nat.le_refl _) (by simp only [List.length_append, hlen]; exact hcap) (fun i e c q he hq => p3 i e c q he hq) hheap q1 q2 q3, ?_⟩
  · simp only [execOp, resolve, List.map_toArray, List.map_cons, List.map_nil, Sem.run_bind, Sem.run_pure, Result.andThen_ok, invoke, builtin, hv2, hyv]
    rw [hr]
    rfl
  · exact .own rfl (updM_same _ _ _) (Nat.le_refl _) fun _ => ⟨rfl, by simp only [List.length_append, hlen]; omega, by rw [updR_same]; exact ⟨_, cap2, rfl, fun _ => by simp, hcap, by simp⟩⟩

theorem append_sound (h : Inv X st a w F ρ) {x y : Operand} {t e : TypeId} {b g off len : Nat} {bx : Box} {es : List (List LV)} {z : List LV} {R : List Nat} (hx : evalO st.ts x = .own b g off len none) (hm : st.m b = some bx) (hg : bx.gen = g)
    (hf : bx.frz = false) (hk : bx.kind = .slc) (hend : off + len = bx.es.length) (ht : sliceE P t = some e) (hz : zeroL P e = some z) (hs : szT P e = some z.length) (hzs : bx.sz = z.length) (hy : SrcR st.m (evalO st.ts y) z.length es R)
    (h0 : 0 < es.length) (hone : ∀ e ∈ es, e.all oneC = true) (h1 : len + es.length ≤ 4294967296) (hb : P.bytesOf e ≤ 4096) {o : Oper} (ho : o.op = .call { callee := .builtin .append, args := #[x, y], argTypes := #[t, t] }) :
    Sound P X st a w o (.own b (g + 1) 0 (len + es.length) none) [(b, { bx with gen := g + 1, es := bx.es.drop off ++ es })] := by
  obtain ⟨dst, op, ty, pos, after, guard⟩ := o
  simp only at ho
  subst ho
  have hv := h.eval x
  rw [hx] at hv
  obtain ⟨-, -, hh⟩ := hv.toOwn hm hg
  obtain ⟨ad, cap, news, hyv, g1, g2, g3, g4⟩ := src_sound h (h.eval y) hy h0
  obtain ⟨i, zv, hi, hz', rfl⟩ := zeroL_some hz
  simp only [List.length_map, Array.length_toList] at hs hzs g1 g3 g4 ⊢
  obtain ⟨i', hi', hs'⟩ := szT_some hs
  rw [hi] at hi'
  injection hi' with hi'
  subst hi'
  have hby : i.bytes ≤ 4096 := by simpa [Program.bytesOf, hi] using hb
  have hdt : (bx.es.drop off).take len = bx.es.drop off := List.take_of_length_le (by simp; omega)
  have hdl : (bx.es.drop off).length = len := by simp; omega
  have hbx := BoxOK.cells (by rw [hk]; simp) (h.boxes b bx hm)
  have runeq : ∀ {v : Value} {w' : World} {ao : Option Addr} {cap' : Nat}, a.eval x = .slice ao len cap' → (Builtin.append_ #[t, t] ty #[.slice ao len cap', .slice (some ad) es.length cap]).run P w = .ok v w' →
      (execOp a.eval { dst := dst, op := .call { callee := .builtin .append, args := #[x, y], argTypes := #[t, t] }, type := ty, pos := pos, after := after, guard := guard }).run P w = .ok (.value v) w' := by
    intro v w' ao cap' hv hr
    simp only [execOp, resolve, List.map_toArray, List.map_cons, List.map_nil, Sem.run_bind, Sem.run_pure, Result.andThen_ok, invoke, builtin, hv, hyv]
    rw [hr]
    rfl
  -- a new block
  have grow : ∀ (ao : Option Addr) (cap' : Nat) (olds : List Value), a.eval x = .slice ao len cap' → cap' < len + es.length → olds.length = len * i.size → (∀ ad, ao = some ad → ∀ j v, olds[j]? = some v → w.cell? (ad.add j) = some v) → (ao = none → len = 0 ∧ cap' = 0) →
      (∀ e ∈ bx.es.drop off, e.length = bx.sz) → (∀ (i : Nat) e (c : Nat) q, (bx.es.drop off)[i]? = some e → e[c]? = some q → ∃ v, olds[i * bx.sz + c]? = some v ∧ RelF w F v q) →
      Sound P X st a w { dst := dst, op := .call { callee := .builtin .append, args := #[x, y], argTypes := #[t, t] }, type := ty, pos := pos, after := after, guard := guard } (.own b (g + 1) 0 (len + es.length) none) [(b, { bx with gen := g + 1, es := bx.es.drop off ++ es })] := by
    intro ao cap' olds hv2 hlt k1 k2 k3 k4 k5
    obtain ⟨w', cap2, hr, hcap, hheap, q1, q2, q3⟩ := run_grow (P := P) (w := w) (ty := ty) (c := cap) (sliceE_some ht) hi hz' hs'.symm k1 k2 k3 (by rw [hs']; exact g1) g2 h0 hlt h1 hby
    rw [hzs] at k4 k5
    obtain ⟨p1, p2, p3⟩ := grown_cells (w := w) (F := F) (sz := zv.cells.size) (len := len) (n := es.length) (cap2 := cap2) (z := zv.cells) rfl (by rw [k1, hs']) g1 hdl rfl k4 g3 hcap k5 g4
    refine ⟨_, .slice (some ⟨w.heap.size, 0, none⟩) (len + es.length) cap2, w', F, updR ρ b ⟨w.heap.size, 0, cap2⟩, runeq hv2 hr, .inl rfl, ?_, ?_⟩
    · have hpush : ∀ b : Nat, b < w.heap.size → w'.heap[b]? = w.heap[b]? := fun b hb => by rw [hheap, Array.getElem?_push, if_neg (by omega)]
      refine h.write q1 q2 q3 (by rw [hheap]; simp) (fun b hb _ => hpush b hb) (fun j hj => updR_ne _ _ (Ne.symm hj)) hf (fun y hy => .inr ?_) (fun l hl => ?_) fun hc hF => BoxOK.of_cells (by simp only [hk]; simp) ?_
      · rw [hm] at hy
        injection hy with hy
        subst hy
        simp only
        omega
      · rw [updR_same] at hl
        injection hl with hl
        subst hl
        exact ⟨by rw [hheap]; simp, .inl (Nat.le_refl _)⟩
      · rw [updR_same]
        refine ⟨olds.toArray ++ news.toArray ++ Builtin.zeroCells zv.cells (cap2 - (len + es.length)), e, by rw [hheap, Array.getElem?_push, if_pos rfl], by simp only [Nat.zero_add, p1, hzs]; exact Nat.le_refl _, by simp only [List.length_append, hdl]; exact hcap, by simp only [hzs]; exact p2, fun j e' c q he hq => ?_⟩
        obtain ⟨v, hv, hr⟩ := p3 j e' c q he hq
        refine ⟨v, by simpa [hzs] using hv, ?_⟩
        simp only [hk]
        exact hr.mono (fun _ h => h) hF
    · refine .own rfl (updM_same _ _ _) (Nat.le_refl _) fun _ => ⟨hk, by simp only [List.length_append, hdl]; omega, ?_⟩
      rw [updR_same]
      exact ⟨_, cap2, rfl, fun _ => by simp, hcap, by simp⟩
  cases hr : ρ b with
  | none =>
    rw [hr] at hh hbx
    have hes : bx.es = [] := hbx
    have e1 : len = 0 := by rw [hes] at hend; simp at hend; omega
    subst e1
    obtain ⟨a0, hh⟩ := hh
    refine grow a0 0 [] hh (by omega) (by simp) (by simp) (fun _ => ⟨rfl, rfl⟩) ?_ ?_
    · rw [hes]; simp
    · rw [hes]; simp
  | some lc =>
    rw [hr] at hh hbx
    obtain ⟨ao, cap', hv2, ha, hlc, hcc⟩ := hh
    simp only at hcc
    obtain ⟨olds, k1, k2, k3, k4⟩ := own_olds h hm hk hr (Nat.le_of_eq hend)
    rw [hdt] at k3 k4
    by_cases hroom : len + es.length ≤ cap'
    · -- in place
      have had := ha (by omega)
      subst had
      obtain ⟨cur, t', c1, c2, c3, c4, c5⟩ := hbx
      have n1 : ∀ u ∈ news, u.oneCell' = true := by
        intro u hu
        obtain ⟨j, hj, rfl⟩ := List.mem_iff_getElem.1 hu
        have hz0 : 0 < zv.cells.size := Nat.pos_of_ne_zero fun h0 => by rw [h0] at g1; simp at g1; simp [g1] at hj
        have hq : j / zv.cells.size < es.length := by rw [Nat.div_lt_iff_lt_mul hz0]; omega
        have hmm : j % zv.cells.size < zv.cells.size := Nat.mod_lt _ hz0
        have hel : (es[j / zv.cells.size]).length = zv.cells.size := g3 _ (List.getElem_mem hq)
        obtain ⟨v, hv, hrel⟩ := g4 _ _ _ _ (List.getElem?_eq_getElem hq) (List.getElem?_eq_getElem (by omega : j % zv.cells.size < (es[j / zv.cells.size]).length))
        have hdm : j / zv.cells.size * zv.cells.size + j % zv.cells.size = j := by rw [Nat.mul_comm]; exact Nat.div_add_mod j _
        rw [hdm, List.getElem?_eq_getElem hj] at hv
        injection hv with hv
        rw [hv]
        refine hrel.one ?_
        have := hone _ (List.getElem_mem hq)
        rw [List.all_eq_true] at this
        exact this _ (List.getElem_mem _)
      have hfit : len * zv.cells.size + es.length * zv.cells.size ≤ cap' * zv.cells.size := by rw [← Nat.add_mul]; exact Nat.mul_le_mul_right _ hroom
      have hext : off * zv.cells.size + cap' * zv.cells.size = lc.ext * zv.cells.size := by rw [← Nat.add_mul, hcc]
      rw [hzs] at c2
      have hst := run_storeCells_at P lc.blk (lc.base + off * bx.sz + len * i.size) t' news 0 cur w c1 (by rw [hzs, hs']; omega) n1
      simp only [Nat.add_zero] at hst
      have hf1 := run_firstCells_some (P := P) w i.size es.length ad es.length cap news (by rw [hs']; exact g1) g2
      have hrun : (Builtin.append_ #[t, t] ty #[.slice (some ⟨lc.blk, lc.base + off * bx.sz, none⟩) len cap', .slice (some ad) es.length cap]).run P w =
          .ok (.slice (some ⟨lc.blk, lc.base + off * bx.sz, none⟩) (len + es.length) cap') (w.setRow lc.blk (cur.toList.take (lc.base + off * bx.sz + len * i.size) ++ news ++ cur.toList.drop (lc.base + off * bx.sz + len * i.size + news.length)).toArray) := by
        simp [Builtin.append_, run_underlying (sliceE_some ht), sizeOf, typeInfo, hi, Builtin.lenOf, hroom, hf1, add_plain, hst]
      refine ⟨_, _, _, F, updR ρ b ⟨lc.blk, lc.base + off * bx.sz, cap'⟩, runeq hv2 hrun, .inl rfl, ?_, ?_⟩
      · refine h.write rfl rfl rfl (by simp) (fun k hk' hne => setRow_other w lc.blk k _ (hne bx lc hm hf hr)) (fun j hj => updR_ne _ _ (Ne.symm hj)) hf (fun y hy => .inr ?_) (fun l hl => ?_) fun hc hF => BoxOK.of_cells (by simp only [hk]; simp) ?_
        · rw [hm] at hy
          injection hy with hy
          subst hy
          simp only
          omega
        · rw [updR_same] at hl
          injection hl with hl
          subst hl
          exact ⟨by simp; exact (h.place b bx lc hm hr).1, .inr ⟨bx, lc, hm, hf, hr, rfl⟩⟩
        · rw [updR_same]
          refine ⟨_, t', setRow_heap w lc.blk cur _ t' _ c1, ?_, by simp only [List.length_append, hdl]; exact hroom, ?_, fun j e' c q he hq => ?_⟩
          · simp only [List.size_toArray, List.length_append, List.length_take, List.length_drop, Array.length_toList, hzs, hs', g1]
            omega
          · simp only
            intro e' he'
            rcases List.mem_append.1 he' with he' | he'
            · exact k3 e' he'
            · rw [hzs]; exact g3 e' he'
          · have hkey : ∃ v, ((cur.toList.take (lc.base + off * bx.sz + len * i.size) ++ news ++ cur.toList.drop (lc.base + off * bx.sz + len * i.size + news.length)).toArray)[lc.base + off * bx.sz + (j * bx.sz + c)]? = some v ∧ RelF w F v q := by
             simp only [hzs, hs'] at he hq ⊢
             have htl : (cur.toList.take (lc.base + off * zv.cells.size + len * zv.cells.size)).length = lc.base + off * zv.cells.size + len * zv.cells.size := by simp; omega
             by_cases hj : j < len
             · rw [List.getElem?_append_left (by omega)] at he
               have hcl : c < zv.cells.size := by
                 have := (List.getElem?_eq_some_iff.1 hq).1
                 rw [k3 e' (List.mem_of_getElem? he), hzs] at this
                 exact this
               have hjf := at_fit (sz := zv.cells.size) hj
               rw [List.getElem?_drop] at he
               obtain ⟨u, hu, hrel⟩ := c5 (off + j) e' c q he hq
               rw [hk] at hrel
               refine ⟨u, ?_, hrel⟩
               rw [List.getElem?_toArray, List.getElem?_append_left (by simp; omega), List.getElem?_append_left (by omega), List.getElem?_take, if_pos (by omega), Array.getElem?_toList]
               rw [hzs, Nat.add_mul] at hu
               rw [show lc.base + off * zv.cells.size + (j * zv.cells.size + c) = lc.base + (off * zv.cells.size + j * zv.cells.size + c) by omega]
               exact hu
             · rw [List.getElem?_append_right (by omega), hdl] at he
               obtain ⟨v, hv, hrel⟩ := g4 (j - len) e' c q he hq
               refine ⟨v, ?_, hrel⟩
               have hvl := (List.getElem?_eq_some_iff.1 hv).1
               have e1 : j * zv.cells.size + c = len * zv.cells.size + ((j - len) * zv.cells.size + c) := by
                 rw [← Nat.add_assoc, ← Nat.add_mul]
                 congr 2
                 omega
               rw [List.getElem?_toArray, List.getElem?_append_left (by simp; omega), List.getElem?_append_right (by omega), htl, e1]
               rw [show lc.base + off * zv.cells.size + (len * zv.cells.size + ((j - len) * zv.cells.size + c)) - (lc.base + off * zv.cells.size + len * zv.cells.size) = (j - len) * zv.cells.size + c by omega]
               exact hv
            obtain ⟨v, hv, hrel⟩ := hkey
            refine ⟨v, hv, ?_⟩
            simp only [hk]
            exact hrel.mono (fun _ h => h) hF
      · refine .own rfl (updM_same _ _ _) (Nat.le_refl _) fun _ => ⟨hk, by simp only [List.length_append, hdl]; omega, ?_⟩
        rw [updR_same]
        exact ⟨_, cap', rfl, fun _ => by simp, hroom, by simp⟩
    · refine grow ao cap' olds hv2 (by omega) (by rw [k1, hzs, hs']) (fun ad had j v hj => ?_) (fun hn => ?_) k3 k4
      · have hjl := (List.getElem?_eq_some_iff.1 hj).1
        have : 0 < len := Nat.pos_of_ne_zero fun h0 => by subst h0; simp at k1; simp [k1] at hjl
        rw [ha (by omega)] at had
        injection had with had
        subst had
        rw [add_plain]
        exact k2 j v hj
      · have : ¬ 0 < cap' := fun hp => by rw [hn] at ha; simpa using ha hp
        omega
end
end Go.Proofs.Ytpepcfombibpeaa.Mv
