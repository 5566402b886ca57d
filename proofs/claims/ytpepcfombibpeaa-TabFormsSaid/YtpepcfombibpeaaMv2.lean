/- How abstract values and memory stand to the model's: relations, and the steps that keep them. -/
import Derived.Test.YtpepcfombibpeaaMv1
import Derived.Laws.Sem
set_option linter.unusedVariables false
set_option linter.unusedSimpArgs false
namespace Go.Proofs.Ytpepcfombibpeaa.Mv

/-- Blocks that were there are as they were, but those of the list. -/
structure Ext (O : List Nat) (w w' : World) : Prop where
  os : w'.os = w.os
  tape : w'.tape = w.tape
  output : w'.output = w.output
  size : w.heap.size ≤ w'.heap.size
  block : ∀ k, k < w.heap.size → k ∉ O → w'.heap[k]? = w.heap[k]?
theorem Ext.refl (O : List Nat) (w : World) : Ext O w w := ⟨rfl, rfl, rfl, Nat.le_refl _, fun _ _ _ => rfl⟩
theorem Ext.trans {O : List Nat} {a b c : World} (h : Ext O a b) (k : Ext O b c) : Ext O a c :=
  ⟨k.os.trans h.os, k.tape.trans h.tape, k.output.trans h.output, Nat.le_trans h.size k.size, fun i hi ho => (k.block i (Nat.lt_of_lt_of_le hi h.size) ho).trans (h.block i hi ho)⟩
/-- A step that writes only new blocks, or blocks of the list, or such as came behind. -/
theorem Ext.step {O O' : List Nat} {a b c : World} (h : Ext O a b) (k : Ext O' b c) (ho : ∀ x ∈ O', x ∈ O ∨ a.heap.size ≤ x) : Ext O a c :=
  ⟨k.os.trans h.os, k.tape.trans h.tape, k.output.trans h.output, Nat.le_trans h.size k.size, fun i hi hno => by
    refine (k.block i (Nat.lt_of_lt_of_le hi h.size) fun hm => ?_).trans (h.block i hi hno)
    rcases ho i hm with h1 | h1
    · exact hno h1
    · omega⟩

theorem cell_of_block {w w' : World} {p : Addr} (h : w'.heap[p.block]? = w.heap[p.block]?) : w'.cell? p = w.cell? p := by
  simp only [World.cell?, h]

/-- What nobody writes any more: read in blocks of F. -/
inductive RelF (w : World) (F : Nat → Prop) : Value → LV → Prop
  | int (k : IntKind) (n : Int) : RelF w F (.int k n) (.int k n)
  | bool (b : Bool) : RelF w F (.bool b) (.bool b)
  | str (s : ByteArray) : RelF w F (.string s) (.str s)
  | nilp : RelF w F (.pointer none) .nilp
  | nils : RelF w F (.slice none 0 0) .nils
  | nilm : RelF w F (.map none) .nilm
  | skip : RelF w F Go.undef .skip
  | undef (v : Value) : RelF w F v .undef
  | sl {a : Option Addr} {len cap : Nat} {es : List (List LV)} {blk off sz : Nat} (val : Nat → Nat → Value) (hl : len = es.length) (hc : len ≤ cap)
      (ha : 0 < len → a = some ⟨blk, off, none⟩ ∧ F blk) (hsz : ∀ e ∈ es, e.length = sz)
      (hcell : ∀ (i : Nat) e (c : Nat) l, es[i]? = some e → e[c]? = some l → w.cell? ⟨blk, off + (i * sz + c), none⟩ = some (val i c))
      (hrel : ∀ (i : Nat) e (c : Nat) l, es[i]? = some e → e[c]? = some l → RelF w F (val i c) l) : RelF w F (.slice a len cap) (.sl es)
  | fad {es : List (List LV)} {i c blk off sz : Nat} (val : Nat → Nat → Value) (hF : F blk) (hsz : ∀ e ∈ es, e.length = sz)
      (hcell : ∀ (i : Nat) e (c : Nat) l, es[i]? = some e → e[c]? = some l → w.cell? ⟨blk, off + (i * sz + c), none⟩ = some (val i c))
      (hrel : ∀ (i : Nat) e (c : Nat) l, es[i]? = some e → e[c]? = some l → RelF w F (val i c) l) : RelF w F (.pointer (some ⟨blk, off + (i * sz + c), none⟩)) (.fad es i c)
  | fmap0 : RelF w F (.map none) (.fmap [])
  | fmap {r clock : Nat} {ents : Array MapEntry} {es : List (List LV)} (kv : Nat → LV × LV) (hF : F r) (hr : w.heap[r]? = some (.map ents clock)) (hn : ents.size = es.length)
      (he : ∀ (i : Nat) e, es[i]? = some e → e = [(kv i).1, (kv i).2])
      (hk : ∀ (i : Nat) ent, ents[i]? = some ent → RelF w F ent.key (kv i).1) (hv : ∀ (i : Nat) ent, ents[i]? = some ent → RelF w F ent.val (kv i).2) : RelF w F (.map (some r)) (.fmap es)
  | agg {cs : Array Value} {ls : List LV} (hn : cs.size = ls.length) (h : ∀ (i : Nat) v l, cs[i]? = some v → ls[i]? = some l → RelF w F v l) : RelF w F (.agg cs) (.agg ls)
  | tup {cs : Array Value} {ls : List LV} (hn : cs.size = ls.length) (h : ∀ (i : Nat) v l, cs[i]? = some v → ls[i]? = some l → RelF w F v l) : RelF w F (.tuple cs) (.tup ls)
  | fn {f : FuncId} {cs : Array Value} {ls : List LV} (hn : cs.size = ls.length) (h : ∀ (i : Nat) v l, cs[i]? = some v → ls[i]? = some l → RelF w F v l) : RelF w F (.func (.func f) #[] cs) (.fn f ls)

theorem RelF.mono {w w' : World} {F F' : Nat → Prop} (hF : ∀ b, F b → F' b) (hw : ∀ b, F b → w'.heap[b]? = w.heap[b]?) {v : Value} {l : LV} (h : RelF w F v l) : RelF w' F' v l := by
  induction h with
  | int k n => exact .int k n
  | bool b => exact .bool b
  | str s => exact .str s
  | nilp => exact .nilp
  | nils => exact .nils
  | nilm => exact .nilm
  | skip => exact .skip
  | undef v => exact .undef v
  | @sl a len cap es blk off sz val hl hc ha hsz hcell hrel ih =>
    refine .sl (blk := blk) (off := off) (sz := sz) val hl hc (fun h0 => ⟨(ha h0).1, hF _ (ha h0).2⟩) hsz (fun i e c l he hc' => ?_) ih
    have hlen : i < es.length := (List.getElem?_eq_some_iff.1 he).1
    rw [cell_of_block (w := w) (hw _ (ha (by omega)).2)]
    exact hcell i e c l he hc'
  | @fad es i c blk off sz val hFb hsz hcell hrel ih =>
    refine .fad val (hF _ hFb) hsz (fun i e c l he hc' => ?_) ih
    rw [cell_of_block (w := w) (hw _ hFb)]
    exact hcell i e c l he hc'
  | fmap0 => exact .fmap0
  | fmap kv hFr hr hn he hk hv ihk ihv => exact .fmap kv (hF _ hFr) ((hw _ hFr).trans hr) hn he ihk ihv
  | agg hn h ih => exact .agg hn ih
  | tup hn h ih => exact .tup hn ih
  | fn hn h ih => exact .fn hn ih

/-- Where a box lies: its block, its first cell there, how many elements there is room for. -/
structure Loc where
  blk : Nat
  base : Nat
  ext : Nat
abbrev Locs := Nat → Option Loc
def updR (f : Locs) (i : Nat) (b : Loc) : Locs := fun j => cond (Nat.beq i j) (some b) (f j)
theorem updR_same (f : Locs) (i : Nat) (v : Loc) : updR f i v i = some v := by simp [updR]
theorem updR_ne (f : Locs) {i j : Nat} (v : Loc) (h : i ≠ j) : updR f i v j = f j := by
  have : Nat.beq i j = false := by
    cases h' : Nat.beq i j
    · rfl
    · exact absurd (Nat.eq_of_beq_eq_true h') h
  simp [updR, this]

/-- A slice's header over a box. -/
def HdrOK (L : Option Loc) (x : Box) (v : Value) (off len : Nat) (cap : Option Nat) : Prop :=
  x.kind = .slc ∧ off + len ≤ x.es.length ∧
  match L with
  | none => ∃ a, v = .slice a 0 0
  | some l => ∃ a cap', v = .slice a len cap' ∧ (0 < cap' → a = some ⟨l.blk, l.base + off * x.sz, none⟩) ∧ len ≤ cap' ∧
      match cap with
      | none => off + cap' = l.ext
      | some c => cap' = c ∧ off + c ≤ l.ext

inductive RelL (w : World) (F : Nat → Prop) (ρ : Locs) (m : Mem) : Value → LV → Prop
  | frz {v : Value} {l : LV} (h : RelF w F v l) : RelL w F ρ m v l
  | own {v : Value} {b g off len : Nat} {cap : Option Nat} {x : Box} (h1 : v.oneCell' = true) (hm : m b = some x) (hg : g ≤ x.gen) (h : x.gen = g → HdrOK (ρ b) x v off len cap) : RelL w F ρ m v (.own b g off len cap)
  | ref {v : Value} {b g i c : Nat} {x : Box} (h1 : v.oneCell' = true) (hm : m b = some x) (hg : g ≤ x.gen)
      (h : x.gen = g → x.kind ≠ .mp ∧ ∃ l, ρ b = some l ∧ v = .pointer (some ⟨l.blk, l.base + (i * x.sz + c), none⟩)) : RelL w F ρ m v (.ref b g i c)
  | mref {v : Value} {b g : Nat} {x : Box} (h1 : v.oneCell' = true) (hm : m b = some x) (hg : g ≤ x.gen) (h : x.gen = g → x.kind = .mp ∧ ∃ l, ρ b = some l ∧ v = .map (some l.blk)) : RelL w F ρ m v (.mref b g)
  | agg {cs : Array Value} {ls : List LV} (hn : cs.size = ls.length) (h : ∀ (i : Nat) v l, cs[i]? = some v → ls[i]? = some l → RelL w F ρ m v l) : RelL w F ρ m (.agg cs) (.agg ls)
  | tup {cs : Array Value} {ls : List LV} (hn : cs.size = ls.length) (h : ∀ (i : Nat) v l, cs[i]? = some v → ls[i]? = some l → RelL w F ρ m v l) : RelL w F ρ m (.tuple cs) (.tup ls)
  | fn {f : FuncId} {cs : Array Value} {ls : List LV} (hn : cs.size = ls.length) (h : ∀ (i : Nat) v l, cs[i]? = some v → ls[i]? = some l → RelL w F ρ m v l) : RelL w F ρ m (.func (.func f) #[] cs) (.fn f ls)

/-- A box that is still there with its size, or has been made anew. -/
def Compat (m : Mem) (ρ : Locs) (m' : Mem) (ρ' : Locs) : Prop :=
  ∀ b x, m b = some x → ∃ x', m' b = some x' ∧ ((x'.gen = x.gen ∧ ρ' b = ρ b ∧ x'.sz = x.sz ∧ (x.kind = .mp ∨ x'.es.length = x.es.length) ∧ x'.kind = x.kind) ∨ x.gen < x'.gen)

theorem RelL.mono {w w' : World} {F F' : Nat → Prop} {ρ ρ' : Locs} {m m' : Mem} (hF : ∀ b, F b → F' b) (hw : ∀ b, F b → w'.heap[b]? = w.heap[b]?) (hc : Compat m ρ m' ρ')
    {v : Value} {l : LV} (h : RelL w F ρ m v l) : RelL w' F' ρ' m' v l := by
  induction h with
  | frz h => exact .frz (h.mono hF hw)
  | @own v b g off len cap x hone hm hg h =>
    obtain ⟨x', hm', hx⟩ := hc b x hm
    rcases hx with ⟨h1, h2, h3, h4, h5⟩ | h1
    · refine .own hone hm' (by omega) fun he => ?_
      have := h (by omega)
      unfold HdrOK at this ⊢
      rcases h4 with h4 | h4
      · rw [h4] at this
        cases this.1
      · rw [h2, h3, h4, h5]
        exact this
    · exact .own hone hm' (by omega) fun he => by omega
  | @ref v b g i c x hone hm hg h =>
    obtain ⟨x', hm', hx⟩ := hc b x hm
    rcases hx with ⟨h1, h2, h3, h4, h5⟩ | h1
    · refine .ref hone hm' (by omega) fun he => ?_
      rw [h2, h3, h5]
      exact h (by omega)
    · exact .ref hone hm' (by omega) fun he => by omega
  | @mref v b g x hone hm hg h =>
    obtain ⟨x', hm', hx⟩ := hc b x hm
    rcases hx with ⟨h1, h2, h3, h4, h5⟩ | h1
    · refine .mref hone hm' (by omega) fun he => ?_
      rw [h2, h5]
      exact h (by omega)
    · exact .mref hone hm' (by omega) fun he => by omega
  | agg hn h ih => exact .agg hn ih
  | tup hn h ih => exact .tup hn ih
  | fn hn h ih => exact .fn hn ih

/-- What stands in a box's cell. -/
def CellR (w : World) (F : Nat → Prop) (ρ : Locs) (m : Mem) (k : BK) (v : Value) (l : LV) : Prop :=
  match k with
  | .var => RelL w F ρ m v l
  | _ => RelF w F v l
theorem CellR.relL {w : World} {F : Nat → Prop} {ρ : Locs} {m : Mem} {k : BK} {v : Value} {l : LV} (h : CellR w F ρ m k v l) : RelL w F ρ m v l := by
  cases k
  · exact h
  · exact .frz h
  · exact .frz h
theorem CellR.mono {w w' : World} {F F' : Nat → Prop} {ρ ρ' : Locs} {m m' : Mem} (hF : ∀ b, F b → F' b) (hw : ∀ b, F b → w'.heap[b]? = w.heap[b]?) (hc : Compat m ρ m' ρ')
    {k : BK} {v : Value} {l : LV} (h : CellR w F ρ m k v l) : CellR w' F' ρ' m' k v l := by
  cases k
  · exact RelL.mono hF hw hc h
  · exact RelF.mono hF hw h
  · exact RelF.mono hF hw h

/-- A box of cells. -/
def CellsOK (w : World) (F : Nat → Prop) (ρ : Locs) (m : Mem) (L : Option Loc) (x : Box) : Prop :=
  match L with
  | none => x.es = []
  | some l => ∃ cs t, w.heap[l.blk]? = some (.cells cs t (0, 0)) ∧ l.base + l.ext * x.sz ≤ cs.size ∧ x.es.length ≤ l.ext ∧ (∀ e ∈ x.es, e.length = x.sz) ∧
      ∀ (i : Nat) e (c : Nat) q, x.es[i]? = some e → e[c]? = some q → ∃ v, cs[l.base + (i * x.sz + c)]? = some v ∧ CellR w F ρ m x.kind v q
/-- A map's entries. -/
def EntsR (w : World) (F : Nat → Prop) : List MapEntry → List (List LV) → Prop
  | [], [] => True
  | e :: r, [k, v] :: s => RelF w F e.key k ∧ RelF w F e.val v ∧ EntsR w F r s
  | _, _ => False
theorem EntsR.mono {w w' : World} {F F' : Nat → Prop} (hF : ∀ b, F b → F' b) (hw : ∀ b : Nat, F b → w'.heap[b]? = w.heap[b]?) : ∀ {r : List MapEntry} {s : List (List LV)}, EntsR w F r s → EntsR w' F' r s
  | [], [], _ => trivial
  | _ :: _, [_, _] :: _, h => ⟨h.1.mono hF hw, h.2.1.mono hF hw, EntsR.mono hF hw h.2.2⟩
  | [], _ :: _, h => h.elim
  | _ :: _, [], h => h.elim
  | _ :: _, [] :: _, h => h.elim
  | _ :: _, [_] :: _, h => h.elim
  | _ :: _, (_ :: _ :: _ :: _) :: _, h => h.elim
theorem EntsR.fn {w : World} {F : Nat → Prop} : ∀ {r : List MapEntry} {s : List (List LV)}, EntsR w F r s → r.length = s.length ∧ ∃ kv : Nat → LV × LV, (∀ (i : Nat) e, s[i]? = some e → e = [(kv i).1, (kv i).2]) ∧
    (∀ (i : Nat) (ent : MapEntry), r[i]? = some ent → RelF w F ent.key (kv i).1) ∧ (∀ (i : Nat) (ent : MapEntry), r[i]? = some ent → RelF w F ent.val (kv i).2)
  | [], [], _ => ⟨rfl, fun _ => (.undef, .undef), by simp, by simp, by simp⟩
  | e :: r, [k, v] :: s, h => by
    obtain ⟨h1, kv, h2, h3, h4⟩ := EntsR.fn h.2.2
    refine ⟨by simp [h1], fun i => match i with | 0 => (k, v) | i + 1 => kv i, fun i e' he => ?_, fun i ent hi => ?_, fun i ent hi => ?_⟩
    · cases i with
      | zero => simp at he; simp [← he]
      | succ i => simpa using h2 i e' (by simpa using he)
    · cases i with
      | zero => simp at hi; subst hi; exact h.1
      | succ i => exact h3 i ent (by simpa using hi)
    · cases i with
      | zero => simp at hi; subst hi; exact h.2.1
      | succ i => exact h4 i ent (by simpa using hi)
  | [], _ :: _, h => h.elim
  | _ :: _, [], h => h.elim
  | _ :: _, [] :: _, h => h.elim
  | _ :: _, [_] :: _, h => h.elim
  | _ :: _, (_ :: _ :: _ :: _) :: _, h => h.elim
/-- A map. -/
def MapOK (w : World) (F : Nat → Prop) (L : Option Loc) (x : Box) : Prop :=
  ∃ (l : Loc) (ents : Array MapEntry) (clock : Nat), L = some l ∧ w.heap[l.blk]? = some (.map ents clock) ∧ EntsR w F ents.toList x.es
def BoxOK (w : World) (F : Nat → Prop) (ρ : Locs) (m : Mem) (n : Nat) (x : Box) : Prop :=
  match x.kind with
  | .mp => MapOK w F (ρ n) x
  | _ => CellsOK w F ρ m (ρ n) x

theorem BoxOK.of_cells {w : World} {F : Nat → Prop} {ρ : Locs} {m : Mem} {n : Nat} {x : Box} (hk : x.kind ≠ .mp) (h : CellsOK w F ρ m (ρ n) x) : BoxOK w F ρ m n x := by
  unfold BoxOK
  split
  · rename_i h'; exact absurd h' hk
  · exact h
theorem BoxOK.cells {w : World} {F : Nat → Prop} {ρ : Locs} {m : Mem} {n : Nat} {x : Box} (hk : x.kind ≠ .mp) (h : BoxOK w F ρ m n x) : CellsOK w F ρ m (ρ n) x := by
  unfold BoxOK at h
  split at h
  · rename_i h'; exact absurd h' hk
  · exact h
theorem BoxOK.mono {w w' : World} {F F' : Nat → Prop} {ρ ρ' : Locs} {m m' : Mem} (hF : ∀ b, F b → F' b) (hw : ∀ b, F b → w'.heap[b]? = w.heap[b]?) (hc : Compat m ρ m' ρ')
    {n : Nat} {x : Box} (hr : ρ' n = ρ n) (hb : ∀ l, ρ n = some l → w'.heap[l.blk]? = w.heap[l.blk]?) (h : BoxOK w F ρ m n x) : BoxOK w' F' ρ' m' n x := by
  have hcells : CellsOK w F ρ m (ρ n) x → CellsOK w' F' ρ' m' (ρ' n) x := by
    intro h
    rw [hr]
    unfold CellsOK at h ⊢
    cases hl : ρ n with
    | none => rw [hl] at h; exact h
    | some l =>
      rw [hl] at h
      obtain ⟨cs, t, h1, h2, h3, h4, h5⟩ := h
      refine ⟨cs, t, (hb l hl).trans h1, h2, h3, h4, fun i e c q he hq => ?_⟩
      obtain ⟨v, hv, hrel⟩ := h5 i e c q he hq
      exact ⟨v, hv, hrel.mono hF hw hc⟩
  unfold BoxOK at h ⊢
  cases hk : x.kind with
  | var => rw [hk] at h; exact hcells h
  | slc => rw [hk] at h; exact hcells h
  | mp =>
    rw [hk] at h
    obtain ⟨l, ents, clock, h1, h2, h3⟩ := h
    exact ⟨l, ents, clock, hr.trans h1, (hb l h1).trans h2, h3.mono hF hw⟩

/-- What a call began with, and what its callers keep. -/
structure Ctx where
  w0 : World
  F0 : Nat → Prop
  O0 : List Nat
  K : Value → LV → Prop

/-- The whole: slots, boxes, what is written by whom. -/
structure Inv (X : Ctx) (st : St) (a : Act) (w : World) (F : Nat → Prop) (ρ : Locs) : Prop where
  defers : a.defers = []
  slots : ∀ j, RelL w F ρ st.m (a.tmps.getD j Go.undef) (st.ts j)
  boxes : ∀ n x, st.m n = some x → BoxOK w F ρ st.m n x
  place : ∀ n x l, st.m n = some x → ρ n = some l → l.blk < w.heap.size ∧ (x.frz = true → F l.blk) ∧ (x.frz = false → ¬ F l.blk ∧ (l.blk ∈ X.O0 ∨ X.w0.heap.size ≤ l.blk))
  inj : ∀ n n' x x' l l', st.m n = some x → st.m n' = some x' → x.frz = false → x'.frz = false → ρ n = some l → ρ n' = some l' → l.blk = l'.blk → n = n'
  frz0 : ∀ b, X.F0 b → F b
  frz1 : ∀ b, F b → X.F0 b ∨ b ∈ X.O0 ∨ X.w0.heap.size ≤ b
  frzlt : ∀ b, F b → b < w.heap.size
  ext : Ext X.O0 X.w0 w
  kept : ∀ v l, X.K v l → RelL w F ρ st.m v l

section
variable {X : Ctx} {st : St} {a : Act} {w : World} {F : Nat → Prop} {ρ : Locs}

/-- A slot is given a value. -/
theorem Inv.put (h : Inv X st a w F ρ) {d : Option Nat} {v : Value} {l : LV} (hd : ∀ i, d = some i → i < a.tmps.size) (hv : RelL w F ρ st.m v l) :
    Inv X ⟨putS st.ts d l, st.m⟩ (a.put d v) w F ρ := by
  refine { h with defers := ?_, slots := fun j => ?_ }
  · cases d <;> exact h.defers
  · cases d with
    | none => exact h.slots j
    | some i =>
      have hi := hd i rfl
      show RelL w F ρ st.m ((a.tmps.setIfInBounds i v).getD j Go.undef) (updS st.ts i l j)
      by_cases hij : i = j
      · subst hij
        rw [updS_same, Array.getD_eq_getD_getElem?, Array.getElem?_setIfInBounds_self_of_lt hi]
        exact hv
      · rw [updS_ne _ _ hij, Array.getD_eq_getD_getElem?, Array.getElem?_setIfInBounds_ne hij, ← Array.getD_eq_getD_getElem?]
        exact h.slots j

/-- Nothing but the count of draws has changed. -/
theorem Inv.heap (h : Inv X st a w F ρ) {w' : World} (hh : w'.heap = w.heap) (ho : w'.os = w.os) (ht : w'.tape = w.tape) (hu : w'.output = w.output) : Inv X st a w' F ρ := by
  have hc : Compat st.m ρ st.m ρ := fun b x hx => ⟨x, hx, .inl ⟨rfl, rfl, rfl, .inr rfl, rfl⟩⟩
  have hw : ∀ b : Nat, w'.heap[b]? = w.heap[b]? := fun b => by rw [hh]
  refine ⟨h.defers, fun j => (h.slots j).mono (fun _ h => h) (fun b _ => hw b) hc, fun n x hx => (h.boxes n x hx).mono (fun _ h => h) (fun b _ => hw b) hc rfl (fun l _ => hw _), fun n x l hx hl => ?_, h.inj, h.frz0, h.frz1, fun b hb => ?_,
    ⟨ho.trans h.ext.os, ht.trans h.ext.tape, hu.trans h.ext.output, ?_, fun k hk hn => (hw k).trans (h.ext.block k hk hn)⟩, fun v l hv => (h.kept v l hv).mono (fun _ h => h) (fun b _ => hw b) hc⟩
  · rw [hh]; exact h.place n x l hx hl
  · rw [hh]; exact h.frzlt b hb
  · rw [hh]; exact h.ext.size

/-- One box is written, or made anew. -/
theorem Inv.write (h : Inv X st a w F ρ) {w' : World} {ρ' : Locs} {n : Nat} {x' : Box}
    (ho : w'.os = w.os) (ht : w'.tape = w.tape) (hu : w'.output = w.output) (hsz : w.heap.size ≤ w'.heap.size)
    (hblk : ∀ b, b < w.heap.size → (∀ x l, st.m n = some x → x.frz = false → ρ n = some l → b ≠ l.blk) → w'.heap[b]? = w.heap[b]?)
    (hρ : ∀ k, k ≠ n → ρ' k = ρ k) (hf : x'.frz = false)
    (hcompat : ∀ x, st.m n = some x → (x'.gen = x.gen ∧ ρ' n = ρ n ∧ x'.sz = x.sz ∧ (x.kind = .mp ∨ x'.es.length = x.es.length) ∧ x'.kind = x.kind) ∨ x.gen < x'.gen)
    (hloc : ∀ l, ρ' n = some l → l.blk < w'.heap.size ∧ (w.heap.size ≤ l.blk ∨ ∃ x l0, st.m n = some x ∧ x.frz = false ∧ ρ n = some l0 ∧ l0.blk = l.blk))
    (hbox : Compat st.m ρ (updM st.m n x') ρ' → (∀ b, F b → w'.heap[b]? = w.heap[b]?) → BoxOK w' F ρ' (updM st.m n x') n x') :
    Inv X ⟨st.ts, updM st.m n x'⟩ a w' F ρ' := by
  have hc : Compat st.m ρ (updM st.m n x') ρ' := by
    intro b x hx
    by_cases hb : n = b
    · subst hb
      exact ⟨x', updM_same _ _ _, hcompat x hx⟩
    · exact ⟨x, by rw [updM_ne _ _ hb]; exact hx, .inl ⟨rfl, hρ b (Ne.symm hb), rfl, .inr rfl, rfl⟩⟩
  have hw : ∀ b, F b → w'.heap[b]? = w.heap[b]? := by
    intro b hb
    refine hblk b (h.frzlt b hb) fun x l hx hxf hl he => ?_
    subst he
    exact ((h.place n x l hx hl).2.2 hxf).1 hb
  have hother : ∀ k x l, st.m k = some x → k ≠ n → ρ k = some l → w'.heap[l.blk]? = w.heap[l.blk]? := by
    intro k x l hx hk hl
    refine hblk _ (h.place k x l hx hl).1 fun y l' hy hyf hl' he => ?_
    cases hxf : x.frz with
    | false => exact hk (h.inj k n x y l l' hx hy hxf hyf hl hl' he)
    | true =>
      have := (h.place k x l hx hl).2.1 hxf
      rw [he] at this
      exact ((h.place n y l' hy hl').2.2 hyf).1 this
  have hlook : ∀ k x, (updM st.m n x') k = some x → (k = n ∧ x = x') ∨ (k ≠ n ∧ st.m k = some x) := by
    intro k x hx
    by_cases hk : n = k
    · subst hk
      rw [updM_same] at hx
      exact .inl ⟨rfl, (Option.some.inj hx).symm⟩
    · rw [updM_ne _ _ hk] at hx
      exact .inr ⟨Ne.symm hk, hx⟩
  refine ⟨h.defers, fun j => (h.slots j).mono (fun _ h => h) hw hc, ?_, ?_, ?_, h.frz0, h.frz1, fun b hb => Nat.lt_of_lt_of_le (h.frzlt b hb) hsz, ?_, fun v l hv => (h.kept v l hv).mono (fun _ h => h) hw hc⟩
  · intro k x hx
    rcases hlook k x hx with ⟨rfl, rfl⟩ | ⟨hk, hx⟩
    · exact hbox hc hw
    · exact (h.boxes k x hx).mono (fun _ h => h) hw hc (hρ k hk) fun l hl => hother k x l hx hk hl
  · intro k x l hx hl
    rcases hlook k x hx with ⟨rfl, rfl⟩ | ⟨hk, hx⟩
    · refine ⟨(hloc l hl).1, fun hf' => by rw [hf] at hf'; exact absurd hf' (by simp), fun _ => ?_⟩
      rcases (hloc l hl).2 with h1 | ⟨y, l0, hy, hyf, hl0, he⟩
      · exact ⟨fun hF => by have := h.frzlt _ hF; omega, .inr (Nat.le_trans h.ext.size h1)⟩
      · rw [← he]
        exact (h.place k y l0 hy hl0).2.2 hyf
    · rw [hρ k hk] at hl
      obtain ⟨h1, h2, h3⟩ := h.place k x l hx hl
      exact ⟨Nat.lt_of_lt_of_le h1 hsz, h2, h3⟩
  · intro k k' x y l l' hx hy hxf hyf hl hl' he
    have hmix : ∀ k y l l', st.m k = some y → k ≠ n → y.frz = false → ρ k = some l' → ρ' n = some l → l.blk = l'.blk → False := by
      intro k y l l' hy hk hyf hl' hl he
      rcases (hloc l hl).2 with h1 | ⟨z, l0, hz, hzf, hl0, he0⟩
      · have := (h.place k y l' hy hl').1
        omega
      · exact hk (h.inj k n y z l' l0 hy hz hyf hzf hl' hl0 (by omega))
    rcases hlook k x hx with ⟨h1, h2⟩ | ⟨hk, hx2⟩
    · rcases hlook k' y hy with ⟨h3, h4⟩ | ⟨hk', hy2⟩
      · rw [h1, h3]
      · rw [h1] at hl
        rw [hρ k' hk'] at hl'
        exact (hmix k' y l l' hy2 hk' hyf hl' hl he).elim
    · rcases hlook k' y hy with ⟨h3, h4⟩ | ⟨hk', hy2⟩
      · rw [h3] at hl'
        rw [hρ k hk] at hl
        exact (hmix k x l' l hx2 hk hxf hl hl' he.symm).elim
      · rw [hρ k hk] at hl
        rw [hρ k' hk'] at hl'
        exact h.inj k k' x y l l' hx2 hy2 hxf hyf hl hl' he
  · refine h.ext.step (O' := X.O0 ++ [((ρ n).getD ⟨0, 0, 0⟩).blk].filter fun b => decide (X.w0.heap.size ≤ b)) ⟨ho, ht, hu, hsz, fun k hk hn => ?_⟩ ?_
    · refine hblk k hk fun x l hx hxf hl he => ?_
      rcases ((h.place n x l hx hl).2.2 hxf).2 with h1 | h1
      · exact hn (List.mem_append_left _ (he ▸ h1))
      · exact hn (List.mem_append_right _ (by simp [hl, he, h1]))
    · intro b hb
      rcases List.mem_append.1 hb with h1 | h1
      · exact .inl h1
      · exact .inr (by simpa using (List.mem_filter.1 h1).2)

/-- Boxes that nobody writes any more. -/
theorem Inv.mark1 (h : Inv X st a w F ρ) {n : Nat} {x : Box} (hx : st.m n = some x) :
    ∃ F', (∀ b, F b → F' b) ∧ (∀ l, ρ n = some l → F' l.blk) ∧ Inv X ⟨st.ts, updM st.m n { x with frz := true }⟩ a w F' ρ := by
  cases hxf : x.frz with
  | true =>
    refine ⟨F, fun _ h => h, fun l hl => (h.place n x l hx hl).2.1 hxf, ?_⟩
    have : updM st.m n { x with frz := true } = st.m := by
      funext k
      by_cases hk : n = k
      · subst hk
        rw [updM_same, hx]
        cases x
        simp at hxf
        simp [hxf]
      · rw [updM_ne _ _ hk]
    rw [this]
    exact h
  | false =>
    have hc : Compat st.m ρ (updM st.m n { x with frz := true }) ρ := by
      intro b y hy
      by_cases hb : n = b
      · subst hb
        rw [hx] at hy
        injection hy with hy
        subst hy
        exact ⟨_, updM_same _ _ _, .inl ⟨rfl, rfl, rfl, .inr rfl, rfl⟩⟩
      · exact ⟨y, by rw [updM_ne _ _ hb]; exact hy, .inl ⟨rfl, rfl, rfl, .inr rfl, rfl⟩⟩
    have hF : ∀ b, F b → (F b ∨ ∃ l, ρ n = some l ∧ l.blk = b) := fun b hb => .inl hb
    have hlook : ∀ k y, (updM st.m n { x with frz := true }) k = some y → (k = n ∧ y = { x with frz := true }) ∨ (k ≠ n ∧ st.m k = some y) := by
      intro k y hy
      by_cases hk : n = k
      · subst hk
        rw [updM_same] at hy
        exact .inl ⟨rfl, (Option.some.inj hy).symm⟩
      · rw [updM_ne _ _ hk] at hy
        exact .inr ⟨Ne.symm hk, hy⟩
    refine ⟨fun b => F b ∨ ∃ l, ρ n = some l ∧ l.blk = b, hF, fun l hl => .inr ⟨l, hl, rfl⟩, h.defers, fun j => (h.slots j).mono hF (fun _ _ => rfl) hc, ?_, ?_, ?_, fun b hb => .inl (h.frz0 b hb), ?_, ?_, h.ext, fun v l hv => (h.kept v l hv).mono hF (fun _ _ => rfl) hc⟩
    · intro k y hy
      rcases hlook k y hy with ⟨rfl, rfl⟩ | ⟨hk, hy⟩
      · have := (h.boxes k x hx).mono hF (fun _ _ => rfl) hc rfl (fun l _ => rfl)
        exact this
      · exact (h.boxes k y hy).mono hF (fun _ _ => rfl) hc rfl (fun l _ => rfl)
    · intro k y l hy hl
      rcases hlook k y hy with ⟨rfl, rfl⟩ | ⟨hk, hy⟩
      · exact ⟨(h.place k x l hx hl).1, fun _ => .inr ⟨l, hl, rfl⟩, fun hf => absurd hf (by simp)⟩
      · obtain ⟨h1, h2, h3⟩ := h.place k y l hy hl
        refine ⟨h1, fun hf => .inl (h2 hf), fun hf => ⟨fun hF' => ?_, (h3 hf).2⟩⟩
        rcases hF' with hF' | ⟨l', hl', he⟩
        · exact (h3 hf).1 hF'
        · exact hk (h.inj k n y x l l' hy hx hf hxf hl hl' he.symm)
    · intro k k' y y' l l' hy hy' hf hf' hl hl' he
      rcases hlook k y hy with ⟨h1, h2⟩ | ⟨hk, hy⟩
      · rw [h2] at hf
        exact absurd hf (by simp)
      · rcases hlook k' y' hy' with ⟨h1, h2⟩ | ⟨hk', hy'⟩
        · rw [h2] at hf'
          exact absurd hf' (by simp)
        · exact h.inj k k' y y' l l' hy hy' hf hf' hl hl' he
    · intro b hb
      rcases hb with hb | ⟨l, hl, he⟩
      · exact h.frz1 b hb
      · rw [← he]
        exact .inr ((h.place n x l hx hl).2.2 hxf).2
    · intro b hb
      rcases hb with hb | ⟨l, hl, he⟩
      · exact h.frzlt b hb
      · rw [← he]
        exact (h.place n x l hx hl).1
end
end Go.Proofs.Ytpepcfombibpeaa.Mv
