/- Calls, code, and the proof rules of the calculus; the encodings of plain data; what the small functions come to. -/
import Derived.Test.YtffnlhjdlhpmjaaMvA
import Derived.IntWalk
/- What is handed back by a call, and taken in by its caller. -/
set_option linter.unusedVariables false
set_option linter.unusedSimpArgs false
namespace Go.Proofs.Ytffnlhjdlhpmjaa.Mv

/-- What is handed over: some slices and variables whole; the last list: their blocks. -/
inductive RelI (w : World) (F : Nat → Prop) : Value → LV → List Nat → Prop
  | frz {v : Value} {l : LV} (h : RelF w F v l) : RelI w F v l []
  | slo0 {a : Option Addr} {sz : Nat} : RelI w F (.slice a 0 0) (.slo sz []) []
  | slo {blk off len cap sz : Nat} {es : List (List LV)} {cs : Array Value} {t : TypeId} (hl : len = es.length) (hc : len ≤ cap) (hb : w.heap[blk]? = some (.cells cs t (0, 0))) (hf : off + cap * sz ≤ cs.size)
      (hsz : ∀ e ∈ es, e.length = sz) (hcell : ∀ (i : Nat) e (c : Nat) q, es[i]? = some e → e[c]? = some q → ∃ v, cs[off + (i * sz + c)]? = some v ∧ RelF w F v q) :
      RelI w F (.slice (some ⟨blk, off, none⟩) len cap) (.slo sz es) [blk]
  | aggn : RelI w F (.agg #[]) (.agg []) []
  | aggc {v : Value} {vs : List Value} {l : LV} {ls : List LV} {O O' : List Nat} (h : RelI w F v l O) (hs : RelI w F (.agg ⟨vs⟩) (.agg ls) O') : RelI w F (.agg ⟨v :: vs⟩) (.agg (l :: ls)) (O ++ O')
  | tup {cs : Array Value} {ls : List LV} {O : List Nat} (h : RelI w F (.agg cs) (.agg ls) O) : RelI w F (.tuple cs) (.tup ls) O
  | ptro {blk off : Nat} {cs : Array Value} {t : TypeId} {ls : List LV} {O : List Nat} (hb : w.heap[blk]? = some (.cells cs t (0, 0))) (hf : off + ls.length ≤ cs.size)
      (h : RelI w F (.agg (cs.extract off (off + ls.length))) (.agg ls) O) : RelI w F (.pointer (some ⟨blk, off, none⟩)) (.ptro ls) (blk :: O)

/-- Handing over. -/
inductive Exp (m : Mem) : LV → LV → List Nat → List Nat → Prop
  | frz {l l' : LV} {T : List Nat} (h : Frz m l l' T) : Exp m l l' T []
  | skip : Exp m .skip .skip [] []
  | nils {sz : Nat} : Exp m .nils (.slo sz []) [] []
  | slo {b g off len : Nat} {x : Box} (hm : m b = some x) (hg : x.gen = g) (hf : x.frz = false) (hk : x.kind = .slc) (hend : off + len = x.es.length) : Exp m (.own b g off len none) (.slo x.sz (x.es.drop off)) [] [b]
  | aggn : Exp m (.agg []) (.agg []) [] []
  | aggc {l l' : LV} {ls ls' : List LV} {S T M N : List Nat} (h : Exp m l l' S M) (hs : Exp m (.agg ls) (.agg ls') T N) : Exp m (.agg (l :: ls)) (.agg (l' :: ls')) (S ++ T) (M ++ N)
  | tup {ls ls' : List LV} {T M : List Nat} (h : Exp m (.agg ls) (.agg ls') T M) : Exp m (.tup ls) (.tup ls') T M
  | ptro {b g : Nat} {x : Box} {cs cs' : List LV} {T M : List Nat} (hm : m b = some x) (hg : x.gen = g) (hf : x.frz = false) (hk : x.kind = .var) (he : x.es = [cs]) (h : Exp m (.agg cs) (.agg cs') T M) :
      Exp m (.ref b g 0 0) (.ptro cs') T (b :: M)

theorem RelI.mono {w : World} {F F' : Nat → Prop} (hF : ∀ b, F b → F' b) {v : Value} {l : LV} {O : List Nat} (h : RelI w F v l O) : RelI w F' v l O := by
  induction h with
  | frz h => exact .frz (h.mono hF (fun _ _ => rfl))
  | slo0 => exact .slo0
  | slo hl hc hb hf hsz hcell => exact .slo hl hc hb hf hsz fun i e c q he hq => let ⟨v, hv, hr⟩ := hcell i e c q he hq; ⟨v, hv, hr.mono hF (fun _ _ => rfl)⟩
  | aggn => exact .aggn
  | aggc h hs ih1 ih2 => exact .aggc ih1 ih2
  | tup h ih => exact .tup ih
  | ptro hb hf h ih => exact .ptro hb hf ih

theorem Exp.len {m : Mem} {l l' : LV} {T M : List Nat} (h : Exp m l l' T M) : ∀ cs cs', l = .agg cs → l' = .agg cs' → cs'.length = cs.length := by
  induction h with
  | frz h =>
    intro cs cs' h1 h2
    obtain ⟨c2, h3, h4⟩ := h.len cs h1
    rw [h2] at h3
    injection h3 with h3
    rw [h3, h4]
  | aggn => intro cs cs' h1 h2; cases h1; cases h2; rfl
  | aggc h hs ih1 ih2 => intro cs cs' h1 h2; cases h1; cases h2; simp [ih2 _ _ rfl rfl]
  | skip => intro cs cs' h1; cases h1
  | nils => intro cs cs' h1; cases h1
  | slo => intro cs cs' h1; cases h1
  | tup => intro cs cs' h1; cases h1
  | ptro => intro cs cs' h1; cases h1

theorem nodup_append {M N : List Nat} (h : (M ++ N).Nodup) : M.Nodup ∧ N.Nodup ∧ ∀ a ∈ M, a ∉ N := by
  rw [List.nodup_append] at h
  exact ⟨h.1, h.2.1, fun a ha hb => h.2.2 a ha a hb rfl⟩

section
variable {P : Program} {X : Ctx} {st : St} {a : Act} {w : World} {F : Nat → Prop} {ρ : Locs}

/-- The blocks of boxes that are handed over. -/
def OfM (st : St) (ρ : Locs) (M O : List Nat) : Prop := ∀ b ∈ O, ∃ n ∈ M, ∃ x lc, st.m n = some x ∧ x.frz = false ∧ ρ n = some lc ∧ lc.blk = b

theorem Exp.sound (h : Inv X st a w F ρ) {l l' : LV} {T M : List Nat} (he : Exp st.m l l' T M) : ∀ v, RelL w F ρ st.m v l → M.Nodup → (∀ n ∈ M, n ∉ T) →
    ∃ O, RelI w (FT F ρ T) v l' O ∧ OfM st ρ M O ∧ O.Nodup := by
  induction he with
  | frz hf => exact fun v hv _ _ => ⟨[], .frz (Frz.sound h.boxes hf v hv), (by intro b hb; cases hb), by simp⟩
  | skip => exact fun v hv _ _ => ⟨[], by rw [hv.skip]; exact .frz .skip, (by intro b hb; cases hb), by simp⟩
  | nils =>
    intro v hv _ _
    rw [hv.nils]
    exact ⟨[], .slo0, (by intro b hb; cases hb), by simp⟩
  | @slo b g off len x hm hg hf hk hend =>
    intro v hv _ _
    obtain ⟨-, -, hh⟩ := hv.toOwn hm hg
    have hbx := BoxOK.cells (by rw [hk]; simp) (h.boxes b x hm)
    have hdl : (x.es.drop off).length = len := by simp; omega
    cases hr : ρ b with
    | none =>
      rw [hr] at hh hbx
      have hes : x.es = [] := hbx
      obtain ⟨a0, rfl⟩ := hh
      have hdn : x.es.drop off = [] := by rw [hes]; simp
      have h0 : len = 0 := by rw [hdn] at hdl; simpa using hdl.symm
      subst h0
      rw [hdn]
      exact ⟨[], .slo0, (by intro b hb; cases hb), by simp⟩
    | some lc =>
      rw [hr] at hh hbx
      obtain ⟨ao, cap', rfl, ha, hlc, hcc⟩ := hh
      obtain ⟨cs, t, g1, g2, g3, g4, g5⟩ := hbx
      rw [hk] at g5
      simp only at hcc
      by_cases h0 : cap' = 0
      · have h1 : len = 0 := by omega
        subst h0 h1
        have hdn : x.es.drop off = [] := List.eq_nil_of_length_eq_zero hdl
        rw [hdn]
        exact ⟨[], .slo0, (by intro b hb; cases hb), by simp⟩
      · have had := ha (by omega)
        subst had
        refine ⟨[lc.blk], .slo hdl.symm hlc g1 ?_ (fun e he => g4 e (List.mem_of_mem_drop he)) (fun i e c q he hq => ?_), ?_, by simp⟩
        · have : off * x.sz + cap' * x.sz = lc.ext * x.sz := by rw [← Nat.add_mul, hcc]
          omega
        · rw [List.getElem?_drop] at he
          obtain ⟨u, hu, hrel⟩ := g5 _ e c q he hq
          refine ⟨u, ?_, (show RelF w F u q from hrel).mono FT.mono (fun _ _ => rfl)⟩
          rw [Nat.add_mul] at hu
          rw [show lc.base + off * x.sz + (i * x.sz + c) = lc.base + (off * x.sz + i * x.sz + c) by omega]
          exact hu
        · intro b' hb'
          simp at hb'
          subst hb'
          exact ⟨b, by simp, x, lc, hm, hf, hr, rfl⟩
  | aggn =>
    intro v hv _ _
    obtain ⟨cs, rfl, hn, -⟩ := hv.cells
    have : cs = #[] := by simpa using hn
    subst this
    exact ⟨[], .aggn, (by intro b hb; cases hb), by simp⟩
  | @aggc u u' us us' S T M N h1 h2 ih1 ih2 =>
    intro v hv hnd hdis
    obtain ⟨cs, rfl, hn, hr⟩ := hv.cells
    obtain ⟨cs⟩ := cs
    cases cs with
    | nil => simp at hn
    | cons c0 rest =>
      obtain ⟨n1, n2, n3⟩ := nodup_append hnd
      obtain ⟨O1, r1, m1, d1⟩ := ih1 c0 (hr 0 c0 u (by simp) (by simp)) n1 (fun n hn hn' => hdis n (List.mem_append_left _ hn) (List.mem_append_left _ hn'))
      obtain ⟨O2, r2, m2, d2⟩ := ih2 (.agg ⟨rest⟩) (.agg (by simpa using hn) fun i a l ha hl => hr (i + 1) a l (by simpa using ha) (by simpa using hl)) n2 (fun n hn hn' => hdis n (List.mem_append_right _ hn) (List.mem_append_right _ hn'))
      refine ⟨O1 ++ O2, .aggc (r1.mono (FT.sub fun x hx => List.mem_append_left _ hx)) (r2.mono (FT.sub fun x hx => List.mem_append_right _ hx)), fun b hb => ?_, ?_⟩
      · rcases List.mem_append.1 hb with hb | hb
        · obtain ⟨n, hn, x⟩ := m1 b hb
          exact ⟨n, List.mem_append_left _ hn, x⟩
        · obtain ⟨n, hn, x⟩ := m2 b hb
          exact ⟨n, List.mem_append_right _ hn, x⟩
      · rw [List.nodup_append]
        refine ⟨d1, d2, fun b hb b' hb' heq => ?_⟩
        subst heq
        obtain ⟨n, hn, x, lc, k1, k2, k3, k4⟩ := m1 b hb
        obtain ⟨n', hn', x', lc', k1', k2', k3', k4'⟩ := m2 b hb'
        have := h.inj n n' x x' lc lc' k1 k1' k2 k2' k3 k3' (by omega)
        subst this
        exact n3 n hn hn'
  | tup h1 ih =>
    intro v hv hnd hdis
    obtain ⟨cs, rfl, hn, hr⟩ := hv.tupcells
    obtain ⟨O, r1, r2, r3⟩ := ih (.agg cs) (.agg hn hr) hnd hdis
    exact ⟨O, .tup r1, r2, r3⟩
  | @ptro b g x cs cs' T M hm hg hf hk he h1 ih =>
    intro v hv hnd hdis
    obtain ⟨-, lc, hr, rfl⟩ := hv.toRef hm hg
    have hbx := BoxOK.cells (by rw [hk]; simp) (h.boxes b x hm)
    rw [hr] at hbx
    obtain ⟨cs0, t, g1, g2, g3, g4, g5⟩ := hbx
    rw [he] at g3 g4 g5
    rw [hk] at g5
    have hsz : cs.length = x.sz := g4 cs (by simp)
    have hl' := h1.len _ _ rfl rfl
    have hfit : lc.base + x.sz ≤ cs0.size := by
      simp at g3
      have : 1 * x.sz ≤ lc.ext * x.sz := Nat.mul_le_mul_right _ g3
      omega
    obtain ⟨hnb, hndM⟩ := List.nodup_cons.1 hnd
    have hrel : RelL w F ρ st.m (.agg (cs0.extract lc.base (lc.base + cs'.length))) (.agg cs) := by
      refine .agg (by simp; omega) fun i u l hu hl => ?_
      have hi : i < cs.length := (List.getElem?_eq_some_iff.1 hl).1
      obtain ⟨u', hu', hrel⟩ := g5 0 cs i l rfl hl
      rw [Array.getElem?_extract, if_pos (by omega)] at hu
      simp only [Nat.zero_mul, Nat.zero_add] at hu'
      rw [hu'] at hu
      injection hu with hu
      subst hu
      exact hrel
    obtain ⟨O, r1, r2, r3⟩ := ih _ hrel hndM (fun n hn => hdis n (List.mem_cons_of_mem _ hn))
    refine ⟨lc.blk :: O, ?_, fun b' hb' => ?_, List.nodup_cons.2 ⟨fun hin => ?_, r3⟩⟩
    · have e0 : lc.base + (0 * x.sz + 0) = lc.base := by simp
      rw [e0]
      exact .ptro g1 (by omega) r1
    · rcases List.mem_cons.1 hb' with rfl | hb'
      · exact ⟨b, by simp, x, lc, hm, hf, hr, rfl⟩
      · obtain ⟨n, hn, y⟩ := r2 b' hb'
        exact ⟨n, List.mem_cons_of_mem _ hn, y⟩
    · obtain ⟨n, hn, y, lc', k1, k2, k3, k4⟩ := r2 _ hin
      have := h.inj n b y x lc' lc k1 hm k2 hf k3 hr k4
      subst this
      exact hnb hn

/-! ### Taking in -/
/-- A block that nobody else writes becomes a box's. -/
theorem Inv.adopt (h : Inv X st a w F ρ) {ρ' : Locs} {n : Nat} {x' : Box} (hρ : ∀ k, k ≠ n → ρ' k = ρ k) (hf : x'.frz = false) (hgen : x'.gen = genAt st.m n)
    (hloc : ∀ l, ρ' n = some l → l.blk < w.heap.size ∧ ¬ F l.blk ∧ (l.blk ∈ X.O0 ∨ X.w0.heap.size ≤ l.blk) ∧ ∀ k x l', st.m k = some x → x.frz = false → k ≠ n → ρ k = some l' → l'.blk ≠ l.blk)
    (hbox : Compat st.m ρ (updM st.m n x') ρ' → BoxOK w F ρ' (updM st.m n x') n x') :
    Inv X ⟨st.ts, updM st.m n x'⟩ a w F ρ' ∧ Compat st.m ρ (updM st.m n x') ρ' := by
  have hc : Compat st.m ρ (updM st.m n x') ρ' := by
    intro b x hx
    by_cases hb : n = b
    · subst hb
      exact ⟨x', updM_same _ _ _, .inr (by rw [hgen]; simp [genAt, hx])⟩
    · exact ⟨x, by rw [updM_ne _ _ hb]; exact hx, .inl ⟨rfl, hρ b (Ne.symm hb), rfl, .inr rfl, rfl⟩⟩
  have hlook : ∀ k x, (updM st.m n x') k = some x → (k = n ∧ x = x') ∨ (k ≠ n ∧ st.m k = some x) := by
    intro k x hx
    by_cases hk : n = k
    · subst hk
      rw [updM_same] at hx
      exact .inl ⟨rfl, (Option.some.inj hx).symm⟩
    · rw [updM_ne _ _ hk] at hx
      exact .inr ⟨Ne.symm hk, hx⟩
  refine ⟨⟨h.defers, fun j => (h.slots j).mono (fun _ h => h) (fun _ _ => rfl) hc, ?_, ?_, ?_, h.frz0, h.frz1, h.frzlt, h.ext, fun v l hv => (h.kept v l hv).mono (fun _ h => h) (fun _ _ => rfl) hc⟩, hc⟩
  · intro k x hx
    rcases hlook k x hx with ⟨h1, h2⟩ | ⟨hk, hx2⟩
    · rw [h1, h2]; exact hbox hc
    · exact (h.boxes k x hx2).mono (fun _ h => h) (fun _ _ => rfl) hc (hρ k hk) fun l hl => rfl
  · intro k x l hx hl
    rcases hlook k x hx with ⟨h1, h2⟩ | ⟨hk, hx2⟩
    · rw [h1] at hl
      rw [h2]
      obtain ⟨q1, q2, q3, -⟩ := hloc l hl
      exact ⟨q1, fun hf' => by rw [hf] at hf'; exact absurd hf' (by simp), fun _ => ⟨q2, q3⟩⟩
    · rw [hρ k hk] at hl
      exact h.place k x l hx2 hl
  · intro k k' x y l l' hx hy hxf hyf hl hl' he
    rcases hlook k x hx with ⟨h1, h2⟩ | ⟨hk, hx2⟩
    · rcases hlook k' y hy with ⟨h3, h4⟩ | ⟨hk', hy2⟩
      · rw [h1, h3]
      · rw [h1] at hl
        rw [hρ k' hk'] at hl'
        exact absurd he.symm ((hloc l hl).2.2.2 k' y l' hy2 hyf hk' hl')
    · rcases hlook k' y hy with ⟨h3, h4⟩ | ⟨hk', hy2⟩
      · rw [h3] at hl'
        rw [hρ k hk] at hl
        exact absurd he ((hloc l' hl').2.2.2 k x l hx2 hxf hk hl)
      · rw [hρ k hk] at hl
        rw [hρ k' hk'] at hl'
        exact h.inj k k' x y l l' hx2 hy2 hxf hyf hl hl' he

def impC (m : Mem) (n : Nat) : LV → LV × List (Nat × Box) × Nat
  | .slo sz es => (.own n (genAt m n) 0 es.length none, [(n, ⟨genAt m n, false, .slc, sz, es⟩)], n + 1)
  | l => (l, [], n)
def impCs (m : Mem) : Nat → List LV → List LV × List (Nat × Box) × Nat
  | n, [] => ([], [], n)
  | n, l :: ls => ((impC m n l).1 :: (impCs m (impC m n l).2.2 ls).1, (impC m n l).2.1 ++ (impCs m (impC m n l).2.2 ls).2.1, (impCs m (impC m n l).2.2 ls).2.2)
def impV (m : Mem) (n : Nat) : LV → LV × List (Nat × Box) × Nat
  | .agg cs => (.agg (impCs m n cs).1, (impCs m n cs).2)
  | l => impC m n l
def impVs (m : Mem) : Nat → List LV → List LV × List (Nat × Box) × Nat
  | n, [] => ([], [], n)
  | n, l :: ls => ((impV m n l).1 :: (impVs m (impV m n l).2.2 ls).1, (impV m n l).2.1 ++ (impVs m (impV m n l).2.2 ls).2.1, (impVs m (impV m n l).2.2 ls).2.2)
def impT (m : Mem) (d : Nat) : LV → LV × List (Nat × Box)
  | .tup vs => (.tup (impVs m d vs).1, (impVs m d vs).2.1)
  | .ptro cs => (.ref d (genAt m d) 0 0, (impCs m (d + 1) cs).2.1 ++ [(d, ⟨genAt m d, false, .var, cs.length, [(impCs m (d + 1) cs).1]⟩)])
  | l => ((impV m d l).1, (impV m d l).2.1)
end
end Go.Proofs.Ytffnlhjdlhpmjaa.Mv

/- Taking in what was handed over is sound. -/
set_option linter.unusedVariables false
set_option linter.unusedSimpArgs false
namespace Go.Proofs.Ytffnlhjdlhpmjaa.Mv

section
variable {P : Program} {X : Ctx} {a : Act} {w : World} {F : Nat → Prop}

/-- Blocks that may become boxes'. -/
def FreeB (X : Ctx) (st : St) (w : World) (F : Nat → Prop) (ρ : Locs) (O : List Nat) : Prop :=
  ∀ b ∈ O, b < w.heap.size ∧ ¬ F b ∧ (b ∈ X.O0 ∨ X.w0.heap.size ≤ b) ∧ ∀ k x l, st.m k = some x → x.frz = false → ρ k = some l → l.blk ≠ b

/-- A step that takes in blocks. -/
structure Took (X : Ctx) (st st' : St) (w : World) (F : Nat → Prop) (ρ ρ' : Locs) (O : List Nat) (lo hi : Nat) : Prop where
  compat : Compat st.m ρ st'.m ρ'
  same : ∀ k, k < lo ∨ hi ≤ k → st'.m k = st.m k
  own : ∀ k x l, st'.m k = some x → x.frz = false → ρ' k = some l → (st.m k = some x ∧ ρ k = some l) ∨ l.blk ∈ O
  ts : st'.ts = st.ts
theorem Took.refl (st : St) (ρ : Locs) (n : Nat) : Took X st st w F ρ ρ [] n n :=
  ⟨fun _ x hx => ⟨x, hx, .inl ⟨rfl, rfl, rfl, .inr rfl, rfl⟩⟩, fun _ _ => rfl, fun _ _ _ h1 _ h2 => .inl ⟨h1, h2⟩, rfl⟩
theorem Compat.trans {m m1 m2 : Mem} {ρ ρ1 ρ2 : Locs} (h : Compat m ρ m1 ρ1) (h' : Compat m1 ρ1 m2 ρ2) : Compat m ρ m2 ρ2 := by
  intro b x hx
  obtain ⟨x1, hx1, h1⟩ := h b x hx
  obtain ⟨x2, hx2, h2⟩ := h' b x1 hx1
  refine ⟨x2, hx2, ?_⟩
  rcases h1 with ⟨a1, a2, a3, a4, a5⟩ | h1
  · rcases h2 with ⟨b1, b2, b3, b4, b5⟩ | h2
    · refine .inl ⟨b1.trans a1, b2.trans a2, b3.trans a3, ?_, b5.trans a5⟩
      rcases a4 with a4 | a4
      · exact .inl a4
      · rcases b4 with b4 | b4
        · exact .inl (a5 ▸ b4)
        · exact .inr (b4.trans a4)
    · exact .inr (by omega)
  · rcases h2 with ⟨b1, -⟩ | h2
    · exact .inr (by omega)
    · exact .inr (by omega)
theorem Took.trans {st st1 st2 : St} {ρ ρ1 ρ2 : Locs} {O O' : List Nat} {n n1 n2 : Nat} (h : Took X st st1 w F ρ ρ1 O n n1) (h' : Took X st1 st2 w F ρ1 ρ2 O' n1 n2) (hn : n ≤ n1) (hn' : n1 ≤ n2) : Took X st st2 w F ρ ρ2 (O ++ O') n n2 := by
  refine ⟨h.compat.trans h'.compat, fun k hk => (h'.same k (by omega)).trans (h.same k (by omega)), fun k x l h1 h2 h3 => ?_, h'.ts.trans h.ts⟩
  rcases h'.own k x l h1 h2 h3 with ⟨g1, g2⟩ | g
  · rcases h.own k x l g1 h2 g2 with g3 | g3
    · exact .inl g3
    · exact .inr (List.mem_append_left _ g3)
  · exact .inr (List.mem_append_right _ g)
theorem FreeB.next {st st1 : St} {ρ ρ1 : Locs} {O O' : List Nat} {n n1 : Nat} (h : FreeB X st w F ρ O') (ht : Took X st st1 w F ρ ρ1 O n n1) (hd : ∀ b ∈ O, b ∉ O') : FreeB X st1 w F ρ1 O' := by
  intro b hb
  obtain ⟨h1, h2, h3, h4⟩ := h b hb
  refine ⟨h1, h2, h3, fun k x l g1 g2 g3 => ?_⟩
  rcases ht.own k x l g1 g2 g3 with ⟨g4, g5⟩ | g4
  · exact h4 k x l g4 g2 g5
  · exact fun he => hd _ g4 (he ▸ hb)

def updRo (f : Locs) (i : Nat) (o : Option Loc) : Locs := fun j => cond (Nat.beq i j) o (f j)
theorem updRo_same (f : Locs) (i : Nat) (o : Option Loc) : updRo f i o i = o := by simp [updRo]
theorem updRo_ne (f : Locs) {i j : Nat} (o : Option Loc) (h : i ≠ j) : updRo f i o j = f j := by
  have : Nat.beq i j = false := by
    cases h' : Nat.beq i j
    · rfl
    · exact absurd (Nat.eq_of_beq_eq_true h') h
  simp [updRo, this]

theorem took_new {st : St} {ρ ρ' : Locs} {n : Nat} {x' : Box} {O : List Nat} (hρ : ∀ k, k ≠ n → ρ' k = ρ k) (hc : Compat st.m ρ (updM st.m n x') ρ') (ho : ∀ l, ρ' n = some l → l.blk ∈ O) :
    Took X st ⟨st.ts, updM st.m n x'⟩ w F ρ ρ' O n (n + 1) := by
  refine ⟨hc, fun k hk => updM_ne _ _ (by omega), fun k x l h1 h2 h3 => ?_, rfl⟩
  by_cases hk : k = n
  · subst hk
    exact .inr (ho l h3)
  · rw [hρ k hk] at h3
    have h1 : st.m k = some x := by rw [← h1]; exact (updM_ne _ _ (Ne.symm hk)).symm
    exact .inl ⟨h1, h3⟩

def cellI : LV → Bool
  | .agg _ => false
  | .tup _ => false
  | .ptro _ => false
  | _ => true
def valI : LV → Bool
  | .agg cs => cs.all cellI
  | l => cellI l
def topI : LV → Bool
  | .tup vs => vs.all valI
  | .ptro cs => cs.all cellI
  | l => valI l

theorem impC_sound {st : St} {ρ : Locs} (h : Inv X st a w F ρ) {v : Value} {l : LV} {O : List Nat} (hr : RelI w F v l O) (hO : FreeB X st w F ρ O) (hcl : cellI l = true) (n : Nat) :
    ∃ ρ', Inv X ⟨st.ts, effM st.m (impC st.m n l).2.1⟩ a w F ρ' ∧ RelL w F ρ' (effM st.m (impC st.m n l).2.1) v (impC st.m n l).1 ∧
      Took X st ⟨st.ts, effM st.m (impC st.m n l).2.1⟩ w F ρ ρ' O n (impC st.m n l).2.2 ∧ n ≤ (impC st.m n l).2.2 := by
  cases hr with
  | frz hf =>
    have hi : impC st.m n l = (l, [], n) := by
      cases l <;> first | rfl | cases hf
    rw [hi]
    exact ⟨ρ, h, .frz hf, Took.refl st ρ n, Nat.le_refl _⟩
  | @slo0 a0 sz =>
    obtain ⟨k1, k2⟩ := h.adopt (n := n) (x' := ⟨genAt st.m n, false, .slc, sz, []⟩) (ρ' := updRo ρ n none) (fun k hk => updRo_ne _ _ (Ne.symm hk)) rfl rfl (fun l hl => by rw [updRo_same] at hl; cases hl)
      fun _ => BoxOK.of_cells (by simp) (by rw [updRo_same]; rfl)
    refine ⟨updRo ρ n none, k1, .own rfl (updM_same _ _ _) (Nat.le_refl _) fun _ => ⟨rfl, by simp, by rw [updRo_same]; exact ⟨a0, rfl⟩⟩, took_new (fun k hk => updRo_ne _ _ (Ne.symm hk)) k2 (fun l hl => by rw [updRo_same] at hl; cases hl), by simp [impC]⟩
  | @slo blk off len cap sz es cs t hl hc hb hf hsz hcell =>
    obtain ⟨f1, f2, f3, f4⟩ := hO blk (by simp)
    obtain ⟨k1, k2⟩ := h.adopt (n := n) (x' := ⟨genAt st.m n, false, .slc, sz, es⟩) (ρ' := updRo ρ n (some ⟨blk, off, cap⟩)) (fun k hk => updRo_ne _ _ (Ne.symm hk)) rfl rfl
      (fun l hl => by
        rw [updRo_same] at hl
        injection hl with hl
        subst hl
        exact ⟨f1, f2, f3, fun k x l' g1 g2 _ g3 => f4 k x l' g1 g2 g3⟩)
      fun _ => BoxOK.of_cells (by simp) (by rw [updRo_same]; exact ⟨cs, t, hb, hf, by simp only; omega, hsz, fun i e c q he hq => hcell i e c q he hq⟩)
    refine ⟨_, k1, .own rfl (updM_same _ _ _) (Nat.le_refl _) fun _ => ⟨rfl, by simp, by rw [updRo_same]; exact ⟨_, cap, by rw [hl], fun _ => by simp, by omega, by simp⟩⟩, took_new (fun k hk => updRo_ne _ _ (Ne.symm hk)) k2 (fun l hl => by
      rw [updRo_same] at hl
      injection hl with hl
      subst hl
      simp), by simp [impC]⟩
  | aggn => simp [cellI] at hcl
  | aggc => simp [cellI] at hcl
  | tup => simp [cellI] at hcl
  | ptro => simp [cellI] at hcl

theorem genAt_congr {m m' : Mem} {n : Nat} (h : m' n = m n) : genAt m' n = genAt m n := by simp [genAt, h]
theorem impC_congr {m m' : Mem} {n : Nat} (h : ∀ k, n ≤ k → m' k = m k) (l : LV) : impC m' n l = impC m n l := by
  cases l <;> first | rfl | (simp [impC, genAt_congr (h n (Nat.le_refl n))])
theorem impC_le (m : Mem) (n : Nat) (l : LV) : n ≤ (impC m n l).2.2 := by
  cases l <;> simp [impC]
theorem impCs_congr {m m' : Mem} : ∀ (ls : List LV) {n : Nat}, (∀ k, n ≤ k → m' k = m k) → impCs m' n ls = impCs m n ls
  | [], n, _ => rfl
  | l :: ls, n, h => by
    have h1 := impC_congr h l
    have h2 := impCs_congr (m := m) (m' := m') ls (n := (impC m n l).2.2) (fun k hk => h k (Nat.le_trans (impC_le m n l) hk))
    simp only [impCs, h1, h2]
theorem impCs_le (m : Mem) : ∀ (ls : List LV) (n : Nat), n ≤ (impCs m n ls).2.2
  | [], n => Nat.le_refl _
  | l :: ls, n => Nat.le_trans (impC_le m n l) (impCs_le m ls _)

/-- An aggregate that is handed over, cell by cell. -/
theorem RelI.uncons {v : Value} {l : LV} {ls : List LV} {O : List Nat} (h : RelI w F v (.agg (l :: ls)) O) : ∃ u us O1 O2, v = .agg ⟨u :: us⟩ ∧ O = O1 ++ O2 ∧ RelI w F u l O1 ∧ RelI w F (.agg ⟨us⟩) (.agg ls) O2 := by
  cases h with
  | frz h =>
    obtain ⟨cs, rfl, hn, hr⟩ := h.cells
    obtain ⟨cs⟩ := cs
    cases cs with
    | nil => simp at hn
    | cons u us =>
      exact ⟨u, us, [], [], rfl, rfl, .frz (hr 0 u l rfl rfl), .frz (.agg (by simpa using hn) fun i a q ha hq => hr (i + 1) a q (by simpa using ha) (by simpa using hq))⟩
  | aggc h1 h2 => exact ⟨_, _, _, _, rfl, rfl, h1, h2⟩
theorem RelI.nil {v : Value} {O : List Nat} (h : RelI w F v (.agg []) O) : v = .agg #[] ∧ O = [] := by
  cases h with
  | frz h =>
    obtain ⟨cs, rfl, hn, hr⟩ := h.cells
    have : cs = #[] := by simpa using hn
    exact ⟨by rw [this], rfl⟩
  | aggn => exact ⟨rfl, rfl⟩

theorem RelL.consAgg {ρ : Locs} {m : Mem} {u : Value} {us : List Value} {l : LV} {ls : List LV} (h : RelL w F ρ m u l) (hs : RelL w F ρ m (.agg ⟨us⟩) (.agg ls)) : RelL w F ρ m (.agg ⟨u :: us⟩) (.agg (l :: ls)) := by
  obtain ⟨cs, h1, hn, hr⟩ := hs.cells
  injection h1 with h1
  subst h1
  refine .agg (by simpa using hn) fun i v q hv hq => ?_
  cases i with
  | zero =>
    simp at hv hq
    subst hv hq
    exact h
  | succ i => exact hr i v q (by simpa using hv) (by simpa using hq)

theorem impCs_sound : ∀ (ls : List LV) {st : St} {ρ : Locs}, Inv X st a w F ρ → ∀ {us : List Value} {O : List Nat}, RelI w F (.agg ⟨us⟩) (.agg ls) O → FreeB X st w F ρ O → O.Nodup → ls.all cellI = true → ∀ (n : Nat),
    ∃ ρ', Inv X ⟨st.ts, effM st.m (impCs st.m n ls).2.1⟩ a w F ρ' ∧ RelL w F ρ' (effM st.m (impCs st.m n ls).2.1) (.agg ⟨us⟩) (.agg (impCs st.m n ls).1) ∧
      Took X st ⟨st.ts, effM st.m (impCs st.m n ls).2.1⟩ w F ρ ρ' O n (impCs st.m n ls).2.2 := by
  intro ls
  induction ls with
  | nil =>
    intro st ρ h us O hr hO hnd hc n
    obtain ⟨h1, rfl⟩ := hr.nil
    injection h1 with h1
    rw [h1]
    exact ⟨ρ, h, .agg rfl (by simp [impCs]), Took.refl st ρ n⟩
  | cons l ls ih =>
    intro st ρ h us O hr hO hnd hc n
    simp only [List.all_cons, Bool.and_eq_true] at hc
    obtain ⟨u, us', O1, O2, h1, rfl, hr1, hr2⟩ := hr.uncons
    injection h1 with h1
    injection h1 with h1
    subst h1
    obtain ⟨n1, n2, n3⟩ := nodup_append hnd
    obtain ⟨ρ1, k1, k2, k3, k4⟩ := impC_sound h hr1 (fun b hb => hO b (List.mem_append_left _ hb)) hc.1 n
    have hfree2 : FreeB X ⟨st.ts, effM st.m (impC st.m n l).2.1⟩ w F ρ1 O2 := FreeB.next (fun b hb => hO b (List.mem_append_right _ hb)) k3 n3
    obtain ⟨ρ2, q1, q2, q3⟩ := ih k1 hr2 hfree2 n2 hc.2 (impC st.m n l).2.2
    have hcg : impCs (effM st.m (impC st.m n l).2.1) (impC st.m n l).2.2 ls = impCs st.m (impC st.m n l).2.2 ls := impCs_congr ls fun k hk => k3.same k (.inr hk)
    simp only [hcg] at q1 q2 q3
    have heff : effM st.m (impCs st.m n (l :: ls)).2.1 = effM (effM st.m (impC st.m n l).2.1) (impCs st.m (impC st.m n l).2.2 ls).2.1 := by simp only [impCs, effM_append]
    rw [heff]
    refine ⟨ρ2, q1, ?_, Took.trans k3 q3 k4 (impCs_le _ _ _)⟩
    exact RelL.consAgg (k2.mono (fun _ h => h) (fun _ _ => rfl) q3.compat) q2

theorem impV_sound {st : St} {ρ : Locs} (h : Inv X st a w F ρ) {v : Value} {l : LV} {O : List Nat} (hr : RelI w F v l O) (hO : FreeB X st w F ρ O) (hnd : O.Nodup) (hc : valI l = true) (n : Nat) :
    ∃ ρ', Inv X ⟨st.ts, effM st.m (impV st.m n l).2.1⟩ a w F ρ' ∧ RelL w F ρ' (effM st.m (impV st.m n l).2.1) v (impV st.m n l).1 ∧
      Took X st ⟨st.ts, effM st.m (impV st.m n l).2.1⟩ w F ρ ρ' O n (impV st.m n l).2.2 ∧ n ≤ (impV st.m n l).2.2 := by
  by_cases ha : ∃ cs, l = .agg cs
  · obtain ⟨cs, rfl⟩ := ha
    obtain ⟨vs, rfl⟩ : ∃ vs, v = .agg vs := by
      cases hr with
      | frz hf => obtain ⟨vs, rfl, -⟩ := hf.cells; exact ⟨vs, rfl⟩
      | aggn => exact ⟨_, rfl⟩
      | aggc => exact ⟨_, rfl⟩
    obtain ⟨ρ', k1, k2, k3⟩ := impCs_sound cs h (us := vs.toList) hr hO hnd hc n
    exact ⟨ρ', k1, k2, k3, impCs_le _ _ _⟩
  · have hi : impV st.m n l = impC st.m n l := by
      cases l <;> first | rfl | exact absurd ⟨_, rfl⟩ ha
    have hcl : cellI l = true := by
      cases l <;> first | exact hc | exact absurd ⟨_, rfl⟩ ha
    rw [hi]
    exact impC_sound h hr hO hcl n
theorem impV_congr {m m' : Mem} {n : Nat} (h : ∀ k, n ≤ k → m' k = m k) (l : LV) : impV m' n l = impV m n l := by
  by_cases ha : ∃ cs, l = .agg cs
  · obtain ⟨cs, rfl⟩ := ha
    simp only [impV, impCs_congr cs h]
  · have hi : ∀ m, impV m n l = impC m n l := by
      intro m
      cases l <;> first | rfl | exact absurd ⟨_, rfl⟩ ha
    rw [hi, hi]
    exact impC_congr h l
theorem impV_le (m : Mem) (n : Nat) (l : LV) : n ≤ (impV m n l).2.2 := by
  by_cases ha : ∃ cs, l = .agg cs
  · obtain ⟨cs, rfl⟩ := ha
    exact impCs_le m cs n
  · have hi : impV m n l = impC m n l := by
      cases l <;> first | rfl | exact absurd ⟨_, rfl⟩ ha
    rw [hi]
    exact impC_le m n l
theorem impVs_congr {m m' : Mem} : ∀ (ls : List LV) {n : Nat}, (∀ k, n ≤ k → m' k = m k) → impVs m' n ls = impVs m n ls
  | [], n, _ => rfl
  | l :: ls, n, h => by
    have h1 := impV_congr h l
    have h2 := impVs_congr (m := m) (m' := m') ls (n := (impV m n l).2.2) (fun k hk => h k (Nat.le_trans (impV_le m n l) hk))
    simp only [impVs, h1, h2]
theorem impVs_le (m : Mem) : ∀ (ls : List LV) (n : Nat), n ≤ (impVs m n ls).2.2
  | [], n => Nat.le_refl _
  | l :: ls, n => Nat.le_trans (impV_le m n l) (impVs_le m ls _)
theorem impVs_sound : ∀ (ls : List LV) {st : St} {ρ : Locs}, Inv X st a w F ρ → ∀ {us : List Value} {O : List Nat}, RelI w F (.agg ⟨us⟩) (.agg ls) O → FreeB X st w F ρ O → O.Nodup → ls.all valI = true → ∀ (n : Nat),
    ∃ ρ', Inv X ⟨st.ts, effM st.m (impVs st.m n ls).2.1⟩ a w F ρ' ∧ RelL w F ρ' (effM st.m (impVs st.m n ls).2.1) (.agg ⟨us⟩) (.agg (impVs st.m n ls).1) ∧
      Took X st ⟨st.ts, effM st.m (impVs st.m n ls).2.1⟩ w F ρ ρ' O n (impVs st.m n ls).2.2 := by
  intro ls
  induction ls with
  | nil =>
    intro st ρ h us O hr hO hnd hc n
    obtain ⟨h1, rfl⟩ := hr.nil
    injection h1 with h1
    rw [h1]
    exact ⟨ρ, h, .agg rfl (by simp [impVs]), Took.refl st ρ n⟩
  | cons l ls ih =>
    intro st ρ h us O hr hO hnd hc n
    simp only [List.all_cons, Bool.and_eq_true] at hc
    obtain ⟨u, us', O1, O2, h1, rfl, hr1, hr2⟩ := hr.uncons
    injection h1 with h1
    injection h1 with h1
    subst h1
    obtain ⟨n1, n2, n3⟩ := nodup_append hnd
    obtain ⟨ρ1, k1, k2, k3, k4⟩ := impV_sound h hr1 (fun b hb => hO b (List.mem_append_left _ hb)) n1 hc.1 n
    have hfree2 : FreeB X ⟨st.ts, effM st.m (impV st.m n l).2.1⟩ w F ρ1 O2 := FreeB.next (fun b hb => hO b (List.mem_append_right _ hb)) k3 n3
    obtain ⟨ρ2, q1, q2, q3⟩ := ih k1 hr2 hfree2 n2 hc.2 (impV st.m n l).2.2
    have hcg : impVs (effM st.m (impV st.m n l).2.1) (impV st.m n l).2.2 ls = impVs st.m (impV st.m n l).2.2 ls := impVs_congr ls fun k hk => k3.same k (.inr hk)
    simp only [hcg] at q1 q2 q3
    have heff : effM st.m (impVs st.m n (l :: ls)).2.1 = effM (effM st.m (impV st.m n l).2.1) (impVs st.m (impV st.m n l).2.2 ls).2.1 := by simp only [impVs, effM_append]
    rw [heff]
    refine ⟨ρ2, q1, ?_, Took.trans k3 q3 k4 (impVs_le _ _ _)⟩
    exact RelL.consAgg (k2.mono (fun _ h => h) (fun _ _ => rfl) q3.compat) q2

/-- What a step that takes in blocks leaves. -/
structure TookT (m m' : Mem) (ρ ρ' : Locs) (O : List Nat) : Prop where
  compat : Compat m ρ m' ρ'
  own : ∀ k x l, m' k = some x → x.frz = false → ρ' k = some l → (∃ y, m k = some y ∧ y.frz = false ∧ ρ k = some l) ∨ l.blk ∈ O
theorem Took.t {st st' : St} {ρ ρ' : Locs} {O : List Nat} {lo hi : Nat} (h : Took X st st' w F ρ ρ' O lo hi) : TookT st.m st'.m ρ ρ' O :=
  ⟨h.compat, fun k x l h1 h2 h3 => (h.own k x l h1 h2 h3).imp (fun e => ⟨x, e.1, h2, e.2⟩) id⟩
/-- A result is taken in. -/
theorem impT_took {st : St} {ρ : Locs} (h : Inv X st a w F ρ) {v : Value} {l : LV} {O : List Nat} (hr : RelI w F v l O) (hO : FreeB X st w F ρ O) (hnd : O.Nodup) (hc : topI l = true) (d : Nat) :
    ∃ ρ', Inv X ⟨st.ts, effM st.m (impT st.m d l).2⟩ a w F ρ' ∧ RelL w F ρ' (effM st.m (impT st.m d l).2) v (impT st.m d l).1 ∧ TookT st.m (effM st.m (impT st.m d l).2) ρ ρ' O := by
  by_cases ht : ∃ vs, l = .tup vs
  · obtain ⟨vs, rfl⟩ := ht
    obtain ⟨cs, rfl, hr'⟩ : ∃ cs : Array Value, v = .tuple cs ∧ RelI w F (.agg cs) (.agg vs) O := by
      cases hr with
      | frz hf => cases hf with | tup hn h => exact ⟨_, rfl, .frz (.agg hn h)⟩
      | tup h => exact ⟨_, rfl, h⟩
    obtain ⟨ρ', k1, k2, k3⟩ := impVs_sound vs h (us := cs.toList) hr' hO hnd hc d
    obtain ⟨cs2, h3, h4, h5⟩ := k2.cells
    injection h3 with h3
    subst h3
    exact ⟨ρ', k1, .tup h4 h5, k3.t⟩
  · by_cases hp : ∃ cs, l = .ptro cs
    · obtain ⟨cs, rfl⟩ := hp
      cases hr with
      | frz hf => cases hf
      | @ptro blk off cs0 t _ O' hb hf h1 =>
        obtain ⟨n1, n2⟩ := List.nodup_cons.1 hnd
        obtain ⟨ρ1, k1, k2, k3⟩ := impCs_sound cs h (us := (cs0.extract off (off + cs.length)).toList) h1 (fun b hb => hO b (List.mem_cons_of_mem _ hb)) n2 hc (d + 1)
        obtain ⟨f1, f2, f3, f4⟩ := FreeB.next (X := X) (O' := [blk]) (fun b hb => hO b (by simp at hb; simp [hb])) k3 (fun b e1 e2 => by simp at e2; subst e2; exact n1 e1) blk (by simp)
        have hgen : genAt (effM st.m (impCs st.m (d + 1) cs).2.1) d = genAt st.m d := genAt_congr (k3.same d (.inl (Nat.lt_succ_self d)))
        obtain ⟨vs, g1, g2, g3⟩ := k2.cells
        have hlen : (impCs st.m (d + 1) cs).1.length = cs.length := by
          injection g1 with g1
          rw [← g2, ← g1]
          simp
          omega
        obtain ⟨q1, q2⟩ := k1.adopt (n := d) (x' := ⟨genAt st.m d, false, .var, cs.length, [(impCs st.m (d + 1) cs).1]⟩) (ρ' := updRo ρ1 d (some ⟨blk, off, 1⟩)) (fun k hk => updRo_ne _ _ (Ne.symm hk)) rfl hgen.symm
          (fun l hl => by
            rw [updRo_same] at hl
            injection hl with hl
            subst hl
            exact ⟨f1, f2, f3, fun k x l' e1 e2 _ e3 => f4 k x l' e1 e2 e3⟩)
          fun hcm => BoxOK.of_cells (by simp) (by
            rw [updRo_same]
            refine ⟨cs0, t, hb, by simpa using hf, by simp, by simpa using hlen, fun i e c q he hq => ?_⟩
            have hi : i = 0 := by have := (List.getElem?_eq_some_iff.1 he).1; simp at this; omega
            subst hi
            simp only [List.getElem?_cons_zero, Option.some.injEq] at he
            subst he
            have hcl : c < cs.length := by have := (List.getElem?_eq_some_iff.1 hq).1; omega
            have hcx : (cs0.extract off (off + cs.length))[c]? = some (cs0[off + c]'(by omega)) := by
              rw [Array.getElem?_extract, if_pos (by omega)]
              exact Array.getElem?_eq_getElem _
            refine ⟨cs0[off + c]'(by omega), by simp only [Nat.zero_mul, Nat.zero_add]; exact Array.getElem?_eq_getElem _, ?_⟩
            injection g1 with g1
            have hg : vs[c]? = some (cs0[off + c]'(by omega)) := by rw [← hcx, ← g1]
            exact (g3 c _ q hg hq).mono (fun _ h => h) (fun _ _ => rfl) hcm) fun _ l hl => by
              rw [updRo_same] at hl
              injection hl with hl
              subst hl
              rfl
        refine ⟨_, by simp only [impT, effM_append]; exact q1, ?_⟩
        simp only [impT, effM_append]
        refine ⟨.ref rfl (updM_same _ _ _) (Nat.le_refl _) fun _ => ⟨by simp, _, updRo_same _ _ _, by simp⟩, k3.compat.trans q2, fun k x l e1 e2 e3 => ?_⟩
        by_cases hk : k = d
        · subst hk
          rw [updRo_same] at e3
          injection e3 with e3
          subst e3
          exact .inr (by simp)
        · rw [updRo_ne _ _ (Ne.symm hk)] at e3
          have e1 : (effM st.m (impCs st.m (d + 1) cs).2.1) k = some x := (updM_ne _ _ (Ne.symm hk)).symm.trans e1
          rcases k3.own k x l e1 e2 e3 with ⟨g4, g5⟩ | g4
          · exact .inl ⟨x, g4, e2, g5⟩
          · exact .inr (List.mem_cons_of_mem _ g4)
    · have hi : impT st.m d l = ((impV st.m d l).1, (impV st.m d l).2.1) := by
        cases l <;> first | rfl | exact absurd ⟨_, rfl⟩ ht | exact absurd ⟨_, rfl⟩ hp
      have hv : valI l = true := by
        cases l <;> first | exact hc | exact absurd ⟨_, rfl⟩ ht | exact absurd ⟨_, rfl⟩ hp
      obtain ⟨ρ', k1, k2, k3, -⟩ := impV_sound h hr hO hnd hv d
      rw [hi]
      exact ⟨ρ', k1, k2, k3.t⟩
theorem impT_sound {st : St} {ρ : Locs} (h : Inv X st a w F ρ) {v : Value} {l : LV} {O : List Nat} (hr : RelI w F v l O) (hO : FreeB X st w F ρ O) (hnd : O.Nodup) (hc : topI l = true) (d : Nat) :
    ∃ ρ', Inv X ⟨st.ts, effM st.m (impT st.m d l).2⟩ a w F ρ' ∧ RelL w F ρ' (effM st.m (impT st.m d l).2) v (impT st.m d l).1 := by
  obtain ⟨ρ', h1, h2, -⟩ := impT_took h hr hO hnd hc d
  exact ⟨ρ', h1, h2⟩
theorem impAs_len : ∀ (ls : List LV) {us : List Value} {O : List Nat}, RelI w F (.agg ⟨us⟩) (.agg ls) O → us.length = ls.length
  | [], us, O, h => by
    obtain ⟨h1, -⟩ := h.nil
    injection h1 with h1
    obtain rfl : us = [] := by simpa using congrArg Array.toList h1
    rfl
  | l :: ls, us, O, h => by
    obtain ⟨u, us', O1, O2, h1, -, -, h2⟩ := h.uncons
    injection h1 with h1
    injection h1 with h1
    subst h1
    simp [impAs_len ls h2]
/-- Arguments are taken in. -/
def impAs (m : Mem) (d : Nat) : List LV → List LV × List (Nat × Box)
  | [] => ([], [])
  | l :: ls => ((impT m d l).1 :: (impAs (effM m (impT m d l).2) (d + 1000) ls).1, (impT m d l).2 ++ (impAs (effM m (impT m d l).2) (d + 1000) ls).2)
theorem impAs_took : ∀ (ls : List LV) {st : St} {ρ : Locs}, Inv X st a w F ρ → ∀ {us : List Value} {O : List Nat}, RelI w F (.agg ⟨us⟩) (.agg ls) O → FreeB X st w F ρ O → O.Nodup → ls.all topI = true → ∀ (d : Nat),
    ∃ ρ', Inv X ⟨st.ts, effM st.m (impAs st.m d ls).2⟩ a w F ρ' ∧ RelL w F ρ' (effM st.m (impAs st.m d ls).2) (.agg ⟨us⟩) (.agg (impAs st.m d ls).1) ∧ Compat st.m ρ (effM st.m (impAs st.m d ls).2) ρ' := by
  intro ls
  induction ls with
  | nil =>
    intro st ρ h us O hr hO hnd hc d
    obtain ⟨h1, rfl⟩ := hr.nil
    injection h1 with h1
    rw [h1]
    exact ⟨ρ, h, .agg rfl (by simp [impAs]), fun b x hx => ⟨x, hx, .inl ⟨rfl, rfl, rfl, .inr rfl, rfl⟩⟩⟩
  | cons l ls ih =>
    intro st ρ h us O hr hO hnd hc d
    simp only [List.all_cons, Bool.and_eq_true] at hc
    obtain ⟨u, us', O1, O2, h1, rfl, hr1, hr2⟩ := hr.uncons
    injection h1 with h1
    injection h1 with h1
    subst h1
    obtain ⟨n1, n2, n3⟩ := nodup_append hnd
    obtain ⟨ρ1, k1, k2, k3⟩ := impT_took h hr1 (fun b hb => hO b (List.mem_append_left _ hb)) n1 hc.1 d
    obtain ⟨ρ2, q1, q2, q3⟩ := ih (st := ⟨st.ts, effM st.m (impT st.m d l).2⟩) k1 hr2 (fun b hb => by
      obtain ⟨p1, p2, p3, p4⟩ := hO b (List.mem_append_right _ hb)
      refine ⟨p1, p2, p3, fun k x l' e1 e2 e3 heq => ?_⟩
      rcases k3.own k x l' e1 e2 e3 with ⟨y, g1, g2, g3⟩ | g
      · exact p4 k y l' g1 g2 g3 heq
      · exact n3 _ g (heq ▸ hb)) n2 hc.2 (d + 1000)
    simp only [impAs, effM_append]
    exact ⟨ρ2, q1, RelL.consAgg (k2.mono (fun _ h => h) (fun _ _ => rfl) q3) q2, k3.compat.trans q3⟩

/-! ### Lending: boxes whose blocks a call may write -/
def findB (n : Nat) : List (Nat × Box) → Option Box
  | [] => none
  | (k, x) :: r => cond (Nat.beq k n) (some x) (findB n r)
/-- The boxes that were lent, behind the call: given back, or gone. -/
def lendE (m : Mem) (B : List (Nat × Box)) (M : List Nat) : List (Nat × Box) :=
  M.map fun n => (n, match findB n B with | some x => x | none => ⟨genAt m n, false, .slc, 0, []⟩)
theorem effM_notin {f : Nat → Box} : ∀ {M : List Nat} {m : Mem} {n : Nat}, n ∉ M → effM m (M.map fun n => (n, f n)) n = m n
  | [], m, n, _ => rfl
  | k :: M, m, n, h => by
    have hk : k ≠ n := fun e => h (by simp [e])
    simp only [List.map_cons, effM]
    rw [effM_notin (fun e => h (List.mem_cons_of_mem _ e)), updM_ne _ _ hk]
theorem effM_isin {f : Nat → Box} : ∀ {M : List Nat} {m : Mem} {n : Nat}, M.Nodup → n ∈ M → effM m (M.map fun n => (n, f n)) n = some (f n)
  | [], m, n, _, h => by cases h
  | k :: M, m, n, hnd, h => by
    simp only [List.map_cons, effM]
    obtain ⟨h1, h2⟩ := List.nodup_cons.1 hnd
    by_cases hk : n ∈ M
    · exact effM_isin h2 hk
    · rcases List.mem_cons.1 h with rfl | h
      · rw [effM_notin hk, updM_same]
      · exact absurd h hk

/-- Blocks of some boxes were written by a call; of those boxes some are known again, the others are gone. -/
theorem Inv.exchange {st : St} {ρ : Locs} (h : Inv X st a w F ρ) {w' : World} {F' : Nat → Prop} {M : List Nat} {O : List Nat} {m2 : Mem} {ρ2 : Locs}
    (hM : ∀ n ∈ M, ∃ x, st.m n = some x ∧ x.frz = false) (hO : ∀ b ∈ O, ∃ n ∈ M, ∃ lc, ρ n = some lc ∧ lc.blk = b)
    (he : Ext O w w') (hF : ∀ b, F b → F' b) (hF1 : ∀ b, F' b → F b ∨ b ∈ O ∨ w.heap.size ≤ b) (hF2 : ∀ b, F' b → b < w'.heap.size)
    (hout : ∀ n, n ∉ M → m2 n = st.m n ∧ ρ2 n = ρ n)
    (hin : ∀ n ∈ M, ∀ x, st.m n = some x → ∃ x', m2 n = some x' ∧ x'.frz = false ∧ ((x.gen < x'.gen ∧ ρ2 n = none ∧ x'.es = [] ∧ x'.kind = .slc) ∨
      (x'.gen = x.gen ∧ ρ2 n = ρ n ∧ x'.sz = x.sz ∧ x'.es.length = x.es.length ∧ x'.kind = x.kind ∧ (Compat st.m ρ m2 ρ2 → BoxOK w' F' ρ2 m2 n x') ∧ ∀ l, ρ n = some l → ¬ F' l.blk))) :
    Inv X ⟨st.ts, m2⟩ a w' F' ρ2 := by
  have hcol : ∀ n x l, st.m n = some x → n ∉ M → ρ n = some l → l.blk ∉ O := by
    intro n x l hx hn hl hb
    obtain ⟨k, hk, lc, hlc, hbk⟩ := hO _ hb
    obtain ⟨y, hy, hyf⟩ := hM k hk
    cases hxf : x.frz with
    | false => exact hn (h.inj n k x y l lc hx hy hxf hyf hl hlc hbk.symm ▸ hk)
    | true =>
      have h1 := (h.place n x l hx hl).2.1 hxf
      exact ((h.place k y lc hy hlc).2.2 hyf).1 (hbk ▸ h1)
  have hFO : ∀ b, F b → b ∉ O := by
    intro b hb hbo
    obtain ⟨k, hk, lc, hlc, rfl⟩ := hO _ hbo
    obtain ⟨y, hy, hyf⟩ := hM k hk
    exact ((h.place k y lc hy hlc).2.2 hyf).1 hb
  have hw : ∀ b, F b → w'.heap[b]? = w.heap[b]? := fun b hb => he.block b (h.frzlt b hb) (hFO b hb)
  have hc : Compat st.m ρ m2 ρ2 := by
    intro n x hx
    by_cases hn : n ∈ M
    · obtain ⟨x', h1, -, h2⟩ := hin n hn x hx
      refine ⟨x', h1, ?_⟩
      rcases h2 with ⟨g, -⟩ | ⟨g1, g2, g3, g4, g5, -⟩
      · exact .inr g
      · exact .inl ⟨g1, g2, g3, .inr g4, g5⟩
    · obtain ⟨h1, h2⟩ := hout n hn
      exact ⟨x, h1.trans hx, .inl ⟨rfl, h2, rfl, .inr rfl, rfl⟩⟩
  have hlook : ∀ n x, m2 n = some x → (n ∉ M ∧ st.m n = some x ∧ ρ2 n = ρ n) ∨ (n ∈ M ∧ x.frz = false ∧ ((ρ2 n = none ∧ x.es = [] ∧ x.kind = .slc) ∨ (ρ2 n = ρ n ∧ BoxOK w' F' ρ2 m2 n x ∧ ∀ l, ρ n = some l → ¬ F' l.blk))) := by
    intro n x hx
    by_cases hn : n ∈ M
    · obtain ⟨y, hy, -⟩ := hM n hn
      obtain ⟨x', h1, h2, h3⟩ := hin n hn y hy
      rw [hx] at h1
      injection h1 with h1
      subst h1
      refine .inr ⟨hn, h2, ?_⟩
      rcases h3 with ⟨-, g1, g2, g3⟩ | ⟨-, g1, -, -, -, g2, g3⟩
      · exact .inl ⟨g1, g2, g3⟩
      · exact .inr ⟨g1, g2 hc, g3⟩
    · obtain ⟨h1, h2⟩ := hout n hn
      exact .inl ⟨hn, h1.symm.trans hx, h2⟩
  have hOin : ∀ b ∈ O, X.F0 b ∨ b ∈ X.O0 ∨ X.w0.heap.size ≤ b := by
    intro b hb
    obtain ⟨k, hk, lc, hlc, rfl⟩ := hO _ hb
    obtain ⟨y, hy, hyf⟩ := hM k hk
    exact .inr ((h.place k y lc hy hlc).2.2 hyf).2
  refine ⟨h.defers, fun j => (h.slots j).mono hF hw hc, ?_, ?_, ?_, fun b hb => hF b (h.frz0 b hb), fun b hb => ?_, hF2, ?_, fun v l hv => (h.kept v l hv).mono hF hw hc⟩
  · intro n x hx
    rcases hlook n x hx with ⟨h1, h2, h3⟩ | ⟨h1, h2, ⟨h3, h4, h5⟩ | ⟨h3, h4, h5⟩⟩
    · exact (h.boxes n x h2).mono hF hw hc h3 fun l hl => he.block _ (h.place n x l h2 hl).1 (hcol n x l h2 h1 hl)
    · exact BoxOK.of_cells (by rw [h5]; simp) (by rw [h3]; exact h4) fun hv => by rw [h5] at hv; cases hv
    · exact h4
  · intro n x l hx hl
    rcases hlook n x hx with ⟨h1, h2, h3⟩ | ⟨h1, h2, ⟨h3, -⟩ | ⟨h3, -, h5⟩⟩
    · rw [h3] at hl
      obtain ⟨p1, p2, p3⟩ := h.place n x l h2 hl
      refine ⟨Nat.lt_of_lt_of_le p1 he.size, fun hf => hF _ (p2 hf), fun hf => ⟨fun hF' => ?_, (p3 hf).2⟩⟩
      rcases hF1 _ hF' with q | q | q
      · exact (p3 hf).1 q
      · exact hcol n x l h2 h1 hl q
      · omega
    · rw [h3] at hl
      cases hl
    · rw [h3] at hl
      obtain ⟨y, hy, hyf⟩ := hM n h1
      obtain ⟨p1, p2, p3⟩ := h.place n y l hy hl
      refine ⟨Nat.lt_of_lt_of_le p1 he.size, fun hf => ?_, fun _ => ⟨h5 l hl, (p3 hyf).2⟩⟩
      rw [h2] at hf
      cases hf
  · intro n n' x x' l l' hx hx' hxf hxf' hl hl' heq
    have key : ∀ n x l, m2 n = some x → x.frz = false → ρ2 n = some l → ∃ y, st.m n = some y ∧ y.frz = false ∧ ρ n = some l := by
      intro n x l hx hxf hl
      rcases hlook n x hx with ⟨h1, h2, h3⟩ | ⟨h1, h2, ⟨h3, -⟩ | ⟨h3, -⟩⟩
      · exact ⟨x, h2, hxf, h3 ▸ hl⟩
      · rw [h3] at hl; cases hl
      · obtain ⟨y, hy, hyf⟩ := hM n h1
        exact ⟨y, hy, hyf, h3 ▸ hl⟩
    obtain ⟨y, q1, q2, q3⟩ := key n x l hx hxf hl
    obtain ⟨y', q1', q2', q3'⟩ := key n' x' l' hx' hxf' hl'
    exact h.inj n n' y y' l l' q1 q1' q2 q2' q3 q3' heq
  · rcases hF1 b hb with q | q | q
    · exact h.frz1 b q
    · exact hOin b q
    · exact .inr (.inr (Nat.le_trans h.ext.size q))
  · refine h.ext.step (O' := O) he fun b hb => ?_
    obtain ⟨k, hk, lc, hlc, rfl⟩ := hO _ hb
    obtain ⟨y, hy, hyf⟩ := hM k hk
    exact ((h.place k y lc hy hlc).2.2 hyf).2

/-- A box of this call's own is told more of: nothing is written. -/
theorem Inv.tell {st : St} {ρ : Locs} (h : Inv X st a w F ρ) {n : Nat} {x x' : Box} (hx : st.m n = some x) (hf : x.frz = false) (hg : x'.gen = x.gen) (hf' : x'.frz = false) (hs : x'.sz = x.sz) (hl : x'.es.length = x.es.length) (hk : x'.kind = x.kind)
    (hbox : Compat st.m ρ (updM st.m n x') ρ → BoxOK w F ρ (updM st.m n x') n x') : Inv X ⟨st.ts, updM st.m n x'⟩ a w F ρ ∧ Compat st.m ρ (updM st.m n x') ρ := by
  have hc : Compat st.m ρ (updM st.m n x') ρ := by
    intro b y hy
    by_cases hb : n = b
    · subst hb
      rw [hx] at hy
      injection hy with hy
      subst hy
      exact ⟨x', updM_same _ _ _, .inl ⟨hg, rfl, hs, .inr hl, hk⟩⟩
    · exact ⟨y, by rw [updM_ne _ _ hb]; exact hy, .inl ⟨rfl, rfl, rfl, .inr rfl, rfl⟩⟩
  refine ⟨h.write rfl rfl rfl (Nat.le_refl _) (fun _ _ _ => rfl) (fun _ _ => rfl) hf' (fun y hy => ?_) (fun l hl' => ?_) fun hc' _ => hbox hc', hc⟩
  · rw [hx] at hy
    injection hy with hy
    subst hy
    exact .inl ⟨hg, rfl, hs, .inr hl, hk⟩
  · exact ⟨(h.place n x l hx hl').1, .inr ⟨x, l, hx, hf, hl', rfl⟩⟩
end
end Go.Proofs.Ytffnlhjdlhpmjaa.Mv

/- Calls by their contracts, code, and what they come to: the calculus and its soundness. -/
set_option linter.unusedVariables false
set_option linter.unusedSimpArgs false
namespace Go.Proofs.Ytffnlhjdlhpmjaa.Mv

inductive Ex where
  | normal
  | exit (id : Nat)
  | ret
def Ex.to : Ex → Exit
  | .normal => .normal
  | .exit id => .exit id
  | .ret => .ret

def FuncOK (P : Program) (f : FuncId) : Prop := ∃ fn, P.funcs[f]? = some fn ∧ (fn.name == "runtime.NumGoroutine") = false ∧ fn.body.isNone = false

/-- The contract of a function: of what is only read it makes one of some results, in new memory. -/
def CallsR (P : Program) (f : FuncId) (args : List LV) (R : LV → Prop) : Prop :=
  FuncOK P f ∧ ∀ (w : World) (F : Nat → Prop) (vs : Array Value), RelF w F (.agg vs) (.agg args) → (∀ b, F b → b < w.heap.size) →
    Calls P f vs w fun e w' => ∃ v res F' O, e = .returned v ∧ R res ∧ Ext [] w w' ∧ (∀ b, F b → F' b) ∧ (∀ b, F' b → F b ∨ w.heap.size ≤ b) ∧ (∀ b, F' b → b < w'.heap.size) ∧
      RelI w' F' v res O ∧ O.Nodup ∧ ∀ b ∈ O, b < w'.heap.size ∧ ¬ F' b ∧ w.heap.size ≤ b
def CallsV (P : Program) (f : FuncId) (args : List LV) (res : LV) : Prop := CallsR P f args (· = res)

/-- The contract of a function that is lent memory, which it may write; argument j is given back. -/
def CallsM (P : Program) (f : FuncId) (args : List LV) (j : Option Nat) (R : LV → LV → Prop) : Prop :=
  FuncOK P f ∧ ∀ (w : World) (F : Nat → Prop) (vs : Array Value) (O : List Nat), RelI w F (.agg vs) (.agg args) O → O.Nodup → (∀ b, F b → b < w.heap.size) → (∀ b ∈ O, b < w.heap.size ∧ ¬ F b) →
    Calls P f vs w fun e w' => ∃ v res q F' O1 O2, e = .returned v ∧ R res q ∧ Ext O w w' ∧ (∀ b, F b → F' b) ∧ (∀ b, F' b → F b ∨ b ∈ O ∨ w.heap.size ≤ b) ∧ (∀ b, F' b → b < w'.heap.size) ∧
      RelI w' F' v res O1 ∧ (∀ k, j = some k → RelI w' F' (vs.getD k Go.undef) q O2) ∧ (j = none → O2 = []) ∧ (O1 ++ O2).Nodup ∧ ∀ b ∈ O1 ++ O2, b < w'.heap.size ∧ ¬ F' b ∧ (b ∈ O ∨ w.heap.size ≤ b)

/-- What is given back of what was lent: a slice whole, or a variable; what is known of its box at first. -/
inductive Back1 (m : Mem) : LV → LV → Nat → Box → Prop
  | slc {b g len sz : Nat} {x : Box} {es : List (List LV)} (hm : m b = some x) (hg : x.gen = g) (hk : x.kind = .slc) (hl : len = x.es.length) (h0 : 0 < len) (hs : sz = x.sz) (he : es.length = len) :
      Back1 m (.own b g 0 len none) (.slo sz es) b ⟨g, false, .slc, sz, es⟩
  | var {b g : Nat} {x : Box} {cs : List LV} (hm : m b = some x) (hg : x.gen = g) (hk : x.kind = .var) (hl : x.es.length = 1) (hs : cs.length = x.sz) (hc : cs.all cellI = true) :
      Back1 m (.ref b g 0 0) (.ptro cs) b ⟨g, false, .var, cs.length, [cs.map fun _ => .undef]⟩
/-- Where what a variable holds is taken in. -/
def farD (d : Nat) : Nat := 1000000000 + 4096 * d
/-- A variable's content is taken in. -/
def fill1 (m : Mem) (d b : Nat) (x : Box) : LV → List (Nat × Box)
  | .ptro cs => (impCs m (farD d) cs).2.1 ++ [(b, { x with es := [(impCs m (farD d) cs).1] })]
  | _ => []

/-- A result that reads no memory. -/
def FlatI (l : LV) : Prop := ∀ (w : World) (F F' : Nat → Prop) (v : Value) (O : List Nat), RelI w F v l O → RelI w F' v l O

/-- A predicate for calls that are entered in place. -/
abbrev InlP := Nat → FuncId → List LV → Mem → (LV → Mem → Prop) → Prop
def InlS (P : Program) (I : InlP) : Prop :=
  ∀ nb f args m R, I nb f args m R → FuncOK P f ∧ ∀ X a w F ρ ts, Inv X ⟨ts, m⟩ a w F ρ → ∀ vs, RelL w F ρ m (.agg vs) (.agg args) →
    Calls P f vs w fun e w' => ∃ v r m' F' ρ', e = .returned v ∧ R r m' ∧ Inv X ⟨ts, m'⟩ a w' F' ρ' ∧ RelL w' F' ρ' m' v r

/-- The name of what an operation makes. -/
def nameO (nb : Nat) (o : Oper) : Nat := nb + 64 * o.dst.getD 4000

inductive WpOp (P : Program) (I : InlP) (nb : Nat) (o : Oper) (st : St) (K : LV → Mem → Prop) : Prop
  | op {v : LV} {eff : List (Nat × Box)} {R : List Nat} (h : OpR P (nameO nb o) (evalO st.ts) st.m o.op v eff R) (k : K v (effM st.m eff)) : WpOp P I nb o st K
  | any {R : LV → List (Nat × Box) → Prop} (h : OpN P (evalO st.ts) st.m o.op R) (k : ∀ v eff, R v eff → K v (effM st.m eff)) : WpOp P I nb o st K
  | call {g : Operand} {as : Array Operand} {ts : Array TypeId} {f : FuncId} {caps args : List LV} {T : List Nat} {R : LV → Prop} (ho : o.op = .call { callee := .value g, args := as, argTypes := ts }) (hg : evalO st.ts g = .fn f caps)
      (hf : Frz st.m (.agg (as.toList.map (evalO st.ts) ++ caps)) (.agg args) T) (hc : CallsR P f args R)
      (k : ∀ res, R res → topI res = true ∧ K (impT (effM st.m (markE st.m T)) (nameO nb o) res).1 (effM (effM st.m (markE st.m T)) (impT (effM st.m (markE st.m T)) (nameO nb o) res).2)) : WpOp P I nb o st K
  | callF {g : Operand} {as : Array Operand} {ts : Array TypeId} {f : FuncId} {caps args : List LV} {T : List Nat} {R : LV → Prop} (ho : o.op = .call { callee := .value g, args := as, argTypes := ts }) (hg : evalO st.ts g = .fn f caps)
      (hf : Frz st.m (.agg (as.toList.map (evalO st.ts) ++ caps)) (.agg args) T) (hc : CallsR P f args R)
      (k : ∀ res, R res → FlatI res ∧ topI res = true ∧ K (impT st.m (nameO nb o) res).1 (effM st.m (impT st.m (nameO nb o) res).2)) : WpOp P I nb o st K
  | lend {g : Operand} {as : Array Operand} {ts : Array TypeId} {f : FuncId} {caps args : List LV} {T M : List Nat} {R : LV → LV → Prop} (ho : o.op = .call { callee := .value g, args := as, argTypes := ts }) (hg : evalO st.ts g = .fn f caps)
      (he : Exp st.m (.agg (as.toList.map (evalO st.ts) ++ caps)) (.agg args) T M) (hM : M.Nodup) (hMT : ∀ n ∈ M, n ∉ T) (hc : CallsM P f args none R)
      (k : ∀ res q, R res q → topI res = true ∧ K (impT (effM (effM st.m (markE st.m T)) (lendE (effM st.m (markE st.m T)) [] M)) (nameO nb o) res).1
        (effM (effM (effM st.m (markE st.m T)) (lendE (effM st.m (markE st.m T)) [] M)) (impT (effM (effM st.m (markE st.m T)) (lendE (effM st.m (markE st.m T)) [] M)) (nameO nb o) res).2)) : WpOp P I nb o st K
  | lend1 {g : Operand} {as : Array Operand} {ts : Array TypeId} {f : FuncId} {caps args : List LV} {T M : List Nat} {j : Nat} {u : LV} {R : LV → LV → Prop} (ho : o.op = .call { callee := .value g, args := as, argTypes := ts }) (hg : evalO st.ts g = .fn f caps)
      (he : Exp st.m (.agg (as.toList.map (evalO st.ts) ++ caps)) (.agg args) T M) (hM : M.Nodup) (hMT : ∀ n ∈ M, n ∉ T) (hc : CallsM P f args (some j) R) (hu : (as.toList.map (evalO st.ts) ++ caps)[j]? = some u)
      (k : ∀ res q, R res q → ∃ b x, topI res = true ∧ Back1 (effM st.m (markE st.m T)) u q b x ∧ b ∈ M ∧ b < 1000000000 ∧ ∀ m1 m2, effM (effM st.m (markE st.m T)) (lendE (effM st.m (markE st.m T)) [(b, x)] M) = m1 → effM m1 (fill1 m1 (nameO nb o) b x q) = m2 →
        K (impT m2 (nameO nb o) res).1 (effM m2 (impT m2 (nameO nb o) res).2)) : WpOp P I nb o st K
  | inl {g : Operand} {as : Array Operand} {ts : Array TypeId} {f : FuncId} {caps : List LV} {nb' : Nat} (ho : o.op = .call { callee := .value g, args := as, argTypes := ts }) (hg : evalO st.ts g = .fn f caps)
      (k : I nb' f (as.toList.map (evalO st.ts) ++ caps) st.m K) : WpOp P I nb o st K

def wantedL (ops : Array Oper) (o : Oper) (f : Slots) : Option Bool :=
  match o.guard with
  | none => some true
  | some (j, want) =>
    match (ops[j]?).bind (·.dst) with
    | some t =>
      match f t with
      | .bool b => some (b == want)
      | .skip => some false
      | _ => none
    | none => none

def WpOps (P : Program) (I : InlP) (nb : Nat) (ops : Array Oper) (Q : St → Prop) : List Nat → St → Prop
  | [], st => Q st
  | i :: r, st =>
    match ops[i]? with
    | none => WpOps P I nb ops Q r st
    | some o =>
      match wantedL ops o st.ts with
      | some true => WpOp P I nb o st fun v m => WpOps P I nb ops Q r ⟨putS st.ts o.dst v, m⟩
      | some false => WpOps P I nb ops Q r ⟨putS st.ts o.dst .skip, st.m⟩
      | none => False

def dstOK (n : Nat) (o : Oper) : Bool :=
  match o.dst with
  | some d => decide (d < n)
  | none => true

/-- What holds behind a piece of code. -/
def Post (X : Ctx) (n : Nat) (Q : Ex → St → Prop) : Exit → Act → World → Prop := fun e a w => ∃ ex st F ρ, ex.to = e ∧ Q ex st ∧ Inv X st a w F ρ ∧ a.tmps.size = n

section
variable {P : Program} {X : Ctx} {st : St} {a : Act} {w : World} {F : Nat → Prop} {ρ : Locs}

theorem run_call {g : Operand} {as : Array Operand} {ts : Array TypeId} {f : FuncId} {caps : Array Value} {dst : Option Tmp} {ty : TypeId} {pos : String} {after : Array Edge} {guard : Option (Nat × Bool)} (hok : FuncOK P f)
    (hg : a.eval g = .func (.func f) #[] caps) :
    (execOp a.eval { dst := dst, op := .call { callee := .value g, args := as, argTypes := ts }, type := ty, pos := pos, after := after, guard := guard }).run P w = .ok (.enter f (as.map a.eval ++ caps)) w := by
  obtain ⟨fn, h1, h2, h3⟩ := hok
  have h2' : ¬ fn.name = "runtime.NumGoroutine" := by simpa using h2
  have h3' : ¬ fn.body = none := by
    intro h
    rw [h] at h3
    cases h3
  simp [execOp, resolve, hg, Deferred.ofValue, invoke, callFunc, h1, h2', h3']

/-- The arguments of a call. -/
theorem callArgs (h : Inv X st a w F ρ) {g : Operand} {as : Array Operand} {f : FuncId} {caps : List LV} (hg : evalO st.ts g = .fn f caps) :
    ∃ cv : Array Value, a.eval g = .func (.func f) #[] cv ∧ RelL w F ρ st.m (.agg (as.map a.eval ++ cv)) (.agg (as.toList.map (evalO st.ts) ++ caps)) := by
  have hv := h.eval g
  rw [hg] at hv
  obtain ⟨cv, h1, h2⟩ := hv.toFn
  obtain ⟨cs, h3, hn, hr⟩ := h2.cells
  injection h3 with h3
  subst h3
  refine ⟨cv, h1, .agg (by simp [hn]) fun i u l hu hl => ?_⟩
  by_cases hi : i < as.size
  · rw [Array.getElem?_append_left (by simpa using hi)] at hu
    rw [List.getElem?_append_left (by simpa using hi)] at hl
    exact evals_rel h as.toList i u l (by simpa using hu) hl
  · rw [Array.getElem?_append_right (by simp; omega)] at hu
    rw [List.getElem?_append_right (by simp; omega)] at hl
    simp only [Array.size_map, List.length_map, Array.length_toList] at hu hl
    exact hr _ u l hu hl

/-- A call that wrote nothing that was there. -/
theorem Inv.called (h : Inv X st a w F ρ) {w' : World} (he : Ext [] w w') {F' : Nat → Prop} (hF : ∀ b, F b → F' b) (hF1 : ∀ b, F' b → F b ∨ w.heap.size ≤ b) (hF2 : ∀ b, F' b → b < w'.heap.size) : Inv X st a w' F' ρ := by
  have hb : ∀ b : Nat, b < w.heap.size → w'.heap[b]? = w.heap[b]? := fun b hb => he.block b hb (by simp)
  have hw : ∀ b : Nat, F b → w'.heap[b]? = w.heap[b]? := fun b hb' => hb b (h.frzlt b hb')
  have hc : Compat st.m ρ st.m ρ := fun b x hx => ⟨x, hx, .inl ⟨rfl, rfl, rfl, .inr rfl, rfl⟩⟩
  refine ⟨h.defers, fun j => (h.slots j).mono hF hw hc, fun n x hx => (h.boxes n x hx).mono hF hw hc rfl fun l hl => hb _ (h.place n x l hx hl).1, fun n x l hx hl => ?_, h.inj, fun b hb' => hF b (h.frz0 b hb'), fun b hb' => ?_, hF2, h.ext.step he (by simp), fun v l hv => (h.kept v l hv).mono hF hw hc⟩
  · obtain ⟨h1, h2, h3⟩ := h.place n x l hx hl
    refine ⟨Nat.lt_of_lt_of_le h1 he.size, fun hf => hF _ (h2 hf), fun hf => ⟨fun hF' => ?_, (h3 hf).2⟩⟩
    rcases hF1 _ hF' with h4 | h4
    · exact (h3 hf).1 h4
    · omega
  · rcases hF1 b hb' with h4 | h4
    · exact h.frz1 b h4
    · exact .inr (.inr (Nat.le_trans h.ext.size h4))

theorem freeNew (h : Inv X st a w F ρ) {w' : World} {F' : Nat → Prop} {O : List Nat} (hO : ∀ b ∈ O, b < w'.heap.size ∧ ¬ F' b ∧ w.heap.size ≤ b) : FreeB X st w' F' ρ O := by
  intro b hb
  obtain ⟨h1, h2, h3⟩ := hO b hb
  refine ⟨h1, h2, .inr (Nat.le_trans h.ext.size h3), fun k x l hk _ hl he => ?_⟩
  have := (h.place k x l hk hl).1
  omega

theorem Exp.some {m : Mem} {l l' : LV} {T M : List Nat} (h : Exp m l l' T M) : ∀ n ∈ T, (m n).isSome = true := by
  induction h with
  | frz h => exact h.some
  | skip => simp
  | nils => simp
  | slo => simp
  | aggn => simp
  | aggc h hs ih1 ih2 =>
    intro n hn
    rcases List.mem_append.1 hn with hn | hn
    · exact ih1 n hn
    · exact ih2 n hn
  | tup h ih => exact ih
  | ptro hm hg hf hk he h ih => exact ih

theorem Exp.lent {m : Mem} {l l' : LV} {T M : List Nat} (h : Exp m l l' T M) : ∀ n ∈ M, ∃ x, m n = Option.some x ∧ x.frz = false := by
  induction h with
  | frz h => simp
  | skip => simp
  | nils => simp
  | slo hm hg hf hk hend =>
    intro n hn
    simp only [List.mem_singleton] at hn
    subst hn
    exact ⟨_, hm, hf⟩
  | aggn => simp
  | aggc h hs ih1 ih2 =>
    intro n hn
    rcases List.mem_append.1 hn with hn | hn
    · exact ih1 n hn
    · exact ih2 n hn
  | tup h ih => exact ih
  | ptro hm hg hf hk he h ih =>
    intro n hn
    rcases List.mem_cons.1 hn with rfl | hn
    · exact ⟨_, hm, hf⟩
    · exact ih n hn
theorem mark_keeps (T : List Nat) : ∀ {m : Mem} {n : Nat} {y : Box}, m n = some y → ∃ y', effM m (markE m T) n = some y' ∧ y'.gen = y.gen ∧ y'.sz = y.sz ∧ y'.es = y.es ∧ y'.kind = y.kind := by
  induction T with
  | nil => exact fun h => ⟨_, h, rfl, rfl, rfl, rfl⟩
  | cons b r ih =>
    intro m n y h
    cases hb : m b with
    | none => simp only [markE, hb]; exact ih h
    | some x =>
      simp only [markE, hb, effM]
      rw [← markE_mark hb]
      by_cases hn : b = n
      · subst hn
        rw [hb] at h
        injection h with h
        subst h
        obtain ⟨y', h1, h2, h3, h4, h5⟩ := ih (m := updM m b { x with frz := true }) (n := b) (y := { x with frz := true }) (updM_same _ _ _)
        exact ⟨y', h1, h2, h3, h4, h5⟩
      · exact ih (by rw [updM_ne _ _ hn]; exact h)
def dropR (ρ : Locs) (M : List Nat) (b : Nat) : Locs := fun n => if n ∈ M ∧ n ≠ b then none else ρ n
theorem dropR_b {ρ : Locs} {M : List Nat} {b : Nat} : dropR ρ M b b = ρ b := if_neg fun e => e.2 rfl
theorem dropR_out {ρ : Locs} {M : List Nat} {b n : Nat} (h : n ∉ M) : dropR ρ M b n = ρ n := if_neg fun e => h e.1
theorem dropR_in {ρ : Locs} {M : List Nat} {b n : Nat} (h : n ∈ M) (h' : n ≠ b) : dropR ρ M b n = none := if_pos ⟨h, h'⟩
theorem findB_one {b n : Nat} {x : Box} : findB n [(b, x)] = if b = n then some x else none := by
  unfold findB
  by_cases h : b = n
  · subst h
    simp
  · have : Nat.beq b n = false := by
      cases h' : Nat.beq b n
      · rfl
      · exact absurd (Nat.eq_of_beq_eq_true h') h
    rw [this, if_neg h]
    rfl
/-- The call itself: what was lent, behind it. -/
theorem lend_call (h : Inv X st a w F ρ) {vs : Array Value} {ls args : List LV} {T M : List Nat} (hv : RelL w F ρ st.m (.agg vs) (.agg ls)) (he : Exp st.m (.agg ls) (.agg args) T M) (hM : M.Nodup) (hMT : ∀ n ∈ M, n ∉ T) :
    ∃ F1 O, Inv X ⟨st.ts, effM st.m (markE st.m T)⟩ a w F1 ρ ∧ RelI w F1 (.agg vs) (.agg args) O ∧ O.Nodup ∧ (∀ b ∈ O, b < w.heap.size ∧ ¬ F1 b) ∧ (∀ b ∈ O, ∃ n ∈ M, ∃ lc, ρ n = some lc ∧ lc.blk = b) ∧
      (∀ n ∈ M, ∃ x, (effM st.m (markE st.m T)) n = some x ∧ x.frz = false) ∧ RelL w F1 ρ (effM st.m (markE st.m T)) (.agg vs) (.agg ls) := by
  obtain ⟨O, r1, r2, r3⟩ := Exp.sound h he _ hv hM hMT
  obtain ⟨F1, g1, g2, g3⟩ := h.mark T
  have hF1 : ∀ b, FT F ρ T b → F1 b := fun b hb => g2 b hb he.some
  have hm : ∀ n ∈ M, ∃ x, (effM st.m (markE st.m T)) n = some x ∧ x.frz = false := fun n hn => by
    obtain ⟨x, hx, hxf⟩ := he.lent n hn
    exact ⟨x, by rw [mark_ne T _ _ (hMT n hn)]; exact hx, hxf⟩
  have hO : ∀ b ∈ O, ∃ n ∈ M, ∃ lc, ρ n = some lc ∧ lc.blk = b := fun b hb => by
    obtain ⟨n, hn, x, lc, q1, q2, q3, q4⟩ := r2 b hb
    exact ⟨n, hn, lc, q3, q4⟩
  have hmk : Compat st.m ρ (effM st.m (markE st.m T)) ρ := fun n y hy => by
    obtain ⟨y', hy', e1, e2, e3, e4⟩ := mark_keeps T hy
    exact ⟨y', hy', .inl ⟨e1, rfl, e2, .inr (by rw [e3]), e4⟩⟩
  refine ⟨F1, O, g3, r1.mono hF1, r3, fun b hb => ?_, hO, hm, hv.mono g1 (fun _ _ => rfl) hmk⟩
  obtain ⟨n, hn, lc, q3, rfl⟩ := hO b hb
  obtain ⟨x, hx, hxf⟩ := hm n hn
  obtain ⟨p1, p2, p3⟩ := g3.place n x lc hx q3
  exact ⟨p1, (p3 hxf).1⟩

theorem WpOp.sound {I : InlP} (hI : InlS P I) {nb : Nat} {o : Oper} {K : LV → Mem → Prop} (hw : WpOp P I nb o st K) (h : Inv X st a w F ρ) {next : Act → World → Prop} {Q : Exit → Act → World → Prop}
    (hk : ∀ v m val w' F' ρ', K v m → Inv X ⟨st.ts, m⟩ a w' F' ρ' → RelL w' F' ρ' m val v → next (a.put o.dst val) w') : o.wp P a w next Q := by
  cases hw with
  | @op v eff R hr k =>
    obtain ⟨nx, val, w', F', ρ', h1, h2, h3, h4⟩ := hr.sound h rfl
    unfold Oper.wp
    rw [h1]
    rcases h2 with rfl | ⟨rfl, rfl⟩
    · exact hk _ _ val w' F' ρ' k h3 h4
    · exact hk _ _ _ w' F' ρ' k h3 h4
  | any hr k =>
    obtain ⟨v, eff, hR, hs⟩ := hr.sound h rfl
    obtain ⟨nx, val, w', F', ρ', h1, h2, h3, h4⟩ := hs
    have k := k v eff hR
    unfold Oper.wp
    rw [h1]
    rcases h2 with rfl | ⟨rfl, rfl⟩
    · exact hk _ _ val w' F' ρ' k h3 h4
    · exact hk _ _ _ w' F' ρ' k h3 h4
  | @call g as ts f caps args T R ho hg hf hc k =>
    obtain ⟨cv, h1, h2⟩ := callArgs h (as := as) hg
    have hargs := Frz.sound h.boxes hf _ h2
    obtain ⟨F1, g1, g2, g3⟩ := h.mark T
    have hF1 : ∀ b, FT F ρ T b → F1 b := fun b hb => g2 b hb hf.some
    obtain ⟨dst, op, ty, pos, after, guard⟩ := o
    simp only at ho
    subst ho
    unfold Oper.wp
    rw [run_call hc.1 h1]
    refine Calls.mono (hc.2 w F1 _ (hargs.mono hF1 (fun _ _ => rfl)) g3.frzlt) fun e w' he => ?_
    obtain ⟨v, res, F', O, rfl, hR, hext, q1, q2, q3, q4, q5, q6⟩ := he
    obtain ⟨ht, hK⟩ := k res hR
    have hI' := g3.called hext q1 q2 q3
    obtain ⟨ρ', k1, k2⟩ := impT_sound hI' q4 (freeNew g3 q6) q5 ht (nameO nb _)
    exact hk _ _ v w' F' ρ' hK k1 k2
  | @callF g as ts f caps args T R ho hg hf hc k =>
    obtain ⟨cv, h1, h2⟩ := callArgs h (as := as) hg
    have hargs := Frz.sound h.boxes hf _ h2
    obtain ⟨F1, g1, g2, g3⟩ := h.mark T
    have hF1 : ∀ b, FT F ρ T b → F1 b := fun b hb => g2 b hb hf.some
    obtain ⟨dst, op, ty, pos, after, guard⟩ := o
    simp only at ho
    subst ho
    unfold Oper.wp
    rw [run_call hc.1 h1]
    refine Calls.mono (hc.2 w F1 _ (hargs.mono hF1 (fun _ _ => rfl)) g3.frzlt) fun e w' he => ?_
    obtain ⟨v, res, F', O, rfl, hR, hext, q1, q2, q3, q4, q5, q6⟩ := he
    obtain ⟨hflat, ht, hK⟩ := k res hR
    have hI' := h.called hext (F' := F) (fun _ h => h) (fun _ h => .inl h) (fun b hb => Nat.lt_of_lt_of_le (h.frzlt b hb) hext.size)
    obtain ⟨ρ', k1, k2⟩ := impT_sound hI' (hflat w' F' F v O q4) (freeNew h fun b hb => ⟨(q6 b hb).1, fun hF => by have := h.frzlt b hF; have := (q6 b hb).2.2; omega, (q6 b hb).2.2⟩) q5 ht (nameO nb _)
    exact hk _ _ v w' F ρ' hK k1 k2
  | @lend g as ts f caps args T M R ho hg he hM hMT hc k =>
    obtain ⟨cv, h1, h2⟩ := callArgs h (as := as) hg
    obtain ⟨F1, O, i1, i2, i3, i4, i5, i6, i7⟩ := lend_call h h2 he hM hMT
    obtain ⟨dst, op, ty, pos, after, guard⟩ := o
    simp only at ho
    subst ho
    unfold Oper.wp
    rw [run_call hc.1 h1]
    refine Calls.mono (hc.2 w F1 _ O i2 i3 i1.frzlt i4) fun e w' he' => ?_
    obtain ⟨v, res, q, F', O1, O2, rfl, hR, hext, q1, q2, q3, q4, -, q6, q7, q8⟩ := he'
    have hO2 := q6 rfl
    subst hO2
    rw [List.append_nil] at q7 q8
    obtain ⟨ht, hK⟩ := k res q hR
    have hout : ∀ n, n ∉ M → effM (effM st.m (markE st.m T)) (lendE (effM st.m (markE st.m T)) [] M) n = (effM st.m (markE st.m T)) n := fun n hn => effM_notin hn
    have hin : ∀ n ∈ M, effM (effM st.m (markE st.m T)) (lendE (effM st.m (markE st.m T)) [] M) n = some ⟨genAt (effM st.m (markE st.m T)) n, false, .slc, 0, []⟩ := fun n hn => (effM_isin hM hn).trans rfl
    have hI' := i1.exchange (m2 := effM (effM st.m (markE st.m T)) (lendE (effM st.m (markE st.m T)) [] M)) (ρ2 := fun n => if n ∈ M then none else ρ n) i6 i5 hext q1 q2 q3
      (fun n hn => ⟨hout n hn, if_neg hn⟩) fun n hn x hx => ⟨_, hin n hn, rfl, .inl ⟨by simp only [genAt]; rw [show effM st.m (markE st.m T) n = some x from hx]; simp, if_pos hn, rfl, rfl⟩⟩
    have hfree : FreeB X ⟨st.ts, effM (effM st.m (markE st.m T)) (lendE (effM st.m (markE st.m T)) [] M)⟩ w' F' (fun n => if n ∈ M then none else ρ n) O1 := fun b hb => by
      obtain ⟨p1, p2, p3⟩ := q8 b hb
      refine ⟨p1, p2, ?_, fun n x l hx hxf hl heq => ?_⟩
      · rcases p3 with p3 | p3
        · obtain ⟨n, hn, lc, e1, rfl⟩ := i5 b p3
          obtain ⟨x, hx, hxf⟩ := i6 n hn
          exact ((i1.place n x lc hx e1).2.2 hxf).2
        · exact .inr (Nat.le_trans h.ext.size p3)
      · by_cases hn : n ∈ M
        · simp only [if_pos hn] at hl
          cases hl
        · simp only [if_neg hn] at hl
          have hx' : (effM st.m (markE st.m T)) n = some x := (hout n hn).symm.trans hx
          have hlt := (i1.place n x l hx' hl).1
          rcases p3 with p3 | p3
          · obtain ⟨n', hn', lc, e1, e2⟩ := i5 b p3
            obtain ⟨y, hy, hyf⟩ := i6 n' hn'
            exact hn (i1.inj n n' x y l lc hx' hy hxf hyf hl e1 (heq.trans e2.symm) ▸ hn')
          · omega
    obtain ⟨ρ', k1, k2⟩ := impT_sound hI' q4 hfree q7 ht (nameO nb _)
    exact hk _ _ v w' F' ρ' hK k1 k2
  | @lend1 g as ts f caps args T M j u R ho hg he hM hMT hc hu k =>
    obtain ⟨cv, h1, h2⟩ := callArgs h (as := as) hg
    obtain ⟨F1, O, i1, i2, i3, i4, i5, i6, i7⟩ := lend_call h h2 he hM hMT
    obtain ⟨dst, op, ty, pos, after, guard⟩ := o
    simp only at ho
    subst ho
    unfold Oper.wp
    rw [run_call hc.1 h1]
    refine Calls.mono (hc.2 w F1 _ O i2 i3 i1.frzlt i4) fun e w' he' => ?_
    obtain ⟨v, res, q, F', O1, O2, rfl, hR, hext, q1, q2, q3, q4, q5, -, q7, q8⟩ := he'
    obtain ⟨b, x, ht, hback, hbM, hbD, hK⟩ := k res q hR
    have q5 := q5 j rfl
    obtain ⟨n1, n2, n3⟩ := nodup_append q7
    have hvj : RelL w F1 ρ (effM st.m (markE st.m T)) ((as.map a.eval ++ cv).getD j Go.undef) u := by
      obtain ⟨cs, e1, e2, e3⟩ := i7.cells
      injection e1 with e1
      subst e1
      have hj : j < (as.map a.eval ++ cv).size := by rw [e2]; exact (List.getElem?_eq_some_iff.1 hu).1
      rw [Array.getD_eq_getD_getElem?, Array.getElem?_eq_getElem hj]
      exact e3 j _ u (Array.getElem?_eq_getElem hj) hu
    generalize hm0 : effM st.m (markE st.m T) = m0 at *
    have hout : ∀ n, n ∉ M → effM m0 (lendE m0 [(b, x)] M) n = m0 n := fun n hn => effM_notin hn
    have hinb : effM m0 (lendE m0 [(b, x)] M) b = some x := (effM_isin hM hbM).trans (by rw [findB_one, if_pos rfl])
    have hinn : ∀ n ∈ M, n ≠ b → effM m0 (lendE m0 [(b, x)] M) n = some ⟨genAt m0 n, false, .slc, 0, []⟩ := fun n hn hne => (effM_isin hM hn).trans (by rw [findB_one, if_neg (Ne.symm hne)])
    have hdead : ∀ n y, m0 n = some y → y.gen < (⟨genAt m0 n, false, .slc, 0, []⟩ : Box).gen := fun n y hy => by simp only [genAt]; rw [hy]; simp
    have hOpl : ∀ b' ∈ O1 ++ O2, b' ∈ X.O0 ∨ X.w0.heap.size ≤ b' := fun b' hb' => by
      rcases (q8 b' hb').2.2 with p3 | p3
      · obtain ⟨n, hn, lc, e1, rfl⟩ := i5 b' p3
        obtain ⟨z, hz, hzf⟩ := i6 n hn
        exact ((i1.place n z lc hz e1).2.2 hzf).2
      · exact .inr (Nat.le_trans h.ext.size p3)
    have hcol : ∀ b' ∈ O1 ++ O2, ∀ n z l, n ∉ M → m0 n = some z → z.frz = false → ρ n = some l → l.blk ≠ b' := fun b' hb' n z l hn hz hzf hl heq => by
      have hlt := (i1.place n z l hz hl).1
      rcases (q8 b' hb').2.2 with p3 | p3
      · obtain ⟨n', hn', lc, e1, e2⟩ := i5 b' p3
        obtain ⟨y, hy, hyf⟩ := i6 n' hn'
        exact hn (i1.inj n n' z y l lc hz hy hzf hyf hl e1 (heq.trans e2.symm) ▸ hn')
      · omega
    have hk1 := hK _ _ rfl rfl
    generalize nameO nb _ = D at hk1
    cases hback with
    | @slc _ g len sz y es hm hg hkk hl h0 hs he' =>
      subst hs
      obtain ⟨-, hle, hh⟩ := hvj.toOwn hm hg
      obtain ⟨lc, hlc, hb2, hO2⟩ : ∃ lc, ρ b = some lc ∧ CellsOK w' F' (dropR ρ M b) (effM m0 (lendE m0 [(b, ⟨g, false, .slc, y.sz, es⟩)] M)) (some lc) ⟨g, false, .slc, y.sz, es⟩ ∧ O2 = [lc.blk] := by
        cases hr : ρ b with
        | none =>
          rw [hr] at hh
          obtain ⟨a0, hh⟩ := hh
          rw [hh] at q5
          cases q5 with
          | frz hf => cases hf
          | slo0 => simp at he'; omega
          | slo e1 => omega
        | some lc =>
          rw [hr] at hh
          obtain ⟨ao, cap', hv1, ha, hcl, hcap⟩ := hh
          simp only at hcap
          have ha := ha (by omega)
          subst ha
          rw [hv1] at q5
          cases q5 with
          | frz hf => cases hf
          | slo0 => simp at he'; omega
          | @slo blk off len' cap _ _ cs t e1 e2 e3 e4 e5 e6 =>
            refine ⟨lc, rfl, ⟨cs, t, e3, ?_, ?_, e5, fun i e c q' hi hq => ?_⟩, rfl⟩
            · simp only [Nat.zero_mul, Nat.add_zero] at e4 ⊢
              rw [← hcap, Nat.zero_add]
              exact e4
            · show es.length ≤ lc.ext
              omega
            · obtain ⟨v', hv', hr'⟩ := e6 i e c q' hi hq
              exact ⟨v', by simpa using hv', hr'⟩
      have hI' := i1.exchange (m2 := effM m0 (lendE m0 [(b, ⟨g, false, .slc, y.sz, es⟩)] M)) (ρ2 := dropR ρ M b) i6 i5 hext q1 q2 q3
        (fun n hn => ⟨hout n hn, dropR_out hn⟩) fun n hn z hz => by
          by_cases hnb : n = b
          · subst hnb
            have hz' : m0 n = some z := hz
            rw [hm] at hz'
            injection hz' with hz'
            subst hz'
            refine ⟨_, hinb, rfl, .inr ⟨hg.symm, dropR_b, rfl, he'.trans hl, hkk.symm, fun _ => BoxOK.of_cells (by simp) (by rw [dropR_b, hlc]; exact hb2), fun l hl' hF' => ?_⟩⟩
            rw [hlc] at hl'
            injection hl' with hl'
            subst hl'
            exact (q8 lc.blk (by rw [hO2]; simp)).2.1 hF'
          · exact ⟨_, hinn n hn hnb, rfl, .inl ⟨hdead n z hz, dropR_in hn hnb, rfl, rfl⟩⟩
      have hfree : FreeB X ⟨st.ts, effM m0 (lendE m0 [(b, ⟨g, false, .slc, y.sz, es⟩)] M)⟩ w' F' (dropR ρ M b) O1 := fun b' hb' => by
        obtain ⟨p1, p2, p3⟩ := q8 b' (List.mem_append_left _ hb')
        refine ⟨p1, p2, hOpl b' (List.mem_append_left _ hb'), fun n z l hz hzf hl heq => ?_⟩
        by_cases hn : n ∈ M
        · by_cases hnb : n = b
          · subst hnb
            rw [dropR_b, hlc] at hl
            injection hl with hl
            subst hl
            exact n3 b' hb' (by rw [hO2, ← heq]; simp)
          · rw [dropR_in hn hnb] at hl
            cases hl
        · rw [dropR_out hn] at hl
          exact hcol b' (List.mem_append_left _ hb') n z l hn ((hout n hn).symm.trans hz) hzf hl heq
      obtain ⟨ρ', k1, k2⟩ := impT_sound hI' q4 hfree n1 ht D
      exact hk _ _ v w' F' ρ' hk1 k1 k2
    | @var _ g y cs hm hg hkk hl hs hcc =>
      obtain ⟨-, lc, hlc, hv1⟩ := hvj.toRef hm hg
      have hext1 := (i1.boxes b y hm).ext hkk lc hlc
      rw [hv1] at q5
      have hnf : ∀ v, ¬ RelF w' F' v (.ptro cs) := fun v h => by cases h
      cases q5 with
      | frz hf => exact absurd hf (hnf _)
      | @ptro blk off cs0 t _ O' hb hf hr =>
      have e0 : lc.base + (0 * y.sz + 0) = lc.base := by simp
      simp only [e0] at hf hr hv1
      have hI' := i1.exchange (m2 := effM m0 (lendE m0 [(b, ⟨g, false, .var, cs.length, [cs.map fun _ => .undef]⟩)] M)) (ρ2 := dropR ρ M b) i6 i5 hext q1 q2 q3
        (fun n hn => ⟨hout n hn, dropR_out hn⟩) fun n hn z hz => by
          by_cases hnb : n = b
          · subst hnb
            have hz' : m0 n = some z := hz
            rw [hm] at hz'
            injection hz' with hz'
            subst hz'
            refine ⟨_, hinb, rfl, .inr ⟨hg.symm, dropR_b, hs, by rw [hl]; rfl, hkk.symm, fun _ => BoxOK.of_cells (by simp) (by
              rw [dropR_b, hlc]
              refine ⟨cs0, t, hb, by rw [hext1]; simpa using hf, by rw [hext1]; simp, by simp, fun i e c q' hi hq => ?_⟩
              have hi0 : i = 0 := by have := (List.getElem?_eq_some_iff.1 hi).1; simp at this; omega
              subst hi0
              simp only [List.getElem?_cons_zero, Option.some.injEq] at hi
              subst hi
              have hc : c < cs.length := by have := (List.getElem?_eq_some_iff.1 hq).1; simpa using this
              rw [List.getElem?_map, List.getElem?_eq_getElem hc] at hq
              simp only [Option.map_some, Option.some.injEq] at hq
              subst hq
              exact ⟨cs0[lc.base + c]'(by omega), by simp only [Nat.zero_mul, Nat.zero_add]; exact Array.getElem?_eq_getElem _, .frz (.undef _)⟩)
              fun _ l hl' => by
                rw [dropR_b, hlc] at hl'
                injection hl' with hl'
                subst hl'
                exact hext1, fun l hl' hF' => ?_⟩⟩
            rw [hlc] at hl'
            injection hl' with hl'
            subst hl'
            exact (q8 lc.blk (by simp)).2.1 hF'
          · exact ⟨_, hinn n hn hnb, rfl, .inl ⟨hdead n z hz, dropR_in hn hnb, rfl, rfl⟩⟩
      obtain ⟨nb1, nb2⟩ := List.nodup_cons.1 n2
      have hfree : ∀ O3, (∀ b' ∈ O3, b' ∈ O1 ++ (lc.blk :: O') ∧ b' ≠ lc.blk) → FreeB X ⟨st.ts, effM m0 (lendE m0 [(b, ⟨g, false, .var, cs.length, [cs.map fun _ => .undef]⟩)] M)⟩ w' F' (dropR ρ M b) O3 := fun O3 hO3 b' hb' => by
        obtain ⟨hin3, hne3⟩ := hO3 b' hb'
        obtain ⟨p1, p2, p3⟩ := q8 b' hin3
        refine ⟨p1, p2, hOpl b' hin3, fun n z l hz hzf hl heq => ?_⟩
        by_cases hn : n ∈ M
        · by_cases hnb : n = b
          · subst hnb
            rw [dropR_b, hlc] at hl
            injection hl with hl
            subst hl
            exact hne3 heq.symm
          · rw [dropR_in hn hnb] at hl
            cases hl
        · rw [dropR_out hn] at hl
          exact hcol b' hin3 n z l hn ((hout n hn).symm.trans hz) hzf hl heq
      obtain ⟨ρ1, k1, k2, k3⟩ := impCs_sound cs hI' (us := (cs0.extract lc.base (lc.base + cs.length)).toList) hr (hfree O' fun b' hb' => ⟨List.mem_append_right _ (List.mem_cons_of_mem _ hb'), fun e => nb1 (e ▸ hb')⟩) nb2 hcc (farD D)
      have hsame := k3.same b (.inl (Nat.lt_of_lt_of_le hbD (Nat.le_add_right _ _)))
      have hb1 := hsame.trans hinb
      have hρb : ρ1 b = some lc := by
        obtain ⟨x', e1, e2⟩ := k3.compat b _ hinb
        rw [hb1] at e1
        injection e1 with e1
        subst e1
        rcases e2 with ⟨-, e2, -⟩ | e2
        · rw [e2, dropR_b]; exact hlc
        · omega
      obtain ⟨vs', g1, g2, g3⟩ := k2.cells
      have hlen : (impCs (effM m0 (lendE m0 [(b, ⟨g, false, .var, cs.length, [cs.map fun _ => .undef]⟩)] M)) (farD D) cs).1.length = cs.length := by
        injection g1 with g1
        rw [← g2, ← g1]
        simp
        omega
      obtain ⟨t1, t2⟩ := k1.tell (n := b) (x' := ⟨g, false, .var, cs.length, [(impCs (effM m0 (lendE m0 [(b, ⟨g, false, .var, cs.length, [cs.map fun _ => .undef]⟩)] M)) (farD D) cs).1]⟩) hb1 rfl rfl rfl rfl rfl rfl
        fun hcm => BoxOK.of_cells (by simp) (by
          rw [hρb]
          refine ⟨cs0, t, hb, by rw [hext1]; simpa using hf, by rw [hext1]; simp, by simpa using hlen, fun i e c q' hi hq => ?_⟩
          have hi0 : i = 0 := by have := (List.getElem?_eq_some_iff.1 hi).1; simp at this; omega
          subst hi0
          simp only [List.getElem?_cons_zero, Option.some.injEq] at hi
          subst hi
          have hcl : c < cs.length := by have := (List.getElem?_eq_some_iff.1 hq).1; omega
          have hcx : (cs0.extract lc.base (lc.base + cs.length))[c]? = some (cs0[lc.base + c]'(by omega)) := by
            rw [Array.getElem?_extract, if_pos (by omega)]
            exact Array.getElem?_eq_getElem _
          refine ⟨cs0[lc.base + c]'(by omega), by simp only [Nat.zero_mul, Nat.zero_add]; exact Array.getElem?_eq_getElem _, ?_⟩
          injection g1 with g1
          have hg : vs'[c]? = some (cs0[lc.base + c]'(by omega)) := by rw [← hcx, ← g1]
          exact (g3 c _ q' hg hq).mono (fun _ h => h) (fun _ _ => rfl) hcm) fun _ l hl' => by
            rw [hρb] at hl'
            injection hl' with hl'
            subst hl'
            exact hext1
      have hfree1 : FreeB X ⟨st.ts, updM (effM (effM m0 (lendE m0 [(b, ⟨g, false, .var, cs.length, [cs.map fun _ => .undef]⟩)] M)) (impCs (effM m0 (lendE m0 [(b, ⟨g, false, .var, cs.length, [cs.map fun _ => .undef]⟩)] M)) (farD D) cs).2.1) b
          ⟨g, false, .var, cs.length, [(impCs (effM m0 (lendE m0 [(b, ⟨g, false, .var, cs.length, [cs.map fun _ => .undef]⟩)] M)) (farD D) cs).1]⟩⟩ w' F' ρ1 O1 := fun b' hb' => by
        have hne : b' ≠ lc.blk := fun e => n3 b' hb' (by rw [e]; simp)
        obtain ⟨p1, p2, p3, p4⟩ := hfree O1 (fun b' hb' => ⟨List.mem_append_left _ hb', fun e => n3 b' hb' (by rw [e]; simp)⟩) b' hb'
        refine ⟨p1, p2, p3, fun n z l hz hzf hl heq => ?_⟩
        by_cases hnb : n = b
        · subst hnb
          rw [hρb] at hl
          injection hl with hl
          subst hl
          exact hne heq.symm
        · have hz := (updM_ne _ _ (Ne.symm hnb)).symm.trans hz
          rcases k3.own n z l hz hzf hl with ⟨e1, e2⟩ | e1
          · exact p4 n z l e1 hzf e2 heq
          · exact n3 b' hb' (by rw [← heq]; exact List.mem_cons_of_mem _ e1)
      obtain ⟨ρ', z1, z2⟩ := impT_sound t1 q4 hfree1 n1 ht D
      simp only [fill1, effM_append, effM] at hk1
      exact hk _ _ v w' F' ρ' hk1 z1 z2
  | @inl g as ts f caps nb' ho hg k =>
    obtain ⟨cv, h1, h2⟩ := callArgs h (as := as) hg
    obtain ⟨hok, hcall⟩ := hI _ _ _ _ _ k
    obtain ⟨dst, op, ty, pos, after, guard⟩ := o
    simp only at ho
    subst ho
    unfold Oper.wp
    rw [run_call hok h1]
    refine Calls.mono (hcall X a w F ρ st.ts h _ h2) fun e w' he => ?_
    obtain ⟨v, r, m', F', ρ', rfl, hR, hI', hv⟩ := he
    exact hk _ _ v w' F' ρ' hR hI' hv

theorem wanted_sound (h : Inv X st a w F ρ) {ops : Array Oper} {o : Oper} {b : Bool} (hw : wantedL ops o st.ts = some b) : Region.wanted o (yielded ops a.tmps) = b := by
  unfold wantedL at hw
  unfold Region.wanted
  cases hg : o.guard with
  | none =>
    rw [hg] at hw
    cases hw
    rfl
  | some jw =>
    obtain ⟨j, want⟩ := jw
    rw [hg] at hw
    simp only at hw ⊢
    cases hd : (ops[j]?).bind (·.dst) with
    | none => rw [hd] at hw; cases hw
    | some t =>
      rw [hd] at hw
      simp only at hw
      unfold yielded
      rw [hd]
      have hs := h.slots t
      split at hw
      · rename_i b' hb'
        injection hw with hw
        subst hw
        rw [hb'] at hs
        have hv := hs.bool
        rw [Array.getD_eq_getD_getElem?] at hv
        cases hq : a.tmps[t]? with
        | none => rw [hq] at hv; cases hv
        | some u =>
          rw [hq] at hv
          simp only [Option.getD_some] at hv
          subst hv
          simp [hq]
      · rename_i hb'
        injection hw with hw
        subst hw
        rw [hb'] at hs
        have hv := hs.skip
        rw [Array.getD_eq_getD_getElem?] at hv
        cases hq : a.tmps[t]? with
        | none => simp [hq]
        | some u =>
          rw [hq] at hv
          simp only [Option.getD_some] at hv
          subst hv
          simp [hq, Go.undef]
      · cases hw

theorem WpOps.sound {I : InlP} (hI : InlS P I) {nb n : Nat} {ops : Array Oper} (hd : ∀ (i : Nat) o, ops[i]? = some o → dstOK n o = true) {Q : Ex → St → Prop} : ∀ (l : List Nat) {st : St} {a : Act} {w : World} {F : Nat → Prop} {ρ : Locs},
    WpOps P I nb ops (Q .normal) l st → Inv X st a w F ρ → a.tmps.size = n → wpOps P ops (Post X n Q) l a w := by
  intro l
  induction l with
  | nil => intro st a w F ρ hw h hn; exact ⟨.normal, st, F, ρ, rfl, hw, h, hn⟩
  | cons i r ih =>
    intro st a w F ρ hw h hn
    simp only [wpOps, WpOps] at hw ⊢
    cases ho : ops[i]? with
    | none =>
      rw [ho] at hw
      exact ih hw h hn
    | some o =>
      rw [ho] at hw
      simp only at hw ⊢
      have hdo := hd i o ho
      have hdst : ∀ i, o.dst = some i → i < a.tmps.size := by
        intro i hi
        unfold dstOK at hdo
        rw [hi] at hdo
        rw [hn]
        exact of_decide_eq_true hdo
      have hsz : ∀ v, (a.put o.dst v).tmps.size = n := by
        intro v
        cases o.dst <;> simp [Act.put, hn]
      cases hwt : wantedL ops o st.ts with
      | none => rw [hwt] at hw; cases hw
      | some b =>
        rw [hwt] at hw
        rw [wanted_sound h hwt]
        cases b with
        | true =>
          simp only [if_true]
          refine .inl (WpOp.sound hI hw h fun v m val w' F' ρ' hK hI' hv => ?_)
          exact ih hK (hI'.put hdst hv) (hsz _)
        | false =>
          simp only [Bool.false_eq_true, if_false]
          exact ih hw (h.put hdst (.frz .skip)) (hsz _)
end
end Go.Proofs.Ytffnlhjdlhpmjaa.Mv

/- What an operation looks at: its operands and some boxes, and nothing else. -/
set_option linter.unusedVariables false
set_option linter.unusedSimpArgs false
namespace Go.Proofs.Ytffnlhjdlhpmjaa.Mv

def Wn (e : List (Nat × Box)) : List Nat := e.map (·.1)
theorem updM_at {f g : Mem} {b n : Nat} {x : Box} (h : f n = g n) : updM f b x n = updM g b x n := by
  unfold updM
  rw [h]
theorem effM_at : ∀ (e : List (Nat × Box)) {f g : Mem} {n : Nat}, f n = g n → effM f e n = effM g e n
  | [], _, _, _, h => h
  | (_, _) :: r, _, _, _, h => effM_at r (updM_at h)
theorem effM_in : ∀ (e : List (Nat × Box)) {f g : Mem} {n : Nat}, n ∈ Wn e → effM f e n = effM g e n
  | [], _, _, _, h => by cases h
  | (b, x) :: r, f, g, n, h => by
    by_cases hb : b = n
    · subst hb
      exact effM_at r (by rw [updM_same, updM_same])
    · refine effM_in r (f := updM f b x) (g := updM g b x) ?_
      rcases List.mem_cons.1 h with h | h
      · exact absurd h.symm hb
      · exact h
theorem effM_out : ∀ (e : List (Nat × Box)) {f : Mem} {n : Nat}, n ∉ Wn e → effM f e n = f n
  | [], _, _, _ => rfl
  | (b, x) :: r, f, n, h => by
    have hb : b ≠ n := fun hb => h (by simp [Wn, hb])
    exact (effM_out r fun hr => h (List.mem_cons_of_mem _ hr)).trans (updM_ne _ _ hb)

theorem markE_congr {m m' : Mem} : ∀ {T : List Nat}, (∀ n ∈ T, m n = m' n) → markE m T = markE m' T
  | [], _ => rfl
  | b :: r, h => by
    have h1 := h b (by simp)
    have h2 := markE_congr (m := m) (m' := m') (T := r) fun n hn => h n (List.mem_cons_of_mem _ hn)
    simp only [markE, h1, h2]
theorem markE_names {m : Mem} : ∀ {T : List Nat}, ∀ n ∈ Wn (markE m T), n ∈ T
  | [], n, h => h
  | b :: r, n, h => by
    simp only [markE] at h
    split at h
    · rcases List.mem_cons.1 h with h | h
      · exact List.mem_cons.2 (.inl h)
      · exact List.mem_cons_of_mem _ (markE_names n h)
    · exact List.mem_cons_of_mem _ (markE_names n h)

theorem Frz.loc {m m' : Mem} {v v' : LV} {T : List Nat} (h : Frz m v v' T) : (∀ n ∈ T, m n = m' n) → Frz m' v v' T := by
  induction h with
  | pure h => exact fun _ => .pure h
  | nils => exact fun _ => .nils
  | nilm => exact fun _ => .nilm
  | nilmE => exact fun _ => .nilmE
  | own hm hg hk hl => exact fun h => .own (by rw [← h _ (by simp)]; exact hm) hg hk hl
  | mref hm hg hk hn => exact fun h => .mref (by rw [← h _ (by simp)]; exact hm) hg hk hn
  | ref hm hg hk he hc ih => exact fun h => .ref (by rw [← h _ (by simp)]; exact hm) hg hk he (ih fun n hn => h n (List.mem_cons_of_mem _ hn))
  | aggn => exact fun _ => .aggn
  | aggc h hs ih1 ih2 => exact fun h => .aggc (ih1 fun n hn => h n (List.mem_append_left _ hn)) (ih2 fun n hn => h n (List.mem_append_right _ hn))
  | fn h ih => exact fun h => .fn (ih h)
theorem FrzP.loc {m m' : Mem} {sz n : Nat} {ρ ρ' : Operand → LV} {ps : List (Nat × Operand)} {ps' : List (Nat × List LV)} {T : List Nat} (h : FrzP m sz n ρ ps ps' T) :
    (∀ p ∈ ps, ρ p.2 = ρ' p.2) → (∀ n ∈ T, m n = m' n) → FrzP m' sz n ρ' ps ps' T := by
  induction h with
  | nil => exact fun _ _ => .nil
  | cons h h1 hi hl hr ih =>
    intro hρ hm
    refine .cons ?_ h1 hi hl (ih (fun p hp => hρ p (List.mem_cons_of_mem _ hp)) fun n hn => hm n (List.mem_append_right _ hn))
    rw [← hρ _ (List.mem_cons_self ..)]
    exact h.loc fun n hn => hm n (List.mem_append_left _ hn)
theorem SrcR.loc {m m' : Mem} {v : LV} {sz : Nat} {es : List (List LV)} {R : List Nat} (h : SrcR m v sz es R) (hm : ∀ n ∈ R, m n = m' n) : SrcR m' v sz es R := by
  cases h with
  | own h1 hg hk hl => exact .own (by rw [← hm _ (by simp)]; exact h1) hg hk hl
  | sl h => exact .sl h
  | nils => exact .nils
theorem LiveS.loc {m m' : Mem} {v : LV} {R : List Nat} (h : LiveS m v R) (hm : ∀ n ∈ R, m n = m' n) : LiveS m' v R := by
  cases h with
  | own h1 hg => exact .own (by rw [← hm _ (by simp)]; exact h1) hg
  | nils => exact .nils
  | sl => exact .sl
  | str => exact .str
theorem bndL_congr {ρ ρ' : Operand → LV} {d : Nat} {x : Option Operand} (h : ∀ y, x = some y → ρ y = ρ' y) : bndL ρ d x = bndL ρ' d x := by
  cases x with
  | none => rfl
  | some y => simp only [bndL, h y rfl]

theorem OpR.loc {P : Program} {d : Nat} {ρ ρ' : Operand → LV} {m m' : Mem} {op : Op} {v : LV} {eff : List (Nat × Box)} {R : List Nat} (h : OpR P d ρ m op v eff R)
    (hρ : ∀ x ∈ op.operands, ρ x = ρ' x) (hm : ∀ n ∈ R, m n = m' n) : OpR P d ρ' m' op v eff R := by
  cases h
  case move =>
    try simp [Op.operands, Call.operands] at hρ
    try simp at hm
    try simp only [hρ]
    try simp only [hm, genAt]
    apply OpR.move <;> first | assumption | (simp only [← hρ, ← hm]; assumption) | (simp only [← hρ]; assumption) | (simp only [← hm]; assumption)
  case assign =>
    try simp [Op.operands, Call.operands] at hρ
    try simp at hm
    try simp only [hρ]
    try simp only [hm, genAt]
    apply OpR.assign <;> first | assumption | (simp only [← hρ, ← hm]; assumption) | (simp only [← hρ]; assumption) | (simp only [← hm]; assumption)
  case pick =>
    try simp [Op.operands, Call.operands] at hρ
    try simp at hm
    try simp only [hρ]
    try simp only [hm, genAt]
    apply OpR.pick <;> first | assumption | (simp only [← hρ, ← hm]; assumption) | (simp only [← hρ]; assumption) | (simp only [← hm]; assumption)
  case alloc =>
    try simp [Op.operands, Call.operands] at hρ
    try simp at hm
    try simp only [hρ]
    try simp only [hm, genAt]
    apply OpR.alloc <;> first | assumption | (simp only [← hρ, ← hm]; assumption) | (simp only [← hρ]; assumption) | (simp only [← hm]; assumption)
  case box =>
    try simp [Op.operands, Call.operands] at hρ
    try simp at hm
    try simp only [hρ]
    try simp only [hm, genAt]
    apply OpR.box <;> first | assumption | (simp only [← hρ, ← hm]; assumption) | (simp only [← hρ]; assumption) | (simp only [← hm]; assumption)
  case build t ps hp h =>
    have e : ∀ p ∈ ps.toList, ρ p.2 = ρ' p.2 := fun p hp => hρ p.2 (by simp only [Op.operands]; simp; exact ⟨p.1, by simpa using hp⟩)
    refine .build ?_ ?_
    · rw [← h]
      congr 1
      refine List.map_congr_left fun p hp => ?_
      simp only [e p hp]
    · rw [List.all_eq_true] at hp ⊢
      intro p hp'
      rw [← e p hp']
      exact hp p hp'
  case buildSlice t e n ps z ps' T ht hz hs hn hb hn0 hp =>
    have e : ∀ p ∈ ps.toList, ρ p.2 = ρ' p.2 := fun p hp => hρ p.2 (by simp only [Op.operands]; simp; exact ⟨p.1, by simpa using hp⟩)
    rw [markE_congr fun n hn => hm n (List.mem_cons_of_mem _ hn), show genAt m d = genAt m' d by simp only [genAt, hm d (List.mem_cons_self ..)]]
    exact .buildSlice ht hz hs hn hb hn0 (hp.loc e fun n hn => hm n (List.mem_cons_of_mem _ hn))
  case buildSlice00 =>
    try simp [Op.operands, Call.operands] at hρ
    try simp at hm
    try simp only [hρ]
    try simp only [hm, genAt]
    apply OpR.buildSlice00 <;> first | assumption | (simp only [← hρ, ← hm]; assumption) | (simp only [← hρ]; assumption) | (simp only [← hm]; assumption)
  case load =>
    try simp [Op.operands, Call.operands] at hρ
    try simp at hm
    try simp only [hρ]
    try simp only [hm, genAt]
    apply OpR.load <;> first | assumption | (simp only [← hρ, ← hm]; assumption) | (simp only [← hρ]; assumption) | (simp only [← hm]; assumption)
  case loadA =>
    try simp [Op.operands, Call.operands] at hρ
    try simp at hm
    try simp only [hρ]
    try simp only [hm, genAt]
    apply OpR.loadA <;> first | assumption | (simp only [← hρ, ← hm]; assumption) | (simp only [← hρ]; assumption) | (simp only [← hm]; assumption)
  case loadF =>
    try simp [Op.operands, Call.operands] at hρ
    try simp at hm
    try simp only [hρ]
    try simp only [hm, genAt]
    apply OpR.loadF <;> first | assumption | (simp only [← hρ, ← hm]; assumption) | (simp only [← hρ]; assumption) | (simp only [← hm]; assumption)
  case loadFA =>
    try simp [Op.operands, Call.operands] at hρ
    try simp at hm
    try simp only [hρ]
    try simp only [hm, genAt]
    apply OpR.loadFA <;> first | assumption | (simp only [← hρ, ← hm]; assumption) | (simp only [← hρ]; assumption) | (simp only [← hm]; assumption)
  case store =>
    try simp [Op.operands, Call.operands] at hρ
    try simp at hm
    try simp only [hρ]
    try simp only [hm, genAt]
    apply OpR.store <;> first | assumption | (simp only [← hρ, ← hm]; assumption) | (simp only [← hρ]; assumption) | (simp only [← hm]; assumption)
  case storeP t a y b g i c n x cs vs T ha hmb hg hf hk he hs hy hb hl h1 hc =>
    rw [markE_congr fun n hn => hm n (List.mem_cons_of_mem _ hn)]
    exact .storeP (by rw [← hρ _ (by simp [Op.operands])]; exact ha) (by rw [← hm _ (by simp)]; exact hmb) hg hf hk he hs (by rw [← hρ y (by simp [Op.operands])]; exact hy.loc fun n hn => hm n (List.mem_cons_of_mem _ hn)) hb hl h1 hc
  case nilCheck =>
    try simp [Op.operands, Call.operands] at hρ
    try simp at hm
    try simp only [hρ]
    try simp only [hm, genAt]
    apply OpR.nilCheck <;> first | assumption | (simp only [← hρ, ← hm]; assumption) | (simp only [← hρ]; assumption) | (simp only [← hm]; assumption)
  case nilCheckR =>
    try simp [Op.operands, Call.operands] at hρ
    try simp at hm
    try simp only [hρ]
    try simp only [hm, genAt]
    apply OpR.nilCheckR <;> first | assumption | (simp only [← hρ, ← hm]; assumption) | (simp only [← hρ]; assumption) | (simp only [← hm]; assumption)
  case nilEq =>
    try simp [Op.operands, Call.operands] at hρ
    try simp at hm
    try simp only [hρ]
    try simp only [hm, genAt]
    apply OpR.nilEq <;> first | assumption | (simp only [← hρ, ← hm]; assumption) | (simp only [← hρ]; assumption) | (simp only [← hm]; assumption)
  case nilNe =>
    try simp [Op.operands, Call.operands] at hρ
    try simp at hm
    try simp only [hρ]
    try simp only [hm, genAt]
    apply OpR.nilNe <;> first | assumption | (simp only [← hρ, ← hm]; assumption) | (simp only [← hρ]; assumption) | (simp only [← hm]; assumption)
  case nilCheckF =>
    try simp [Op.operands, Call.operands] at hρ
    try simp at hm
    try simp only [hρ]
    try simp only [hm, genAt]
    apply OpR.nilCheckF <;> first | assumption | (simp only [← hρ, ← hm]; assumption) | (simp only [← hρ]; assumption) | (simp only [← hm]; assumption)
  case bin =>
    try simp [Op.operands, Call.operands] at hρ
    try simp at hm
    try simp only [hρ]
    try simp only [hm, genAt]
    apply OpR.bin <;> first | assumption | (simp only [← hρ, ← hm]; assumption) | (simp only [← hρ]; assumption) | (simp only [← hm]; assumption)
  case un =>
    try simp [Op.operands, Call.operands] at hρ
    try simp at hm
    try simp only [hρ]
    try simp only [hm, genAt]
    apply OpR.un <;> first | assumption | (simp only [← hρ, ← hm]; assumption) | (simp only [← hρ]; assumption) | (simp only [← hm]; assumption)
  case conv =>
    try simp [Op.operands, Call.operands] at hρ
    try simp at hm
    try simp only [hρ]
    try simp only [hm, genAt]
    apply OpR.conv <;> first | assumption | (simp only [← hρ, ← hm]; assumption) | (simp only [← hρ]; assumption) | (simp only [← hm]; assumption)
  case fieldAddr =>
    try simp [Op.operands, Call.operands] at hρ
    try simp at hm
    try simp only [hρ]
    try simp only [hm, genAt]
    apply OpR.fieldAddr <;> first | assumption | (simp only [← hρ, ← hm]; assumption) | (simp only [← hρ]; assumption) | (simp only [← hm]; assumption)
  case fieldAddrF =>
    try simp [Op.operands, Call.operands] at hρ
    try simp at hm
    try simp only [hρ]
    try simp only [hm, genAt]
    apply OpR.fieldAddrF <;> first | assumption | (simp only [← hρ, ← hm]; assumption) | (simp only [← hρ]; assumption) | (simp only [← hm]; assumption)
  case indexAddr =>
    try simp [Op.operands, Call.operands] at hρ
    try simp at hm
    try simp only [hρ]
    try simp only [hm, genAt]
    apply OpR.indexAddr <;> first | assumption | (simp only [← hρ, ← hm]; assumption) | (simp only [← hρ]; assumption) | (simp only [← hm]; assumption)
  case indexAddrF =>
    try simp [Op.operands, Call.operands] at hρ
    try simp at hm
    try simp only [hρ]
    try simp only [hm, genAt]
    apply OpR.indexAddrF <;> first | assumption | (simp only [← hρ, ← hm]; assumption) | (simp only [← hρ]; assumption) | (simp only [← hm]; assumption)
  case indexAddrA =>
    try simp [Op.operands, Call.operands] at hρ
    try simp at hm
    try simp only [hρ]
    try simp only [hm, genAt]
    apply OpR.indexAddrA <;> first | assumption | (simp only [← hρ, ← hm]; assumption) | (simp only [← hρ]; assumption) | (simp only [← hm]; assumption)
  case indexAddrFA =>
    try simp [Op.operands, Call.operands] at hρ
    try simp at hm
    try simp only [hρ]
    try simp only [hm, genAt]
    apply OpR.indexAddrFA <;> first | assumption | (simp only [← hρ, ← hm]; assumption) | (simp only [← hρ]; assumption) | (simp only [← hm]; assumption)
  case field =>
    try simp [Op.operands, Call.operands] at hρ
    try simp at hm
    try simp only [hρ]
    try simp only [hm, genAt]
    apply OpR.field <;> first | assumption | (simp only [← hρ, ← hm]; assumption) | (simp only [← hρ]; assumption) | (simp only [← hm]; assumption)
  case fieldA =>
    try simp [Op.operands, Call.operands] at hρ
    try simp at hm
    try simp only [hρ]
    try simp only [hm, genAt]
    apply OpR.fieldA <;> first | assumption | (simp only [← hρ, ← hm]; assumption) | (simp only [← hρ]; assumption) | (simp only [← hm]; assumption)
  case indexS =>
    try simp [Op.operands, Call.operands] at hρ
    try simp at hm
    try simp only [hρ]
    try simp only [hm, genAt]
    apply OpR.indexS <;> first | assumption | (simp only [← hρ, ← hm]; assumption) | (simp only [← hρ]; assumption) | (simp only [← hm]; assumption)
  case slice t e x lo hi b g off len l h cap y hx hmb hg hk ht hs hl hh h1 h2 h3 =>
    have e0 : ρ x = ρ' x := hρ x (by simp [Op.operands])
    have e1 : ∀ d, bndL ρ d lo = bndL ρ' d lo := fun d => bndL_congr fun y hy => hρ y (by simp [Op.operands, hy])
    have e2 : ∀ d, bndL ρ d hi = bndL ρ' d hi := fun d => bndL_congr fun y hy => hρ y (by simp [Op.operands, hy])
    rw [e0] at hx
    rw [e1] at hl
    rw [e2] at hh
    exact .slice hx (by rw [← hm _ (by simp)]; exact hmb) hg hk ht hs hl hh h1 h2 h3
  case slice3 t e x lo hi mx b g off len l h c cap y hx hmb hg hk ht hs hl hhs hh hc h1 h2 h3 h4 =>
    have e0 : ρ x = ρ' x := hρ x (by simp [Op.operands])
    have e1 : ∀ d, bndL ρ d lo = bndL ρ' d lo := fun d => bndL_congr fun y hy => hρ y (by simp [Op.operands, hy])
    have e2 : ∀ d, bndL ρ d hi = bndL ρ' d hi := fun d => bndL_congr fun y hy => hρ y (by simp [Op.operands, hy])
    rw [e0] at hx
    rw [e1] at hl
    rw [e2] at hh
    have e3 : bndL ρ 0 (some mx) = bndL ρ' 0 (some mx) := bndL_congr fun y hy => hρ y (by simp [Op.operands]; injection hy with hy; simp [hy])
    rw [e3] at hc
    exact .slice3 hx (by rw [← hm _ (by simp)]; exact hmb) hg hk ht hs hl hhs hh hc h1 h2 h3 h4
  case sliceF t e x lo hi es l h sz hx ht hs hz hl hh h1 h2 =>
    have e0 : ρ x = ρ' x := hρ x (by simp [Op.operands])
    have e1 : ∀ d, bndL ρ d lo = bndL ρ' d lo := fun d => bndL_congr fun y hy => hρ y (by simp [Op.operands, hy])
    have e2 : ∀ d, bndL ρ d hi = bndL ρ' d hi := fun d => bndL_congr fun y hy => hρ y (by simp [Op.operands, hy])
    rw [e0] at hx
    rw [e1] at hl
    rw [e2] at hh
    exact .sliceF hx ht hs hz hl hh h1 h2
  case sliceN t e x lo hi l h sz hx ht hs hl hh h1 h2 =>
    have e0 : ρ x = ρ' x := hρ x (by simp [Op.operands])
    have e1 : ∀ d, bndL ρ d lo = bndL ρ' d lo := fun d => bndL_congr fun y hy => hρ y (by simp [Op.operands, hy])
    have e2 : ∀ d, bndL ρ d hi = bndL ρ' d hi := fun d => bndL_congr fun y hy => hρ y (by simp [Op.operands, hy])
    rw [e0] at hx
    rw [e1] at hl
    rw [e2] at hh
    exact .sliceN hx ht hs hl hh h1 h2
  case sliceS t x lo hi s l h hx ht hl hh h1 h2 =>
    have e0 : ρ x = ρ' x := hρ x (by simp [Op.operands])
    have e1 : ∀ d, bndL ρ d lo = bndL ρ' d lo := fun d => bndL_congr fun y hy => hρ y (by simp [Op.operands, hy])
    have e2 : ∀ d, bndL ρ d hi = bndL ρ' d hi := fun d => bndL_congr fun y hy => hρ y (by simp [Op.operands, hy])
    rw [e0] at hx
    rw [e1] at hl
    rw [e2] at hh
    exact .sliceS hx ht hl hh h1 h2
  case makeSlice =>
    try simp [Op.operands, Call.operands] at hρ
    try simp at hm
    try simp only [hρ]
    try simp only [hm, genAt]
    apply OpR.makeSlice <;> first | assumption | (simp only [← hρ, ← hm]; assumption) | (simp only [← hρ]; assumption) | (simp only [← hm]; assumption)
  case makeMap =>
    try simp [Op.operands, Call.operands] at hρ
    try simp at hm
    try simp only [hρ]
    try simp only [hm, genAt]
    apply OpR.makeMap <;> first | assumption | (simp only [← hρ, ← hm]; assumption) | (simp only [← hρ]; assumption) | (simp only [← hm]; assumption)
  case lookup =>
    try simp [Op.operands, Call.operands] at hρ
    try simp at hm
    try simp only [hρ]
    try simp only [hm, genAt]
    apply OpR.lookup <;> first | assumption | (simp only [← hρ, ← hm]; assumption) | (simp only [← hρ]; assumption) | (simp only [← hm]; assumption)
  case lookupF =>
    try simp [Op.operands, Call.operands] at hρ
    try simp at hm
    try simp only [hρ]
    try simp only [hm, genAt]
    apply OpR.lookupF <;> first | assumption | (simp only [← hρ, ← hm]; assumption) | (simp only [← hρ]; assumption) | (simp only [← hm]; assumption)
  case mapUpdate t kt et x ix y b g bx r v T hx hmb hg hk hn hf ht hkt h hy hb =>
    rw [markE_congr fun n hn => hm n (List.mem_cons_of_mem _ hn)]
    have e1 : ρ ix = ρ' ix := hρ _ (by simp [Op.operands])
    rw [e1] at hkt h ⊢
    exact .mapUpdate (by rw [← hρ _ (by simp [Op.operands])]; exact hx) (by rw [← hm _ (by simp)]; exact hmb) hg hk hn hf ht hkt h (by rw [← hρ y (by simp [Op.operands])]; exact hy.loc fun n hn => hm n (List.mem_cons_of_mem _ hn)) hb
  case range t kt et x es T ht hx =>
    rw [markE_congr fun n hn => hm n (List.mem_cons_of_mem _ hn), show genAt m d = genAt m' d by simp only [genAt, hm d (List.mem_cons_self ..)]]
    exact .range ht (by rw [← hρ _ (by simp [Op.operands])]; exact hx.loc fun n hn => hm n (List.mem_cons_of_mem _ hn))
  case entry =>
    try simp [Op.operands, Call.operands] at hρ
    try simp at hm
    try simp only [hρ]
    try simp only [hm, genAt]
    apply OpR.entry <;> first | assumption | (simp only [← hρ, ← hm]; assumption) | (simp only [← hρ]; assumption) | (simp only [← hm]; assumption)
  case extract =>
    try simp [Op.operands, Call.operands] at hρ
    try simp at hm
    try simp only [hρ]
    try simp only [hm, genAt]
    apply OpR.extract <;> first | assumption | (simp only [← hρ, ← hm]; assumption) | (simp only [← hρ]; assumption) | (simp only [← hm]; assumption)
  case makeFunc f cap =>
    rw [List.map_congr_left (g := ρ') fun x hx => hρ x (by simpa [Op.operands] using hx)]
    exact .makeFunc
  case len x t n hl ht h =>
    have e0 : ρ x = ρ' x := hρ x (by simp [Op.operands, Call.operands])
    rw [e0] at h hl ht
    exact .len hl (h.loc hm) ht
  case lenMF =>
    try simp [Op.operands, Call.operands] at hρ
    try simp at hm
    try simp only [hρ]
    try simp only [hm, genAt]
    apply OpR.lenMF <;> first | assumption | (simp only [← hρ, ← hm]; assumption) | (simp only [← hρ]; assumption) | (simp only [← hm]; assumption)
  case lenM =>
    try simp [Op.operands, Call.operands] at hρ
    try simp at hm
    try simp only [hρ]
    try simp only [hm, genAt]
    apply OpR.lenM <;> first | assumption | (simp only [← hρ, ← hm]; assumption) | (simp only [← hρ]; assumption) | (simp only [← hm]; assumption)
  case clear =>
    try simp [Op.operands, Call.operands] at hρ
    try simp at hm
    try simp only [hρ]
    try simp only [hm, genAt]
    apply OpR.clear <;> first | assumption | (simp only [← hρ, ← hm]; assumption) | (simp only [← hρ]; assumption) | (simp only [← hm]; assumption)
  case indexAr =>
    try simp [Op.operands, Call.operands] at hρ
    try simp at hm
    try simp only [hρ]
    try simp only [hm, genAt]
    apply OpR.indexAr <;> first | assumption | (simp only [← hρ, ← hm]; assumption) | (simp only [← hρ]; assumption) | (simp only [← hm]; assumption)
  case max x xs ts h =>
    rw [hρ x (by simp [Op.operands, Call.operands]), List.map_congr_left (g := ρ') fun y hy => hρ y (by simp [Op.operands, Call.operands, hy])] at h
    exact .max h
  case min x xs ts h =>
    rw [hρ x (by simp [Op.operands, Call.operands]), List.map_congr_left (g := ρ') fun y hy => hρ y (by simp [Op.operands, Call.operands, hy])] at h
    exact .min h
  case appendN x y t u e es z R hx ht hu hz hs hzl hy h0 hone h1 hb =>
    rw [hρ x (by simp [Op.operands, Call.operands])] at hx
    rw [hρ y (by simp [Op.operands, Call.operands])] at hy
    rw [show genAt m d = genAt m' d by simp only [genAt, hm d (List.mem_cons_self ..)]]
    exact .appendN hx ht hu hz hs hzl (hy.loc fun n hn => hm n (List.mem_cons_of_mem _ hn)) h0 hone h1 hb
  case append0 x y t u e n R S hx hxs ht hu hsz hy hys hlx hly =>
    have e0 : ρ x = ρ' x := hρ x (by simp [Op.operands, Call.operands])
    have e1 : ρ y = ρ' y := hρ y (by simp [Op.operands, Call.operands])
    rw [e0] at hx hxs hlx ⊢
    rw [e1] at hy hys hly
    exact .append0 hx hxs ht hu hsz hy hys (hlx.loc fun n hn => hm n (List.mem_append_left _ hn)) (hly.loc fun n hn => hm n (List.mem_append_right _ hn))
  case append x y t u e b g off len bx es z R hx hmb hg hf hk hend ht hu hz hs hzs hzl hy hyb h0 hone h1 hb =>
    rw [hρ x (by simp [Op.operands, Call.operands])] at hx
    rw [hρ y (by simp [Op.operands, Call.operands])] at hy
    exact .append hx (by rw [← hm _ (by simp)]; exact hmb) hg hf hk hend ht hu hz hs hzs hzl (hy.loc fun n hn => hm n (List.mem_cons_of_mem _ hn)) hyb h0 hone h1 hb
  case appendC x y t u e b g off len c bx es z R hx hmb hg hk hl ht hu hz hs hzs hzl hy h0 hgr h1 hb =>
    rw [hρ x (by simp [Op.operands, Call.operands])] at hx
    rw [hρ y (by simp [Op.operands, Call.operands])] at hy
    rw [show genAt m d = genAt m' d by simp only [genAt, hm d (List.mem_cons_self ..)]]
    exact .appendC hx (by rw [← hm _ (by simp)]; exact hmb) hg hk hl ht hu hz hs hzs hzl (hy.loc fun n hn => hm n (List.mem_cons_of_mem _ (List.mem_cons_of_mem _ hn))) h0 hgr h1 hb
end Go.Proofs.Ytffnlhjdlhpmjaa.Mv

/- Regions whose operations may be done in any order that their edges allow. -/
set_option linter.unusedVariables false
set_option linter.unusedSimpArgs false
namespace Go.Proofs.Ytffnlhjdlhpmjaa.Mv

/-- Writes, but for the marks of what is marked already. -/
def unmark (m : Mem) (e : List (Nat × Box)) : List (Nat × Box) := e.filter fun p => !(p.2.frz && match m p.1 with | some y => y.frz | none => false)
theorem unmark_names {m : Mem} {e : List (Nat × Box)} : ∀ n ∈ Wn (unmark m e), n ∈ Wn e := by
  intro n hn
  obtain ⟨p, hp, rfl⟩ := List.mem_map.1 hn
  exact List.mem_map.2 ⟨p, (List.mem_filter.1 hp).1, rfl⟩
theorem unmark_congr {m m' : Mem} {e : List (Nat × Box)} (h : ∀ n ∈ Wn e, m n = m' n) : unmark m e = unmark m' e := by
  unfold unmark
  refine List.filter_congr fun p hp => ?_
  rw [h p.1 (List.mem_map.2 ⟨p, hp, rfl⟩)]
theorem unmark_append (m : Mem) (e e' : List (Nat × Box)) : unmark m (e ++ e') = unmark m e ++ unmark m e' := List.filter_append ..
theorem unmark_new {m : Mem} {e : List (Nat × Box)} (h : ∀ p ∈ e, p.2.frz = false) : unmark m e = e :=
  List.filter_eq_self.2 fun p hp => by rw [h p hp]; rfl
theorem upd_eq {f : Mem} {b : Nat} {x : Box} (h : f b = some x) : updM f b x = f := by
  funext n
  by_cases hb : b = n
  · subst hb
    rw [updM_same, h]
  · exact updM_ne _ _ hb
theorem effM_unmarkE : ∀ (T : List Nat) {m f : Mem}, (∀ n x, m n = some x → f n = some x ∨ f n = some { x with frz := true }) → effM f (markE m T) = effM f (unmark m (markE m T))
  | [], _, _, _ => rfl
  | b :: r, m, f, h => by
    cases hx : m b with
    | none =>
      simp only [markE, hx]
      exact effM_unmarkE r h
    | some x =>
      simp only [markE, hx, effM]
      cases hf : x.frz with
      | true =>
        have hu : unmark m ((b, { x with frz := true }) :: markE m r) = unmark m (markE m r) := by
          simp [unmark, hx, hf]
        have hxe : ({ x with frz := true } : Box) = x := by cases x; simp at hf; simp [hf]
        have hfb : f b = some { x with frz := true } := by
          rcases h b x hx with h1 | h1
          · rw [h1, hxe]
          · exact h1
        rw [hu, upd_eq hfb]
        exact effM_unmarkE r h
      | false =>
        have hu : unmark m ((b, { x with frz := true }) :: markE m r) = (b, { x with frz := true }) :: unmark m (markE m r) := by
          simp [unmark, hx, hf]
        rw [hu]
        simp only [effM]
        refine effM_unmarkE r fun n y hy => ?_
        by_cases hb : b = n
        · subst hb
          rw [hx] at hy
          injection hy with hy
          subst hy
          exact .inr (updM_same _ _ _)
        · rw [updM_ne _ _ hb]
          exact h n y hy
/-- Marks first, and then what is not marked. -/
def MarksOK (m : Mem) (e : List (Nat × Box)) : Prop := ∃ T r, e = markE m T ++ r ∧ ∀ p ∈ r, p.2.frz = false
theorem MarksOK.new {m : Mem} {e : List (Nat × Box)} (h : ∀ p ∈ e, p.2.frz = false) : MarksOK m e := ⟨[], e, rfl, h⟩
theorem MarksOK.effM {m : Mem} {e : List (Nat × Box)} (h : MarksOK m e) : effM m e = effM m (unmark m e) := by
  obtain ⟨T, r, rfl, h⟩ := h
  rw [unmark_append, unmark_new h, effM_append, effM_append, effM_unmarkE T fun n x hx => .inl hx]
theorem OpR.marks {P : Program} {d : Nat} {ρ : Operand → LV} {m : Mem} {op : Op} {v : LV} {eff : List (Nat × Box)} {R : List Nat} (h : OpR P d ρ m op v eff R) : MarksOK m eff := by
  cases h <;> first | (refine MarksOK.new ?_; simp; done) | (refine MarksOK.new ?_; simp; assumption) | (refine ⟨_, _, rfl, ?_⟩; simp; done) | (refine ⟨_, _, rfl, ?_⟩; simp; assumption)
theorem OpR.names {P : Program} {d : Nat} {ρ : Operand → LV} {m : Mem} {op : Op} {v : LV} {eff : List (Nat × Box)} {R : List Nat} (h : OpR P d ρ m op v eff R) : ∀ n ∈ Wn eff, n ∈ R := by
  have key : ∀ {T : List Nat} {b : Nat} {x : Box}, ∀ n ∈ Wn (markE m T ++ [(b, x)]), n ∈ b :: T := by
    intro T b x n hn
    obtain ⟨p, hp, rfl⟩ := List.mem_map.1 hn
    rcases List.mem_append.1 hp with hp | hp
    · exact List.mem_cons_of_mem _ (markE_names _ (List.mem_map.2 ⟨p, hp, rfl⟩))
    · simp at hp
      simp [hp]
  cases h <;> first | exact key | simp [Wn]

theorem impC_new (m : Mem) (n : Nat) (l : LV) : ∀ p ∈ (impC m n l).2.1, p.2.frz = false := by
  cases l <;> simp [impC]
theorem impCs_new (m : Mem) : ∀ (ls : List LV) (n : Nat), ∀ p ∈ (impCs m n ls).2.1, p.2.frz = false
  | [], n => by simp [impCs]
  | l :: ls, n => by
    intro p hp
    rcases List.mem_append.1 hp with hp | hp
    · exact impC_new m n l p hp
    · exact impCs_new m ls _ p hp
theorem impV_new (m : Mem) (n : Nat) (l : LV) : ∀ p ∈ (impV m n l).2.1, p.2.frz = false := by
  cases l <;> first | exact impCs_new m _ n | exact impC_new m n _
theorem impVs_new (m : Mem) : ∀ (ls : List LV) (n : Nat), ∀ p ∈ (impVs m n ls).2.1, p.2.frz = false
  | [], n => by simp [impVs]
  | l :: ls, n => by
    intro p hp
    rcases List.mem_append.1 hp with hp | hp
    · exact impV_new m n l p hp
    · exact impVs_new m ls _ p hp
theorem impT_new (m : Mem) (n : Nat) (l : LV) : ∀ p ∈ (impT m n l).2, p.2.frz = false := by
  cases l <;> try exact impV_new m n _
  case tup vs => exact impVs_new m vs n
  case ptro cs =>
    intro p hp
    rcases List.mem_append.1 hp with hp | hp
    · exact impCs_new m cs _ p hp
    · simp at hp
      simp [hp]
theorem impC_loc {m m' : Mem} {n : Nat} {l : LV} (h : ∀ k ∈ Wn (impC m n l).2.1, m k = m' k) : impC m' n l = impC m n l := by
  cases l <;> first | rfl | (have := h n (by simp [impC, Wn]); simp [impC, genAt, this])
theorem wn_append (a b : List (Nat × Box)) : Wn (a ++ b) = Wn a ++ Wn b := List.map_append ..
theorem impCs_loc {m m' : Mem} : ∀ {ls : List LV} {n : Nat}, (∀ k ∈ Wn (impCs m n ls).2.1, m k = m' k) → impCs m' n ls = impCs m n ls
  | [], n, _ => rfl
  | l :: ls, n, h => by
    have h1 := impC_loc (m := m) (m' := m') (n := n) (l := l) fun k hk => h k (by rw [impCs, wn_append]; exact List.mem_append_left _ hk)
    have h2 := impCs_loc (m := m) (m' := m') (ls := ls) (n := (impC m n l).2.2) fun k hk => h k (by rw [impCs, wn_append]; exact List.mem_append_right _ hk)
    simp only [impCs, h1, h2]
theorem impV_loc {m m' : Mem} {n : Nat} {l : LV} (h : ∀ k ∈ Wn (impV m n l).2.1, m k = m' k) : impV m' n l = impV m n l := by
  cases l <;> try exact impC_loc h
  case agg cs => simp only [impV, impCs_loc (m := m) (m' := m') (ls := cs) (n := n) h]
theorem impVs_loc {m m' : Mem} : ∀ {ls : List LV} {n : Nat}, (∀ k ∈ Wn (impVs m n ls).2.1, m k = m' k) → impVs m' n ls = impVs m n ls
  | [], n, _ => rfl
  | l :: ls, n, h => by
    have h1 := impV_loc (m := m) (m' := m') (n := n) (l := l) fun k hk => h k (by rw [impVs, wn_append]; exact List.mem_append_left _ hk)
    have h2 := impVs_loc (m := m) (m' := m') (ls := ls) (n := (impV m n l).2.2) fun k hk => h k (by rw [impVs, wn_append]; exact List.mem_append_right _ hk)
    simp only [impVs, h1, h2]
theorem impT_loc {m m' : Mem} {n : Nat} {l : LV} (h : ∀ k ∈ Wn (impT m n l).2, m k = m' k) : impT m' n l = impT m n l := by
  cases l <;> try (have := impV_loc (m := m) (m' := m') h; simp only [impT, this]; done)
  case tup vs =>
    have := impVs_loc (m := m) (m' := m') (ls := vs) (n := n) h
    simp only [impT, this]
  case ptro cs =>
    have h1 := impCs_loc (m := m) (m' := m') (ls := cs) (n := n + 1) fun k hk => h k (by rw [impT, wn_append]; exact List.mem_append_left _ hk)
    have h2 := h n (by rw [impT, wn_append]; exact List.mem_append_right _ (by simp [Wn]))
    simp only [impT, h1, genAt, h2]

/-- What one operation comes to. -/
structure D where
  v : LV
  eff : List (Nat × Box)
  R : List Nat

inductive DOp (P : Program) (nb : Nat) (o : Oper) (st : St) : D → Prop
  | op {v : LV} {eff : List (Nat × Box)} {R : List Nat} (h : OpR P (nameO nb o) (evalO st.ts) st.m o.op v eff R) : DOp P nb o st ⟨v, unmark st.m eff, R⟩
  | call {g : Operand} {as : Array Operand} {ts : Array TypeId} {f : FuncId} {caps args : List LV} {T : List Nat} {res : LV} (ho : o.op = .call { callee := .value g, args := as, argTypes := ts }) (hg : evalO st.ts g = .fn f caps)
      (hf : Frz st.m (.agg (as.toList.map (evalO st.ts) ++ caps)) (.agg args) T) (hc : CallsV P f args res) (ht : topI res = true) :
      DOp P nb o st ⟨(impT (effM st.m (markE st.m T)) (nameO nb o) res).1, unmark st.m (markE st.m T) ++ (impT (effM st.m (markE st.m T)) (nameO nb o) res).2, T ++ Wn (impT (effM st.m (markE st.m T)) (nameO nb o) res).2⟩
  | callF {g : Operand} {as : Array Operand} {ts : Array TypeId} {f : FuncId} {caps args : List LV} {T : List Nat} {res : LV} (ho : o.op = .call { callee := .value g, args := as, argTypes := ts }) (hg : evalO st.ts g = .fn f caps)
      (hf : Frz st.m (.agg (as.toList.map (evalO st.ts) ++ caps)) (.agg args) T) (hc : CallsV P f args res) (hl : FlatI res) (ht : topI res = true) :
      DOp P nb o st ⟨(impT st.m (nameO nb o) res).1, (impT st.m (nameO nb o) res).2, T ++ Wn (impT st.m (nameO nb o) res).2⟩

theorem DOp.names {P : Program} {nb : Nat} {o : Oper} {st : St} {d : D} (h : DOp P nb o st d) : ∀ n ∈ Wn d.eff, n ∈ d.R := by
  cases h with
  | op h => exact fun n hn => h.names n (unmark_names n hn)
  | call ho hg hf hc ht =>
    intro n hn
    rw [wn_append] at hn
    rcases List.mem_append.1 hn with hn | hn
    · exact List.mem_append_left _ (markE_names n (unmark_names n hn))
    · exact List.mem_append_right _ hn
  | callF ho hg hf hc hl ht => exact fun n hn => List.mem_append_right _ hn
theorem DOp.wp {P : Program} {I : InlP} {nb : Nat} {o : Oper} {st : St} {d : D} (h : DOp P nb o st d) : WpOp P I nb o st fun v m => v = d.v ∧ m = effM st.m d.eff := by
  cases h with
  | op h => exact .op h ⟨rfl, h.marks.effM⟩
  | call ho hg hf hc ht =>
    refine .call ho hg hf hc fun r hr => ?_
    subst hr
    refine ⟨ht, rfl, ?_⟩
    show _ = effM st.m (_ ++ _)
    rw [effM_append, effM_unmarkE _ fun n x hx => .inl hx]
  | callF ho hg hf hc hl ht =>
    refine .callF ho hg hf hc fun r hr => ?_
    subst hr
    exact ⟨hl, ht, rfl, rfl⟩
theorem DOp.loc {P : Program} {nb : Nat} {o : Oper} {st st' : St} {d : D} (h : DOp P nb o st d) (hs : ∀ x ∈ o.op.operands, evalO st.ts x = evalO st'.ts x) (hm : ∀ n ∈ d.R, st.m n = st'.m n) : DOp P nb o st' d := by
  cases h with
  | op h =>
    rw [unmark_congr fun n hn => hm n (h.names n hn)]
    exact .op (h.loc hs hm)
  | @call g as ts f caps args T res ho hg hf hc ht =>
    have hg' : evalO st'.ts g = .fn f caps := by rw [← hs g (by rw [ho]; simp [Op.operands, Call.operands])]; exact hg
    have ha : as.toList.map (evalO st.ts) = as.toList.map (evalO st'.ts) := List.map_congr_left fun x hx => hs x (by rw [ho]; simp [Op.operands, Call.operands]; exact .inr (by simpa using hx))
    have hT : ∀ n ∈ T, st.m n = st'.m n := fun n hn => hm n (List.mem_append_left _ hn)
    have hmk := markE_congr hT
    have himp : impT (effM st'.m (markE st'.m T)) (nameO nb o) res = impT (effM st.m (markE st.m T)) (nameO nb o) res := by
      rw [← hmk]
      exact impT_loc fun k hk => effM_at _ (hm k (List.mem_append_right _ hk))
    rw [ha] at hf
    have := DOp.call (nb := nb) ho hg' (hf.loc hT) hc ht
    rw [himp, ← hmk, ← unmark_congr fun n hn => hT n (markE_names n hn)] at this
    exact this
  | @callF g as ts f caps args T res ho hg hf hc hl ht =>
    have hg' : evalO st'.ts g = .fn f caps := by rw [← hs g (by rw [ho]; simp [Op.operands, Call.operands])]; exact hg
    have ha : as.toList.map (evalO st.ts) = as.toList.map (evalO st'.ts) := List.map_congr_left fun x hx => hs x (by rw [ho]; simp [Op.operands, Call.operands]; exact .inr (by simpa using hx))
    have hT : ∀ n ∈ T, st.m n = st'.m n := fun n hn => hm n (List.mem_append_left _ hn)
    have himp : impT st'.m (nameO nb o) res = impT st.m (nameO nb o) res := impT_loc fun k hk => hm k (List.mem_append_right _ hk)
    rw [ha] at hf
    have := DOp.callF (nb := nb) ho hg' (hf.loc hT) hc hl ht
    rw [himp] at this
    exact this

/-- One operation of a region, or none where its guard says no. -/
def Step (P : Program) (nb : Nat) (ops : Array Oper) (o : Oper) (st : St) (d : D) : Prop :=
  (wantedL ops o st.ts = some true ∧ DOp P nb o st d) ∨ (wantedL ops o st.ts = some false ∧ d = ⟨.skip, [], []⟩)
def nextS (o : Oper) (st : St) (d : D) : St := ⟨putS st.ts o.dst d.v, effM st.m d.eff⟩

theorem evalO_congr {f g : Slots} {x : Operand} (h : ∀ t, x = .tmp t → f t = g t) : evalO f x = evalO g x := by
  cases x <;> first | rfl | exact h _ rfl
theorem looks_eval {ops : Array Oper} {o : Oper} {f g : Slots} (h : ∀ t ∈ o.looksAt ops, f t = g t) : ∀ x ∈ o.op.operands, evalO f x = evalO g x := fun x hx =>
  evalO_congr fun t ht => h t (List.mem_append_left _ (List.mem_filterMap.2 ⟨x, by simpa using hx, by rw [ht]⟩))
theorem looks_wanted {ops : Array Oper} {o : Oper} {f g : Slots} (h : ∀ t ∈ o.looksAt ops, f t = g t) : wantedL ops o f = wantedL ops o g := by
  unfold wantedL
  cases hg : o.guard with
  | none => rfl
  | some jw =>
    obtain ⟨j, want⟩ := jw
    simp only
    cases hd : (ops[j]?).bind (·.dst) with
    | none => rfl
    | some t =>
      simp only
      rw [h t (List.mem_append_right _ (by simp [hg, hd]))]

theorem Step.loc {P : Program} {nb : Nat} {ops : Array Oper} {o : Oper} {st st' : St} {d : D} (h : Step P nb ops o st d) (hs : ∀ t ∈ o.looksAt ops, st.ts t = st'.ts t) (hm : ∀ n ∈ d.R, st.m n = st'.m n) : Step P nb ops o st' d := by
  rcases h with ⟨h1, h2⟩ | ⟨h1, h2⟩
  · exact .inl ⟨(looks_wanted hs) ▸ h1, h2.loc (looks_eval hs) hm⟩
  · exact .inr ⟨(looks_wanted hs) ▸ h1, h2⟩
theorem Step.names {P : Program} {nb : Nat} {ops : Array Oper} {o : Oper} {st : St} {d : D} (h : Step P nb ops o st d) : ∀ n ∈ Wn d.eff, n ∈ d.R := by
  rcases h with ⟨h1, h2⟩ | ⟨h1, h2⟩
  · exact h2.names
  · subst h2
    intro n hn
    cases hn

def freeB (ops : Array Oper) (o o' : Oper) (W R W' R' : List Nat) : Bool := o.apart ops o' && W.all (fun n => !R'.contains n) && W'.all (fun n => !R.contains n)

theorem putS_other {f : Slots} {d : Option Nat} {v : LV} {t : Nat} (h : d ≠ some t) : putS f d v t = f t := by
  cases d with
  | none => rfl
  | some i => exact updS_ne _ _ fun e => h (by rw [e])
theorem swap {P : Program} {nb : Nat} {ops : Array Oper} {o o' : Oper} {st : St} {d d' : D} (h : Step P nb ops o st d) (h' : Step P nb ops o' (nextS o st d) d') (hf : freeB ops o o' (Wn d.eff) d.R (Wn d'.eff) d'.R = true) :
    Step P nb ops o' st d' ∧ Step P nb ops o (nextS o' st d') d ∧ nextS o (nextS o' st d') d = nextS o' (nextS o st d) d' := by
  simp only [freeB, Bool.and_eq_true, List.all_eq_true, Bool.not_eq_true', List.contains_eq_mem, decide_eq_false_iff_not] at hf
  obtain ⟨⟨ha, hw⟩, hw'⟩ := hf
  obtain ⟨a1, a2, a3⟩ := Oper.apart_spec ha
  refine ⟨h'.loc (fun t ht => putS_other fun e => a1 t e ht) fun n hn => effM_out _ fun hn' => hw n hn' hn, h.loc (fun t ht => (putS_other fun e => a3 t e ht).symm) fun n hn => (effM_out _ fun hn' => hw' n hn' hn).symm, ?_⟩
  unfold nextS
  congr 1
  · funext t
    by_cases h1 : o.dst = some t
    · have h2 : o'.dst ≠ some t := a2 t h1
      rw [putS_other h2, h1]
      show updS _ t _ t = updS _ t _ t
      rw [updS_same, updS_same]
    · rw [putS_other h1]
      by_cases h2 : o'.dst = some t
      · rw [h2]
        show updS _ t _ t = updS _ t _ t
        rw [updS_same, updS_same]
      · show putS st.ts o'.dst d'.v t = putS (putS st.ts o.dst d.v) o'.dst d'.v t
        rw [putS_other h2, putS_other h2, putS_other h1]
  · funext n
    show effM (effM st.m d'.eff) d.eff n = effM (effM st.m d.eff) d'.eff n
    by_cases h1 : n ∈ Wn d.eff
    · rw [effM_in _ h1 (g := st.m), effM_out d'.eff fun h2 => hw' n h2 (h.names n h1)]
    · rw [effM_out d.eff h1]
      exact (effM_at _ (effM_out d.eff h1)).symm

def Run (P : Program) (nb : Nat) (ops : Array Oper) : List (Nat × D) → St → St → Prop
  | [], st, st' => st = st'
  | (i, d) :: r, st, st' => ∃ o, ops[i]? = some o ∧ Step P nb ops o st d ∧ Run P nb ops r (nextS o st d) st'

def FreeP (ops : Array Oper) (x y : Nat × D) : Prop := ∀ o o', ops[x.1]? = some o → ops[y.1]? = some o' → freeB ops o o' (Wn x.2.eff) x.2.R (Wn y.2.eff) y.2.R = true
theorem Run.pull {P : Program} {nb : Nat} {ops : Array Oper} {x : Nat × D} {l2 : List (Nat × D)} {st' : St} : ∀ {l1 : List (Nat × D)} {st : St}, Run P nb ops (l1 ++ x :: l2) st st' → (∀ y ∈ l1, FreeP ops y x) → Run P nb ops (x :: (l1 ++ l2)) st st'
  | [], _, h, _ => h
  | (i, d) :: r, st, h, hf => by
    obtain ⟨o, ho, hs, hr⟩ := h
    obtain ⟨o', ho', hs', hr'⟩ := Run.pull (l1 := r) hr fun y hy => hf y (List.mem_cons_of_mem _ hy)
    obtain ⟨s1, s2, s3⟩ := swap hs hs' (hf (i, d) (List.mem_cons_self ..) o o' ho ho')
    exact ⟨o', ho', s1, o, ho, s2, by rw [s3]; exact hr'⟩
end Go.Proofs.Ytffnlhjdlhpmjaa.Mv

/- Regions whose operations may be done in any order that their edges allow: the text's order tells them all. -/
set_option linter.unusedVariables false
set_option linter.unusedSimpArgs false
namespace Go.Proofs.Ytffnlhjdlhpmjaa.Mv

def BB (ops : Array Oper) (j : Nat) : Nat := (Region.before ops).getD j 0
def edgesOK (ops : Array Oper) (B : Nat → Nat) : Bool :=
  (List.range ops.size).all fun j =>
    match ops[j]? with
    | none => true
    | some o => (o.after.toList.all fun e => !Region.binds .any e || decide (e.on < j)) &&
      (List.range ops.size).all fun k => !(B j).testBit k || o.after.toList.any fun e => Region.binds .any e && (Nat.beq e.on k || (B e.on).testBit k)
def pairsOK (ops : Array Oper) (B : Nat → Nat) (l : List (Nat × List Nat × List Nat)) : Bool :=
  l.all fun y => l.all fun x => !decide (x.1 < y.1) || ((B y.1).testBit x.1 ||
    (match ops[x.1]?, ops[y.1]? with
     | some o, some o' => freeB ops o o' x.2.1 x.2.2 y.2.1 y.2.2
     | _, _ => true))

def DOps (P : Program) (nb : Nat) (ops : Array Oper) (Q : St → Prop) : List Nat → List (Nat × List Nat × List Nat) → St → Prop
  | [], acc, st => (edgesOK ops (BB ops) && pairsOK ops (BB ops) acc) = true ∧ Q st
  | i :: r, acc, st =>
    match ops[i]? with
    | none => False
    | some o =>
      match wantedL ops o st.ts with
      | some true => ∃ d, DOp P nb o st d ∧ DOps P nb ops Q r ((i, Wn d.eff, d.R) :: acc) ⟨putS st.ts o.dst d.v, effM st.m d.eff⟩
      | some false => DOps P nb ops Q r ((i, [], []) :: acc) ⟨putS st.ts o.dst .skip, st.m⟩
      | none => False

def projD (x : Nat × D) : Nat × List Nat × List Nat := (x.1, Wn x.2.eff, x.2.R)

theorem DOps.trace {P : Program} {nb : Nat} {ops : Array Oper} {Q : St → Prop} : ∀ {l : List Nat} {acc : List (Nat × List Nat × List Nat)} {st : St}, DOps P nb ops Q l acc st →
    ∃ rem st', Run P nb ops rem st st' ∧ rem.map (·.1) = l ∧ Q st' ∧ edgesOK ops (BB ops) = true ∧ ∃ acc', pairsOK ops (BB ops) acc' = true ∧ ∀ x, x ∈ rem.map projD ∨ x ∈ acc → x ∈ acc'
  | [], acc, st, h => by
    obtain ⟨h1, h2⟩ := h
    rw [Bool.and_eq_true] at h1
    exact ⟨[], st, rfl, rfl, h2, h1.1, acc, h1.2, fun x hx => hx.resolve_left (by simp)⟩
  | i :: r, acc, st, h => by
    simp only [DOps] at h
    cases ho : ops[i]? with
    | none => rw [ho] at h; exact h.elim
    | some o =>
      rw [ho] at h
      simp only at h
      cases hw : wantedL ops o st.ts with
      | none => rw [hw] at h; exact h.elim
      | some b =>
        rw [hw] at h
        cases b with
        | true =>
          obtain ⟨d, hd, h⟩ := h
          obtain ⟨rem, st', h1, h2, h3, h4, acc', h5, h6⟩ := DOps.trace h
          refine ⟨(i, d) :: rem, st', ⟨o, ho, .inl ⟨hw, hd⟩, h1⟩, by simp [h2], h3, h4, acc', h5, fun x hx => ?_⟩
          rcases hx with hx | hx
          · rcases List.mem_cons.1 hx with hx | hx
            · exact h6 x (.inr (by rw [hx]; exact List.mem_cons_self ..))
            · exact h6 x (.inl hx)
          · exact h6 x (.inr (List.mem_cons_of_mem _ hx))
        | false =>
          obtain ⟨rem, st', h1, h2, h3, h4, acc', h5, h6⟩ := DOps.trace h
          refine ⟨(i, ⟨.skip, [], []⟩) :: rem, st', ⟨o, ho, .inr ⟨hw, rfl⟩, h1⟩, by simp [h2], h3, h4, acc', h5, fun x hx => ?_⟩
          rcases hx with hx | hx
          · rcases List.mem_cons.1 hx with hx | hx
            · exact h6 x (.inr (by rw [hx]; exact List.mem_cons_self ..))
            · exact h6 x (.inl hx)
          · exact h6 x (.inr (List.mem_cons_of_mem _ hx))

theorem edges_lt {ops : Array Oper} {B : Nat → Nat} (h : edgesOK ops B = true) {j : Nat} {o : Oper} (ho : ops[j]? = some o) {e : Edge} (he : e ∈ o.after) (hb : Region.binds .any e = true) : e.on < j := by
  unfold edgesOK at h
  rw [List.all_eq_true] at h
  have hj : j < ops.size := (Array.getElem?_eq_some_iff.1 ho).1
  have := h j (List.mem_range.2 hj)
  rw [ho] at this
  simp only [Bool.and_eq_true, List.all_eq_true] at this
  have h2 := this.1 e (by simpa using he)
  rw [hb] at h2
  simpa using h2
theorem edges_bit {ops : Array Oper} {B : Nat → Nat} (h : edgesOK ops B = true) {j k : Nat} {o : Oper} (ho : ops[j]? = some o) (hk : k < ops.size) (hb : (B j).testBit k = true) :
    ∃ e ∈ o.after, Region.binds .any e = true ∧ (e.on = k ∨ (B e.on).testBit k = true) := by
  unfold edgesOK at h
  rw [List.all_eq_true] at h
  have hj : j < ops.size := (Array.getElem?_eq_some_iff.1 ho).1
  have := h j (List.mem_range.2 hj)
  rw [ho] at this
  simp only [Bool.and_eq_true, List.all_eq_true] at this
  have h2 := this.2 k (List.mem_range.2 hk)
  rw [hb] at h2
  simp only [Bool.not_true, Bool.false_or, List.any_eq_true, Bool.and_eq_true, Bool.or_eq_true] at h2
  obtain ⟨e, he, h3, h4⟩ := h2
  exact ⟨e, by simpa using he, h3, h4.imp (fun h => Nat.eq_of_beq_eq_true h) id⟩

/-- What an operation waits for is done, where what it waits for at first hand is done. -/
theorem closed_bit {ops : Array Oper} {B : Nat → Nat} (h : edgesOK ops B = true) (S : Nat → Prop) (hS : ∀ j o, ops[j]? = some o → ¬ S j → ∀ e ∈ o.after, Region.binds .any e = true → ¬ S e.on) :
    ∀ (j : Nat) {o : Oper}, ops[j]? = some o → (∀ e ∈ o.after, Region.binds .any e = true → ¬ S e.on) → ∀ {k : Nat}, k < ops.size → (B j).testBit k = true → ¬ S k := by
  intro j
  induction j using Nat.strongRecOn with
  | _ j ih =>
    intro o ho he k hk hb
    obtain ⟨e, h1, h2, h3⟩ := edges_bit h ho hk hb
    rcases h3 with h3 | h3
    · rw [← h3]
      exact he e h1 h2
    · have hlt := edges_lt h ho h1 h2
      have hj : j < ops.size := (Array.getElem?_eq_some_iff.1 ho).1
      have ho' : ops[e.on]? = some (ops[e.on]'(by omega)) := Array.getElem?_eq_getElem _
      exact ih e.on hlt ho' (hS e.on _ ho' (he e h1 h2)) hk h3

theorem pairs_free {ops : Array Oper} {B : Nat → Nat} {acc : List (Nat × List Nat × List Nat)} (h : pairsOK ops B acc = true) {x y : Nat × D} (hx : projD x ∈ acc) (hy : projD y ∈ acc) (hlt : x.1 < y.1) (hb : (B y.1).testBit x.1 = false) : FreeP ops x y := by
  unfold pairsOK at h
  rw [List.all_eq_true] at h
  have h1 := h _ hy
  rw [List.all_eq_true] at h1
  have h2 := h1 _ hx
  intro o o' ho ho'
  simp only [projD] at h2
  rw [ho, ho'] at h2
  simpa [hlt, hb] using h2

section
variable {P : Program} {X : Ctx}
theorem Step.sound {I : InlP} (hI : InlS P I) {nb n : Nat} {ops : Array Oper} {o : Oper} {st : St} {d : D} {a : Act} {w : World} {F : Nat → Prop} {ρ : Locs} {i : Nat} {Q : Exit → Act → World → Prop} {K : Act → World → Prop}
    (hs : Step P nb ops o st d) (ho : ops[i]? = some o) (hdo : dstOK n o = true) (h : Inv X st a w F ρ) (hn : a.tmps.size = n)
    (hk : ∀ a' w' F' ρ', Inv X (nextS o st d) a' w' F' ρ' → a'.tmps.size = n → K a' w') : wpOp P ops Q i K a w := by
  have hdst : ∀ i, o.dst = some i → i < a.tmps.size := by
    intro i hi
    unfold dstOK at hdo
    rw [hi] at hdo
    rw [hn]
    exact of_decide_eq_true hdo
  have hsz : ∀ v, (a.put o.dst v).tmps.size = n := by
    intro v
    cases o.dst <;> simp [Act.put, hn]
  unfold wpOp
  simp only [ho]
  rcases hs with ⟨h1, h2⟩ | ⟨h1, h2⟩
  · rw [wanted_sound h h1]
    simp only [if_true]
    refine .inl (WpOp.sound hI h2.wp h fun v m val w' F' ρ' hK hI' hv => ?_)
    obtain ⟨rfl, rfl⟩ := hK
    exact hk _ _ F' ρ' (hI'.put hdst hv) (hsz _)
  · subst h2
    rw [wanted_sound h h1]
    simp only [Bool.false_eq_true, if_false]
    exact hk _ _ F ρ (h.put hdst (.frz .skip)) (hsz _)

theorem draw_sound {I : InlP} (hI : InlS P I) {nb n : Nat} {ops : Array Oper} (hd : ∀ (i : Nat) o, ops[i]? = some o → dstOK n o = true) {Q : Ex → St → Prop} {st' : St} (hq : Q .normal st')
    (he : edgesOK ops (BB ops) = true) {acc : List (Nat × List Nat × List Nat)} (hp : pairsOK ops (BB ops) acc = true) :
    ∀ (fuel : Nat) {rem : List (Nat × D)} {st : St} {a : Act} {w : World} {F : Nat → Prop} {ρ : Locs} {listed : Array Bool}, rem.length = fuel → Run P nb ops rem st st' → Inv X st a w F ρ → a.tmps.size = n →
      listed.size = ops.size → (∀ i : Nat, listed[i]? = some false ↔ i ∈ rem.map (·.1)) → (rem.Pairwise fun x y => x.1 < y.1) → (∀ x ∈ rem, projD x ∈ acc) →
      (∀ j o, ops[j]? = some o → ¬ j ∈ rem.map (·.1) → ∀ e ∈ o.after, Region.binds .any e = true → ¬ e.on ∈ rem.map (·.1)) →
      wpAny P .any ops (Post X n Q) fuel listed a w := by
  intro fuel
  induction fuel with
  | zero =>
    intro rem st a w F ρ listed hl hr h hn hsz hrem hpw hacc hcl
    have : rem = [] := List.eq_nil_of_length_eq_zero hl
    subst this
    have hst : st = st' := hr
    subst hst
    refine ⟨?_, .normal, st, F, ρ, rfl, hq, h, hn⟩
    cases hrd : Region.ready .any ops listed with
    | nil => rfl
    | cons i r =>
      have hi : i ∈ Region.ready .any ops listed := by rw [hrd]; exact List.mem_cons_self ..
      obtain ⟨h1, o, ho, -⟩ := mem_ready.1 hi
      have hlt : i < listed.size := by rw [hsz]; exact (Array.getElem?_eq_some_iff.1 ho).1
      have : listed[i]? = some false := by
        rw [Array.getD_eq_getD_getElem?, Array.getElem?_eq_getElem hlt] at h1
        rw [Array.getElem?_eq_getElem hlt]
        simpa using h1
      exact absurd ((hrem i).1 this) (by simp)
  | succ fuel ih =>
    intro rem st a w F ρ listed hl hr h hn hsz hrem hpw hacc hcl
    have hidx : ∀ x ∈ rem, x.1 < ops.size := by
      intro x hx
      have := (hrem x.1).2 (List.mem_map.2 ⟨x, hx, rfl⟩)
      rw [← hsz]
      exact (Array.getElem?_eq_some_iff.1 this).1
    refine ⟨fun hnil => ?_, fun i hi => ?_⟩
    · exfalso
      cases hrm : rem with
      | nil => rw [hrm] at hl; cases hl
      | cons x r =>
        subst hrm
        have hx := hidx x (List.mem_cons_self ..)
        have hx2 := (hrem x.1).2 (by simp)
        have ho : ops[x.1]? = some (ops[x.1]'hx) := Array.getElem?_eq_getElem _
        have : x.1 ∈ Region.ready .any ops listed := by
          refine mem_ready.2 ⟨by rw [Array.getD_eq_getD_getElem?, hx2]; rfl, _, ho, fun e hee hb => ?_⟩
          have hlt := edges_lt he ho hee hb
          have hno : ¬ e.on ∈ (x :: r).map (·.1) := by
            intro hm
            obtain ⟨y, hy, hye⟩ := List.mem_map.1 hm
            rcases List.mem_cons.1 hy with hy | hy
            · subst hy; omega
            · have := (List.pairwise_cons.1 hpw).1 y hy
              omega
          have hlt2 : e.on < listed.size := by omega
          rw [Array.getD_eq_getD_getElem?, Array.getElem?_eq_getElem hlt2]
          simp only [Option.getD_some]
          cases hbb : listed[e.on]'hlt2 with
          | true => rfl
          | false => exact absurd ((hrem e.on).1 (by rw [Array.getElem?_eq_getElem hlt2, hbb])) hno
        rw [hnil] at this
        cases this
    · obtain ⟨h1, o, ho, hdep⟩ := mem_ready.1 hi
      have hlt : i < ops.size := (Array.getElem?_eq_some_iff.1 ho).1
      have hlt2 : i < listed.size := by omega
      have hif : listed[i]? = some false := by
        rw [Array.getD_eq_getD_getElem?, Array.getElem?_eq_getElem hlt2] at h1
        rw [Array.getElem?_eq_getElem hlt2]
        simpa using h1
      obtain ⟨x, hx, hxi⟩ := List.mem_map.1 ((hrem i).1 hif)
      subst hxi
      obtain ⟨l1, l2, hsp⟩ := List.append_of_mem hx
      subst hsp
      have hdep' : ∀ e ∈ o.after, Region.binds .any e = true → ¬ e.on ∈ (l1 ++ x :: l2).map (·.1) := by
        intro e hee hb hm
        have h2 := (hrem e.on).2 hm
        have h3 := hdep e hee hb
        rw [Array.getD_eq_getD_getElem?, h2] at h3
        cases h3
      have hpw2 := List.pairwise_append.1 hpw
      have hfree : ∀ y ∈ l1, FreeP ops y x := by
        intro y hy
        have hym : y ∈ l1 ++ x :: l2 := List.mem_append_left _ hy
        refine pairs_free hp (hacc y hym) (hacc x hx) (hpw2.2.2 y hy x (List.mem_cons_self ..)) ?_
        cases hb : (BB ops x.1).testBit y.1 with
        | false => rfl
        | true => exact absurd (List.mem_map.2 ⟨y, hym, rfl⟩) (closed_bit he (fun k => k ∈ (l1 ++ x :: l2).map (·.1)) hcl x.1 ho hdep' (hidx y hym) hb)
      obtain ⟨o', ho', hst, hrun⟩ := Run.pull hr hfree
      rw [ho] at ho'
      injection ho' with ho'
      subst ho'
      have hx1 : ∀ y ∈ l1 ++ l2, y.1 ≠ x.1 := by
        intro y hy
        rcases List.mem_append.1 hy with hy | hy
        · have := hpw2.2.2 y hy x (List.mem_cons_self ..)
          omega
        · have := (List.pairwise_cons.1 hpw2.2.1).1 y hy
          omega
      have hmem : ∀ k, k ∈ (l1 ++ x :: l2).map (·.1) ↔ k = x.1 ∨ k ∈ (l1 ++ l2).map (·.1) := by
        intro k
        simp only [List.map_append, List.map_cons, List.mem_append, List.mem_cons]
        constructor
        · rintro (h | h | h)
          · exact .inr (.inl h)
          · exact .inl h
          · exact .inr (.inr h)
        · rintro (h | h | h)
          · exact .inr (.inl h)
          · exact .inl h
          · exact .inr (.inr h)
      refine Step.sound hI hst ho (hd _ _ ho) h hn fun a' w' F' ρ' hI' hn' => ?_
      refine ih (rem := l1 ++ l2) (by simp at hl ⊢; omega) hrun hI' hn' (by simp [hsz]) (fun k => ?_) ?_ (fun y hy => hacc y ?_) (fun j oj hoj hj e hee hb hm => ?_)
      · by_cases hk : x.1 = k
        · subst hk
          rw [Array.getElem?_setIfInBounds_self_of_lt hlt2]
          refine ⟨fun h => (by cases h), fun hm => ?_⟩
          obtain ⟨y, hy, hye⟩ := List.mem_map.1 hm
          exact absurd hye (hx1 y hy)
        · rw [Array.getElem?_setIfInBounds_ne hk, hrem k, hmem k]
          exact ⟨fun h => h.resolve_left (Ne.symm hk), .inr⟩
      · exact List.pairwise_append.2 ⟨hpw2.1, (List.pairwise_cons.1 hpw2.2.1).2, fun y hy z hz => hpw2.2.2 y hy z (List.mem_cons_of_mem _ hz)⟩
      · rcases List.mem_append.1 hy with hy | hy
        · exact List.mem_append_left _ hy
        · exact List.mem_append_right _ (List.mem_cons_of_mem _ hy)
      · by_cases hjx : j = x.1
        · subst hjx
          rw [ho] at hoj
          injection hoj with hoj
          subst hoj
          exact hdep' e hee hb ((hmem _).2 (.inr hm))
        · exact hcl j oj hoj (fun hm' => (hmem j).1 hm' |>.elim hjx hj) e hee hb ((hmem _).2 (.inr hm))

/-- A drawn region, by the text's order. -/
theorem DOps.sound {I : InlP} (hI : InlS P I) (hmix : P.follows .mixedOrders = true) {nb n id : Nat} {ops : Array Oper} (hd : ∀ (i : Nat) o, ops[i]? = some o → dstOK n o = true) {Q : Ex → St → Prop} {st : St} {a : Act} {w : World} {F : Nat → Prop} {ρ : Locs}
    (hw : DOps P nb ops (Q .normal) (List.range ops.size) [] st) (h : Inv X st a w F ρ) (hn : a.tmps.size = n) : (Code.region id ops true).wp P (Post X n Q) a w := by
  obtain ⟨rem, st', h1, h2, h3, h4, acc, h5, h6⟩ := DOps.trace hw
  refine wp_region_any hmix (draw_sound hI hd h3 h4 h5 ops.size ?_ h1 (h.heap rfl rfl rfl rfl) hn (by simp) (fun i => ?_) ?_ (fun x hx => h6 _ (.inl (List.mem_map.2 ⟨x, hx, rfl⟩))) (fun j o ho hj => ?_))
  · have := congrArg List.length h2
    simpa using this
  · rw [h2, List.mem_range]
    constructor
    · intro hi
      have := (Array.getElem?_eq_some_iff.1 hi).1
      simpa using this
    · intro hi
      rw [Array.getElem?_eq_getElem (by simpa using hi)]
      simp
  · have : (rem.map (·.1)).Pairwise (· < ·) := by rw [h2]; exact List.pairwise_lt_range
    exact List.pairwise_map.1 this
  · exact absurd (by rw [h2, List.mem_range]; exact (Array.getElem?_eq_some_iff.1 ho).1) hj
end
end Go.Proofs.Ytffnlhjdlhpmjaa.Mv

/- Code, and functions. -/
set_option linter.unusedVariables false
set_option linter.unusedSimpArgs false
namespace Go.Proofs.Ytffnlhjdlhpmjaa.Mv

/-- A state that knows less. -/
def Weak (s s' : St) : Prop := ∀ X a w F ρ, Inv X s a w F ρ → ∃ F' ρ', Inv X s' a w F' ρ'
theorem Weak.refl (s : St) : Weak s s := fun _ _ _ F ρ h => ⟨F, ρ, h⟩
theorem Weak.trans {s s' s'' : St} (h : Weak s s') (h' : Weak s' s'') : Weak s s'' := fun X a w F ρ hi => by
  obtain ⟨F1, ρ1, h1⟩ := h X a w F ρ hi
  exact h' X a w F1 ρ1 h1
theorem Weak.mark (ts : Slots) (m : Mem) (T : List Nat) : Weak ⟨ts, m⟩ ⟨ts, effM m (markE m T)⟩ := fun _ _ _ _ ρ h => by
  obtain ⟨F', -, -, h'⟩ := h.mark T
  exact ⟨F', ρ, h'⟩
/-- Slots: known, or not looked at. -/
def LessS (f g : Slots) : Prop := ∀ j, g j = f j ∨ g j = .undef
theorem LessS.nil (f : Slots) : LessS f (fun _ => .undef) := fun _ => .inr rfl
theorem LessS.refl (f : Slots) : LessS f f := fun _ => .inl rfl
theorem LessS.upd {f g : Slots} (h : LessS f g) {i : Nat} {v : LV} (hv : f i = v) : LessS f (updS g i v) := fun j => by
  by_cases hj : i = j
  · subst hj
    rw [updS_same, hv]
    exact .inl rfl
  · rw [updS_ne _ _ hj]
    exact h j
theorem LessS.weak {f g : Slots} (h : LessS f g) (m : Mem) : Weak ⟨f, m⟩ ⟨g, m⟩ := fun X a w F ρ hi => by
  refine ⟨F, ρ, { hi with slots := fun j => ?_ }⟩
  rcases h j with h1 | h1
  · show RelL w F ρ m _ (g j)
    rw [h1]
    exact hi.slots j
  · show RelL w F ρ m _ (g j)
    rw [h1]
    exact .frz (.undef _)

def thenX (next : St → Prop) (Q : Ex → St → Prop) : Ex → St → Prop
  | .normal, s => next s
  | e, s => Q e s
def blockX (id : Nat) (Q : Ex → St → Prop) : Ex → St → Prop
  | .exit id', s =>
    match Nat.beq id' id with
    | true => Q .normal s
    | false => Q (.exit id') s
  | e, s => Q e s

def Wp (P : Program) (I : InlP) (nb : Nat) : Code → (Ex → St → Prop) → St → Prop
  | .skip, Q, st => Q .normal st
  | .region _ ops d, Q, st =>
    match d with
    | false => WpOps P I nb ops (Q .normal) (List.range ops.size) st
    | true => ∃ s, Weak st s ∧ DOps P nb ops (Q .normal) (List.range ops.size) [] s
  | .seq x y, Q, st => Wp P I nb x (thenX (fun s => ∃ s', Weak s s' ∧ Wp P I nb y Q s') Q) st
  | .cond c x y, Q, st => ∃ b, evalO st.ts c = .bool b ∧ (b = true → Wp P I nb x Q st) ∧ (b = false → Wp P I nb y Q st)
  | .block id c, Q, st => Wp P I nb c (blockX id Q) st
  | .loop c, Q, st => ∀ X : St → Prop, (∀ s s', Weak s s' → X s' → X s) → (∀ s, Wp P I nb c (thenX X Q) s → X s) → X st
  | .exit id, Q, st => Q (.exit id) st
  | .ret, Q, st => Q .ret st
  | _, _, _ => False

def dstsOK (n : Nat) : Code → Bool
  | .region _ ops _ => ops.toList.all (dstOK n)
  | .seq x y => dstsOK n x && dstsOK n y
  | .cond _ x y => dstsOK n x && dstsOK n y
  | .block _ c => dstsOK n c
  | .loop c => dstsOK n c
  | _ => true

theorem Post.mono {X : Ctx} {n : Nat} {Q Q' : Ex → St → Prop} (h : ∀ e s, Q e s → Q' e s) {e : Exit} {a : Act} {w : World} (hp : Post X n Q e a w) : Post X n Q' e a w := by
  obtain ⟨ex, st, F, ρ, h1, h2, h3⟩ := hp
  exact ⟨ex, st, F, ρ, h1, h _ _ h2, h3⟩

theorem dsts_ops {n id : Nat} {ops : Array Oper} {d : Bool} (h : dstsOK n (.region id ops d) = true) (i : Nat) (o : Oper) (ho : ops[i]? = some o) : dstOK n o = true := by
  simp only [dstsOK, List.all_eq_true] at h
  exact h o (by simpa using Array.mem_of_getElem? ho)

theorem Wp.sound {P : Program} {X : Ctx} {I : InlP} (hI : InlS P I) (hmix : P.follows .mixedOrders = true) {nb n : Nat} : ∀ (c : Code), dstsOK n c = true → ∀ {Q : Ex → St → Prop} {st : St} {a : Act} {w : World} {F : Nat → Prop} {ρ : Locs},
    Wp P I nb c Q st → Inv X st a w F ρ → a.tmps.size = n → c.wp P (Post X n Q) a w := by
  intro c
  induction c with
  | skip => intro _ Q st a w F ρ hw h hn; exact wp_skip ⟨.normal, st, F, ρ, rfl, hw, h, hn⟩
  | region id ops d =>
    intro hd Q st a w F ρ hw h hn
    cases d with
    | false => exact wp_region (WpOps.sound hI (dsts_ops hd) _ hw h hn)
    | true =>
      obtain ⟨s, hs, hw⟩ := hw
      obtain ⟨F', ρ', h'⟩ := hs X a w F ρ h
      exact DOps.sound hI hmix (dsts_ops hd) hw h' hn
  | seq x y ihx ihy =>
    intro hd Q st a w F ρ hw h hn
    simp only [dstsOK, Bool.and_eq_true] at hd
    refine wp_seq (wp_mono (ihx hd.1 hw h hn) fun e a w hp => ?_)
    obtain ⟨ex, s, F1, ρ1, rfl, hq, hi, hn1⟩ := hp
    cases ex with
    | normal =>
      obtain ⟨s', hs, hw'⟩ := hq
      obtain ⟨F', ρ', h'⟩ := hs X a w F1 ρ1 hi
      exact ihy hd.2 hw' h' hn1
    | exit id => exact ⟨.exit id, s, F1, ρ1, rfl, hq, hi, hn1⟩
    | ret => exact ⟨.ret, s, F1, ρ1, rfl, hq, hi, hn1⟩
  | cond c x y ihx ihy =>
    intro hd Q st a w F ρ hw h hn
    simp only [dstsOK, Bool.and_eq_true] at hd
    obtain ⟨b, hb, h1, h2⟩ := hw
    have hv := h.eval c
    rw [hb] at hv
    refine wp_cond_split hv.bool (fun hb => ihx hd.1 (h1 hb) h hn) fun hb => ihy hd.2 (h2 hb) h hn
  | block id c ih =>
    intro hd Q st a w F ρ hw h hn
    refine wp_block (wp_mono (ih hd hw h hn) fun e a w hp => ?_)
    obtain ⟨ex, s, F1, ρ1, rfl, hq, hi, hn1⟩ := hp
    cases ex with
    | normal => exact ⟨.normal, s, F1, ρ1, rfl, hq, hi, hn1⟩
    | exit id' =>
      simp only [blockX] at hq
      show if id' = id then _ else _
      by_cases hid : id' = id
      · rw [if_pos hid]
        have : Nat.beq id' id = true := by rw [hid]; exact Nat.beq_refl id
        rw [this] at hq
        exact ⟨.normal, s, F1, ρ1, rfl, hq, hi, hn1⟩
      · rw [if_neg hid]
        have : Nat.beq id' id = false := by
          cases hb : Nat.beq id' id
          · rfl
          · exact absurd (Nat.eq_of_beq_eq_true hb) hid
        rw [this] at hq
        exact ⟨.exit id', s, F1, ρ1, rfl, hq, hi, hn1⟩
    | ret => exact ⟨.ret, s, F1, ρ1, rfl, hq, hi, hn1⟩
  | loop c ih =>
    intro hd Q st a w F ρ hw h hn
    intro b k cs
    have key := hw (fun s => ∀ a w F ρ, Inv X s a w F ρ → a.tmps.size = n → ∃ e a' w', Post X n Q e a' w' ∧ Arrives P (lone (b.at a (.code c :: .inLoop c :: k)) cs w) b k cs e a' w')
      (fun s s' hs hX a w F ρ hi hn => by
        obtain ⟨F', ρ', h'⟩ := hs X a w F ρ hi
        exact hX a w F' ρ' h' hn)
      (fun s hs a w F ρ hi hn => by
        obtain ⟨e, a1, w1, hq, harr⟩ := ih hd hs hi hn b (.inLoop c :: k) cs
        obtain ⟨ex, s1, F1, ρ1, rfl, hq, hi1, hn1⟩ := hq
        cases ex with
        | normal =>
          obtain ⟨e2, a2, w2, hq2, harr2⟩ := hq a1 w1 F1 ρ1 hi1 hn1
          exact ⟨e2, a2, w2, hq2, .of_steps (Steps.trans harr (.one step_inLoop)) harr2⟩
        | exit id => exact ⟨.exit id, a1, w1, ⟨.exit id, s1, F1, ρ1, rfl, hq, hi1, hn1⟩, .pass (x := .inLoop c) rfl (fun _ _ => .inl (by simp)) harr⟩
        | ret => exact ⟨.ret, a1, w1, ⟨.ret, s1, F1, ρ1, rfl, hq, hi1, hn1⟩, .pass (x := .inLoop c) rfl (fun _ _ => .inl (by simp)) harr⟩)
    obtain ⟨e, a', w', hq, harr⟩ := key a w F ρ h hn
    exact ⟨e, a', w', hq, .of_steps (.one step_loop) harr⟩
  | exit id => intro _ Q st a w F ρ hw h hn; exact wp_exit ⟨.exit id, st, F, ρ, rfl, hw, h, hn⟩
  | ret => intro _ Q st a w F ρ hw h hn; exact wp_ret ⟨.ret, st, F, ρ, rfl, hw, h, hn⟩
  | _ => intro _ Q st a w F ρ hw; exact hw.elim

/-! ### Rules -/
section
variable {P : Program} {I : InlP} {nb : Nat} {Q Q' : Ex → St → Prop}
theorem thenX.mono {K K' : St → Prop} (hk : ∀ s, K s → K' s) (h : ∀ e s, Q e s → Q' e s) : ∀ e s, thenX K Q e s → thenX K' Q' e s := by
  intro e s
  cases e
  · exact hk s
  · exact h _ s
  · exact h _ s
theorem WpOp.mono {o : Oper} {st : St} {K K' : LV → Mem → Prop} (hI : ∀ nb f args m R R', (∀ v m, R v m → R' v m) → I nb f args m R → I nb f args m R') (h : WpOp P I nb o st K) (hk : ∀ v m, K v m → K' v m) : WpOp P I nb o st K' := by
  cases h with
  | op h k => exact .op h (hk _ _ k)
  | any h k => exact .any h fun v eff hr => hk _ _ (k v eff hr)
  | call ho hg hf hc k => exact .call ho hg hf hc fun res hr => ⟨(k res hr).1, hk _ _ (k res hr).2⟩
  | callF ho hg hf hc k => exact .callF ho hg hf hc fun res hr => ⟨(k res hr).1, (k res hr).2.1, hk _ _ (k res hr).2.2⟩
  | lend ho hg he hM hMT hc k => exact .lend ho hg he hM hMT hc fun res q hr => ⟨(k res q hr).1, hk _ _ (k res q hr).2⟩
  | lend1 ho hg he hM hMT hc hu k =>
    refine .lend1 ho hg he hM hMT hc hu fun res q hr => ?_
    obtain ⟨b, x, h1, h2, h3, h4, h5⟩ := k res q hr
    exact ⟨b, x, h1, h2, h3, h4, fun m1 m2 e1 e2 => hk _ _ (h5 m1 m2 e1 e2)⟩
  | inl ho hg k => exact .inl ho hg (hI _ _ _ _ _ _ hk k)

theorem Wp.seq {x y : Code} {st : St} (h : Wp P I nb x (thenX (fun s => Wp P I nb y Q s) Q) st) (hm : ∀ st Q Q', (∀ e s, Q e s → Q' e s) → Wp P I nb x Q st → Wp P I nb x Q' st) : Wp P I nb (.seq x y) Q st :=
  hm _ _ _ (thenX.mono (fun s hs => ⟨s, Weak.refl s, hs⟩) fun _ _ h => h) h
end

/-! ### Functions -/
theorem Frz.agg_some {m : Mem} {l l' : LV} {T : List Nat} (h : Frz m l l' T) : ∀ n ∈ T, (m n).isSome = true := h.some
/-- A result's value. -/
inductive ResV (P : Program) (st : St) : ResultVar → LV → Prop
  | tmp {t : Nat} {v : LV} (h : st.ts t = v) : ResV P st (.tmp t) v
  | cell {p : Nat} {t : TypeId} {b g i c : Nat} {x : Box} {cs : List LV} {v : LV} (ha : st.ts p = .ref b g i c) (hm : st.m b = some x) (hg : x.gen = g) (hk : x.kind ≠ .mp)
      (he : x.es[i]? = some cs) (ht : isAggT P t = some false) (hv : cs[c]? = some v) : ResV P st (.cell p t) v
  | cellA {p : Nat} {t : TypeId} {b g i c n : Nat} {x : Box} {cs : List LV} (ha : st.ts p = .ref b g i c) (hm : st.m b = some x) (hg : x.gen = g) (hk : x.kind ≠ .mp)
      (he : x.es[i]? = some cs) (ht : isAggT P t = some true) (hs : szT P t = some n) (hc : c + n ≤ cs.length) : ResV P st (.cell p t) (.agg ((cs.drop c).take n))
inductive ResVs (P : Program) (st : St) : List ResultVar → List LV → Prop
  | nil : ResVs P st [] []
  | cons {r : ResultVar} {rs : List ResultVar} {v : LV} {vs : List LV} (h : ResV P st r v) (hs : ResVs P st rs vs) : ResVs P st (r :: rs) (v :: vs)
def oneOf : List LV → LV
  | [v] => v
  | vs => .tup vs

/-- What a function hands back. -/
def Ret (P : Program) (rvs : List ResultVar) (R : LV → Prop) (st : St) : Prop :=
  ∃ vs v T M, ResVs P st rvs vs ∧ Exp st.m (oneOf vs) v T M ∧ M.Nodup ∧ (∀ n ∈ M, n ∉ T) ∧ R v
def RetX (P : Program) (rvs : List ResultVar) (R : LV → Prop) : Ex → St → Prop
  | .exit _, _ => False
  | _, st => Ret P rvs R st

def resM (tmps : Array Value) : ResultVar → Sem Value
  | .tmp t => pure (tmps.getD t undef)
  | .cell a t => do loadVar t (← asAddr (tmps.getD a undef))

section
variable {P : Program} {X : Ctx} {st : St} {a : Act} {w : World} {F : Nat → Prop} {ρ : Locs}
theorem load_res {t : TypeId} {p : Nat} {v : Value} (h : (execOp a.eval { dst := none, op := .load t (.tmp p), type := 0, pos := "", after := #[], guard := none }).run P w = .ok (.value v) w) : (resM a.tmps (.cell p t)).run P w = .ok v w := by
  simp only [execOp, Sem.run_bind, Instr.loadAt] at h
  simp only [resM, Sem.run_bind]
  change (((Instr.sureAddr (a.tmps.getD p undef)).run P w).andThen fun p w => (loadVar t p).run P w).andThen _ = _ at h
  revert h
  generalize a.tmps.getD p undef = q
  intro h
  cases q with
  | pointer q =>
    cases q with
    | none => simp [Instr.sureAddr, stuck, Result.andThen] at h
    | some q =>
      simp only [Instr.sureAddr, asAddr, Sem.run_pure, Result.andThen_ok] at h ⊢
      cases hl : (loadVar t q).run P w with
      | ok u w' =>
        rw [hl] at h
        simp only [Result.andThen_ok, Sem.run_pure] at h
        injection h with h1 h2
        injection h1 with h1
        rw [h1, h2]
      | halt x w' => rw [hl] at h; simp [Result.andThen] at h
  | _ => simp [Instr.sureAddr, stuck, Result.andThen] at h

theorem resV_sound (h : Inv X st a w F ρ) {r : ResultVar} {v : LV} (hr : ResV P st r v) : ∃ val, (resM a.tmps r).run P w = .ok val w ∧ RelL w F ρ st.m val v := by
  cases hr with
  | tmp ht => exact ⟨_, rfl, ht ▸ h.slots _⟩
  | @cell p t b g i c x cs v ha hm hg hk he ht hv =>
    have hx := h.slots p
    rw [ha] at hx
    obtain ⟨-, l, hl, hx⟩ := hx.toRef hm hg
    obtain ⟨u, hu, hr⟩ := h.boxCell hm hk hl he hv
    refine ⟨u, ?_, hr.relL⟩
    refine load_res ?_
    simp only [execOp, Sem.run_bind]
    change ((Instr.loadAt t (a.tmps.getD p undef)).run P w).andThen _ = _
    rw [hx, run_load1 (P := P) ht hu, Result.andThen_ok]
    rfl
  | @cellA p t b g i c n x cs ha hm hg hk he ht hs hc =>
    have hx := h.slots p
    rw [ha] at hx
    obtain ⟨-, l, hl, hx⟩ := hx.toRef hm hg
    obtain ⟨vs, hn, hcells⟩ := cells_list (P := fun j v => ∃ q, cs[c + j]? = some q ∧ RelL w F ρ st.m v q) (w := w) (blk := l.blk) (o := l.base + (i * x.sz + c)) (n := n) fun j hj => by
      have hq : cs[c + j]? = some (cs[c + j]'(by omega)) := List.getElem?_eq_getElem _
      obtain ⟨u, hu, hr⟩ := h.boxCell hm hk hl he hq
      exact ⟨u, by rw [show l.base + (i * x.sz + c) + j = l.base + (i * x.sz + (c + j)) by omega]; exact hu, _, hq, hr.relL⟩
    refine ⟨.agg vs.toArray, load_res ?_, aggOfCells hn hc fun j v hv => (hcells j v hv).2⟩
    have := run_loadA (P := P) (w := w) (p := ⟨l.blk, l.base + (i * x.sz + c), none⟩) ht hs hn (fun j v hv => by rw [add_plain]; exact (hcells j v hv).1)
    simp only [execOp, Sem.run_bind]
    change ((Instr.loadAt t (a.tmps.getD p undef)).run P w).andThen _ = _
    rw [hx, this, Result.andThen_ok]
    rfl

theorem resVs_sound (h : Inv X st a w F ρ) {rs : List ResultVar} {vs : List LV} (hr : ResVs P st rs vs) : ∃ vals, (rs.mapM (resM a.tmps)).run P w = .ok vals w ∧ RelL w F ρ st.m (.agg vals.toArray) (.agg vs) := by
  induction hr with
  | nil => exact ⟨[], rfl, .agg rfl fun i v l hv => by simp at hv⟩
  | cons h1 hs ih =>
    obtain ⟨val, g1, g2⟩ := resV_sound h h1
    obtain ⟨vals, g3, g4⟩ := ih
    refine ⟨val :: vals, ?_, RelL.consAgg g2 g4⟩
    simp only [List.mapM_cons, Sem.run_bind, g1, g3, Result.andThen_ok]
    rfl

theorem results_sound (h : Inv X st a w F ρ) {fn : Func} {vs : List LV} (hr : ResVs P st fn.results.toList vs) : ∃ val, (results fn a.tmps).run P w = .ok val w ∧ RelL w F ρ st.m val (oneOf vs) := by
  obtain ⟨vals, g1, g2⟩ := resVs_sound h hr
  have hm : (fn.results.mapM (resM a.tmps)).run P w = .ok vals.toArray w := by
    have : fn.results = fn.results.toList.toArray := by simp
    rw [this, List.mapM_toArray]
    simp only [map_eq_pure_bind, Sem.run_bind, g1, Result.andThen_ok]
    rfl
  have hres : (results fn a.tmps).run P w = .ok (if h : vals.toArray.size = 1 then vals.toArray[0] else .tuple vals.toArray) w := by
    have hfun : ∀ g : ResultVar → Sem Value, (∀ r, g r = resM a.tmps r) → Sem.run P (do let us ← fn.results.mapM g; pure (if h : us.size = 1 then us[0] else Value.tuple us)) w =
        .ok (if h : vals.toArray.size = 1 then vals.toArray[0] else .tuple vals.toArray) w := by
      intro g hg
      rw [funext hg, Sem.run_bind, hm]
      rfl
    exact hfun _ fun r => by cases r <;> rfl
  obtain ⟨cs, e1, e2, e3⟩ := g2.cells
  injection e1 with e1
  subst e1
  refine ⟨_, hres, ?_⟩
  by_cases h1 : vals.toArray.size = 1
  · rw [dif_pos h1]
    rw [h1] at e2
    obtain ⟨v, rfl⟩ := List.length_eq_one_iff.1 e2.symm
    exact e3 0 _ v (by rw [Array.getElem?_eq_getElem (by omega)]) rfl
  · rw [dif_neg h1]
    have : oneOf vs = .tup vs := by
      unfold oneOf
      split
      · simp at e2; simp at h1; omega
      · rfl
    rw [this]
    exact .tup e2 e3
end

/-- The slots at a call's beginning. -/
def argS (args : List LV) : Slots := fun j =>
  match args[j]? with
  | some v => v
  | none => .skip

theorem CallsR.intro {P : Program} {I : InlP} (hI : InlS P I) (hmix : P.follows .mixedOrders = true) {f : FuncId} {fn : Func} {c : Code} (hf : P.funcs[f]? = some fn) (hb : fn.body = some c) (hname : (fn.name == "runtime.NumGoroutine") = false)
    {args : List LV} {R : LV → Prop} (hlen : args.length ≤ fn.ntmps) (hd : dstsOK fn.ntmps c = true) {nb : Nat} (hw : Wp P I nb c (RetX P fn.results.toList R) ⟨argS args, fun _ => none⟩) : CallsR P f args R := by
  refine ⟨⟨fn, hf, hname, by rw [hb]; rfl⟩, fun w F vs hrel hlt => ?_⟩
  obtain ⟨cs, e1, e2, e3⟩ := hrel.cells
  injection e1 with e1
  subst e1
  refine calls_of_wp hf hb ?_
  have hinv : Inv ⟨w, F, [], fun _ _ => False⟩ ⟨argS args, fun _ => none⟩ { tmps := vs ++ Array.replicate (fn.ntmps - vs.size) undef, defers := [] } w F (fun _ => none) := by
    refine ⟨rfl, fun j => ?_, fun n x hx => (by cases hx), fun n x l hx => (by cases hx), fun n n' x x' l l' hx => (by cases hx), fun b h => h, fun b h => .inl h, hlt, Ext.refl _ _, fun v l h => h.elim⟩
    show RelL w F _ _ _ (argS args j)
    unfold argS
    rw [Array.getD_eq_getD_getElem?]
    by_cases hj : j < vs.size
    · rw [Array.getElem?_append_left hj, Array.getElem?_eq_getElem hj]
      have hj' : j < args.length := by omega
      rw [List.getElem?_eq_getElem hj']
      exact .frz (e3 j _ _ (Array.getElem?_eq_getElem hj) (List.getElem?_eq_getElem hj'))
    · rw [List.getElem?_eq_none (by omega)]
      have : ((vs ++ Array.replicate (fn.ntmps - vs.size) undef)[j]?).getD Go.undef = Go.undef := by
        rw [Array.getElem?_append_right (by omega)]
        by_cases h2 : j - vs.size < fn.ntmps - vs.size
        · rw [Array.getElem?_eq_getElem (by simpa using h2)]
          simp
        · rw [Array.getElem?_eq_none (by simp; omega)]
          rfl
      rw [this]
      exact .frz .skip
  refine wp_mono (Wp.sound hI hmix c hd hw hinv (by simp; omega)) fun e a w' hp => ?_
  obtain ⟨ex, st, F', ρ, rfl, hq, hi, -⟩ := hp
  have key : Ret P fn.results.toList R st → a.defers = [] ∧ ∃ v, (results fn a.tmps).run P w' = .ok v w' ∧ ∃ v_1 res F' O, Ending.returned v = .returned v_1 ∧ R res ∧ Ext [] w w' ∧ (∀ b, F b → F' b) ∧ (∀ b, F' b → F b ∨ w.heap.size ≤ b) ∧ (∀ b, F' b → b < w'.heap.size) ∧
      RelI w' F' v_1 res O ∧ O.Nodup ∧ ∀ b ∈ O, b < w'.heap.size ∧ ¬ F' b ∧ w.heap.size ≤ b := by
    rintro ⟨vs', v', T, M, h1, h2, h3, h4, h5⟩
    obtain ⟨val, k1, k2⟩ := results_sound hi h1
    obtain ⟨O, k3, k4, k5⟩ := Exp.sound hi h2 val k2 h3 h4
    refine ⟨hi.defers, val, k1, val, v', FT F' ρ T, O, rfl, h5, hi.ext, fun b hb => .inl (hi.frz0 b hb), fun b hb => ?_, fun b hb => ?_, k3, k5, fun b hb => ?_⟩
    · rcases hb with hb | ⟨n, hn, l, hl, rfl⟩
      · rcases hi.frz1 b hb with h6 | h6 | h6
        · exact .inl h6
        · cases h6
        · exact .inr h6
      · obtain ⟨x, hx⟩ := Option.isSome_iff_exists.1 (h2.some n hn)
        obtain ⟨p1, p2, p3⟩ := hi.place n x l hx hl
        cases hxf : x.frz with
        | true =>
          rcases hi.frz1 _ (p2 hxf) with h6 | h6 | h6
          · exact .inl h6
          · cases h6
          · exact .inr h6
        | false =>
          rcases (p3 hxf).2 with h6 | h6
          · cases h6
          · exact .inr h6
    · rcases hb with hb | ⟨n, hn, l, hl, rfl⟩
      · exact hi.frzlt b hb
      · obtain ⟨x, hx⟩ := Option.isSome_iff_exists.1 (h2.some n hn)
        exact (hi.place n x l hx hl).1
    · obtain ⟨n, hn, x, lc, hx, hxf, hl, rfl⟩ := k4 b hb
      obtain ⟨p1, p2, p3⟩ := hi.place n x lc hx hl
      refine ⟨p1, ?_, ?_⟩
      · rintro (h6 | ⟨n', hn', l', hl', he⟩)
        · exact (p3 hxf).1 h6
        · obtain ⟨x', hx'⟩ := Option.isSome_iff_exists.1 (h2.some n' hn')
          cases hxf' : x'.frz with
          | true => exact (p3 hxf).1 (he ▸ (hi.place n' x' l' hx' hl').2.1 hxf')
          | false =>
            have := hi.inj n n' x x' lc l' hx hx' hxf hxf' hl hl' he.symm
            subst this
            exact h4 n hn hn'
      · rcases (p3 hxf).2 with h6 | h6
        · cases h6
        · exact h6
  cases ex with
  | normal => exact key hq
  | ret => exact key hq
  | exit id => exact hq.elim

/-- What a function hands back that was lent memory: its result, and what argument j (which it began with as u) comes to. -/
def RetJ (P : Program) (rvs : List ResultVar) (ju : Option LV) (R : LV → LV → Prop) (st : St) : Prop :=
  match ju with
  | none => ∃ vs v T M, ResVs P st rvs vs ∧ Exp st.m (oneOf vs) v T M ∧ M.Nodup ∧ (∀ n ∈ M, n ∉ T) ∧ R v .undef
  | some u => ∃ vs v q T M, ResVs P st rvs vs ∧ Exp st.m (.agg [oneOf vs, u]) (.agg [v, q]) T M ∧ M.Nodup ∧ (∀ n ∈ M, n ∉ T) ∧ R v q
def RetJX (P : Program) (rvs : List ResultVar) (ju : Option LV) (R : LV → LV → Prop) : Ex → St → Prop
  | .exit _, _ => False
  | _, st => ∃ st', Weak st st' ∧ RetJ P rvs ju R st'
theorem RetJX.ret {P : Program} {rvs : List ResultVar} {ju : Option LV} {R : LV → LV → Prop} {st : St} (h : RetJ P rvs ju R st) : RetJX P rvs ju R .ret st := ⟨st, Weak.refl _, h⟩
theorem RetJX.normal {P : Program} {rvs : List ResultVar} {ju : Option LV} {R : LV → LV → Prop} {st : St} (h : RetJ P rvs ju R st) : RetJX P rvs ju R .normal st := ⟨st, Weak.refl _, h⟩

theorem CallsM.intro {P : Program} {I : InlP} (hI : InlS P I) (hmix : P.follows .mixedOrders = true) {f : FuncId} {fn : Func} {c : Code} (hf : P.funcs[f]? = some fn) (hb : fn.body = some c) (hname : (fn.name == "runtime.NumGoroutine") = false)
    {args ls : List LV} {e : List (Nat × Box)} {j : Option Nat} {ju : Option LV} {R : LV → LV → Prop} (hlen : args.length ≤ fn.ntmps) (hd : dstsOK fn.ntmps c = true) {nb : Nat} (ht : args.all topI = true) (hi : impAs (fun _ => none) 500000000 args = (ls, e))
    (hj : ∀ k, j = some k → ∃ u, ju = some u ∧ ls[k]? = some u) (hj0 : j = none → ju = none)
    (hw : Wp P I nb c (RetJX P fn.results.toList ju R) ⟨argS ls, effM (fun _ => none) e⟩) : CallsM P f args j R := by
  refine ⟨⟨fn, hf, hname, by rw [hb]; rfl⟩, fun w F vs O hrel hOnd hlt hO => ?_⟩
  refine calls_of_wp hf hb ?_
  have h0 : Inv ⟨w, F, O, fun v l => ∃ k : Nat, v = vs.getD k Go.undef ∧ ls[k]? = some l⟩ ⟨fun _ => .undef, fun _ => none⟩ { tmps := vs ++ Array.replicate (fn.ntmps - vs.size) undef, defers := [] } w F (fun _ => none) →
      Inv ⟨w, F, O, fun v l => ∃ k : Nat, v = vs.getD k Go.undef ∧ ls[k]? = some l⟩ ⟨fun _ => .undef, fun _ => none⟩ { tmps := vs ++ Array.replicate (fn.ntmps - vs.size) undef, defers := [] } w F (fun _ => none) := id
  have hbase : Inv ⟨w, F, O, fun _ _ => False⟩ ⟨fun _ => .undef, fun _ => none⟩ { tmps := vs ++ Array.replicate (fn.ntmps - vs.size) undef, defers := [] } w F (fun _ => none) :=
    ⟨rfl, fun j => .frz (.undef _), fun n x hx => (by cases hx), fun n x l hx => (by cases hx), fun n n' x x' l l' hx => (by cases hx), fun b h => h, fun b h => .inl h, hlt, Ext.refl _ _, fun v l h => h.elim⟩
  have hfree : FreeB ⟨w, F, O, fun _ _ => False⟩ ⟨fun _ => .undef, fun _ => none⟩ w F (fun _ => none) O := fun b hb => ⟨(hO b hb).1, (hO b hb).2, .inl hb, fun k x l hx => (by cases hx)⟩
  obtain ⟨ρ0, k1, k2, -⟩ := impAs_took args hbase (us := vs.toList) (by simpa using hrel) hfree hOnd ht 500000000
  rw [hi] at k1 k2
  simp only at k1 k2
  obtain ⟨cs, e1, e2, e3⟩ := k2.cells
  have hcs : cs = vs := by
    injection e1 with e1
    rw [← e1]
  subst hcs
  have hargl : args.length = cs.size := by
    have := hrel
    rw [show cs = ⟨cs.toList⟩ by simp] at this
    have := impAs_len args this
    simpa using this.symm
  have hget : ∀ k l, ls[k]? = some l → RelL w F ρ0 (effM (fun _ => none) e) (cs.getD k Go.undef) l := fun k l hk => by
    have hkl : k < cs.size := by rw [e2]; exact (List.getElem?_eq_some_iff.1 hk).1
    rw [Array.getD_eq_getD_getElem?, Array.getElem?_eq_getElem hkl]
    exact e3 k _ l (Array.getElem?_eq_getElem hkl) hk
  have hinv : Inv ⟨w, F, O, fun v l => ∃ k : Nat, v = cs.getD k Go.undef ∧ ls[k]? = some l⟩ ⟨argS ls, effM (fun _ => none) e⟩ { tmps := cs ++ Array.replicate (fn.ntmps - cs.size) undef, defers := [] } w F ρ0 := by
    refine ⟨rfl, fun i => ?_, k1.boxes, k1.place, k1.inj, k1.frz0, k1.frz1, k1.frzlt, k1.ext, fun v l hv => ?_⟩
    · show RelL w F ρ0 _ _ (argS ls i)
      unfold argS
      rw [Array.getD_eq_getD_getElem?]
      by_cases hi' : i < cs.size
      · rw [Array.getElem?_append_left hi', Array.getElem?_eq_getElem hi']
        have hi2 : i < ls.length := by omega
        rw [List.getElem?_eq_getElem hi2]
        exact e3 i _ _ (Array.getElem?_eq_getElem hi') (List.getElem?_eq_getElem hi2)
      · rw [List.getElem?_eq_none (by omega)]
        have : ((cs ++ Array.replicate (fn.ntmps - cs.size) undef)[i]?).getD Go.undef = Go.undef := by
          rw [Array.getElem?_append_right (by omega)]
          by_cases h2 : i - cs.size < fn.ntmps - cs.size
          · rw [Array.getElem?_eq_getElem (by simpa using h2)]
            simp
          · rw [Array.getElem?_eq_none (by simp; omega)]
            rfl
        rw [this]
        exact .frz .skip
    · obtain ⟨k, rfl, hk⟩ := hv
      exact hget k l hk
  refine wp_mono (Wp.sound hI hmix c hd hw hinv (by simp; omega)) fun ee a w' hp => ?_
  obtain ⟨ex, st1, F1, ρ1, rfl, hq, hi1, -⟩ := hp
  have hq2 : (ex = .normal ∨ ex = .ret) ∧ ∃ st, Weak st1 st ∧ RetJ P fn.results.toList ju R st := by
    cases ex with
    | normal => exact ⟨.inl rfl, hq⟩
    | ret => exact ⟨.inr rfl, hq⟩
    | exit id => exact hq.elim
  obtain ⟨hex, st, hwk, hRJ⟩ := hq2
  obtain ⟨F', ρ, hi'⟩ := hwk _ _ _ _ _ hi1
  -- what is handed over at the end
  have fin : ∀ {l l' : LV} {T M : List Nat} {val : Value}, RelL w' F' ρ st.m val l → Exp st.m l l' T M → M.Nodup → (∀ n ∈ M, n ∉ T) →
      ∃ O', RelI w' (FT F' ρ T) val l' O' ∧ O'.Nodup ∧ (∀ b ∈ O', b < w'.heap.size ∧ ¬ FT F' ρ T b ∧ (b ∈ O ∨ w.heap.size ≤ b)) ∧ (∀ b, F b → FT F' ρ T b) ∧ (∀ b, FT F' ρ T b → F b ∨ b ∈ O ∨ w.heap.size ≤ b) ∧ (∀ b, FT F' ρ T b → b < w'.heap.size) := by
    intro l l' T M val hv hx hM hMT
    obtain ⟨O', k3, k4, k5⟩ := Exp.sound hi' hx val hv hM hMT
    refine ⟨O', k3, k5, fun b hb => ?_, fun b hb => .inl (hi'.frz0 b hb), fun b hb => ?_, fun b hb => ?_⟩
    · obtain ⟨n, hn, x, lc, hx', hxf, hl, rfl⟩ := k4 b hb
      obtain ⟨p1, p2, p3⟩ := hi'.place n x lc hx' hl
      refine ⟨p1, ?_, (p3 hxf).2⟩
      rintro (h6 | ⟨n', hn', l', hl', he⟩)
      · exact (p3 hxf).1 h6
      · obtain ⟨x', hx''⟩ := Option.isSome_iff_exists.1 (hx.some n' hn')
        cases hxf' : x'.frz with
        | true => exact (p3 hxf).1 (he ▸ (hi'.place n' x' l' hx'' hl').2.1 hxf')
        | false =>
          have := hi'.inj n n' x x' lc l' hx' hx'' hxf hxf' hl hl' he.symm
          subst this
          exact hMT n hn hn'
    · rcases hb with hb | ⟨n, hn, l, hl, rfl⟩
      · exact hi'.frz1 b hb
      · obtain ⟨x, hx'⟩ := Option.isSome_iff_exists.1 (hx.some n hn)
        obtain ⟨p1, p2, p3⟩ := hi'.place n x l hx' hl
        cases hxf : x.frz with
        | true => exact hi'.frz1 _ (p2 hxf)
        | false => exact .inr (p3 hxf).2
    · rcases hb with hb | ⟨n, hn, l, hl, rfl⟩
      · exact hi'.frzlt b hb
      · obtain ⟨x, hx'⟩ := Option.isSome_iff_exists.1 (hx.some n hn)
        exact (hi'.place n x l hx' hl).1
  have key : RetJ P fn.results.toList ju R st → a.defers = [] ∧ ∃ v, (results fn a.tmps).run P w' = .ok v w' ∧ ∃ v_1 res q F' O1 O2, Ending.returned v = .returned v_1 ∧ R res q ∧ Ext O w w' ∧ (∀ b, F b → F' b) ∧ (∀ b, F' b → F b ∨ b ∈ O ∨ w.heap.size ≤ b) ∧ (∀ b, F' b → b < w'.heap.size) ∧
      RelI w' F' v_1 res O1 ∧ (∀ k, j = some k → RelI w' F' (cs.getD k Go.undef) q O2) ∧ (j = none → O2 = []) ∧ (O1 ++ O2).Nodup ∧ ∀ b ∈ O1 ++ O2, b < w'.heap.size ∧ ¬ F' b ∧ (b ∈ O ∨ w.heap.size ≤ b) := by
    intro hR
    cases hju : ju with
    | none =>
      rw [hju] at hR
      obtain ⟨vs', v', T, M, h1, h2, h3, h4, h5⟩ := hR
      obtain ⟨val, r1, r2⟩ := results_sound hi' h1
      obtain ⟨O', g1, g2, g3, g4, g5, g6⟩ := fin r2 h2 h3 h4
      refine ⟨hi'.defers, val, r1, val, v', .undef, FT F' ρ T, O', [], rfl, h5, hi'.ext, g4, g5, g6, g1, fun k hk => ?_, fun _ => rfl, by simpa using g2, by simpa using g3⟩
      obtain ⟨u, e4, -⟩ := hj k hk
      rw [hju] at e4
      cases e4
    | some u =>
      rw [hju] at hR
      obtain ⟨vs', v', q', T, M, h1, h2, h3, h4, h5⟩ := hR
      obtain ⟨val, r1, r2⟩ := results_sound hi' h1
      obtain ⟨k, hjk⟩ : ∃ k, j = some k := by
        cases j with
        | none => rw [hj0 rfl] at hju; cases hju
        | some k => exact ⟨k, rfl⟩
      obtain ⟨u', e4, e5⟩ := hj k hjk
      rw [hju] at e4
      injection e4 with e4
      subst e4
      have hk2 : RelL w' F' ρ st.m (cs.getD k Go.undef) u := hi'.kept _ _ ⟨k, rfl, e5⟩
      obtain ⟨O', g1, g2, g3, g4, g5, g6⟩ := fin (val := .agg #[val, cs.getD k Go.undef]) (RelL.consAgg r2 (RelL.consAgg hk2 (.agg rfl (by simp)))) h2 h3 h4
      obtain ⟨x1, xs1, P1, P2, z1, rfl, z3, z4⟩ := g1.uncons
      obtain ⟨x2, xs2, P3, P4, z5, rfl, z7, z8⟩ := z4.uncons
      obtain ⟨z9, rfl⟩ := z8.nil
      injection z1 with z1
      injection z5 with z5
      injection z5 with z5
      subst z5
      injection z1 with z1
      injection z1 with z1 z10
      injection z10 with z10
      subst z1 z10
      rw [List.append_nil] at g2 g3
      refine ⟨hi'.defers, val, r1, val, v', q', FT F' ρ T, P1, P3, rfl, h5, hi'.ext, g4, g5, g6, z3, fun k' hk' => ?_, fun h => ?_, g2, g3⟩
      · rw [hjk] at hk'
        injection hk' with hk'
        subst hk'
        exact z7
      · rw [hjk] at h
        cases h
  rcases hex with rfl | rfl
  · exact key hRJ
  · exact key hRJ
end Go.Proofs.Ytffnlhjdlhpmjaa.Mv

/- The steps of a proof about one function: one lemma for each kind of operation. -/
set_option linter.unusedVariables false
set_option linter.unusedSimpArgs false
namespace Go.Proofs.Ytffnlhjdlhpmjaa.Mv

/-- No calls in place. -/
def I0 : InlP := fun _ _ _ _ _ => False
theorem I0.sound (P : Program) : InlS P I0 := fun _ _ _ _ _ h => h.elim
def InlM (I : InlP) : Prop := ∀ nb f args m R R', (∀ v m, R v m → R' v m) → I nb f args m R → I nb f args m R'
theorem I0.mono : InlM I0 := fun _ _ _ _ _ _ _ h => h

theorem WpOps.mono {P : Program} {I : InlP} (hI : InlM I) {nb : Nat} {ops : Array Oper} {Q Q' : St → Prop} (h : ∀ s, Q s → Q' s) : ∀ {l : List Nat} {st : St}, WpOps P I nb ops Q l st → WpOps P I nb ops Q' l st
  | [], _, hw => h _ hw
  | i :: r, st, hw => by
    simp only [WpOps] at hw ⊢
    cases ho : ops[i]? with
    | none => rw [ho] at hw; exact WpOps.mono hI h hw
    | some o =>
      rw [ho] at hw
      simp only at hw ⊢
      cases hg : wantedL ops o st.ts with
      | none => rw [hg] at hw; exact hw.elim
      | some b =>
        rw [hg] at hw
        cases b with
        | true => exact WpOp.mono hI hw fun v m hv => WpOps.mono hI h hv
        | false => exact WpOps.mono hI h hw
theorem DOps.mono {P : Program} {nb : Nat} {ops : Array Oper} {Q Q' : St → Prop} (h : ∀ s, Q s → Q' s) : ∀ {l : List Nat} {acc : List (Nat × List Nat × List Nat)} {st : St}, DOps P nb ops Q l acc st → DOps P nb ops Q' l acc st
  | [], _, _, hw => ⟨hw.1, h _ hw.2⟩
  | i :: r, acc, st, hw => by
    simp only [DOps] at hw ⊢
    cases ho : ops[i]? with
    | none => rw [ho] at hw; exact hw.elim
    | some o =>
      rw [ho] at hw
      simp only at hw ⊢
      cases hg : wantedL ops o st.ts with
      | none => rw [hg] at hw; exact hw.elim
      | some b =>
        rw [hg] at hw
        cases b with
        | true =>
          obtain ⟨d, h1, h2⟩ := hw
          exact ⟨d, h1, DOps.mono h h2⟩
        | false => exact DOps.mono h hw
theorem Wp.mono {P : Program} {I : InlP} (hI : InlM I) {nb : Nat} : ∀ {c : Code} {Q Q' : Ex → St → Prop} {st : St}, (∀ e s, Q e s → Q' e s) → Wp P I nb c Q st → Wp P I nb c Q' st := by
  intro c
  induction c with
  | skip => intro Q Q' st h hw; exact h _ _ hw
  | region id ops d =>
    intro Q Q' st h hw
    cases d with
    | false => exact WpOps.mono hI (h _) hw
    | true =>
      obtain ⟨s, h1, h2⟩ := hw
      exact ⟨s, h1, DOps.mono (h _) h2⟩
  | seq x y ihx ihy =>
    intro Q Q' st h hw
    refine ihx (thenX.mono (fun s hs => ?_) h) hw
    obtain ⟨s', h1, h2⟩ := hs
    exact ⟨s', h1, ihy h h2⟩
  | cond c x y ihx ihy =>
    intro Q Q' st h hw
    obtain ⟨b, h1, h2, h3⟩ := hw
    exact ⟨b, h1, fun hb => ihx h (h2 hb), fun hb => ihy h (h3 hb)⟩
  | block id c ih =>
    intro Q Q' st h hw
    refine ih (fun e s hs => ?_) hw
    cases e with
    | normal => exact h _ _ hs
    | exit id' =>
      simp only [blockX] at hs ⊢
      split <;> simp_all
    | ret => exact h _ _ hs
  | loop c ih =>
    intro Q Q' st h hw X h1 h2
    exact hw X h1 fun s hs => h2 s (ih (thenX.mono (fun _ h => h) h) hs)
  | exit id => intro Q Q' st h hw; exact h _ _ hw
  | ret => intro Q Q' st h hw; exact h _ _ hw
  | _ => intro Q Q' st h hw; exact hw.elim

section
variable {P : Program} {I : InlP} {nb : Nat} {Q : Ex → St → Prop} {st : St}

/-! ### Code -/
theorem Wp.seqI {x y : Code} (h : Wp P I nb x (thenX (fun s => ∃ s', Weak s s' ∧ Wp P I nb y Q s') Q) st) : Wp P I nb (.seq x y) Q st := h
theorem goOn {y : Code} (h : Wp P I nb y Q st) : thenX (fun s => ∃ s', Weak s s' ∧ Wp P I nb y Q s') Q .normal st := ⟨st, Weak.refl st, h⟩
theorem goLess {y : Code} {f g : Slots} {m : Mem} (hl : LessS f g) (h : Wp P I nb y Q ⟨g, m⟩) : thenX (fun s => ∃ s', Weak s s' ∧ Wp P I nb y Q s') Q .normal ⟨f, m⟩ := ⟨_, hl.weak m, h⟩
/-- What is the same behind several ways, once. -/
theorem Wp.cut (hI : InlM I) {x y : Code} (A : St → Prop) (h : Wp P I nb x (thenX A Q) st) (hy : ∀ s, A s → Wp P I nb y Q s) : Wp P I nb (.seq x y) Q st :=
  Wp.mono (Q := thenX A Q) (Q' := thenX (fun s => ∃ s', Weak s s' ∧ Wp P I nb y Q s') Q) hI (fun e s hs => by cases e <;> first | exact ⟨s, Weak.refl s, hy s hs⟩ | exact hs) h
theorem Wp.condI {c : Operand} {x y : Code} {b : Bool} (hc : evalO st.ts c = .bool b) (h1 : b = true → Wp P I nb x Q st) (h2 : b = false → Wp P I nb y Q st) : Wp P I nb (.cond c x y) Q st := ⟨b, hc, h1, h2⟩
theorem Wp.condT {c : Operand} {x y : Code} (hc : evalO st.ts c = .bool true) (h : Wp P I nb x Q st) : Wp P I nb (.cond c x y) Q st := ⟨true, hc, fun _ => h, fun h => (by cases h)⟩
theorem Wp.condF {c : Operand} {x y : Code} (hc : evalO st.ts c = .bool false) (h : Wp P I nb y Q st) : Wp P I nb (.cond c x y) Q st := ⟨false, hc, fun h => (by cases h), fun _ => h⟩
theorem Wp.blockI {id : Nat} {c : Code} (h : Wp P I nb c (blockX id Q) st) : Wp P I nb (.block id c) Q st := h
theorem Wp.exitI {id : Nat} (h : Q (.exit id) st) : Wp P I nb (.exit id) Q st := h
theorem Wp.retI (h : Q .ret st) : Wp P I nb .ret Q st := h
theorem Wp.skipI (h : Q .normal st) : Wp P I nb .skip Q st := h
theorem thenX.exit {K : St → Prop} {id : Nat} (h : Q (.exit id) st) : thenX K Q (.exit id) st := h
theorem thenX.ret {K : St → Prop} (h : Q .ret st) : thenX K Q .ret st := h
theorem blockX.out {id : Nat} (h : Q .normal st) : blockX id Q (.exit id) st := by
  simp only [blockX, Nat.beq_refl]
  exact h
theorem blockX.on {id id' : Nat} (hn : Nat.beq id' id = false) (h : Q (.exit id') st) : blockX id Q (.exit id') st := by
  simp only [blockX, hn]
  exact h
theorem blockX.normal {id : Nat} (h : Q .normal st) : blockX id Q .normal st := h
theorem blockX.ret {id : Nat} (h : Q .ret st) : blockX id Q .ret st := h
theorem RetX.ret {rvs : List ResultVar} {R : LV → Prop} (h : Ret P rvs R st) : RetX P rvs R .ret st := h
theorem RetX.normal {rvs : List ResultVar} {R : LV → Prop} (h : Ret P rvs R st) : RetX P rvs R .normal st := h

/-- A round's end: the same shape again, and less to do. -/
def Again {α : Type} (A : α → St → Prop) (μ : α → Nat) (a : α) (s : St) : Prop := ∃ a', μ a' < μ a ∧ ∃ s', Weak s s' ∧ A a' s'
theorem Wp.loopI (hI : InlM I) {c : Code} {α : Type} (A : α → St → Prop) (μ : α → Nat) (a0 : α) (h0 : ∃ s', Weak st s' ∧ A a0 s') (hr : ∀ a s, A a s → Wp P I nb c (thenX (Again A μ a) Q) s) : Wp P I nb (.loop c) Q st := by
  intro X hX1 hX2
  have key : ∀ n a s, μ a = n → A a s → X s := by
    intro n
    induction n using Nat.strongRecOn with
    | _ n ih =>
      intro a s hn ha
      refine hX2 s (Wp.mono hI (thenX.mono (fun s1 hs1 => ?_) fun _ _ h => h) (hr a s ha))
      obtain ⟨a', h1, s', h2, h3⟩ := hs1
      exact hX1 s1 s' h2 (ih (μ a') (hn ▸ h1) a' s' rfl h3)
  obtain ⟨s', h1, h2⟩ := h0
  exact hX1 st s' h1 (key _ a0 s' rfl h2)

/-! ### Operations -/
/-- The rest of a region, operation by operation; 'd': in any order that its edges allow. -/
def GL (P : Program) (I : InlP) (nb : Nat) (ops : Array Oper) (K : St → Prop) (d : Bool) : List Oper → Nat → List (Nat × List Nat × List Nat) → St → Prop
  | [], _, acc, st => (d = true → (edgesOK ops (BB ops) && pairsOK ops (BB ops) acc) = true) ∧ K st
  | o :: r, i, acc, st =>
    match wantedL ops o st.ts with
    | some true =>
      match d with
      | false => WpOp P I nb o st fun v m => GL P I nb ops K d r (i + 1) acc ⟨putS st.ts o.dst v, m⟩
      | true => ∃ dd, DOp P nb o st dd ∧ GL P I nb ops K d r (i + 1) ((i, Wn dd.eff, dd.R) :: acc) ⟨putS st.ts o.dst dd.v, effM st.m dd.eff⟩
    | some false => GL P I nb ops K d r (i + 1) ((i, [], []) :: acc) ⟨putS st.ts o.dst .skip, st.m⟩
    | none => False
variable {ops : Array Oper} {K : St → Prop} {r : List Oper} {ts : Slots} {m : Mem} {t : Nat} {ty : TypeId} {pos : String} {af : Array Edge} {d : Bool} {i : Nat} {acc : List (Nat × List Nat × List Nat)}
theorem GL.accI (hI : InlM I) : ∀ {r : List Oper} {i i' : Nat} {acc acc' : List (Nat × List Nat × List Nat)} {st : St}, GL P I nb ops K false r i acc st → GL P I nb ops K false r i' acc' st
  | [], _, _, _, _, _, h => ⟨fun h => (by cases h), h.2⟩
  | o :: r, i, i', acc, acc', st, h => by
    simp only [GL] at h ⊢
    cases hw : wantedL ops o st.ts with
    | none => rw [hw] at h; exact h.elim
    | some b =>
      rw [hw] at h
      cases b with
      | true => exact WpOp.mono hI h fun v m hv => GL.accI hI hv
      | false => exact GL.accI hI h
theorem GL.opsF (hI : InlM I) : ∀ {l : List Oper} {k : Nat} {acc : List (Nat × List Nat × List Nat)} {st : St}, (∀ i, l[i]? = ops[k + i]?) → GL P I nb ops K false l k acc st → WpOps P I nb ops K (List.range' k l.length) st
  | [], _, _, _, _, h => h.2
  | o :: r, k, acc, st, hi, h => by
    have h0 : ops[k]? = some o := by simpa using (hi 0).symm
    have hr : ∀ i, r[i]? = ops[k + 1 + i]? := fun i => by have := hi (i + 1); simpa [Nat.add_assoc, Nat.add_comm 1 i] using this
    rw [List.length_cons, List.range'_succ]
    simp only [WpOps, h0, GL] at h ⊢
    cases hw : wantedL ops o st.ts with
    | none => rw [hw] at h; exact h.elim
    | some b =>
      rw [hw] at h
      cases b with
      | true => exact WpOp.mono hI h fun v m hv => GL.opsF hI hr hv
      | false => exact GL.opsF hI hr h
theorem GL.opsD : ∀ {l : List Oper} {k : Nat} {acc : List (Nat × List Nat × List Nat)} {st : St}, (∀ i, l[i]? = ops[k + i]?) → GL P I nb ops K true l k acc st → DOps P nb ops K (List.range' k l.length) acc st
  | [], _, _, _, _, h => ⟨h.1 rfl, h.2⟩
  | o :: r, k, acc, st, hi, h => by
    have h0 : ops[k]? = some o := by simpa using (hi 0).symm
    have hr : ∀ i, r[i]? = ops[k + 1 + i]? := fun i => by have := hi (i + 1); simpa [Nat.add_assoc, Nat.add_comm 1 i] using this
    rw [List.length_cons, List.range'_succ]
    simp only [DOps, h0, GL] at h ⊢
    cases hw : wantedL ops o st.ts with
    | none => rw [hw] at h; exact h.elim
    | some b =>
      rw [hw] at h
      cases b with
      | true =>
        obtain ⟨dd, h1, h2⟩ := h
        exact ⟨dd, h1, GL.opsD hr h2⟩
      | false => exact GL.opsD hr h
theorem Wp.regI (hI : InlM I) {id : Nat} {ops : Array Oper} (h : GL P I nb ops (Q .normal) false ops.toList 0 [] st) : Wp P I nb (.region id ops false) Q st := by
  have := GL.opsF hI (k := 0) (fun i => by simp) h
  rw [← List.range_eq_range'] at this
  simpa [Wp] using this
theorem Wp.regD {id : Nat} {ops : Array Oper} (h : GL P I nb ops (Q .normal) true ops.toList 0 [] st) : Wp P I nb (.region id ops true) Q st := by
  have := GL.opsD (k := 0) (fun i => by simp) h
  rw [← List.range_eq_range'] at this
  exact ⟨st, Weak.refl st, by simpa using this⟩
theorem Wp.premark {id b : Nat} {x : Box} {ops : Array Oper} (hm : m b = some x) (h : Wp P I nb (.region id ops true) Q ⟨ts, updM m b ⟨x.gen, true, x.kind, x.sz, x.es⟩⟩) : Wp P I nb (.region id ops true) Q ⟨ts, m⟩ := by
  obtain ⟨s, h1, h2⟩ := h
  refine ⟨s, Weak.trans (Weak.mark ts m [b]) ?_, h2⟩
  simp only [markE, hm, effM]
  exact h1

theorem GL.doneF (h : K st) : GL P I nb ops K false [] i acc st := ⟨fun h => (by cases h), h⟩
theorem GL.doneT (hc : (edgesOK ops (BB ops) && pairsOK ops (BB ops) acc) = true) (h : K st) : GL P I nb ops K true [] i acc st := ⟨fun _ => hc, h⟩
theorem GL.step (hI : InlM I) {op : Op} {v : LV} {eff : List (Nat × Box)} {R : List Nat} (h : OpR P (nb + 64 * t) (evalO ts) m op v eff R) (hf : ∀ p ∈ eff, p.2.frz = false) (k : GL P I nb ops K d r (i + 1) ((i, Wn eff, R) :: acc) ⟨updS ts t v, effM m eff⟩) :
    GL P I nb ops K d (⟨some t, op, ty, pos, af, none⟩ :: r) i acc ⟨ts, m⟩ := by
  cases d with
  | false =>
    simp only [GL, wantedL]
    exact .op (o := ⟨some t, op, ty, pos, af, none⟩) h (GL.accI hI k)
  | true =>
    simp only [GL, wantedL]
    refine ⟨_, .op (o := ⟨some t, op, ty, pos, af, none⟩) h, ?_⟩
    simp only [unmark_new hf]
    exact k
theorem GL.stepN (hI : InlM I) {op : Op} {v : LV} {eff : List (Nat × Box)} {R : List Nat} (h : OpR P (nb + 64 * 4000) (evalO ts) m op v eff R) (hf : ∀ p ∈ eff, p.2.frz = false) (k : GL P I nb ops K d r (i + 1) ((i, Wn eff, R) :: acc) ⟨ts, effM m eff⟩) :
    GL P I nb ops K d (⟨none, op, ty, pos, af, none⟩ :: r) i acc ⟨ts, m⟩ := by
  cases d with
  | false =>
    simp only [GL, wantedL]
    exact .op (o := ⟨none, op, ty, pos, af, none⟩) h (GL.accI hI k)
  | true =>
    simp only [GL, wantedL]
    refine ⟨_, .op (o := ⟨none, op, ty, pos, af, none⟩) h, ?_⟩
    simp only [unmark_new hf]
    exact k
theorem GL.stepP (hI : InlM I) {op : Op} {v : LV} {R : List Nat} (h : OpR P (nb + 64 * t) (evalO ts) m op v [] R) (k : GL P I nb ops K d r (i + 1) ((i, [], R) :: acc) ⟨updS ts t v, m⟩) :
    GL P I nb ops K d (⟨some t, op, ty, pos, af, none⟩ :: r) i acc ⟨ts, m⟩ := .step hI h (by simp) k
theorem GL.guardT {dst : Option Nat} {op : Op} {g : Nat × Bool} (hg : wantedL ops ⟨dst, op, ty, pos, af, some g⟩ ts = some true) (k : GL P I nb ops K d (⟨dst, op, ty, pos, af, none⟩ :: r) i acc ⟨ts, m⟩) : GL P I nb ops K d (⟨dst, op, ty, pos, af, some g⟩ :: r) i acc ⟨ts, m⟩ := by
  cases d with
  | false =>
    simp only [GL, hg]
    simp only [GL, wantedL] at k
    cases k with
    | op h k => exact .op (o := ⟨dst, op, ty, pos, af, some g⟩) h k
    | any h k => exact .any (o := ⟨dst, op, ty, pos, af, some g⟩) h k
    | lend ho hg he hM hMT hc k => exact .lend (o := ⟨dst, op, ty, pos, af, some g⟩) ho hg he hM hMT hc k
    | lend1 ho hg he hM hMT hc hu k => exact .lend1 (o := ⟨dst, op, ty, pos, af, some g⟩) ho hg he hM hMT hc hu k
    | call ho hg hf hc k => exact .call (o := ⟨dst, op, ty, pos, af, some g⟩) ho hg hf hc k
    | callF ho hg hf hc k => exact .callF (o := ⟨dst, op, ty, pos, af, some g⟩) ho hg hf hc k
    | inl ho hg k => exact .inl (o := ⟨dst, op, ty, pos, af, some g⟩) ho hg k
  | true =>
    simp only [GL, hg]
    simp only [GL, wantedL] at k
    obtain ⟨dd, h1, h2⟩ := k
    refine ⟨dd, ?_, h2⟩
    cases h1 with
    | op h => exact .op (o := ⟨dst, op, ty, pos, af, some g⟩) h
    | call ho hg hf hc ht => exact .call (o := ⟨dst, op, ty, pos, af, some g⟩) ho hg hf hc ht
    | callF ho hg hf hc hl ht => exact .callF (o := ⟨dst, op, ty, pos, af, some g⟩) ho hg hf hc hl ht
theorem GL.guardF {op : Op} {g : Nat × Bool} (hg : wantedL ops ⟨some t, op, ty, pos, af, some g⟩ ts = some false) (k : GL P I nb ops K d r (i + 1) ((i, [], []) :: acc) ⟨updS ts t .skip, m⟩) : GL P I nb ops K d (⟨some t, op, ty, pos, af, some g⟩ :: r) i acc ⟨ts, m⟩ := by
  simp only [GL, hg]
  exact k
theorem GL.guardFN {op : Op} {g : Nat × Bool} (hg : wantedL ops ⟨none, op, ty, pos, af, some g⟩ ts = some false) (k : GL P I nb ops K d r (i + 1) ((i, [], []) :: acc) ⟨ts, m⟩) : GL P I nb ops K d (⟨none, op, ty, pos, af, some g⟩ :: r) i acc ⟨ts, m⟩ := by
  simp only [GL, hg]
  exact k

theorem GL.move (hI : InlM I) {x : Operand} {v : LV} (hx : evalO ts x = v) (k : GL P I nb ops K d r (i + 1) ((i, [], []) :: acc) ⟨updS ts t v, m⟩) : GL P I nb ops K d (⟨some t, .move x, ty, pos, af, none⟩ :: r) i acc ⟨ts, m⟩ := .stepP hI .move (hx ▸ k)
theorem GL.assign (hI : InlM I) {x : Operand} {v : LV} (hx : evalO ts x = v) (k : GL P I nb ops K d r (i + 1) ((i, [], []) :: acc) ⟨updS ts t v, m⟩) : GL P I nb ops K d (⟨some t, .assign x, ty, pos, af, none⟩ :: r) i acc ⟨ts, m⟩ := .stepP hI .assign (hx ▸ k)
theorem GL.pick (hI : InlM I) {c a b : Operand} {z : Bool} {v : LV} (hc : evalO ts c = .bool z) (hx : cond z (evalO ts a) (evalO ts b) = v) (k : GL P I nb ops K d r (i + 1) ((i, [], []) :: acc) ⟨updS ts t v, m⟩) : GL P I nb ops K d (⟨some t, .pick c a b, ty, pos, af, none⟩ :: r) i acc ⟨ts, m⟩ := .stepP hI (.pick hc) (hx ▸ k)
theorem GL.bin (hI : InlM I) {op : BinOp} {xt yt : TypeId} {x y : Operand} {v : LV} (h : binL P op xt (evalO ts x) (evalO ts y) = some v) (k : GL P I nb ops K d r (i + 1) ((i, [], []) :: acc) ⟨updS ts t v, m⟩) : GL P I nb ops K d (⟨some t, .binOp op xt x y yt, ty, pos, af, none⟩ :: r) i acc ⟨ts, m⟩ := .stepP hI (.bin h) (k)
theorem GL.un (hI : InlM I) {op : UnOp} {xt : TypeId} {x : Operand} {v : LV} (h : unL op (evalO ts x) = some v) (k : GL P I nb ops K d r (i + 1) ((i, [], []) :: acc) ⟨updS ts t v, m⟩) : GL P I nb ops K d (⟨some t, .unOp op xt x, ty, pos, af, none⟩ :: r) i acc ⟨ts, m⟩ := .stepP hI (.un h) (k)
theorem GL.load (hI : InlM I) {e : TypeId} {a : Operand} {b g j c : Nat} {x : Box} {cs : List LV} {v : LV} (ht : isAggT P e = some false) (ha : evalO ts a = .ref b g j c) (hm : m b = some x) (hg : x.gen = g) (hk : x.kind ≠ .mp) (he : x.es[j]? = some cs) (hv : cs[c]? = some v) (k : GL P I nb ops K d r (i + 1) ((i, [], [b]) :: acc) ⟨updS ts t v, m⟩) : GL P I nb ops K d (⟨some t, .load e a, ty, pos, af, none⟩ :: r) i acc ⟨ts, m⟩ := .stepP hI (.load ha hm hg hk he ht hv) (k)
theorem GL.loadA (hI : InlM I) {e : TypeId} {a : Operand} {b g j c n : Nat} {x : Box} {cs vs : List LV} (ht : isAggT P e = some true) (ha : evalO ts a = .ref b g j c) (hm : m b = some x) (hg : x.gen = g) (hk : x.kind ≠ .mp) (he : x.es[j]? = some cs) (hs : szT P e = some n) (hc : c + n ≤ cs.length) (hv : (cs.drop c).take n = vs) (k : GL P I nb ops K d r (i + 1) ((i, [], [b]) :: acc) ⟨updS ts t (.agg vs), m⟩) : GL P I nb ops K d (⟨some t, .load e a, ty, pos, af, none⟩ :: r) i acc ⟨ts, m⟩ := .stepP hI (.loadA ha hm hg hk he ht hs hc) (hv ▸ k)
theorem GL.loadF (hI : InlM I) {e : TypeId} {a : Operand} {es : List (List LV)} {j c : Nat} {cs : List LV} {v : LV} (ht : isAggT P e = some false) (ha : evalO ts a = .fad es j c) (he : es[j]? = some cs) (hv : cs[c]? = some v) (k : GL P I nb ops K d r (i + 1) ((i, [], []) :: acc) ⟨updS ts t v, m⟩) : GL P I nb ops K d (⟨some t, .load e a, ty, pos, af, none⟩ :: r) i acc ⟨ts, m⟩ := .stepP hI (.loadF ha he ht hv) (k)
theorem GL.loadFA (hI : InlM I) {e : TypeId} {a : Operand} {es : List (List LV)} {j c n : Nat} {cs vs : List LV} (ht : isAggT P e = some true) (ha : evalO ts a = .fad es j c) (he : es[j]? = some cs) (hs : szT P e = some n) (hc : c + n ≤ cs.length) (hv : (cs.drop c).take n = vs) (k : GL P I nb ops K d r (i + 1) ((i, [], []) :: acc) ⟨updS ts t (.agg vs), m⟩) : GL P I nb ops K d (⟨some t, .load e a, ty, pos, af, none⟩ :: r) i acc ⟨ts, m⟩ := .stepP hI (.loadFA ha he ht hs hc) (hv ▸ k)
theorem GL.fieldAddr (hI : InlM I) {s : TypeId} {x : Operand} {f b g j c o c' : Nat} {y : Box} (ho : offF P s f = some o) (hx : evalO ts x = .ref b g j c) (hm : m b = some y) (hg : y.gen = g) (hc : c + o = c') (k : GL P I nb ops K d r (i + 1) ((i, [], [b]) :: acc) ⟨updS ts t (.ref b g j c'), m⟩) : GL P I nb ops K d (⟨some t, .fieldAddr s x f, ty, pos, af, none⟩ :: r) i acc ⟨ts, m⟩ := .stepP hI (.fieldAddr hx hm hg ho) (hc ▸ k)
theorem GL.fieldAddrF (hI : InlM I) {s : TypeId} {x : Operand} {f j c o c' : Nat} {es : List (List LV)} (ho : offF P s f = some o) (hx : evalO ts x = .fad es j c) (hc : c + o = c') (k : GL P I nb ops K d r (i + 1) ((i, [], []) :: acc) ⟨updS ts t (.fad es j c'), m⟩) : GL P I nb ops K d (⟨some t, .fieldAddr s x f, ty, pos, af, none⟩ :: r) i acc ⟨ts, m⟩ := .stepP hI (.fieldAddrF hx ho) (hc ▸ k)
theorem GL.indexAddr (hI : InlM I) {st e : TypeId} {x ix : Operand} {kk : IntKind} {n : Int} {b g off len j : Nat} {cap : Option Nat} {y : Box} {sz : Nat} (ht : sliceE P st = some e) (hs : szT P e = some sz) (hx : evalO ts x = .own b g off len cap) (hi : evalO ts ix = .int kk n) (hm : m b = some y) (hg : y.gen = g) (hk : y.kind = .slc) (hz : y.sz = sz) (h0 : 0 ≤ n) (h1 : n < (len : Int)) (hj : off + n.toNat = j) (k : GL P I nb ops K d r (i + 1) ((i, [], [b]) :: acc) ⟨updS ts t (.ref b g j 0), m⟩) : GL P I nb ops K d (⟨some t, .indexAddr st x ix, ty, pos, af, none⟩ :: r) i acc ⟨ts, m⟩ := .stepP hI (.indexAddr hx hi hm hg hk ht (hz ▸ hs) h0 h1) (hj ▸ k)
theorem GL.indexAddrF (hI : InlM I) {st e : TypeId} {x ix : Operand} {kk : IntKind} {n : Int} {es : List (List LV)} {sz j : Nat} (ht : sliceE P st = some e) (hs : szT P e = some sz) (hx : evalO ts x = .sl es) (hi : evalO ts ix = .int kk n) (h0 : 0 ≤ n) (h1 : n < (es.length : Int)) (hz : ∀ e ∈ es, e.length = sz) (hj : n.toNat = j) (k : GL P I nb ops K d r (i + 1) ((i, [], []) :: acc) ⟨updS ts t (.fad es j 0), m⟩) : GL P I nb ops K d (⟨some t, .indexAddr st x ix, ty, pos, af, none⟩ :: r) i acc ⟨ts, m⟩ := .stepP hI (.indexAddrF hx hi ht hs h0 h1 hz) (hj ▸ k)
theorem GL.indexAddrA (hI : InlM I) {st e : TypeId} {x ix : Operand} {kk : IntKind} {n : Int} {b g j c len sz c' : Nat} {y : Box} (ht : arrayE P st = some (len, e)) (hs : szT P e = some sz) (hx : evalO ts x = .ref b g j c) (hi : evalO ts ix = .int kk n) (hm : m b = some y) (hg : y.gen = g) (h0 : 0 ≤ n) (h1 : n < (len : Int)) (hc : c + n.toNat * sz = c') (k : GL P I nb ops K d r (i + 1) ((i, [], [b]) :: acc) ⟨updS ts t (.ref b g j c'), m⟩) : GL P I nb ops K d (⟨some t, .indexAddr st x ix, ty, pos, af, none⟩ :: r) i acc ⟨ts, m⟩ := .stepP hI (.indexAddrA hx hi hm hg ht hs h0 h1) (hc ▸ k)
theorem GL.indexAddrFA (hI : InlM I) {st e : TypeId} {x ix : Operand} {kk : IntKind} {n : Int} {es : List (List LV)} {j c len sz c' : Nat} (ht : arrayE P st = some (len, e)) (hs : szT P e = some sz) (hx : evalO ts x = .fad es j c) (hi : evalO ts ix = .int kk n) (h0 : 0 ≤ n) (h1 : n < (len : Int)) (hc : c + n.toNat * sz = c') (k : GL P I nb ops K d r (i + 1) ((i, [], []) :: acc) ⟨updS ts t (.fad es j c'), m⟩) : GL P I nb ops K d (⟨some t, .indexAddr st x ix, ty, pos, af, none⟩ :: r) i acc ⟨ts, m⟩ := .stepP hI (.indexAddrFA hx hi ht hs h0 h1) (hc ▸ k)
theorem GL.extract (hI : InlM I) {x : Operand} {j : Nat} {vs : List LV} {v : LV} (hx : evalO ts x = .tup vs) (hv : vs[j]? = some v) (k : GL P I nb ops K d r (i + 1) ((i, [], []) :: acc) ⟨updS ts t v, m⟩) : GL P I nb ops K d (⟨some t, .extract x j, ty, pos, af, none⟩ :: r) i acc ⟨ts, m⟩ := .stepP hI (.extract hx hv) (k)
theorem GL.build (hI : InlM I) {e : TypeId} {ps : Array (Nat × Operand)} {v : LV} (h : buildL P e (ps.toList.map fun (i, x) => (i, evalO ts x)) = some v) (hp : (ps.toList.all fun p => (cellsL (evalO ts p.2)).all oneC) = true) (k : GL P I nb ops K d r (i + 1) ((i, [], []) :: acc) ⟨updS ts t v, m⟩) : GL P I nb ops K d (⟨some t, .build e ps, ty, pos, af, none⟩ :: r) i acc ⟨ts, m⟩ := .stepP hI (.build h hp) (k)
theorem GL.lenF (hI : InlM I) {x : Operand} {xt e : TypeId} {es : List (List LV)} {n : Nat} (ht : P.underlying xt = some (.slice e)) (hx : evalO ts x = .sl es) (hn : es.length = n) (k : GL P I nb ops K d r (i + 1) ((i, [], []) :: acc) ⟨updS ts t (.int .i64 n), m⟩) : GL P I nb ops K d (⟨some t, .call { callee := .builtin .len, args := #[x], argTypes := #[xt] }, ty, pos, af, none⟩ :: r) i acc ⟨ts, m⟩ := .stepP hI (.len (by rw [hx]; exact congrArg some hn) (by rw [hx]; exact .sl) (.inl ⟨⟨e, ht⟩, by simp [hx]⟩)) (k)
theorem GL.lenO (hI : InlM I) {x : Operand} {xt e : TypeId} {b g off n : Nat} {cap : Option Nat} {y : Box} (ht : P.underlying xt = some (.slice e)) (hx : evalO ts x = .own b g off n cap) (hm : m b = some y) (hg : y.gen = g) (k : GL P I nb ops K d r (i + 1) ((i, [], [b]) :: acc) ⟨updS ts t (.int .i64 n), m⟩) : GL P I nb ops K d (⟨some t, .call { callee := .builtin .len, args := #[x], argTypes := #[xt] }, ty, pos, af, none⟩ :: r) i acc ⟨ts, m⟩ := .stepP hI (.len (by rw [hx]; rfl) (by rw [hx]; exact .own hm hg) (.inl ⟨⟨e, ht⟩, by simp [hx]⟩)) (k)
theorem GL.lenN (hI : InlM I) {x : Operand} {xt e : TypeId} (ht : P.underlying xt = some (.slice e)) (hx : evalO ts x = .nils) (k : GL P I nb ops K d r (i + 1) ((i, [], []) :: acc) ⟨updS ts t (.int .i64 (0 : Nat)), m⟩) : GL P I nb ops K d (⟨some t, .call { callee := .builtin .len, args := #[x], argTypes := #[xt] }, ty, pos, af, none⟩ :: r) i acc ⟨ts, m⟩ := .stepP hI (.len (n := 0) (by rw [hx]; rfl) (by rw [hx]; exact .nils) (.inl ⟨⟨e, ht⟩, by simp [hx]⟩)) (k)
theorem GL.max (hI : InlM I) {x : Operand} {xs : List Operand} {tys : Array TypeId} {v : LV} (h : fold2L max2L (evalO ts x) (xs.map (evalO ts)) = some v) (k : GL P I nb ops K d r (i + 1) ((i, [], []) :: acc) ⟨updS ts t v, m⟩) : GL P I nb ops K d (⟨some t, .call { callee := .builtin .max, args := (x :: xs).toArray, argTypes := tys }, ty, pos, af, none⟩ :: r) i acc ⟨ts, m⟩ := .stepP hI (.max h) (k)
theorem GL.min (hI : InlM I) {x : Operand} {xs : List Operand} {tys : Array TypeId} {v : LV} (h : fold2L min2L (evalO ts x) (xs.map (evalO ts)) = some v) (k : GL P I nb ops K d r (i + 1) ((i, [], []) :: acc) ⟨updS ts t v, m⟩) : GL P I nb ops K d (⟨some t, .call { callee := .builtin .min, args := (x :: xs).toArray, argTypes := tys }, ty, pos, af, none⟩ :: r) i acc ⟨ts, m⟩ := .stepP hI (.min h) (k)
theorem GL.makeFunc (hI : InlM I) {f : FuncId} {cap : Array Operand} {caps : List LV} (h : cap.toList.map (evalO ts) = caps) (k : GL P I nb ops K d r (i + 1) ((i, [], []) :: acc) ⟨updS ts t (.fn f caps), m⟩) : GL P I nb ops K d (⟨some t, .makeFunc (.func f) #[] cap, ty, pos, af, none⟩ :: r) i acc ⟨ts, m⟩ := .stepP hI .makeFunc (h ▸ k)
theorem GL.alloc (hI : InlM I) {e : TypeId} {cs : List LV} {n : Nat} (h : zeroL P e = some cs) (hn : cs.length = n) (k : ∀ g, GL P I nb ops K d r (i + 1) ((i, [nb + 64 * t], [nb + 64 * t]) :: acc) ⟨updS ts t (.ref (nb + 64 * t) g 0 0), updM m (nb + 64 * t) ⟨g, false, .var, n, [cs]⟩⟩) :
    GL P I nb ops K d (⟨some t, .alloc e, ty, pos, af, none⟩ :: r) i acc ⟨ts, m⟩ := by
  subst hn
  exact .step hI (.alloc h) (by simp) (k _)
theorem GL.box (hI : InlM I) {e : TypeId} {x : Operand} {v : LV} {cs : List LV} {n : Nat} (hx : evalO ts x = v) (h : cellsL v = cs) (hn : cs.length = n) (h1 : cs.all oneC = true)
    (k : ∀ g, GL P I nb ops K d r (i + 1) ((i, [nb + 64 * t], [nb + 64 * t]) :: acc) ⟨updS ts t (.ref (nb + 64 * t) g 0 0), updM m (nb + 64 * t) ⟨g, false, .var, n, [cs]⟩⟩) : GL P I nb ops K d (⟨some t, .box e x, ty, pos, af, none⟩ :: r) i acc ⟨ts, m⟩ := by
  subst hn hx
  exact .step hI (.box h h1) (by simp) (k _)
theorem GL.store (hI : InlM I) {e : TypeId} {a y : Operand} {b g j c n : Nat} {x : Box} {cs vs cs' : List LV} {es' : List (List LV)} (hs : szT P e = some n) (ha : evalO ts a = .ref b g j c) (hm : m b = some x) (hg : x.gen = g) (hf : x.frz = false) (hk : x.kind = .var)
    (he : x.es[j]? = some cs) (hy : cellsL (evalO ts y) = vs) (hl : vs.length = n) (h1 : vs.all oneC = true) (hc : c + n ≤ cs.length) (hn : cs.take c ++ vs ++ cs.drop (c + n) = cs') (hn' : x.es.set j cs' = es')
    (k : GL P I nb ops K d r (i + 1) ((i, [b], [b]) :: acc) ⟨ts, updM m b ⟨g, false, .var, x.sz, es'⟩⟩) : GL P I nb ops K d (⟨none, .store e a y, ty, pos, af, none⟩ :: r) i acc ⟨ts, m⟩ := by
  refine .stepN hI (.store ha hm hg hf hk he hs hy hl h1 hc) (by simp [hf]) ?_
  rw [hn, hn']
  simp only [effM, Wn, List.map]
  rw [hg, hf, hk]
  exact k
/-- A slice's literal whose parts hold nothing of this call's own. -/
theorem GL.buildSlice0 (hI : InlM I) {e et : TypeId} {n sz : Nat} {ps : Array (Nat × Operand)} {z : List LV} {ps' : List (Nat × List LV)} {es : List (List LV)} (ht : sliceE P e = some et) (hz : zeroL P et = some z) (hzl : z.length = sz) (hs : szT P et = some sz) (hn : 0 < sz) (hb : n * sz ≤ 16777216) (hn0 : 0 < n) (hp : FrzP m sz n (evalO ts) ps.toList ps' [])
    (he : fillE (List.replicate n (z.map pureC)) ps' = es) (k : ∀ g, GL P I nb ops K d r (i + 1) ((i, [nb + 64 * t], [nb + 64 * t]) :: acc) ⟨updS ts t (.own (nb + 64 * t) g 0 n none), updM m (nb + 64 * t) ⟨g, false, .slc, sz, es⟩⟩) : GL P I nb ops K d (⟨some t, .buildSlice e n ps, ty, pos, af, none⟩ :: r) i acc ⟨ts, m⟩ := by
  subst he hzl
  exact .step hI (eff := [_]) (.buildSlice ht hz hs hn hb hn0 hp) (by simp) (k _)
theorem GL.appendN (hI : InlM I) {x y : Operand} {e u et : TypeId} {es : List (List LV)} {z : List LV} {R : List Nat} {sz n : Nat} (ht : sliceE P e = some et) (hu : u = e) (hz : zeroL P et = some z) (hzl : z.length = sz) (hs : szT P et = some sz) (h0 : 0 < sz) (hb : P.bytesOf et ≤ 4096) (hx : evalO ts x = .nils)
    (hy : SrcR m (evalO ts y) sz es R) (hn : es.length = n) (hpos : 0 < n) (hone : ∀ e ∈ es, e.all oneC = true) (h1 : n ≤ 4294967296)
    (k : ∀ g, GL P I nb ops K d r (i + 1) ((i, [nb + 64 * t], (nb + 64 * t) :: R) :: acc) ⟨updS ts t (.own (nb + 64 * t) g 0 n none), updM m (nb + 64 * t) ⟨g, false, .slc, sz, es⟩⟩) :
    GL P I nb ops K d (⟨some t, .call { callee := .builtin .append, args := #[x, y], argTypes := #[e, u] }, ty, pos, af, none⟩ :: r) i acc ⟨ts, m⟩ := by
  subst hzl hn
  exact .step hI (eff := [_]) (.appendN hx ht hu hz hs h0 hy hpos hone h1 hb) (by simp) (k _)
theorem GL.append (hI : InlM I) {x y : Operand} {e u et : TypeId} {b g off len n : Nat} {bx : Box} {es es' : List (List LV)} {z : List LV} {R : List Nat} {sz : Nat} (ht : sliceE P e = some et) (hu : u = e) (hz : zeroL P et = some z) (hzl : z.length = sz) (hs : szT P et = some sz) (h0 : 0 < sz) (hb : P.bytesOf et ≤ 4096)
    (hx : evalO ts x = .own b g off len none) (hm : m b = some bx) (hg : bx.gen = g) (hf : bx.frz = false) (hk : bx.kind = .slc) (hsz : bx.sz = sz) (hend : off + len = bx.es.length) (hy : SrcR m (evalO ts y) sz es R) (hyb : b ∉ R) (hpos : 0 < es.length) (hone : ∀ e ∈ es, e.all oneC = true) (hn : len + es.length = n) (h1 : n ≤ 4294967296)
    (he : bx.es.drop off ++ es = es') (k : GL P I nb ops K d r (i + 1) ((i, [b], b :: R) :: acc) ⟨updS ts t (.own b (g + 1) 0 n none), updM m b ⟨g + 1, false, .slc, sz, es'⟩⟩) :
    GL P I nb ops K d (⟨some t, .call { callee := .builtin .append, args := #[x, y], argTypes := #[e, u] }, ty, pos, af, none⟩ :: r) i acc ⟨ts, m⟩ := by
  subst hzl hn he
  refine .step hI (eff := [_]) (.append hx hm hg hf hk hend ht hu hz hs hsz h0 hy hyb hpos hone h1 hb) (by simp [hf]) ?_
  simp only [effM, Wn, List.map]
  rw [hf, hk, hsz]
  exact k
/-- A call that makes one result, of which nothing is this call's own; nothing was to be marked. -/
theorem GL.call0 (hI : InlM I) {g : Operand} {as : Array Operand} {tys : Array TypeId} {f : FuncId} {caps args : List LV} {T : List Nat} {res : LV} (hg : evalO ts g = .fn f caps) (hf : Frz m (.agg (as.toList.map (evalO ts) ++ caps)) (.agg args) T) (hc : CallsV P f args res)
    (hT : unmark m (markE m T) = []) (ht : topI res = true) (hr : ∀ m, impT m (nb + 64 * t) res = (res, [])) (k : GL P I nb ops K d r (i + 1) ((i, [], T) :: acc) ⟨updS ts t res, m⟩) :
    GL P I nb ops K d (⟨some t, .call { callee := .value g, args := as, argTypes := tys }, ty, pos, af, none⟩ :: r) i acc ⟨ts, m⟩ := by
  have hm : effM m (markE m T) = m := by rw [effM_unmarkE T fun n x hx => .inl hx, hT]; rfl
  cases d with
  | false =>
    simp only [GL, wantedL]
    refine .call (o := ⟨some t, .call { callee := .value g, args := as, argTypes := tys }, ty, pos, af, none⟩) rfl hg hf hc fun r' hr' => ?_
    subst hr'
    refine ⟨ht, ?_⟩
    simp only [nameO, Option.getD_some, hm, hr, effM]
    exact GL.accI hI k
  | true =>
    simp only [GL, wantedL]
    refine ⟨_, .call (o := ⟨some t, .call { callee := .value g, args := as, argTypes := tys }, ty, pos, af, none⟩) rfl hg hf hc ht, ?_⟩
    simp only [nameO, Option.getD_some, hm, hr, hT, effM, List.append_nil, Wn, List.map_nil]
    exact k
/-- A call behind which more is known to be read only. -/
theorem GL.callM (hI : InlM I) {g : Operand} {as : Array Operand} {tys : Array TypeId} {f : FuncId} {caps args : List LV} {T : List Nat} {res v : LV} {m' : Mem} {e : List (Nat × Box)} (hg : evalO ts g = .fn f caps) (hf : Frz m (.agg (as.toList.map (evalO ts) ++ caps)) (.agg args) T) (hc : CallsV P f args res)
    (hT : effM m (markE m T) = m') (ht : topI res = true) (hr : impT m' (nb + 64 * t) res = (v, e)) (k : GL P I nb ops K false r (i + 1) acc ⟨updS ts t v, effM m' e⟩) :
    GL P I nb ops K false (⟨some t, .call { callee := .value g, args := as, argTypes := tys }, ty, pos, af, none⟩ :: r) i acc ⟨ts, m⟩ := by
  simp only [GL, wantedL]
  refine .call (o := ⟨some t, .call { callee := .value g, args := as, argTypes := tys }, ty, pos, af, none⟩) rfl hg hf hc fun r' hr' => ?_
  subst hr'
  refine ⟨ht, ?_⟩
  simp only [nameO, Option.getD_some, hT, hr]
  exact k
end
/-! ### What is kept at a loop's head -/
def Has (m : Mem) : List (Nat × Box) → Prop
  | [] => True
  | (n, x) :: r => m n = some x ∧ Has m r
theorem Has.nil {m : Mem} : Has m [] := trivial
theorem Has.cons {m : Mem} {n : Nat} {x : Box} {r : List (Nat × Box)} (h : m n = some x) (hr : Has m r) : Has m ((n, x) :: r) := ⟨h, hr⟩
theorem effM_eq : ∀ {bs : List (Nat × Box)} {m : Mem}, Has m bs → effM m bs = m
  | [], _, _ => rfl
  | (n, x) :: r, m, h => by
    simp only [effM]
    rw [upd_eq h.1]
    exact effM_eq h.2
end Go.Proofs.Ytffnlhjdlhpmjaa.Mv

/- Arithmetic in range, slices of integers, and flags. -/
set_option linter.unusedVariables false
set_option linter.unusedSimpArgs false
namespace Go.Proofs.Ytffnlhjdlhpmjaa.Mv
open Go.IntWalk

/-- What an 'int' holds. -/
def In (n : Int) : Prop := -9223372036854775808 ≤ n ∧ n ≤ 9223372036854775807

section
variable {P : Program} {I : InlP} {nb : Nat} {ops : Array Oper} {K : St → Prop} {r : List Oper} {ts : Slots} {m : Mem} {t : Nat} {ty : TypeId} {pos : String} {af : Array Edge} {d : Bool} {i : Nat} {acc : List (Nat × List Nat × List Nat)}

theorem GL.addR (hI : InlM I) {xt yt : TypeId} {x y : Operand} {a b : Int} (hx : evalO ts x = .int .i64 a) (hy : evalO ts y = .int .i64 b) (h : -9223372036854775808 ≤ a + b ∧ a + b ≤ 9223372036854775807) (k : GL P I nb ops K d r (i + 1) ((i, [], []) :: acc) ⟨updS ts t (.int .i64 (a + b)), m⟩) :
    GL P I nb ops K d (⟨some t, .binOp .add xt x y yt, ty, pos, af, none⟩ :: r) i acc ⟨ts, m⟩ := .bin hI (v := .int .i64 (a + b)) (by simp [hx, hy, binL, binI, i64_in _ h]) k
theorem GL.subR (hI : InlM I) {xt yt : TypeId} {x y : Operand} {a b : Int} (hx : evalO ts x = .int .i64 a) (hy : evalO ts y = .int .i64 b) (h : -9223372036854775808 ≤ a - b ∧ a - b ≤ 9223372036854775807) (k : GL P I nb ops K d r (i + 1) ((i, [], []) :: acc) ⟨updS ts t (.int .i64 (a - b)), m⟩) :
    GL P I nb ops K d (⟨some t, .binOp .sub xt x y yt, ty, pos, af, none⟩ :: r) i acc ⟨ts, m⟩ := .bin hI (v := .int .i64 (a - b)) (by simp [hx, hy, binL, binI, i64_in _ h]) k
theorem GL.mulR (hI : InlM I) {xt yt : TypeId} {x y : Operand} {a b : Int} (hx : evalO ts x = .int .i64 a) (hy : evalO ts y = .int .i64 b) (h : -9223372036854775808 ≤ a * b ∧ a * b ≤ 9223372036854775807) (k : GL P I nb ops K d r (i + 1) ((i, [], []) :: acc) ⟨updS ts t (.int .i64 (a * b)), m⟩) :
    GL P I nb ops K d (⟨some t, .binOp .mul xt x y yt, ty, pos, af, none⟩ :: r) i acc ⟨ts, m⟩ := .bin hI (v := .int .i64 (a * b)) (by simp [hx, hy, binL, binI, i64_in _ h]) k
theorem GL.remR (hI : InlM I) {xt yt : TypeId} {x y : Operand} {a b : Int} (hx : evalO ts x = .int .i64 a) (hy : evalO ts y = .int .i64 b) (h : b ≠ 0) (k : GL P I nb ops K d r (i + 1) ((i, [], []) :: acc) ⟨updS ts t (.int .i64 (a.tmod b)), m⟩) :
    GL P I nb ops K d (⟨some t, .binOp .rem xt x y yt, ty, pos, af, none⟩ :: r) i acc ⟨ts, m⟩ := .bin hI (v := .int .i64 (a.tmod b)) (by simp [hx, hy, binL, binI, h]) k
theorem GL.quoR (hI : InlM I) {xt yt : TypeId} {x y : Operand} {a b : Int} (hx : evalO ts x = .int .i64 a) (hy : evalO ts y = .int .i64 b) (h : -9223372036854775808 ≤ a ∧ a ≤ 9223372036854775807 ∧ 1 ≤ b) (k : GL P I nb ops K d r (i + 1) ((i, [], []) :: acc) ⟨updS ts t (.int .i64 (a.tdiv b)), m⟩) :
    GL P I nb ops K d (⟨some t, .binOp .quo xt x y yt, ty, pos, af, none⟩ :: r) i acc ⟨ts, m⟩ := by
  have hb : b ≠ 0 := by omega
  exact .bin hI (v := .int .i64 (a.tdiv b)) (by simp [hx, hy, binL, binI, i64_quo' a b h, hb]) k
theorem GL.splitAt {z : Bool} {l : List Oper} (j : Nat) (hj : ts j = .bool z) (h1 : z = true → GL P I nb ops K d l i acc ⟨ts, m⟩) (h2 : z = false → GL P I nb ops K d l i acc ⟨ts, m⟩) : GL P I nb ops K d l i acc ⟨ts, m⟩ := by
  cases hz : z
  · exact h2 hz
  · exact h1 hz
/-- A value that is loaded, or stored, whole. -/
theorem GL.loadW (hI : InlM I) {e : TypeId} {a : Operand} {b g j n : Nat} {x : Box} {cs : List LV} (ht : isAggT P e = some true) (ha : evalO ts a = .ref b g j 0) (hm : m b = some x) (hg : x.gen = g) (hk : x.kind ≠ .mp) (he : x.es[j]? = some cs) (hs : szT P e = some n) (hn : cs.length = n)
    (k : GL P I nb ops K d r (i + 1) ((i, [], [b]) :: acc) ⟨updS ts t (.agg cs), m⟩) : GL P I nb ops K d (⟨some t, .load e a, ty, pos, af, none⟩ :: r) i acc ⟨ts, m⟩ :=
  .loadA hI ht ha hm hg hk he hs (by omega) (by rw [List.drop_zero, List.take_of_length_le (by omega)]) k
theorem GL.loadFW (hI : InlM I) {e : TypeId} {a : Operand} {es : List (List LV)} {j n : Nat} {cs : List LV} (ht : isAggT P e = some true) (ha : evalO ts a = .fad es j 0) (he : es[j]? = some cs) (hs : szT P e = some n) (hn : cs.length = n)
    (k : GL P I nb ops K d r (i + 1) ((i, [], []) :: acc) ⟨updS ts t (.agg cs), m⟩) : GL P I nb ops K d (⟨some t, .load e a, ty, pos, af, none⟩ :: r) i acc ⟨ts, m⟩ :=
  .loadFA hI ht ha he hs (by omega) (by rw [List.drop_zero, List.take_of_length_le (by omega)]) k
theorem GL.storeW (hI : InlM I) {e : TypeId} {a y : Operand} {b g n : Nat} {x : Box} {cs vs : List LV} (hs : szT P e = some n) (ha : evalO ts a = .ref b g 0 0) (hm : m b = some x) (hg : x.gen = g) (hf : x.frz = false) (hk : x.kind = .var)
    (he : x.es = [cs]) (hy : cellsL (evalO ts y) = vs) (hl : vs.length = n) (h1 : vs.all oneC = true) (hn : cs.length = n)
    (k : GL P I nb ops K d r (i + 1) ((i, [b], [b]) :: acc) ⟨ts, updM m b ⟨g, false, .var, x.sz, [vs]⟩⟩) : GL P I nb ops K d (⟨none, .store e a y, ty, pos, af, none⟩ :: r) i acc ⟨ts, m⟩ :=
  .store hI (cs := cs) (cs' := vs) (es' := [vs]) hs ha hm hg hf hk (by rw [he]; rfl) hy hl h1 (by omega) (by rw [List.take_zero, List.nil_append, List.drop_of_length_le (by omega), List.append_nil]) (by rw [he]; rfl) k
theorem GL.store1 (hI : InlM I) {e : TypeId} {a y : Operand} {b g c : Nat} {x : Box} {cs cs' : List LV} {v : LV} (hs : szT P e = some 1) (ha : evalO ts a = .ref b g 0 c) (hm : m b = some x) (hg : x.gen = g) (hf : x.frz = false) (hk : x.kind = .var)
    (he : x.es = [cs]) (hy : evalO ts y = v) (hv : cellsL v = [v]) (h1 : oneC v = true) (hc : c + 1 ≤ cs.length) (hn : cs.set c v = cs')
    (k : GL P I nb ops K d r (i + 1) ((i, [b], [b]) :: acc) ⟨ts, updM m b ⟨g, false, .var, x.sz, [cs']⟩⟩) : GL P I nb ops K d (⟨none, .store e a y, ty, pos, af, none⟩ :: r) i acc ⟨ts, m⟩ :=
  .store hI (cs := cs) (vs := [v]) (cs' := cs') (es' := [cs']) hs ha hm hg hf hk (by rw [he]; rfl) (by rw [hy, hv]) rfl (by simp [h1]) hc (by rw [← hn, List.set_eq_take_append_cons_drop, if_pos (by omega)]; simp) (by rw [he]; rfl) k
end

/-! ### Slices of integers -/
def iv (n : Int) : LV := .int .i64 n
def ie (l : List Int) : List (List LV) := l.map fun n => [.int .i64 n]
theorem ie_len (l : List Int) : (ie l).length = l.length := List.length_map ..
theorem ie_get {l : List Int} {i : Nat} (h : i < l.length) : (ie l)[i]? = some [.int .i64 (l.getD i 0)] := by
  simp [ie, List.getElem?_eq_getElem h]
theorem ie_sz (l : List Int) : ∀ e ∈ ie l, e.length = 1 := by
  intro e he
  obtain ⟨n, -, rfl⟩ := List.mem_map.1 he
  rfl
theorem ie_one (l : List Int) : ∀ e ∈ ie l, e.all oneC = true := by
  intro e he
  obtain ⟨n, -, rfl⟩ := List.mem_map.1 he
  rfl
theorem ie_app (l l' : List Int) : (ie l).drop 0 ++ ie l' = ie (l ++ l') := by simp [ie]
theorem ie_take (l : List Int) : ((ie l).drop 0).take l.length = ie l := by
  rw [List.drop_zero, List.take_of_length_le (by rw [ie_len]; exact Nat.le_refl _)]
theorem ie_snoc (l : List Int) (n : Int) : ie l ++ [[.int .i64 n]] = ie (l ++ [n]) := by simp [ie]
end Go.Proofs.Ytffnlhjdlhpmjaa.Mv

/- Lists of records as slices; the instances of the game. -/
set_option linter.unusedVariables false
set_option linter.unusedSimpArgs false
namespace Go.Proofs.Ytffnlhjdlhpmjaa.Mv

def em {α : Type} (f : α → List LV) (l : List α) : List (List LV) := l.map f
theorem em_len {α : Type} (f : α → List LV) (l : List α) : (em f l).length = l.length := List.length_map ..
theorem em_get {α : Type} [Inhabited α] {f : α → List LV} {l : List α} {i : Nat} (h : i < l.length) : (em f l)[i]? = some (f (l.getD i default)) := by
  simp [em, List.getElem?_eq_getElem h]
theorem em_sz {α : Type} {f : α → List LV} {k : Nat} (h : ∀ a, (f a).length = k) (l : List α) : ∀ e ∈ em f l, e.length = k := by
  intro e he
  obtain ⟨n, -, rfl⟩ := List.mem_map.1 he
  exact h n
theorem em_one {α : Type} {f : α → List LV} (h : ∀ a, (f a).all oneC = true) (l : List α) : ∀ e ∈ em f l, e.all oneC = true := by
  intro e he
  obtain ⟨n, -, rfl⟩ := List.mem_map.1 he
  exact h n
theorem em_app {α : Type} (f : α → List LV) (l l' : List α) : (em f l).drop 0 ++ em f l' = em f (l ++ l') := by simp [em]
theorem em_snoc {α : Type} (f : α → List LV) (l : List α) (a : α) : (em f l).drop 0 ++ [f a] = em f (l ++ [a]) := by simp [em]
theorem em_take {α : Type} (f : α → List LV) (l : List α) : ((em f l).drop 0).take l.length = em f l := by
  rw [List.drop_zero, List.take_of_length_le (by rw [em_len]; exact Nat.le_refl _)]
theorem em_slice {α : Type} (f : α → List LV) (l : List α) (a b : Nat) : ((em f l).drop a).take b = em f ((l.drop a).take b) := by simp [em, List.map_take, List.map_drop]

/-- Numbers, as elements. -/
def ni (n : Int) : List LV := [.int .i64 n]
/-- Rows of numbers, as elements. -/
def nr (l : List Int) : List LV := [.sl (em ni l)]

structure Car where
  c0 : Int
  c1 : Int
  c2 : Int
  deriving Inhabited
structure Stop where
  s0 : Int
  s1 : Int
  s2 : Int
  s3 : Int
  deriving Inhabited
structure Two where
  p0 : Int
  p1 : Int
  deriving Inhabited
structure Inst where
  cars : List Car
  stops : List Stop
  pairs : List Two
  travel : List (List Int)
def nc (c : Car) : List LV := [.int .i64 c.c0, .int .i64 c.c1, .int .i64 c.c2]
def ns (s : Stop) : List LV := [.int .i64 s.s0, .int .i64 s.s1, .int .i64 s.s2, .int .i64 s.s3]
def np (p : Two) : List LV := [.int .i64 p.p0, .int .i64 p.p1]
def ic (i : Inst) : List LV := [.sl (em nc i.cars), .sl (em ns i.stops), .sl (em np i.pairs), .sl (em nr i.travel)]
def ei (i : Inst) : LV := .agg (ic i)

/-- Nothing so long that a count of it would not be an 'int'. -/
def Short {α : Type} (l : List α) : Prop := l.length < 1073741824
structure Inst.Short (i : Inst) : Prop where
  cars : Mv.Short i.cars
  stops : Mv.Short i.stops
  pairs : Mv.Short i.pairs
  travel : Mv.Short i.travel
  rows : ∀ r ∈ i.travel, Mv.Short r
theorem Inst.Short.row {i : Inst} (h : i.Short) (a : Nat) : (i.travel.getD a default).length < 1073741824 := by
  by_cases ha : a < i.travel.length
  · rw [List.getD_eq_getElem?_getD, List.getElem?_eq_getElem ha]
    exact h.rows _ (List.getElem_mem ha)
  · rw [List.getD_eq_getElem?_getD, List.getElem?_eq_none (by omega)]
    decide

/-- A sum, as an 'int'. -/
def wadd (a b : Int) : Int := IntKind.i64.wrap (a + b)

def isStop (i : Inst) (n : Int) : Bool := decide (1 ≤ n) && decide (n ≤ (i.stops.length : Int))
def way (i : Inst) (a b : Int) : Int :=
  if a ≥ (i.travel.length : Int) then 0
  else if b ≥ ((i.travel.getD a.toNat default).length : Int) then 0
  else (i.travel.getD a.toNat default).getD b.toNat default
def within (a n : Int) : Int := if n < 1 then 0 else a % n
theorem within_tmod (a n : Int) (h : ¬ n < 1) : within a n = if a.tmod n < 0 then a.tmod n + n else a.tmod n := by
  have hn : 0 < n := by omega
  have h1 := Int.emod_nonneg a (show n ≠ 0 by omega)
  have h2 := Int.emod_lt_of_pos a hn
  unfold within
  rw [if_neg h, Int.tmod_eq_emod]
  split
  · rename_i h3
    rw [if_neg (by simp at h3 ⊢; omega)]
    simp
  · rename_i h3
    have : (n.natAbs : Int) = n := by omega
    rw [if_pos (by omega)]
    omega
end Go.Proofs.Ytffnlhjdlhpmjaa.Mv

/- What the small functions compute. -/
set_option linter.unusedVariables false
set_option linter.unusedSimpArgs false
namespace Go.Proofs.Ytffnlhjdlhpmjaa.Mv

theorem drop_getD {α : Type} [Inhabited α] {l : List α} {i : Nat} (h : i < l.length) : l.drop i = l.getD i default :: l.drop (i + 1) := by
  rw [List.drop_eq_getElem_cons h]
  simp [List.getElem?_eq_getElem h]
theorem drop_all {α : Type} {l : List α} {i : Nat} (h : ¬ i < l.length) : l.drop i = [] := List.drop_eq_nil_of_le (by omega)

def mate : List Two → Int → Int
  | [], _ => 0
  | p :: r, n => if n = p.p0 then p.p1 else if n = p.p1 then p.p0 else mate r n
def first : List Two → Int → Bool
  | [], _ => false
  | p :: r, n => if p.p0 = n then true else first r n
/-- Where a number stands in a list, or -1. -/
def index : List Int → Int → Int
  | [], _ => -1
  | x :: r, n => if n = x then 0 else if index r n < 0 then -1 else index r n + 1
theorem same_ext {l l' : List Int} (h : l.length = l'.length) (ha : ∀ j, j < l.length → l.getD j default = l'.getD j default) : l = l' := by
  refine List.ext_getElem h fun j h1 h2 => ?_
  have := ha j h1
  simpa [List.getElem?_eq_getElem h1, List.getElem?_eq_getElem h2] using this
end Go.Proofs.Ytffnlhjdlhpmjaa.Mv

/- Slices of frozen slices; what may be handed on as it is. -/
set_option linter.unusedVariables false
set_option linter.unusedSimpArgs false
namespace Go.Proofs.Ytffnlhjdlhpmjaa.Mv

theorem Frz.pures {m : Mem} : ∀ {cs : List LV}, cs.all pureL = true → Frz m (.agg cs) (.agg cs) []
  | [], _ => .aggn
  | c :: cs, h => by
    simp only [List.all_cons, Bool.and_eq_true] at h
    exact Frz.aggc (S := []) (T := []) (.pure h.1) (Frz.pures h.2)
/-- A slice of this call's own, as a whole. -/
theorem Frz.whole {m : Mem} {b g n : Nat} {cap : Option Nat} {x : Box} {es : List (List LV)} (hm : m b = Option.some x) (hg : x.gen = g) (hk : x.kind = .slc) (he : x.es = es) (hn : es.length = n) : Frz m (.own b g 0 n cap) (.sl es) [b] := by
  have := Frz.own (m := m) (b := b) (g := g) (off := 0) (len := n) (cap := cap) hm hg hk (by rw [he]; omega)
  rw [he, List.drop_zero, List.take_of_length_le (by omega)] at this
  exact this

section
variable {P : Program} {I : InlP} {nb : Nat} {ops : Array Oper} {K : St → Prop} {r : List Oper} {ts : Slots} {m : Mem} {t : Nat} {ty : TypeId} {pos : String} {af : Array Edge} {d : Bool} {i : Nat} {acc : List (Nat × List Nat × List Nat)}
theorem GL.sliceTo (hI : InlM I) {α : Type} {f : α → List LV} {l : List α} {st e : TypeId} {x y : Operand} {k : IntKind} {n : Int} {sz j : Nat} (ht : sliceE P st = some e) (hs : szT P e = some sz) (hx : evalO ts x = .sl (em f l)) (hy : evalO ts y = .int k n) (hz : ∀ e ∈ em f l, e.length = sz) (h0 : 0 ≤ n) (h1 : n ≤ (l.length : Int)) (hj : n.toNat = j)
    (kk : GL P I nb ops K d r (i + 1) ((i, [], []) :: acc) ⟨updS ts t (.sl (em f (l.take j))), m⟩) : GL P I nb ops K d (⟨some t, .slice st x none (some y) none, ty, pos, af, none⟩ :: r) i acc ⟨ts, m⟩ := by
  subst hj
  refine .stepP hI (.sliceF (l := 0) (h := n.toNat) hx ht hs hz rfl (by simp [bndL, hy, h0]) (Nat.zero_le _) (by rw [em_len]; omega)) ?_
  rw [em_slice, List.drop_zero, Nat.sub_zero]
  exact kk
theorem GL.sliceFrom (hI : InlM I) {α : Type} {f : α → List LV} {l : List α} {st e : TypeId} {x y : Operand} {k : IntKind} {n : Int} {sz j : Nat} (ht : sliceE P st = some e) (hs : szT P e = some sz) (hx : evalO ts x = .sl (em f l)) (hy : evalO ts y = .int k n) (hz : ∀ e ∈ em f l, e.length = sz) (h0 : 0 ≤ n) (h1 : n ≤ (l.length : Int)) (hj : n.toNat = j)
    (kk : GL P I nb ops K d r (i + 1) ((i, [], []) :: acc) ⟨updS ts t (.sl (em f (l.drop j))), m⟩) : GL P I nb ops K d (⟨some t, .slice st x (some y) none none, ty, pos, af, none⟩ :: r) i acc ⟨ts, m⟩ := by
  subst hj
  refine .stepP hI (.sliceF (l := n.toNat) (h := l.length) hx ht hs hz (by simp [bndL, hy, h0]) (by simp [bndL, em_len]) (by omega) (by rw [em_len]; omega)) ?_
  rw [em_slice, List.take_of_length_le (by simp)]
  exact kk
end

theorem Short.take {α : Type} {l : List α} (h : Short l) (k : Nat) : Short (l.take k) := by
  unfold Short at *
  simp
  omega
theorem Short.drop {α : Type} {l : List α} (h : Short l) (k : Nat) : Short (l.drop k) := by
  unfold Short at *
  simp
  omega
theorem index_lt : ∀ (l : List Int) (n : Int), index l n < (l.length : Int)
  | [], n => by simp [index]
  | x :: r, n => by
    have := index_lt r n
    simp only [index, List.length_cons]
    split
    · omega
    · split <;> omega
theorem index_ge : ∀ (l : List Int) (n : Int), -1 ≤ index l n
  | [], n => by simp [index]
  | x :: r, n => by
    have := index_ge r n
    simp only [index]
    split
    · omega
    · split <;> omega
theorem index_off : ∀ (l : List Int) (n : Int) (k : Nat), k ≤ l.length → (∀ j, j < k → n ≠ l.getD j default) → index l n = if index (l.drop k) n < 0 then -1 else index (l.drop k) n + (k : Int)
  | l, n, 0, _, _ => by
    have := index_ge l n
    simp only [List.drop_zero]
    split <;> omega
  | [], n, k + 1, hk, _ => by simp at hk
  | x :: r, n, k + 1, hk, h => by
    have h0 := h 0 (by omega)
    have hr := index_off r n k (by simpa using hk) fun j hj => by have := h (j + 1) (by omega); simpa using this
    simp only [index, List.drop_succ_cons]
    rw [if_neg (by simpa using h0), hr]
    have := index_ge (r.drop k) n
    split
    · simp
    · rw [if_neg (by omega)]
      omega

def has (l : List Int) (n : Int) : Bool := decide (index l n ≥ 0)
/-- One stop of a trip, in its order. -/
def chk (i : Inst) (l : List Int) (k : Nat) (x : Int) : Bool :=
  isStop i x && !has (l.take k) x && (decide (mate i.pairs x = 0) || (decide (¬ index l (mate i.pairs x) < 0) && (first i.pairs x == decide (index l (mate i.pairs x) > (k : Int)))))
def order (i : Inst) (l : List Int) : Bool := (List.range l.length).all fun k => chk i l k (l.getD k default)
theorem order_true {i : Inst} {l : List Int} (h : ∀ k, k < l.length → chk i l k (l.getD k default) = true) : order i l = true := by
  unfold order
  rw [List.all_eq_true]
  exact fun k hk => h k (List.mem_range.1 hk)
theorem order_false {i : Inst} {l : List Int} {k : Nat} (hk : k < l.length) (h : chk i l k (l.getD k default) = false) : order i l = false := by
  unfold order
  rw [List.all_eq_false]
  exact ⟨k, List.mem_range.2 hk, by simpa using h⟩

theorem isStop_nn {i : Inst} {n : Int} (h : isStop i n = true) : 0 ≤ n := by
  simp [isStop] at h
  omega
theorem isStop_le {i : Inst} {n : Int} (h : isStop i n = true) : 1 ≤ n ∧ n ≤ (i.stops.length : Int) := by
  simp [isStop] at h
  exact h

def costGo (i : Inst) : Int → Int → List Int → Int
  | at', s, [] => wadd s (way i at' 0)
  | at', s, x :: r => if isStop i x then costGo i x (wadd s (way i at' x)) r else 0
def cost (i : Inst) (l : List Int) : Int := costGo i 0 0 l
end Go.Proofs.Ytffnlhjdlhpmjaa.Mv

/- A nil slice is a slice of this call's own, of length none; what is put behind a slice of records. -/
set_option linter.unusedVariables false
set_option linter.unusedSimpArgs false
namespace Go.Proofs.Ytffnlhjdlhpmjaa.Mv

theorem Inv.noBox {X : Ctx} {st : St} {a : Act} {w : World} {F : Nat → Prop} {ρ : Locs} (h : Inv X st a w F ρ) (b sz : Nat) :
    Inv X ⟨st.ts, updM st.m b ⟨genAt st.m b, false, .slc, sz, []⟩⟩ a w F (updRo ρ b none) ∧ Compat st.m ρ (updM st.m b ⟨genAt st.m b, false, .slc, sz, []⟩) (updRo ρ b none) :=
  h.adopt (fun k hk => updRo_ne _ _ (Ne.symm hk)) rfl rfl (fun l hl => by rw [updRo_same] at hl; cases hl) fun _ => BoxOK.of_cells (by simp) (by rw [updRo_same]; exact rfl)

theorem own_nil {w : World} {F : Nat → Prop} {ρ : Locs} {m : Mem} {b g sz : Nat} {v : Value} (hv : v = .slice none 0 0) (hm : m b = some ⟨g, false, .slc, sz, []⟩) (hr : ρ b = none) : RelL w F ρ m v (.own b g 0 0 none) := by
  subst hv
  refine .own rfl hm (Nat.le_refl _) fun _ => ⟨rfl, Nat.le_refl _, ?_⟩
  rw [hr]
  exact ⟨none, rfl⟩

theorem Weak.nilSlot {ts : Slots} {m : Mem} {j : Nat} (b sz : Nat) (hj : ts j = .nils) : Weak ⟨ts, m⟩ ⟨updS ts j (.own b (genAt m b) 0 0 none), updM m b ⟨genAt m b, false, .slc, sz, []⟩⟩ := by
  intro X a w F ρ h
  obtain ⟨h1, h2⟩ := h.noBox b sz
  refine ⟨F, _, { h1 with slots := fun i => ?_ }⟩
  by_cases hi : j = i
  · subst hi
    have hv := h.slots j
    change RelL w F ρ m _ (ts j) at hv
    rw [hj] at hv
    show RelL w F _ _ _ (updS ts j _ j)
    rw [updS_same]
    exact own_nil hv.nils (updM_same _ _ _) (updRo_same _ _ _)
  · show RelL w F _ _ _ (updS ts j _ i)
    rw [updS_ne _ _ hi]
    exact h1.slots i

theorem Weak.nilCell {ts : Slots} {m : Mem} {n c : Nat} {x : Box} {cs : List LV} (b sz : Nat) (hn : m n = some x) (hf : x.frz = false) (hk : x.kind = .var) (he : x.es = [cs]) (hc : cs[c]? = some .nils) (hb : Nat.beq b n = false) :
    Weak ⟨ts, m⟩ ⟨ts, updM (updM m b ⟨genAt m b, false, .slc, sz, []⟩) n ⟨x.gen, false, .var, x.sz, [cs.set c (.own b (genAt m b) 0 0 none)]⟩⟩ := by
  intro X a w F ρ h
  have hbn : b ≠ n := fun e => by rw [e, Nat.beq_refl] at hb; cases hb
  obtain ⟨h1, -⟩ := h.noBox b sz
  have hn1 : (updM m b ⟨genAt m b, false, .slc, sz, []⟩) n = some x := by rw [updM_ne _ _ hbn]; exact hn
  have hcl := BoxOK.cells (by rw [hk]; simp) (h1.boxes n x hn1)
  refine ⟨F, _, h1.write (n := n) (ρ' := updRo ρ b none) (x' := ⟨x.gen, false, .var, x.sz, [cs.set c (.own b (genAt m b) 0 0 none)]⟩) rfl rfl rfl (Nat.le_refl _) (fun _ _ _ => rfl) (fun _ _ => rfl) rfl (fun y hy => ?_) (fun l hl => ?_) fun hcm _ => ?_⟩
  · change (updM m b _) n = some y at hy
    rw [hn1] at hy
    injection hy with hy
    subst hy
    exact .inl ⟨rfl, rfl, rfl, .inr (by rw [he]; rfl), hk.symm⟩
  · exact ⟨(h1.place n x l hn1 hl).1, .inr ⟨x, l, hn1, hf, hl, rfl⟩⟩
  · refine BoxOK.of_cells (by simp) ?_ (fun _ => (h1.boxes n x hn1).ext hk)
    unfold CellsOK at hcl ⊢
    cases hr : updRo ρ b none n with
    | none =>
      rw [hr] at hcl
      have hcl' : x.es = [] := hcl
      rw [he] at hcl'
      cases hcl'
    | some l =>
      rw [hr] at hcl
      obtain ⟨ks, t, g1, g2, g3, g4, g5⟩ := hcl
      rw [he] at g3 g4 g5
      rw [hk] at g5
      refine ⟨ks, t, g1, g2, g3, fun e hh => ?_, fun i e k q hi hq => ?_⟩
      · simp at hh
        subst hh
        rw [List.length_set]
        exact g4 cs (by simp)
      · have hi0 : i = 0 := by have := (List.getElem?_eq_some_iff.1 hi).1; simp at this; omega
        subst hi0
        simp only [List.getElem?_cons_zero, Option.some.injEq] at hi
        subst hi
        by_cases hkc : c = k
        · subst hkc
          have hlt : c < cs.length := (List.getElem?_eq_some_iff.1 hc).1
          rw [List.getElem?_set_self hlt] at hq
          injection hq with hq
          subst hq
          obtain ⟨v, hv, hrel⟩ := g5 0 cs c .nils (by simp) hc
          refine ⟨v, hv, ?_⟩
          have hv2 := (show RelL w F _ _ v .nils from hrel).nils
          exact own_nil hv2 (by rw [updM_ne _ _ (Ne.symm hbn)]; exact updM_same _ _ _) (updRo_same _ _ _)
        · rw [List.getElem?_set_ne hkc] at hq
          obtain ⟨v, hv, hrel⟩ := g5 0 cs k q (by simp) hq
          exact ⟨v, hv, (show RelL w F _ _ v q from hrel).mono (fun _ h => h) (fun _ _ => rfl) hcm⟩

section
variable {P : Program} {I : InlP} {nb : Nat} {Q : Ex → St → Prop} {ops : Array Oper} {K : St → Prop} {r : List Oper} {ts : Slots} {m : Mem} {t : Nat} {ty : TypeId} {pos : String} {af : Array Edge} {d : Bool} {i : Nat} {acc : List (Nat × List Nat × List Nat)}
/-- Behind a region one may know less. -/
theorem goWeak {y : Code} {s s' : St} (hw : Weak s s') (h : Wp P I nb y Q s') : thenX (fun s => ∃ s', Weak s s' ∧ Wp P I nb y Q s') Q .normal s := ⟨s', hw, h⟩

/-- One record is put behind a slice of this call's own. -/
theorem GL.append1 (hI : InlM I) {α : Type} {f : α → List LV} {l : List α} {v : α} {x y : Operand} {e u et : TypeId} {b g n b' g' : Nat} {cap : Option Nat} {bx by' : Box} {z : List LV} {sz : Nat} (hz : zeroL P et = some z) (hzl : z.length = sz) (hs : szT P et = some sz) (ht : sliceE P e = some et) (hu : u = e) (h0 : 0 < sz) (hb : P.bytesOf et ≤ 4096)
    (hx : evalO ts x = .own b g 0 n none) (hm : m b = some bx) (hg : bx.gen = g) (hf : bx.frz = false) (hk : bx.kind = .slc) (hsz : bx.sz = sz) (he : bx.es = em f l) (hn : n = l.length)
    (hy : evalO ts y = .own b' g' 0 1 cap) (hm' : m b' = some by') (hg' : by'.gen = g') (hk' : by'.kind = .slc) (hsz' : by'.sz = sz) (he' : by'.es = [f v]) (hbb : Nat.beq b b' = false) (h1 : (f v).all oneC = true) (hle : n + 1 ≤ 4294967296)
    (k : GL P I nb ops K d r (i + 1) ((i, [b], [b, b']) :: acc) ⟨updS ts t (.own b (g + 1) 0 (n + 1) none), updM m b ⟨g + 1, false, .slc, sz, em f (l ++ [v])⟩⟩) :
    GL P I nb ops K d (⟨some t, .call { callee := .builtin .append, args := #[x, y], argTypes := #[e, u] }, ty, pos, af, none⟩ :: r) i acc ⟨ts, m⟩ := by
  have hbn : b ≠ b' := fun e => by rw [e, Nat.beq_refl] at hbb; cases hbb
  have hsrc : SrcR m (evalO ts y) sz [f v] [b'] := by
    rw [hy]
    have := SrcR.own (m := m) (b := b') (g := g') (off := 0) (len := 1) (cap := cap) hm' hg' hk' (by rw [he']; simp)
    rw [he', hsz'] at this
    exact this
  exact .append hI ht hu hz hzl hs h0 hb hx hm hg hf hk hsz (by rw [he, em_len]; omega) hsrc (by simpa using hbn) (by simp) (by simpa using h1) rfl hle (by rw [he]; exact em_snoc f l v) k
end
end Go.Proofs.Ytffnlhjdlhpmjaa.Mv

/- What 'trip.Eval' computes. -/
set_option linter.unusedVariables false
set_option linter.unusedSimpArgs false
namespace Go.Proofs.Ytffnlhjdlhpmjaa.Mv

structure Trip where
  t0 : List Int
  t1 : List Int
  t2 : Int
  t3 : Int
  deriving DecidableEq
def zeroT : Trip := ⟨[], [], 0, 0⟩
def nt (t : Trip) : List LV := [.sl (em ni t.t0), .sl (em ni t.t1), .int .i64 t.t2, .int .i64 t.t3]
def imax (x y : Int) : Int := if y > x then y else x
def stopAt (i : Inst) (x : Int) : Stop := i.stops.getD (x - 1).toNat default
def evalGo (i : Inst) (c : Car) (at' clock load : Int) (ss ls : List Int) : List Int → Option (List Int × List Int × Int)
  | [] => if wadd clock (way i at' 0) > c.c2 then none else some (ss, ls, wadd clock (way i at' 0))
  | x :: r =>
    if imax (stopAt i x).s1 (wadd clock (way i at' x)) > (stopAt i x).s2 ∨ wadd load (stopAt i x).s0 < 0 ∨ wadd load (stopAt i x).s0 > c.c0 then none
    else evalGo i c x (wadd (imax (stopAt i x).s1 (wadd clock (way i at' x))) (stopAt i x).s3) (wadd load (stopAt i x).s0) (ss ++ [imax (stopAt i x).s1 (wadd clock (way i at' x))]) (ls ++ [wadd load (stopAt i x).s0]) r
def eval (i : Inst) (car : Int) (l : List Int) : Option Trip :=
  if car < 0 ∨ car ≥ (i.cars.length : Int) ∨ order i l = false then none
  else (evalGo i (i.cars.getD car.toNat default) 0 (i.cars.getD car.toNat default).c1 0 [] [] l).map fun r => ⟨r.1, r.2.1, cost i l, r.2.2⟩
def tripR (o : Option Trip) : LV := .tup [.agg (nt (o.getD zeroT)), .bool o.isSome]
theorem order_stop {i : Inst} {l : List Int} (h : order i l = true) (k : Nat) (hk : k < l.length) : isStop i (l.getD k default) = true := by
  unfold order at h
  rw [List.all_eq_true] at h
  have := h k (List.mem_range.2 hk)
  unfold chk at this
  simp only [Bool.and_eq_true] at this
  exact this.1.1
theorem eval_out {i : Inst} {car : Int} {l : List Int} (h : car < 0 ∨ car ≥ (i.cars.length : Int) ∨ order i l = false) : eval i car l = none := by
  rw [eval, if_pos h]
theorem eval_in {i : Inst} {car : Int} {l : List Int} (h0 : ¬ car < 0) (h1 : ¬ car ≥ (i.cars.length : Int)) (h2 : order i l = true) {r : Option (List Int × List Int × Int)} (h : evalGo i (i.cars.getD car.toNat default) 0 (i.cars.getD car.toNat default).c1 0 [] [] l = r) :
    eval i car l = r.map fun r => ⟨r.1, r.2.1, cost i l, r.2.2⟩ := by
  rw [eval, if_neg (by rw [h2]; simp; omega), h]
theorem evalGo_len (i : Inst) (c : Car) : ∀ (l : List Int) (p k o : Int) (ss ls : List Int) {r : List Int × List Int × Int}, evalGo i c p k o ss ls l = some r → r.1.length = ss.length + l.length ∧ r.2.1.length = ls.length + l.length
  | [], p, k, o, ss, ls, r, h => by
    simp only [evalGo] at h
    split at h
    · cases h
    · cases h
      simp
  | x :: t, p, k, o, ss, ls, r, h => by
    simp only [evalGo] at h
    split at h
    · cases h
    · have := evalGo_len i c t _ _ _ _ _ h
      simp at this ⊢
      omega
theorem eval_len {i : Inst} {car : Int} {l : List Int} : ((eval i car l).getD zeroT).t0.length ≤ l.length ∧ ((eval i car l).getD zeroT).t1.length ≤ l.length := by
  unfold eval
  split
  · simp [zeroT]
  · cases h : evalGo i (i.cars.getD car.toNat default) 0 (i.cars.getD car.toNat default).c1 0 [] [] l with
    | none => simp [zeroT]
    | some r =>
      have := evalGo_len _ _ _ _ _ _ _ _ h
      simp at this ⊢
      omega
end Go.Proofs.Ytffnlhjdlhpmjaa.Mv

/- Literals whose parts are slices; calls that are handed what is this call's own. -/
set_option linter.unusedVariables false
set_option linter.unusedSimpArgs false
namespace Go.Proofs.Ytffnlhjdlhpmjaa.Mv
/-- Operands, one by one. -/
inductive EvS (ts : Slots) : List (Nat × Operand) → List (Nat × LV) → Prop
  | nil : EvS ts [] []
  | cons {i : Nat} {x : Operand} {v : LV} {r : List (Nat × Operand)} {r' : List (Nat × LV)} (h : evalO ts x = v) (hs : EvS ts r r') : EvS ts ((i, x) :: r) ((i, v) :: r')
theorem EvS.map {ts : Slots} {ps : List (Nat × Operand)} {vs : List (Nat × LV)} (h : EvS ts ps vs) : (ps.map fun (i, x) => (i, evalO ts x)) = vs := by
  induction h with
  | nil => rfl
  | cons h hs ih => simp only [List.map_cons, h, ih]
theorem EvS.all {ts : Slots} {ps : List (Nat × Operand)} {vs : List (Nat × LV)} (h : EvS ts ps vs) : (ps.all fun p => (cellsL (evalO ts p.2)).all oneC) = vs.all fun p => (cellsL p.2).all oneC := by
  induction h with
  | nil => rfl
  | cons h hs ih => simp only [List.all_cons, h, ih]
/-- Parts of one cell each. -/
def setsL (place : Nat → Option (Nat × Nat)) (n : Nat) : List LV → List (Nat × LV) → Option (List LV)
  | cs, [] => some cs
  | cs, (i, v) :: r =>
    match place i with
    | some (off, 1) => bif oneC v && Nat.blt off n then setsL place n (cs.set off v) r else none
    | _ => none
theorem oneC_cells {v : LV} (h : oneC v = true) : cellsL v = [v] := by
  cases v <;> first | rfl | cases h
theorem setsL_fill {place : Nat → Option (Nat × Nat)} : ∀ {parts : List (Nat × LV)} {cs r : List LV}, setsL place cs.length cs parts = some r → fillL place cs parts = some r
  | [], _, _, h => h
  | (i, v) :: t, cs, r, h => by
    simp only [setsL] at h
    simp only [fillL]
    split at h
    · rename_i off hp
      rw [hp]
      cases hb : (oneC v && Nat.blt off cs.length) with
      | false => rw [hb] at h; cases h
      | true =>
        rw [hb] at h
        simp only [Bool.and_eq_true] at hb
        have hlt : off < cs.length := by have := hb.2; simp [Nat.blt] at this; omega
        have e := oneC_cells hb.1
        rw [e]
        show (if [v].length = 1 ∧ off + 1 ≤ cs.length then fillL place (cs.take off ++ [v] ++ cs.drop (off + 1)) t else none) = some r
        rw [if_pos ⟨rfl, by omega⟩]
        have e2 : cs.take off ++ [v] ++ cs.drop (off + 1) = cs.set off v := by
          rw [List.set_eq_take_append_cons_drop, if_pos hlt]
          simp
        rw [e2]
        refine setsL_fill (cs := cs.set off v) ?_
        rw [List.length_set]
        exact h
    · cases h

section
variable {P : Program} {I : InlP} {nb : Nat} {Q : Ex → St → Prop} {ops : Array Oper} {K : St → Prop} {r : List Oper} {ts : Slots} {m : Mem} {t : Nat} {ty : TypeId} {pos : String} {af : Array Edge} {d : Bool} {i : Nat} {acc : List (Nat × List Nat × List Nat)}
theorem GL.buildSliceM (hI : InlM I) {e et : TypeId} {n sz : Nat} {ps : Array (Nat × Operand)} {z : List LV} {ps' : List (Nat × List LV)} {T : List Nat} {m' : Mem} {es : List (List LV)} (ht : sliceE P e = some et) (hz : zeroL P et = some z) (hzl : z.length = sz) (hs : szT P et = some sz) (hn : 0 < sz) (hb : n * sz ≤ 16777216) (hn0 : 0 < n)
    (hp : FrzP m sz n (evalO ts) ps.toList ps' T) (hm : effM m (markE m T) = m') (he : fillE (List.replicate n (z.map pureC)) ps' = es) (k : ∀ g, GL P I nb ops K false r (i + 1) acc ⟨updS ts t (.own (nb + 64 * t) g 0 n none), updM m' (nb + 64 * t) ⟨g, false, .slc, sz, es⟩⟩) :
    GL P I nb ops K false (⟨some t, .buildSlice e n ps, ty, pos, af, none⟩ :: r) i acc ⟨ts, m⟩ := by
  subst he hzl hm
  simp only [GL, wantedL]
  refine .op (o := ⟨some t, .buildSlice e n ps, ty, pos, af, none⟩) (.buildSlice ht hz hs hn hb hn0 hp) ?_
  rw [effM_append]
  exact k _
theorem GL.callM0 (hI : InlM I) {g : Operand} {as : Array Operand} {tys : Array TypeId} {f : FuncId} {caps args : List LV} {T : List Nat} {res : LV} {m' : Mem} (hg : evalO ts g = .fn f caps) (hf : Frz m (.agg (as.toList.map (evalO ts) ++ caps)) (.agg args) T) (hc : CallsV P f args res)
    (hT : effM m (markE m T) = m') (ht : topI res = true) (hr : ∀ m, impT m (nb + 64 * t) res = (res, [])) (k : GL P I nb ops K false r (i + 1) acc ⟨updS ts t res, m'⟩) :
    GL P I nb ops K false (⟨some t, .call { callee := .value g, args := as, argTypes := tys }, ty, pos, af, none⟩ :: r) i acc ⟨ts, m⟩ := by
  simp only [GL, wantedL]
  refine .call (o := ⟨some t, .call { callee := .value g, args := as, argTypes := tys }, ty, pos, af, none⟩) rfl hg hf hc fun r' hr' => ?_
  subst hr'
  refine ⟨ht, ?_⟩
  simp only [nameO, Option.getD_some, hT, hr, effM]
  exact k
theorem GL.buildS (hI : InlM I) {e : TypeId} {ps : Array (Nat × Operand)} {vs : List (Nat × LV)} {z cs : List LV} {n : Nat} (hz : zeroL P e = some z) (hn : z.length = n) (hs : sizesOk P e = true) (hv : EvS ts ps.toList vs) (hp : (vs.all fun p => (cellsL p.2).all oneC) = true) (h : setsL (placeS P e) n z vs = some cs)
    (k : GL P I nb ops K d r (i + 1) ((i, [], []) :: acc) ⟨updS ts t (.agg cs), m⟩) : GL P I nb ops K d (⟨some t, .build e ps, ty, pos, af, none⟩ :: r) i acc ⟨ts, m⟩ := by
  subst hn
  refine .build hI ?_ (by rw [hv.all]; exact hp) k
  rw [hv.map, buildL, hz]
  simp only [hs, if_true, setsL_fill h, Option.map_some]
end
end Go.Proofs.Ytffnlhjdlhpmjaa.Mv
