/- What is handed back by a call, and taken in by its caller. -/
import Derived.Test.YtpepcfombibpeaaMv10
set_option linter.unusedVariables false
set_option linter.unusedSimpArgs false
namespace Go.Proofs.Ytpepcfombibpeaa.Mv

/-- What is handed over: some slices and variables whole; the last list: their blocks. -/
inductive RelI (w : World) (F : Nat → Prop) : Value → LV → List Nat → Prop
  | frz {v : Value} {l : LV} (h : RelF w F v l) : RelI w F v l []
  | slo0 {a : Option Addr} {sz : Nat} : RelI w F (.slice a 0 0) (.slo sz []) []
  | slo {blk off len cap sz : Nat} {es : List (List LV)} {cs : Array Value} {t : TypeId} (hl : len = es.length) (hc : len ≤ cap) (hb : w.heap[blk]? = some (.cells cs t (0, 0))) (hf : off + cap * sz ≤ cs.size)
      (hsz : ∀ e ∈ es, e.length = sz) (hcell : ∀ (i : Nat) e (c : Nat) q, es[i]? = some e → e[c]? = some q → ∃ v, cs[off + (i * sz + c)]? = some v ∧ RelF w F v q) :
      RelI w F (.slice (some ⟨blk, off, none⟩) len cap) (.slo sz es) [blk]
  | aggn : RelI w F (.agg #[]) (.agg []) []
  | aggc {v : Value} {vs : List Value} {l : LV} {ls : List LV} {O O' : List Nat} (h : RelI w F v l O) (hs : RelI w F (.agg ⟨vs⟩) (.agg ls) O') : RelI w F (.agg ⟨v :: vs⟩) (.agg (l :: ls)) (O ++ O')
  | tup {cs : Array Value} {ls : List LV} {O : List Nat} (h : RelI w F (.agg cs) (.agg ls) O) : RelI w F (.tuple cs) (.tup ls) O
  | ptro {blk off : Nat} {cs : Array Value} {t : TypeId} {ls : List LV} {O : List Nat} (hb : w.heap[blk]? = some (.cells cs t (0, 0))) (hf : off + ls.length ≤ cs.size)
      (h : RelI w F (.agg (cs.extract off (off + ls.length))) (.agg ls) O) : RelI w F (.pointer (some ⟨blk, off, none⟩)) (.ptro ls) (blk :: O)

/-- Handing over. -/
inductive Exp (m : Mem) : LV → LV → List Nat → List Nat → Prop
  | frz {l l' : LV} {T : List Nat} (h : Frz m l l' T) : Exp m l l' T []
  | skip : Exp m .skip .skip [] []
  | nils {sz : Nat} : Exp m .nils (.slo sz []) [] []
  | slo {b g off len : Nat} {x : Box} (hm : m b = some x) (hg : x.gen = g) (hf : x.frz = false) (hk : x.kind = .slc) (hend : off + len = x.es.length) : Exp m (.own b g off len none) (.slo x.sz (x.es.drop off)) [] [b]
  | aggn : Exp m (.agg []) (.agg []) [] []
  | aggc {l l' : LV} {ls ls' : List LV} {S T M N : List Nat} (h : Exp m l l' S M) (hs : Exp m (.agg ls) (.agg ls') T N) : Exp m (.agg (l :: ls)) (.agg (l' :: ls')) (S ++ T) (M ++ N)
  | tup {ls ls' : List LV} {T M : List Nat} (h : Exp m (.agg ls) (.agg ls') T M) : Exp m (.tup ls) (.tup ls') T M
  | ptro {b g : Nat} {x : Box} {cs cs' : List LV} {T M : List Nat} (hm : m b = some x) (hg : x.gen = g) (hf : x.frz = false) (hk : x.kind = .var) (he : x.es = [cs]) (h : Exp m (.agg cs) (.agg cs') T M) :
      Exp m (.ref b g 0 0) (.ptro cs') T (b :: M)

theorem RelI.mono {w : World} {F F' : Nat → Prop} (hF : ∀ b, F b → F' b) {v : Value} {l : LV} {O : List Nat} (h : RelI w F v l O) : RelI w F' v l O := by
  induction h with
  | frz h => exact .frz (h.mono hF (fun _ _ => rfl))
  | slo0 => exact .slo0
  | slo hl hc hb hf hsz hcell => exact .slo hl hc hb hf hsz fun i e c q he hq => let ⟨v, hv, hr⟩ := hcell i e c q he hq; ⟨v, hv, hr.mono hF (fun _ _ => rfl)⟩
  | aggn => exact .aggn
  | aggc h hs ih1 ih2 => exact .aggc ih1 ih2
  | tup h ih => exact .tup ih
  | ptro hb hf h ih => exact .ptro hb hf ih

theorem Exp.len {m : Mem} {l l' : LV} {T M : List Nat} (h : Exp m l l' T M) : ∀ cs cs', l = .agg cs → l' = .agg cs' → cs'.length = cs.length := by
  induction h with
  | frz h =>
    intro cs cs' h1 h2
    obtain ⟨c2, h3, h4⟩ := h.len cs h1
    rw [h2] at h3
    injection h3 with h3
    rw [h3, h4]
  | aggn => intro cs cs' h1 h2; cases h1; cases h2; rfl
  | aggc h hs ih1 ih2 => intro cs cs' h1 h2; cases h1; cases h2; simp [ih2 _ _ rfl rfl]
  | skip => intro cs cs' h1; cases h1
  | nils => intro cs cs' h1; cases h1
  | slo => intro cs cs' h1; cases h1
  | tup => intro cs cs' h1; cases h1
  | ptro => intro cs cs' h1; cases h1

theorem nodup_append {M N : List Nat} (h : (M ++ N).Nodup) : M.Nodup ∧ N.Nodup ∧ ∀ a ∈ M, a ∉ N := by
  rw [List.nodup_append] at h
  exact ⟨h.1, h.2.1, fun a ha hb => h.2.2 a ha a hb rfl⟩

section
variable {P : Program} {X : Ctx} {st : St} {a : Act} {w : World} {F : Nat → Prop} {ρ : Locs}

/-- The blocks of boxes that are handed over. -/
def OfM (st : St) (ρ : Locs) (M O : List Nat) : Prop := ∀ b ∈ O, ∃ n ∈ M, ∃ x lc, st.m n = some x ∧ x.frz = false ∧ ρ n = some lc ∧ lc.blk = b

theorem Exp.sound (h : Inv X st a w F ρ) {l l' : LV} {T M : List Nat} (he : Exp st.m l l' T M) : ∀ v, RelL w F ρ st.m v l → M.Nodup → (∀ n ∈ M, n ∉ T) →
    ∃ O, RelI w (FT F ρ T) v l' O ∧ OfM st ρ M O ∧ O.Nodup := by
  induction he with
  | frz hf => exact fun v hv _ _ => ⟨[], .frz (Frz.sound h.boxes hf v hv), (by intro b hb; cases hb), by simp⟩
  | skip => exact fun v hv _ _ => ⟨[], by rw [hv.skip]; exact .frz .skip, (by intro b hb; cases hb), by simp⟩
  | nils =>
    intro v hv _ _
    rw [hv.nils]
    exact ⟨[], .slo0, (by intro b hb; cases hb), by simp⟩
  | @slo b g off len x hm hg hf hk hend =>
    intro v hv _ _
    obtain ⟨-, -, hh⟩ := hv.toOwn hm hg
    have hbx := BoxOK.cells (by rw [hk]; simp) (h.boxes b x hm)
    have hdl : (x.es.drop off).length = len := by simp; omega
    cases hr : ρ b with
    | none =>
      rw [hr] at hh hbx
      have hes : x.es = [] := hbx
      obtain ⟨a0, rfl⟩ := hh
      have hdn : x.es.drop off = [] := by rw [hes]; simp
      have h0 : len = 0 := by rw [hdn] at hdl; simpa using hdl.symm
      subst h0
      rw [hdn]
      exact ⟨[], .slo0, (by intro b hb; cases hb), by simp⟩
    | some lc =>
      rw [hr] at hh hbx
      obtain ⟨ao, cap', rfl, ha, hlc, hcc⟩ := hh
      obtain ⟨cs, t, g1, g2, g3, g4, g5⟩ := hbx
      rw [hk] at g5
      simp only at hcc
      by_cases h0 : cap' = 0
      · have h1 : len = 0 := by omega
        subst h0 h1
        have hdn : x.es.drop off = [] := List.eq_nil_of_length_eq_zero hdl
        rw [hdn]
        exact ⟨[], .slo0, (by intro b hb; cases hb), by simp⟩
      · have had := ha (by omega)
        subst had
        refine ⟨[lc.blk], .slo hdl.symm hlc g1 ?_ (fun e he => g4 e (List.mem_of_mem_drop he)) (fun i e c q he hq => ?_), ?_, by simp⟩
        · have : off * x.sz + cap' * x.sz = lc.ext * x.sz := by rw [← Nat.add_mul, hcc]
          omega
        · rw [List.getElem?_drop] at he
          obtain ⟨u, hu, hrel⟩ := g5 _ e c q he hq
          refine ⟨u, ?_, (show RelF w F u q from hrel).mono FT.mono (fun _ _ => rfl)⟩
          rw [Nat.add_mul] at hu
          rw [show lc.base + off * x.sz + (i * x.sz + c) = lc.base + (off * x.sz + i * x.sz + c) by omega]
          exact hu
        · intro b' hb'
          simp at hb'
          subst hb'
          exact ⟨b, by simp, x, lc, hm, hf, hr, rfl⟩
  | aggn =>
    intro v hv _ _
    obtain ⟨cs, rfl, hn, -⟩ := hv.cells
    have : cs = #[] := by simpa using hn
    subst this
    exact ⟨[], .aggn, (by intro b hb; cases hb), by simp⟩
  | @aggc u u' us us' S T M N h1 h2 ih1 ih2 =>
    intro v hv hnd hdis
    obtain ⟨cs, rfl, hn, hr⟩ := hv.cells
    obtain ⟨cs⟩ := cs
    cases cs with
    | nil => simp at hn
    | cons c0 rest =>
      obtain ⟨n1, n2, n3⟩ := nodup_append hnd
      obtain ⟨O1, r1, m1, d1⟩ := ih1 c0 (hr 0 c0 u (by simp) (by simp)) n1 (fun n hn hn' => hdis n (List.mem_append_left _ hn) (List.mem_append_left _ hn'))
      obtain ⟨O2, r2, m2, d2⟩ := ih2 (.agg ⟨rest⟩) (.agg (by simpa using hn) fun i a l ha hl => hr (i + 1) a l (by simpa using ha) (by simpa using hl)) n2 (fun n hn hn' => hdis n (List.mem_append_right _ hn) (List.mem_append_right _ hn'))
      refine ⟨O1 ++ O2, .aggc (r1.mono (FT.sub fun x hx => List.mem_append_left _ hx)) (r2.mono (FT.sub fun x hx => List.mem_append_right _ hx)), fun b hb => ?_, ?_⟩
      · rcases List.mem_append.1 hb with hb | hb
        · obtain ⟨n, hn, x⟩ := m1 b hb
          exact ⟨n, List.mem_append_left _ hn, x⟩
        · obtain ⟨n, hn, x⟩ := m2 b hb
          exact ⟨n, List.mem_append_right _ hn, x⟩
      · rw [List.nodup_append]
        refine ⟨d1, d2, fun b hb b' hb' heq => ?_⟩
        subst heq
        obtain ⟨n, hn, x, lc, k1, k2, k3, k4⟩ := m1 b hb
        obtain ⟨n', hn', x', lc', k1', k2', k3', k4'⟩ := m2 b hb'
        have := h.inj n n' x x' lc lc' k1 k1' k2 k2' k3 k3' (by omega)
        subst this
        exact n3 n hn hn'
  | tup h1 ih =>
    intro v hv hnd hdis
    obtain ⟨cs, rfl, hn, hr⟩ := hv.tupcells
    obtain ⟨O, r1, r2, r3⟩ := ih (.agg cs) (.agg hn hr) hnd hdis
    exact ⟨O, .tup r1, r2, r3⟩
  | @ptro b g x cs cs' T M hm hg hf hk he h1 ih =>
    intro v hv hnd hdis
    obtain ⟨-, lc, hr, rfl⟩ := hv.toRef hm hg
    have hbx := BoxOK.cells (by rw [hk]; simp) (h.boxes b x hm)
    rw [hr] at hbx
    obtain ⟨cs0, t, g1, g2, g3, g4, g5⟩ := hbx
    rw [he] at g3 g4 g5
    rw [hk] at g5
    have hsz : cs.length = x.sz := g4 cs (by simp)
    have hl' := h1.len _ _ rfl rfl
    have hfit : lc.base + x.sz ≤ cs0.size := by
      simp at g3
      have : 1 * x.sz ≤ lc.ext * x.sz := Nat.mul_le_mul_right _ g3
      omega
    obtain ⟨hnb, hndM⟩ := List.nodup_cons.1 hnd
    have hrel : RelL w F ρ st.m (.agg (cs0.extract lc.base (lc.base + cs'.length))) (.agg cs) := by
      refine .agg (by simp; omega) fun i u l hu hl => ?_
      have hi : i < cs.length := (List.getElem?_eq_some_iff.1 hl).1
      obtain ⟨u', hu', hrel⟩ := g5 0 cs i l rfl hl
      rw [Array.getElem?_extract, if_pos (by omega)] at hu
      simp only [Nat.zero_mul, Nat.zero_add] at hu'
      rw [hu'] at hu
      injection hu with hu
      subst hu
      exact hrel
    obtain ⟨O, r1, r2, r3⟩ := ih _ hrel hndM (fun n hn => hdis n (List.mem_cons_of_mem _ hn))
    refine ⟨lc.blk :: O, ?_, fun b' hb' => ?_, List.nodup_cons.2 ⟨fun hin => ?_, r3⟩⟩
    · have e0 : lc.base + (0 * x.sz + 0) = lc.base := by simp
      rw [e0]
      exact .ptro g1 (by omega) r1
    · rcases List.mem_cons.1 hb' with rfl | hb'
      · exact ⟨b, by simp, x, lc, hm, hf, hr, rfl⟩
      · obtain ⟨n, hn, y⟩ := r2 b' hb'
        exact ⟨n, List.mem_cons_of_mem _ hn, y⟩
    · obtain ⟨n, hn, y, lc', k1, k2, k3, k4⟩ := r2 _ hin
      have := h.inj n b y x lc' lc k1 hm k2 hf k3 hr k4
      subst this
      exact hnb hn

/-! ### Taking in -/
/-- A block that nobody else writes becomes a box's. -/
theorem Inv.adopt (h : Inv X st a w F ρ) {ρ' : Locs} {n : Nat} {x' : Box} (hρ : ∀ k, k ≠ n → ρ' k = ρ k) (hf : x'.frz = false) (hgen : x'.gen = genAt st.m n)
    (hloc : ∀ l, ρ' n = some l → l.blk < w.heap.size ∧ ¬ F l.blk ∧ (l.blk ∈ X.O0 ∨ X.w0.heap.size ≤ l.blk) ∧ ∀ k x l', st.m k = some x → x.frz = false → k ≠ n → ρ k = some l' → l'.blk ≠ l.blk)
    (hbox : Compat st.m ρ (updM st.m n x') ρ' → BoxOK w F ρ' (updM st.m n x') n x') :
    Inv X ⟨st.ts, updM st.m n x'⟩ a w F ρ' ∧ Compat st.m ρ (updM st.m n x') ρ' := by
  have hc : Compat st.m ρ (updM st.m n x') ρ' := by
    intro b x hx
    by_cases hb : n = b
    · subst hb
      exact ⟨x', updM_same _ _ _, .inr (by rw [hgen]; simp [genAt, hx])⟩
    · exact ⟨x, by rw [updM_ne _ _ hb]; exact hx, .inl ⟨rfl, hρ b (Ne.symm hb), rfl, .inr rfl, rfl⟩⟩
  have hlook : ∀ k x, (updM st.m n x') k = some x → (k = n ∧ x = x') ∨ (k ≠ n ∧ st.m k = some x) := by
    intro k x hx
    by_cases hk : n = k
    · subst hk
      rw [updM_same] at hx
      exact .inl ⟨rfl, (Option.some.inj hx).symm⟩
    · rw [updM_ne _ _ hk] at hx
      exact .inr ⟨Ne.symm hk, hx⟩
  refine ⟨⟨h.defers, fun j => (h.slots j).mono (fun _ h => h) (fun _ _ => rfl) hc, ?_, ?_, ?_, h.frz0, h.frz1, h.frzlt, h.ext, fun v l hv => (h.kept v l hv).mono (fun _ h => h) (fun _ _ => rfl) hc⟩, hc⟩
  · intro k x hx
    rcases hlook k x hx with ⟨h1, h2⟩ | ⟨hk, hx2⟩
    · rw [h1, h2]; exact hbox hc
    · exact (h.boxes k x hx2).mono (fun _ h => h) (fun _ _ => rfl) hc (hρ k hk) fun l hl => rfl
  · intro k x l hx hl
    rcases hlook k x hx with ⟨h1, h2⟩ | ⟨hk, hx2⟩
    · rw [h1] at hl
      rw [h2]
      obtain ⟨q1, q2, q3, -⟩ := hloc l hl
      exact ⟨q1, fun hf' => by rw [hf] at hf'; exact absurd hf' (by simp), fun _ => ⟨q2, q3⟩⟩
    · rw [hρ k hk] at hl
      exact h.place k x l hx2 hl
  · intro k k' x y l l' hx hy hxf hyf hl hl' he
    rcases hlook k x hx with ⟨h1, h2⟩ | ⟨hk, hx2⟩
    · rcases hlook k' y hy with ⟨h3, h4⟩ | ⟨hk', hy2⟩
      · rw [h1, h3]
      · rw [h1] at hl
        rw [hρ k' hk'] at hl'
        exact absurd he.symm ((hloc l hl).2.2.2 k' y l' hy2 hyf hk' hl')
    · rcases hlook k' y hy with ⟨h3, h4⟩ | ⟨hk', hy2⟩
      · rw [h3] at hl'
        rw [hρ k hk] at hl
        exact absurd he ((hloc l' hl').2.2.2 k x l hx2 hxf hk hl)
      · rw [hρ k hk] at hl
        rw [hρ k' hk'] at hl'
        exact h.inj k k' x y l l' hx2 hy2 hxf hyf hl hl' he

def impC (m : Mem) (n : Nat) : LV → LV × List (Nat × Box) × Nat
  | .slo sz es => (.own n (genAt m n) 0 es.length none, [(n, ⟨genAt m n, false, .slc, sz, es⟩)], n + 1)
  | l => (l, [], n)
def impCs (m : Mem) : Nat → List LV → List LV × List (Nat × Box) × Nat
  | n, [] => ([], [], n)
  | n, l :: ls => ((impC m n l).1 :: (impCs m (impC m n l).2.2 ls).1, (impC m n l).2.1 ++ (impCs m (impC m n l).2.2 ls).2.1, (impCs m (impC m n l).2.2 ls).2.2)
def impV (m : Mem) (n : Nat) : LV → LV × List (Nat × Box) × Nat
  | .agg cs => (.agg (impCs m n cs).1, (impCs m n cs).2)
  | l => impC m n l
def impVs (m : Mem) : Nat → List LV → List LV × List (Nat × Box) × Nat
  | n, [] => ([], [], n)
  | n, l :: ls => ((impV m n l).1 :: (impVs m (impV m n l).2.2 ls).1, (impV m n l).2.1 ++ (impVs m (impV m n l).2.2 ls).2.1, (impVs m (impV m n l).2.2 ls).2.2)
def impT (m : Mem) (d : Nat) : LV → LV × List (Nat × Box)
  | .tup vs => (.tup (impVs m d vs).1, (impVs m d vs).2.1)
  | .ptro cs => (.ref d (genAt m d) 0 0, (impCs m (d + 1) cs).2.1 ++ [(d, ⟨genAt m d, false, .var, cs.length, [(impCs m (d + 1) cs).1]⟩)])
  | l => ((impV m d l).1, (impV m d l).2.1)
end
end Go.Proofs.Ytpepcfombibpeaa.Mv
