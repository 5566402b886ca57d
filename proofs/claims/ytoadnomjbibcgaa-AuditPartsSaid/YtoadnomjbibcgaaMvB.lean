/- The calculus by which the program is walked, and its plain laws: part B. -/
import Derived.Test.YtoadnomjbibcgaaMvA
import Derived.WideKeyRuns
import Derived.Maps.RangeRun
import Derived.Laws.Cover3
set_option linter.all false
namespace Go.Proofs.Ytoadnomjbibcgaa.Mv
section
variable {P:Program}{X:Ctx}{st:St}{a:Act}{w:World}{F:Nat→Prop}{ρ:Locs}
theorem RelL.toFn {m:Mem}{v:Value}{f:FuncId}{cs:List LV}(h:RelL w F ρ m v (.fn f cs)): ∃ vs:Array Value,v=.func (.func f) #[] vs∧RelL w F ρ m (.agg vs) (.agg cs):=by
 cases h with
 | frz h=>cases h with | fn hn hr=>exact⟨_,rfl,.frz (.agg hn hr)⟩
 | fn hn hr=>exact⟨_,rfl,.agg hn hr⟩
theorem Y2o (h:Inv X st a w F ρ){x:Operand}{n:Nat}(hx:lenL (evalO st.ts x)=some n)(hlive:∀ b g off len cap,evalO st.ts x=.own b g off len cap→∃ y,st.m b=some y∧y.gen=g):
  (∃ ad cap,a.eval x=.slice ad n cap∧n≤cap)∨∃ s,evalO st.ts x=.str s∧a.eval x=.string s∧s.size=n:=by
 have hv:=h.eval x
 unfold lenL at hx
 split at hx
 ·rename_i hx'
  injection hx with hx
  subst hx
  rw[hx'] at hv
  exact .inl ⟨none,0,hv.nils,Ye2 _⟩
 ·rename_i b g off len cap hx'
  injection hx with hx
  subst hx
  rw[hx'] at hv
  obtain⟨y,hm,hg⟩:=hlive _ _ _ _ _ hx'
  obtain⟨hk,hl,hh⟩:=hv.toOwn hm hg
  cases hr:ρ b with
  | none =>
   rw[hr] at hh
   have hbx:=Ygg (Y3f hk) (h.boxes b y hm)
   rw[hr] at hbx
   have hes:y.es=[]:=hbx
   rw[hes] at hl
   simp at hl
   rw[hl.2]
   obtain⟨a0,hh⟩:=hh
   exact .inl ⟨a0,0,hh,Ye2 _⟩
  | some l =>
   rw[hr] at hh
   obtain⟨ao,cap',hv2,-,hc,-⟩:=hh
   exact .inl ⟨ao,cap',hv2,hc⟩
 ·rename_i es hx'
  injection hx with hx
  subst hx
  rw[hx'] at hv
  obtain⟨ad,len,cap,blk,off,sz',val,hv,g1,g2,-⟩:=hv.toSl
  exact .inl ⟨ad,cap,by rw[hv,g1],by omega⟩
 ·rename_i s hx'
  injection hx with hx
  rw[hx'] at hv
  exact .inr ⟨s,hx',hv.str,hx⟩
 ·cases hx
theorem Y1j {b:Builtin}{xs:Array Operand}{ts:Array TypeId}{dst:Option Tmp}{ty:TypeId}{pos:String}{after:Array Edge}{guard:Option (Nat × Bool)}{v:Value}{w':World}{s:Sem Value}
  (hb:∀ cs,builtin b ts ty cs (xs.map a.eval)=(do pure (.value (← s)))) (hr:s.run P w=.ok v w') :
  (execOp a.eval { dst:=dst,op:=.call { callee:=.builtin b,args:=xs,argTypes:=ts },type:=ty,pos:=pos,after:=after,guard:=guard }).run P w=.ok (.value v) w':=by
 simp only[execOp,resolve,Sem.run_bind,Sem.run_pure,Yel,invoke,hb,hr]
theorem Yav (h:Inv X st a w F ρ){x:Operand}{t:TypeId}{n:Nat}(hx:lenL (evalO st.ts x)=some n)(hlive:∀ b g off len cap,evalO st.ts x=.own b g off len cap→∃ y,st.m b=some y∧y.gen=g)
  (ht:((∃ e,P.underlying t=some (.slice e))∧∀ s,evalO st.ts x≠.str s)∨(P.underlying t=some .string∧∃ s,evalO st.ts x=.str s))
  {o:Oper}(ho:o.op=.call { callee:=.builtin .len,args:=#[x],argTypes:=#[t] }):Sound P X st a w o (.int .i64 n) []:=by
 obtain⟨dst,op,ty,pos,after,guard⟩:=o
 simp only at ho
 subst ho
 refine Yge h (val:=.int .i64 n) (Y1j (fun _=>rfl) ?_) (.mk_int _ _)
 rcases ht with ⟨⟨e,ht⟩,hns⟩ | ⟨ht,s,hs⟩
 ·rcases Y2o h hx hlive with ⟨ad,cap,hv,-⟩ | ⟨s,hs,-⟩
  ·simp[Builtin.len_,hv,run_underlying ht,goInt]
  ·exact absurd hs (hns s)
 ·rcases Y2o h hx hlive with ⟨ad,cap,hv,-⟩ | ⟨s',hs',hv,hn⟩
  ·have:=h.eval x
   rw[hs,hv] at this
   cases this.str
  ·simp[Builtin.len_,hv,run_underlying ht,goInt,hn]
theorem Y3a (h:Inv X st a w F ρ){x y:Operand}{t e:TypeId}{n:Nat}(hx:lenL (evalO st.ts x)=some n)(hxs:∀ s,evalO st.ts x≠.str s)(ht:sliceE P t=some e)(hsz:(szT P e).isSome=true)
  (hy:lenL (evalO st.ts y)=some 0) (hys:∀ s,evalO st.ts y≠.str s) (hlx:∀ b g off len cap,evalO st.ts x=.own b g off len cap→∃ y,st.m b=some y∧y.gen=g)
  (hly:∀ b g off len cap,evalO st.ts y=.own b g off len cap→∃ y,st.m b=some y∧y.gen=g) {o:Oper}(ho:o.op=.call { callee:=.builtin .append,args:=#[x,y],argTypes:=#[t,t] }) :
  Sound P X st a w o (evalO st.ts x) []:=by
 obtain⟨dst,op,ty,pos,after,guard⟩:=o
 simp only at ho
 subst ho
 have hxv:∃ ad cap,a.eval x=.slice ad n cap∧n≤cap:=by
  rcases Y2o h hx hlx with h1 | ⟨s,hs,-⟩
  ·exact h1
  ·exact absurd hs (hxs s)
 have hyv:∃ ad cap,a.eval y=.slice ad 0 cap∧0≤cap:=by
  rcases Y2o h hy hly with h1 | ⟨s,hs,-⟩
  ·exact h1
  ·exact absurd hs (hys s)
 obtain⟨ad,cap,hxv,hc⟩:=hxv
 obtain⟨ad',cap',hyv,-⟩:=hyv
 cases hs:szT P e with
 | none=>rw[hs] at hsz;cases hsz
 | some k =>
  obtain⟨i,hi,hk⟩:=Y0G hs
  refine Yge h (val:=a.eval x) (Y1j (fun _=>rfl) ?_) (h.eval x)
  have hf:(Builtin.firstCells i.size 0 (.slice ad' 0 cap')).run P w=.ok #[] w:=by
   cases ad' <;> simp[Builtin.firstCells,loadCells,loadCellsFrom]
  cases ad with
  | none=>simp[Builtin.append_,hxv,hyv,run_underlying (Y0c ht),sizeOf,typeInfo,hi,Builtin.lenOf,hc,hf]
  | some ad=>simp[Builtin.append_,hxv,hyv,run_underlying (Y0c ht),sizeOf,typeInfo,hi,Builtin.lenOf,hc,hf,storeCells]
theorem Y4O (h:Inv X st a w F ρ){d:Nat}{x y:Operand}{t e:TypeId}{sz:Nat}(hx:evalO st.ts x=.nils)(ht:sliceE P t=some e)(hs:szT P e=some sz)
  (hy:lenL (evalO st.ts y)=some 0) (hys:∀ s,evalO st.ts y≠.str s)
  (hly:∀ b g off len cap,evalO st.ts y=.own b g off len cap→∃ y,st.m b=some y∧y.gen=g) {o:Oper}(ho:o.op=.call { callee:=.builtin .append,args:=#[x,y],argTypes:=#[t,t] }) :
  Sound P X st a w o (.own d (genAt st.m d) 0 0 none) [(d,⟨genAt st.m d,false,.slc,sz,[]⟩)]:=by
 obtain⟨nx,val,w',F',ρ',hrun,hnx,hinv,hrel⟩:=Y3a (P:=P) h (n:=0) (by rw[hx];rfl) (by simp[hx]) ht (by rw[hs];rfl) hy hys (by simp[hx]) hly ho
 rw[hx] at hrel
 have hval:=hrel.nils
 have hinv':Inv X ⟨st.ts,st.m⟩ a w' F' ρ':=hinv
 have hw:=hinv'.write (n:=d) (w':=w') (ρ':=fun j=>if j=d then none else ρ' j) (x':=⟨genAt st.m d,false,.slc,sz,[]⟩) rfl rfl rfl (Ye2 _) (fun _ _ _=>rfl) (fun k hk=>if_neg hk) rfl
  (fun x hx=>.inr (by
   have hx:st.m d=some x:=hx
   simp[genAt,hx])) (fun l hl=>by simp at hl) (fun _ _=>Ygc (by simp) (by simp[CellsOK]))
 refine⟨nx,val,w',F',_,hrun,hnx,hw,?_⟩
 rw[hval]
 refine .own rfl (Y07 _ _ _) (Ye2 _) fun _=>⟨rfl,Ye2 _,?_⟩
 simp only[if_true]
 exact⟨none,rfl⟩
theorem Y4x (f:LV→LV→Option LV)(g:Value→Value→Sem Value)(hfg:∀ x y v vx vy,RelL w F ρ st.m vx x→RelL w F ρ st.m vy y→f x y=some v→∃ u,(g vx vy).run P w=.ok u w∧RelL w F ρ st.m u v):
  ∀ {xs:List LV}{vs:List Value}{x v:LV}{vx:Value},vs.length=xs.length→(∀ (i:Nat) u l,vs[i]?=some u→xs[i]?=some l→RelL w F ρ st.m u l)→RelL w F ρ st.m vx x→fold2L f x xs=some v →
  ∃ u,(vs.foldlM g vx).run P w=.ok u w∧RelL w F ρ st.m u v:=by
 intro xs
 induction xs with
 | nil =>
  intro vs x v vx hn _ hx h
  have:vs=[]:=Yeo (by simpa using hn)
  subst this
  simp only[fold2L,Yem] at h
  subst h
  exact⟨vx,by simp,hx⟩
 | cons y r ih =>
  intro vs x v vx hn hr hx h
  cases vs with
  | nil=>simp at hn
  | cons u us =>
   simp only[fold2L] at h
   split at h
   ·rename_i z hz
    obtain⟨u',h1,h2⟩:=hfg x y z vx u hx (hr 0 u y rfl rfl) hz
    obtain⟨u2,h3,h4⟩:=ih (vs:=us) (by simpa using hn) (fun i a l ha hl=>hr (i+1) a l (by simpa using ha) (by simpa using hl)) h2 h
    exact⟨u2,by simp[h1,h3],h4⟩
   ·cases h
theorem Y34 (h:Inv X st a w F ρ)(xs:List Operand): ∀ (i:Nat) u l,(xs.map a.eval)[i]?=some u→(xs.map (evalO st.ts))[i]?=some l→RelL w F ρ st.m u l:=by
 intro i u l hu hl
 rw[YeY] at hu hl
 cases hx:xs[i]? with
 | none=>rw[hx] at hu;cases hu
 | some x =>
  rw[hx] at hu hl
  simp at hu hl
  subst hu hl
  exact h.eval x
theorem Y9v (h:Inv X st a w F ρ){x:Operand}{xs:List Operand}{ts:Array TypeId}{v:LV}(hv:fold2L max2L (evalO st.ts x) (xs.map (evalO st.ts))=some v)
  {o:Oper}(ho:o.op=.call { callee:=.builtin .max,args:=(x::xs).toArray,argTypes:=ts }):Sound P X st a w o v []:=by
 obtain⟨dst,op,ty,pos,after,guard⟩:=o
 simp only at ho
 subst ho
 obtain⟨u,h1,h2⟩:=Y4x (P:=P) (w:=w) (F:=F) (ρ:=ρ) (st:=st) max2L Builtin.max2 (fun x y v vx vy hx hy hm=>by
  unfold max2L at hm
  split at hm
  ·injection hm with hm
   subst hm
   rw[hx.int,hy.int]
   exact⟨_,by simp only[Builtin.max2,Sem.run_pure],.mk_int _ _⟩
  ·cases hm) (vs:=xs.map a.eval) (by simp) (Y34 h xs) (h.eval x) hv
 refine Yge h (val:=u) (Y1j (fun _=>rfl) ?_) h2
 simp only[Builtin.max_,Yft,Yey]
 exact h1
theorem YaT (h:Inv X st a w F ρ){x:Operand}{xs:List Operand}{ts:Array TypeId}{v:LV}(hv:fold2L min2L (evalO st.ts x) (xs.map (evalO st.ts))=some v)
  {o:Oper}(ho:o.op=.call { callee:=.builtin .min,args:=(x::xs).toArray,argTypes:=ts }):Sound P X st a w o v []:=by
 obtain⟨dst,op,ty,pos,after,guard⟩:=o
 simp only at ho
 subst ho
 obtain⟨u,h1,h2⟩:=Y4x (P:=P) (w:=w) (F:=F) (ρ:=ρ) (st:=st) min2L Builtin.min2 (fun x y v vx vy hx hy hm=>by
  unfold min2L at hm
  split at hm
  ·injection hm with hm
   subst hm
   rw[hx.int,hy.int]
   exact⟨_,by simp only[Builtin.min2,Sem.run_pure],.mk_int _ _⟩
  ·cases hm) (vs:=xs.map a.eval) (by simp) (Y34 h xs) (h.eval x) hv
 refine Yge h (val:=u) (Y1j (fun _=>rfl) ?_) h2
 simp only[Builtin.min_,Yft,Yey]
 exact h1
theorem Y48 (h:Inv X st a w F ρ){d:Nat}{t e:TypeId}{ln cp:Operand}{k k':IntKind}{n c:Int}{z:List LV}(ht:sliceE P t=some e)(hz:zeroL P e=some z)(hs:szT P e=some z.length)(hzl:0<z.length)
  (hn:evalO st.ts ln=.int k n) (hc:evalO st.ts cp=.int k' c) (h0:0≤n) (h1:n≤c) (h2:c≤4294967296) (hb:P.bytesOf e≤4096) {o:Oper}(ho:o.op=.makeSlice t ln cp) :
  Sound P X st a w o (.own d (genAt st.m d) 0 n.toNat none) [(d,⟨genAt st.m d,false,.slc,z.length,List.replicate c.toNat (z.map pureC)⟩)]:=by
 obtain⟨dst,op,ty,pos,after,guard⟩:=o
 simp only at ho
 subst ho
 obtain⟨i,zv,hi,hz',rfl⟩:=Y0t hz
 simp only[Ye4,YeN] at hs hzl ⊢
 obtain⟨i',hi',hs'⟩:=Y0G hs
 rw[hi] at hi'
 injection hi' with hi'
 subst hi'
 have hby:i.bytes≤4096:=by simpa [Program.bytesOf,hi] using hb
 have e1:=h.eval ln
 have e2:=h.eval cp
 rw[hn] at e1
 rw[hc] at e2
 have hbig:(i.bytes:Int)*c≤281474976710656:=by
  have:(i.bytes:Int)*c≤4096*4294967296:=Int.mul_le_mul (by omega) h2 (by omega) (by omega)
  omega
 have hr:=run_make (P:=P) w t e i zv (Y0c ht) hi hz' k k' n c h0 h1 hbig (by omega)
 have hzr:=Y4J (w:=w) (F:=F) zv.cells hzl c.toNat
 refine⟨_,.slice (some ⟨w.heap.size,0,none⟩) n.toNat c.toNat,_,F,updR ρ d ⟨w.heap.size,0,c.toNat⟩,?_,.inl rfl,
  h.newCells d (k:=.slc) (cs0:=madeCells zv.cells (c.toNat*zv.cells.size)) (t:=e) (w':=w.alloc (.cells (madeCells zv.cells (c.toNat*i.size)) e)) (by simp) hzr.2.1 (by rw[hzr.1];simp) (by simp) (fun i e c q he hq=>hzr.2.2 i e c q he hq) (by rw[hs'];rfl) rfl rfl rfl,?_⟩
 ·simp only[execOp,Sem.run_bind,e1.int,e2.int,hr,Yel]
  rfl
 ·exact .own rfl (Y07 _ _ _) (Ye2 _) fun _=>⟨rfl,by simp;omega,by rw[Y0d];exact⟨_,c.toNat,rfl,fun _=>by simp,by omega,by simp⟩⟩
theorem Inv.newMap (h:Inv X st a w F ρ)(d:Nat): Inv X ⟨st.ts,updM st.m d ⟨genAt st.m d,false,.mp,2,[]⟩⟩ a { w with heap:=w.heap.push (.map #[] 0) } F (updR ρ d ⟨w.heap.size,0,0⟩):=by
 have hpush:∀ b:Nat,b<w.heap.size→(w.heap.push (.map #[] 0))[b]?=w.heap[b]?:=fun b hb=>by rw[Yfj,if_neg (by omega)]
 refine h.write rfl rfl rfl (by simp) (fun b hb _=>hpush b hb) (fun j hj=>Y2x _ _ (Ne.symm hj)) rfl (fun x hx=>.inr ?_) (fun l hl=>?_) fun hc hF=>?_
 ·simp[genAt,hx]
 ·rw[Y0d] at hl
  injection hl with hl
  subst hl
  exact⟨by simp,.inl (Ye2 _)⟩
 ·unfold BoxOK
  simp only
  rw[Y0d]
  rw[MpOK.map rfl]
  exact⟨_,#[],0,rfl,by simp,⟨by simp,by simp⟩,trivial⟩
theorem Y5M (h:Inv X st a w F ρ){d:Nat}{t:TypeId}{o:Oper}(ho:o.op=.makeMap t none):
  Sound P X st a w o (.mref d (genAt st.m d)) [(d,⟨genAt st.m d,false,.mp,2,[]⟩)]:=by
 obtain⟨dst,op,ty,pos,after,guard⟩:=o
 simp only at ho
 subst ho
 refine⟨_,.map (some w.heap.size),{ w with heap:=w.heap.push (.map #[] 0) },F,_,?_,.inl rfl,h.newMap d,.mref rfl (Y07 _ _ _) (Ye2 _) fun _=>⟨rfl,_,Y0d _ _ _,rfl⟩⟩
 simp[execOp,Instr.makeMap]
theorem Y7f {t:TypeId}{d:TypeDesc}{x y:LV}{vx vy:Value}{b:Bool}(hd:P.underlying t=some d)(hx:RelL w F ρ st.m vx x)(hy:RelL w F ρ st.m vy y)(h:eqT P t x y=some b): Instr.sameNow d vx vy=some b:=by
 unfold eqT at h
 rw[hd] at h
 split at h
 ·rename_i hu
  injection hu with hu
  subst hu
  split at h
  ·rename_i hk
   injection h with h
   subst hk h
   rw[hx.int,hy.int]
   simp[Instr.sameNow]
  ·cases h
 ·rename_i hu
  injection hu with hu
  subst hu
  injection h with h
  subst h
  rw[hx.bool,hy.bool]
  rfl
 ·rename_i hu
  injection hu with hu
  subst hu
  injection h with h
  subst h
  rw[hx.str,hy.str]
  simp[Instr.sameNow,beq_toListBytes]
 ·cases h
theorem Y5m {t:TypeId}(h:scalK P t=true): ∃ d,P.underlying t=some d∧(d=.bool∨(∃ k,d=.int k)∨d=.string):=by
 unfold scalK at h
 split at h <;> first | (rename_i hu;exact⟨_,hu,by simp⟩) | cases h
theorem Y2X {t:TypeId}(h:scalK P t=true)(b:Bool)(v:Value)(n:Nat): (Instr.checkKey b (n+1) t v).run P w=.ok () w:=by
 obtain⟨d,hd,rfl | ⟨k,rfl⟩ | rfl⟩:=Y5m h <;> simp[Instr.checkKey,run_underlying hd]
theorem Y6b {t:TypeId}(h:scalK P t=true)(b:Bool)(v:Value): (Instr.checkKey b 10000 t v).run P w=.ok () w:=Y2X h b v 9999
theorem Y20 {t:TypeId}{x y:LV}{vx vy:Value}(hx:RelF w F vx x)(hy:RelF w F vy y)(h:eqT P t x y=some true)(n:Nat): Instr.sameBits (n+1) vy vx=true:=by
 unfold eqT at h
 split at h
 ·split at h
  ·rename_i hk
   injection h with h
   subst hk
   cases hx
   cases hy
   simp only[beq_iff_eq] at h
   simp[Instr.sameBits,h]
  ·cases h
 ·injection h with h
  cases hx
  cases hy
  simp only[beq_iff_eq] at h
  simp[Instr.sameBits,h]
 ·injection h with h
  cases hx
  cases hy
  have h:=beq_iff_eq.1 h
  simp only[Instr.sameBits,beq_toListBytes]
  simp[h]
 ·cases h
theorem Y7X {t:TypeId}{x y:LV}(h:∀ cs,x≠.agg cs): eqK P t x y=eqT P t x y:=by
 unfold eqK
 split
 ·rename_i xs ys
  exact absurd rfl (h xs)
 ·rfl
theorem Y4L {t:TypeId}{x:LV}(hk:keyK P t x=true)(h:∀ cs,x≠.agg cs): scalK P t=true∧pureL x=true:=by
 unfold keyK at hk
 split at hk
 ·rename_i cs
  exact absurd rfl (h cs)
 ·simpa using hk
theorem Y5U {t:TypeId}{cs:List LV}(hk:keyK P t (.agg cs)=true): ∃ fs,P.underlying t=some (.struct fs)∧fieldsK P 0 fs.toList=true∧cs.length=fs.size∧cs.all pureL=true:=by
 unfold keyK at hk
 simp only at hk
 split at hk
 ·rename_i fs hu
  simp only[Ye0,decide_eq_true_eq] at hk
  exact⟨fs,hu,hk.1.1,hk.1.2,hk.2⟩
 ·cases hk
theorem Y2L (x:LV): (∃ cs,x=.agg cs)∨∀ cs,x≠.agg cs:=by
 cases x <;> first | exact .inl ⟨_,rfl⟩ | exact .inr (by simp)
theorem RelF.of_key {t:TypeId}{m:Mem}{v:Value}{l:LV}(hk:keyK P t l=true)(h:RelL w F ρ m v l): RelF w F v l:=by
 rcases Y2L l with ⟨cs,rfl⟩ | hn
 ·obtain⟨fs,-,-,-,hp⟩:=Y5U hk
  obtain⟨vs,rfl,hsz,hr⟩:=h.cells
  refine .agg hsz fun i v l hv hl=>RelF.of_pure ?_ (hr i v l hv hl)
  rw[Yed] at hp
  exact hp l (Yet hl)
 ·exact RelF.of_pure (Y4L hk hn).2 h
theorem EntsR.scan {t:TypeId}{k:LV}{vk:Value}(hk:RelF w F vk k): ∀ {ents:List MapEntry}{es:List (List LV)}{r:Option LV},EntsR w F ents es→findL P t k es=some r →
  (r=none∧(∀ e∈ents,∃ k',RelF w F e.key k'∧eqK P t k k'=some false)∧∀ v vv,RelF w F vv v→∀ b,EntsR w F (ents++[{ key:=vk,val:=vv,born:=b }]) (setL P t k v es)) ∨
  ∃ pre e post,ents=pre++e::post∧(∀ e∈pre,∃ k',RelF w F e.key k'∧eqK P t k k'=some false)∧(∃ k' v,r=some v∧RelF w F e.key k'∧eqK P t k k'=some true∧RelF w F e.val v) ∧
   ∀ v vv,RelF w F vv v→EntsR w F (pre++{ e with key:=vk,val:=vv }::post) (setL P t k v es)
 | [],[],r,_,h=>by
  simp only[findL,Yem] at h
  exact .inl ⟨h.symm,by simp,fun v vv hv b=>⟨hk,hv,trivial⟩⟩
 | e::ents,[k',v']::es,r,hr,h=>by
  simp only[findL] at h
  split at h
  ·rename_i heq
   injection h with h
   refine .inr ⟨[],e,ents,rfl,by simp,⟨k',v',h.symm,hr.1,heq,hr.2.1⟩,fun v vv hv=>?_⟩
   simp only[setL,heq,YeA,cond_true,YdY]
   exact⟨hk,hv,hr.2.2⟩
  ·rename_i heq
   rcases EntsR.scan hk hr.2.2 h with ⟨h1,h2,h3⟩ | ⟨pre,e',post,h1,h2,h3,h4⟩
   ·refine .inl ⟨h1,fun e' he=>?_,fun v vv hv b=>?_⟩
    ·rcases Yep.1 he with rfl | he
     ·exact⟨k',hr.1,heq⟩
     ·exact h2 e' he
    ·simp only[setL,heq,YeA,cond_false,YdW]
     exact⟨hr.1,hr.2.1,h3 v vv hv b⟩
   ·refine .inr ⟨e::pre,e',post,by rw[h1];rfl,fun e' he=>?_,h3,fun v vv hv=>?_⟩
    ·rcases Yep.1 he with rfl | he
     ·exact⟨k',hr.1,heq⟩
     ·exact h2 e' he
    ·simp only[setL,heq,YeA,cond_false,YdW]
     exact⟨hr.1,hr.2.1,h4 v vv hv⟩
  ·cases h
 | [],_::_,_,hr,_=>hr.elim
 | _::_,[],_,hr,_=>hr.elim
 | _::_,[]::_,_,hr,_=>hr.elim
 | _::_,[_]::_,_,hr,_=>hr.elim
 | _::_,(_::_::_::_)::_,_,hr,_=>hr.elim
theorem Y3B {d:TypeDesc}{vk:Value}: ∀ (ents:List MapEntry) (i:Nat),(∀ e∈ents,Instr.sameNow d vk e.key=some false)→Instr.findNow d vk ents i=some none
 | [],_,_=>rfl
 | e::r,i,h=>by simp[Instr.findNow,h e (by simp),Y3B r (i+1) fun e he=>h e (by simp[he])]
theorem Y3D {d:TypeDesc}{vk:Value}{e:MapEntry}{post:List MapEntry}(he:Instr.sameNow d vk e.key=some true): ∀ (pre:List MapEntry) (i:Nat),(∀ e∈pre,Instr.sameNow d vk e.key=some false) →
  Instr.findNow d vk (pre++e::post) i=some (some (i+pre.length,e.val))
 | [],i,_=>by simp[Instr.findNow,he]
 | x::r,i,h=>by
  simp only[YdW,Instr.findNow,h x (by simp),Y3D he r (i+1) fun e he=>h e (by simp[he]),Yen]
  rw[show i+1+r.length=i+(r.length+1) by omega]
theorem Y1Y {t:TypeId}{vk:Value}: ∀ (ents:List MapEntry) (i:Nat),(∀ e∈ents,(Op.equal t vk e.key).run P w=.ok false w)→(Instr.findAsking t vk ents i).run P w=.ok none w
 | [],_,_=>rfl
 | e::r,i,h=>by simp[Instr.findAsking,h e (by simp),Y1Y r (i+1) fun e he=>h e (by simp[he])]
theorem Y1T {t:TypeId}{vk:Value}{e:MapEntry}{post:List MapEntry}(he:(Op.equal t vk e.key).run P w=.ok true w): ∀ (pre:List MapEntry) (i:Nat),(∀ e∈pre,(Op.equal t vk e.key).run P w=.ok false w) →
  (Instr.findAsking t vk (pre++e::post) i).run P w=.ok (some (i+pre.length,e.val)) w
 | [],i,_=>by simp[Instr.findAsking,he]
 | x::r,i,h=>by
  simp only[YdW,Instr.findAsking,Sem.run_bind,h x (by simp),Yel,Yf4,if_false,Y1T he r (i+1) fun e he=>h e (by simp[he]),Yen]
  rw[show i+1+r.length=i+(r.length+1) by omega]
theorem Y4c {t:TypeId}{cs:List LV}{y:LV}{vx vy:Value}{b:Bool}(hx:RelF w F vx (.agg cs))(hy:RelF w F vy y)(h:eqK P t (.agg cs) y=some b): (Op.equal t vx vy).run P w=.ok b w:=by
 have hy':∃ ys,y=.agg ys:=by
  rcases Y2L y with h1 | h1
  ·exact h1
  ·unfold eqK at h
   split at h
   ·exact absurd rfl (h1 _)
   ·unfold eqT at h
    split at h <;> first | contradiction | simp_all
 obtain⟨ys,rfl⟩:=hy'
 obtain⟨-,cx,cy,rfl,rfl,he⟩:=Y2E (P:=P) (w:=w) (F:=F) (ρ:=fun _=>none) (m:=fun _=>none) (d:=9998) (.frz hx) (.frz hy) h
 exact he
theorem Y2G {t:TypeId}{d:TypeDesc}{x y:LV}{vx vy:Value}{b:Bool}(hd:P.underlying t=some d)(hn:∀ cs,x≠.agg cs)(hx:RelF w F vx x)(hy:RelF w F vy y)(h:eqK P t x y=some b): Instr.sameNow d vx vy=some b:=by
 rw[Y7X hn] at h
 exact Y7f (st:=⟨fun _=>.undef,fun _=>none⟩) (ρ:=fun _=>none) (P:=P) hd (.frz hx) (.frz hy) h
theorem Y1O {t:TypeId}{k:LV}{vk:Value}(hkt:keyK P t k=true)(hk:RelF w F vk k){ents:List MapEntry}{es:List (List LV)}{r:Option LV}(hr:EntsR w F ents es)(h:findL P t k es=some r):
  (r=none∧(Instr.findKey t vk ents).run P w=.ok none w∧∀ v vv,RelF w F vv v→∀ b,EntsR w F (ents++[{ key:=vk,val:=vv,born:=b }]) (setL P t k v es)) ∨
  ∃ pre e post,ents=pre++e::post∧(Instr.findKey t vk ents).run P w=.ok (some (pre.length,e.val)) w∧(∃ k' v,r=some v∧RelF w F e.key k'∧eqK P t k k'=some true∧RelF w F e.val v) ∧
   ∀ v vv,RelF w F vv v→EntsR w F (pre++{ e with key:=vk,val:=vv }::post) (setL P t k v es):=by
 rcases Y2L k with ⟨cs,rfl⟩ | hn
 ·obtain⟨fs,hu,-⟩:=Y5U hkt
  have hf:(Instr.findKey t vk ents).run P w=(Instr.findAsking t vk ents).run P w:=run_findKey_eq w (by simp[hu]) vk ents
  rcases EntsR.scan hk hr h with ⟨h1,h2,h3⟩ | ⟨pre,e,post,h1,h2,h3,h4⟩
  ·refine .inl ⟨h1,?_,h3⟩
   rw[hf]
   exact Y1Y ents 0 fun e he=>by
    obtain⟨k',e1,e2⟩:=h2 e he
    exact Y4c hk e1 e2
  ·refine .inr ⟨pre,e,post,h1,?_,h3,h4⟩
   obtain⟨k',v,-,e1,e2,-⟩:=h3
   rw[hf,h1,Y1T (Y4c hk e1 e2) pre 0 fun e he=>by
    obtain⟨k',e1,e2⟩:=h2 e he
    exact Y4c hk e1 e2,YdZ]
 ·obtain⟨hs,-⟩:=Y4L hkt hn
  obtain⟨d,hd,-⟩:=Y5m hs
  rcases EntsR.scan hk hr h with ⟨h1,h2,h3⟩ | ⟨pre,e,post,h1,h2,h3,h4⟩
  ·refine .inl ⟨h1,?_,h3⟩
   have:=Y3B (d:=d) (vk:=vk) ents 0 fun e he=>by
    obtain⟨k',e1,e2⟩:=h2 e he
    exact Y2G hd hn hk e1 e2
   simp[Instr.findKey,run_underlying hd,this]
  ·refine .inr ⟨pre,e,post,h1,?_,h3,h4⟩
   obtain⟨k',v,-,e1,e2,-⟩:=h3
   have:=Y3D (d:=d) (vk:=vk) (post:=post) (Y2G hd hn hk e1 e2) pre 0 fun e he=>by
    obtain⟨k',e1,e2⟩:=h2 e he
    exact Y2G hd hn hk e1 e2
   rw[YdZ] at this
   rw[h1]
   simp[Instr.findKey,run_underlying hd,this]
theorem Y4b {cs:Array Value}{b:Bool}: ∀ (fs:List Field) (i:Nat),fieldsK P i fs=true→i+fs.length=cs.size →
  (forIn (m:=Sem) fs PUnit.unit fun f (_:PUnit)=>do
    if f.name ≠ "_" then Instr.checkKey b 9999 f.type (← part f.type cs f.offset)
    pure (ForInStep.yield PUnit.unit)).run P w=.ok PUnit.unit w
 | [],_,_,_=>rfl
 | f::fs,i,h,hl=>by
  simp only[fieldsK,Ye0,decide_eq_true_eq] at h
  obtain⟨⟨⟨⟨h1,h2⟩,h3⟩,h4⟩,h5⟩:=h
  simp only[Yen] at hl
  have hp:=Y1G (P:=P) (w:=w) (cs:=cs) (i:=f.offset) (v:=cs[i]'(by omega)) h3 (by rw[h1];exact YdL (xs:=cs) _)
  have ih:=Y4b (b:=b) fs (i+1) h5 (show i+1+fs.length=cs.size by omega)
  by_cases hn : f.name = "_"
  ·simp only[List.forIn_cons,Sem.run_bind,hn,ne_eq,not_true_eq_false,if_false,Sem.run_pure,Yel]
   exact ih
  ·simp only[List.forIn_cons,Sem.run_bind,hn,ne_eq,not_false_eq_true,if_true,Yel,hp,Y2X (w:=w) h4 b _ 9998,Sem.run_pure]
   exact ih
theorem Y0Q {t:TypeId}{k:LV}{vk:Value}(hkt:keyK P t k=true)(hk:RelF w F vk k)(b:Bool): (Instr.checkKey b 10000 t vk).run P w=.ok () w:=by
 rcases Y2L k with ⟨cs,rfl⟩ | hn
 ·obtain⟨fs,hu,h1,h2,-⟩:=Y5U hkt
  obtain⟨vs,rfl,hsz,-⟩:=hk.cells
  rw[show (10000:Nat)=9999+1 from rfl,Instr.checkKey]
  simp only[Sem.run_bind,run_underlying hu,Yel]
  rw[← Array.forIn_toList]
  have:=Y4b (P:=P) (w:=w) (cs:=vs) (b:=b) fs.toList 0 h1 (by simp;omega)
  simp only[Sem.run_pure]
  exact (congrArg (fun r=>Result.andThen r fun _ w'=>Result.ok () w') this).trans rfl
 ·exact Y6b (Y4L hkt hn).1 b vk
theorem mapAt (h:Inv X st a w F ρ){x:Operand}{b g:Nat}{y:Box}(hx:evalO st.ts x=.mref b g)(hm:st.m b=some y)(hg:y.gen=g)(hn:y.sz=2):
  ∃ (l:Loc) (ents:Array MapEntry) (clock:Nat),ρ b=some l∧a.eval x=.map (some l.blk)∧w.heap[l.blk]?=some (.map ents clock)∧WFM ents.toList clock∧EntsR w F ents.toList y.es:=by
 have hv:=h.eval x
 rw[hx] at hv
 obtain⟨hk,l,hl,hv⟩:=hv.toMref hm hg
 have hb:=h.boxes b y hm
 unfold BoxOK at hb
 rw[hk] at hb
 simp only at hb
 rw[MpOK.map hn] at hb
 obtain⟨l',ents,clock,h1,h2,h3,h4⟩:=hb
 rw[hl] at h1
 injection h1 with h1
 subst h1
 exact⟨l,ents,clock,hl,by rw[hv];simp[mval,hn],h2,h3,h4⟩
theorem itrAt (h:Inv X st a w F ρ){x:Operand}{b g:Nat}{y:Box}(hx:evalO st.ts x=.mref b g)(hm:st.m b=some y)(hg:y.gen=g)(hn:y.sz=3):
  ∃ l:Loc,ρ b=some l∧a.eval x=.pointer (some ⟨l.blk,0,none⟩)∧ItrOK w F (some l) y:=by
 have hv:=h.eval x
 rw[hx] at hv
 obtain⟨hk,l,hl,hv⟩:=hv.toMref hm hg
 have hb:=h.boxes b y hm
 unfold BoxOK at hb
 rw[hk] at hb
 simp only at hb
 rw[MpOK.itr hn,hl] at hb
 exact⟨l,hl,by rw[hv];simp[mval,hn],hb⟩
theorem Y0X {blk:Nat}{ents:Array MapEntry}{clock:Nat}(h:w.heap[blk]?=some (.map ents clock)): (getObj blk).run P w=.ok (.map ents clock) w:=by
 simp[getObj,Sem.run,h]
theorem EntsR.of_fn {kv:Nat→LV × LV}: ∀ {r:List MapEntry}{s:List (List LV)},r.length=s.length→(∀ (i:Nat) e,s[i]?=some e→e=[(kv i).1,(kv i).2]) →
  (∀ (i:Nat) (ent:MapEntry),r[i]?=some ent→RelF w F ent.key (kv i).1)→(∀ (i:Nat) (ent:MapEntry),r[i]?=some ent→RelF w F ent.val (kv i).2)→EntsR w F r s:=by
 intro r
 induction r generalizing kv with
 | nil =>
  intro s hl _ _ _
  cases s with
  | nil=>trivial
  | cons=>simp at hl
 | cons e r ih =>
  intro s hl h1 h2 h3
  cases s with
  | nil=>simp at hl
  | cons c s =>
   have hc:=h1 0 c rfl
   subst hc
   exact⟨h2 0 e rfl,h3 0 e rfl,ih (kv:=fun i=>kv (i+1)) (by simpa using hl) (fun i e he=>h1 (i+1) e (by simpa using he)) (fun i e he=>h2 (i+1) e (by simpa using he)) (fun i e he=>h3 (i+1) e (by simpa using he))⟩
theorem fmapAt {v:Value}{es:List (List LV)}(h:RelF w F v (.fmap es)): (v=.map none∧es=[]) ∨
  ∃ (r:Nat) (ents:Array MapEntry) (clock:Nat),v=.map (some r)∧F r∧w.heap[r]?=some (.map ents clock)∧WFM ents.toList clock∧EntsR w F ents.toList es:=by
 cases h with
 | fmap0=>exact .inl ⟨rfl,rfl⟩
 | fmap kv hF hr hwf hn he hk hv =>
  exact .inr ⟨_,_,_,rfl,hF,hr,hwf,EntsR.of_fn (kv:=kv) (by simpa using hn) he (fun i e hi=>hk i e (by simpa using hi)) (fun i e hi=>hv i e (by simpa using hi))⟩
theorem Y53 {t:TypeId}{z:LV}(hz:zero1L P t=some z): ∃ i zv,P.info? t=some i∧i.zero=some zv∧RelF w F zv z:=by
 unfold zero1L at hz
 cases hi:P.info? t with
 | none=>rw[hi] at hz;cases hz
 | some i =>
  rw[hi] at hz
  simp only at hz
  split at hz
  ·cases hz
  ·rename_i v _ hv
   injection hz with hz
   subst hz
   exact⟨i,v,rfl,hv,Y1w v⟩
  ·cases hz
theorem Y3e {m:Mem}{ok:Bool}{u:Value}{r:Option LV}{z:LV}(h2:RelF w F u (r.getD z)): RelL w F ρ m (if ok then .tuple #[u,.bool r.isSome] else u) (cond ok (.tup [r.getD z,.bool r.isSome]) (r.getD z)):=by
 cases ok
 ·exact .frz h2
 ·refine .tup rfl fun i v l hv hl=>?_
  match i with
  | 0 =>
   simp at hv hl
   subst hv hl
   exact .frz h2
  | 1 =>
   simp at hv hl
   subst hv hl
   exact .mk_bool _
  | i+2=>simp at hv
theorem Y52 {t kt et:TypeId}{blk:Nat}{ents:Array MapEntry}{clock:Nat}{k:LV}{vk:Value}{ok:Bool}{es:List (List LV)}{r:Option LV}{z:LV}(hheap:w.heap[blk]?=some (.map ents clock))(hen:EntsR w F ents.toList es)
  (ht:P.underlying t=some (.map kt et)) (hkt:keyK P kt k=true) (hk:RelF w F vk k) (hz:zero1L P et=some z) (hf:findL P kt k es=some r) :
  ∃ u,(Instr.lookup t (.map (some blk)) vk ok).run P w=.ok (if ok then .tuple #[u,.bool r.isSome] else u) w∧RelF w F u (r.getD z):=by
 obtain⟨i,zv,hi,hz',hzv⟩:=Y53 (P:=P) (w:=w) (F:=F) hz
 rcases Y1O (P:=P) hkt hk hen hf with ⟨rfl,h2,-⟩ | ⟨pre,e,post,-,h2,⟨k',v,rfl,-,-,h4⟩,-⟩
 ·refine⟨zv,?_,hzv⟩
  cases ok <;> simp[Instr.lookup,run_underlying ht,Y0X hheap,Y0Q hkt hk,h2,Y3V hi hz']
 ·refine⟨e.val,?_,h4⟩
  cases ok <;> simp[Instr.lookup,run_underlying ht,Y0X hheap,Y0Q hkt hk,h2]
theorem Y6i (h:Inv X st a w F ρ){t kt et:TypeId}{x ix:Operand}{ok:Bool}{b g:Nat}{y:Box}{r:Option LV}{z:LV}(hx:evalO st.ts x=.mref b g)(hm:st.m b=some y)(hg:y.gen=g)(hn:y.sz=2)
  (ht:P.underlying t=some (.map kt et)) (hkt:keyK P kt (evalO st.ts ix)=true) (hz:zero1L P et=some z) (hf:findL P kt (evalO st.ts ix) y.es=some r) {o:Oper}(ho:o.op=.lookup t x ix ok) :
  Sound P X st a w o (cond ok (.tup [r.getD z,.bool r.isSome]) (r.getD z)) []:=by
 obtain⟨dst,op,ty,pos,after,guard⟩:=o
 simp only at ho
 subst ho
 obtain⟨l,ents,clock,hl,hv,hheap,-,hen⟩:=mapAt h hx hm hg hn
 obtain⟨u,h1,h2⟩:=Y52 (P:=P) (ok:=ok) hheap hen ht hkt (RelF.of_key hkt (h.eval ix)) hz hf
 refine Yge h (val:=if ok then .tuple #[u,.bool r.isSome] else u) ?_ (Y3e h2)
 simp only[execOp,Sem.run_bind,hv,h1,Yel]
 rfl
theorem Y5o (h:Inv X st a w F ρ){t kt et:TypeId}{x ix:Operand}{ok:Bool}{es:List (List LV)}{r:Option LV}{z:LV}(hx:evalO st.ts x=.fmap es)
  (ht:P.underlying t=some (.map kt et)) (hkt:keyK P kt (evalO st.ts ix)=true) (hz:zero1L P et=some z) (hf:findL P kt (evalO st.ts ix) es=some r) {o:Oper}(ho:o.op=.lookup t x ix ok) :
  Sound P X st a w o (cond ok (.tup [r.getD z,.bool r.isSome]) (r.getD z)) []:=by
 obtain⟨dst,op,ty,pos,after,guard⟩:=o
 simp only at ho
 subst ho
 have hv:=h.eval x
 rw[hx] at hv
 rcases fmapAt (RelF.of_pure rfl hv) with ⟨h0,rfl⟩ | ⟨blk,ents,clock,h0,-,hheap,-,hen⟩
 ·simp only[findL,Yem] at hf
  subst hf
  obtain⟨i,zv,hi,hz',hzv⟩:=Y53 (P:=P) (w:=w) (F:=F) hz
  refine Yge h (val:=if ok then .tuple #[zv,.bool false] else zv) ?_ (Y3e (r:=none) hzv)
  have hfk:(Instr.findKey kt (a.eval ix) []).run P w=.ok none w:=by
   rcases Y1O (P:=P) hkt (RelF.of_key hkt (h.eval ix)) (ents:=[]) (es:=[]) (r:=none) trivial rfl with ⟨-,h2,-⟩ | ⟨pre,e,post,h1,-⟩
   ·exact h2
   ·simp at h1
  cases ok <;> simp[execOp,h0,Instr.lookup,run_underlying ht,Y0Q hkt (RelF.of_key hkt (h.eval ix)),hfk,Y3V hi hz']
 ·obtain⟨u,h1,h2⟩:=Y52 (P:=P) (ok:=ok) hheap hen ht hkt (RelF.of_key hkt (h.eval ix)) hz hf
  refine Yge h (val:=if ok then .tuple #[u,.bool r.isSome] else u) ?_ (Y3e h2)
  simp only[execOp,Sem.run_bind,h0,h1,Yel]
  rfl
theorem Y5J:∀ {fs:List Field}{i:Nat}{xs ys:List LV}{us vs:List Value},us.length=xs.length→vs.length=ys.length→(∀ (j:Nat) v l,us[j]?=some v→xs[j]?=some l→RelF w F v l)→(∀ (j:Nat) v l,vs[j]?=some v→ys[j]?=some l→RelF w F v l) →
  eqFs P i fs xs ys=some true→vs.length=us.length∧(vs.zip us).all fun p=>Instr.sameBits 9999 p.1 p.2:=by
 intro fs
 induction fs with
 | nil =>
  intro i xs ys us vs h1 h2 _ _ h
  cases xs <;> cases ys <;> simp[eqFs] at h
  simp at h1 h2
  subst h1 h2
  simp
 | cons f fs ih =>
  intro i xs ys us vs h1 h2 hr hs h
  cases xs with
  | nil=>simp[eqFs] at h
  | cons x xs =>
   cases ys with
   | nil=>simp[eqFs] at h
   | cons y ys =>
    cases us with
    | nil=>simp at h1
    | cons u us =>
     cases vs with
     | nil=>simp at h2
     | cons v vs =>
      simp only[eqFs] at h
      split at h
      ·split at h
       ·rename_i p q hp hq
        injection h with h
        simp only[Ye0] at h
        obtain⟨rfl,rfl⟩:=h
        have e1:=Y20 (P:=P) (hr 0 u x rfl rfl) (hs 0 v y rfl rfl) hp 9998
        obtain⟨e2,e3⟩:=ih (us:=us) (vs:=vs) (by simpa using h1) (by simpa using h2) (fun j v l hv hl=>hr (j+1) v l (by simpa using hv) (by simpa using hl)) (fun j v l hv hl=>hs (j+1) v l (by simpa using hv) (by simpa using hl)) hq
        refine⟨by simp[e2],?_⟩
        simp only[List.zip_cons_cons,Yfa,Ye0]
        exact⟨e1,e3⟩
       ·cases h
      ·cases h
theorem Y5w {e:TypeId}: ∀ {xs ys:List LV}{us vs:List Value},us.length=xs.length→vs.length=ys.length→(∀ (j:Nat) v l,us[j]?=some v→xs[j]?=some l→RelF w F v l)→(∀ (j:Nat) v l,vs[j]?=some v→ys[j]?=some l→RelF w F v l) →
  eqAs P e xs ys=some true→vs.length=us.length∧(vs.zip us).all fun p=>Instr.sameBits 9999 p.1 p.2:=by
 intro xs
 induction xs with
 | nil =>
  intro ys us vs h1 h2 _ _ h
  cases ys <;> simp[eqAs] at h
  simp at h1 h2
  subst h1 h2
  simp
 | cons x xs ih =>
  intro ys us vs h1 h2 hr hs h
  cases ys with
  | nil=>simp[eqAs] at h
  | cons y ys =>
   cases us with
   | nil=>simp at h1
   | cons u us =>
    cases vs with
    | nil=>simp at h2
    | cons v vs =>
     simp only[eqAs] at h
     split at h
     ·rename_i p q hp hq
      injection h with h
      simp only[Ye0] at h
      obtain⟨rfl,rfl⟩:=h
      have e1:=Y20 (P:=P) (hr 0 u x rfl rfl) (hs 0 v y rfl rfl) hp 9998
      obtain⟨e2,e3⟩:=ih (us:=us) (vs:=vs) (by simpa using h1) (by simpa using h2) (fun j v l hv hl=>hr (j+1) v l (by simpa using hv) (by simpa using hl)) (fun j v l hv hl=>hs (j+1) v l (by simpa using hv) (by simpa using hl)) hq
      refine⟨by simp[e2],?_⟩
      simp only[List.zip_cons_cons,Yfa,Ye0]
      exact⟨e1,e3⟩
     ·cases h
theorem Y6Y {t:TypeId}{x y:LV}{vx vy:Value}(hx:RelF w F vx x)(hy:RelF w F vy y)(h:eqK P t x y=some true): Instr.sameBits 10000 vy vx=true:=by
 rcases Y2L x with ⟨xs,rfl⟩ | hn
 ·unfold eqK at h
  split at h
  ·rename_i xs' ys he
   injection he with he
   subst he
   unfold eqAgg at h
   split at h
   ·split at h
    ·obtain⟨us,rfl,h1,h2⟩:=hx.cells
     obtain⟨vs,rfl,h3,h4⟩:=hy.cells
     obtain⟨g1,g2⟩:=Y5J (P:=P) (us:=us.toList) (vs:=vs.toList) (by simpa using h1) (by simpa using h3) (fun j v l hv hl=>h2 j v l (by simpa using hv) hl) (fun j v l hv hl=>h4 j v l (by simpa using hv) hl) h
     show Instr.sameBits (9999+1) _ _=true
     simp only[Instr.sameBits,Ye0,beq_iff_eq]
     exact⟨by simpa using g1,g2⟩
    ·cases h
   ·split at h
    ·obtain⟨us,rfl,h1,h2⟩:=hx.cells
     obtain⟨vs,rfl,h3,h4⟩:=hy.cells
     obtain⟨g1,g2⟩:=Y5w (P:=P) (us:=us.toList) (vs:=vs.toList) (by simpa using h1) (by simpa using h3) (fun j v l hv hl=>h2 j v l (by simpa using hv) hl) (fun j v l hv hl=>h4 j v l (by simpa using hv) hl) h
     show Instr.sameBits (9999+1) _ _=true
     simp only[Instr.sameBits,Ye0,beq_iff_eq]
     exact⟨by simpa using g1,g2⟩
    ·cases h
   ·cases h
  ·unfold eqT at h
   split at h <;> first | contradiction | simp_all
 ·rw[Y7X hn] at h
  exact Y20 hx hy h 9999
theorem Y8O (pre:List MapEntry)(e:MapEntry)(post:List MapEntry)(f:MapEntry→MapEntry): (pre++e::post).modify pre.length f=pre++f e::post:=by
 induction pre with
 | nil=>rfl
 | cons x r ih=>simp[List.modify_succ_cons,ih]
theorem Y24 (h:Inv X st a w F ρ){t kt et:TypeId}{x ix y:Operand}{b g:Nat}{bx:Box}{r:Option LV}{v:LV}{T:List Nat}(hx:evalO st.ts x=.mref b g)(hm:st.m b=some bx)(hg:bx.gen=g)(hn:bx.sz=2)(hf:bx.frz=false)
  (ht:P.underlying t=some (.map kt et)) (hkt:keyK P kt (evalO st.ts ix)=true) (hfd:findL P kt (evalO st.ts ix) bx.es=some r) (hy:Frz st.m (evalO st.ts y) v T) (hb:b∉T) {o:Oper}(ho:o.op=.mapUpdate t x ix y) :
  Sound P X st a w o .skip (markE st.m T++[(b,{ bx with es:=setL P kt (evalO st.ts ix) v bx.es })]):=by
 obtain⟨dst,op,ty,pos,after,guard⟩:=o
 simp only at ho
 subst ho
 have hvf0:=Frz.sound h.boxes hy _ (h.eval y)
 obtain⟨F',hF1,hF2,hI⟩:=h.mark T
 have hF3:∀ b,FT F ρ T b→F' b:=fun b hb=>hF2 b hb hy.some
 have hvf:=hvf0.mono hF3 (fun _ _=>rfl)
 have hm':(effM st.m (markE st.m T)) b=some bx:=by rw[Y7e T _ _ hb];exact hm
 obtain⟨l,ents,clock,hl,hv,hheap,hwf,hen⟩:=mapAt (st:=⟨st.ts,effM st.m (markE st.m T)⟩) hI hx hm' hg hn
 have hkind:bx.kind=.mp:=by
  have hv:=h.eval x
  rw[hx] at hv
  exact (hv.toMref hm hg).1
 have hkf:=RelF.of_key hkt (hI.eval ix)
 have key:∃ ents' clock',(Instr.mapUpdate t (.map (some l.blk)) (a.eval ix) (a.eval y)).run P w=.ok () { w with heap:=w.heap.setIfInBounds l.blk (.map ents' clock') }∧WFM ents'.toList clock'∧EntsR w F' ents'.toList (setL P kt (evalO st.ts ix) v bx.es):=by
  have hset:∀ ents' clock',(setObj l.blk (.map ents' clock')).run P w=.ok () { w with heap:=w.heap.setIfInBounds l.blk (.map ents' clock') }:=by
   intro ents' clock'
   simp[setObj,Sem.run,hheap]
  rcases Y1O (P:=P) hkt hkf hen hfd with ⟨-,h2,h3⟩ | ⟨pre,e,post,he,h2,⟨k',v',-,hk',heq,-⟩,h4⟩
  ·refine⟨ents.push { key:=a.eval ix,val:=a.eval y,born:=clock },clock+1,?_,?_,by simpa using h3 v _ hvf clock⟩
   ·simp[Instr.mapUpdate,run_underlying ht,Y0X hheap,Y0Q hkt hkf,h2,hset]
   ·simp only[Array.toList_push]
    refine⟨?_,fun e he=>?_⟩
    ·rw[Yfc,Yff]
     refine⟨hwf.1,by simp,fun a ha b hb=>?_⟩
     simp only[Yey,Yfi,Yej] at hb
     obtain⟨e,he,rfl⟩:=Ye8.1 ha
     have:=hwf.2 e he
     omega
    ·rcases Yei.1 he with he | he
     ·have:=hwf.2 e he
      omega
     ·simp only[Yej] at he
      subst he
      simp
  ·have hej:ents[pre.length]?=some e:=by
    rw[← YeD,he]
    simp
   have hs:=Y6Y (P:=P) hkf hk' heq
   have hmod:(ents.modify pre.length fun e=>{ e with key:=a.eval ix,val:=a.eval y }).toList=pre++{ e with key:=a.eval ix,val:=a.eval y }::post:=by
    rw[Array.toList_modify,he,Y8O]
   refine⟨ents.modify pre.length fun e=>{ e with key:=a.eval ix,val:=a.eval y },clock,?_,?_,?_⟩
   ·simp[Instr.mapUpdate,run_underlying ht,Y0X hheap,Y0Q hkt hkf,h2,hset,hej,Instr.keyThatStays,hs]
   ·rw[hmod]
    rw[he] at hwf
    refine⟨by simpa using hwf.1,fun q hq=>?_⟩
    rcases Yei.1 hq with hq | hq
    ·exact hwf.2 q (by simp[hq])
    ·rcases Yep.1 hq with rfl | hq
     ·exact hwf.2 e (by simp)
     ·exact hwf.2 q (by simp[hq])
   ·rw[hmod]
    exact h4 v _ hvf
 obtain⟨ents',clock',hrun,hwf',hen'⟩:=key
 have hblt:=(hI.place b bx l hm' hl).1
 have hother:∀ k:Nat,k≠l.blk→(w.heap.setIfInBounds l.blk (.map ents' clock'))[k]?=w.heap[k]?:=fun k hk=>Yeu (Ne.symm hk)
 refine⟨_,Go.undef,{ w with heap:=w.heap.setIfInBounds l.blk (.map ents' clock') },F',ρ,?_,.inr ⟨rfl,rfl⟩,?_,.frz .skip⟩
 ·simp only[execOp,Sem.run_bind,hv,hrun,Yel]
  rfl
 ·rw[Y0b]
  refine hI.write rfl rfl rfl (by simp) (fun k _ hne=>hother k (hne bx l hm' hf hl)) (fun k _=>rfl) hf (fun y hy=>?_) (fun l' hl'=>?_) fun hc hF=>?_
  ·have hy:effM st.m (markE st.m T) b=some y:=hy
   rw[hm'] at hy
   injection hy with hy
   subst hy
   exact .inl ⟨rfl,rfl,rfl,.inl hkind,rfl⟩
  ·rw[hl] at hl'
   injection hl' with hl'
   subst hl'
   exact⟨by simpa using hblt,.inr ⟨bx,l,hm',hf,hl,rfl⟩⟩
  ·unfold BoxOK
   simp only[hkind]
   unfold MpOK
   rw[if_neg (by simp[hn])]
   exact⟨l,ents',clock',hl,by simp[hblt],hwf',hen'.mono (fun _ h=>h) hF⟩
theorem filter_nil (l:List MapEntry): (l.filter fun e=>!(#[]:Array Nat).contains e.born)=l:=by simp
theorem Y75 (h:Inv X st a w F ρ){d:Nat}{t kt et:TypeId}{x:Operand}{es:List (List LV)}{T:List Nat}(ht:P.underlying t=some (.map kt et))(hx:Frz st.m (evalO st.ts x) (.fmap es) T){o:Oper}(ho:o.op=.range t x):
  Sound P X st a w o (.mref d (genAt (effM st.m (markE st.m T)) d)) (markE st.m T++[(d,⟨genAt (effM st.m (markE st.m T)) d,false,.mp,3,[]::es⟩)]):=by
 obtain⟨dst,op,ty,pos,after,guard⟩:=o
 simp only at ho
 subst ho
 have hv0:=Frz.sound h.boxes hx _ (h.eval x)
 obtain⟨F',hF1,hF2,hI⟩:=h.mark T
 have hF3:∀ b,FT F ρ T b→F' b:=fun b hb=>hF2 b hb hx.some
 have hv:=hv0.mono hF3 (fun _ _=>rfl)
 have key:∃ it,(execOp a.eval { dst:=dst,op:=.range t x,type:=ty,pos:=pos,after:=after,guard:=guard }).run P w=.ok (.value (.pointer (some ⟨w.heap.size,0,none⟩))) { w with heap:=w.heap.push it } ∧
   (∀ cs t z,it≠.cells cs t z)∧((it=.mapIter none 0 #[] 0∧es=[])∨∃ mb ents clock,it=.mapIter (some mb) clock #[] clock∧F' mb∧w.heap[mb]?=some (.map ents clock)∧WFM ents.toList clock∧EntsR w F' ents.toList es):=by
  rcases fmapAt hv with ⟨h0,rfl⟩ | ⟨blk,ents,clock,h0,hF,hheap,hwf,hen⟩
  ·refine⟨.mapIter none 0 #[] 0,?_,by simp,.inl ⟨rfl,rfl⟩⟩
   simp[execOp,h0,Instr.range,run_underlying ht]
  ·refine⟨.mapIter (some blk) clock #[] clock,?_,by simp,.inr ⟨blk,ents,clock,rfl,hF,hheap,hwf,hen⟩⟩
   simp[execOp,h0,Instr.range,run_underlying ht,Y0X hheap]
 obtain⟨it,hrun,hnc,hit⟩:=key
 have hpush:∀ b:Nat,b<w.heap.size→(w.heap.push it)[b]?=w.heap[b]?:=fun b hb=>by rw[Yfj,if_neg (by omega)]
 refine⟨_,.pointer (some ⟨w.heap.size,0,none⟩),{ w with heap:=w.heap.push it },F',updR ρ d ⟨w.heap.size,0,0⟩,hrun,.inl rfl,?_,?_⟩
 ·rw[Y0b]
  refine hI.write rfl rfl rfl (by simp) (fun b hb _=>hpush b hb) (fun j hj=>Y2x _ _ (Ne.symm hj)) rfl (fun x hx=>.inr ?_) (fun l hl=>?_) fun hc hF=>?_
  ·simp only[genAt]
   have hx':effM st.m (markE st.m T) d=some x:=hx
   rw[hx']
   simp
  ·rw[Y0d] at hl
   injection hl with hl
   subst hl
   exact⟨by simp,.inl (Ye2 _)⟩
  ·unfold BoxOK
   simp only
   rw[MpOK.itr rfl,Y0d]
   refine⟨_,[],es,rfl,rfl,?_⟩
   rcases hit with ⟨rfl,rfl⟩ | ⟨mb,ents,clock,rfl,hFm,hheap,hwf,hen⟩
   ·exact .inl ⟨0,#[],0,by simp,rfl,rfl⟩
   ·refine .inr ⟨mb,#[],ents,clock,by simp,hFm,(hF mb hFm).trans hheap,hwf,?_,.inl rfl⟩
    rw[filter_nil]
    exact hen.mono (fun _ h=>h) hF
 ·rw[Y0b]
  exact .mref rfl (Y07 _ _ _) (Ye2 _) fun _=>⟨rfl,_,Y0d _ _ _,rfl⟩
theorem Y72 (h:Inv X st a w F ρ){x:Operand}{b g:Nat}{y:Box}{k v:LV}{es:List (List LV)}(hx:evalO st.ts x=.mref b g)(hm:st.m b=some y)(hg:y.gen=g)(hn:y.sz=3)(he:y.es=[k,v]::es){o:Oper}(ho:o.op=.entry x):
  Sound P X st a w o (.tup [k,v]) []:=by
 obtain⟨dst,op,ty,pos,after,guard⟩:=o
 simp only at ho
 subst ho
 obtain⟨l,hl,hv,l',u,rest,hl',hes,hi⟩:=itrAt h hx hm hg hn
 injection hl' with hl'
 subst hl'
 rw[he] at hes
 injection hes with h1 h2
 subst h1 h2
 rcases hi with ⟨-,-,-,-,h0,-⟩ | ⟨mb,seen,ents,clock,g1,g2,g3,g4,-,g6⟩
 ·cases h0
 rcases g6 with h0 | ⟨e,k',v',e1,e2,e3,e4,e5⟩
 ·cases h0
 injection e3 with e3 e6
 injection e6 with e6 e7
 subst e3 e6
 have hf:ents.find? (·.born == e.born)=some e:=by rw[← Array.find?_toList];exact find_born e ents.toList g4.1 e1
 refine Yge h (val:=.tuple #[e.key,e.val]) ?_ (.tup rfl fun i v l hv hl=>?_)
 ·simp[execOp,hv,Instr.entry,getObj,Sem.run,g1,g3,e2,hf]
 ·match i with
  | 0=>simp at hv hl;subst hv hl;exact .frz e4
  | 1=>simp at hv hl;subst hv hl;exact .frz e5
  | i+2=>simp at hv
theorem Y2y (seen:Array Nat)(b:Nat): ∀ (l:List MapEntry),(l.map (·.born)).Nodup→∀ (i:Nat) (e:MapEntry),(l.filter fun e=>!seen.contains e.born)[i]?=some e→e.born=b →
  (l.filter fun e=>!(seen.push b).contains e.born)=(l.filter fun e=>!seen.contains e.born).eraseIdx i
 | [],_,i,e,h,_=>by simp at h
 | x::l,hnd,i,e,h,hb=>by
  have hnd':=hnd
  rw[Yey,YeV] at hnd
  have hall:∀ q∈l,q.born≠x.born:=fun q hq he=>hnd.1 (Ye8.2 ⟨q,hq,he⟩)
  have hpush:∀ q:MapEntry,(!(seen.push b).contains q.born)=(!seen.contains q.born && !(b == q.born)):=by
   intro q
   have:(seen.push b).contains q.born=(seen.contains q.born || (b == q.born)):=by
    rw[Yf2]
    simp only[Array.contains_iff_mem,Array.mem_push,YfH,beq_iff_eq]
    exact⟨fun h=>h.imp id Eq.symm,fun h=>h.imp id Eq.symm⟩
   rw[this,Bool.not_or]
  have hneg:∀ {p:MapEntry→Bool}{x:MapEntry}{l:List MapEntry},p x=false→(x::l).filter p=l.filter p:=fun h=>List.filter_cons_of_neg (by rw[h];simp)
  have hpos:∀ {p:MapEntry→Bool}{x:MapEntry}{l:List MapEntry},p x=true→(x::l).filter p=x::l.filter p:=fun h=>List.filter_cons_of_pos h
  cases hs:seen.contains x.born with
  | true =>
   have p1:(fun e:MapEntry=>!seen.contains e.born) x=false:=by show (!seen.contains x.born)=false;rw[hs];rfl
   have p2:(fun e:MapEntry=>!(seen.push b).contains e.born) x=false:=by show (!(seen.push b).contains x.born)=false;rw[hpush,hs];rfl
   rw[hneg (p:=fun e:MapEntry=>!seen.contains e.born) p1] at h ⊢
   rw[hneg p2]
   exact Y2y seen b l hnd.2 i e h hb
  | false =>
   have p1:(fun e:MapEntry=>!seen.contains e.born) x=true:=by show (!seen.contains x.born)=true;rw[hs];rfl
   rw[hpos (p:=fun e:MapEntry=>!seen.contains e.born) p1] at h ⊢
   cases i with
   | zero =>
    simp only[Yew,Yem] at h
    subst h
    have p2:(fun e:MapEntry=>!(seen.push b).contains e.born) x=false:=by show (!(seen.push b).contains x.born)=false;rw[hpush,hb];simp
    rw[hneg p2,List.eraseIdx_cons_zero]
    refine List.filter_congr fun q hq=>?_
    rw[hpush]
    have:(b == q.born)=false:=by
     rw[← hb]
     simpa using fun h=>hall q hq h.symm
    simp[this]
   | succ i =>
    simp only[List.getElem?_cons_succ] at h
    have hm:e∈l:=(YeL.1 (Yet h)).1
    have hne:(b == x.born)=false:=by
     rw[← hb]
     simpa using hall e hm
    have p2:(fun e:MapEntry=>!(seen.push b).contains e.born) x=true:=by show (!(seen.push b).contains x.born)=true;rw[hpush,hs,hne];rfl
    rw[hpos p2,List.eraseIdx_cons_succ,Y2y seen b l hnd.2 i e h hb]
theorem EntsR.get:∀ {r:List MapEntry}{s:List (List LV)},EntsR w F r s→∀ (i:Nat) (e:MapEntry),r[i]?=some e→∃ k v,s[i]?=some [k,v]∧RelF w F e.key k∧RelF w F e.val v∧EntsR w F (r.eraseIdx i) (s.eraseIdx i)
 | e::r,[k,v]::s,h,0,e',he=>by
  simp at he
  subst he
  exact⟨k,v,rfl,h.1,h.2.1,by simpa using h.2.2⟩
 | e::r,[k,v]::s,h,i+1,e',he=>by
  obtain⟨k',v',h1,h2,h3,h4⟩:=EntsR.get h.2.2 i e' (by simpa using he)
  exact⟨k',v',by simpa using h1,h2,h3,by simpa using ⟨h.1,h.2.1,h4⟩⟩
 | [],_,_,_,_,he=>by simp at he
 | _::_,[],h,_,_,_=>h.elim
 | _::_,[]::_,h,_,_,_=>h.elim
 | _::_,[_]::_,h,_,_,_=>h.elim
 | _::_,(_::_::_::_)::_,h,_,_,_=>h.elim
theorem EntsR.len {r:List MapEntry}{s:List (List LV)}(h:EntsR w F r s): r.length=s.length:=h.fn.1
theorem OpN.sound (h:Inv X st a w F ρ){op:Op}{R:LV→List (Nat × Box)→Prop}(hr:OpN P (evalO st.ts) st.m op R){o:Oper}(ho:o.op=op): ∃ v eff,R v eff∧Sound P X st a w o v eff:=by
 cases hr with
 | @nilEq t e u x y es ht hx hy =>
  obtain⟨dst,op,ty,pos,after,guard⟩:=o
  simp only at ho
  subst ho
  have hv:=h.eval x
  rw[hx] at hv
  obtain⟨ad,len,cap,blk,off,sz,val,hv,g1,g2,g3,-⟩:=hv.toSl
  have hyv:=h.eval y
  rw[hy] at hyv
  refine⟨.bool ad.isNone,[],⟨rfl,_,rfl,fun hn=>?_⟩,Yge h (val:=.bool ad.isNone) ?_ (.mk_bool _)⟩
  ·refine Yeo ?_
   rcases Yfm len with h0 | h0
   ·omega
   ·rw[(g3 h0).1] at hn
    cases hn
  ·simp[execOp,hv,hyv.nils,eqGuard,binOp,Op.equal,run_equalIn_slice_nil w 9999 t e ad len cap ht,Op.maxDepth]
 | @nilNe t e u x y es ht hx hy =>
  obtain⟨dst,op,ty,pos,after,guard⟩:=o
  simp only at ho
  subst ho
  have hv:=h.eval x
  rw[hx] at hv
  obtain⟨ad,len,cap,blk,off,sz,val,hv,g1,g2,g3,-⟩:=hv.toSl
  have hyv:=h.eval y
  rw[hy] at hyv
  refine⟨.bool (!ad.isNone),[],⟨rfl,_,rfl,fun hn=>?_⟩,Yge h (val:=.bool (!ad.isNone)) ?_ (.mk_bool _)⟩
  ·refine Yeo ?_
   rcases Yfm len with h0 | h0
   ·omega
   ·rw[(g3 h0).1] at hn
    cases hn
  ·simp[execOp,hv,hyv.nils,eqGuard,binOp,Op.equal,run_equalIn_slice_nil w 9999 t e ad len cap ht,Op.maxDepth]
 | @next x b g y u es hx hm hg hf hk hn he =>
  obtain⟨dst,op,ty,pos,after,guard⟩:=o
  simp only at ho
  subst ho
  obtain⟨l,hl,hv,l',u',rest,hl',hes,hi⟩:=itrAt h hx hm hg hn
  injection hl' with hl'
  subst hl'
  rw[he] at hes
  injection hes with h1 h2
  subst h1 h2
  have over:∀ {w'},w'=w→(execOp a.eval { dst:=dst,op:=.next x false,type:=ty,pos:=pos,after:=after,guard:=guard }).run P w=.ok (.value (.tuple #[.bool false])) w'→es=[] →
    ∃ v eff,((es=[]∧v=.tup [.bool false]∧eff=[])∨∃ i k w,es[i]?=some [k,w]∧v=.tup [.bool true,k,w]∧eff=[(b,{ y with es:=[k,w]::es.eraseIdx i })]) ∧
     Sound P X st a w { dst:=dst,op:=.next x false,type:=ty,pos:=pos,after:=after,guard:=guard } v eff:=by
   intro w' hw' hr h0
   subst hw'
   refine⟨_,_,.inl ⟨h0,rfl,rfl⟩,Yge h (val:=.tuple #[.bool false]) hr (.tup rfl fun i v l hv hl=>?_)⟩
   match i with
   | 0=>simp at hv hl;subst hv hl;exact .mk_bool _
   | i+1=>simp at hv
  rcases hi with ⟨s,seen,c,g1,-,g3⟩ | ⟨mb,seen,ents,clock,g1,g2,g3,g4,g5,-⟩
  ·refine over rfl ?_ g3
   simp[execOp,hv,Instr.next,getObj,Sem.run,g1]
  ·have hold:∀ x∈ents.toList,x.born<clock:=g4.2
   rcases run_next_at (P:=P) w ty l.blk mb clock clock seen ents clock g1 g3 hold (Ye2 _) with ⟨h0,hrun⟩ | ⟨e,hme,w1,hw1,hrun⟩
   ·refine over rfl ?_ (Yeo ?_)
    ·simp only[execOp,Sem.run_bind,hv,hrun,Yel]
     rfl
    ·rw[← g5.len]
     simpa [leftOf] using h0
   ·have hmem:e∈ents.toList.filter fun e=>!seen.contains e.born:=by simpa [leftOf] using hme
    obtain⟨i,hi,hie⟩:=Yfz.1 hmem
    have hie':(ents.toList.filter fun e=>!seen.contains e.born)[i]?=some e:=by rw[YdO hi,hie]
    obtain⟨k,v,s1,s2,s3,s4⟩:=g5.get i e hie'
    have hmem':e∈ents.toList:=(YeL.1 hmem).1
    have hI1:Inv X st a w1 F ρ:=by
     rcases hw1 with rfl | rfl
     ·exact h
     ·exact h.heap rfl rfl rfl rfl
    have hh:w1.heap=w.heap:=by rcases hw1 with rfl | rfl <;> rfl
    have hblt:=(hI1.place b y l hm hl).1
    have hother:∀ q:Nat,q≠l.blk→(ChangeMaps.setBlock w1 l.blk (.mapIter (some mb) clock (seen.push e.born) clock)).heap[q]?=w1.heap[q]?:=fun q hq=>Yeu (Ne.symm hq)
    have hne:mb≠l.blk:=fun he=>by
     rw[he,g1] at g3
     cases g3
    refine⟨_,_,.inr ⟨i,k,v,s1,rfl,rfl⟩,.value (.tuple #[.bool true,e.key,e.val]),.tuple #[.bool true,e.key,e.val],ChangeMaps.setBlock w1 l.blk (.mapIter (some mb) clock (seen.push e.born) clock),F,ρ,?_,.inl rfl,?_,?_⟩
    ·simp only[execOp,Sem.run_bind,hv,hrun,Yel]
     rfl
    ·refine hI1.write rfl rfl rfl (by simp[ChangeMaps.setBlock]) (fun q _ hq=>hother q (hq y l hm hf hl)) (fun q _=>rfl) hf (fun z hz=>?_) (fun l' hl'=>?_) fun hc hF=>?_
     ·rw[hm] at hz
      injection hz with hz
      subst hz
      exact .inl ⟨rfl,rfl,rfl,.inl hk,rfl⟩
     ·rw[hl] at hl'
      injection hl' with hl'
      subst hl'
      exact⟨by simpa [ChangeMaps.setBlock] using hblt,.inr ⟨y,l,hm,hf,hl,rfl⟩⟩
     ·unfold BoxOK
      simp only[hk]
      unfold MpOK
      rw[if_pos hn,hl]
      refine⟨l,[k,v],es.eraseIdx i,rfl,rfl,.inr ⟨mb,seen.push e.born,ents,clock,?_,g2,?_,g4,?_,.inr ⟨e,k,v,hmem',by simp,rfl,?_,?_⟩⟩⟩
      ·simp[ChangeMaps.setBlock,hblt]
      ·rw[hother mb hne,hh]
       exact g3
      ·rw[Y2y seen e.born ents.toList g4.1 i e hie' rfl]
       exact s4.mono (fun _ h=>h) (fun q hq=>by rw[hF q hq,hh])
      ·exact s2.mono (fun _ h=>h) (fun q hq=>by rw[hF q hq,hh])
      ·exact s3.mono (fun _ h=>h) (fun q hq=>by rw[hF q hq,hh])
    ·have hF:∀ q,F q→(ChangeMaps.setBlock w1 l.blk (.mapIter (some mb) clock (seen.push e.born) clock)).heap[q]?=w.heap[q]?:=fun q hq=>by
      rw[hother q (fun he=>((h.place b y l hm hl).2.2 hf).1 (he ▸ hq)),hh]
     refine .tup rfl fun j v' l' hv' hl'=>?_
     match j with
     | 0=>simp at hv' hl';subst hv' hl';exact .mk_bool _
     | 1=>simp at hv' hl';subst hv' hl';exact .frz (s2.mono (fun _ h=>h) hF)
     | 2=>simp at hv' hl';subst hv' hl';exact .frz (s3.mono (fun _ h=>h) hF)
     | j+3=>simp at hv'
theorem Y3x {p:Addr}{x:Operand}(hv:a.eval x=.pointer (some p)){dst:Option Tmp}{ty:TypeId}{pos:String}{after:Array Edge}{guard:Option (Nat × Bool)}:
  (execOp a.eval { dst:=dst,op:=.nilCheck x,type:=ty,pos:=pos,after:=after,guard:=guard }).run P w=.ok (.value (.pointer (some p))) w:=by
 simp[execOp,hv]
theorem Ybc {f:Mem}{b:Nat}{x:Box}(h:f b=some x): updM f b x=f:=by
 funext n
 by_cases hb:b=n
 ·subst hb
  rw[Y07,h]
 ·exact Y0e _ _ hb
theorem Y9m {v:Value}(h:oneC (constC v)=true): v.oneCell'=true:=by
 unfold constC at h
 split at h <;> first | rfl | (simp[oneC] at h)
theorem Y7s (h:Inv X st a w F ρ){x:Operand}{t e:TypeId}{b g off len:Nat}{cap:Option Nat}{y:Box}{z:List LV}(hx:evalO st.ts x=.own b g off len cap)(hm:st.m b=some y)(hg:y.gen=g)(hf:y.frz=false)(hk:y.kind=.slc)(ht:sliceE P t=some e)
  (hz:zeroL P e=some z) (hzs:z.length=y.sz) (hzl:0<z.length) (hone:z.all oneC=true) (hl:off+len≤y.es.length) {o:Oper}(ho:o.op=.call { callee:=.builtin .clear,args:=#[x],argTypes:=#[t] }) :
  Sound P X st a w o (.tup []) [(b,{ y with es:=y.es.take off++List.replicate len (z.map pureC)++y.es.drop (off+len) })]:=by
 obtain⟨dst,op,ty,pos,after,guard⟩:=o
 simp only at ho
 subst ho
 obtain⟨i,zv,hi,hz',rfl⟩:=Y0t hz
 simp only[Ye4,YeN] at hzs hzl
 have hv:=h.eval x
 rw[hx] at hv
 obtain⟨-,hle,hh⟩:=hv.toOwn hm hg
 have hbx:=Ygg (by rw[hk];simp) (h.boxes b y hm)
 by_cases h0:len=0
 ·subst h0
  have e1:y.es.take off++List.replicate 0 ((zv.cells.toList.map constC).map pureC)++y.es.drop (off+0)=y.es:=by simp
  rw[e1]
  have hval:∃ ad c,a.eval x=.slice ad 0 c:=by
   cases hr:ρ b with
   | none=>rw[hr] at hh;obtain⟨a0,hh⟩:=hh;exact⟨a0,0,hh⟩
   | some lc=>rw[hr] at hh;obtain⟨ao,cap',hv2,-⟩:=hh;exact⟨ao,cap',hv2⟩
  obtain⟨ad,c,hval⟩:=hval
  refine⟨_,.tuple #[],w,F,ρ,Y1j (fun _=>rfl) ?_,.inl rfl,?_,.tup rfl (by simp)⟩
  ·cases ad <;> simp[Builtin.clear_,hval,run_underlying (Y0c ht)]
  ·have:updM st.m b { y with es:=y.es }=st.m:=Ybc hm
   show Inv X ⟨st.ts,updM st.m b { y with es:=y.es }⟩ a w F ρ
   rw[this]
   exact h
 ·cases hr:ρ b with
  | none =>
   rw[hr] at hbx
   have:y.es=[]:=hbx
   rw[this] at hl
   simp at hl
   omega
  | some lc =>
   rw[hr] at hh hbx
   obtain⟨ao,cap',hv2,ha,hcl,-⟩:=hh
   have ha:=ha (by omega)
   subst ha
   obtain⟨cur,tt,g1,g2,g3,g4,g5⟩:=hbx
   rw[hk] at g5
   have hus:(Builtin.zeroCells zv.cells len).toList.length=len*y.sz:=by simp[Builtin.zeroCells,hzs]
   have hfit1:(off+len)*y.sz≤lc.ext*y.sz:=YeX _ (by omega)
   rw[YeB] at hfit1
   have hzr:=Y4J (w:=w) (F:=F) zv.cells hzl len
   have hzc:Builtin.zeroCells zv.cells len=madeCells zv.cells (len*zv.cells.size):=rfl
   have h1:∀ u∈(Builtin.zeroCells zv.cells len).toList,u.oneCell'=true:=by
    intro u hu
    simp only[Builtin.zeroCells,Array.toList_map,Ye8] at hu
    obtain⟨q,-,rfl⟩:=hu
    have hq:q % zv.cells.size<zv.cells.size:=Nat.mod_lt _ hzl
    rw[getElem!_pos zv.cells _ hq]
    refine Y9m ?_
    rw[Yed] at hone
    exact hone _ (Ye8.2 ⟨_,by simp,rfl⟩)
   have hst:=run_storeCells_at P lc.blk (lc.base+off*y.sz) tt (Builtin.zeroCells zv.cells len).toList 0 cur w g1 (by rw[hus];omega) h1
   simp only[YfE] at hst
   refine⟨_,.tuple #[],w.setRow lc.blk (cur.toList.take (lc.base+off*y.sz)++(Builtin.zeroCells zv.cells len).toList++cur.toList.drop (lc.base+off*y.sz+(Builtin.zeroCells zv.cells len).toList.length)).toArray,F,ρ,Y1j (fun _=>rfl) ?_,.inl rfl,?_,.tup rfl (by simp)⟩
   ·cases hlen:len with
    | zero=>exact absurd hlen h0
    | succ k =>
     rw[hlen] at hst hv2
     simp[Builtin.clear_,hv2,run_underlying (Y0c ht),Y3V hi hz',hst]
   ·refine h.write rfl rfl rfl (by simp) (fun k hk' hne=>setRow_other w lc.blk k _ (hne y lc hm hf hr)) (fun k hk=>rfl) hf (fun q hq=>.inl ?_) (fun l' hl'=>?_) fun hcm hF=>Ygc (by simp only[hk];simp) ?_ (fun hvv=>by rw[hk] at hvv;cases hvv)
    ·rw[hm] at hq
     injection hq with hq
     subst hq
     exact⟨rfl,rfl,rfl,.inr (by simp;omega),rfl⟩
    ·rw[hr] at hl'
     injection hl' with hl'
     subst hl'
     exact⟨by simp;exact (h.place b y lc hm hr).1,.inr ⟨y,lc,hm,hf,hr,rfl⟩⟩
    ·rw[hr]
     have hlen2:(y.es.take off++List.replicate len ((zv.cells.toList.map constC).map pureC)++y.es.drop (off+len)).length=y.es.length:=by simp;omega
     refine⟨_,tt,setRow_heap w lc.blk cur _ tt _ g1,by simp[hus];omega,by rw[show _=y.es.length from hlen2];exact g3,fun ee he'=>?_,fun j ee k q he' hq=>?_⟩
     ·rcases Yei.1 he' with he' | he'
      ·rcases Yei.1 he' with he' | he'
       ·exact g4 ee (YeC he')
       ·rw[YeQ he'];simpa using hzs
      ·exact g4 ee (YeE he')
     ·have look:∀ p,((cur.toList.take (lc.base+off*y.sz)++(Builtin.zeroCells zv.cells len).toList++cur.toList.drop (lc.base+off*y.sz+(Builtin.zeroCells zv.cells len).toList.length)).toArray)[p]? =
        if lc.base+off*y.sz≤p∧p<lc.base+off*y.sz+len*y.sz then (Builtin.zeroCells zv.cells len)[p - (lc.base+off*y.sz)]? else cur[p]?:=by
       intro p
       have htl:(cur.toList.take (lc.base+off*y.sz)).length=lc.base+off*y.sz:=by simp;omega
       rw[Yfe]
       by_cases hp:lc.base+off*y.sz≤p∧p<lc.base+off*y.sz+len*y.sz
       ·rw[if_pos hp,Yef (by simp only[YdN,htl,hus];omega),Yeq (by omega),htl,YeD]
       ·rw[if_neg hp]
        by_cases hlt:p<lc.base+off*y.sz
        ·rw[Yef (by simp only[YdN,htl];omega),Yef (by omega),YeU,if_pos hlt,YeD]
        ·rw[Yeq (by simp only[YdN,htl,hus];omega),Yf3]
         simp only[YdN,htl,hus]
         rw[show lc.base+off*y.sz+len*y.sz+(p - (lc.base+off*y.sz+len*y.sz))=p by omega,YeD]
      change ∃ v,(List.toArray _)[lc.base+(j*y.sz+k)]?=some v∧_
      rw[look]
      have hto:(y.es.take off).length=off:=by simp;omega
      have hksz:k<y.sz:=by
       have:=(YdM.1 hq).1
       have hee:ee.length=y.sz:=by
        have:=Yet he'
        rcases Yei.1 this with he2 | he2
        ·rcases Yei.1 he2 with he2 | he2
         ·exact g4 ee (YeC he2)
         ·rw[YeQ he2];simpa using hzs
        ·exact g4 ee (YeE he2)
       omega
      by_cases hjin:off≤j∧j<off+len
      ·obtain⟨d0,rfl⟩:∃ d0,j=off+d0:=⟨j - off,by omega⟩
       have hd0:d0<len:=by omega
       rw[Yef (by simp;omega),Yeq (by omega),hto,show off+d0 - off=d0 by omega] at he'
       have hfit:=Y1S (sz:=y.sz) hd0
       rw[if_pos (by rw[YeB];omega)]
       obtain⟨v,hv',hr'⟩:=hzr.2.2 d0 ee k q he' hq
       refine⟨v,?_,(by show CellR _ _ _ _ y.kind v q;rw[hk];exact (show RelF w F v q from hr').mono (fun _ h=>h) hF)⟩
       rw[hzc,show lc.base+((off+d0)*y.sz+k) - (lc.base+off*y.sz)=d0*zv.cells.size+k by rw[YeB,hzs];omega]
       exact hv'
      ·have hold:y.es[j]?=some ee:=by
        by_cases hlt:j<off
        ·rw[Yef (by simp;omega),Yef (by omega),YeU,if_pos hlt] at he'
         exact he'
        ·rw[Yeq (by simp;omega),Yf3] at he'
         simp only[YdN,hto,YeR] at he'
         rwa [show off+len+(j - (off+len))=j by omega] at he'
       obtain⟨v,hv',hr'⟩:=g5 j ee k q hold hq
       rw[if_neg]
       ·exact⟨v,hv',(by show CellR _ _ _ _ y.kind v q;rw[hk];exact (show RelF w F v q from hr').mono (fun _ h=>h) hF)⟩
       ·rintro⟨p1,p2⟩
        have em:=YeB off len y.sz
        by_cases hlt:j<off
        ·have:=Y1S (sz:=y.sz) hlt
         omega
        ·have h3:(off+len)*y.sz≤j*y.sz:=YeX _ (by omega)
         omega
theorem Sound.like {o o':Oper}{v:LV}{eff:List (Nat × Box)}(h:Sound P X st a w o' v eff)(he:execOp a.eval o'=execOp a.eval o): Sound P X st a w o v eff:=by
 unfold Sound at h ⊢
 rw[← he]
 exact h
theorem OpR.sound (h:Inv X st a w F ρ){d:Nat}{op:Op}{v:LV}{eff:List (Nat × Box)}{R:List Nat}(hr:OpR P d (evalO st.ts) st.m op v eff R){o:Oper}(ho:o.op=op):
  Sound P X st a w o v eff:=by
 cases hr with
 | move =>
  obtain⟨dst,op,ty,pos,after,guard⟩:=o
  simp only at ho
  subst ho
  exact Yge h rfl (h.eval _)
 | assign =>
  obtain⟨dst,op,ty,pos,after,guard⟩:=o
  simp only at ho
  subst ho
  exact Yge h rfl (h.eval _)
 | @pick c x y t ht =>
  obtain⟨dst,op,ty,pos,after,guard⟩:=o
  simp only at ho
  subst ho
  have hc:=h.eval c
  rw[ht] at hc
  refine Yge h (val:=if t then a.eval x else a.eval y) (by simp[execOp,hc.bool,asBool]) ?_
  cases t
  ·exact h.eval y
  ·exact h.eval x
 | alloc hz=>exact Y6Z h hz ho
 | box hx h1=>exact Y9J h hx h1 ho
 | build hb hp=>exact Y7g h hb hp ho
 | buildSliceN ht hz hs hn hb hy hl h1=>exact Y3q h ht hz hs hn hb hy hl h1 ho
 | indexAddrN hx hi hm hg hk ht hs h0 h1=>exact Y28 h hx hi hm hg ht hs h0 h1 ho
 | @appendNs x y t u e b g off len b' g' off' len' cap bx by' z hx hm hg hf hk hend ht hu hz hs hzs hzl hy hym hyg hyk hyl hyz hyb h0 hone h1 hb =>
  subst hu
  have hl:((by'.es.drop off').take len').length=len':=by simp;omega
  have hsrc:=Y8G h hy hym hyg hyk hyl h0
  rw[hyz] at hsrc
  have:=Y5R h hx hm hg hf hk hend ht hz hs hzs hsrc (by omega) hone (by omega) hb ho
  rwa [hl] at this
 | buildSlice00 ht hs hn=>exact Y36 h ht hs hn ho
 | buildSlice ht hz hs hn hb hn0 hp =>
  have:=Y3F h (d:=d) ht hz hs hn hb hn0 hp ho
  rwa [Y5e] at this
 | load ha hm hg hk he ht hv=>exact Y9i h ha hm hg hk he ht hv ho
 | loadA ha hm hg hk he ht hs hc=>exact Y7k h ha hm hg hk he ht hs hc ho
 | loadF ha he ht hv=>exact Y79 h ha he ht hv ho
 | loadFA ha he ht hs hc=>exact Y6I h ha he ht hs hc ho
 | store ha hm hg hf hk he hs hy hl h1 hc=>exact Y7K h ha hm hg hf hk he hs hy hl h1 hc ho
 | storeP ha hm hg hf hk he hs hy hb hl h1 hc=>exact Y6m h ha hm hg hf hk he hs hy hb hl h1 hc ho
 | @nilCheck x hx =>
  obtain⟨dst,op,ty,pos,after,guard⟩:=o
  simp only at ho
  subst ho
  obtain⟨p,hv,hn⟩:=Y2z hx (h.eval x)
  cases p with
  | none=>simp at hn
  | some p =>
   refine Yge h (Y3x hv) ?_
   rw[← hv]
   exact h.eval x
 | @nilCheckR x b g i c y hx hm hg =>
  obtain⟨dst,op,ty,pos,after,guard⟩:=o
  simp only at ho
  subst ho
  have hv:=h.eval x
  rw[hx] at hv
  obtain⟨-,l,-,hv2⟩:=hv.toRef hm hg
  refine Yge h (Y3x hv2) ?_
  rw[← hv2]
  exact h.eval x
 | @nilEq t u e x y b g i c z hx hm hg hy ht =>
  obtain⟨dst,op,ty,pos,after,guard⟩:=o
  simp only at ho
  subst ho
  have hv:=h.eval x
  rw[hx] at hv
  obtain⟨-,l,-,hv2⟩:=hv.toRef hm hg
  have hyv:=h.eval y
  rw[hy] at hyv
  have hu':P.underlying t=some (.pointer (P.pointee t)):=by rw[ht];simp[Program.pointee,ht]
  refine Yge h (val:=.bool false) ?_ (.mk_bool _)
  simp[execOp,hv2,hyv.nilp,eqGuard,run_eql_pointer_nil w t _ hu']
 | @nilNe t u e x y b g i c z hx hm hg hy ht =>
  obtain⟨dst,op,ty,pos,after,guard⟩:=o
  simp only at ho
  subst ho
  have hv:=h.eval x
  rw[hx] at hv
  obtain⟨-,l,-,hv2⟩:=hv.toRef hm hg
  have hyv:=h.eval y
  rw[hy] at hyv
  have hu':P.underlying t=some (.pointer (P.pointee t)):=by rw[ht];simp[Program.pointee,ht]
  refine Yge h (val:=.bool true) ?_ (.mk_bool _)
  simp[execOp,hv2,hyv.nilp,eqGuard,run_neq_pointer_nil w t _ hu']
 | @nilCheckF x f cs hx =>
  obtain⟨dst,op,ty,pos,after,guard⟩:=o
  simp only at ho
  subst ho
  have hv:=h.eval x
  obtain⟨vs,hfv,-⟩:=(hx ▸ hv:RelL w F ρ st.m (a.eval x) (.fn f cs)).toFn
  refine Yge h (val:=a.eval x) ?_ hv
  simp[execOp,hfv]
 | @bin op t u x y v hb =>
  obtain⟨dst,op',ty,pos,after,guard⟩:=o
  simp only at ho
  subst ho
  obtain⟨val,h1,h2⟩:=Y93 (P:=P) (h.eval x) (h.eval y) hb x y
  refine Yge h (val:=val) ?_ h2
  simp only[Sem.run_bind] at h1
  simp only[execOp,Sem.run_bind,h1,Yel]
  rfl
 | @un op t x v hu =>
  obtain⟨dst,op',ty,pos,after,guard⟩:=o
  simp only at ho
  subst ho
  obtain⟨val,h1,h2⟩:=YaS (P:=P) (h.eval x) hu
  refine Yge h (val:=val) ?_ h2
  simp only[execOp,Sem.run_bind,h1,Yel]
  rfl
 | @conv s t x v hc hs =>
  obtain⟨dst,op',ty,pos,after,guard⟩:=o
  simp only at ho
  subst ho
  obtain⟨val,h1,h2⟩:=Y7x (P:=P) (h.eval x) hs hc
  refine Yge h (val:=val) ?_ h2
  simp only[execOp,Sem.run_bind,h1,Yel]
  rfl
 | fieldAddr hx hm hg hof=>exact Y4p h hx hm hg hof ho
 | fieldAddrF hx hof=>exact Y3H h hx hof ho
 | indexAddr hx hi hm hg hk ht hs h0 h1=>exact Y28 h hx hi hm hg ht hs h0 h1 ho
 | indexAddrF hx hi ht hs h0 h1 hz=>exact Y3G h hx hi ht hs h0 h1 hz ho
 | indexAddrA hx hi hm hg ht hs h0 h1=>exact Y3I h hx hi hm hg ht hs h0 h1 ho
 | indexAddrFA hx hi ht hs h0 h1=>exact Y3j h hx hi ht hs h0 h1 ho
 | @field t x f o' cs fs fd v hx ht hf hof ha hv =>
  obtain⟨dst,op',ty,pos,after,guard⟩:=o
  simp only at ho
  subst ho hof
  have hxv:=h.eval x
  rw[hx] at hxv
  obtain⟨vs,hxv,hn,hr⟩:=hxv.cells
  have hlt:fd.offset<vs.size:=by rw[hn];exact (YdM.1 hv).1
  refine Yge h (val:=vs[fd.offset]) ?_ (hr _ _ v (YdL hlt) hv)
  simp[execOp,Instr.field,run_underlying ht,hf,hxv,asAgg,Y1G (P:=P) (w:=w) ha (YdL hlt)]
 | @fieldA t x f o' n cs fs fd hx ht hf hof ha hs hc =>
  obtain⟨dst,op',ty,pos,after,guard⟩:=o
  simp only at ho
  subst ho hof
  have hxv:=h.eval x
  rw[hx] at hxv
  obtain⟨vs,hxv,hn,hr⟩:=hxv.cells
  refine Yge h (val:=.agg (vs.extract fd.offset (fd.offset+n))) ?_ (.agg (by simp;omega) fun j u q hu hq=>?_)
  ·simp[execOp,Instr.field,run_underlying ht,hf,hxv,asAgg,part,Y2O ha,Y0i hs]
  ·obtain⟨hj,hq⟩:=Y0C hq
   rw[Yfb,if_pos (by omega)] at hu
   exact hr _ _ q hu hq
 | @indexS t x ix k n s hx hi ht h0 h1 =>
  obtain⟨dst,op',ty,pos,after,guard⟩:=o
  simp only at ho
  subst ho
  have hxv:=h.eval x
  rw[hx] at hxv
  have hiv:=h.eval ix
  rw[hi] at hiv
  refine Yge h (val:=.int .u8 ((s[n.toNat]'h1).toNat:Int)) ?_ (.mk_int _ _)
  simp[execOp,Instr.index,hxv.str,hiv.int,asIntOf,run_underlying ht,h0,h1]
 | slice hx hm hg hk ht hs hl hh h1 h2 h3=>exact Y7M h hx hm hg ht hs hl hh h1 h2 h3 ho
 | slice3 hx hm hg hk ht hs hl hhs hh hc h1 h2 h3 h4=>exact Y63 h hx hm hg ht hs hl hhs hh hc h1 h2 h3 h4 ho
 | sliceF hx ht hs hz hl hh h1 h2=>exact Y6Q h hx ht hs hz hl hh h1 h2 ho
 | sliceN hx ht hs hl hh h1 h2=>exact Y6G h hx ht hs hl hh h1 h2 ho
 | sliceS hx ht hl hh h1 h2=>exact Y6s h hx ht hl hh h1 h2 ho
 | makeSlice ht hz hs hzl hn hc h0 h1 h2 hb=>exact Y48 h ht hz hs hzl hn hc h0 h1 h2 hb ho
 | makeMap=>exact Y5M h ho
 | lookup hx hm hg hk hn ht hkt hz hf=>exact Y6i h hx hm hg hn ht hkt hz hf ho
 | lookupF hx ht hkt hz hf=>exact Y5o h hx ht hkt hz hf ho
 | @insert t kt et x ix y b g bx r v T hx hm hg hk hn hf ht hkt hfd hy hb =>
  have h1:=Y24 h hx hm hg hn hf ht hkt hfd hy hb (o:={ o with op:=.mapUpdate t x ix y }) rfl
  refine h1.like ?_
  obtain⟨dst,op,ty,pos,after,guard⟩:=o
  simp only at ho
  subst ho
  rfl
 | mapUpdate hx hm hg hk hn hf ht hkt hfd hy hb=>exact Y24 h hx hm hg hn hf ht hkt hfd hy hb ho
 | range ht hx =>
  have:=Y75 h (d:=d) ht hx ho
  rwa [Y5e] at this
 | entry hx hm hg hk hn he=>exact Y72 h hx hm hg hn he ho
 | @extract x i vs v hx hv =>
  obtain⟨dst,op',ty,pos,after,guard⟩:=o
  simp only at ho
  subst ho
  have hxv:=h.eval x
  rw[hx] at hxv
  obtain⟨us,hxv,hn,hr⟩:=hxv.tupcells
  have hlt:i<us.size:=by rw[hn];exact (YdM.1 hv).1
  refine Yge h (val:=us[i]) ?_ (hr _ _ v (YdL hlt) hv)
  simp[execOp,Instr.extract,hxv,YdL hlt]
 | @makeFunc f cap =>
  obtain⟨dst,op',ty,pos,after,guard⟩:=o
  simp only at ho
  subst ho
  refine Yge h (val:=.func (.func f) #[] (cap.map a.eval)) (by simp[execOp,Instr.makeFunc]) (.fn (by simp) fun i u l hu hl=>?_)
  exact Y34 h cap.toList i u l (by simpa using hu) hl
 | len hx hlive ht=>exact Yav h hx hlive.live ht ho
 | @lenMF x t kt et es hx ht =>
  obtain⟨dst,op',ty,pos,after,guard⟩:=o
  simp only at ho
  subst ho
  have hv:=h.eval x
  rw[hx] at hv
  refine Yge h (val:=.int .i64 es.length) (Y1j (fun _=>rfl) ?_) (.mk_int _ _)
  rcases fmapAt (RelF.of_pure rfl hv) with ⟨h0,rfl⟩ | ⟨blk,ents,clock,h0,-,hheap,-,hen⟩
  ·simp[Builtin.len_,h0,run_underlying ht,goInt]
  ·have hn:=hen.fn.1
   simp at hn
   simp[Builtin.len_,h0,run_underlying ht,Y0X hheap,goInt,hn]
 | @lenM x t kt et b g y hx hm hg hk hn2 ht =>
  obtain⟨dst,op',ty,pos,after,guard⟩:=o
  simp only at ho
  subst ho
  obtain⟨l,ents,clock,hl,hv,hheap,-,hen⟩:=mapAt h hx hm hg hn2
  refine Yge h (val:=.int .i64 y.es.length) (Y1j (fun _=>rfl) ?_) (.mk_int _ _)
  have hn:=hen.fn.1
  simp at hn
  simp[Builtin.len_,hv,run_underlying ht,Y0X hheap,goInt,hn]
 | clear hx hm hg hf hk ht hz hzs hzl hone hl=>exact Y7s h hx hm hg hf hk ht hz hzs hzl hone hl ho
 | @indexAr t e x ix k n len cs v hx hi ht hs ha h0 h1 hv =>
  obtain⟨dst,op',ty,pos,after,guard⟩:=o
  simp only at ho
  subst ho
  have hxv:=h.eval x
  rw[hx] at hxv
  have hiv:=h.eval ix
  rw[hi] at hiv
  obtain⟨vs,hxv,hn,hr⟩:=hxv.cells
  have hlt:n.toNat<vs.size:=by rw[hn];exact (YdM.1 hv).1
  refine Yge h (val:=vs[n.toNat]) ?_ (hr _ _ v (YdL hlt) hv)
  have hu:P.underlying t=some (.array len e):=by
   unfold arrayE at ht
   split at ht
   ·rename_i n' e' hu
    injection ht with ht
    injection ht with h2 h3
    rw[← h2,← h3,hu]
   ·cases ht
  simp[execOp,Instr.index,hxv,hiv.int,asIntOf,run_underlying hu,h0,h1,Y0i hs,Y1G (P:=P) (w:=w) ha (YdL hlt)]
 | max hv=>exact Y9v h hv ho
 | min hv=>exact YaT h hv ho
 | appendN hx ht hu hz hs hzl hy h0 hone h1 hb=>subst hu;exact Y5S h hx ht hz hs hy h0 h1 hb ho
 | appendNE hx ht hu hs hy hys hly=>subst hu;exact Y4O h hx ht hs hy hys hly.live ho
 | append0 hx hxs ht hu hsz hy hys hlx hly=>subst hu;exact Y3a h hx hxs ht hsz hy hys hlx.live hly.live ho
 | append hx hm hg hf hk hend ht hu hz hs hzs hzl hy hyb h0 hone h1 hb=>subst hu;exact Y6B h hx hm hg hf hk hend ht hz hs hzs hy h0 hone h1 hb ho
 | appendC hx hm hg hk hl ht hu hz hs hzs hzl hy h0 hgr h1 hb=>subst hu;exact Y5X h hx hm hg hk hl ht hz hs hzs hy h0 hgr h1 hb ho
end
inductive RelI (w:World) (F:Nat→Prop):Value→LV→List Nat→Prop
 | frz {v:Value}{l:LV}(h:RelF w F v l):RelI w F v l []
 | slo0 {a:Option Addr}{sz:Nat}:RelI w F (.slice a 0 0) (.slo sz []) []
 | slo {blk off len cap sz:Nat}{es:List (List LV)}{cs:Array Value}{t:TypeId}(hl:len=es.length) (hc:len≤cap) (hb:w.heap[blk]?=some (.cells cs t (0,0))) (hf:off+cap*sz≤cs.size)
   (hsz:∀ e∈es,e.length=sz) (hcell:∀ (i:Nat) e (c:Nat) q,es[i]?=some e→e[c]?=some q→∃ v,cs[off+(i*sz+c)]?=some v∧RelF w F v q) :
   RelI w F (.slice (some ⟨blk,off,none⟩) len cap) (.slo sz es) [blk]
 | aggn:RelI w F (.agg #[]) (.agg []) []
 | aggc {v:Value}{vs:List Value}{l:LV}{ls:List LV}{O O':List Nat}(h:RelI w F v l O) (hs:RelI w F (.agg ⟨vs⟩) (.agg ls) O'):RelI w F (.agg ⟨v::vs⟩) (.agg (l::ls)) (O++O')
 | tup {cs:Array Value}{ls:List LV}{O:List Nat}(h:RelI w F (.agg cs) (.agg ls) O):RelI w F (.tuple cs) (.tup ls) O
 | ptro {blk off:Nat}{cs:Array Value}{t:TypeId}{ls:List LV}{O:List Nat}(hb:w.heap[blk]?=some (.cells cs t (0,0))) (hf:off+ls.length≤cs.size)
   (h:RelI w F (.agg (cs.extract off (off+ls.length))) (.agg ls) O):RelI w F (.pointer (some ⟨blk,off,none⟩)) (.ptro ls) (blk::O)
inductive Exp (m:Mem):LV→LV→List Nat→List Nat→Prop
 | frz {l l':LV}{T:List Nat}(h:Frz m l l' T):Exp m l l' T []
 | skip:Exp m .skip .skip [] []
 | nils {sz:Nat}:Exp m .nils (.slo sz []) [] []
 | slo {b g off len:Nat}{x:Box}(hm:m b=some x) (hg:x.gen=g) (hf:x.frz=false) (hk:x.kind=.slc) (hend:off+len=x.es.length):Exp m (.own b g off len none) (.slo x.sz (x.es.drop off)) [] [b]
 | aggn:Exp m (.agg []) (.agg []) [] []
 | aggc {l l':LV}{ls ls':List LV}{S T M N:List Nat}(h:Exp m l l' S M) (hs:Exp m (.agg ls) (.agg ls') T N):Exp m (.agg (l::ls)) (.agg (l'::ls')) (S++T) (M++N)
 | tup {ls ls':List LV}{T M:List Nat}(h:Exp m (.agg ls) (.agg ls') T M):Exp m (.tup ls) (.tup ls') T M
 | ptro {b g:Nat}{x:Box}{cs cs':List LV}{T M:List Nat}(hm:m b=some x) (hg:x.gen=g) (hf:x.frz=false) (hk:x.kind=.var) (he:x.es=[cs]) (h:Exp m (.agg cs) (.agg cs') T M) :
   Exp m (.ref b g 0 0) (.ptro cs') T (b::M)
theorem RelI.mono {w:World}{F F':Nat→Prop}(hF:∀ b,F b→F' b){v:Value}{l:LV}{O:List Nat}(h:RelI w F v l O): RelI w F' v l O:=by
 induction h with
 | frz h=>exact .frz (h.mono hF (fun _ _=>rfl))
 | slo0=>exact .slo0
 | slo hl hc hb hf hsz hcell=>exact .slo hl hc hb hf hsz fun i e c q he hq=>let ⟨v,hv,hr⟩:=hcell i e c q he hq;⟨v,hv,hr.mono hF (fun _ _=>rfl)⟩
 | aggn=>exact .aggn
 | aggc h hs ih1 ih2=>exact .aggc ih1 ih2
 | tup h ih=>exact .tup ih
 | ptro hb hf h ih=>exact .ptro hb hf ih
theorem Exp.len {m:Mem}{l l':LV}{T M:List Nat}(h:Exp m l l' T M): ∀ cs cs',l=.agg cs→l'=.agg cs'→cs'.length=cs.length:=by
 induction h with
 | frz h =>
  intro cs cs' h1 h2
  obtain⟨c2,h3,h4⟩:=h.len cs h1
  rw[h2] at h3
  injection h3 with h3
  rw[h3,h4]
 | aggn=>intro cs cs' h1 h2;cases h1;cases h2;rfl
 | aggc h hs ih1 ih2=>intro cs cs' h1 h2;cases h1;cases h2;simp[ih2 _ _ rfl rfl]
 | skip=>intro cs cs' h1;cases h1
 | nils=>intro cs cs' h1;cases h1
 | slo=>intro cs cs' h1;cases h1
 | tup=>intro cs cs' h1;cases h1
 | ptro=>intro cs cs' h1;cases h1
theorem nodup_append {M N:List Nat}(h:(M++N).Nodup): M.Nodup∧N.Nodup∧∀ a∈M,a∉N:=by
 rw[Yff] at h
 exact⟨h.1,h.2.1,fun a ha hb=>h.2.2 a ha a hb rfl⟩
section
variable {P:Program}{X:Ctx}{st:St}{a:Act}{w:World}{F:Nat→Prop}{ρ:Locs}
def OfM (st:St)(ρ:Locs)(M O:List Nat): Prop:=∀ b∈O,∃ n∈M,∃ x lc,st.m n=some x∧x.frz=false∧ρ n=some lc∧lc.blk=b
theorem Exp.sound (h:Inv X st a w F ρ){l l':LV}{T M:List Nat}(he:Exp st.m l l' T M): ∀ v,RelL w F ρ st.m v l→M.Nodup→(∀ n∈M,n∉T) →
  ∃ O,RelI w (FT F ρ T) v l' O∧OfM st ρ M O∧O.Nodup:=by
 induction he with
 | frz hf=>exact fun v hv _ _=>⟨[],.frz (Frz.sound h.boxes hf v hv),(by intro b hb;cases hb),by simp⟩
 | skip=>exact fun v hv _ _=>⟨[],by rw[hv.skip];exact .frz .skip,(by intro b hb;cases hb),by simp⟩
 | nils =>
  intro v hv _ _
  rw[hv.nils]
  exact⟨[],.slo0,(by intro b hb;cases hb),by simp⟩
 | @slo b g off len x hm hg hf hk hend =>
  intro v hv _ _
  obtain⟨-,-,hh⟩:=hv.toOwn hm hg
  have hbx:=Ygg (by rw[hk];simp) (h.boxes b x hm)
  have hdl:(x.es.drop off).length=len:=by simp;omega
  cases hr:ρ b with
  | none =>
   rw[hr] at hh hbx
   have hes:x.es=[]:=hbx
   obtain⟨a0,rfl⟩:=hh
   have hdn:x.es.drop off=[]:=by rw[hes];simp
   have h0:len=0:=by rw[hdn] at hdl;simpa using hdl.symm
   subst h0
   rw[hdn]
   exact⟨[],.slo0,(by intro b hb;cases hb),by simp⟩
  | some lc =>
   rw[hr] at hh hbx
   obtain⟨ao,cap',rfl,ha,hlc,hcc⟩:=hh
   obtain⟨cs,t,g1,g2,g3,g4,g5⟩:=hbx
   rw[hk] at g5
   simp only at hcc
   by_cases h0:cap'=0
   ·have h1:len=0:=by omega
    subst h0 h1
    have hdn:x.es.drop off=[]:=Yeo hdl
    rw[hdn]
    exact⟨[],.slo0,(by intro b hb;cases hb),by simp⟩
   ·have had:=ha (by omega)
    subst had
    refine⟨[lc.blk],.slo hdl.symm hlc g1 ?_ (fun e he=>g4 e (YeE he)) (fun i e c q he hq=>?_),?_,by simp⟩
    ·have:off*x.sz+cap'*x.sz=lc.ext*x.sz:=by rw[← YeB,hcc]
     omega
    ·rw[Yf3] at he
     obtain⟨u,hu,hrel⟩:=g5 _ e c q he hq
     refine⟨u,?_,(show RelF w F u q from hrel).mono FT.mono (fun _ _=>rfl)⟩
     rw[YeB] at hu
     rw[show lc.base+off*x.sz+(i*x.sz+c)=lc.base+(off*x.sz+i*x.sz+c) by omega]
     exact hu
    ·intro b' hb'
     simp at hb'
     subst hb'
     exact⟨b,by simp,x,lc,hm,hf,hr,rfl⟩
 | aggn =>
  intro v hv _ _
  obtain⟨cs,rfl,hn,-⟩:=hv.cells
  have:cs=#[]:=by simpa using hn
  subst this
  exact⟨[],.aggn,(by intro b hb;cases hb),by simp⟩
 | @aggc u u' us us' S T M N h1 h2 ih1 ih2 =>
  intro v hv hnd hdis
  obtain⟨cs,rfl,hn,hr⟩:=hv.cells
  obtain⟨cs⟩:=cs
  cases cs with
  | nil=>simp at hn
  | cons c0 rest =>
   obtain⟨n1,n2,n3⟩:=nodup_append hnd
   obtain⟨O1,r1,m1,d1⟩:=ih1 c0 (hr 0 c0 u (by simp) (by simp)) n1 (fun n hn hn'=>hdis n (Yee _ hn) (Yee _ hn'))
   obtain⟨O2,r2,m2,d2⟩:=ih2 (.agg ⟨rest⟩) (.agg (by simpa using hn) fun i a l ha hl=>hr (i+1) a l (by simpa using ha) (by simpa using hl)) n2 (fun n hn hn'=>hdis n (Yeg _ hn) (Yeg _ hn'))
   refine⟨O1++O2,.aggc (r1.mono (FT.sub fun x hx=>Yee _ hx)) (r2.mono (FT.sub fun x hx=>Yeg _ hx)),fun b hb=>?_,?_⟩
   ·rcases Yei.1 hb with hb | hb
    ·obtain⟨n,hn,x⟩:=m1 b hb
     exact⟨n,Yee _ hn,x⟩
    ·obtain⟨n,hn,x⟩:=m2 b hb
     exact⟨n,Yeg _ hn,x⟩
   ·rw[Yff]
    refine⟨d1,d2,fun b hb b' hb' heq=>?_⟩
    subst heq
    obtain⟨n,hn,x,lc,k1,k2,k3,k4⟩:=m1 b hb
    obtain⟨n',hn',x',lc',k1',k2',k3',k4'⟩:=m2 b hb'
    have:=h.inj n n' x x' lc lc' k1 k1' k2 k2' k3 k3' (by omega)
    subst this
    exact n3 n hn hn'
 | tup h1 ih =>
  intro v hv hnd hdis
  obtain⟨cs,rfl,hn,hr⟩:=hv.tupcells
  obtain⟨O,r1,r2,r3⟩:=ih (.agg cs) (.agg hn hr) hnd hdis
  exact⟨O,.tup r1,r2,r3⟩
 | @ptro b g x cs cs' T M hm hg hf hk he h1 ih =>
  intro v hv hnd hdis
  obtain⟨-,lc,hr,rfl⟩:=hv.toRef hm hg
  have hbx:=Ygg (by rw[hk];simp) (h.boxes b x hm)
  rw[hr] at hbx
  obtain⟨cs0,t,g1,g2,g3,g4,g5⟩:=hbx
  rw[he] at g3 g4 g5
  rw[hk] at g5
  have hsz:cs.length=x.sz:=g4 cs (by simp)
  have hl':=h1.len _ _ rfl rfl
  have hfit:lc.base+x.sz≤cs0.size:=by
   simp at g3
   have:1*x.sz≤lc.ext*x.sz:=YeX _ g3
   omega
  obtain⟨hnb,hndM⟩:=YeV.1 hnd
  have hrel:RelL w F ρ st.m (.agg (cs0.extract lc.base (lc.base+cs'.length))) (.agg cs):=by
   refine .agg (by simp;omega) fun i u l hu hl=>?_
   have hi:i<cs.length:=(YdM.1 hl).1
   obtain⟨u',hu',hrel⟩:=g5 0 cs i l rfl hl
   rw[Yfb,if_pos (by omega)] at hu
   simp only[YfD,YdZ] at hu'
   rw[hu'] at hu
   injection hu with hu
   subst hu
   exact hrel
  obtain⟨O,r1,r2,r3⟩:=ih _ hrel hndM (fun n hn=>hdis n (YdV _ hn))
  refine⟨lc.blk::O,?_,fun b' hb'=>?_,YeV.2 ⟨fun hin=>?_,r3⟩⟩
  ·have e0:lc.base+(0*x.sz+0)=lc.base:=by simp
   rw[e0]
   exact .ptro g1 (by omega) r1
  ·rcases Yep.1 hb' with rfl | hb'
   ·exact⟨b,by simp,x,lc,hm,hf,hr,rfl⟩
   ·obtain⟨n,hn,y⟩:=r2 b' hb'
    exact⟨n,YdV _ hn,y⟩
  ·obtain⟨n,hn,y,lc',k1,k2,k3,k4⟩:=r2 _ hin
   have:=h.inj n b y x lc' lc k1 hm k2 hf k3 hr k4
   subst this
   exact hnb hn
theorem Inv.adopt (h:Inv X st a w F ρ){ρ':Locs}{n:Nat}{x':Box}(hρ:∀ k,k≠n→ρ' k=ρ k)(hf:x'.frz=false)(hgen:x'.gen=genAt st.m n)
  (hloc:∀ l,ρ' n=some l→l.blk<w.heap.size∧¬ F l.blk∧(l.blk∈X.O0∨X.w0.heap.size≤l.blk)∧∀ k x l',st.m k=some x→x.frz=false→k≠n→ρ k=some l'→l'.blk≠l.blk)
  (hbox:Compat st.m ρ (updM st.m n x') ρ'→BoxOK w F ρ' (updM st.m n x') n x') :
  Inv X ⟨st.ts,updM st.m n x'⟩ a w F ρ'∧Compat st.m ρ (updM st.m n x') ρ':=by
 have hc:Compat st.m ρ (updM st.m n x') ρ':=by
  intro b x hx
  by_cases hb:n=b
  ·subst hb
   exact⟨x',Y07 _ _ _,.inr (by rw[hgen];simp[genAt,hx])⟩
  ·exact⟨x,by rw[Y0e _ _ hb];exact hx,.inl ⟨rfl,hρ b (Ne.symm hb),rfl,.inr rfl,rfl⟩⟩
 have hlook:∀ k x,(updM st.m n x') k=some x→(k=n∧x=x')∨(k≠n∧st.m k=some x):=by
  intro k x hx
  by_cases hk:n=k
  ·subst hk
   rw[Y07] at hx
   exact .inl ⟨rfl,(Option.some.inj hx).symm⟩
  ·rw[Y0e _ _ hk] at hx
   exact .inr ⟨Ne.symm hk,hx⟩
 refine⟨⟨h.defers,fun j=>(h.slots j).mono (fun _ h=>h) (fun _ _=>rfl) hc,?_,?_,?_,h.frz0,h.frz1,h.frzlt,h.ext,fun v l hv=>(h.kept v l hv).mono (fun _ h=>h) (fun _ _=>rfl) hc⟩,hc⟩
 ·intro k x hx
  rcases hlook k x hx with ⟨h1,h2⟩ | ⟨hk,hx2⟩
  ·rw[h1,h2];exact hbox hc
  ·exact (h.boxes k x hx2).mono (fun _ h=>h) (fun _ _=>rfl) hc (hρ k hk) fun l hl=>rfl
 ·intro k x l hx hl
  rcases hlook k x hx with ⟨h1,h2⟩ | ⟨hk,hx2⟩
  ·rw[h1] at hl
   rw[h2]
   obtain⟨q1,q2,q3,-⟩:=hloc l hl
   exact⟨q1,fun hf'=>by rw[hf] at hf';exact absurd hf' (by simp),fun _=>⟨q2,q3⟩⟩
  ·rw[hρ k hk] at hl
   exact h.place k x l hx2 hl
 ·intro k k' x y l l' hx hy hxf hyf hl hl' he
  rcases hlook k x hx with ⟨h1,h2⟩ | ⟨hk,hx2⟩
  ·rcases hlook k' y hy with ⟨h3,h4⟩ | ⟨hk',hy2⟩
   ·rw[h1,h3]
   ·rw[h1] at hl
    rw[hρ k' hk'] at hl'
    exact absurd he.symm ((hloc l hl).2.2.2 k' y l' hy2 hyf hk' hl')
  ·rcases hlook k' y hy with ⟨h3,h4⟩ | ⟨hk',hy2⟩
   ·rw[h3] at hl'
    rw[hρ k hk] at hl
    exact absurd he ((hloc l' hl').2.2.2 k x l hx2 hxf hk hl)
   ·rw[hρ k hk] at hl
    rw[hρ k' hk'] at hl'
    exact h.inj k k' x y l l' hx2 hy2 hxf hyf hl hl' he
def impC0 (m:Mem)(n:Nat): LV→LV × List (Nat × Box) × Nat
 | .slo sz es=>(.own n (genAt m n) 0 es.length none,[(n,⟨genAt m n,false,.slc,sz,es⟩)],n+1)
 | l=>(l,[],n)
def impCs0 (m:Mem): Nat→List LV→List LV × List (Nat × Box) × Nat
 | n,[]=>([],[],n)
 | n,l::ls=>((impC0 m n l).1::(impCs0 m (impC0 m n l).2.2 ls).1,(impC0 m n l).2.1++(impCs0 m (impC0 m n l).2.2 ls).2.1,(impCs0 m (impC0 m n l).2.2 ls).2.2)
def impC (m:Mem)(n:Nat): LV→LV × List (Nat × Box) × Nat
 | .slo sz es=>(.own n (genAt m n) 0 es.length none,[(n,⟨genAt m n,false,.slc,sz,es⟩)],n+1)
 | .ptro cs=>(.ref n (genAt m n) 0 0,(impCs0 m (n+1) cs).2.1++[(n,⟨genAt m n,false,.var,cs.length,[(impCs0 m (n+1) cs).1]⟩)],(impCs0 m (n+1) cs).2.2)
 | l=>(l,[],n)
def impCs (m:Mem): Nat→List LV→List LV × List (Nat × Box) × Nat
 | n,[]=>([],[],n)
 | n,l::ls=>((impC m n l).1::(impCs m (impC m n l).2.2 ls).1,(impC m n l).2.1++(impCs m (impC m n l).2.2 ls).2.1,(impCs m (impC m n l).2.2 ls).2.2)
def impV (m:Mem)(n:Nat): LV→LV × List (Nat × Box) × Nat
 | .agg cs=>(.agg (impCs m n cs).1,(impCs m n cs).2)
 | l=>impC m n l
def impVs (m:Mem): Nat→List LV→List LV × List (Nat × Box) × Nat
 | n,[]=>([],[],n)
 | n,l::ls=>((impV m n l).1::(impVs m (impV m n l).2.2 ls).1,(impV m n l).2.1++(impVs m (impV m n l).2.2 ls).2.1,(impVs m (impV m n l).2.2 ls).2.2)
def impT (m:Mem)(d:Nat): LV→LV × List (Nat × Box)
 | .tup vs=>(.tup (impVs m d vs).1,(impVs m d vs).2.1)
 | .ptro cs=>(.ref d (genAt m d) 0 0,(impCs m (d+1) cs).2.1++[(d,⟨genAt m d,false,.var,cs.length,[(impCs m (d+1) cs).1]⟩)])
 | l=>((impV m d l).1,(impV m d l).2.1)
end
section
variable {P:Program}{X:Ctx}{a:Act}{w:World}{F:Nat→Prop}
def FreeB (X:Ctx)(st:St)(w:World)(F:Nat→Prop)(ρ:Locs)(O:List Nat): Prop :=
 ∀ b∈O,b<w.heap.size∧¬ F b∧(b∈X.O0∨X.w0.heap.size≤b)∧∀ k x l,st.m k=some x→x.frz=false→ρ k=some l→l.blk≠b
structure Took (X:Ctx) (st st':St) (w:World) (F:Nat→Prop) (ρ ρ':Locs) (O:List Nat) (lo hi:Nat):Prop where
 compat:Compat st.m ρ st'.m ρ'
 same:∀ k,k<lo∨hi≤k→st'.m k=st.m k
 own:∀ k x l,st'.m k=some x→x.frz=false→ρ' k=some l→(st.m k=some x∧ρ k=some l)∨l.blk∈O
 ts:st'.ts=st.ts
theorem Took.refl (st:St)(ρ:Locs)(n:Nat): Took X st st w F ρ ρ [] n n :=
 ⟨fun _ x hx=>⟨x,hx,.inl ⟨rfl,rfl,rfl,.inr rfl,rfl⟩⟩,fun _ _=>rfl,fun _ _ _ h1 _ h2=>.inl ⟨h1,h2⟩,rfl⟩
theorem Compat.trans {m m1 m2:Mem}{ρ ρ1 ρ2:Locs}(h:Compat m ρ m1 ρ1)(h':Compat m1 ρ1 m2 ρ2): Compat m ρ m2 ρ2:=by
 intro b x hx
 obtain⟨x1,hx1,h1⟩:=h b x hx
 obtain⟨x2,hx2,h2⟩:=h' b x1 hx1
 refine⟨x2,hx2,?_⟩
 rcases h1 with ⟨a1,a2,a3,a4,a5⟩ | h1
 ·rcases h2 with ⟨b1,b2,b3,b4,b5⟩ | h2
  ·refine .inl ⟨b1.trans a1,b2.trans a2,b3.trans a3,?_,b5.trans a5⟩
   rcases a4 with a4 | a4
   ·exact .inl a4
   ·rcases b4 with b4 | b4
    ·exact .inl (a5 ▸ b4)
    ·exact .inr (b4.trans a4)
  ·exact .inr (by omega)
 ·rcases h2 with ⟨b1,-⟩ | h2
  ·exact .inr (by omega)
  ·exact .inr (by omega)
theorem Took.trans {st st1 st2:St}{ρ ρ1 ρ2:Locs}{O O':List Nat}{n n1 n2:Nat}(h:Took X st st1 w F ρ ρ1 O n n1)(h':Took X st1 st2 w F ρ1 ρ2 O' n1 n2)(hn:n≤n1)(hn':n1≤n2): Took X st st2 w F ρ ρ2 (O++O') n n2:=by
 refine⟨h.compat.trans h'.compat,fun k hk=>(h'.same k (by omega)).trans (h.same k (by omega)),fun k x l h1 h2 h3=>?_,h'.ts.trans h.ts⟩
 rcases h'.own k x l h1 h2 h3 with ⟨g1,g2⟩ | g
 ·rcases h.own k x l g1 h2 g2 with g3 | g3
  ·exact .inl g3
  ·exact .inr (Yee _ g3)
 ·exact .inr (Yeg _ g)
theorem FreeB.next {st st1:St}{ρ ρ1:Locs}{O O':List Nat}{n n1:Nat}(h:FreeB X st w F ρ O')(ht:Took X st st1 w F ρ ρ1 O n n1)(hd:∀ b∈O,b∉O'): FreeB X st1 w F ρ1 O':=by
 intro b hb
 obtain⟨h1,h2,h3,h4⟩:=h b hb
 refine⟨h1,h2,h3,fun k x l g1 g2 g3=>?_⟩
 rcases ht.own k x l g1 g2 g3 with ⟨g4,g5⟩ | g4
 ·exact h4 k x l g4 g2 g5
 ·exact fun he=>hd _ g4 (he ▸ hb)
def updRo (f:Locs)(i:Nat)(o:Option Loc): Locs:=fun j=>cond (Nat.beq i j) o (f j)
theorem Y05 (f:Locs)(i:Nat)(o:Option Loc): updRo f i o i=o:=by simp[updRo]
theorem Y0f (f:Locs){i j:Nat}(o:Option Loc)(h:i≠j): updRo f i o j=f j:=by
 have:Nat.beq i j=false:=by
  cases h':Nat.beq i j
  ·rfl
  ·exact absurd (YeP h') h
 simp[updRo,this]
theorem Y3Q {st:St}{ρ ρ':Locs}{n:Nat}{x':Box}{O:List Nat}(hρ:∀ k,k≠n→ρ' k=ρ k)(hc:Compat st.m ρ (updM st.m n x') ρ')(ho:∀ l,ρ' n=some l→l.blk∈O):
  Took X st ⟨st.ts,updM st.m n x'⟩ w F ρ ρ' O n (n+1):=by
 refine⟨hc,fun k hk=>Y0e _ _ (by omega),fun k x l h1 h2 h3=>?_,rfl⟩
 by_cases hk:k=n
 ·subst hk
  exact .inr (ho l h3)
 ·rw[hρ k hk] at h3
  have h1:st.m k=some x:=by rw[← h1];exact (Y0e _ _ (Ne.symm hk)).symm
  exact .inl ⟨h1,h3⟩
def cell0:LV→Bool
 | .agg _=>false
 | .tup _=>false
 | .ptro _=>false
 | _=>true
def cellI:LV→Bool
 | .agg _=>false
 | .tup _=>false
 | .ptro cs=>cs.all cell0
 | _=>true
def valI:LV→Bool
 | .agg cs=>cs.all cellI
 | l=>cellI l
def topI:LV→Bool
 | .tup vs=>vs.all valI
 | .ptro cs=>cs.all cellI
 | l=>valI l
theorem Y7z {st:St}{ρ:Locs}(h:Inv X st a w F ρ){v:Value}{l:LV}{O:List Nat}(hr:RelI w F v l O)(hO:FreeB X st w F ρ O)(hcl:cell0 l=true)(n:Nat):
  ∃ ρ',Inv X ⟨st.ts,effM st.m (impC0 st.m n l).2.1⟩ a w F ρ'∧RelL w F ρ' (effM st.m (impC0 st.m n l).2.1) v (impC0 st.m n l).1 ∧
   Took X st ⟨st.ts,effM st.m (impC0 st.m n l).2.1⟩ w F ρ ρ' O n (impC0 st.m n l).2.2∧n≤(impC0 st.m n l).2.2:=by
 cases hr with
 | frz hf =>
  have hi:impC0 st.m n l=(l,[],n):=by
   cases l <;> first | rfl | cases hf
  rw[hi]
  exact⟨ρ,h,.frz hf,Took.refl st ρ n,Ye2 _⟩
 | @slo0 a0 sz =>
  obtain⟨k1,k2⟩:=h.adopt (n:=n) (x':=⟨genAt st.m n,false,.slc,sz,[]⟩) (ρ':=updRo ρ n none) (fun k hk=>Y0f _ _ (Ne.symm hk)) rfl rfl (fun l hl=>by rw[Y05] at hl;cases hl)
   fun _=>Ygc (by simp) (by rw[Y05];rfl)
  refine⟨updRo ρ n none,k1,.own rfl (Y07 _ _ _) (Ye2 _) fun _=>⟨rfl,by simp,by rw[Y05];exact⟨a0,rfl⟩⟩,Y3Q (fun k hk=>Y0f _ _ (Ne.symm hk)) k2 (fun l hl=>by rw[Y05] at hl;cases hl),by simp[impC0]⟩
 | @slo blk off len cap sz es cs t hl hc hb hf hsz hcell =>
  obtain⟨f1,f2,f3,f4⟩:=hO blk (by simp)
  obtain⟨k1,k2⟩:=h.adopt (n:=n) (x':=⟨genAt st.m n,false,.slc,sz,es⟩) (ρ':=updRo ρ n (some ⟨blk,off,cap⟩)) (fun k hk=>Y0f _ _ (Ne.symm hk)) rfl rfl
   (fun l hl=>by
    rw[Y05] at hl
    injection hl with hl
    subst hl
    exact⟨f1,f2,f3,fun k x l' g1 g2 _ g3=>f4 k x l' g1 g2 g3⟩)
   fun _=>Ygc (by simp) (by rw[Y05];exact⟨cs,t,hb,hf,by simp only;omega,hsz,fun i e c q he hq=>hcell i e c q he hq⟩)
  refine⟨_,k1,.own rfl (Y07 _ _ _) (Ye2 _) fun _=>⟨rfl,by simp,by rw[Y05];exact⟨_,cap,by rw[hl],fun _=>by simp,by omega,by simp⟩⟩,Y3Q (fun k hk=>Y0f _ _ (Ne.symm hk)) k2 (fun l hl=>by
   rw[Y05] at hl
   injection hl with hl
   subst hl
   simp),by simp[impC0]⟩
 | aggn=>simp[cell0] at hcl
 | aggc=>simp[cell0] at hcl
 | tup=>simp[cell0] at hcl
 | ptro=>simp[cell0] at hcl
theorem Y1g {m m':Mem}{n:Nat}(h:m' n=m n): genAt m' n=genAt m n:=by simp[genAt,h]
theorem Y7N {m m':Mem}{n:Nat}(h:∀ k,n≤k→m' k=m k)(l:LV): impC0 m' n l=impC0 m n l:=by
 cases l <;> first | rfl | (simp[impC0,Y1g (h n (Ye2 n))])
theorem Y8h (m:Mem)(n:Nat)(l:LV): n≤(impC0 m n l).2.2:=by
 cases l <;> simp[impC0]
theorem Y26 {m m':Mem}: ∀ (ls:List LV) {n:Nat},(∀ k,n≤k→m' k=m k)→impCs0 m' n ls=impCs0 m n ls
 | [],n,_=>rfl
 | l::ls,n,h=>by
  have h1:=Y7N h l
  have h2:=Y26 (m:=m) (m':=m') ls (n:=(impC0 m n l).2.2) (fun k hk=>h k (Ye5 (Y8h m n l) hk))
  simp only[impCs0,h1,h2]
theorem Y38 (m:Mem): ∀ (ls:List LV) (n:Nat),n≤(impCs0 m n ls).2.2
 | [],n=>Ye2 _
 | l::ls,n=>Ye5 (Y8h m n l) (Y38 m ls _)
theorem RelI.uncons {v:Value}{l:LV}{ls:List LV}{O:List Nat}(h:RelI w F v (.agg (l::ls)) O): ∃ u us O1 O2,v=.agg ⟨u::us⟩∧O=O1++O2∧RelI w F u l O1∧RelI w F (.agg ⟨us⟩) (.agg ls) O2:=by
 cases h with
 | frz h =>
  obtain⟨cs,rfl,hn,hr⟩:=h.cells
  obtain⟨cs⟩:=cs
  cases cs with
  | nil=>simp at hn
  | cons u us =>
   exact⟨u,us,[],[],rfl,rfl,.frz (hr 0 u l rfl rfl),.frz (.agg (by simpa using hn) fun i a q ha hq=>hr (i+1) a q (by simpa using ha) (by simpa using hq))⟩
 | aggc h1 h2=>exact⟨_,_,_,_,rfl,rfl,h1,h2⟩
theorem RelI.nil {v:Value}{O:List Nat}(h:RelI w F v (.agg []) O): v=.agg #[]∧O=[]:=by
 cases h with
 | frz h =>
  obtain⟨cs,rfl,hn,hr⟩:=h.cells
  have:cs=#[]:=by simpa using hn
  exact⟨by rw[this],rfl⟩
 | aggn=>exact⟨rfl,rfl⟩
theorem RelL.consAgg {ρ:Locs}{m:Mem}{u:Value}{us:List Value}{l:LV}{ls:List LV}(h:RelL w F ρ m u l)(hs:RelL w F ρ m (.agg ⟨us⟩) (.agg ls)): RelL w F ρ m (.agg ⟨u::us⟩) (.agg (l::ls)):=by
 obtain⟨cs,h1,hn,hr⟩:=hs.cells
 injection h1 with h1
 subst h1
 refine .agg (by simpa using hn) fun i v q hv hq=>?_
 cases i with
 | zero =>
  simp at hv hq
  subst hv hq
  exact h
 | succ i=>exact hr i v q (by simpa using hv) (by simpa using hq)
def YgH := @RelL.consAgg
theorem Y6h:∀ (ls:List LV) {st:St}{ρ:Locs},Inv X st a w F ρ→∀ {us:List Value}{O:List Nat},RelI w F (.agg ⟨us⟩) (.agg ls) O→FreeB X st w F ρ O→O.Nodup→ls.all cell0=true→∀ (n:Nat),
  ∃ ρ',Inv X ⟨st.ts,effM st.m (impCs0 st.m n ls).2.1⟩ a w F ρ'∧RelL w F ρ' (effM st.m (impCs0 st.m n ls).2.1) (.agg ⟨us⟩) (.agg (impCs0 st.m n ls).1) ∧
   Took X st ⟨st.ts,effM st.m (impCs0 st.m n ls).2.1⟩ w F ρ ρ' O n (impCs0 st.m n ls).2.2:=by
 intro ls
 induction ls with
 | nil =>
  intro st ρ h us O hr hO hnd hc n
  obtain⟨h1,rfl⟩:=hr.nil
  injection h1 with h1
  rw[h1]
  exact⟨ρ,h,.agg rfl (by simp[impCs0]),Took.refl st ρ n⟩
 | cons l ls ih =>
  intro st ρ h us O hr hO hnd hc n
  simp only[Yfa,Ye0] at hc
  obtain⟨u,us',O1,O2,h1,rfl,hr1,hr2⟩:=hr.uncons
  injection h1 with h1
  injection h1 with h1
  subst h1
  obtain⟨n1,n2,n3⟩:=nodup_append hnd
  obtain⟨ρ1,k1,k2,k3,k4⟩:=Y7z h hr1 (fun b hb=>hO b (Yee _ hb)) hc.1 n
  have hfree2:FreeB X ⟨st.ts,effM st.m (impC0 st.m n l).2.1⟩ w F ρ1 O2:=FreeB.next (fun b hb=>hO b (Yeg _ hb)) k3 n3
  obtain⟨ρ2,q1,q2,q3⟩:=ih k1 hr2 hfree2 n2 hc.2 (impC0 st.m n l).2.2
  have hcg:impCs0 (effM st.m (impC0 st.m n l).2.1) (impC0 st.m n l).2.2 ls=impCs0 st.m (impC0 st.m n l).2.2 ls:=Y26 ls fun k hk=>k3.same k (.inr hk)
  simp only[hcg] at q1 q2 q3
  have heff:effM st.m (impCs0 st.m n (l::ls)).2.1=effM (effM st.m (impC0 st.m n l).2.1) (impCs0 st.m (impC0 st.m n l).2.2 ls).2.1:=by simp only[impCs0,Y0b]
  rw[heff]
  refine⟨ρ2,q1,?_,Took.trans k3 q3 k4 (Y38 _ _ _)⟩
  exact YgH (k2.mono (fun _ h=>h) (fun _ _=>rfl) q3.compat) q2
theorem Y4P {st:St}{ρ:Locs}(h:Inv X st a w F ρ){v:Value}{l:LV}{O:List Nat}(hr:RelI w F v l O)(hO:FreeB X st w F ρ O)(hnd:O.Nodup)(hcl:cellI l=true)(n:Nat):
  ∃ ρ',Inv X ⟨st.ts,effM st.m (impC st.m n l).2.1⟩ a w F ρ'∧RelL w F ρ' (effM st.m (impC st.m n l).2.1) v (impC st.m n l).1 ∧
   Took X st ⟨st.ts,effM st.m (impC st.m n l).2.1⟩ w F ρ ρ' O n (impC st.m n l).2.2∧n≤(impC st.m n l).2.2:=by
 cases hr with
 | frz hf =>
  have hi:impC st.m n l=(l,[],n):=by
   cases l <;> first | rfl | cases hf
  rw[hi]
  exact⟨ρ,h,.frz hf,Took.refl st ρ n,Ye2 _⟩
 | @slo0 a0 sz =>
  obtain⟨k1,k2⟩:=h.adopt (n:=n) (x':=⟨genAt st.m n,false,.slc,sz,[]⟩) (ρ':=updRo ρ n none) (fun k hk=>Y0f _ _ (Ne.symm hk)) rfl rfl (fun l hl=>by rw[Y05] at hl;cases hl)
   fun _=>Ygc (by simp) (by rw[Y05];rfl)
  refine⟨updRo ρ n none,k1,.own rfl (Y07 _ _ _) (Ye2 _) fun _=>⟨rfl,by simp,by rw[Y05];exact⟨a0,rfl⟩⟩,Y3Q (fun k hk=>Y0f _ _ (Ne.symm hk)) k2 (fun l hl=>by rw[Y05] at hl;cases hl),by simp[impC]⟩
 | @slo blk off len cap sz es cs t hl hc hb hf hsz hcell =>
  obtain⟨f1,f2,f3,f4⟩:=hO blk (by simp)
  obtain⟨k1,k2⟩:=h.adopt (n:=n) (x':=⟨genAt st.m n,false,.slc,sz,es⟩) (ρ':=updRo ρ n (some ⟨blk,off,cap⟩)) (fun k hk=>Y0f _ _ (Ne.symm hk)) rfl rfl
   (fun l hl=>by
    rw[Y05] at hl
    injection hl with hl
    subst hl
    exact⟨f1,f2,f3,fun k x l' g1 g2 _ g3=>f4 k x l' g1 g2 g3⟩)
   fun _=>Ygc (by simp) (by rw[Y05];exact⟨cs,t,hb,hf,by simp only;omega,hsz,fun i e c q he hq=>hcell i e c q he hq⟩)
  refine⟨_,k1,.own rfl (Y07 _ _ _) (Ye2 _) fun _=>⟨rfl,by simp,by rw[Y05];exact⟨_,cap,by rw[hl],fun _=>by simp,by omega,by simp⟩⟩,Y3Q (fun k hk=>Y0f _ _ (Ne.symm hk)) k2 (fun l hl=>by
   rw[Y05] at hl
   injection hl with hl
   subst hl
   simp),by simp[impC]⟩
 | aggn=>simp[cellI] at hcl
 | aggc=>simp[cellI] at hcl
 | tup=>simp[cellI] at hcl
 | @ptro blk off cs0 t ls O' hb hf h1 =>
   obtain⟨n1,n2⟩:=YeV.1 hnd
   obtain⟨ρ1,k1,k2,k3⟩:=Y6h ls h (us:=(cs0.extract off (off+ls.length)).toList) h1 (fun b hb=>hO b (YdV _ hb)) n2 hcl (n+1)
   obtain⟨f1,f2,f3,f4⟩:=FreeB.next (X:=X) (O':=[blk]) (fun b hb=>hO b (by simp at hb;simp[hb])) k3 (fun b e1 e2=>by simp at e2;subst e2;exact n1 e1) blk (by simp)
   have hgen:genAt (effM st.m (impCs0 st.m (n+1) ls).2.1) n=genAt st.m n:=Y1g (k3.same n (.inl (Yfu n)))
   obtain⟨vs,g1,g2,g3⟩:=k2.cells
   have hlen:(impCs0 st.m (n+1) ls).1.length=ls.length:=by
    injection g1 with g1
    rw[← g2,← g1]
    simp
    omega
   obtain⟨q1,q2⟩:=k1.adopt (n:=n) (x':=⟨genAt st.m n,false,.var,ls.length,[(impCs0 st.m (n+1) ls).1]⟩) (ρ':=updRo ρ1 n (some ⟨blk,off,1⟩)) (fun k hk=>Y0f _ _ (Ne.symm hk)) rfl hgen.symm
    (fun l hl=>by
     rw[Y05] at hl
     injection hl with hl
     subst hl
     exact⟨f1,f2,f3,fun k x l' e1 e2 _ e3=>f4 k x l' e1 e2 e3⟩)
    fun hcm=>Ygc (by simp) (by
     rw[Y05]
     refine⟨cs0,t,hb,by simpa using hf,by simp,by simpa using hlen,fun i e c q he hq=>?_⟩
     have hi:i=0:=by have:=(YdM.1 he).1;simp at this;omega
     subst hi
     simp only[Yew,Yem] at he
     subst he
     have hcl:c<ls.length:=by have:=(YdM.1 hq).1;omega
     have hcx:(cs0.extract off (off+ls.length))[c]?=some (cs0[off+c]'(by omega)):=by
      rw[Yfb,if_pos (by omega)]
      exact YdL _
     refine⟨cs0[off+c]'(by omega),by simp only[YfD,YdZ];exact YdL _,?_⟩
     injection g1 with g1
     have hg:vs[c]?=some (cs0[off+c]'(by omega)):=by rw[← hcx,← g1]
     exact (g3 c _ q hg hq).mono (fun _ h=>h) (fun _ _=>rfl) hcm) fun _ l hl=>by
      rw[Y05] at hl
      injection hl with hl
      subst hl
      rfl
   have hle:=Y38 st.m ls (n+1)
   have heff:effM st.m (impC st.m n (.ptro ls)).2.1=updM (effM st.m (impCs0 st.m (n+1) ls).2.1) n ⟨genAt st.m n,false,.var,ls.length,[(impCs0 st.m (n+1) ls).1]⟩:=by
    simp only[impC,Y0b,effM]
   rw[heff]
   refine⟨_,q1,.ref rfl (Y07 _ _ _) (Ye2 _) fun _=>⟨by simp,_,Y05 _ _ _,by simp⟩,⟨k3.compat.trans q2,fun k hk=>?_,fun k x l e1 e2 e3=>?_,k3.ts⟩,by simp only[impC];omega⟩
   ·have hk':k<n∨(impCs0 st.m (n+1) ls).2.2≤k:=hk
    show updM _ n _ k=_
    rw[Y0e _ _ (by omega)]
    exact k3.same k (by omega)
   ·by_cases hk:k=n
    ·subst hk
     rw[Y05] at e3
     injection e3 with e3
     subst e3
     exact .inr (by simp)
    ·rw[Y0f _ _ (Ne.symm hk)] at e3
     have e1:(effM st.m (impCs0 st.m (n+1) ls).2.1) k=some x:=(Y0e _ _ (Ne.symm hk)).symm.trans e1
     rcases k3.own k x l e1 e2 e3 with ⟨g4,g5⟩ | g4
     ·exact .inl ⟨g4,g5⟩
     ·exact .inr (YdV _ g4)
theorem Y4U {m m':Mem}{n:Nat}(h:∀ k,n≤k→m' k=m k)(l:LV): impC m' n l=impC m n l:=by
 cases l <;> first | rfl | (simp[impC,Y1g (h n (Ye2 n))];done) | (simp only[impC,Y1g (h n (Ye2 n)),Y26 _ (fun k hk=>h k (Ye5 (YfI n) hk))])
theorem Y7j (m:Mem)(n:Nat)(l:LV): n≤(impC m n l).2.2:=by
 cases l <;> first | (simp[impC];done) | exact Ye5 (YfI n) (Y38 m _ (n+1))
theorem Y2H {m m':Mem}: ∀ (ls:List LV) {n:Nat},(∀ k,n≤k→m' k=m k)→impCs m' n ls=impCs m n ls
 | [],n,_=>rfl
 | l::ls,n,h=>by
  have h1:=Y4U h l
  have h2:=Y2H (m:=m) (m':=m') ls (n:=(impC m n l).2.2) (fun k hk=>h k (Ye5 (Y7j m n l) hk))
  simp only[impCs,h1,h2]
theorem Y3T (m:Mem): ∀ (ls:List LV) (n:Nat),n≤(impCs m n ls).2.2
 | [],n=>Ye2 _
 | l::ls,n=>Ye5 (Y7j m n l) (Y3T m ls _)
theorem Y2F:∀ (ls:List LV) {st:St}{ρ:Locs},Inv X st a w F ρ→∀ {us:List Value}{O:List Nat},RelI w F (.agg ⟨us⟩) (.agg ls) O→FreeB X st w F ρ O→O.Nodup→ls.all cellI=true→∀ (n:Nat),
  ∃ ρ',Inv X ⟨st.ts,effM st.m (impCs st.m n ls).2.1⟩ a w F ρ'∧RelL w F ρ' (effM st.m (impCs st.m n ls).2.1) (.agg ⟨us⟩) (.agg (impCs st.m n ls).1) ∧
   Took X st ⟨st.ts,effM st.m (impCs st.m n ls).2.1⟩ w F ρ ρ' O n (impCs st.m n ls).2.2:=by
 intro ls
 induction ls with
 | nil =>
  intro st ρ h us O hr hO hnd hc n
  obtain⟨h1,rfl⟩:=hr.nil
  injection h1 with h1
  rw[h1]
  exact⟨ρ,h,.agg rfl (by simp[impCs]),Took.refl st ρ n⟩
 | cons l ls ih =>
  intro st ρ h us O hr hO hnd hc n
  simp only[Yfa,Ye0] at hc
  obtain⟨u,us',O1,O2,h1,rfl,hr1,hr2⟩:=hr.uncons
  injection h1 with h1
  injection h1 with h1
  subst h1
  obtain⟨n1,n2,n3⟩:=nodup_append hnd
  obtain⟨ρ1,k1,k2,k3,k4⟩:=Y4P h hr1 (fun b hb=>hO b (Yee _ hb)) n1 hc.1 n
  have hfree2:FreeB X ⟨st.ts,effM st.m (impC st.m n l).2.1⟩ w F ρ1 O2:=FreeB.next (fun b hb=>hO b (Yeg _ hb)) k3 n3
  obtain⟨ρ2,q1,q2,q3⟩:=ih k1 hr2 hfree2 n2 hc.2 (impC st.m n l).2.2
  have hcg:impCs (effM st.m (impC st.m n l).2.1) (impC st.m n l).2.2 ls=impCs st.m (impC st.m n l).2.2 ls:=Y2H ls fun k hk=>k3.same k (.inr hk)
  simp only[hcg] at q1 q2 q3
  have heff:effM st.m (impCs st.m n (l::ls)).2.1=effM (effM st.m (impC st.m n l).2.1) (impCs st.m (impC st.m n l).2.2 ls).2.1:=by simp only[impCs,Y0b]
  rw[heff]
  refine⟨ρ2,q1,?_,Took.trans k3 q3 k4 (Y3T _ _ _)⟩
  exact YgH (k2.mono (fun _ h=>h) (fun _ _=>rfl) q3.compat) q2
theorem Y5g {st:St}{ρ:Locs}(h:Inv X st a w F ρ){v:Value}{l:LV}{O:List Nat}(hr:RelI w F v l O)(hO:FreeB X st w F ρ O)(hnd:O.Nodup)(hc:valI l=true)(n:Nat):
  ∃ ρ',Inv X ⟨st.ts,effM st.m (impV st.m n l).2.1⟩ a w F ρ'∧RelL w F ρ' (effM st.m (impV st.m n l).2.1) v (impV st.m n l).1 ∧
   Took X st ⟨st.ts,effM st.m (impV st.m n l).2.1⟩ w F ρ ρ' O n (impV st.m n l).2.2∧n≤(impV st.m n l).2.2:=by
 by_cases ha:∃ cs,l=.agg cs
 ·obtain⟨cs,rfl⟩:=ha
  obtain⟨vs,rfl⟩:∃ vs,v=.agg vs:=by
   cases hr with
   | frz hf=>obtain⟨vs,rfl,-⟩:=hf.cells;exact⟨vs,rfl⟩
   | aggn=>exact⟨_,rfl⟩
   | aggc=>exact⟨_,rfl⟩
  obtain⟨ρ',k1,k2,k3⟩:=Y2F cs h (us:=vs.toList) hr hO hnd hc n
  exact⟨ρ',k1,k2,k3,Y3T _ _ _⟩
 ·have hi:impV st.m n l=impC st.m n l:=by
   cases l <;> first | rfl | exact absurd ⟨_,rfl⟩ ha
  have hcl:cellI l=true:=by
   cases l <;> first | exact hc | exact absurd ⟨_,rfl⟩ ha
  rw[hi]
  exact Y4P h hr hO hnd hcl n
theorem Y8M {m m':Mem}{n:Nat}(h:∀ k,n≤k→m' k=m k)(l:LV): impV m' n l=impV m n l:=by
 by_cases ha:∃ cs,l=.agg cs
 ·obtain⟨cs,rfl⟩:=ha
  simp only[impV,Y2H cs h]
 ·have hi:∀ m,impV m n l=impC m n l:=by
   intro m
   cases l <;> first | rfl | exact absurd ⟨_,rfl⟩ ha
  rw[hi,hi]
  exact Y4U h l
theorem Yaf (m:Mem)(n:Nat)(l:LV): n≤(impV m n l).2.2:=by
 by_cases ha:∃ cs,l=.agg cs
 ·obtain⟨cs,rfl⟩:=ha
  exact Y3T m cs n
 ·have hi:impV m n l=impC m n l:=by
   cases l <;> first | rfl | exact absurd ⟨_,rfl⟩ ha
  rw[hi]
  exact Y7j m n l
theorem Y4h {m m':Mem}: ∀ (ls:List LV) {n:Nat},(∀ k,n≤k→m' k=m k)→impVs m' n ls=impVs m n ls
 | [],n,_=>rfl
 | l::ls,n,h=>by
  have h1:=Y8M h l
  have h2:=Y4h (m:=m) (m':=m') ls (n:=(impV m n l).2.2) (fun k hk=>h k (Ye5 (Yaf m n l) hk))
  simp only[impVs,h1,h2]
theorem Y7U (m:Mem): ∀ (ls:List LV) (n:Nat),n≤(impVs m n ls).2.2
 | [],n=>Ye2 _
 | l::ls,n=>Ye5 (Yaf m n l) (Y7U m ls _)
theorem Y76:∀ (ls:List LV) {st:St}{ρ:Locs},Inv X st a w F ρ→∀ {us:List Value}{O:List Nat},RelI w F (.agg ⟨us⟩) (.agg ls) O→FreeB X st w F ρ O→O.Nodup→ls.all valI=true→∀ (n:Nat),
  ∃ ρ',Inv X ⟨st.ts,effM st.m (impVs st.m n ls).2.1⟩ a w F ρ'∧RelL w F ρ' (effM st.m (impVs st.m n ls).2.1) (.agg ⟨us⟩) (.agg (impVs st.m n ls).1) ∧
   Took X st ⟨st.ts,effM st.m (impVs st.m n ls).2.1⟩ w F ρ ρ' O n (impVs st.m n ls).2.2:=by
 intro ls
 induction ls with
 | nil =>
  intro st ρ h us O hr hO hnd hc n
  obtain⟨h1,rfl⟩:=hr.nil
  injection h1 with h1
  rw[h1]
  exact⟨ρ,h,.agg rfl (by simp[impVs]),Took.refl st ρ n⟩
 | cons l ls ih =>
  intro st ρ h us O hr hO hnd hc n
  simp only[Yfa,Ye0] at hc
  obtain⟨u,us',O1,O2,h1,rfl,hr1,hr2⟩:=hr.uncons
  injection h1 with h1
  injection h1 with h1
  subst h1
  obtain⟨n1,n2,n3⟩:=nodup_append hnd
  obtain⟨ρ1,k1,k2,k3,k4⟩:=Y5g h hr1 (fun b hb=>hO b (Yee _ hb)) n1 hc.1 n
  have hfree2:FreeB X ⟨st.ts,effM st.m (impV st.m n l).2.1⟩ w F ρ1 O2:=FreeB.next (fun b hb=>hO b (Yeg _ hb)) k3 n3
  obtain⟨ρ2,q1,q2,q3⟩:=ih k1 hr2 hfree2 n2 hc.2 (impV st.m n l).2.2
  have hcg:impVs (effM st.m (impV st.m n l).2.1) (impV st.m n l).2.2 ls=impVs st.m (impV st.m n l).2.2 ls:=Y4h ls fun k hk=>k3.same k (.inr hk)
  simp only[hcg] at q1 q2 q3
  have heff:effM st.m (impVs st.m n (l::ls)).2.1=effM (effM st.m (impV st.m n l).2.1) (impVs st.m (impV st.m n l).2.2 ls).2.1:=by simp only[impVs,Y0b]
  rw[heff]
  refine⟨ρ2,q1,?_,Took.trans k3 q3 k4 (Y7U _ _ _)⟩
  exact YgH (k2.mono (fun _ h=>h) (fun _ _=>rfl) q3.compat) q2
structure TookT (m m':Mem) (ρ ρ':Locs) (O:List Nat):Prop where
 compat:Compat m ρ m' ρ'
 own:∀ k x l,m' k=some x→x.frz=false→ρ' k=some l→(∃ y,m k=some y∧y.frz=false∧ρ k=some l)∨l.blk∈O
theorem Took.t {st st':St}{ρ ρ':Locs}{O:List Nat}{lo hi:Nat}(h:Took X st st' w F ρ ρ' O lo hi): TookT st.m st'.m ρ ρ' O :=
 ⟨h.compat,fun k x l h1 h2 h3=>(h.own k x l h1 h2 h3).imp (fun e=>⟨x,e.1,h2,e.2⟩) id⟩
theorem Y6v {st:St}{ρ:Locs}(h:Inv X st a w F ρ){v:Value}{l:LV}{O:List Nat}(hr:RelI w F v l O)(hO:FreeB X st w F ρ O)(hnd:O.Nodup)(hc:topI l=true)(d:Nat):
  ∃ ρ',Inv X ⟨st.ts,effM st.m (impT st.m d l).2⟩ a w F ρ'∧RelL w F ρ' (effM st.m (impT st.m d l).2) v (impT st.m d l).1∧TookT st.m (effM st.m (impT st.m d l).2) ρ ρ' O:=by
 by_cases ht:∃ vs,l=.tup vs
 ·obtain⟨vs,rfl⟩:=ht
  obtain⟨cs,rfl,hr'⟩:∃ cs:Array Value,v=.tuple cs∧RelI w F (.agg cs) (.agg vs) O:=by
   cases hr with
   | frz hf=>cases hf with | tup hn h=>exact⟨_,rfl,.frz (.agg hn h)⟩
   | tup h=>exact⟨_,rfl,h⟩
  obtain⟨ρ',k1,k2,k3⟩:=Y76 vs h (us:=cs.toList) hr' hO hnd hc d
  obtain⟨cs2,h3,h4,h5⟩:=k2.cells
  injection h3 with h3
  subst h3
  exact⟨ρ',k1,.tup h4 h5,k3.t⟩
 ·by_cases hp:∃ cs,l=.ptro cs
  ·obtain⟨cs,rfl⟩:=hp
   cases hr with
   | frz hf=>cases hf
   | @ptro blk off cs0 t _ O' hb hf h1 =>
    obtain⟨n1,n2⟩:=YeV.1 hnd
    obtain⟨ρ1,k1,k2,k3⟩:=Y2F cs h (us:=(cs0.extract off (off+cs.length)).toList) h1 (fun b hb=>hO b (YdV _ hb)) n2 hc (d+1)
    obtain⟨f1,f2,f3,f4⟩:=FreeB.next (X:=X) (O':=[blk]) (fun b hb=>hO b (by simp at hb;simp[hb])) k3 (fun b e1 e2=>by simp at e2;subst e2;exact n1 e1) blk (by simp)
    have hgen:genAt (effM st.m (impCs st.m (d+1) cs).2.1) d=genAt st.m d:=Y1g (k3.same d (.inl (Yfu d)))
    obtain⟨vs,g1,g2,g3⟩:=k2.cells
    have hlen:(impCs st.m (d+1) cs).1.length=cs.length:=by
     injection g1 with g1
     rw[← g2,← g1]
     simp
     omega
    obtain⟨q1,q2⟩:=k1.adopt (n:=d) (x':=⟨genAt st.m d,false,.var,cs.length,[(impCs st.m (d+1) cs).1]⟩) (ρ':=updRo ρ1 d (some ⟨blk,off,1⟩)) (fun k hk=>Y0f _ _ (Ne.symm hk)) rfl hgen.symm
     (fun l hl=>by
      rw[Y05] at hl
      injection hl with hl
      subst hl
      exact⟨f1,f2,f3,fun k x l' e1 e2 _ e3=>f4 k x l' e1 e2 e3⟩)
     fun hcm=>Ygc (by simp) (by
      rw[Y05]
      refine⟨cs0,t,hb,by simpa using hf,by simp,by simpa using hlen,fun i e c q he hq=>?_⟩
      have hi:i=0:=by have:=(YdM.1 he).1;simp at this;omega
      subst hi
      simp only[Yew,Yem] at he
      subst he
      have hcl:c<cs.length:=by have:=(YdM.1 hq).1;omega
      have hcx:(cs0.extract off (off+cs.length))[c]?=some (cs0[off+c]'(by omega)):=by
       rw[Yfb,if_pos (by omega)]
       exact YdL _
      refine⟨cs0[off+c]'(by omega),by simp only[YfD,YdZ];exact YdL _,?_⟩
      injection g1 with g1
      have hg:vs[c]?=some (cs0[off+c]'(by omega)):=by rw[← hcx,← g1]
      exact (g3 c _ q hg hq).mono (fun _ h=>h) (fun _ _=>rfl) hcm) fun _ l hl=>by
       rw[Y05] at hl
       injection hl with hl
       subst hl
       rfl
    refine⟨_,by simp only[impT,Y0b];exact q1,?_⟩
    simp only[impT,Y0b]
    refine⟨.ref rfl (Y07 _ _ _) (Ye2 _) fun _=>⟨by simp,_,Y05 _ _ _,by simp⟩,k3.compat.trans q2,fun k x l e1 e2 e3=>?_⟩
    by_cases hk:k=d
    ·subst hk
     rw[Y05] at e3
     injection e3 with e3
     subst e3
     exact .inr (by simp)
    ·rw[Y0f _ _ (Ne.symm hk)] at e3
     have e1:(effM st.m (impCs st.m (d+1) cs).2.1) k=some x:=(Y0e _ _ (Ne.symm hk)).symm.trans e1
     rcases k3.own k x l e1 e2 e3 with ⟨g4,g5⟩ | g4
     ·exact .inl ⟨x,g4,e2,g5⟩
     ·exact .inr (YdV _ g4)
  ·have hi:impT st.m d l=((impV st.m d l).1,(impV st.m d l).2.1):=by
    cases l <;> first | rfl | exact absurd ⟨_,rfl⟩ ht | exact absurd ⟨_,rfl⟩ hp
   have hv:valI l=true:=by
    cases l <;> first | exact hc | exact absurd ⟨_,rfl⟩ ht | exact absurd ⟨_,rfl⟩ hp
   obtain⟨ρ',k1,k2,k3,-⟩:=Y5g h hr hO hnd hv d
   rw[hi]
   exact⟨ρ',k1,k2,k3.t⟩
theorem Y1s {st:St}{ρ:Locs}(h:Inv X st a w F ρ){v:Value}{l:LV}{O:List Nat}(hr:RelI w F v l O)(hO:FreeB X st w F ρ O)(hnd:O.Nodup)(hc:topI l=true)(d:Nat):
  ∃ ρ',Inv X ⟨st.ts,effM st.m (impT st.m d l).2⟩ a w F ρ'∧RelL w F ρ' (effM st.m (impT st.m d l).2) v (impT st.m d l).1:=by
 obtain⟨ρ',h1,h2,-⟩:=Y6v h hr hO hnd hc d
 exact⟨ρ',h1,h2⟩
theorem Y67:∀ (ls:List LV) {us:List Value}{O:List Nat},RelI w F (.agg ⟨us⟩) (.agg ls) O→us.length=ls.length
 | [],us,O,h=>by
  obtain⟨h1,-⟩:=h.nil
  injection h1 with h1
  obtain rfl:us=[]:=by simpa using congrArg Array.toList h1
  rfl
 | l::ls,us,O,h=>by
  obtain⟨u,us',O1,O2,h1,-,-,h2⟩:=h.uncons
  injection h1 with h1
  injection h1 with h1
  subst h1
  simp[Y67 ls h2]
def impAs (m:Mem)(d:Nat): List LV→List LV × List (Nat × Box)
 | []=>([],[])
 | l::ls=>((impT m d l).1::(impAs (effM m (impT m d l).2) (d+1000) ls).1,(impT m d l).2++(impAs (effM m (impT m d l).2) (d+1000) ls).2)
theorem Y8D:∀ (ls:List LV) {st:St}{ρ:Locs},Inv X st a w F ρ→∀ {us:List Value}{O:List Nat},RelI w F (.agg ⟨us⟩) (.agg ls) O→FreeB X st w F ρ O→O.Nodup→ls.all topI=true→∀ (d:Nat),
  ∃ ρ',Inv X ⟨st.ts,effM st.m (impAs st.m d ls).2⟩ a w F ρ'∧RelL w F ρ' (effM st.m (impAs st.m d ls).2) (.agg ⟨us⟩) (.agg (impAs st.m d ls).1)∧Compat st.m ρ (effM st.m (impAs st.m d ls).2) ρ':=by
 intro ls
 induction ls with
 | nil =>
  intro st ρ h us O hr hO hnd hc d
  obtain⟨h1,rfl⟩:=hr.nil
  injection h1 with h1
  rw[h1]
  exact⟨ρ,h,.agg rfl (by simp[impAs]),fun b x hx=>⟨x,hx,.inl ⟨rfl,rfl,rfl,.inr rfl,rfl⟩⟩⟩
 | cons l ls ih =>
  intro st ρ h us O hr hO hnd hc d
  simp only[Yfa,Ye0] at hc
  obtain⟨u,us',O1,O2,h1,rfl,hr1,hr2⟩:=hr.uncons
  injection h1 with h1
  injection h1 with h1
  subst h1
  obtain⟨n1,n2,n3⟩:=nodup_append hnd
  obtain⟨ρ1,k1,k2,k3⟩:=Y6v h hr1 (fun b hb=>hO b (Yee _ hb)) n1 hc.1 d
  obtain⟨ρ2,q1,q2,q3⟩:=ih (st:=⟨st.ts,effM st.m (impT st.m d l).2⟩) k1 hr2 (fun b hb=>by
   obtain⟨p1,p2,p3,p4⟩:=hO b (Yeg _ hb)
   refine⟨p1,p2,p3,fun k x l' e1 e2 e3 heq=>?_⟩
   rcases k3.own k x l' e1 e2 e3 with ⟨y,g1,g2,g3⟩ | g
   ·exact p4 k y l' g1 g2 g3 heq
   ·exact n3 _ g (heq ▸ hb)) n2 hc.2 (d+1000)
  simp only[impAs,Y0b]
  exact⟨ρ2,q1,YgH (k2.mono (fun _ h=>h) (fun _ _=>rfl) q3) q2,k3.compat.trans q3⟩
def findB (n:Nat): List (Nat × Box)→Option Box
 | []=>none
 | (k,x)::r=>cond (Nat.beq k n) (some x) (findB n r)
def lendE (m:Mem)(B:List (Nat × Box))(M:List Nat): List (Nat × Box) :=
 M.map fun n=>(n,match findB n B with | some x=>x | none=>⟨genAt m n,false,.slc,0,[]⟩)
theorem Y2k {f:Nat→Box}: ∀ {M:List Nat}{m:Mem}{n:Nat},n∉M→effM m (M.map fun n=>(n,f n)) n=m n
 | [],m,n,_=>rfl
 | k::M,m,n,h=>by
  have hk:k≠n:=fun e=>h (by simp[e])
  simp only[Yey,effM]
  rw[Y2k (fun e=>h (YdV _ e)),Y0e _ _ hk]
theorem Y35 {f:Nat→Box}: ∀ {M:List Nat}{m:Mem}{n:Nat},M.Nodup→n∈M→effM m (M.map fun n=>(n,f n)) n=some (f n)
 | [],m,n,_,h=>by cases h
 | k::M,m,n,hnd,h=>by
  simp only[Yey,effM]
  obtain⟨h1,h2⟩:=YeV.1 hnd
  by_cases hk:n∈M
  ·exact Y35 h2 hk
  ·rcases Yep.1 h with rfl | h
   ·rw[Y2k hk,Y07]
   ·exact absurd h hk
theorem Inv.exchange {st:St}{ρ:Locs}(h:Inv X st a w F ρ){w':World}{F':Nat→Prop}{M:List Nat}{O:List Nat}{m2:Mem}{ρ2:Locs}
  (hM:∀ n∈M,∃ x,st.m n=some x∧x.frz=false) (hO:∀ b∈O,∃ n∈M,∃ lc,ρ n=some lc∧lc.blk=b)
  (he:Ext O w w') (hF:∀ b,F b→F' b) (hF1:∀ b,F' b→F b∨b∈O∨w.heap.size≤b) (hF2:∀ b,F' b→b<w'.heap.size)
  (hout:∀ n,n∉M→m2 n=st.m n∧ρ2 n=ρ n)
  (hin:∀ n∈M,∀ x,st.m n=some x→∃ x',m2 n=some x'∧x'.frz=false∧((x.gen<x'.gen∧ρ2 n=none∧x'.es=[]∧x'.kind=.slc) ∨
   (x'.gen=x.gen∧ρ2 n=ρ n∧x'.sz=x.sz∧x'.es.length=x.es.length∧x'.kind=x.kind∧(Compat st.m ρ m2 ρ2→BoxOK w' F' ρ2 m2 n x')∧∀ l,ρ n=some l→¬ F' l.blk))) :
  Inv X ⟨st.ts,m2⟩ a w' F' ρ2:=by
 have hcol:∀ n x l,st.m n=some x→n∉M→ρ n=some l→l.blk∉O:=by
  intro n x l hx hn hl hb
  obtain⟨k,hk,lc,hlc,hbk⟩:=hO _ hb
  obtain⟨y,hy,hyf⟩:=hM k hk
  cases hxf:x.frz with
  | false=>exact hn (h.inj n k x y l lc hx hy hxf hyf hl hlc hbk.symm ▸ hk)
  | true =>
   have h1:=(h.place n x l hx hl).2.1 hxf
   exact ((h.place k y lc hy hlc).2.2 hyf).1 (hbk ▸ h1)
 have hFO:∀ b,F b→b∉O:=by
  intro b hb hbo
  obtain⟨k,hk,lc,hlc,rfl⟩:=hO _ hbo
  obtain⟨y,hy,hyf⟩:=hM k hk
  exact ((h.place k y lc hy hlc).2.2 hyf).1 hb
 have hw:∀ b,F b→w'.heap[b]?=w.heap[b]?:=fun b hb=>he.block b (h.frzlt b hb) (hFO b hb)
 have hc:Compat st.m ρ m2 ρ2:=by
  intro n x hx
  by_cases hn:n∈M
  ·obtain⟨x',h1,-,h2⟩:=hin n hn x hx
   refine⟨x',h1,?_⟩
   rcases h2 with ⟨g,-⟩ | ⟨g1,g2,g3,g4,g5,-⟩
   ·exact .inr g
   ·exact .inl ⟨g1,g2,g3,.inr g4,g5⟩
  ·obtain⟨h1,h2⟩:=hout n hn
   exact⟨x,h1.trans hx,.inl ⟨rfl,h2,rfl,.inr rfl,rfl⟩⟩
 have hlook:∀ n x,m2 n=some x→(n∉M∧st.m n=some x∧ρ2 n=ρ n)∨(n∈M∧x.frz=false∧((ρ2 n=none∧x.es=[]∧x.kind=.slc)∨(ρ2 n=ρ n∧BoxOK w' F' ρ2 m2 n x∧∀ l,ρ n=some l→¬ F' l.blk))):=by
  intro n x hx
  by_cases hn:n∈M
  ·obtain⟨y,hy,-⟩:=hM n hn
   obtain⟨x',h1,h2,h3⟩:=hin n hn y hy
   rw[hx] at h1
   injection h1 with h1
   subst h1
   refine .inr ⟨hn,h2,?_⟩
   rcases h3 with ⟨-,g1,g2,g3⟩ | ⟨-,g1,-,-,-,g2,g3⟩
   ·exact .inl ⟨g1,g2,g3⟩
   ·exact .inr ⟨g1,g2 hc,g3⟩
  ·obtain⟨h1,h2⟩:=hout n hn
   exact .inl ⟨hn,h1.symm.trans hx,h2⟩
 have hOin:∀ b∈O,X.F0 b∨b∈X.O0∨X.w0.heap.size≤b:=by
  intro b hb
  obtain⟨k,hk,lc,hlc,rfl⟩:=hO _ hb
  obtain⟨y,hy,hyf⟩:=hM k hk
  exact .inr ((h.place k y lc hy hlc).2.2 hyf).2
 refine⟨h.defers,fun j=>(h.slots j).mono hF hw hc,?_,?_,?_,fun b hb=>hF b (h.frz0 b hb),fun b hb=>?_,hF2,?_,fun v l hv=>(h.kept v l hv).mono hF hw hc⟩
 ·intro n x hx
  rcases hlook n x hx with ⟨h1,h2,h3⟩ | ⟨h1,h2,⟨h3,h4,h5⟩ | ⟨h3,h4,h5⟩⟩
  ·exact (h.boxes n x h2).mono hF hw hc h3 fun l hl=>he.block _ (h.place n x l h2 hl).1 (hcol n x l h2 h1 hl)
  ·exact Ygc (by rw[h5];simp) (by rw[h3];exact h4) fun hv=>by rw[h5] at hv;cases hv
  ·exact h4
 ·intro n x l hx hl
  rcases hlook n x hx with ⟨h1,h2,h3⟩ | ⟨h1,h2,⟨h3,-⟩ | ⟨h3,-,h5⟩⟩
  ·rw[h3] at hl
   obtain⟨p1,p2,p3⟩:=h.place n x l h2 hl
   refine⟨Yfh p1 he.size,fun hf=>hF _ (p2 hf),fun hf=>⟨fun hF'=>?_,(p3 hf).2⟩⟩
   rcases hF1 _ hF' with q | q | q
   ·exact (p3 hf).1 q
   ·exact hcol n x l h2 h1 hl q
   ·omega
  ·rw[h3] at hl
   cases hl
  ·rw[h3] at hl
   obtain⟨y,hy,hyf⟩:=hM n h1
   obtain⟨p1,p2,p3⟩:=h.place n y l hy hl
   refine⟨Yfh p1 he.size,fun hf=>?_,fun _=>⟨h5 l hl,(p3 hyf).2⟩⟩
   rw[h2] at hf
   cases hf
 ·intro n n' x x' l l' hx hx' hxf hxf' hl hl' heq
  have key:∀ n x l,m2 n=some x→x.frz=false→ρ2 n=some l→∃ y,st.m n=some y∧y.frz=false∧ρ n=some l:=by
   intro n x l hx hxf hl
   rcases hlook n x hx with ⟨h1,h2,h3⟩ | ⟨h1,h2,⟨h3,-⟩ | ⟨h3,-⟩⟩
   ·exact⟨x,h2,hxf,h3 ▸ hl⟩
   ·rw[h3] at hl;cases hl
   ·obtain⟨y,hy,hyf⟩:=hM n h1
    exact⟨y,hy,hyf,h3 ▸ hl⟩
  obtain⟨y,q1,q2,q3⟩:=key n x l hx hxf hl
  obtain⟨y',q1',q2',q3'⟩:=key n' x' l' hx' hxf' hl'
  exact h.inj n n' y y' l l' q1 q1' q2 q2' q3 q3' heq
 ·rcases hF1 b hb with q | q | q
  ·exact h.frz1 b q
  ·exact hOin b q
  ·exact .inr (.inr (Ye5 h.ext.size q))
 ·refine h.ext.step (O':=O) he fun b hb=>?_
  obtain⟨k,hk,lc,hlc,rfl⟩:=hO _ hb
  obtain⟨y,hy,hyf⟩:=hM k hk
  exact ((h.place k y lc hy hlc).2.2 hyf).2
theorem Inv.tell {st:St}{ρ:Locs}(h:Inv X st a w F ρ){n:Nat}{x x':Box}(hx:st.m n=some x)(hf:x.frz=false)(hg:x'.gen=x.gen)(hf':x'.frz=false)(hs:x'.sz=x.sz)(hl:x'.es.length=x.es.length)(hk:x'.kind=x.kind)
  (hbox:Compat st.m ρ (updM st.m n x') ρ→BoxOK w F ρ (updM st.m n x') n x'):Inv X ⟨st.ts,updM st.m n x'⟩ a w F ρ∧Compat st.m ρ (updM st.m n x') ρ:=by
 have hc:Compat st.m ρ (updM st.m n x') ρ:=by
  intro b y hy
  by_cases hb:n=b
  ·subst hb
   rw[hx] at hy
   injection hy with hy
   subst hy
   exact⟨x',Y07 _ _ _,.inl ⟨hg,rfl,hs,.inr hl,hk⟩⟩
  ·exact⟨y,by rw[Y0e _ _ hb];exact hy,.inl ⟨rfl,rfl,rfl,.inr rfl,rfl⟩⟩
 refine⟨h.write rfl rfl rfl (Ye2 _) (fun _ _ _=>rfl) (fun _ _=>rfl) hf' (fun y hy=>?_) (fun l hl'=>?_) fun hc' _=>hbox hc',hc⟩
 ·rw[hx] at hy
  injection hy with hy
  subst hy
  exact .inl ⟨hg,rfl,hs,.inr hl,hk⟩
 ·exact⟨(h.place n x l hx hl').1,.inr ⟨x,l,hx,hf,hl',rfl⟩⟩
end
inductive Ex where
 | normal
 | exit (id:Nat)
 | ret
def Ex.to:Ex→Exit
 | .normal=>.normal
 | .exit id=>.exit id
 | .ret=>.ret
def FuncOK (P : Program) (f : FuncId) : Prop := ∃ fn, P.funcs[f]? = some fn ∧ (fn.name == "runtime.NumGoroutine") = false ∧ fn.body.isNone = false
def CallsR (P:Program)(f:FuncId)(args:List LV)(R:LV→Prop): Prop :=
 FuncOK P f∧∀ (w:World) (F:Nat→Prop) (vs:Array Value),RelF w F (.agg vs) (.agg args)→(∀ b,F b→b<w.heap.size) →
  Calls P f vs w fun e w'=>∃ v res F' O,e=.returned v∧R res∧Ext [] w w'∧(∀ b,F b→F' b)∧(∀ b,F' b→F b∨w.heap.size≤b)∧(∀ b,F' b→b<w'.heap.size) ∧
   RelI w' F' v res O∧O.Nodup∧∀ b∈O,b<w'.heap.size∧¬ F' b∧w.heap.size≤b
def CallsV (P:Program)(f:FuncId)(args:List LV)(res:LV): Prop:=CallsR P f args (·=res)
def CallsM (P:Program)(f:FuncId)(args:List LV)(j:Option Nat)(R:LV→LV→Prop): Prop :=
 FuncOK P f∧∀ (w:World) (F:Nat→Prop) (vs:Array Value) (O:List Nat),RelI w F (.agg vs) (.agg args) O→O.Nodup→(∀ b,F b→b<w.heap.size)→(∀ b∈O,b<w.heap.size∧¬ F b) →
  Calls P f vs w fun e w'=>∃ v res q F' O1 O2,e=.returned v∧R res q∧Ext O w w'∧(∀ b,F b→F' b)∧(∀ b,F' b→F b∨b∈O∨w.heap.size≤b)∧(∀ b,F' b→b<w'.heap.size) ∧
   RelI w' F' v res O1∧(∀ k,j=some k→RelI w' F' (vs.getD k Go.undef) q O2)∧(j=none→O2=[])∧(O1++O2).Nodup∧∀ b∈O1++O2,b<w'.heap.size∧¬ F' b∧(b∈O∨w.heap.size≤b)
inductive Back1 (m:Mem):LV→LV→Nat→Box→Prop
 | slc {b g len sz:Nat}{x:Box}{es:List (List LV)}(hm:m b=some x) (hg:x.gen=g) (hk:x.kind=.slc) (hl:len=x.es.length) (h0:0<len) (hs:sz=x.sz) (he:es.length=len) :
   Back1 m (.own b g 0 len none) (.slo sz es) b ⟨g,false,.slc,sz,es⟩
 | var {b g:Nat}{x:Box}{cs:List LV}(hm:m b=some x) (hg:x.gen=g) (hk:x.kind=.var) (hl:x.es.length=1) (hs:cs.length=x.sz) (hc:cs.all cellI=true) :
   Back1 m (.ref b g 0 0) (.ptro cs) b ⟨g,false,.var,cs.length,[cs.map fun _=>.undef]⟩
def farD (d:Nat): Nat:=1000000000+4096*d
def fill1 (m:Mem)(d b:Nat)(x:Box): LV→List (Nat × Box)
 | .ptro cs=>(impCs m (farD d) cs).2.1++[(b,{ x with es:=[(impCs m (farD d) cs).1] })]
 | _=>[]
def FlatI (l:LV): Prop:=∀ (w:World) (F F':Nat→Prop) (v:Value) (O:List Nat),RelI w F v l O→RelI w F' v l O
abbrev InlP:=Nat→FuncId→List LV→Mem→(LV→Mem→Prop)→Prop
def InlS (P:Program)(I:InlP): Prop :=
 ∀ nb f args m R,I nb f args m R→FuncOK P f∧∀ X a w F ρ ts,Inv X ⟨ts,m⟩ a w F ρ→∀ vs,RelL w F ρ m (.agg vs) (.agg args) →
  Calls P f vs w fun e w'=>∃ v r m' F' ρ',e=.returned v∧R r m'∧Inv X ⟨ts,m'⟩ a w' F' ρ'∧RelL w' F' ρ' m' v r
def nameO (nb:Nat)(o:Oper): Nat:=nb+64*o.dst.getD 4000
inductive WpOp (P:Program) (I:InlP) (nb:Nat) (o:Oper) (st:St) (K:LV→Mem→Prop):Prop
 | op {v:LV}{eff:List (Nat × Box)}{R:List Nat}(h:OpR P (nameO nb o) (evalO st.ts) st.m o.op v eff R) (k:K v (effM st.m eff)):WpOp P I nb o st K
 | any {R:LV→List (Nat × Box)→Prop}(h:OpN P (evalO st.ts) st.m o.op R) (k:∀ v eff,R v eff→K v (effM st.m eff)):WpOp P I nb o st K
 | call {g:Operand}{as:Array Operand}{ts:Array TypeId}{f:FuncId}{caps args:List LV}{T:List Nat}{R:LV→Prop}(ho:o.op=.call { callee:=.value g,args:=as,argTypes:=ts }) (hg:evalO st.ts g=.fn f caps)
   (hf:Frz st.m (.agg (as.toList.map (evalO st.ts)++caps)) (.agg args) T) (hc:CallsR P f args R)
   (k:∀ res,R res→topI res=true∧K (impT (effM st.m (markE st.m T)) (nameO nb o) res).1 (effM (effM st.m (markE st.m T)) (impT (effM st.m (markE st.m T)) (nameO nb o) res).2)):WpOp P I nb o st K
 | callF {g:Operand}{as:Array Operand}{ts:Array TypeId}{f:FuncId}{caps args:List LV}{T:List Nat}{R:LV→Prop}(ho:o.op=.call { callee:=.value g,args:=as,argTypes:=ts }) (hg:evalO st.ts g=.fn f caps)
   (hf:Frz st.m (.agg (as.toList.map (evalO st.ts)++caps)) (.agg args) T) (hc:CallsR P f args R)
   (k:∀ res,R res→FlatI res∧topI res=true∧K (impT st.m (nameO nb o) res).1 (effM st.m (impT st.m (nameO nb o) res).2)):WpOp P I nb o st K
 | lend {g:Operand}{as:Array Operand}{ts:Array TypeId}{f:FuncId}{caps args:List LV}{T M:List Nat}{R:LV→LV→Prop}(ho:o.op=.call { callee:=.value g,args:=as,argTypes:=ts }) (hg:evalO st.ts g=.fn f caps)
   (he:Exp st.m (.agg (as.toList.map (evalO st.ts)++caps)) (.agg args) T M) (hM:M.Nodup) (hMT:∀ n∈M,n∉T) (hc:CallsM P f args none R)
   (k:∀ res q,R res q→topI res=true∧K (impT (effM (effM st.m (markE st.m T)) (lendE (effM st.m (markE st.m T)) [] M)) (nameO nb o) res).1
    (effM (effM (effM st.m (markE st.m T)) (lendE (effM st.m (markE st.m T)) [] M)) (impT (effM (effM st.m (markE st.m T)) (lendE (effM st.m (markE st.m T)) [] M)) (nameO nb o) res).2)):WpOp P I nb o st K
 | lend1 {g:Operand}{as:Array Operand}{ts:Array TypeId}{f:FuncId}{caps args:List LV}{T M:List Nat}{j:Nat}{u:LV}{R:LV→LV→Prop}(ho:o.op=.call { callee:=.value g,args:=as,argTypes:=ts }) (hg:evalO st.ts g=.fn f caps)
   (he:Exp st.m (.agg (as.toList.map (evalO st.ts)++caps)) (.agg args) T M) (hM:M.Nodup) (hMT:∀ n∈M,n∉T) (hc:CallsM P f args (some j) R) (hu:(as.toList.map (evalO st.ts)++caps)[j]?=some u)
   (k:∀ res q,R res q→∃ b x,topI res=true∧Back1 (effM st.m (markE st.m T)) u q b x∧b∈M∧b<1000000000∧∀ m1 m2,effM (effM st.m (markE st.m T)) (lendE (effM st.m (markE st.m T)) [(b,x)] M)=m1→effM m1 (fill1 m1 (nameO nb o) b x q)=m2 →
    K (impT m2 (nameO nb o) res).1 (effM m2 (impT m2 (nameO nb o) res).2)):WpOp P I nb o st K
 | inl {g:Operand}{as:Array Operand}{ts:Array TypeId}{f:FuncId}{caps:List LV}{nb':Nat}(ho:o.op=.call { callee:=.value g,args:=as,argTypes:=ts }) (hg:evalO st.ts g=.fn f caps)
   (k:I nb' f (as.toList.map (evalO st.ts)++caps) st.m K):WpOp P I nb o st K
def wantedL (ops:Array Oper)(o:Oper)(f:Slots): Option Bool :=
 match o.guard with
 | none=>some true
 | some (j,want) =>
  match (ops[j]?).bind (·.dst) with
  | some t =>
   match f t with
   | .bool b=>some (b == want)
   | .skip=>some false
   | _=>none
  | none=>none
def WpOps (P:Program)(I:InlP)(nb:Nat)(ops:Array Oper)(Q:St→Prop): List Nat→St→Prop
 | [],st=>Q st
 | i::r,st =>
  match ops[i]? with
  | none=>WpOps P I nb ops Q r st
  | some o =>
   match wantedL ops o st.ts with
   | some true=>WpOp P I nb o st fun v m=>WpOps P I nb ops Q r ⟨putS st.ts o.dst v,m⟩
   | some false=>WpOps P I nb ops Q r ⟨putS st.ts o.dst .skip,st.m⟩
   | none=>False
def dstOK (n:Nat)(o:Oper): Bool :=
 match o.dst with
 | some d=>decide (d<n)
 | none=>true
def Post (X:Ctx)(n:Nat)(Q:Ex→St→Prop): Exit→Act→World→Prop:=fun e a w=>∃ ex st F ρ,ex.to=e∧Q ex st∧Inv X st a w F ρ∧a.tmps.size=n
section
variable {P:Program}{X:Ctx}{st:St}{a:Act}{w:World}{F:Nat→Prop}{ρ:Locs}
theorem Y2V {g:Operand}{as:Array Operand}{ts:Array TypeId}{f:FuncId}{caps:Array Value}{dst:Option Tmp}{ty:TypeId}{pos:String}{after:Array Edge}{guard:Option (Nat × Bool)}(hok:FuncOK P f)
  (hg:a.eval g=.func (.func f) #[] caps) :
  (execOp a.eval { dst:=dst,op:=.call { callee:=.value g,args:=as,argTypes:=ts },type:=ty,pos:=pos,after:=after,guard:=guard }).run P w=.ok (.enter f (as.map a.eval++caps)) w:=by
 obtain⟨fn,h1,h2,h3⟩:=hok
 have h2' : ¬ fn.name = "runtime.NumGoroutine" := by simpa using h2
 have h3':¬ fn.body=none:=by
  intro h
  rw[h] at h3
  cases h3
 simp[execOp,resolve,hg,Deferred.ofValue,invoke,callFunc,h1,h2',h3']
theorem callArgs (h:Inv X st a w F ρ){g:Operand}{as:Array Operand}{f:FuncId}{caps:List LV}(hg:evalO st.ts g=.fn f caps):
  ∃ cv:Array Value,a.eval g=.func (.func f) #[] cv∧RelL w F ρ st.m (.agg (as.map a.eval++cv)) (.agg (as.toList.map (evalO st.ts)++caps)):=by
 have hv:=h.eval g
 rw[hg] at hv
 obtain⟨cv,h1,h2⟩:=hv.toFn
 obtain⟨cs,h3,hn,hr⟩:=h2.cells
 injection h3 with h3
 subst h3
 refine⟨cv,h1,.agg (by simp[hn]) fun i u l hu hl=>?_⟩
 by_cases hi:i<as.size
 ·rw[YeK (by simpa using hi)] at hu
  rw[Yef (by simpa using hi)] at hl
  exact Y34 h as.toList i u l (by simpa using hu) hl
 ·rw[Yf9 (by simp;omega)] at hu
  rw[Yeq (by simp;omega)] at hl
  simp only[Array.size_map,Ye4,YeN] at hu hl
  exact hr _ u l hu hl
theorem Inv.called (h:Inv X st a w F ρ){w':World}(he:Ext [] w w'){F':Nat→Prop}(hF:∀ b,F b→F' b)(hF1:∀ b,F' b→F b∨w.heap.size≤b)(hF2:∀ b,F' b→b<w'.heap.size): Inv X st a w' F' ρ:=by
 have hb:∀ b:Nat,b<w.heap.size→w'.heap[b]?=w.heap[b]?:=fun b hb=>he.block b hb (by simp)
 have hw:∀ b:Nat,F b→w'.heap[b]?=w.heap[b]?:=fun b hb'=>hb b (h.frzlt b hb')
 have hc:Compat st.m ρ st.m ρ:=fun b x hx=>⟨x,hx,.inl ⟨rfl,rfl,rfl,.inr rfl,rfl⟩⟩
 refine⟨h.defers,fun j=>(h.slots j).mono hF hw hc,fun n x hx=>(h.boxes n x hx).mono hF hw hc rfl fun l hl=>hb _ (h.place n x l hx hl).1,fun n x l hx hl=>?_,h.inj,fun b hb'=>hF b (h.frz0 b hb'),fun b hb'=>?_,hF2,h.ext.step he (by simp),fun v l hv=>(h.kept v l hv).mono hF hw hc⟩
 ·obtain⟨h1,h2,h3⟩:=h.place n x l hx hl
  refine⟨Yfh h1 he.size,fun hf=>hF _ (h2 hf),fun hf=>⟨fun hF'=>?_,(h3 hf).2⟩⟩
  rcases hF1 _ hF' with h4 | h4
  ·exact (h3 hf).1 h4
  ·omega
 ·rcases hF1 b hb' with h4 | h4
  ·exact h.frz1 b h4
  ·exact .inr (.inr (Ye5 h.ext.size h4))
theorem freeNew (h:Inv X st a w F ρ){w':World}{F':Nat→Prop}{O:List Nat}(hO:∀ b∈O,b<w'.heap.size∧¬ F' b∧w.heap.size≤b): FreeB X st w' F' ρ O:=by
 intro b hb
 obtain⟨h1,h2,h3⟩:=hO b hb
 refine⟨h1,h2,.inr (Ye5 h.ext.size h3),fun k x l hk _ hl he=>?_⟩
 have:=(h.place k x l hk hl).1
 omega
theorem Exp.some {m:Mem}{l l':LV}{T M:List Nat}(h:Exp m l l' T M): ∀ n∈T,(m n).isSome=true:=by
 induction h with
 | frz h=>exact h.some
 | skip=>simp
 | nils=>simp
 | slo=>simp
 | aggn=>simp
 | aggc h hs ih1 ih2 =>
  intro n hn
  rcases Yei.1 hn with hn | hn
  ·exact ih1 n hn
  ·exact ih2 n hn
 | tup h ih=>exact ih
 | ptro hm hg hf hk he h ih=>exact ih
theorem Exp.lent {m:Mem}{l l':LV}{T M:List Nat}(h:Exp m l l' T M): ∀ n∈M,∃ x,m n=Option.some x∧x.frz=false:=by
 induction h with
 | frz h=>simp
 | skip=>simp
 | nils=>simp
 | slo hm hg hf hk hend =>
  intro n hn
  simp only[Yej] at hn
  subst hn
  exact⟨_,hm,hf⟩
 | aggn=>simp
 | aggc h hs ih1 ih2 =>
  intro n hn
  rcases Yei.1 hn with hn | hn
  ·exact ih1 n hn
  ·exact ih2 n hn
 | tup h ih=>exact ih
 | ptro hm hg hf hk he h ih =>
  intro n hn
  rcases Yep.1 hn with rfl | hn
  ·exact⟨_,hm,hf⟩
  ·exact ih n hn
theorem Y8J (T:List Nat): ∀ {m:Mem}{n:Nat}{y:Box},m n=some y→∃ y',effM m (markE m T) n=some y'∧y'.gen=y.gen∧y'.sz=y.sz∧y'.es=y.es∧y'.kind=y.kind:=by
 induction T with
 | nil=>exact fun h=>⟨_,h,rfl,rfl,rfl,rfl⟩
 | cons b r ih =>
  intro m n y h
  cases hb:m b with
  | none=>simp only[markE,hb];exact ih h
  | some x =>
   simp only[markE,hb,effM]
   rw[← Y2r hb]
   by_cases hn:b=n
   ·subst hn
    rw[hb] at h
    injection h with h
    subst h
    obtain⟨y',h1,h2,h3,h4,h5⟩:=ih (m:=updM m b { x with frz:=true }) (n:=b) (y:={ x with frz:=true }) (Y07 _ _ _)
    exact⟨y',h1,h2,h3,h4,h5⟩
   ·exact ih (by rw[Y0e _ _ hn];exact h)
def dropR (ρ:Locs)(M:List Nat)(b:Nat): Locs:=fun n=>if n∈M∧n≠b then none else ρ n
theorem Y21 {ρ:Locs}{M:List Nat}{b:Nat}: dropR ρ M b b=ρ b:=if_neg fun e=>e.2 rfl
theorem Y2J {ρ:Locs}{M:List Nat}{b n:Nat}(h:n∉M): dropR ρ M b n=ρ n:=if_neg fun e=>h e.1
theorem Y3X {ρ:Locs}{M:List Nat}{b n:Nat}(h:n∈M)(h':n≠b): dropR ρ M b n=none:=if_pos ⟨h,h'⟩
theorem Y6t {b n:Nat}{x:Box}: findB n [(b,x)]=if b=n then some x else none:=by
 unfold findB
 by_cases h:b=n
 ·subst h
  simp
 ·have:Nat.beq b n=false:=by
   cases h':Nat.beq b n
   ·rfl
   ·exact absurd (YeP h') h
  rw[this,if_neg h]
  rfl
theorem Y6C (h:Inv X st a w F ρ){vs:Array Value}{ls args:List LV}{T M:List Nat}(hv:RelL w F ρ st.m (.agg vs) (.agg ls))(he:Exp st.m (.agg ls) (.agg args) T M)(hM:M.Nodup)(hMT:∀ n∈M,n∉T):
  ∃ F1 O,Inv X ⟨st.ts,effM st.m (markE st.m T)⟩ a w F1 ρ∧RelI w F1 (.agg vs) (.agg args) O∧O.Nodup∧(∀ b∈O,b<w.heap.size∧¬ F1 b)∧(∀ b∈O,∃ n∈M,∃ lc,ρ n=some lc∧lc.blk=b) ∧
   (∀ n∈M,∃ x,(effM st.m (markE st.m T)) n=some x∧x.frz=false)∧RelL w F1 ρ (effM st.m (markE st.m T)) (.agg vs) (.agg ls):=by
 obtain⟨O,r1,r2,r3⟩:=Exp.sound h he _ hv hM hMT
 obtain⟨F1,g1,g2,g3⟩:=h.mark T
 have hF1:∀ b,FT F ρ T b→F1 b:=fun b hb=>g2 b hb he.some
 have hm:∀ n∈M,∃ x,(effM st.m (markE st.m T)) n=some x∧x.frz=false:=fun n hn=>by
  obtain⟨x,hx,hxf⟩:=he.lent n hn
  exact⟨x,by rw[Y7e T _ _ (hMT n hn)];exact hx,hxf⟩
 have hO:∀ b∈O,∃ n∈M,∃ lc,ρ n=some lc∧lc.blk=b:=fun b hb=>by
  obtain⟨n,hn,x,lc,q1,q2,q3,q4⟩:=r2 b hb
  exact⟨n,hn,lc,q3,q4⟩
 have hmk:Compat st.m ρ (effM st.m (markE st.m T)) ρ:=fun n y hy=>by
  obtain⟨y',hy',e1,e2,e3,e4⟩:=Y8J T hy
  exact⟨y',hy',.inl ⟨e1,rfl,e2,.inr (by rw[e3]),e4⟩⟩
 refine⟨F1,O,g3,r1.mono hF1,r3,fun b hb=>?_,hO,hm,hv.mono g1 (fun _ _=>rfl) hmk⟩
 obtain⟨n,hn,lc,q3,rfl⟩:=hO b hb
 obtain⟨x,hx,hxf⟩:=hm n hn
 obtain⟨p1,p2,p3⟩:=g3.place n x lc hx q3
 exact⟨p1,(p3 hxf).1⟩
theorem WpOp.sound {I:InlP}(hI:InlS P I){nb:Nat}{o:Oper}{K:LV→Mem→Prop}(hw:WpOp P I nb o st K)(h:Inv X st a w F ρ){next:Act→World→Prop}{Q:Exit→Act→World→Prop}
  (hk:∀ v m val w' F' ρ',K v m→Inv X ⟨st.ts,m⟩ a w' F' ρ'→RelL w' F' ρ' m val v→next (a.put o.dst val) w'):o.wp P a w next Q:=by
 cases hw with
 | @op v eff R hr k =>
  obtain⟨nx,val,w',F',ρ',h1,h2,h3,h4⟩:=hr.sound h rfl
  unfold Oper.wp
  rw[h1]
  rcases h2 with rfl | ⟨rfl,rfl⟩
  ·exact hk _ _ val w' F' ρ' k h3 h4
  ·exact hk _ _ _ w' F' ρ' k h3 h4
 | any hr k =>
  obtain⟨v,eff,hR,hs⟩:=hr.sound h rfl
  obtain⟨nx,val,w',F',ρ',h1,h2,h3,h4⟩:=hs
  have k:=k v eff hR
  unfold Oper.wp
  rw[h1]
  rcases h2 with rfl | ⟨rfl,rfl⟩
  ·exact hk _ _ val w' F' ρ' k h3 h4
  ·exact hk _ _ _ w' F' ρ' k h3 h4
 | @call g as ts f caps args T R ho hg hf hc k =>
  obtain⟨cv,h1,h2⟩:=callArgs h (as:=as) hg
  have hargs:=Frz.sound h.boxes hf _ h2
  obtain⟨F1,g1,g2,g3⟩:=h.mark T
  have hF1:∀ b,FT F ρ T b→F1 b:=fun b hb=>g2 b hb hf.some
  obtain⟨dst,op,ty,pos,after,guard⟩:=o
  simp only at ho
  subst ho
  unfold Oper.wp
  rw[Y2V hc.1 h1]
  refine Calls.mono (hc.2 w F1 _ (hargs.mono hF1 (fun _ _=>rfl)) g3.frzlt) fun e w' he=>?_
  obtain⟨v,res,F',O,rfl,hR,hext,q1,q2,q3,q4,q5,q6⟩:=he
  obtain⟨ht,hK⟩:=k res hR
  have hI':=g3.called hext q1 q2 q3
  obtain⟨ρ',k1,k2⟩:=Y1s hI' q4 (freeNew g3 q6) q5 ht (nameO nb _)
  exact hk _ _ v w' F' ρ' hK k1 k2
 | @callF g as ts f caps args T R ho hg hf hc k =>
  obtain⟨cv,h1,h2⟩:=callArgs h (as:=as) hg
  have hargs:=Frz.sound h.boxes hf _ h2
  obtain⟨F1,g1,g2,g3⟩:=h.mark T
  have hF1:∀ b,FT F ρ T b→F1 b:=fun b hb=>g2 b hb hf.some
  obtain⟨dst,op,ty,pos,after,guard⟩:=o
  simp only at ho
  subst ho
  unfold Oper.wp
  rw[Y2V hc.1 h1]
  refine Calls.mono (hc.2 w F1 _ (hargs.mono hF1 (fun _ _=>rfl)) g3.frzlt) fun e w' he=>?_
  obtain⟨v,res,F',O,rfl,hR,hext,q1,q2,q3,q4,q5,q6⟩:=he
  obtain⟨hflat,ht,hK⟩:=k res hR
  have hI':=h.called hext (F':=F) (fun _ h=>h) (fun _ h=>.inl h) (fun b hb=>Yfh (h.frzlt b hb) hext.size)
  obtain⟨ρ',k1,k2⟩:=Y1s hI' (hflat w' F' F v O q4) (freeNew h fun b hb=>⟨(q6 b hb).1,fun hF=>by have:=h.frzlt b hF;have:=(q6 b hb).2.2;omega,(q6 b hb).2.2⟩) q5 ht (nameO nb _)
  exact hk _ _ v w' F ρ' hK k1 k2
 | @lend g as ts f caps args T M R ho hg he hM hMT hc k =>
  obtain⟨cv,h1,h2⟩:=callArgs h (as:=as) hg
  obtain⟨F1,O,i1,i2,i3,i4,i5,i6,i7⟩:=Y6C h h2 he hM hMT
  obtain⟨dst,op,ty,pos,after,guard⟩:=o
  simp only at ho
  subst ho
  unfold Oper.wp
  rw[Y2V hc.1 h1]
  refine Calls.mono (hc.2 w F1 _ O i2 i3 i1.frzlt i4) fun e w' he'=>?_
  obtain⟨v,res,q,F',O1,O2,rfl,hR,hext,q1,q2,q3,q4,-,q6,q7,q8⟩:=he'
  have hO2:=q6 rfl
  subst hO2
  rw[YdX] at q7 q8
  obtain⟨ht,hK⟩:=k res q hR
  have hout:∀ n,n∉M→effM (effM st.m (markE st.m T)) (lendE (effM st.m (markE st.m T)) [] M) n=(effM st.m (markE st.m T)) n:=fun n hn=>Y2k hn
  have hin:∀ n∈M,effM (effM st.m (markE st.m T)) (lendE (effM st.m (markE st.m T)) [] M) n=some ⟨genAt (effM st.m (markE st.m T)) n,false,.slc,0,[]⟩:=fun n hn=>(Y35 hM hn).trans rfl
  have hI':=i1.exchange (m2:=effM (effM st.m (markE st.m T)) (lendE (effM st.m (markE st.m T)) [] M)) (ρ2:=fun n=>if n∈M then none else ρ n) i6 i5 hext q1 q2 q3
   (fun n hn=>⟨hout n hn,if_neg hn⟩) fun n hn x hx=>⟨_,hin n hn,rfl,.inl ⟨by simp only[genAt];rw[show effM st.m (markE st.m T) n=some x from hx];simp,if_pos hn,rfl,rfl⟩⟩
  have hfree:FreeB X ⟨st.ts,effM (effM st.m (markE st.m T)) (lendE (effM st.m (markE st.m T)) [] M)⟩ w' F' (fun n=>if n∈M then none else ρ n) O1:=fun b hb=>by
   obtain⟨p1,p2,p3⟩:=q8 b hb
   refine⟨p1,p2,?_,fun n x l hx hxf hl heq=>?_⟩
   ·rcases p3 with p3 | p3
    ·obtain⟨n,hn,lc,e1,rfl⟩:=i5 b p3
     obtain⟨x,hx,hxf⟩:=i6 n hn
     exact ((i1.place n x lc hx e1).2.2 hxf).2
    ·exact .inr (Ye5 h.ext.size p3)
   ·by_cases hn:n∈M
    ·simp only[if_pos hn] at hl
     cases hl
    ·simp only[if_neg hn] at hl
     have hx':(effM st.m (markE st.m T)) n=some x:=(hout n hn).symm.trans hx
     have hlt:=(i1.place n x l hx' hl).1
     rcases p3 with p3 | p3
     ·obtain⟨n',hn',lc,e1,e2⟩:=i5 b p3
      obtain⟨y,hy,hyf⟩:=i6 n' hn'
      exact hn (i1.inj n n' x y l lc hx' hy hxf hyf hl e1 (heq.trans e2.symm) ▸ hn')
     ·omega
  obtain⟨ρ',k1,k2⟩:=Y1s hI' q4 hfree q7 ht (nameO nb _)
  exact hk _ _ v w' F' ρ' hK k1 k2
 | @lend1 g as ts f caps args T M j u R ho hg he hM hMT hc hu k =>
  obtain⟨cv,h1,h2⟩:=callArgs h (as:=as) hg
  obtain⟨F1,O,i1,i2,i3,i4,i5,i6,i7⟩:=Y6C h h2 he hM hMT
  obtain⟨dst,op,ty,pos,after,guard⟩:=o
  simp only at ho
  subst ho
  unfold Oper.wp
  rw[Y2V hc.1 h1]
  refine Calls.mono (hc.2 w F1 _ O i2 i3 i1.frzlt i4) fun e w' he'=>?_
  obtain⟨v,res,q,F',O1,O2,rfl,hR,hext,q1,q2,q3,q4,q5,-,q7,q8⟩:=he'
  obtain⟨b,x,ht,hback,hbM,hbD,hK⟩:=k res q hR
  have q5:=q5 j rfl
  obtain⟨n1,n2,n3⟩:=nodup_append q7
  have hvj:RelL w F1 ρ (effM st.m (markE st.m T)) ((as.map a.eval++cv).getD j Go.undef) u:=by
   obtain⟨cs,e1,e2,e3⟩:=i7.cells
   injection e1 with e1
   subst e1
   have hj:j<(as.map a.eval++cv).size:=by rw[e2];exact (YdM.1 hu).1
   rw[Ye7,YdL hj]
   exact e3 j _ u (YdL hj) hu
  generalize hm0:effM st.m (markE st.m T)=m0 at *
  have hout:∀ n,n∉M→effM m0 (lendE m0 [(b,x)] M) n=m0 n:=fun n hn=>Y2k hn
  have hinb:effM m0 (lendE m0 [(b,x)] M) b=some x:=(Y35 hM hbM).trans (by rw[Y6t,if_pos rfl])
  have hinn:∀ n∈M,n≠b→effM m0 (lendE m0 [(b,x)] M) n=some ⟨genAt m0 n,false,.slc,0,[]⟩:=fun n hn hne=>(Y35 hM hn).trans (by rw[Y6t,if_neg (Ne.symm hne)])
  have hdead:∀ n y,m0 n=some y→y.gen<(⟨genAt m0 n,false,.slc,0,[]⟩:Box).gen:=fun n y hy=>by simp only[genAt];rw[hy];simp
  have hOpl:∀ b'∈O1++O2,b'∈X.O0∨X.w0.heap.size≤b':=fun b' hb'=>by
   rcases (q8 b' hb').2.2 with p3 | p3
   ·obtain⟨n,hn,lc,e1,rfl⟩:=i5 b' p3
    obtain⟨z,hz,hzf⟩:=i6 n hn
    exact ((i1.place n z lc hz e1).2.2 hzf).2
   ·exact .inr (Ye5 h.ext.size p3)
  have hcol:∀ b'∈O1++O2,∀ n z l,n∉M→m0 n=some z→z.frz=false→ρ n=some l→l.blk≠b':=fun b' hb' n z l hn hz hzf hl heq=>by
   have hlt:=(i1.place n z l hz hl).1
   rcases (q8 b' hb').2.2 with p3 | p3
   ·obtain⟨n',hn',lc,e1,e2⟩:=i5 b' p3
    obtain⟨y,hy,hyf⟩:=i6 n' hn'
    exact hn (i1.inj n n' z y l lc hz hy hzf hyf hl e1 (heq.trans e2.symm) ▸ hn')
   ·omega
  have hk1:=hK _ _ rfl rfl
  generalize nameO nb _=D at hk1
  cases hback with
  | @slc _ g len sz y es hm hg hkk hl h0 hs he' =>
   subst hs
   obtain⟨-,hle,hh⟩:=hvj.toOwn hm hg
   obtain⟨lc,hlc,hb2,hO2⟩:∃ lc,ρ b=some lc∧CellsOK w' F' (dropR ρ M b) (effM m0 (lendE m0 [(b,⟨g,false,.slc,y.sz,es⟩)] M)) (some lc) ⟨g,false,.slc,y.sz,es⟩∧O2=[lc.blk]:=by
    cases hr:ρ b with
    | none =>
     rw[hr] at hh
     obtain⟨a0,hh⟩:=hh
     rw[hh] at q5
     cases q5 with
     | frz hf=>cases hf
     | slo0=>simp at he';omega
     | slo e1=>omega
    | some lc =>
     rw[hr] at hh
     obtain⟨ao,cap',hv1,ha,hcl,hcap⟩:=hh
     simp only at hcap
     have ha:=ha (by omega)
     subst ha
     rw[hv1] at q5
     cases q5 with
     | frz hf=>cases hf
     | slo0=>simp at he';omega
     | @slo blk off len' cap _ _ cs t e1 e2 e3 e4 e5 e6 =>
      refine⟨lc,rfl,⟨cs,t,e3,?_,?_,e5,fun i e c q' hi hq=>?_⟩,rfl⟩
      ·simp only[YfD,YfE] at e4 ⊢
       rw[← hcap,YdZ]
       exact e4
      ·show es.length≤lc.ext
       omega
      ·obtain⟨v',hv',hr'⟩:=e6 i e c q' hi hq
       exact⟨v',by simpa using hv',hr'⟩
   have hI':=i1.exchange (m2:=effM m0 (lendE m0 [(b,⟨g,false,.slc,y.sz,es⟩)] M)) (ρ2:=dropR ρ M b) i6 i5 hext q1 q2 q3
    (fun n hn=>⟨hout n hn,Y2J hn⟩) fun n hn z hz=>by
     by_cases hnb:n=b
     ·subst hnb
      have hz':m0 n=some z:=hz
      rw[hm] at hz'
      injection hz' with hz'
      subst hz'
      refine⟨_,hinb,rfl,.inr ⟨hg.symm,Y21,rfl,he'.trans hl,hkk.symm,fun _=>Ygc (by simp) (by rw[Y21,hlc];exact hb2),fun l hl' hF'=>?_⟩⟩
      rw[hlc] at hl'
      injection hl' with hl'
      subst hl'
      exact (q8 lc.blk (by rw[hO2];simp)).2.1 hF'
     ·exact⟨_,hinn n hn hnb,rfl,.inl ⟨hdead n z hz,Y3X hn hnb,rfl,rfl⟩⟩
   have hfree:FreeB X ⟨st.ts,effM m0 (lendE m0 [(b,⟨g,false,.slc,y.sz,es⟩)] M)⟩ w' F' (dropR ρ M b) O1:=fun b' hb'=>by
    obtain⟨p1,p2,p3⟩:=q8 b' (Yee _ hb')
    refine⟨p1,p2,hOpl b' (Yee _ hb'),fun n z l hz hzf hl heq=>?_⟩
    by_cases hn:n∈M
    ·by_cases hnb:n=b
     ·subst hnb
      rw[Y21,hlc] at hl
      injection hl with hl
      subst hl
      exact n3 b' hb' (by rw[hO2,← heq];simp)
     ·rw[Y3X hn hnb] at hl
      cases hl
    ·rw[Y2J hn] at hl
     exact hcol b' (Yee _ hb') n z l hn ((hout n hn).symm.trans hz) hzf hl heq
   obtain⟨ρ',k1,k2⟩:=Y1s hI' q4 hfree n1 ht D
   exact hk _ _ v w' F' ρ' hk1 k1 k2
  | @var _ g y cs hm hg hkk hl hs hcc =>
   obtain⟨-,lc,hlc,hv1⟩:=hvj.toRef hm hg
   have hext1:=(i1.boxes b y hm).ext hkk lc hlc
   rw[hv1] at q5
   have hnf:∀ v,¬ RelF w' F' v (.ptro cs):=fun v h=>by cases h
   cases q5 with
   | frz hf=>exact absurd hf (hnf _)
   | @ptro blk off cs0 t _ O' hb hf hr =>
   have e0:lc.base+(0*y.sz+0)=lc.base:=by simp
   simp only[e0] at hf hr hv1
   have hI':=i1.exchange (m2:=effM m0 (lendE m0 [(b,⟨g,false,.var,cs.length,[cs.map fun _=>.undef]⟩)] M)) (ρ2:=dropR ρ M b) i6 i5 hext q1 q2 q3
    (fun n hn=>⟨hout n hn,Y2J hn⟩) fun n hn z hz=>by
     by_cases hnb:n=b
     ·subst hnb
      have hz':m0 n=some z:=hz
      rw[hm] at hz'
      injection hz' with hz'
      subst hz'
      refine⟨_,hinb,rfl,.inr ⟨hg.symm,Y21,hs,by rw[hl];rfl,hkk.symm,fun _=>Ygc (by simp) (by
       rw[Y21,hlc]
       refine⟨cs0,t,hb,by rw[hext1];simpa using hf,by rw[hext1];simp,by simp,fun i e c q' hi hq=>?_⟩
       have hi0:i=0:=by have:=(YdM.1 hi).1;simp at this;omega
       subst hi0
       simp only[Yew,Yem] at hi
       subst hi
       have hc:c<cs.length:=by have:=(YdM.1 hq).1;simpa using this
       rw[YeY,YdO hc] at hq
       simp only[Yf1,Yem] at hq
       subst hq
       exact⟨cs0[lc.base+c]'(by omega),by simp only[YfD,YdZ];exact YdL _,.frz (.undef _)⟩)
       fun _ l hl'=>by
        rw[Y21,hlc] at hl'
        injection hl' with hl'
        subst hl'
        exact hext1,fun l hl' hF'=>?_⟩⟩
      rw[hlc] at hl'
      injection hl' with hl'
      subst hl'
      exact (q8 lc.blk (by simp)).2.1 hF'
     ·exact⟨_,hinn n hn hnb,rfl,.inl ⟨hdead n z hz,Y3X hn hnb,rfl,rfl⟩⟩
   obtain⟨nb1,nb2⟩:=YeV.1 n2
   have hfree:∀ O3,(∀ b'∈O3,b'∈O1++(lc.blk::O')∧b'≠lc.blk)→FreeB X ⟨st.ts,effM m0 (lendE m0 [(b,⟨g,false,.var,cs.length,[cs.map fun _=>.undef]⟩)] M)⟩ w' F' (dropR ρ M b) O3:=fun O3 hO3 b' hb'=>by
    obtain⟨hin3,hne3⟩:=hO3 b' hb'
    obtain⟨p1,p2,p3⟩:=q8 b' hin3
    refine⟨p1,p2,hOpl b' hin3,fun n z l hz hzf hl heq=>?_⟩
    by_cases hn:n∈M
    ·by_cases hnb:n=b
     ·subst hnb
      rw[Y21,hlc] at hl
      injection hl with hl
      subst hl
      exact hne3 heq.symm
     ·rw[Y3X hn hnb] at hl
      cases hl
    ·rw[Y2J hn] at hl
     exact hcol b' hin3 n z l hn ((hout n hn).symm.trans hz) hzf hl heq
   obtain⟨ρ1,k1,k2,k3⟩:=Y2F cs hI' (us:=(cs0.extract lc.base (lc.base+cs.length)).toList) hr (hfree O' fun b' hb'=>⟨Yeg _ (YdV _ hb'),fun e=>nb1 (e ▸ hb')⟩) nb2 hcc (farD D)
   have hsame:=k3.same b (.inl (Yfh hbD (Nat.le_add_right _ _)))
   have hb1:=hsame.trans hinb
   have hρb:ρ1 b=some lc:=by
    obtain⟨x',e1,e2⟩:=k3.compat b _ hinb
    rw[hb1] at e1
    injection e1 with e1
    subst e1
    rcases e2 with ⟨-,e2,-⟩ | e2
    ·rw[e2,Y21];exact hlc
    ·omega
   obtain⟨vs',g1,g2,g3⟩:=k2.cells
   have hlen:(impCs (effM m0 (lendE m0 [(b,⟨g,false,.var,cs.length,[cs.map fun _=>.undef]⟩)] M)) (farD D) cs).1.length=cs.length:=by
    injection g1 with g1
    rw[← g2,← g1]
    simp
    omega
   obtain⟨t1,t2⟩:=k1.tell (n:=b) (x':=⟨g,false,.var,cs.length,[(impCs (effM m0 (lendE m0 [(b,⟨g,false,.var,cs.length,[cs.map fun _=>.undef]⟩)] M)) (farD D) cs).1]⟩) hb1 rfl rfl rfl rfl rfl rfl
    fun hcm=>Ygc (by simp) (by
     rw[hρb]
     refine⟨cs0,t,hb,by rw[hext1];simpa using hf,by rw[hext1];simp,by simpa using hlen,fun i e c q' hi hq=>?_⟩
     have hi0:i=0:=by have:=(YdM.1 hi).1;simp at this;omega
     subst hi0
     simp only[Yew,Yem] at hi
     subst hi
     have hcl:c<cs.length:=by have:=(YdM.1 hq).1;omega
     have hcx:(cs0.extract lc.base (lc.base+cs.length))[c]?=some (cs0[lc.base+c]'(by omega)):=by
      rw[Yfb,if_pos (by omega)]
      exact YdL _
     refine⟨cs0[lc.base+c]'(by omega),by simp only[YfD,YdZ];exact YdL _,?_⟩
     injection g1 with g1
     have hg:vs'[c]?=some (cs0[lc.base+c]'(by omega)):=by rw[← hcx,← g1]
     exact (g3 c _ q' hg hq).mono (fun _ h=>h) (fun _ _=>rfl) hcm) fun _ l hl'=>by
      rw[hρb] at hl'
      injection hl' with hl'
      subst hl'
      exact hext1
   have hfree1:FreeB X ⟨st.ts,updM (effM (effM m0 (lendE m0 [(b,⟨g,false,.var,cs.length,[cs.map fun _=>.undef]⟩)] M)) (impCs (effM m0 (lendE m0 [(b,⟨g,false,.var,cs.length,[cs.map fun _=>.undef]⟩)] M)) (farD D) cs).2.1) b
     ⟨g,false,.var,cs.length,[(impCs (effM m0 (lendE m0 [(b,⟨g,false,.var,cs.length,[cs.map fun _=>.undef]⟩)] M)) (farD D) cs).1]⟩⟩ w' F' ρ1 O1:=fun b' hb'=>by
    have hne:b'≠lc.blk:=fun e=>n3 b' hb' (by rw[e];simp)
    obtain⟨p1,p2,p3,p4⟩:=hfree O1 (fun b' hb'=>⟨Yee _ hb',fun e=>n3 b' hb' (by rw[e];simp)⟩) b' hb'
    refine⟨p1,p2,p3,fun n z l hz hzf hl heq=>?_⟩
    by_cases hnb:n=b
    ·subst hnb
     rw[hρb] at hl
     injection hl with hl
     subst hl
     exact hne heq.symm
    ·have hz:=(Y0e _ _ (Ne.symm hnb)).symm.trans hz
     rcases k3.own n z l hz hzf hl with ⟨e1,e2⟩ | e1
     ·exact p4 n z l e1 hzf e2 heq
     ·exact n3 b' hb' (by rw[← heq];exact YdV _ e1)
   obtain⟨ρ',z1,z2⟩:=Y1s t1 q4 hfree1 n1 ht D
   simp only[fill1,Y0b,effM] at hk1
   exact hk _ _ v w' F' ρ' hk1 z1 z2
 | @inl g as ts f caps nb' ho hg k =>
  obtain⟨cv,h1,h2⟩:=callArgs h (as:=as) hg
  obtain⟨hok,hcall⟩:=hI _ _ _ _ _ k
  obtain⟨dst,op,ty,pos,after,guard⟩:=o
  simp only at ho
  subst ho
  unfold Oper.wp
  rw[Y2V hok h1]
  refine Calls.mono (hcall X a w F ρ st.ts h _ h2) fun e w' he=>?_
  obtain⟨v,r,m',F',ρ',rfl,hR,hI',hv⟩:=he
  exact hk _ _ v w' F' ρ' hR hI' hv
theorem Y1m (h:Inv X st a w F ρ){ops:Array Oper}{o:Oper}{b:Bool}(hw:wantedL ops o st.ts=some b): Region.wanted o (yielded ops a.tmps)=b:=by
 unfold wantedL at hw
 unfold Region.wanted
 cases hg:o.guard with
 | none =>
  rw[hg] at hw
  cases hw
  rfl
 | some jw =>
  obtain⟨j,want⟩:=jw
  rw[hg] at hw
  simp only at hw ⊢
  cases hd:(ops[j]?).bind (·.dst) with
  | none=>rw[hd] at hw;cases hw
  | some t =>
   rw[hd] at hw
   simp only at hw
   unfold yielded
   rw[hd]
   have hs:=h.slots t
   split at hw
   ·rename_i b' hb'
    injection hw with hw
    subst hw
    rw[hb'] at hs
    have hv:=hs.bool
    rw[Ye7] at hv
    cases hq:a.tmps[t]? with
    | none=>rw[hq] at hv;cases hv
    | some u =>
     rw[hq] at hv
     simp only[YeA] at hv
     subst hv
     simp[hq]
   ·rename_i hb'
    injection hw with hw
    subst hw
    rw[hb'] at hs
    have hv:=hs.skip
    rw[Ye7] at hv
    cases hq:a.tmps[t]? with
    | none=>simp[hq]
    | some u =>
     rw[hq] at hv
     simp only[YeA] at hv
     subst hv
     simp[hq,Go.undef]
   ·cases hw
theorem WpOps.sound {I:InlP}(hI:InlS P I){nb n:Nat}{ops:Array Oper}(hd:∀ (i:Nat) o,ops[i]?=some o→dstOK n o=true){Q:Ex→St→Prop}: ∀ (l:List Nat) {st:St}{a:Act}{w:World}{F:Nat→Prop}{ρ:Locs},
  WpOps P I nb ops (Q .normal) l st→Inv X st a w F ρ→a.tmps.size=n→wpOps P ops (Post X n Q) l a w:=by
 intro l
 induction l with
 | nil=>intro st a w F ρ hw h hn;exact⟨.normal,st,F,ρ,rfl,hw,h,hn⟩
 | cons i r ih =>
  intro st a w F ρ hw h hn
  simp only[wpOps,WpOps] at hw ⊢
  cases ho:ops[i]? with
  | none =>
   rw[ho] at hw
   exact ih hw h hn
  | some o =>
   rw[ho] at hw
   simp only at hw ⊢
   have hdo:=hd i o ho
   have hdst:∀ i,o.dst=some i→i<a.tmps.size:=by
    intro i hi
    unfold dstOK at hdo
    rw[hi] at hdo
    rw[hn]
    exact of_decide_eq_true hdo
   have hsz:∀ v,(a.put o.dst v).tmps.size=n:=by
    intro v
    cases o.dst <;> simp[Act.put,hn]
   cases hwt:wantedL ops o st.ts with
   | none=>rw[hwt] at hw;cases hw
   | some b =>
    rw[hwt] at hw
    rw[Y1m h hwt]
    cases b with
    | true =>
     simp only[if_true]
     refine .inl (WpOp.sound hI hw h fun v m val w' F' ρ' hK hI' hv=>?_)
     exact ih hK (hI'.put hdst hv) (hsz _)
    | false =>
     simp only[Yf4,if_false]
     exact ih hw (h.put hdst (.frz .skip)) (hsz _)
end
def Wn (e:List (Nat × Box)): List Nat:=e.map (·.1)
theorem Yd1 {f g:Mem}{b n:Nat}{x:Box}(h:f n=g n): updM f b x n=updM g b x n:=by
 unfold updM
 rw[h]
theorem Y5G:∀ (e:List (Nat × Box)) {f g:Mem}{n:Nat},f n=g n→effM f e n=effM g e n
 | [],_,_,_,h=>h
 | (_,_)::r,_,_,_,h=>Y5G r (Yd1 h)
theorem YaF:∀ (e:List (Nat × Box)) {f g:Mem}{n:Nat},n∈Wn e→effM f e n=effM g e n
 | [],_,_,_,h=>by cases h
 | (b,x)::r,f,g,n,h=>by
  by_cases hb:b=n
  ·subst hb
   exact Y5G r (by rw[Y07,Y07])
  ·refine YaF r (f:=updM f b x) (g:=updM g b x) ?_
   rcases Yep.1 h with h | h
   ·exact absurd h.symm hb
   ·exact h
theorem Y2g:∀ (e:List (Nat × Box)) {f:Mem}{n:Nat},n∉Wn e→effM f e n=f n
 | [],_,_,_=>rfl
 | (b,x)::r,f,n,h=>by
  have hb:b≠n:=fun hb=>h (by simp[Wn,hb])
  exact (Y2g r fun hr=>h (YdV _ hr)).trans (Y0e _ _ hb)
theorem Y0K {m m':Mem}: ∀ {T:List Nat},(∀ n∈T,m n=m' n)→markE m T=markE m' T
 | [],_=>rfl
 | b::r,h=>by
  have h1:=h b (by simp)
  have h2:=Y0K (m:=m) (m':=m') (T:=r) fun n hn=>h n (YdV _ hn)
  simp only[markE,h1,h2]
theorem Y1f {m:Mem}: ∀ {T:List Nat},∀ n∈Wn (markE m T),n∈T
 | [],n,h=>h
 | b::r,n,h=>by
  simp only[markE] at h
  split at h
  ·rcases Yep.1 h with h | h
   ·exact Yep.2 (.inl h)
   ·exact YdV _ (Y1f n h)
  ·exact YdV _ (Y1f n h)
theorem Frz.loc {m m':Mem}{v v':LV}{T:List Nat}(h:Frz m v v' T): (∀ n∈T,m n=m' n)→Frz m' v v' T:=by
 induction h with
 | pure h=>exact fun _=>.pure h
 | nils=>exact fun _=>.nils
 | nilm=>exact fun _=>.nilm
 | nilmE=>exact fun _=>.nilmE
 | refU=>exact fun _=>.refU
 | undU=>exact fun _=>.undU
 | own hm hg hk hl=>exact fun h=>.own (by rw[← h _ (by simp)];exact hm) hg hk hl
 | mref hm hg hk hn=>exact fun h=>.mref (by rw[← h _ (by simp)];exact hm) hg hk hn
 | ref hm hg hk he hc ih=>exact fun h=>.ref (by rw[← h _ (by simp)];exact hm) hg hk he (ih fun n hn=>h n (YdV _ hn))
 | aggn=>exact fun _=>.aggn
 | aggc h hs ih1 ih2=>exact fun h=>.aggc (ih1 fun n hn=>h n (Yee _ hn)) (ih2 fun n hn=>h n (Yeg _ hn))
 | fn h ih=>exact fun h=>.fn (ih h)
theorem FrzP.loc {m m':Mem}{sz n:Nat}{ρ ρ':Operand→LV}{ps:List (Nat × Operand)}{ps':List (Nat × List LV)}{T:List Nat}(h:FrzP m sz n ρ ps ps' T):
  (∀ p∈ps,ρ p.2=ρ' p.2)→(∀ n∈T,m n=m' n)→FrzP m' sz n ρ' ps ps' T:=by
 induction h with
 | nil=>exact fun _ _=>.nil
 | cons h h1 hi hl hr ih =>
  intro hρ hm
  refine .cons ?_ h1 hi hl (ih (fun p hp=>hρ p (YdV _ hp)) fun n hn=>hm n (Yeg _ hn))
  rw[← hρ _ (Yev ..)]
  exact h.loc fun n hn=>hm n (Yee _ hn)
theorem SrcR.loc {m m':Mem}{v:LV}{sz:Nat}{es:List (List LV)}{R:List Nat}(h:SrcR m v sz es R)(hm:∀ n∈R,m n=m' n): SrcR m' v sz es R:=by
 cases h with
 | own h1 hg hk hl=>exact .own (by rw[← hm _ (by simp)];exact h1) hg hk hl
 | sl h=>exact .sl h
 | nils=>exact .nils
theorem LiveS.loc {m m':Mem}{v:LV}{R:List Nat}(h:LiveS m v R)(hm:∀ n∈R,m n=m' n): LiveS m' v R:=by
 cases h with
 | own h1 hg=>exact .own (by rw[← hm _ (by simp)];exact h1) hg
 | nils=>exact .nils
 | sl=>exact .sl
 | str=>exact .str
theorem Y0n {ρ ρ':Operand→LV}{d:Nat}{x:Option Operand}(h:∀ y,x=some y→ρ y=ρ' y): bndL ρ d x=bndL ρ' d x:=by
 cases x with
 | none=>rfl
 | some y=>simp only[bndL,h y rfl]
theorem OpR.loc {P:Program}{d:Nat}{ρ ρ':Operand→LV}{m m':Mem}{op:Op}{v:LV}{eff:List (Nat × Box)}{R:List Nat}(h:OpR P d ρ m op v eff R)
  (hρ:∀ x∈op.operands,ρ x=ρ' x) (hm:∀ n∈R,m n=m' n):OpR P d ρ' m' op v eff R:=by
 cases h
 case move =>
  try simp[Op.operands,Call.operands] at hρ
  try simp at hm
  try simp only[hρ]
  try simp only[hm,genAt]
  apply OpR.move <;> first | assumption | (simp only[← hρ,← hm];assumption) | (simp only[← hρ];assumption) | (simp only[← hm];assumption)
 case assign =>
  try simp[Op.operands,Call.operands] at hρ
  try simp at hm
  try simp only[hρ]
  try simp only[hm,genAt]
  apply OpR.assign <;> first | assumption | (simp only[← hρ,← hm];assumption) | (simp only[← hρ];assumption) | (simp only[← hm];assumption)
 case pick =>
  try simp[Op.operands,Call.operands] at hρ
  try simp at hm
  try simp only[hρ]
  try simp only[hm,genAt]
  apply OpR.pick <;> first | assumption | (simp only[← hρ,← hm];assumption) | (simp only[← hρ];assumption) | (simp only[← hm];assumption)
 case alloc =>
  try simp[Op.operands,Call.operands] at hρ
  try simp at hm
  try simp only[hρ]
  try simp only[hm,genAt]
  apply OpR.alloc <;> first | assumption | (simp only[← hρ,← hm];assumption) | (simp only[← hρ];assumption) | (simp only[← hm];assumption)
 case box =>
  try simp[Op.operands,Call.operands] at hρ
  try simp at hm
  try simp only[hρ]
  try simp only[hm,genAt]
  apply OpR.box <;> first | assumption | (simp only[← hρ,← hm];assumption) | (simp only[← hρ];assumption) | (simp only[← hm];assumption)
 case build t ps hp h =>
  have e:∀ p∈ps.toList,ρ p.2=ρ' p.2:=fun p hp=>hρ p.2 (by simp only[Op.operands];simp;exact⟨p.1,by simpa using hp⟩)
  refine .build ?_ ?_
  ·rw[← h]
   congr 1
   refine Yf6 fun p hp=>?_
   simp only[e p hp]
  ·rw[Yed] at hp ⊢
   intro p hp'
   rw[← e p hp']
   exact hp p hp'
 case buildSlice t e n ps z ps' T ht hz hs hn hb hn0 hp =>
  have e:∀ p∈ps.toList,ρ p.2=ρ' p.2:=fun p hp=>hρ p.2 (by simp only[Op.operands];simp;exact⟨p.1,by simpa using hp⟩)
  rw[Y0K fun n hn=>hm n (YdV _ hn),show genAt m d=genAt m' d by simp only[genAt,hm d (Yev ..)]]
  exact .buildSlice ht hz hs hn hb hn0 (hp.loc e fun n hn=>hm n (YdV _ hn))
 case buildSlice00 =>
  try simp[Op.operands,Call.operands] at hρ
  try simp at hm
  try simp only[hρ]
  try simp only[hm,genAt]
  apply OpR.buildSlice00 <;> first | assumption | (simp only[← hρ,← hm];assumption) | (simp only[← hρ];assumption) | (simp only[← hm];assumption)
 case load =>
  try simp[Op.operands,Call.operands] at hρ
  try simp at hm
  try simp only[hρ]
  try simp only[hm,genAt]
  apply OpR.load <;> first | assumption | (simp only[← hρ,← hm];assumption) | (simp only[← hρ];assumption) | (simp only[← hm];assumption)
 case loadA =>
  try simp[Op.operands,Call.operands] at hρ
  try simp at hm
  try simp only[hρ]
  try simp only[hm,genAt]
  apply OpR.loadA <;> first | assumption | (simp only[← hρ,← hm];assumption) | (simp only[← hρ];assumption) | (simp only[← hm];assumption)
 case loadF =>
  try simp[Op.operands,Call.operands] at hρ
  try simp at hm
  try simp only[hρ]
  try simp only[hm,genAt]
  apply OpR.loadF <;> first | assumption | (simp only[← hρ,← hm];assumption) | (simp only[← hρ];assumption) | (simp only[← hm];assumption)
 case loadFA =>
  try simp[Op.operands,Call.operands] at hρ
  try simp at hm
  try simp only[hρ]
  try simp only[hm,genAt]
  apply OpR.loadFA <;> first | assumption | (simp only[← hρ,← hm];assumption) | (simp only[← hρ];assumption) | (simp only[← hm];assumption)
 case store =>
  try simp[Op.operands,Call.operands] at hρ
  try simp at hm
  try simp only[hρ]
  try simp only[hm,genAt]
  apply OpR.store <;> first | assumption | (simp only[← hρ,← hm];assumption) | (simp only[← hρ];assumption) | (simp only[← hm];assumption)
 case storeP t a y b g i c n x cs vs T ha hmb hg hf hk he hs hy hb hl h1 hc =>
  rw[Y0K fun n hn=>hm n (YdV _ hn)]
  exact .storeP (by rw[← hρ _ (by simp[Op.operands])];exact ha) (by rw[← hm _ (by simp)];exact hmb) hg hf hk he hs (by rw[← hρ y (by simp[Op.operands])];exact hy.loc fun n hn=>hm n (YdV _ hn)) hb hl h1 hc
 case nilCheck =>
  try simp[Op.operands,Call.operands] at hρ
  try simp at hm
  try simp only[hρ]
  try simp only[hm,genAt]
  apply OpR.nilCheck <;> first | assumption | (simp only[← hρ,← hm];assumption) | (simp only[← hρ];assumption) | (simp only[← hm];assumption)
 case nilCheckR =>
  try simp[Op.operands,Call.operands] at hρ
  try simp at hm
  try simp only[hρ]
  try simp only[hm,genAt]
  apply OpR.nilCheckR <;> first | assumption | (simp only[← hρ,← hm];assumption) | (simp only[← hρ];assumption) | (simp only[← hm];assumption)
 case nilEq =>
  try simp[Op.operands,Call.operands] at hρ
  try simp at hm
  try simp only[hρ]
  try simp only[hm,genAt]
  apply OpR.nilEq <;> first | assumption | (simp only[← hρ,← hm];assumption) | (simp only[← hρ];assumption) | (simp only[← hm];assumption)
 case nilNe =>
  try simp[Op.operands,Call.operands] at hρ
  try simp at hm
  try simp only[hρ]
  try simp only[hm,genAt]
  apply OpR.nilNe <;> first | assumption | (simp only[← hρ,← hm];assumption) | (simp only[← hρ];assumption) | (simp only[← hm];assumption)
 case nilCheckF =>
  try simp[Op.operands,Call.operands] at hρ
  try simp at hm
  try simp only[hρ]
  try simp only[hm,genAt]
  apply OpR.nilCheckF <;> first | assumption | (simp only[← hρ,← hm];assumption) | (simp only[← hρ];assumption) | (simp only[← hm];assumption)
 case bin =>
  try simp[Op.operands,Call.operands] at hρ
  try simp at hm
  try simp only[hρ]
  try simp only[hm,genAt]
  apply OpR.bin <;> first | assumption | (simp only[← hρ,← hm];assumption) | (simp only[← hρ];assumption) | (simp only[← hm];assumption)
 case un =>
  try simp[Op.operands,Call.operands] at hρ
  try simp at hm
  try simp only[hρ]
  try simp only[hm,genAt]
  apply OpR.un <;> first | assumption | (simp only[← hρ,← hm];assumption) | (simp only[← hρ];assumption) | (simp only[← hm];assumption)
 case conv =>
  try simp[Op.operands,Call.operands] at hρ
  try simp at hm
  try simp only[hρ]
  try simp only[hm,genAt]
  apply OpR.conv <;> first | assumption | (simp only[← hρ,← hm];assumption) | (simp only[← hρ];assumption) | (simp only[← hm];assumption)
 case fieldAddr =>
  try simp[Op.operands,Call.operands] at hρ
  try simp at hm
  try simp only[hρ]
  try simp only[hm,genAt]
  apply OpR.fieldAddr <;> first | assumption | (simp only[← hρ,← hm];assumption) | (simp only[← hρ];assumption) | (simp only[← hm];assumption)
 case fieldAddrF =>
  try simp[Op.operands,Call.operands] at hρ
  try simp at hm
  try simp only[hρ]
  try simp only[hm,genAt]
  apply OpR.fieldAddrF <;> first | assumption | (simp only[← hρ,← hm];assumption) | (simp only[← hρ];assumption) | (simp only[← hm];assumption)
 case indexAddr =>
  try simp[Op.operands,Call.operands] at hρ
  try simp at hm
  try simp only[hρ]
  try simp only[hm,genAt]
  apply OpR.indexAddr <;> first | assumption | (simp only[← hρ,← hm];assumption) | (simp only[← hρ];assumption) | (simp only[← hm];assumption)
 case indexAddrF =>
  try simp[Op.operands,Call.operands] at hρ
  try simp at hm
  try simp only[hρ]
  try simp only[hm,genAt]
  apply OpR.indexAddrF <;> first | assumption | (simp only[← hρ,← hm];assumption) | (simp only[← hρ];assumption) | (simp only[← hm];assumption)
 case indexAddrA =>
  try simp[Op.operands,Call.operands] at hρ
  try simp at hm
  try simp only[hρ]
  try simp only[hm,genAt]
  apply OpR.indexAddrA <;> first | assumption | (simp only[← hρ,← hm];assumption) | (simp only[← hρ];assumption) | (simp only[← hm];assumption)
 case indexAddrFA =>
  try simp[Op.operands,Call.operands] at hρ
  try simp at hm
  try simp only[hρ]
  try simp only[hm,genAt]
  apply OpR.indexAddrFA <;> first | assumption | (simp only[← hρ,← hm];assumption) | (simp only[← hρ];assumption) | (simp only[← hm];assumption)
 case field =>
  try simp[Op.operands,Call.operands] at hρ
  try simp at hm
  try simp only[hρ]
  try simp only[hm,genAt]
  apply OpR.field <;> first | assumption | (simp only[← hρ,← hm];assumption) | (simp only[← hρ];assumption) | (simp only[← hm];assumption)
 case fieldA =>
  try simp[Op.operands,Call.operands] at hρ
  try simp at hm
  try simp only[hρ]
  try simp only[hm,genAt]
  apply OpR.fieldA <;> first | assumption | (simp only[← hρ,← hm];assumption) | (simp only[← hρ];assumption) | (simp only[← hm];assumption)
 case indexS =>
  try simp[Op.operands,Call.operands] at hρ
  try simp at hm
  try simp only[hρ]
  try simp only[hm,genAt]
  apply OpR.indexS <;> first | assumption | (simp only[← hρ,← hm];assumption) | (simp only[← hρ];assumption) | (simp only[← hm];assumption)
 case slice t e x lo hi b g off len l h cap y hx hmb hg hk ht hs hl hh h1 h2 h3 =>
  have e0:ρ x=ρ' x:=hρ x (by simp[Op.operands])
  have e1:∀ d,bndL ρ d lo=bndL ρ' d lo:=fun d=>Y0n fun y hy=>hρ y (by simp[Op.operands,hy])
  have e2:∀ d,bndL ρ d hi=bndL ρ' d hi:=fun d=>Y0n fun y hy=>hρ y (by simp[Op.operands,hy])
  rw[e0] at hx
  rw[e1] at hl
  rw[e2] at hh
  exact .slice hx (by rw[← hm _ (by simp)];exact hmb) hg hk ht hs hl hh h1 h2 h3
 case slice3 t e x lo hi mx b g off len l h c cap y hx hmb hg hk ht hs hl hhs hh hc h1 h2 h3 h4 =>
  have e0:ρ x=ρ' x:=hρ x (by simp[Op.operands])
  have e1:∀ d,bndL ρ d lo=bndL ρ' d lo:=fun d=>Y0n fun y hy=>hρ y (by simp[Op.operands,hy])
  have e2:∀ d,bndL ρ d hi=bndL ρ' d hi:=fun d=>Y0n fun y hy=>hρ y (by simp[Op.operands,hy])
  rw[e0] at hx
  rw[e1] at hl
  rw[e2] at hh
  have e3:bndL ρ 0 (some mx)=bndL ρ' 0 (some mx):=Y0n fun y hy=>hρ y (by simp[Op.operands];injection hy with hy;simp[hy])
  rw[e3] at hc
  exact .slice3 hx (by rw[← hm _ (by simp)];exact hmb) hg hk ht hs hl hhs hh hc h1 h2 h3 h4
 case sliceF t e x lo hi es l h sz hx ht hs hz hl hh h1 h2 =>
  have e0:ρ x=ρ' x:=hρ x (by simp[Op.operands])
  have e1:∀ d,bndL ρ d lo=bndL ρ' d lo:=fun d=>Y0n fun y hy=>hρ y (by simp[Op.operands,hy])
  have e2:∀ d,bndL ρ d hi=bndL ρ' d hi:=fun d=>Y0n fun y hy=>hρ y (by simp[Op.operands,hy])
  rw[e0] at hx
  rw[e1] at hl
  rw[e2] at hh
  exact .sliceF hx ht hs hz hl hh h1 h2
 case sliceN t e x lo hi l h sz hx ht hs hl hh h1 h2 =>
  have e0:ρ x=ρ' x:=hρ x (by simp[Op.operands])
  have e1:∀ d,bndL ρ d lo=bndL ρ' d lo:=fun d=>Y0n fun y hy=>hρ y (by simp[Op.operands,hy])
  have e2:∀ d,bndL ρ d hi=bndL ρ' d hi:=fun d=>Y0n fun y hy=>hρ y (by simp[Op.operands,hy])
  rw[e0] at hx
  rw[e1] at hl
  rw[e2] at hh
  exact .sliceN hx ht hs hl hh h1 h2
 case sliceS t x lo hi s l h hx ht hl hh h1 h2 =>
  have e0:ρ x=ρ' x:=hρ x (by simp[Op.operands])
  have e1:∀ d,bndL ρ d lo=bndL ρ' d lo:=fun d=>Y0n fun y hy=>hρ y (by simp[Op.operands,hy])
  have e2:∀ d,bndL ρ d hi=bndL ρ' d hi:=fun d=>Y0n fun y hy=>hρ y (by simp[Op.operands,hy])
  rw[e0] at hx
  rw[e1] at hl
  rw[e2] at hh
  exact .sliceS hx ht hl hh h1 h2
 case makeSlice =>
  try simp[Op.operands,Call.operands] at hρ
  try simp at hm
  try simp only[hρ]
  try simp only[hm,genAt]
  apply OpR.makeSlice <;> first | assumption | (simp only[← hρ,← hm];assumption) | (simp only[← hρ];assumption) | (simp only[← hm];assumption)
 case makeMap =>
  try simp[Op.operands,Call.operands] at hρ
  try simp at hm
  try simp only[hρ]
  try simp only[hm,genAt]
  apply OpR.makeMap <;> first | assumption | (simp only[← hρ,← hm];assumption) | (simp only[← hρ];assumption) | (simp only[← hm];assumption)
 case lookup =>
  try simp[Op.operands,Call.operands] at hρ
  try simp at hm
  try simp only[hρ]
  try simp only[hm,genAt]
  apply OpR.lookup <;> first | assumption | (simp only[← hρ,← hm];assumption) | (simp only[← hρ];assumption) | (simp only[← hm];assumption)
 case lookupF =>
  try simp[Op.operands,Call.operands] at hρ
  try simp at hm
  try simp only[hρ]
  try simp only[hm,genAt]
  apply OpR.lookupF <;> first | assumption | (simp only[← hρ,← hm];assumption) | (simp only[← hρ];assumption) | (simp only[← hm];assumption)
 case mapUpdate t kt et x ix y b g bx r v T hx hmb hg hk hn hf ht hkt h hy hb =>
  rw[Y0K fun n hn=>hm n (YdV _ hn)]
  have e1:ρ ix=ρ' ix:=hρ _ (by simp[Op.operands])
  rw[e1] at hkt h ⊢
  exact .mapUpdate (by rw[← hρ _ (by simp[Op.operands])];exact hx) (by rw[← hm _ (by simp)];exact hmb) hg hk hn hf ht hkt h (by rw[← hρ y (by simp[Op.operands])];exact hy.loc fun n hn=>hm n (YdV _ hn)) hb
 case insert t kt et x ix y b g bx r v T hx hmb hg hk hn hf ht hkt h hy hb =>
  rw[Y0K fun n hn=>hm n (YdV _ hn)]
  have e1:ρ ix=ρ' ix:=hρ _ (by simp[Op.operands])
  rw[e1] at hkt h ⊢
  exact .insert (by rw[← hρ _ (by simp[Op.operands])];exact hx) (by rw[← hm _ (by simp)];exact hmb) hg hk hn hf ht hkt h (by rw[← hρ y (by simp[Op.operands])];exact hy.loc fun n hn=>hm n (YdV _ hn)) hb
 case range t kt et x es T ht hx =>
  rw[Y0K fun n hn=>hm n (YdV _ hn),show genAt m d=genAt m' d by simp only[genAt,hm d (Yev ..)]]
  exact .range ht (by rw[← hρ _ (by simp[Op.operands])];exact hx.loc fun n hn=>hm n (YdV _ hn))
 case entry =>
  try simp[Op.operands,Call.operands] at hρ
  try simp at hm
  try simp only[hρ]
  try simp only[hm,genAt]
  apply OpR.entry <;> first | assumption | (simp only[← hρ,← hm];assumption) | (simp only[← hρ];assumption) | (simp only[← hm];assumption)
 case extract =>
  try simp[Op.operands,Call.operands] at hρ
  try simp at hm
  try simp only[hρ]
  try simp only[hm,genAt]
  apply OpR.extract <;> first | assumption | (simp only[← hρ,← hm];assumption) | (simp only[← hρ];assumption) | (simp only[← hm];assumption)
 case makeFunc f cap =>
  rw[Yf6 (g:=ρ') fun x hx=>hρ x (by simpa [Op.operands] using hx)]
  exact .makeFunc
 case len x t n hl ht h =>
  have e0:ρ x=ρ' x:=hρ x (by simp[Op.operands,Call.operands])
  rw[e0] at h hl ht
  exact .len hl (h.loc hm) ht
 case lenMF =>
  try simp[Op.operands,Call.operands] at hρ
  try simp at hm
  try simp only[hρ]
  try simp only[hm,genAt]
  apply OpR.lenMF <;> first | assumption | (simp only[← hρ,← hm];assumption) | (simp only[← hρ];assumption) | (simp only[← hm];assumption)
 case lenM =>
  try simp[Op.operands,Call.operands] at hρ
  try simp at hm
  try simp only[hρ]
  try simp only[hm,genAt]
  apply OpR.lenM <;> first | assumption | (simp only[← hρ,← hm];assumption) | (simp only[← hρ];assumption) | (simp only[← hm];assumption)
 case clear =>
  try simp[Op.operands,Call.operands] at hρ
  try simp at hm
  try simp only[hρ]
  try simp only[hm,genAt]
  apply OpR.clear <;> first | assumption | (simp only[← hρ,← hm];assumption) | (simp only[← hρ];assumption) | (simp only[← hm];assumption)
 case indexAr =>
  try simp[Op.operands,Call.operands] at hρ
  try simp at hm
  try simp only[hρ]
  try simp only[hm,genAt]
  apply OpR.indexAr <;> first | assumption | (simp only[← hρ,← hm];assumption) | (simp only[← hρ];assumption) | (simp only[← hm];assumption)
 case max x xs ts h =>
  rw[hρ x (by simp[Op.operands,Call.operands]),Yf6 (g:=ρ') fun y hy=>hρ y (by simp[Op.operands,Call.operands,hy])] at h
  exact .max h
 case min x xs ts h =>
  rw[hρ x (by simp[Op.operands,Call.operands]),Yf6 (g:=ρ') fun y hy=>hρ y (by simp[Op.operands,Call.operands,hy])] at h
  exact .min h
 case appendN x y t u e es z R hx ht hu hz hs hzl hy h0 hone h1 hb =>
  rw[hρ x (by simp[Op.operands,Call.operands])] at hx
  rw[hρ y (by simp[Op.operands,Call.operands])] at hy
  rw[show genAt m d=genAt m' d by simp only[genAt,hm d (Yev ..)]]
  exact .appendN hx ht hu hz hs hzl (hy.loc fun n hn=>hm n (YdV _ hn)) h0 hone h1 hb
 case appendNE x y t u e sz S hx ht hu hs hy hys hly =>
  have e0:ρ x=ρ' x:=hρ x (by simp[Op.operands,Call.operands])
  have e1:ρ y=ρ' y:=hρ y (by simp[Op.operands,Call.operands])
  rw[e0] at hx
  rw[e1] at hy hys hly
  rw[show genAt m d=genAt m' d by simp only[genAt,hm d (Yev ..)]]
  exact .appendNE hx ht hu hs hy hys (hly.loc fun n hn=>hm n (YdV _ hn))
 case append0 x y t u e n R S hx hxs ht hu hsz hy hys hlx hly =>
  have e0:ρ x=ρ' x:=hρ x (by simp[Op.operands,Call.operands])
  have e1:ρ y=ρ' y:=hρ y (by simp[Op.operands,Call.operands])
  rw[e0] at hx hxs hlx ⊢
  rw[e1] at hy hys hly
  exact .append0 hx hxs ht hu hsz hy hys (hlx.loc fun n hn=>hm n (Yee _ hn)) (hly.loc fun n hn=>hm n (Yeg _ hn))
 case append x y t u e b g off len bx es z R hx hmb hg hf hk hend ht hu hz hs hzs hzl hy hyb h0 hone h1 hb =>
  rw[hρ x (by simp[Op.operands,Call.operands])] at hx
  rw[hρ y (by simp[Op.operands,Call.operands])] at hy
  exact .append hx (by rw[← hm _ (by simp)];exact hmb) hg hf hk hend ht hu hz hs hzs hzl (hy.loc fun n hn=>hm n (YdV _ hn)) hyb h0 hone h1 hb
 case buildSliceN t e y z cs ht hz hs hn hb hy hl h1 =>
  rw[hρ y (by simp[Op.operands])] at hy
  rw[show genAt m d=genAt m' d by simp only[genAt,hm d (Yev ..)]]
  exact .buildSliceN ht hz hs hn hb hy hl h1
 case indexAddrN =>
  try simp[Op.operands,Call.operands] at hρ
  try simp at hm
  try simp only[hρ]
  try simp only[hm,genAt]
  apply OpR.indexAddrN <;> first | assumption | (simp only[← hρ,← hm];assumption) | (simp only[← hρ];assumption) | (simp only[← hm];assumption)
 case appendNs x y t u e b g off len b' g' off' len' cap bx by' z hx hmb hg hf hk hend ht hu hz hs hzs hzl hy hym hyg hyk hyl hyz hyb h0 hone h1 hb =>
  rw[hρ x (by simp[Op.operands,Call.operands])] at hx
  rw[hρ y (by simp[Op.operands,Call.operands])] at hy
  exact .appendNs hx (by rw[← hm _ (by simp)];exact hmb) hg hf hk hend ht hu hz hs hzs hzl hy (by rw[← hm _ (by simp)];exact hym) hyg hyk hyl hyz hyb h0 hone h1 hb
 case appendC x y t u e b g off len c bx es z R hx hmb hg hk hl ht hu hz hs hzs hzl hy h0 hgr h1 hb =>
  rw[hρ x (by simp[Op.operands,Call.operands])] at hx
  rw[hρ y (by simp[Op.operands,Call.operands])] at hy
  rw[show genAt m d=genAt m' d by simp only[genAt,hm d (Yev ..)]]
  exact .appendC hx (by rw[← hm _ (by simp)];exact hmb) hg hk hl ht hu hz hs hzs hzl (hy.loc fun n hn=>hm n (YdV _ (YdV _ hn))) h0 hgr h1 hb
def unmark (m:Mem)(e:List (Nat × Box)): List (Nat × Box):=e.filter fun p=>!(p.2.frz && match m p.1 with | some y=>y.frz | none=>false)
theorem Y3y {m:Mem}{e:List (Nat × Box)}: ∀ n∈Wn (unmark m e),n∈Wn e:=by
 intro n hn
 obtain⟨p,hp,rfl⟩:=Ye8.1 hn
 exact Ye8.2 ⟨p,(YeL.1 hp).1,rfl⟩
theorem Y3C {m m':Mem}{e:List (Nat × Box)}(h:∀ n∈Wn e,m n=m' n): unmark m e=unmark m' e:=by
 unfold unmark
 refine List.filter_congr fun p hp=>?_
 rw[h p.1 (Ye8.2 ⟨p,hp,rfl⟩)]
theorem Y1R (m:Mem)(e e':List (Nat × Box)): unmark m (e++e')=unmark m e++unmark m e':=Yfn ..
theorem Y1x {m:Mem}{e:List (Nat × Box)}(h:∀ p∈e,p.2.frz=false): unmark m e=e :=
 List.filter_eq_self.2 fun p hp=>by rw[h p hp];rfl
theorem Ycg {f:Mem}{b:Nat}{x:Box}(h:f b=some x): updM f b x=f:=by
 funext n
 by_cases hb:b=n
 ·subst hb
  rw[Y07,h]
 ·exact Y0e _ _ hb
theorem Y0l:∀ (T:List Nat) {m f:Mem},(∀ n x,m n=some x→f n=some x∨f n=some { x with frz:=true })→effM f (markE m T)=effM f (unmark m (markE m T))
 | [],_,_,_=>rfl
 | b::r,m,f,h=>by
  cases hx:m b with
  | none =>
   simp only[markE,hx]
   exact Y0l r h
  | some x =>
   simp only[markE,hx,effM]
   cases hf:x.frz with
   | true =>
    have hu:unmark m ((b,{ x with frz:=true })::markE m r)=unmark m (markE m r):=by
     simp[unmark,hx,hf]
    have hxe:({ x with frz:=true }:Box)=x:=by cases x;simp at hf;simp[hf]
    have hfb:f b=some { x with frz:=true }:=by
     rcases h b x hx with h1 | h1
     ·rw[h1,hxe]
     ·exact h1
    rw[hu,Ycg hfb]
    exact Y0l r h
   | false =>
    have hu:unmark m ((b,{ x with frz:=true })::markE m r)=(b,{ x with frz:=true })::unmark m (markE m r):=by
     simp[unmark,hx,hf]
    rw[hu]
    simp only[effM]
    refine Y0l r fun n y hy=>?_
    by_cases hb:b=n
    ·subst hb
     rw[hx] at hy
     injection hy with hy
     subst hy
     exact .inr (Y07 _ _ _)
    ·rw[Y0e _ _ hb]
     exact h n y hy
def MarksOK (m:Mem)(e:List (Nat × Box)): Prop:=∃ T r,e=markE m T++r∧∀ p∈r,p.2.frz=false
theorem MarksOK.new {m:Mem}{e:List (Nat × Box)}(h:∀ p∈e,p.2.frz=false): MarksOK m e:=⟨[],e,rfl,h⟩
theorem MarksOK.effM {m:Mem}{e:List (Nat × Box)}(h:MarksOK m e): effM m e=effM m (unmark m e):=by
 obtain⟨T,r,rfl,h⟩:=h
 rw[Y1R,Y1x h,Y0b,Y0b,Y0l T fun n x hx=>.inl hx]
theorem OpR.marks {P:Program}{d:Nat}{ρ:Operand→LV}{m:Mem}{op:Op}{v:LV}{eff:List (Nat × Box)}{R:List Nat}(h:OpR P d ρ m op v eff R): MarksOK m eff:=by
 cases h <;> first | (refine MarksOK.new ?_;simp;done) | (refine MarksOK.new ?_;simp;assumption) | (refine⟨_,_,rfl,?_⟩;simp;done) | (refine⟨_,_,rfl,?_⟩;simp;assumption)
theorem OpR.names {P:Program}{d:Nat}{ρ:Operand→LV}{m:Mem}{op:Op}{v:LV}{eff:List (Nat × Box)}{R:List Nat}(h:OpR P d ρ m op v eff R): ∀ n∈Wn eff,n∈R:=by
 have key:∀ {T:List Nat}{b:Nat}{x:Box},∀ n∈Wn (markE m T++[(b,x)]),n∈b::T:=by
  intro T b x n hn
  obtain⟨p,hp,rfl⟩:=Ye8.1 hn
  rcases Yei.1 hp with hp | hp
  ·exact YdV _ (Y1f _ (Ye8.2 ⟨p,hp,rfl⟩))
  ·simp at hp
   simp[hp]
 cases h <;> first | exact key | simp[Wn]
theorem Y0A (a b:List (Nat × Box)): Wn (a++b)=Wn a++Wn b:=Yfc ..
theorem YaP {m m':Mem}{n:Nat}{l:LV}(h:∀ k∈Wn (impC0 m n l).2.1,m k=m' k): impC0 m' n l=impC0 m n l:=by
 cases l <;> first | rfl | (have:=h n (by simp[impC0,Wn]);simp[impC0,genAt,this])
theorem Y58 {m m':Mem}: ∀ {ls:List LV}{n:Nat},(∀ k∈Wn (impCs0 m n ls).2.1,m k=m' k)→impCs0 m' n ls=impCs0 m n ls
 | [],n,_=>rfl
 | l::ls,n,h=>by
  have h1:=YaP (m:=m) (m':=m') (n:=n) (l:=l) fun k hk=>h k (by rw[impCs0,Y0A];exact Yee _ hk)
  have h2:=Y58 (m:=m) (m':=m') (ls:=ls) (n:=(impC0 m n l).2.2) fun k hk=>h k (by rw[impCs0,Y0A];exact Yeg _ hk)
  simp only[impCs0,h1,h2]
theorem Y8y {m m':Mem}{n:Nat}{l:LV}(h:∀ k∈Wn (impC m n l).2.1,m k=m' k): impC m' n l=impC m n l:=by
 cases l <;> try (first | rfl | (have:=h n (by simp[impC,Wn]);simp[impC,genAt,this];done))
 case ptro cs =>
  have h1:=Y58 (m:=m) (m':=m') (ls:=cs) (n:=n+1) fun k hk=>h k (by rw[impC,Y0A];exact Yee _ hk)
  have h2:=h n (by rw[impC,Y0A];exact Yeg _ (by simp[Wn]))
  simp only[impC,h1,genAt,h2]
theorem Y4A {m m':Mem}: ∀ {ls:List LV}{n:Nat},(∀ k∈Wn (impCs m n ls).2.1,m k=m' k)→impCs m' n ls=impCs m n ls
 | [],n,_=>rfl
 | l::ls,n,h=>by
  have h1:=Y8y (m:=m) (m':=m') (n:=n) (l:=l) fun k hk=>h k (by rw[impCs,Y0A];exact Yee _ hk)
  have h2:=Y4A (m:=m) (m':=m') (ls:=ls) (n:=(impC m n l).2.2) fun k hk=>h k (by rw[impCs,Y0A];exact Yeg _ hk)
  simp only[impCs,h1,h2]
theorem Y7Y {m m':Mem}{n:Nat}{l:LV}(h:∀ k∈Wn (impV m n l).2.1,m k=m' k): impV m' n l=impV m n l:=by
 cases l <;> try exact Y8y h
 case agg cs=>simp only[impV,Y4A (m:=m) (m':=m') (ls:=cs) (n:=n) h]
theorem Y6A {m m':Mem}: ∀ {ls:List LV}{n:Nat},(∀ k∈Wn (impVs m n ls).2.1,m k=m' k)→impVs m' n ls=impVs m n ls
 | [],n,_=>rfl
 | l::ls,n,h=>by
  have h1:=Y7Y (m:=m) (m':=m') (n:=n) (l:=l) fun k hk=>h k (by rw[impVs,Y0A];exact Yee _ hk)
  have h2:=Y6A (m:=m) (m':=m') (ls:=ls) (n:=(impV m n l).2.2) fun k hk=>h k (by rw[impVs,Y0A];exact Yeg _ hk)
  simp only[impVs,h1,h2]
theorem Y83 {m m':Mem}{n:Nat}{l:LV}(h:∀ k∈Wn (impT m n l).2,m k=m' k): impT m' n l=impT m n l:=by
 cases l <;> try (have:=Y7Y (m:=m) (m':=m') h;simp only[impT,this];done)
 case tup vs =>
  have:=Y6A (m:=m) (m':=m') (ls:=vs) (n:=n) h
  simp only[impT,this]
 case ptro cs =>
  have h1:=Y4A (m:=m) (m':=m') (ls:=cs) (n:=n+1) fun k hk=>h k (by rw[impT,Y0A];exact Yee _ hk)
  have h2:=h n (by rw[impT,Y0A];exact Yeg _ (by simp[Wn]))
  simp only[impT,h1,genAt,h2]
structure D where
 v:LV
 eff:List (Nat × Box)
 R:List Nat
inductive DOp (P:Program) (nb:Nat) (o:Oper) (st:St):D→Prop
 | op {v:LV}{eff:List (Nat × Box)}{R:List Nat}(h:OpR P (nameO nb o) (evalO st.ts) st.m o.op v eff R):DOp P nb o st ⟨v,unmark st.m eff,R⟩
 | call {g:Operand}{as:Array Operand}{ts:Array TypeId}{f:FuncId}{caps args:List LV}{T:List Nat}{res:LV}(ho:o.op=.call { callee:=.value g,args:=as,argTypes:=ts }) (hg:evalO st.ts g=.fn f caps)
   (hf:Frz st.m (.agg (as.toList.map (evalO st.ts)++caps)) (.agg args) T) (hc:CallsV P f args res) (ht:topI res=true) :
   DOp P nb o st ⟨(impT (effM st.m (markE st.m T)) (nameO nb o) res).1,unmark st.m (markE st.m T)++(impT (effM st.m (markE st.m T)) (nameO nb o) res).2,T++Wn (impT (effM st.m (markE st.m T)) (nameO nb o) res).2⟩
 | callF {g:Operand}{as:Array Operand}{ts:Array TypeId}{f:FuncId}{caps args:List LV}{T:List Nat}{res:LV}(ho:o.op=.call { callee:=.value g,args:=as,argTypes:=ts }) (hg:evalO st.ts g=.fn f caps)
   (hf:Frz st.m (.agg (as.toList.map (evalO st.ts)++caps)) (.agg args) T) (hc:CallsV P f args res) (hl:FlatI res) (ht:topI res=true) :
   DOp P nb o st ⟨(impT st.m (nameO nb o) res).1,(impT st.m (nameO nb o) res).2,T++Wn (impT st.m (nameO nb o) res).2⟩
theorem DOp.names {P:Program}{nb:Nat}{o:Oper}{st:St}{d:D}(h:DOp P nb o st d): ∀ n∈Wn d.eff,n∈d.R:=by
 cases h with
 | op h=>exact fun n hn=>h.names n (Y3y n hn)
 | call ho hg hf hc ht =>
  intro n hn
  rw[Y0A] at hn
  rcases Yei.1 hn with hn | hn
  ·exact Yee _ (Y1f n (Y3y n hn))
  ·exact Yeg _ hn
 | callF ho hg hf hc hl ht=>exact fun n hn=>Yeg _ hn
theorem DOp.wp {P:Program}{I:InlP}{nb:Nat}{o:Oper}{st:St}{d:D}(h:DOp P nb o st d): WpOp P I nb o st fun v m=>v=d.v∧m=effM st.m d.eff:=by
 cases h with
 | op h=>exact .op h ⟨rfl,h.marks.effM⟩
 | call ho hg hf hc ht =>
  refine .call ho hg hf hc fun r hr=>?_
  subst hr
  refine⟨ht,rfl,?_⟩
  show _=effM st.m (_++_)
  rw[Y0b,Y0l _ fun n x hx=>.inl hx]
 | callF ho hg hf hc hl ht =>
  refine .callF ho hg hf hc fun r hr=>?_
  subst hr
  exact⟨hl,ht,rfl,rfl⟩
theorem DOp.loc {P:Program}{nb:Nat}{o:Oper}{st st':St}{d:D}(h:DOp P nb o st d)(hs:∀ x∈o.op.operands,evalO st.ts x=evalO st'.ts x)(hm:∀ n∈d.R,st.m n=st'.m n): DOp P nb o st' d:=by
 cases h with
 | op h =>
  rw[Y3C fun n hn=>hm n (h.names n hn)]
  exact .op (h.loc hs hm)
 | @call g as ts f caps args T res ho hg hf hc ht =>
  have hg':evalO st'.ts g=.fn f caps:=by rw[← hs g (by rw[ho];simp[Op.operands,Call.operands])];exact hg
  have ha:as.toList.map (evalO st.ts)=as.toList.map (evalO st'.ts):=Yf6 fun x hx=>hs x (by rw[ho];simp[Op.operands,Call.operands];exact .inr (by simpa using hx))
  have hT:∀ n∈T,st.m n=st'.m n:=fun n hn=>hm n (Yee _ hn)
  have hmk:=Y0K hT
  have himp:impT (effM st'.m (markE st'.m T)) (nameO nb o) res=impT (effM st.m (markE st.m T)) (nameO nb o) res:=by
   rw[← hmk]
   exact Y83 fun k hk=>Y5G _ (hm k (Yeg _ hk))
  rw[ha] at hf
  have:=DOp.call (nb:=nb) ho hg' (hf.loc hT) hc ht
  rw[himp,← hmk,← Y3C fun n hn=>hT n (Y1f n hn)] at this
  exact this
 | @callF g as ts f caps args T res ho hg hf hc hl ht =>
  have hg':evalO st'.ts g=.fn f caps:=by rw[← hs g (by rw[ho];simp[Op.operands,Call.operands])];exact hg
  have ha:as.toList.map (evalO st.ts)=as.toList.map (evalO st'.ts):=Yf6 fun x hx=>hs x (by rw[ho];simp[Op.operands,Call.operands];exact .inr (by simpa using hx))
  have hT:∀ n∈T,st.m n=st'.m n:=fun n hn=>hm n (Yee _ hn)
  have himp:impT st'.m (nameO nb o) res=impT st.m (nameO nb o) res:=Y83 fun k hk=>hm k (Yeg _ hk)
  rw[ha] at hf
  have:=DOp.callF (nb:=nb) ho hg' (hf.loc hT) hc hl ht
  rw[himp] at this
  exact this
def Step (P:Program)(nb:Nat)(ops:Array Oper)(o:Oper)(st:St)(d:D): Prop :=
 (wantedL ops o st.ts=some true∧DOp P nb o st d)∨(wantedL ops o st.ts=some false∧d=⟨.skip,[],[]⟩)
def nextS (o:Oper)(st:St)(d:D): St:=⟨putS st.ts o.dst d.v,effM st.m d.eff⟩
theorem Y7E {f g:Slots}{x:Operand}(h:∀ t,x=.tmp t→f t=g t): evalO f x=evalO g x:=by
 cases x <;> first | rfl | exact h _ rfl
theorem Y8C {ops:Array Oper}{o:Oper}{f g:Slots}(h:∀ t∈o.looksAt ops,f t=g t): ∀ x∈o.op.operands,evalO f x=evalO g x:=fun x hx =>
 Y7E fun t ht=>h t (Yee _ (List.mem_filterMap.2 ⟨x,by simpa using hx,by rw[ht]⟩))
theorem Y3E {ops:Array Oper}{o:Oper}{f g:Slots}(h:∀ t∈o.looksAt ops,f t=g t): wantedL ops o f=wantedL ops o g:=by
 unfold wantedL
 cases hg:o.guard with
 | none=>rfl
 | some jw =>
  obtain⟨j,want⟩:=jw
  simp only
  cases hd:(ops[j]?).bind (·.dst) with
  | none=>rfl
  | some t =>
   simp only
   rw[h t (Yeg _ (by simp[hg,hd]))]
theorem Step.loc {P:Program}{nb:Nat}{ops:Array Oper}{o:Oper}{st st':St}{d:D}(h:Step P nb ops o st d)(hs:∀ t∈o.looksAt ops,st.ts t=st'.ts t)(hm:∀ n∈d.R,st.m n=st'.m n): Step P nb ops o st' d:=by
 rcases h with ⟨h1,h2⟩ | ⟨h1,h2⟩
 ·exact .inl ⟨(Y3E hs) ▸ h1,h2.loc (Y8C hs) hm⟩
 ·exact .inr ⟨(Y3E hs) ▸ h1,h2⟩
theorem Step.names {P:Program}{nb:Nat}{ops:Array Oper}{o:Oper}{st:St}{d:D}(h:Step P nb ops o st d): ∀ n∈Wn d.eff,n∈d.R:=by
 rcases h with ⟨h1,h2⟩ | ⟨h1,h2⟩
 ·exact h2.names
 ·subst h2
  intro n hn
  cases hn
def freeB (ops:Array Oper)(o o':Oper)(W R W' R':List Nat): Bool:=o.apart ops o' && W.all (fun n=>!R'.contains n) && W'.all (fun n=>!R.contains n)
theorem Y0Y {f:Slots}{d:Option Nat}{v:LV}{t:Nat}(h:d≠some t): putS f d v t=f t:=by
 cases d with
 | none=>rfl
 | some i=>exact Y3u _ _ fun e=>h (by rw[e])
theorem swap {P:Program}{nb:Nat}{ops:Array Oper}{o o':Oper}{st:St}{d d':D}(h:Step P nb ops o st d)(h':Step P nb ops o' (nextS o st d) d')(hf:freeB ops o o' (Wn d.eff) d.R (Wn d'.eff) d'.R=true):
  Step P nb ops o' st d'∧Step P nb ops o (nextS o' st d') d∧nextS o (nextS o' st d') d=nextS o' (nextS o st d) d':=by
 simp only[freeB,Ye0,Yed,YfP,List.contains_eq_mem,decide_eq_false_iff_not] at hf
 obtain⟨⟨ha,hw⟩,hw'⟩:=hf
 obtain⟨a1,a2,a3⟩:=Oper.apart_spec ha
 refine⟨h'.loc (fun t ht=>Y0Y fun e=>a1 t e ht) fun n hn=>Y2g _ fun hn'=>hw n hn' hn,h.loc (fun t ht=>(Y0Y fun e=>a3 t e ht).symm) fun n hn=>(Y2g _ fun hn'=>hw' n hn' hn).symm,?_⟩
 unfold nextS
 congr 1
 ·funext t
  by_cases h1:o.dst=some t
  ·have h2:o'.dst≠some t:=a2 t h1
   rw[Y0Y h2,h1]
   show updS _ t _ t=updS _ t _ t
   rw[Y0N,Y0N]
  ·rw[Y0Y h1]
   by_cases h2:o'.dst=some t
   ·rw[h2]
    show updS _ t _ t=updS _ t _ t
    rw[Y0N,Y0N]
   ·show putS st.ts o'.dst d'.v t=putS (putS st.ts o.dst d.v) o'.dst d'.v t
    rw[Y0Y h2,Y0Y h2,Y0Y h1]
 ·funext n
  show effM (effM st.m d'.eff) d.eff n=effM (effM st.m d.eff) d'.eff n
  by_cases h1:n∈Wn d.eff
  ·rw[YaF _ h1 (g:=st.m),Y2g d'.eff fun h2=>hw' n h2 (h.names n h1)]
  ·rw[Y2g d.eff h1]
   exact (Y5G _ (Y2g d.eff h1)).symm
def Run (P:Program)(nb:Nat)(ops:Array Oper): List (Nat × D)→St→St→Prop
 | [],st,st'=>st=st'
 | (i,d)::r,st,st'=>∃ o,ops[i]?=some o∧Step P nb ops o st d∧Run P nb ops r (nextS o st d) st'
def FreeP (ops:Array Oper)(x y:Nat × D): Prop:=∀ o o',ops[x.1]?=some o→ops[y.1]?=some o'→freeB ops o o' (Wn x.2.eff) x.2.R (Wn y.2.eff) y.2.R=true
theorem Run.pull {P:Program}{nb:Nat}{ops:Array Oper}{x:Nat × D}{l2:List (Nat × D)}{st':St}: ∀ {l1:List (Nat × D)}{st:St},Run P nb ops (l1++x::l2) st st'→(∀ y∈l1,FreeP ops y x)→Run P nb ops (x::(l1++l2)) st st'
 | [],_,h,_=>h
 | (i,d)::r,st,h,hf=>by
  obtain⟨o,ho,hs,hr⟩:=h
  obtain⟨o',ho',hs',hr'⟩:=Run.pull (l1:=r) hr fun y hy=>hf y (YdV _ hy)
  obtain⟨s1,s2,s3⟩:=swap hs hs' (hf (i,d) (Yev ..) o o' ho ho')
  exact⟨o',ho',s1,o,ho,s2,by rw[s3];exact hr'⟩
def BB (ops:Array Oper)(j:Nat): Nat:=(Region.before ops).getD j 0
def edgesOK (ops:Array Oper)(B:Nat→Nat): Bool :=
 (List.range ops.size).all fun j =>
  match ops[j]? with
  | none=>true
  | some o=>(o.after.toList.all fun e=>!Region.binds .any e || decide (e.on<j)) &&
   (List.range ops.size).all fun k=>!(B j).testBit k || o.after.toList.any fun e=>Region.binds .any e && (Nat.beq e.on k || (B e.on).testBit k)
def pairsOK (ops:Array Oper)(B:Nat→Nat)(l:List (Nat × List Nat × List Nat)): Bool :=
  l.all fun y=>l.all fun x=>!decide (x.1<y.1) || ((B y.1).testBit x.1 ||
    (match ops[x.1]?,ops[y.1]? with
     | some o,some o'=>freeB ops o o' x.2.1 x.2.2 y.2.1 y.2.2
     | _,_=>true))
def DOps (P:Program)(nb:Nat)(ops:Array Oper)(Q:St→Prop): List Nat→List (Nat × List Nat × List Nat)→St→Prop
 | [],acc,st=>(edgesOK ops (BB ops) && pairsOK ops (BB ops) acc)=true∧Q st
 | i::r,acc,st =>
  match ops[i]? with
  | none=>False
  | some o =>
   match wantedL ops o st.ts with
   | some true=>∃ d,DOp P nb o st d∧DOps P nb ops Q r ((i,Wn d.eff,d.R)::acc) ⟨putS st.ts o.dst d.v,effM st.m d.eff⟩
   | some false=>DOps P nb ops Q r ((i,[],[])::acc) ⟨putS st.ts o.dst .skip,st.m⟩
   | none=>False
def projD (x:Nat × D): Nat × List Nat × List Nat:=(x.1,Wn x.2.eff,x.2.R)
theorem DOps.trace {P:Program}{nb:Nat}{ops:Array Oper}{Q:St→Prop}: ∀ {l:List Nat}{acc:List (Nat × List Nat × List Nat)}{st:St},DOps P nb ops Q l acc st →
  ∃ rem st',Run P nb ops rem st st'∧rem.map (·.1)=l∧Q st'∧edgesOK ops (BB ops)=true∧∃ acc',pairsOK ops (BB ops) acc'=true∧∀ x,x∈rem.map projD∨x∈acc→x∈acc'
 | [],acc,st,h=>by
  obtain⟨h1,h2⟩:=h
  rw[Ye0] at h1
  exact⟨[],st,rfl,rfl,h2,h1.1,acc,h1.2,fun x hx=>hx.resolve_left (by simp)⟩
 | i::r,acc,st,h=>by
  simp only[DOps] at h
  cases ho:ops[i]? with
  | none=>rw[ho] at h;exact h.elim
  | some o =>
   rw[ho] at h
   simp only at h
   cases hw:wantedL ops o st.ts with
   | none=>rw[hw] at h;exact h.elim
   | some b =>
    rw[hw] at h
    cases b with
    | true =>
     obtain⟨d,hd,h⟩:=h
     obtain⟨rem,st',h1,h2,h3,h4,acc',h5,h6⟩:=DOps.trace h
     refine⟨(i,d)::rem,st',⟨o,ho,.inl ⟨hw,hd⟩,h1⟩,by simp[h2],h3,h4,acc',h5,fun x hx=>?_⟩
     rcases hx with hx | hx
     ·rcases Yep.1 hx with hx | hx
      ·exact h6 x (.inr (by rw[hx];exact Yev ..))
      ·exact h6 x (.inl hx)
     ·exact h6 x (.inr (YdV _ hx))
    | false =>
     obtain⟨rem,st',h1,h2,h3,h4,acc',h5,h6⟩:=DOps.trace h
     refine⟨(i,⟨.skip,[],[]⟩)::rem,st',⟨o,ho,.inr ⟨hw,rfl⟩,h1⟩,by simp[h2],h3,h4,acc',h5,fun x hx=>?_⟩
     rcases hx with hx | hx
     ·rcases Yep.1 hx with hx | hx
      ·exact h6 x (.inr (by rw[hx];exact Yev ..))
      ·exact h6 x (.inl hx)
     ·exact h6 x (.inr (YdV _ hx))
theorem Y2e {ops:Array Oper}{B:Nat→Nat}(h:edgesOK ops B=true){j:Nat}{o:Oper}(ho:ops[j]?=some o){e:Edge}(he:e∈o.after)(hb:Region.binds .any e=true): e.on<j:=by
 unfold edgesOK at h
 rw[Yed] at h
 have hj:j<ops.size:=(Yeh.1 ho).1
 have:=h j (YeI.2 hj)
 rw[ho] at this
 simp only[Ye0,Yed] at this
 have h2:=this.1 e (by simpa using he)
 rw[hb] at h2
 simpa using h2
theorem Yax {ops:Array Oper}{B:Nat→Nat}(h:edgesOK ops B=true){j k:Nat}{o:Oper}(ho:ops[j]?=some o)(hk:k<ops.size)(hb:(B j).testBit k=true):
  ∃ e∈o.after,Region.binds .any e=true∧(e.on=k∨(B e.on).testBit k=true):=by
 unfold edgesOK at h
 rw[Yed] at h
 have hj:j<ops.size:=(Yeh.1 ho).1
 have:=h j (YeI.2 hj)
 rw[ho] at this
 simp only[Ye0,Yed] at this
 have h2:=this.2 k (YeI.2 hk)
 rw[hb] at h2
 simp only[Bool.not_true,Bool.false_or,YfS,Ye0,YfH] at h2
 obtain⟨e,he,h3,h4⟩:=h2
 exact⟨e,by simpa using he,h3,h4.imp (fun h=>YeP h) id⟩
theorem Y2a {ops:Array Oper}{B:Nat→Nat}(h:edgesOK ops B=true)(S:Nat→Prop)(hS:∀ j o,ops[j]?=some o→¬ S j→∀ e∈o.after,Region.binds .any e=true→¬ S e.on):
  ∀ (j:Nat) {o:Oper},ops[j]?=some o→(∀ e∈o.after,Region.binds .any e=true→¬ S e.on)→∀ {k:Nat},k<ops.size→(B j).testBit k=true→¬ S k:=by
 intro j
 induction j using Nat.strongRecOn with
 | _ j ih =>
  intro o ho he k hk hb
  obtain⟨e,h1,h2,h3⟩:=Yax h ho hk hb
  rcases h3 with h3 | h3
  ·rw[← h3]
   exact he e h1 h2
  ·have hlt:=Y2e h ho h1 h2
   have hj:j<ops.size:=(Yeh.1 ho).1
   have ho':ops[e.on]?=some (ops[e.on]'(by omega)):=YdL _
   exact ih e.on hlt ho' (hS e.on _ ho' (he e h1 h2)) hk h3
theorem Y55 {ops:Array Oper}{B:Nat→Nat}{acc:List (Nat × List Nat × List Nat)}(h:pairsOK ops B acc=true){x y:Nat × D}(hx:projD x∈acc)(hy:projD y∈acc)(hlt:x.1<y.1)(hb:(B y.1).testBit x.1=false): FreeP ops x y:=by
 unfold pairsOK at h
 rw[Yed] at h
 have h1:=h _ hy
 rw[Yed] at h1
 have h2:=h1 _ hx
 intro o o' ho ho'
 simp only[projD] at h2
 rw[ho,ho'] at h2
 simpa [hlt,hb] using h2
section
variable {P:Program}{X:Ctx}
theorem Step.sound {I:InlP}(hI:InlS P I){nb n:Nat}{ops:Array Oper}{o:Oper}{st:St}{d:D}{a:Act}{w:World}{F:Nat→Prop}{ρ:Locs}{i:Nat}{Q:Exit→Act→World→Prop}{K:Act→World→Prop}
  (hs:Step P nb ops o st d) (ho:ops[i]?=some o) (hdo:dstOK n o=true) (h:Inv X st a w F ρ) (hn:a.tmps.size=n)
  (hk:∀ a' w' F' ρ',Inv X (nextS o st d) a' w' F' ρ'→a'.tmps.size=n→K a' w'):wpOp P ops Q i K a w:=by
 have hdst:∀ i,o.dst=some i→i<a.tmps.size:=by
  intro i hi
  unfold dstOK at hdo
  rw[hi] at hdo
  rw[hn]
  exact of_decide_eq_true hdo
 have hsz:∀ v,(a.put o.dst v).tmps.size=n:=by
  intro v
  cases o.dst <;> simp[Act.put,hn]
 unfold wpOp
 simp only[ho]
 rcases hs with ⟨h1,h2⟩ | ⟨h1,h2⟩
 ·rw[Y1m h h1]
  simp only[if_true]
  refine .inl (WpOp.sound hI h2.wp h fun v m val w' F' ρ' hK hI' hv=>?_)
  obtain⟨rfl,rfl⟩:=hK
  exact hk _ _ F' ρ' (hI'.put hdst hv) (hsz _)
 ·subst h2
  rw[Y1m h h1]
  simp only[Yf4,if_false]
  exact hk _ _ F ρ (h.put hdst (.frz .skip)) (hsz _)
theorem Y4Z {I:InlP}(hI:InlS P I){nb n:Nat}{ops:Array Oper}(hd:∀ (i:Nat) o,ops[i]?=some o→dstOK n o=true){Q:Ex→St→Prop}{st':St}(hq:Q .normal st')
  (he:edgesOK ops (BB ops)=true) {acc:List (Nat × List Nat × List Nat)}(hp:pairsOK ops (BB ops) acc=true) :
  ∀ (fuel:Nat) {rem:List (Nat × D)}{st:St}{a:Act}{w:World}{F:Nat→Prop}{ρ:Locs}{listed:Array Bool},rem.length=fuel→Run P nb ops rem st st'→Inv X st a w F ρ→a.tmps.size=n →
   listed.size=ops.size→(∀ i:Nat,listed[i]?=some false↔i∈rem.map (·.1))→(rem.Pairwise fun x y=>x.1<y.1)→(∀ x∈rem,projD x∈acc) →
   (∀ j o,ops[j]?=some o→¬ j∈rem.map (·.1)→∀ e∈o.after,Region.binds .any e=true→¬ e.on∈rem.map (·.1)) →
   wpAny P .any ops (Post X n Q) fuel listed a w:=by
 intro fuel
 induction fuel with
 | zero =>
  intro rem st a w F ρ listed hl hr h hn hsz hrem hpw hacc hcl
  have:rem=[]:=Yeo hl
  subst this
  have hst:st=st':=hr
  subst hst
  refine⟨?_,.normal,st,F,ρ,rfl,hq,h,hn⟩
  cases hrd:Region.ready .any ops listed with
  | nil=>rfl
  | cons i r =>
   have hi:i∈Region.ready .any ops listed:=by rw[hrd];exact Yev ..
   obtain⟨h1,o,ho,-⟩:=mem_ready.1 hi
   have hlt:i<listed.size:=by rw[hsz];exact (Yeh.1 ho).1
   have:listed[i]?=some false:=by
    rw[Ye7,YdL hlt] at h1
    rw[YdL hlt]
    simpa using h1
   exact absurd ((hrem i).1 this) (by simp)
 | succ fuel ih =>
  intro rem st a w F ρ listed hl hr h hn hsz hrem hpw hacc hcl
  have hidx:∀ x∈rem,x.1<ops.size:=by
   intro x hx
   have:=(hrem x.1).2 (Ye8.2 ⟨x,hx,rfl⟩)
   rw[← hsz]
   exact (Yeh.1 this).1
  refine⟨fun hnil=>?_,fun i hi=>?_⟩
  ·exfalso
   cases hrm:rem with
   | nil=>rw[hrm] at hl;cases hl
   | cons x r =>
    subst hrm
    have hx:=hidx x (Yev ..)
    have hx2:=(hrem x.1).2 (by simp)
    have ho:ops[x.1]?=some (ops[x.1]'hx):=YdL _
    have:x.1∈Region.ready .any ops listed:=by
     refine mem_ready.2 ⟨by rw[Ye7,hx2];rfl,_,ho,fun e hee hb=>?_⟩
     have hlt:=Y2e he ho hee hb
     have hno:¬ e.on∈(x::r).map (·.1):=by
      intro hm
      obtain⟨y,hy,hye⟩:=Ye8.1 hm
      rcases Yep.1 hy with hy | hy
      ·subst hy;omega
      ·have:=(Yfo.1 hpw).1 y hy
       omega
     have hlt2:e.on<listed.size:=by omega
     rw[Ye7,YdL hlt2]
     simp only[YeA]
     cases hbb:listed[e.on]'hlt2 with
     | true=>rfl
     | false=>exact absurd ((hrem e.on).1 (by rw[YdL hlt2,hbb])) hno
    rw[hnil] at this
    cases this
  ·obtain⟨h1,o,ho,hdep⟩:=mem_ready.1 hi
   have hlt:i<ops.size:=(Yeh.1 ho).1
   have hlt2:i<listed.size:=by omega
   have hif:listed[i]?=some false:=by
    rw[Ye7,YdL hlt2] at h1
    rw[YdL hlt2]
    simpa using h1
   obtain⟨x,hx,hxi⟩:=Ye8.1 ((hrem i).1 hif)
   subst hxi
   obtain⟨l1,l2,hsp⟩:=List.append_of_mem hx
   subst hsp
   have hdep':∀ e∈o.after,Region.binds .any e=true→¬ e.on∈(l1++x::l2).map (·.1):=by
    intro e hee hb hm
    have h2:=(hrem e.on).2 hm
    have h3:=hdep e hee hb
    rw[Ye7,h2] at h3
    cases h3
   have hpw2:=YfA.1 hpw
   have hfree:∀ y∈l1,FreeP ops y x:=by
    intro y hy
    have hym:y∈l1++x::l2:=Yee _ hy
    refine Y55 hp (hacc y hym) (hacc x hx) (hpw2.2.2 y hy x (Yev ..)) ?_
    cases hb:(BB ops x.1).testBit y.1 with
    | false=>rfl
    | true=>exact absurd (Ye8.2 ⟨y,hym,rfl⟩) (Y2a he (fun k=>k∈(l1++x::l2).map (·.1)) hcl x.1 ho hdep' (hidx y hym) hb)
   obtain⟨o',ho',hst,hrun⟩:=Run.pull hr hfree
   rw[ho] at ho'
   injection ho' with ho'
   subst ho'
   have hx1:∀ y∈l1++l2,y.1≠x.1:=by
    intro y hy
    rcases Yei.1 hy with hy | hy
    ·have:=hpw2.2.2 y hy x (Yev ..)
     omega
    ·have:=(Yfo.1 hpw2.2.1).1 y hy
     omega
   have hmem:∀ k,k∈(l1++x::l2).map (·.1)↔k=x.1∨k∈(l1++l2).map (·.1):=by
    intro k
    simp only[Yfc,Yey,Yei,Yep]
    constructor
    ·rintro (h | h | h)
     ·exact .inr (.inl h)
     ·exact .inl h
     ·exact .inr (.inr h)
    ·rintro (h | h | h)
     ·exact .inr (.inl h)
     ·exact .inl h
     ·exact .inr (.inr h)
   refine Step.sound hI hst ho (hd _ _ ho) h hn fun a' w' F' ρ' hI' hn'=>?_
   refine ih (rem:=l1++l2) (by simp at hl ⊢;omega) hrun hI' hn' (by simp[hsz]) (fun k=>?_) ?_ (fun y hy=>hacc y ?_) (fun j oj hoj hj e hee hb hm=>?_)
   ·by_cases hk:x.1=k
    ·subst hk
     rw[Yes hlt2]
     refine⟨fun h=>(by cases h),fun hm=>?_⟩
     obtain⟨y,hy,hye⟩:=Ye8.1 hm
     exact absurd hye (hx1 y hy)
    ·rw[Yeu hk,hrem k,hmem k]
     exact⟨fun h=>h.resolve_left (Ne.symm hk),.inr⟩
   ·exact YfA.2 ⟨hpw2.1,(Yfo.1 hpw2.2.1).2,fun y hy z hz=>hpw2.2.2 y hy z (YdV _ hz)⟩
   ·rcases Yei.1 hy with hy | hy
    ·exact Yee _ hy
    ·exact Yeg _ (YdV _ hy)
   ·by_cases hjx:j=x.1
    ·subst hjx
     rw[ho] at hoj
     injection hoj with hoj
     subst hoj
     exact hdep' e hee hb ((hmem _).2 (.inr hm))
    ·exact hcl j oj hoj (fun hm'=>(hmem j).1 hm' |>.elim hjx hj) e hee hb ((hmem _).2 (.inr hm))
theorem DOps.any {I:InlP}(hI:InlS P I){nb n:Nat}{ops:Array Oper}(hd:∀ (i:Nat) o,ops[i]?=some o→dstOK n o=true){Q:Ex→St→Prop}{st:St}{a:Act}{w:World}{F:Nat→Prop}{ρ:Locs}
  (hw:DOps P nb ops (Q .normal) (List.range ops.size) [] st) (h:Inv X st a w F ρ) (hn:a.tmps.size=n):wpAny P .any ops (Post X n Q) ops.size (Array.replicate ops.size false) a { w with drawn:=w.drawn+1 }:=by
 obtain⟨rem,st',h1,h2,h3,h4,acc,h5,h6⟩:=DOps.trace hw
 refine Y4Z hI hd h3 h4 h5 ops.size ?_ h1 (h.heap rfl rfl rfl rfl) hn (by simp) (fun i=>?_) ?_ (fun x hx=>h6 _ (.inl (Ye8.2 ⟨x,hx,rfl⟩))) (fun j o ho hj=>?_)
 ·have:=congrArg List.length h2
  simpa using this
 ·rw[h2,YeI]
  constructor
  ·intro hi
   have:=(Yeh.1 hi).1
   simpa using this
  ·intro hi
   rw[YdL (by simpa using hi)]
   simp
 ·have:(rem.map (·.1)).Pairwise (·<·):=by rw[h2];exact List.pairwise_lt_range
  exact List.pairwise_map.1 this
 ·exact absurd (by rw[h2,YeI];exact (Yeh.1 ho).1) hj
theorem DOps.sound {I:InlP}(hI:InlS P I)(hmix:P.follows .mixedOrders=true){nb n id:Nat}{ops:Array Oper}(hd:∀ (i:Nat) o,ops[i]?=some o→dstOK n o=true){Q:Ex→St→Prop}{st:St}{a:Act}{w:World}{F:Nat→Prop}{ρ:Locs}
  (hw:DOps P nb ops (Q .normal) (List.range ops.size) [] st) (h:Inv X st a w F ρ) (hn:a.tmps.size=n):(Code.region id ops true).wp P (Post X n Q) a w:=wp_region_any hmix (DOps.any hI hd hw h hn)
end
structure Like (o o':Oper):Prop where
 op:o'.op=o.op
 dst:o'.dst=o.dst
 ty:o'.type=o.type
 pos:o'.pos=o.pos
 g:o.guard=none
 g':o'.guard=none
theorem Like.exec {o o':Oper}(h:Like o o')(ρ:Operand→Value): execOp ρ o'=execOp ρ o:=by
 obtain⟨d,p,t,s,a,g⟩:=o
 obtain⟨d',p',t',s',a',g'⟩:=o'
 obtain⟨h1,h2,h3,h4,h5,h6⟩:=h
 simp only at h1 h2 h3 h4 h5 h6
 subst h1 h2 h3 h4 h5 h6
 rfl
theorem Like.wp {P:Program}{o o':Oper}(h:Like o o'){a:Act}{w:World}{K:Act→World→Prop}{Q:Exit→Act→World→Prop}(hw:o'.wp P a w K Q∨(o'.asks P a w∧LetsOut Q)): o.wp P a w K Q∨(o.asks P a w∧LetsOut Q):=by
 have he:=h.exec a.eval
 have hd:=h.dst
 unfold Oper.wp Oper.asks at hw ⊢
 rw[he] at hw
 refine hw.imp (fun h1=>?_) id
 generalize (execOp a.eval o).run P w=r at h1 ⊢
 unfold Oper.upon at h1 ⊢
 rw[hd] at h1
 exact h1
theorem Like.wpOp {P:Program}{ops ops':Array Oper}{i i':Nat}{o o':Oper}(ho:ops[i]?=some o)(ho':ops'[i']?=some o')(h:Like o o'){a:Act}{w:World}{K:Act→World→Prop}{Q:Exit→Act→World→Prop}(hw:wpOp P ops' Q i' K a w): wpOp P ops Q i K a w:=by
 unfold Go.wpOp at hw ⊢
 simp only[ho,ho'] at hw ⊢
 have e1:Region.wanted o (yielded ops a.tmps)=true:=by unfold Region.wanted;rw[h.g]
 have e2:Region.wanted o' (yielded ops' a.tmps)=true:=by unfold Region.wanted;rw[h.g']
 rw[e1,if_pos rfl]
 rw[e2,if_pos rfl] at hw
 exact h.wp hw
structure AltE (ops ops':Array Oper) (τ:Nat→Nat) (E:List (Nat × Nat)):Prop where
 inj:∀ a b,a<ops.size→b<ops.size→τ a=τ b→a=b
 surj:∀ k',k'<ops'.size→∃ k,k<ops.size∧τ k=k'
 size:ops'.size=ops.size
 like:∀ k o,ops[k]?=some o→∃ o',ops'[τ k]?=some o'∧Like o o' ∧
  (∀ e'∈o'.after,Region.binds .any e'=true→(∃ e∈o.after,Region.binds .any e=true∧e'.on=τ e.on)∨(∃ q∈E,k=q.2∧e'.on=τ q.1)) ∧
  (∀ e∈o.after,Region.binds .any e=true→e.on<ops.size∧∃ e'∈o'.after,Region.binds .any e'=true∧e'.on=τ e.on)
theorem AltE.go {P:Program}{ops ops':Array Oper}{τ:Nat→Nat}{E:List (Nat × Nat)}{Q:Exit→Act→World→Prop}(h:AltE ops ops' τ E)(hi:∀ q∈E,q.1<ops.size): ∀ (fuel t:Nat) (listed listed':Array Bool) (a:Act) (w:World),listed.size=ops.size→listed'.size=ops.size→(∀ k,k<ops.size→listed'[τ k]?=listed[k]?) →
  (∀ q∈E,∀ p s,Region.linearise.go .any ops fuel t listed []=p++q.2::s→q.1∈p∨listed[q.1]?=some true)→wpAny P .any ops' Q fuel listed' a w→wpOps P ops Q (Region.linearise.go .any ops fuel t listed []) a w:=by
 intro fuel
 have getD_of:∀ {l:Array Bool}{k:Nat}{b d:Bool},l[k]?=some b→l.getD k d=b:=fun h=>by rw[Ye7,h];rfl
 have hτ:∀ k,k<ops.size→τ k<ops.size:=fun k hk=>by
  obtain⟨o',ho',-⟩:=h.like k _ (YdL hk)
  rw[← h.size]
  exact (Yeh.1 ho').1
 induction fuel with
 | zero=>intro t listed listed' a w h1 h2 h3 h4 hw;simpa [Region.linearise.go,wpOps] using hw.2
 | succ fuel ih =>
  intro t listed listed' a w h1 h2 h3 h4 hw
  obtain⟨w0,w1⟩:=hw
  have hval:∀ k,k<ops.size→∃ b,listed[k]?=some b∧listed'[τ k]?=some b:=fun k hk=>by
   have:listed[k]?=some (listed[k]'(by omega)):=YdL _
   exact⟨_,this,by rw[h3 k hk,this]⟩
  simp only[Region.linearise.go] at h4 ⊢
  change wpOps P ops Q (match (Region.ready .any ops listed)[t % (Region.ready .any ops listed).length]? with
   | some i=>Region.linearise.go .any ops fuel (t / (Region.ready .any ops listed).length) (listed.setIfInBounds i true) [i]
   | none=>[].reverse) a w
  change ∀ q∈E,∀ p s,(match (Region.ready .any ops listed)[t % (Region.ready .any ops listed).length]? with
   | some i=>Region.linearise.go .any ops fuel (t / (Region.ready .any ops listed).length) (listed.setIfInBounds i true) [i]
   | none=>[].reverse)=p++q.2::s→_ at h4
  cases hx:(Region.ready .any ops listed)[t % (Region.ready .any ops listed).length]? with
  | none =>
   have hnil:Region.ready .any ops listed=[]:=by
    cases hr:Region.ready .any ops listed with
    | nil=>rfl
    | cons x xs =>
     rw[hr] at hx
     have hlt:t % (x::xs).length<(x::xs).length:=Nat.mod_lt _ (by simp)
     simp at hx
     simp at hlt
     omega
   have hnil':Region.ready .any ops' listed'=[]:=by
    cases hr:Region.ready .any ops' listed' with
    | nil=>rfl
    | cons x xs =>
     exfalso
     have hm:x∈Region.ready .any ops' listed':=by rw[hr];exact Yev ..
     obtain⟨m1,o',ho',m2⟩:=mem_ready.1 hm
     obtain⟨k,hk,rfl⟩:=h.surj x (Yeh.1 ho').1
     have ho:ops[k]?=some ops[k]:=YdL hk
     obtain⟨o2,ho2,-,-,e2⟩:=h.like k _ ho
     rw[ho'] at ho2
     injection ho2 with ho2
     subst ho2
     obtain⟨b,hb1,hb2⟩:=hval k hk
     rw[getD_of hb2] at m1
     subst m1
     have:k∈Region.ready .any ops listed:=by
      refine mem_ready.2 ⟨getD_of hb1,_,ho,fun e he hbd=>?_⟩
      obtain⟨hon,e',he',hbd',hon'⟩:=e2 e he hbd
      have:=m2 e' he' hbd'
      rw[hon'] at this
      obtain⟨c,hc1,hc2⟩:=hval e.on hon
      rw[getD_of hc2] at this
      rw[getD_of hc1,this]
     rw[hnil] at this
     cases this
   simpa [wpOps] using w0 hnil'
  | some x =>
   rw[hx] at h4
   simp only[] at h4 ⊢
   rw[linearise_go_acc,List.reverse_singleton,List.singleton_append] at h4 ⊢
   rw[wpOps_cons]
   have hm:=Yet hx
   obtain⟨m1,o,ho,m2⟩:=mem_ready.1 hm
   have hxl:x<ops.size:=(Yeh.1 ho).1
   obtain⟨o',ho',hlike,e1,e2⟩:=h.like x o ho
   obtain⟨b,hb1,hb2⟩:=hval x hxl
   rw[getD_of hb1] at m1
   subst m1
   have hrd:τ x∈Region.ready .any ops' listed':=by
    refine mem_ready.2 ⟨getD_of hb2,o',ho',fun e' he' hbd'=>?_⟩
    rcases e1 e' he' hbd' with ⟨e,he,hbd,hon⟩ | ⟨⟨i,j⟩,hq,hxj,hon⟩
    ·have hlt:=(e2 e he hbd).1
     obtain⟨c,hc1,hc2⟩:=hval e.on hlt
     have:=m2 e he hbd
     rw[getD_of hc1] at this
     rw[hon,getD_of hc2,this]
    ·simp only at hxj hon
     subst hxj
     rcases h4 _ hq [] _ rfl with h5 | h5
     ·cases h5
     ·obtain⟨c,hc1,hc2⟩:=hval i (hi _ hq)
      rw[hc1] at h5
      injection h5 with h5
      rw[hon,getD_of hc2,h5]
   refine wpOp_mono (fun a w hk=>?_) (Like.wpOp ho ho' hlike (w1 _ hrd))
   refine ih _ _ (listed'.setIfInBounds (τ x) true) a w (by simp[h1]) (by simp[h2]) (fun k hk=>?_) (fun q hq p s hps=>?_) hk
   ·by_cases e:x=k
    ·subst e
     rw[Yes (by have:=hτ x hxl;omega),Yes (by omega)]
    ·rw[Yeu (fun e'=>e (h.inj _ _ hxl hk e')),Yeu e]
     exact h3 k hk
   ·rcases h4 q hq (x::p) s (by rw[hps];rfl) with h5 | h5
    ·rcases Yep.1 h5 with h5 | h5
     ·subst h5
      exact .inr (Yes (by omega))
     ·exact .inl h5
    ·right
     by_cases e:x=q.1
     ·rw[← e]
      exact Yes (by omega)
     ·rw[Yeu e]
      exact h5
abbrev Alt (ops ops':Array Oper)(τ:Nat→Nat)(i j:Nat): Prop:=AltE ops ops' τ [(i,j)]
theorem Y4M {L:List Nat}{i j:Nat}(hij:i≠j): (∀ p s,L=p++j::s→i∈p)∨∀ p s,L=p++i::s→j∈p:=by
 induction L with
 | nil=>exact .inl fun p s e=>by cases p <;> cases e
 | cons x r ih =>
  by_cases hx:x=i
  ·subst hx
   left
   intro p s e
   cases p with
   | nil=>injection e with e;exact absurd e hij
   | cons y p=>injection e with e;rw[e];exact Yev ..
  ·by_cases hx2:x=j
   ·subst hx2
    right
    intro p s e
    cases p with
    | nil=>injection e with e;exact absurd e.symm hij
    | cons y p=>injection e with e;rw[e];exact Yev ..
   ·rcases ih with ih | ih
    ·left
     intro p s e
     cases p with
     | nil=>injection e with e;exact absurd e hx2
     | cons y p=>injection e with e1 e2;exact YdV _ (ih p s e2)
    ·right
     intro p s e
     cases p with
     | nil=>injection e with e;exact absurd e hx
     | cons y p=>injection e with e1 e2;exact YdV _ (ih p s e2)
theorem Y2S {P:Program}{id:Nat}{ops opsA opsB:Array Oper}{τA τB:Nat→Nat}{i j:Nat}{Q:Exit→Act→World→Prop}{a:Act}{w:World}(hm:P.follows .mixedOrders=true)(hA:Alt ops opsA τA i j)(hB:Alt ops opsB τB j i)(hij:i≠j)(hi:i<ops.size)(hj:j<ops.size)
  (h1:wpAny P .any opsA Q opsA.size (Array.replicate opsA.size false) a { w with drawn:=w.drawn+1 }) (h2:wpAny P .any opsB Q opsB.size (Array.replicate opsB.size false) a { w with drawn:=w.drawn+1 }):(Code.region id ops true).wp P Q a w :=
 wp_region_draw fun t=>by
  have hrep:∀ {τ:Nat→Nat}{ops':Array Oper}{i j:Nat},Alt ops ops' τ i j→∀ k,k<ops.size→(Array.replicate ops.size false)[τ k]?=(Array.replicate ops.size false)[k]?:=by
   intro τ ops' i j h k hk
   obtain⟨o',ho',-⟩:=h.like k _ (YdL hk)
   have:=(Yeh.1 ho').1
   rw[h.size] at this
   rw[YdL (by simpa using this),YdL (by simpa using hk)]
   simp
  simp only[Region.schedule,hm,Bool.true_or,if_true]
  rw[hA.size] at h1
  rw[hB.size] at h2
  rcases Y4M (L:=Region.linearise.go .any ops ops.size t (Array.replicate ops.size false) []) hij with hb | hb
  ·refine hA.go (fun q hq=>by rw[Yej.1 hq];exact hi) ops.size t _ _ a _ (by simp) (by simp) (hrep hA) (fun q hq p s e=>.inl ?_) h1
   obtain rfl:=Yej.1 hq
   exact hb p s e
  ·refine hB.go (fun q hq=>by rw[Yej.1 hq];exact hj) ops.size t _ _ a _ (by simp) (by simp) (hrep hB) (fun q hq p s e=>.inl ?_) h2
   obtain rfl:=Yej.1 hq
   exact hb p s e
def renum (τ:Nat→Nat)(x:List Edge)(o:Oper): Oper:={ dst:=o.dst,op:=o.op,type:=o.type,pos:=o.pos,after:=(x++o.after.toList.map fun e=>Edge.mk (τ e.on) e.ground).toArray,guard:=none }
def ordE (ops : Array Oper) (σ τ : Nat → Nat) (E : List (Nat × Nat)) : Array Oper := ((List.range ops.size).map fun k' => renum τ ((E.filter fun q => Nat.beq (σ k') q.2).map fun q => Edge.mk (τ q.1) .data) (ops.getD (σ k') ⟨none, .makeMap 0 none, 0, "", #[], none⟩)).toArray
def ordOK (ops:Array Oper)(σ τ:Nat→Nat): Bool:=((List.range ops.size).all fun k=>decide (τ k<ops.size) && (decide (σ k<ops.size) && (Nat.beq (σ (τ k)) k && Nat.beq (τ (σ k)) k))) && ops.toList.all fun o=>o.guard.isNone && o.after.toList.all fun e=>decide (e.on<ops.size)
theorem Y1M {ops:Array Oper}{σ τ:Nat→Nat}{E:List (Nat × Nat)}(h:ordOK ops σ τ=true): AltE ops (ordE ops σ τ E) τ E:=by
 unfold ordOK at h
 simp only[Ye0,Yed,YeI,decide_eq_true_eq] at h
 obtain⟨h1,h2⟩:=h
 have hs:(ordE ops σ τ E).size=ops.size:=by simp[ordE]
 refine⟨fun a b ha hb e=>?_,fun k' hk'=>?_,hs,fun k o ho=>?_⟩
 ·have e1:=YeP (h1 a ha).2.2.1
  have e2:=YeP (h1 b hb).2.2.1
  rw[← e1,← e2,e]
 ·rw[hs] at hk'
  exact⟨σ k',(h1 k' hk').2.1,YeP (h1 k' hk').2.2.2⟩
 ·have hk:k<ops.size:=(Yeh.1 ho).1
  have e1:=YeP (h1 k hk).2.2.1
  have hmem:o∈ops.toList:=by simpa using Array.mem_of_getElem? ho
  obtain⟨hg,he⟩:=h2 o hmem
  have hg:o.guard=none:=by simpa using hg
  refine⟨renum τ ((E.filter fun q=>Nat.beq k q.2).map fun q=>Edge.mk (τ q.1) .data) o,?_,⟨rfl,rfl,rfl,rfl,hg,rfl⟩,fun e' he' hb=>?_,fun e hee hb=>⟨he e (by simpa using hee),?_⟩⟩
  ·unfold ordE
   rw[Yfe,YeY,List.getElem?_range (h1 k hk).1]
   simp only[Yf1,e1,Ye7,ho,YeA]
  ·simp only[renum,List.mem_toArray,Yei,Ye8] at he'
   rcases he' with he' | ⟨e,he2,rfl⟩
   ·right
    obtain⟨q,hq,rfl⟩:=he'
    have hq:=YeL.1 hq
    exact⟨q,hq.1,YeP hq.2,rfl⟩
   ·exact .inl ⟨e,by simpa using he2,hb,rfl⟩
  ·refine⟨Edge.mk (τ e.on) e.ground,?_,hb,rfl⟩
   simp only[renum,List.mem_toArray,Yei,Ye8]
   exact .inr ⟨e,by simpa using hee,rfl⟩
abbrev ordT (ops:Array Oper)(σ τ:Nat→Nat)(i j:Nat): Array Oper:=ordE ops σ τ [(i,j)]
theorem Y42 {ops:Array Oper}{σ τ:Nat→Nat}{i j:Nat}(h:ordOK ops σ τ=true): Alt ops (ordT ops σ τ i j) τ i j:=Y1M h
def Weak (s s':St): Prop:=∀ X a w F ρ,Inv X s a w F ρ→∃ F' ρ',Inv X s' a w F' ρ'
theorem Weak.refl (s:St): Weak s s:=fun _ _ _ F ρ h=>⟨F,ρ,h⟩
theorem Weak.trans {s s' s'':St}(h:Weak s s')(h':Weak s' s''): Weak s s'':=fun X a w F ρ hi=>by
 obtain⟨F1,ρ1,h1⟩:=h X a w F ρ hi
 exact h' X a w F1 ρ1 h1
def Ygm := @Weak.trans
theorem Weak.mark (ts:Slots)(m:Mem)(T:List Nat): Weak ⟨ts,m⟩ ⟨ts,effM m (markE m T)⟩:=fun _ _ _ _ ρ h=>by
 obtain⟨F',-,-,h'⟩:=h.mark T
 exact⟨F',ρ,h'⟩
def LessS (f g:Slots): Prop:=∀ j,g j=f j∨g j=.undef
theorem LessS.nil (f:Slots): LessS f (fun _=>.undef):=fun _=>.inr rfl
def Yg0 := @LessS.nil
theorem LessS.upd {f g:Slots}(h:LessS f g){i:Nat}{v:LV}(hv:f i=v): LessS f (updS g i v):=fun j=>by
 by_cases hj:i=j
 ·subst hj
  rw[Y0N,hv]
  exact .inl rfl
 ·rw[Y3u _ _ hj]
  exact h j
def YfV := @LessS.upd
theorem LessS.weak {f g:Slots}(h:LessS f g)(m:Mem): Weak ⟨f,m⟩ ⟨g,m⟩:=fun X a w F ρ hi=>by
 refine⟨F,ρ,{ hi with slots:=fun j=>?_ }⟩
 rcases h j with h1 | h1
 ·show RelL w F ρ m _ (g j)
  rw[h1]
  exact hi.slots j
 ·show RelL w F ρ m _ (g j)
  rw[h1]
  exact .frz (.undef _)
def YfZ := @LessS.weak
def thenX (next:St→Prop)(Q:Ex→St→Prop): Ex→St→Prop
 | .normal,s=>next s
 | e,s=>Q e s
def blockX (id:Nat)(Q:Ex→St→Prop): Ex→St→Prop
 | .exit id',s =>
  match Nat.beq id' id with
  | true=>Q .normal s
  | false=>Q (.exit id') s
 | e,s=>Q e s
def DAlt (P:Program)(nb:Nat)(ops:Array Oper)(Q:St→Prop)(st:St): Prop :=
 ∃ opsA opsB τA τB i j,Alt ops opsA τA i j∧Alt ops opsB τB j i∧i≠j∧i<ops.size∧j<ops.size∧DOps P nb opsA Q (List.range opsA.size) [] st∧DOps P nb opsB Q (List.range opsB.size) [] st
theorem Alt.dst {ops ops':Array Oper}{τ:Nat→Nat}{i j n:Nat}(h:Alt ops ops' τ i j)(hd:∀ (i:Nat) o,ops[i]?=some o→dstOK n o=true): ∀ (i:Nat) o,ops'[i]?=some o→dstOK n o=true:=by
 intro k' o' ho'
 obtain⟨k,hk,rfl⟩:=h.surj k' (Yeh.1 ho').1
 obtain⟨o2,ho2,hl,-⟩:=h.like k _ (YdL hk)
 rw[ho'] at ho2
 injection ho2 with ho2
 subst ho2
 have:=hd k _ (YdL hk)
 unfold dstOK at this ⊢
 rw[hl.dst]
 exact this
theorem DAlt.sound {P:Program}{X:Ctx}{I:InlP}(hI:InlS P I)(hmix:P.follows .mixedOrders=true){nb n id:Nat}{ops:Array Oper}(hd:∀ (i:Nat) o,ops[i]?=some o→dstOK n o=true){Q:Ex→St→Prop}{st:St}{a:Act}{w:World}{F:Nat→Prop}{ρ:Locs}
  (hw:DAlt P nb ops (Q .normal) st) (h:Inv X st a w F ρ) (hn:a.tmps.size=n):(Code.region id ops true).wp P (Post X n Q) a w:=by
 obtain⟨opsA,opsB,τA,τB,i,j,hA,hB,hij,hi,hj,h1,h2⟩:=hw
 exact Y2S hmix hA hB hij hi hj (DOps.any hI (hA.dst hd) h1 h hn) (DOps.any hI (hB.dst hd) h2 h hn)
def NQ (Q:St→Prop): Ex→St→Prop
 | .normal,s=>Q s
 | _,_=>False
def DSem (P:Program)(I:InlP)(ops:Array Oper)(Q:St→Prop)(st:St): Prop :=
 ∀ (X:Ctx) (n id:Nat) (a:Act) (w:World) (F:Nat→Prop) (ρ:Locs),P.follows .mixedOrders=true→InlS P I→(∀ (i:Nat) o,ops[i]?=some o→dstOK n o=true)→Inv X st a w F ρ→a.tmps.size=n→(Code.region id ops true).wp P (Post X n (NQ Q)) a w
theorem Post.nq {X:Ctx}{n:Nat}{Q Q':Ex→St→Prop}{K:St→Prop}(h:∀ s,K s→Q .normal s){e:Exit}{a:Act}{w:World}(hp:Post X n (NQ K) e a w): Post X n Q e a w:=by
 obtain⟨ex,st,F,ρ,h1,h2,h3⟩:=hp
 cases ex with
 | normal=>exact⟨.normal,st,F,ρ,h1,h _ h2,h3⟩
 | exit id=>exact h2.elim
 | ret=>exact h2.elim
theorem DSem.mono {P:Program}{I:InlP}{ops:Array Oper}{Q Q':St→Prop}(h:∀ s,Q s→Q' s){st:St}(hs:DSem P I ops Q st): DSem P I ops Q' st:=fun X n id a w F ρ h1 h2 h3 h4 h5=>wp_mono (hs X n id a w F ρ h1 h2 h3 h4 h5) fun _ _ _ hp=>Post.nq (Q':=fun _ _=>True) h hp
theorem DAlt.sem {P:Program}{I:InlP}{nb:Nat}{ops:Array Oper}{Q:St→Prop}{st:St}(h:DAlt P nb ops Q st): DSem P I ops Q st:=fun X n id a w F ρ h1 h2 h3 h4 h5=>DAlt.sound (Q:=NQ Q) h2 h1 h3 h h4 h5
def Wp (P:Program)(I:InlP)(nb:Nat): Code→(Ex→St→Prop)→St→Prop
 | .skip,Q,st=>Q .normal st
 | .region _ ops d,Q,st =>
  match d with
  | false=>WpOps P I nb ops (Q .normal) (List.range ops.size) st
  | true=>∃ s,Weak st s∧(DOps P nb ops (Q .normal) (List.range ops.size) [] s∨DSem P I ops (Q .normal) s)
 | .seq x y,Q,st=>Wp P I nb x (thenX (fun s=>∃ s',Weak s s'∧Wp P I nb y Q s') Q) st
 | .cond c x y,Q,st=>∃ b,evalO st.ts c=.bool b∧(b=true→Wp P I nb x Q st)∧(b=false→Wp P I nb y Q st)
 | .block id c,Q,st=>Wp P I nb c (blockX id Q) st
 | .loop c,Q,st=>∀ X:St→Prop,(∀ s s',Weak s s'→X s'→X s)→(∀ s,Wp P I nb c (thenX X Q) s→X s)→X st
 | .exit id,Q,st=>Q (.exit id) st
 | .ret,Q,st=>Q .ret st
 | _,_,_=>False
def dstsOK (n:Nat): Code→Bool
 | .region _ ops _=>ops.toList.all (dstOK n)
 | .seq x y=>dstsOK n x && dstsOK n y
 | .cond _ x y=>dstsOK n x && dstsOK n y
 | .block _ c=>dstsOK n c
 | .loop c=>dstsOK n c
 | _=>true
theorem Y5E {n id:Nat}{ops:Array Oper}{d:Bool}(h:dstsOK n (.region id ops d)=true)(i:Nat)(o:Oper)(ho:ops[i]?=some o): dstOK n o=true:=by
 simp only[dstsOK,Yed] at h
 exact h o (by simpa using Array.mem_of_getElem? ho)
theorem Wp.sound {P:Program}{X:Ctx}{I:InlP}(hI:InlS P I)(hmix:P.follows .mixedOrders=true){nb n:Nat}: ∀ (c:Code),dstsOK n c=true→∀ {Q:Ex→St→Prop}{st:St}{a:Act}{w:World}{F:Nat→Prop}{ρ:Locs},
  Wp P I nb c Q st→Inv X st a w F ρ→a.tmps.size=n→c.wp P (Post X n Q) a w:=by
 intro c
 induction c with
 | skip=>intro _ Q st a w F ρ hw h hn;exact wp_skip ⟨.normal,st,F,ρ,rfl,hw,h,hn⟩
 | region id ops d =>
  intro hd Q st a w F ρ hw h hn
  cases d with
  | false=>exact wp_region (WpOps.sound hI (Y5E hd) _ hw h hn)
  | true =>
   obtain⟨s,hs,hw⟩:=hw
   obtain⟨F',ρ',h'⟩:=hs X a w F ρ h
   rcases hw with hw | hw
   ·exact DOps.sound hI hmix (Y5E hd) hw h' hn
   ·exact wp_mono (hw X n id a w F' ρ' hmix hI (Y5E hd) h' hn) fun _ _ _ hp=>Post.nq (Q':=fun _ _=>True) (fun _ h=>h) hp
 | seq x y ihx ihy =>
  intro hd Q st a w F ρ hw h hn
  simp only[dstsOK,Ye0] at hd
  refine wp_seq (wp_mono (ihx hd.1 hw h hn) fun e a w hp=>?_)
  obtain⟨ex,s,F1,ρ1,rfl,hq,hi,hn1⟩:=hp
  cases ex with
  | normal =>
   obtain⟨s',hs,hw'⟩:=hq
   obtain⟨F',ρ',h'⟩:=hs X a w F1 ρ1 hi
   exact ihy hd.2 hw' h' hn1
  | exit id=>exact⟨.exit id,s,F1,ρ1,rfl,hq,hi,hn1⟩
  | ret=>exact⟨.ret,s,F1,ρ1,rfl,hq,hi,hn1⟩
 | cond c x y ihx ihy =>
  intro hd Q st a w F ρ hw h hn
  simp only[dstsOK,Ye0] at hd
  obtain⟨b,hb,h1,h2⟩:=hw
  have hv:=h.eval c
  rw[hb] at hv
  refine wp_cond_split hv.bool (fun hb=>ihx hd.1 (h1 hb) h hn) fun hb=>ihy hd.2 (h2 hb) h hn
 | block id c ih =>
  intro hd Q st a w F ρ hw h hn
  refine wp_block (wp_mono (ih hd hw h hn) fun e a w hp=>?_)
  obtain⟨ex,s,F1,ρ1,rfl,hq,hi,hn1⟩:=hp
  cases ex with
  | normal=>exact⟨.normal,s,F1,ρ1,rfl,hq,hi,hn1⟩
  | exit id' =>
   simp only[blockX] at hq
   show if id'=id then _ else _
   by_cases hid:id'=id
   ·rw[if_pos hid]
    have:Nat.beq id' id=true:=by rw[hid];exact Yfx id
    rw[this] at hq
    exact⟨.normal,s,F1,ρ1,rfl,hq,hi,hn1⟩
   ·rw[if_neg hid]
    have:Nat.beq id' id=false:=by
     cases hb:Nat.beq id' id
     ·rfl
     ·exact absurd (YeP hb) hid
    rw[this] at hq
    exact⟨.exit id',s,F1,ρ1,rfl,hq,hi,hn1⟩
  | ret=>exact⟨.ret,s,F1,ρ1,rfl,hq,hi,hn1⟩
 | loop c ih =>
  intro hd Q st a w F ρ hw h hn
  intro b k cs
  have key:=hw (fun s=>∀ a w F ρ,Inv X s a w F ρ→a.tmps.size=n→∃ e a' w',Post X n Q e a' w'∧Arrives P (lone (b.at a (.code c::.inLoop c::k)) cs w) b k cs e a' w')
   (fun s s' hs hX a w F ρ hi hn=>by
    obtain⟨F',ρ',h'⟩:=hs X a w F ρ hi
    exact hX a w F' ρ' h' hn)
   (fun s hs a w F ρ hi hn=>by
    obtain⟨e,a1,w1,hq,harr⟩:=ih hd hs hi hn b (.inLoop c::k) cs
    obtain⟨ex,s1,F1,ρ1,rfl,hq,hi1,hn1⟩:=hq
    cases ex with
    | normal =>
     obtain⟨e2,a2,w2,hq2,harr2⟩:=hq a1 w1 F1 ρ1 hi1 hn1
     exact⟨e2,a2,w2,hq2,.of_steps (Steps.trans harr (.one step_inLoop)) harr2⟩
    | exit id=>exact⟨.exit id,a1,w1,⟨.exit id,s1,F1,ρ1,rfl,hq,hi1,hn1⟩,.pass (x:=.inLoop c) rfl (fun _ _=>.inl (by simp)) harr⟩
    | ret=>exact⟨.ret,a1,w1,⟨.ret,s1,F1,ρ1,rfl,hq,hi1,hn1⟩,.pass (x:=.inLoop c) rfl (fun _ _=>.inl (by simp)) harr⟩)
  obtain⟨e,a',w',hq,harr⟩:=key a w F ρ h hn
  exact⟨e,a',w',hq,.of_steps (.one step_loop) harr⟩
 | exit id=>intro _ Q st a w F ρ hw h hn;exact wp_exit ⟨.exit id,st,F,ρ,rfl,hw,h,hn⟩
 | ret=>intro _ Q st a w F ρ hw h hn;exact wp_ret ⟨.ret,st,F,ρ,rfl,hw,h,hn⟩
 | _=>intro _ Q st a w F ρ hw;exact hw.elim
section
variable {P:Program}{I:InlP}{nb:Nat}{Q Q':Ex→St→Prop}
theorem thenX.mono {K K':St→Prop}(hk:∀ s,K s→K' s)(h:∀ e s,Q e s→Q' e s): ∀ e s,thenX K Q e s→thenX K' Q' e s:=by
 intro e s
 cases e
 ·exact hk s
 ·exact h _ s
 ·exact h _ s
theorem WpOp.mono {o:Oper}{st:St}{K K':LV→Mem→Prop}(hI:∀ nb f args m R R',(∀ v m,R v m→R' v m)→I nb f args m R→I nb f args m R')(h:WpOp P I nb o st K)(hk:∀ v m,K v m→K' v m): WpOp P I nb o st K':=by
 cases h with
 | op h k=>exact .op h (hk _ _ k)
 | any h k=>exact .any h fun v eff hr=>hk _ _ (k v eff hr)
 | call ho hg hf hc k=>exact .call ho hg hf hc fun res hr=>⟨(k res hr).1,hk _ _ (k res hr).2⟩
 | callF ho hg hf hc k=>exact .callF ho hg hf hc fun res hr=>⟨(k res hr).1,(k res hr).2.1,hk _ _ (k res hr).2.2⟩
 | lend ho hg he hM hMT hc k=>exact .lend ho hg he hM hMT hc fun res q hr=>⟨(k res q hr).1,hk _ _ (k res q hr).2⟩
 | lend1 ho hg he hM hMT hc hu k =>
  refine .lend1 ho hg he hM hMT hc hu fun res q hr=>?_
  obtain⟨b,x,h1,h2,h3,h4,h5⟩:=k res q hr
  exact⟨b,x,h1,h2,h3,h4,fun m1 m2 e1 e2=>hk _ _ (h5 m1 m2 e1 e2)⟩
 | inl ho hg k=>exact .inl ho hg (hI _ _ _ _ _ _ hk k)
end
inductive ResV (P:Program) (st:St):ResultVar→LV→Prop
 | tmp {t:Nat}{v:LV}(h:st.ts t=v):ResV P st (.tmp t) v
 | cell {p:Nat}{t:TypeId}{b g i c:Nat}{x:Box}{cs:List LV}{v:LV}(ha:st.ts p=.ref b g i c) (hm:st.m b=some x) (hg:x.gen=g) (hk:x.kind≠.mp)
   (he:x.es[i]?=some cs) (ht:isAggT P t=some false) (hv:cs[c]?=some v):ResV P st (.cell p t) v
 | cellA {p:Nat}{t:TypeId}{b g i c n:Nat}{x:Box}{cs:List LV}(ha:st.ts p=.ref b g i c) (hm:st.m b=some x) (hg:x.gen=g) (hk:x.kind≠.mp)
   (he:x.es[i]?=some cs) (ht:isAggT P t=some true) (hs:szT P t=some n) (hc:c+n≤cs.length):ResV P st (.cell p t) (.agg ((cs.drop c).take n))
inductive ResVs (P:Program) (st:St):List ResultVar→List LV→Prop
 | nil:ResVs P st [] []
 | cons {r:ResultVar}{rs:List ResultVar}{v:LV}{vs:List LV}(h:ResV P st r v) (hs:ResVs P st rs vs):ResVs P st (r::rs) (v::vs)
def oneOf:List LV→LV
 | [v]=>v
 | vs=>.tup vs
def Ret (P:Program)(rvs:List ResultVar)(R:LV→Prop)(st:St): Prop :=
 ∃ vs v T M,ResVs P st rvs vs∧Exp st.m (oneOf vs) v T M∧M.Nodup∧(∀ n∈M,n∉T)∧R v
def RetX (P:Program)(rvs:List ResultVar)(R:LV→Prop): Ex→St→Prop
 | .exit _,_=>False
 | _,st=>Ret P rvs R st
def resM (tmps:Array Value): ResultVar→Sem Value
 | .tmp t=>pure (tmps.getD t undef)
 | .cell a t=>do loadVar t (← asAddr (tmps.getD a undef))
section
variable {P:Program}{X:Ctx}{st:St}{a:Act}{w:World}{F:Nat→Prop}{ρ:Locs}
theorem Y8z {t : TypeId} {p : Nat} {v : Value} (h : (execOp a.eval { dst := none, op := .load t (.tmp p), type := 0, pos := "", after := #[], guard := none }).run P w = .ok (.value v) w) : (resM a.tmps (.cell p t)).run P w = .ok v w := by
 simp only[execOp,Sem.run_bind,Instr.loadAt] at h
 simp only[resM,Sem.run_bind]
 change (((Instr.sureAddr (a.tmps.getD p undef)).run P w).andThen fun p w=>(loadVar t p).run P w).andThen _=_ at h
 revert h
 generalize a.tmps.getD p undef=q
 intro h
 cases q with
 | pointer q =>
  cases q with
  | none=>simp[Instr.sureAddr,stuck,Result.andThen] at h
  | some q =>
   simp only[Instr.sureAddr,asAddr,Sem.run_pure,Yel] at h ⊢
   cases hl:(loadVar t q).run P w with
   | ok u w' =>
    rw[hl] at h
    simp only[Yel,Sem.run_pure] at h
    injection h with h1 h2
    injection h1 with h1
    rw[h1,h2]
   | halt x w'=>rw[hl] at h;simp[Result.andThen] at h
 | _=>simp[Instr.sureAddr,stuck,Result.andThen] at h
theorem Y8K (h:Inv X st a w F ρ){r:ResultVar}{v:LV}(hr:ResV P st r v): ∃ val,(resM a.tmps r).run P w=.ok val w∧RelL w F ρ st.m val v:=by
 cases hr with
 | tmp ht=>exact⟨_,rfl,ht ▸ h.slots _⟩
 | @cell p t b g i c x cs v ha hm hg hk he ht hv =>
  have hx:=h.slots p
  rw[ha] at hx
  obtain⟨-,l,hl,hx⟩:=hx.toRef hm hg
  obtain⟨u,hu,hr⟩:=h.boxCell hm hk hl he hv
  refine⟨u,?_,hr.relL⟩
  refine Y8z ?_
  simp only[execOp,Sem.run_bind]
  change ((Instr.loadAt t (a.tmps.getD p undef)).run P w).andThen _=_
  rw[hx,Y4H (P:=P) ht hu,Yel]
  rfl
 | @cellA p t b g i c n x cs ha hm hg hk he ht hs hc =>
  have hx:=h.slots p
  rw[ha] at hx
  obtain⟨-,l,hl,hx⟩:=hx.toRef hm hg
  obtain⟨vs,hn,hcells⟩:=Y1t (P:=fun j v=>∃ q,cs[c+j]?=some q∧RelL w F ρ st.m v q) (w:=w) (blk:=l.blk) (o:=l.base+(i*x.sz+c)) (n:=n) fun j hj=>by
   have hq:cs[c+j]?=some (cs[c+j]'(by omega)):=YdO _
   obtain⟨u,hu,hr⟩:=h.boxCell hm hk hl he hq
   exact⟨u,by rw[show l.base+(i*x.sz+c)+j=l.base+(i*x.sz+(c+j)) by omega];exact hu,_,hq,hr.relL⟩
  refine⟨.agg vs.toArray,Y8z ?_,aggOfCells hn hc fun j v hv=>(hcells j v hv).2⟩
  have:=Y4I (P:=P) (w:=w) (p:=⟨l.blk,l.base+(i*x.sz+c),none⟩) ht hs hn (fun j v hv=>by rw[Y0g];exact (hcells j v hv).1)
  simp only[execOp,Sem.run_bind]
  change ((Instr.loadAt t (a.tmps.getD p undef)).run P w).andThen _=_
  rw[hx,this,Yel]
  rfl
theorem Y7C (h:Inv X st a w F ρ){rs:List ResultVar}{vs:List LV}(hr:ResVs P st rs vs): ∃ vals,(rs.mapM (resM a.tmps)).run P w=.ok vals w∧RelL w F ρ st.m (.agg vals.toArray) (.agg vs):=by
 induction hr with
 | nil=>exact⟨[],rfl,.agg rfl fun i v l hv=>by simp at hv⟩
 | cons h1 hs ih =>
  obtain⟨val,g1,g2⟩:=Y8K h h1
  obtain⟨vals,g3,g4⟩:=ih
  refine⟨val::vals,?_,YgH g2 g4⟩
  simp only[List.mapM_cons,Sem.run_bind,g1,g3,Yel]
  rfl
theorem Y14 (h:Inv X st a w F ρ){fn:Func}{vs:List LV}(hr:ResVs P st fn.results.toList vs): ∃ val,(results fn a.tmps).run P w=.ok val w∧RelL w F ρ st.m val (oneOf vs):=by
 obtain⟨vals,g1,g2⟩:=Y7C h hr
 have hm:(fn.results.mapM (resM a.tmps)).run P w=.ok vals.toArray w:=by
  have:fn.results=fn.results.toList.toArray:=by simp
  rw[this,List.mapM_toArray]
  simp only[map_eq_pure_bind,Sem.run_bind,g1,Yel]
  rfl
 have hres:(results fn a.tmps).run P w=.ok (if h:vals.toArray.size=1 then vals.toArray[0] else .tuple vals.toArray) w:=by
  have hfun:∀ g:ResultVar→Sem Value,(∀ r,g r=resM a.tmps r)→Sem.run P (do let us ← fn.results.mapM g;pure (if h:us.size=1 then us[0] else Value.tuple us)) w =
    .ok (if h:vals.toArray.size=1 then vals.toArray[0] else .tuple vals.toArray) w:=by
   intro g hg
   rw[funext hg,Sem.run_bind,hm]
   rfl
  exact hfun _ fun r=>by cases r <;> rfl
 obtain⟨cs,e1,e2,e3⟩:=g2.cells
 injection e1 with e1
 subst e1
 refine⟨_,hres,?_⟩
 by_cases h1:vals.toArray.size=1
 ·rw[dif_pos h1]
  rw[h1] at e2
  obtain⟨v,rfl⟩:=List.length_eq_one_iff.1 e2.symm
  exact e3 0 _ v (by rw[YdL (by omega)]) rfl
 ·rw[dif_neg h1]
  have:oneOf vs=.tup vs:=by
   unfold oneOf
   split
   ·simp at e2;simp at h1;omega
   ·rfl
  rw[this]
  exact .tup e2 e3
end
def argS (args:List LV): Slots:=fun j =>
 match args[j]? with
 | some v=>v
 | none=>.skip
theorem CallsR.intro {P : Program} {I : InlP} (hI : InlS P I) (hmix : P.follows .mixedOrders = true) {f : FuncId} {fn : Func} {c : Code} (hf : P.funcs[f]? = some fn) (hb : fn.body = some c) (hname : (fn.name == "runtime.NumGoroutine") = false)
  {args:List LV}{R:LV→Prop}(hlen:args.length≤fn.ntmps) (hd:dstsOK fn.ntmps c=true) {nb:Nat}(hw:Wp P I nb c (RetX P fn.results.toList R) ⟨argS args,fun _=>none⟩):CallsR P f args R:=by
 refine⟨⟨fn,hf,hname,by rw[hb];rfl⟩,fun w F vs hrel hlt=>?_⟩
 obtain⟨cs,e1,e2,e3⟩:=hrel.cells
 injection e1 with e1
 subst e1
 refine calls_of_wp hf hb ?_
 have hinv:Inv ⟨w,F,[],fun _ _=>False⟩ ⟨argS args,fun _=>none⟩ { tmps:=vs++Array.replicate (fn.ntmps - vs.size) undef,defers:=[] } w F (fun _=>none):=by
  refine⟨rfl,fun j=>?_,fun n x hx=>(by cases hx),fun n x l hx=>(by cases hx),fun n n' x x' l l' hx=>(by cases hx),fun b h=>h,fun b h=>.inl h,hlt,Ext.refl _ _,fun v l h=>h.elim⟩
  show RelL w F _ _ _ (argS args j)
  unfold argS
  rw[Ye7]
  by_cases hj:j<vs.size
  ·rw[YeK hj,YdL hj]
   have hj':j<args.length:=by omega
   rw[YdO hj']
   exact .frz (e3 j _ _ (YdL hj) (YdO hj'))
  ·rw[YeS (by omega)]
   have:((vs++Array.replicate (fn.ntmps - vs.size) undef)[j]?).getD Go.undef=Go.undef:=by
    rw[Yf9 (by omega)]
    by_cases h2:j - vs.size<fn.ntmps - vs.size
    ·rw[YdL (by simpa using h2)]
     simp
    ·rw[YfM (by simp;omega)]
     rfl
   rw[this]
   exact .frz .skip
 refine wp_mono (Wp.sound hI hmix c hd hw hinv (by simp;omega)) fun e a w' hp=>?_
 obtain⟨ex,st,F',ρ,rfl,hq,hi,-⟩:=hp
 have key:Ret P fn.results.toList R st→a.defers=[]∧∃ v,(results fn a.tmps).run P w'=.ok v w'∧∃ v_1 res F' O,Ending.returned v=.returned v_1∧R res∧Ext [] w w'∧(∀ b,F b→F' b)∧(∀ b,F' b→F b∨w.heap.size≤b)∧(∀ b,F' b→b<w'.heap.size) ∧
   RelI w' F' v_1 res O∧O.Nodup∧∀ b∈O,b<w'.heap.size∧¬ F' b∧w.heap.size≤b:=by
  rintro⟨vs',v',T,M,h1,h2,h3,h4,h5⟩
  obtain⟨val,k1,k2⟩:=Y14 hi h1
  obtain⟨O,k3,k4,k5⟩:=Exp.sound hi h2 val k2 h3 h4
  refine⟨hi.defers,val,k1,val,v',FT F' ρ T,O,rfl,h5,hi.ext,fun b hb=>.inl (hi.frz0 b hb),fun b hb=>?_,fun b hb=>?_,k3,k5,fun b hb=>?_⟩
  ·rcases hb with hb | ⟨n,hn,l,hl,rfl⟩
   ·rcases hi.frz1 b hb with h6 | h6 | h6
    ·exact .inl h6
    ·cases h6
    ·exact .inr h6
   ·obtain⟨x,hx⟩:=Yf8.1 (h2.some n hn)
    obtain⟨p1,p2,p3⟩:=hi.place n x l hx hl
    cases hxf:x.frz with
    | true =>
     rcases hi.frz1 _ (p2 hxf) with h6 | h6 | h6
     ·exact .inl h6
     ·cases h6
     ·exact .inr h6
    | false =>
     rcases (p3 hxf).2 with h6 | h6
     ·cases h6
     ·exact .inr h6
  ·rcases hb with hb | ⟨n,hn,l,hl,rfl⟩
   ·exact hi.frzlt b hb
   ·obtain⟨x,hx⟩:=Yf8.1 (h2.some n hn)
    exact (hi.place n x l hx hl).1
  ·obtain⟨n,hn,x,lc,hx,hxf,hl,rfl⟩:=k4 b hb
   obtain⟨p1,p2,p3⟩:=hi.place n x lc hx hl
   refine⟨p1,?_,?_⟩
   ·rintro (h6 | ⟨n',hn',l',hl',he⟩)
    ·exact (p3 hxf).1 h6
    ·obtain⟨x',hx'⟩:=Yf8.1 (h2.some n' hn')
     cases hxf':x'.frz with
     | true=>exact (p3 hxf).1 (he ▸ (hi.place n' x' l' hx' hl').2.1 hxf')
     | false =>
      have:=hi.inj n n' x x' lc l' hx hx' hxf hxf' hl hl' he.symm
      subst this
      exact h4 n hn hn'
   ·rcases (p3 hxf).2 with h6 | h6
    ·cases h6
    ·exact h6
 cases ex with
 | normal=>exact key hq
 | ret=>exact key hq
 | exit id=>exact hq.elim
def Yg2 := @CallsR.intro
def RetJ (P:Program)(rvs:List ResultVar)(ju:Option LV)(R:LV→LV→Prop)(st:St): Prop :=
 match ju with
 | none=>∃ vs v T M,ResVs P st rvs vs∧Exp st.m (oneOf vs) v T M∧M.Nodup∧(∀ n∈M,n∉T)∧R v .undef
 | some u=>∃ vs v q T M,ResVs P st rvs vs∧Exp st.m (.agg [oneOf vs,u]) (.agg [v,q]) T M∧M.Nodup∧(∀ n∈M,n∉T)∧R v q
def RetJX (P:Program)(rvs:List ResultVar)(ju:Option LV)(R:LV→LV→Prop): Ex→St→Prop
 | .exit _,_=>False
 | _,st=>∃ st',Weak st st'∧RetJ P rvs ju R st'
theorem RetJX.ret {P:Program}{rvs:List ResultVar}{ju:Option LV}{R:LV→LV→Prop}{st:St}(h:RetJ P rvs ju R st): RetJX P rvs ju R .ret st:=⟨st,Weak.refl _,h⟩
theorem RetJX.normal {P:Program}{rvs:List ResultVar}{ju:Option LV}{R:LV→LV→Prop}{st:St}(h:RetJ P rvs ju R st): RetJX P rvs ju R .normal st:=⟨st,Weak.refl _,h⟩
theorem CallsM.intro {P : Program} {I : InlP} (hI : InlS P I) (hmix : P.follows .mixedOrders = true) {f : FuncId} {fn : Func} {c : Code} (hf : P.funcs[f]? = some fn) (hb : fn.body = some c) (hname : (fn.name == "runtime.NumGoroutine") = false)
  {args ls:List LV}{e:List (Nat × Box)}{j:Option Nat}{ju:Option LV}{R:LV→LV→Prop}(hlen:args.length≤fn.ntmps) (hd:dstsOK fn.ntmps c=true) {nb:Nat}(ht:args.all topI=true) (hi:impAs (fun _=>none) 500000000 args=(ls,e))
  (hj:∀ k,j=some k→∃ u,ju=some u∧ls[k]?=some u) (hj0:j=none→ju=none)
  (hw:Wp P I nb c (RetJX P fn.results.toList ju R) ⟨argS ls,effM (fun _=>none) e⟩):CallsM P f args j R:=by
 refine⟨⟨fn,hf,hname,by rw[hb];rfl⟩,fun w F vs O hrel hOnd hlt hO=>?_⟩
 refine calls_of_wp hf hb ?_
 have h0:Inv ⟨w,F,O,fun v l=>∃ k:Nat,v=vs.getD k Go.undef∧ls[k]?=some l⟩ ⟨fun _=>.undef,fun _=>none⟩ { tmps:=vs++Array.replicate (fn.ntmps - vs.size) undef,defers:=[] } w F (fun _=>none) →
   Inv ⟨w,F,O,fun v l=>∃ k:Nat,v=vs.getD k Go.undef∧ls[k]?=some l⟩ ⟨fun _=>.undef,fun _=>none⟩ { tmps:=vs++Array.replicate (fn.ntmps - vs.size) undef,defers:=[] } w F (fun _=>none):=id
 have hbase:Inv ⟨w,F,O,fun _ _=>False⟩ ⟨fun _=>.undef,fun _=>none⟩ { tmps:=vs++Array.replicate (fn.ntmps - vs.size) undef,defers:=[] } w F (fun _=>none) :=
  ⟨rfl,fun j=>.frz (.undef _),fun n x hx=>(by cases hx),fun n x l hx=>(by cases hx),fun n n' x x' l l' hx=>(by cases hx),fun b h=>h,fun b h=>.inl h,hlt,Ext.refl _ _,fun v l h=>h.elim⟩
 have hfree:FreeB ⟨w,F,O,fun _ _=>False⟩ ⟨fun _=>.undef,fun _=>none⟩ w F (fun _=>none) O:=fun b hb=>⟨(hO b hb).1,(hO b hb).2,.inl hb,fun k x l hx=>(by cases hx)⟩
 obtain⟨ρ0,k1,k2,-⟩:=Y8D args hbase (us:=vs.toList) (by simpa using hrel) hfree hOnd ht 500000000
 rw[hi] at k1 k2
 simp only at k1 k2
 obtain⟨cs,e1,e2,e3⟩:=k2.cells
 have hcs:cs=vs:=by
  injection e1 with e1
  rw[← e1]
 subst hcs
 have hargl:args.length=cs.size:=by
  have:=hrel
  rw[show cs=⟨cs.toList⟩ by simp] at this
  have:=Y67 args this
  simpa using this.symm
 have hget:∀ k l,ls[k]?=some l→RelL w F ρ0 (effM (fun _=>none) e) (cs.getD k Go.undef) l:=fun k l hk=>by
  have hkl:k<cs.size:=by rw[e2];exact (YdM.1 hk).1
  rw[Ye7,YdL hkl]
  exact e3 k _ l (YdL hkl) hk
 have hinv:Inv ⟨w,F,O,fun v l=>∃ k:Nat,v=cs.getD k Go.undef∧ls[k]?=some l⟩ ⟨argS ls,effM (fun _=>none) e⟩ { tmps:=cs++Array.replicate (fn.ntmps - cs.size) undef,defers:=[] } w F ρ0:=by
  refine⟨rfl,fun i=>?_,k1.boxes,k1.place,k1.inj,k1.frz0,k1.frz1,k1.frzlt,k1.ext,fun v l hv=>?_⟩
  ·show RelL w F ρ0 _ _ (argS ls i)
   unfold argS
   rw[Ye7]
   by_cases hi':i<cs.size
   ·rw[YeK hi',YdL hi']
    have hi2:i<ls.length:=by omega
    rw[YdO hi2]
    exact e3 i _ _ (YdL hi') (YdO hi2)
   ·rw[YeS (by omega)]
    have:((cs++Array.replicate (fn.ntmps - cs.size) undef)[i]?).getD Go.undef=Go.undef:=by
     rw[Yf9 (by omega)]
     by_cases h2:i - cs.size<fn.ntmps - cs.size
     ·rw[YdL (by simpa using h2)]
      simp
     ·rw[YfM (by simp;omega)]
      rfl
    rw[this]
    exact .frz .skip
  ·obtain⟨k,rfl,hk⟩:=hv
   exact hget k l hk
 refine wp_mono (Wp.sound hI hmix c hd hw hinv (by simp;omega)) fun ee a w' hp=>?_
 obtain⟨ex,st1,F1,ρ1,rfl,hq,hi1,-⟩:=hp
 have hq2:(ex=.normal∨ex=.ret)∧∃ st,Weak st1 st∧RetJ P fn.results.toList ju R st:=by
  cases ex with
  | normal=>exact⟨.inl rfl,hq⟩
  | ret=>exact⟨.inr rfl,hq⟩
  | exit id=>exact hq.elim
 obtain⟨hex,st,hwk,hRJ⟩:=hq2
 obtain⟨F',ρ,hi'⟩:=hwk _ _ _ _ _ hi1
 -- what is handed over at the end
 have fin:∀ {l l':LV}{T M:List Nat}{val:Value},RelL w' F' ρ st.m val l→Exp st.m l l' T M→M.Nodup→(∀ n∈M,n∉T) →
   ∃ O',RelI w' (FT F' ρ T) val l' O'∧O'.Nodup∧(∀ b∈O',b<w'.heap.size∧¬ FT F' ρ T b∧(b∈O∨w.heap.size≤b))∧(∀ b,F b→FT F' ρ T b)∧(∀ b,FT F' ρ T b→F b∨b∈O∨w.heap.size≤b)∧(∀ b,FT F' ρ T b→b<w'.heap.size):=by
  intro l l' T M val hv hx hM hMT
  obtain⟨O',k3,k4,k5⟩:=Exp.sound hi' hx val hv hM hMT
  refine⟨O',k3,k5,fun b hb=>?_,fun b hb=>.inl (hi'.frz0 b hb),fun b hb=>?_,fun b hb=>?_⟩
  ·obtain⟨n,hn,x,lc,hx',hxf,hl,rfl⟩:=k4 b hb
   obtain⟨p1,p2,p3⟩:=hi'.place n x lc hx' hl
   refine⟨p1,?_,(p3 hxf).2⟩
   rintro (h6 | ⟨n',hn',l',hl',he⟩)
   ·exact (p3 hxf).1 h6
   ·obtain⟨x',hx''⟩:=Yf8.1 (hx.some n' hn')
    cases hxf':x'.frz with
    | true=>exact (p3 hxf).1 (he ▸ (hi'.place n' x' l' hx'' hl').2.1 hxf')
    | false =>
     have:=hi'.inj n n' x x' lc l' hx' hx'' hxf hxf' hl hl' he.symm
     subst this
     exact hMT n hn hn'
  ·rcases hb with hb | ⟨n,hn,l,hl,rfl⟩
   ·exact hi'.frz1 b hb
   ·obtain⟨x,hx'⟩:=Yf8.1 (hx.some n hn)
    obtain⟨p1,p2,p3⟩:=hi'.place n x l hx' hl
    cases hxf:x.frz with
    | true=>exact hi'.frz1 _ (p2 hxf)
    | false=>exact .inr (p3 hxf).2
  ·rcases hb with hb | ⟨n,hn,l,hl,rfl⟩
   ·exact hi'.frzlt b hb
   ·obtain⟨x,hx'⟩:=Yf8.1 (hx.some n hn)
    exact (hi'.place n x l hx' hl).1
 have key:RetJ P fn.results.toList ju R st→a.defers=[]∧∃ v,(results fn a.tmps).run P w'=.ok v w'∧∃ v_1 res q F' O1 O2,Ending.returned v=.returned v_1∧R res q∧Ext O w w'∧(∀ b,F b→F' b)∧(∀ b,F' b→F b∨b∈O∨w.heap.size≤b)∧(∀ b,F' b→b<w'.heap.size) ∧
   RelI w' F' v_1 res O1∧(∀ k,j=some k→RelI w' F' (cs.getD k Go.undef) q O2)∧(j=none→O2=[])∧(O1++O2).Nodup∧∀ b∈O1++O2,b<w'.heap.size∧¬ F' b∧(b∈O∨w.heap.size≤b):=by
  intro hR
  cases hju:ju with
  | none =>
   rw[hju] at hR
   obtain⟨vs',v',T,M,h1,h2,h3,h4,h5⟩:=hR
   obtain⟨val,r1,r2⟩:=Y14 hi' h1
   obtain⟨O',g1,g2,g3,g4,g5,g6⟩:=fin r2 h2 h3 h4
   refine⟨hi'.defers,val,r1,val,v',.undef,FT F' ρ T,O',[],rfl,h5,hi'.ext,g4,g5,g6,g1,fun k hk=>?_,fun _=>rfl,by simpa using g2,by simpa using g3⟩
   obtain⟨u,e4,-⟩:=hj k hk
   rw[hju] at e4
   cases e4
  | some u =>
   rw[hju] at hR
   obtain⟨vs',v',q',T,M,h1,h2,h3,h4,h5⟩:=hR
   obtain⟨val,r1,r2⟩:=Y14 hi' h1
   obtain⟨k,hjk⟩:∃ k,j=some k:=by
    cases j with
    | none=>rw[hj0 rfl] at hju;cases hju
    | some k=>exact⟨k,rfl⟩
   obtain⟨u',e4,e5⟩:=hj k hjk
   rw[hju] at e4
   injection e4 with e4
   subst e4
   have hk2:RelL w' F' ρ st.m (cs.getD k Go.undef) u:=hi'.kept _ _ ⟨k,rfl,e5⟩
   obtain⟨O',g1,g2,g3,g4,g5,g6⟩:=fin (val:=.agg #[val,cs.getD k Go.undef]) (YgH r2 (YgH hk2 (.agg rfl (by simp)))) h2 h3 h4
   obtain⟨x1,xs1,P1,P2,z1,rfl,z3,z4⟩:=g1.uncons
   obtain⟨x2,xs2,P3,P4,z5,rfl,z7,z8⟩:=z4.uncons
   obtain⟨z9,rfl⟩:=z8.nil
   injection z1 with z1
   injection z5 with z5
   injection z5 with z5
   subst z5
   injection z1 with z1
   injection z1 with z1 z10
   injection z10 with z10
   subst z1 z10
   rw[YdX] at g2 g3
   refine⟨hi'.defers,val,r1,val,v',q',FT F' ρ T,P1,P3,rfl,h5,hi'.ext,g4,g5,g6,z3,fun k' hk'=>?_,fun h=>?_,g2,g3⟩
   ·rw[hjk] at hk'
    injection hk' with hk'
    subst hk'
    exact z7
   ·rw[hjk] at h
    cases h
 rcases hex with rfl | rfl
 ·exact key hRJ
 ·exact key hRJ
def Ygw := @CallsM.intro
end Go.Proofs.Ytoadnomjbibcgaa.Mv
