/- The calculus by which the program is walked, and its plain laws: part C. -/
import Derived.Test.YtoadnomjbibcgaaMvB
import Derived.IntWalk
import Derived.Below
import Derived.ChangeSlices
import Derived.DataReads
import Derived.Sort.Grow
import Derived.Sort.Row
import Derived.MapKept
set_option linter.all false
namespace Go.Proofs.Ytoadnomjbibcgaa.Mv
def I0:InlP:=fun _ _ _ _ _=>False
theorem I0.sound (P:Program): InlS P I0:=fun _ _ _ _ _ h=>h.elim
def Yga := @I0.sound
def InlM (I:InlP): Prop:=∀ nb f args m R R',(∀ v m,R v m→R' v m)→I nb f args m R→I nb f args m R'
theorem I0.mono:InlM I0:=fun _ _ _ _ _ _ _ h=>h
def YfX := @I0.mono
theorem WpOps.mono {P:Program}{I:InlP}(hI:InlM I){nb:Nat}{ops:Array Oper}{Q Q':St→Prop}(h:∀ s,Q s→Q' s): ∀ {l:List Nat}{st:St},WpOps P I nb ops Q l st→WpOps P I nb ops Q' l st
 | [],_,hw=>h _ hw
 | i::r,st,hw=>by
  simp only[WpOps] at hw ⊢
  cases ho:ops[i]? with
  | none=>rw[ho] at hw;exact WpOps.mono hI h hw
  | some o =>
   rw[ho] at hw
   simp only at hw ⊢
   cases hg:wantedL ops o st.ts with
   | none=>rw[hg] at hw;exact hw.elim
   | some b =>
    rw[hg] at hw
    cases b with
    | true=>exact WpOp.mono hI hw fun v m hv=>WpOps.mono hI h hv
    | false=>exact WpOps.mono hI h hw
theorem DOps.mono {P:Program}{nb:Nat}{ops:Array Oper}{Q Q':St→Prop}(h:∀ s,Q s→Q' s): ∀ {l:List Nat}{acc:List (Nat × List Nat × List Nat)}{st:St},DOps P nb ops Q l acc st→DOps P nb ops Q' l acc st
 | [],_,_,hw=>⟨hw.1,h _ hw.2⟩
 | i::r,acc,st,hw=>by
  simp only[DOps] at hw ⊢
  cases ho:ops[i]? with
  | none=>rw[ho] at hw;exact hw.elim
  | some o =>
   rw[ho] at hw
   simp only at hw ⊢
   cases hg:wantedL ops o st.ts with
   | none=>rw[hg] at hw;exact hw.elim
   | some b =>
    rw[hg] at hw
    cases b with
    | true =>
     obtain⟨d,h1,h2⟩:=hw
     exact⟨d,h1,DOps.mono h h2⟩
    | false=>exact DOps.mono h hw
theorem Wp.mono {P:Program}{I:InlP}(hI:InlM I){nb:Nat}: ∀ {c:Code}{Q Q':Ex→St→Prop}{st:St},(∀ e s,Q e s→Q' e s)→Wp P I nb c Q st→Wp P I nb c Q' st:=by
 intro c
 induction c with
 | skip=>intro Q Q' st h hw;exact h _ _ hw
 | region id ops d =>
  intro Q Q' st h hw
  cases d with
  | false=>exact WpOps.mono hI (h _) hw
  | true =>
   obtain⟨s,h1,h2⟩:=hw
   exact⟨s,h1,h2.imp (DOps.mono (h _)) (DSem.mono (h _))⟩
 | seq x y ihx ihy =>
  intro Q Q' st h hw
  refine ihx (thenX.mono (fun s hs=>?_) h) hw
  obtain⟨s',h1,h2⟩:=hs
  exact⟨s',h1,ihy h h2⟩
 | cond c x y ihx ihy =>
  intro Q Q' st h hw
  obtain⟨b,h1,h2,h3⟩:=hw
  exact⟨b,h1,fun hb=>ihx h (h2 hb),fun hb=>ihy h (h3 hb)⟩
 | block id c ih =>
  intro Q Q' st h hw
  refine ih (fun e s hs=>?_) hw
  cases e with
  | normal=>exact h _ _ hs
  | exit id' =>
   simp only[blockX] at hs ⊢
   split <;> simp_all
  | ret=>exact h _ _ hs
 | loop c ih =>
  intro Q Q' st h hw X h1 h2
  exact hw X h1 fun s hs=>h2 s (ih (thenX.mono (fun _ h=>h) h) hs)
 | exit id=>intro Q Q' st h hw;exact h _ _ hw
 | ret=>intro Q Q' st h hw;exact h _ _ hw
 | _=>intro Q Q' st h hw;exact hw.elim
section
variable {P:Program}{I:InlP}{nb:Nat}{Q:Ex→St→Prop}{st:St}
theorem Wp.seqI {x y:Code}(h:Wp P I nb x (thenX (fun s=>∃ s',Weak s s'∧Wp P I nb y Q s') Q) st): Wp P I nb (.seq x y) Q st:=h
theorem goOn {y:Code}(h:Wp P I nb y Q st): thenX (fun s=>∃ s',Weak s s'∧Wp P I nb y Q s') Q .normal st:=⟨st,Weak.refl st,h⟩
theorem Wp.condI {c:Operand}{x y:Code}{b:Bool}(hc:evalO st.ts c=.bool b)(h1:b=true→Wp P I nb x Q st)(h2:b=false→Wp P I nb y Q st): Wp P I nb (.cond c x y) Q st:=⟨b,hc,h1,h2⟩
def Ygb := @Wp.condI
theorem Wp.condT {c:Operand}{x y:Code}(hc:evalO st.ts c=.bool true)(h:Wp P I nb x Q st): Wp P I nb (.cond c x y) Q st:=⟨true,hc,fun _=>h,fun h=>(by cases h)⟩
theorem Wp.condF {c:Operand}{x y:Code}(hc:evalO st.ts c=.bool false)(h:Wp P I nb y Q st): Wp P I nb (.cond c x y) Q st:=⟨false,hc,fun h=>(by cases h),fun _=>h⟩
theorem Wp.blockI {id:Nat}{c:Code}(h:Wp P I nb c (blockX id Q) st): Wp P I nb (.block id c) Q st:=h
theorem Wp.exitI {id:Nat}(h:Q (.exit id) st): Wp P I nb (.exit id) Q st:=h
theorem Wp.retI (h:Q .ret st): Wp P I nb .ret Q st:=h
theorem Wp.skipI (h:Q .normal st): Wp P I nb .skip Q st:=h
theorem thenX.exit {K:St→Prop}{id:Nat}(h:Q (.exit id) st): thenX K Q (.exit id) st:=h
theorem thenX.ret {K:St→Prop}(h:Q .ret st): thenX K Q .ret st:=h
theorem blockX.out {id:Nat}(h:Q .normal st): blockX id Q (.exit id) st:=by
 simp only[blockX,Yfx]
 exact h
theorem blockX.normal {id:Nat}(h:Q .normal st): blockX id Q .normal st:=h
theorem blockX.ret {id:Nat}(h:Q .ret st): blockX id Q .ret st:=h
theorem RetX.ret {rvs:List ResultVar}{R:LV→Prop}(h:Ret P rvs R st): RetX P rvs R .ret st:=h
def Again {α:Type}(A:α→St→Prop)(μ:α→Nat)(a:α)(s:St): Prop:=∃ a',μ a'<μ a∧∃ s',Weak s s'∧A a' s'
theorem Wp.loopI (hI:InlM I){c:Code}{α:Type}(A:α→St→Prop)(μ:α→Nat)(a0:α)(h0:∃ s',Weak st s'∧A a0 s')(hr:∀ a s,A a s→Wp P I nb c (thenX (Again A μ a) Q) s): Wp P I nb (.loop c) Q st:=by
 intro X hX1 hX2
 have key:∀ n a s,μ a=n→A a s→X s:=by
  intro n
  induction n using Nat.strongRecOn with
  | _ n ih =>
   intro a s hn ha
   refine hX2 s (Wp.mono hI (thenX.mono (fun s1 hs1=>?_) fun _ _ h=>h) (hr a s ha))
   obtain⟨a',h1,s',h2,h3⟩:=hs1
   exact hX1 s1 s' h2 (ih (μ a') (hn ▸ h1) a' s' rfl h3)
 obtain⟨s',h1,h2⟩:=h0
 exact hX1 st s' h1 (key _ a0 s' rfl h2)
def Yg8 := @Wp.loopI
def GL (P:Program)(I:InlP)(nb:Nat)(ops:Array Oper)(K:St→Prop)(d:Bool): List Oper→Nat→List (Nat × List Nat × List Nat)→St→Prop
 | [],_,acc,st=>(d=true→(edgesOK ops (BB ops) && pairsOK ops (BB ops) acc)=true)∧K st
 | o::r,i,acc,st =>
  match wantedL ops o st.ts with
  | some true =>
   match d with
   | false=>WpOp P I nb o st fun v m=>GL P I nb ops K d r (i+1) acc ⟨putS st.ts o.dst v,m⟩
   | true=>∃ dd,DOp P nb o st dd∧GL P I nb ops K d r (i+1) ((i,Wn dd.eff,dd.R)::acc) ⟨putS st.ts o.dst dd.v,effM st.m dd.eff⟩
  | some false=>GL P I nb ops K d r (i+1) ((i,[],[])::acc) ⟨putS st.ts o.dst .skip,st.m⟩
  | none=>False
variable {ops:Array Oper}{K:St→Prop}{r:List Oper}{ts:Slots}{m:Mem}{t:Nat}{ty:TypeId}{pos:String}{af:Array Edge}{d:Bool}{i:Nat}{acc:List (Nat × List Nat × List Nat)}
theorem GL.accI (hI:InlM I): ∀ {r:List Oper}{i i':Nat}{acc acc':List (Nat × List Nat × List Nat)}{st:St},GL P I nb ops K false r i acc st→GL P I nb ops K false r i' acc' st
 | [],_,_,_,_,_,h=>⟨fun h=>(by cases h),h.2⟩
 | o::r,i,i',acc,acc',st,h=>by
  simp only[GL] at h ⊢
  cases hw:wantedL ops o st.ts with
  | none=>rw[hw] at h;exact h.elim
  | some b =>
   rw[hw] at h
   cases b with
   | true=>exact WpOp.mono hI h fun v m hv=>GL.accI hI hv
   | false=>exact GL.accI hI h
theorem GL.opsF (hI:InlM I): ∀ {l:List Oper}{k:Nat}{acc:List (Nat × List Nat × List Nat)}{st:St},(∀ i,l[i]?=ops[k+i]?)→GL P I nb ops K false l k acc st→WpOps P I nb ops K (List.range' k l.length) st
 | [],_,_,_,_,h=>h.2
 | o::r,k,acc,st,hi,h=>by
  have h0:ops[k]?=some o:=by simpa using (hi 0).symm
  have hr:∀ i,r[i]?=ops[k+1+i]?:=fun i=>by have:=hi (i+1);simpa [Yf0,Nat.add_comm 1 i] using this
  rw[Yen,YfR]
  simp only[WpOps,h0,GL] at h ⊢
  cases hw:wantedL ops o st.ts with
  | none=>rw[hw] at h;exact h.elim
  | some b =>
   rw[hw] at h
   cases b with
   | true=>exact WpOp.mono hI h fun v m hv=>GL.opsF hI hr hv
   | false=>exact GL.opsF hI hr h
theorem GL.opsD:∀ {l:List Oper}{k:Nat}{acc:List (Nat × List Nat × List Nat)}{st:St},(∀ i,l[i]?=ops[k+i]?)→GL P I nb ops K true l k acc st→DOps P nb ops K (List.range' k l.length) acc st
 | [],_,_,_,_,h=>⟨h.1 rfl,h.2⟩
 | o::r,k,acc,st,hi,h=>by
  have h0:ops[k]?=some o:=by simpa using (hi 0).symm
  have hr:∀ i,r[i]?=ops[k+1+i]?:=fun i=>by have:=hi (i+1);simpa [Yf0,Nat.add_comm 1 i] using this
  rw[Yen,YfR]
  simp only[DOps,h0,GL] at h ⊢
  cases hw:wantedL ops o st.ts with
  | none=>rw[hw] at h;exact h.elim
  | some b =>
   rw[hw] at h
   cases b with
   | true =>
    obtain⟨dd,h1,h2⟩:=h
    exact⟨dd,h1,GL.opsD hr h2⟩
   | false=>exact GL.opsD hr h
theorem Wp.regI (hI:InlM I){id:Nat}{ops:Array Oper}(h:GL P I nb ops (Q .normal) false ops.toList 0 [] st): Wp P I nb (.region id ops false) Q st:=by
 have:=GL.opsF hI (k:=0) (fun i=>by simp) h
 rw[← Yfq] at this
 simpa [Wp] using this
theorem Wp.regD {id:Nat}{ops:Array Oper}(h:GL P I nb ops (Q .normal) true ops.toList 0 [] st): Wp P I nb (.region id ops true) Q st:=by
 have:=GL.opsD (k:=0) (fun i=>by simp) h
 rw[← Yfq] at this
 exact⟨st,Weak.refl st,.inl (by simpa using this)⟩
theorem Wp.regAlt {id:Nat}{ops:Array Oper}(i j:Nat)(σ τ:Nat→Nat)(hij:i≠j)(hi:i<ops.size)(hj:j<ops.size)(ha:ordOK ops (fun k=>k) (fun k=>k)=true)(hb:ordOK ops σ τ=true)
  (h1:GL P I nb (ordT ops (fun k=>k) (fun k=>k) i j) (Q .normal) true (ordT ops (fun k=>k) (fun k=>k) i j).toList 0 [] st) (h2:GL P I nb (ordT ops σ τ j i) (Q .normal) true (ordT ops σ τ j i).toList 0 [] st):Wp P I nb (.region id ops true) Q st:=by
 have g1:=GL.opsD (k:=0) (fun i=>by simp) h1
 have g2:=GL.opsD (k:=0) (fun i=>by simp) h2
 rw[← Yfq] at g1 g2
 exact⟨st,Weak.refl st,.inr (DAlt.sem ⟨_,_,_,_,i,j,Y42 ha,Y42 hb,hij,hi,hj,by simpa using g1,by simpa using g2⟩)⟩
theorem GL.doneF (h:K st): GL P I nb ops K false [] i acc st:=⟨fun h=>(by cases h),h⟩
theorem GL.doneT (hc:(edgesOK ops (BB ops) && pairsOK ops (BB ops) acc)=true)(h:K st): GL P I nb ops K true [] i acc st:=⟨fun _=>hc,h⟩
theorem GL.step (hI:InlM I){op:Op}{v:LV}{eff:List (Nat × Box)}{R:List Nat}(h:OpR P (nb+64*t) (evalO ts) m op v eff R)(hf:∀ p∈eff,p.2.frz=false)(k:GL P I nb ops K d r (i+1) ((i,Wn eff,R)::acc) ⟨updS ts t v,effM m eff⟩):
  GL P I nb ops K d (⟨some t,op,ty,pos,af,none⟩::r) i acc ⟨ts,m⟩:=by
 cases d with
 | false =>
  simp only[GL,wantedL]
  exact .op (o:=⟨some t,op,ty,pos,af,none⟩) h (GL.accI hI k)
 | true =>
  simp only[GL,wantedL]
  refine⟨_,.op (o:=⟨some t,op,ty,pos,af,none⟩) h,?_⟩
  simp only[Y1x hf]
  exact k
theorem GL.stepN (hI:InlM I){op:Op}{v:LV}{eff:List (Nat × Box)}{R:List Nat}(h:OpR P (nb+64*4000) (evalO ts) m op v eff R)(hf:∀ p∈eff,p.2.frz=false)(k:GL P I nb ops K d r (i+1) ((i,Wn eff,R)::acc) ⟨ts,effM m eff⟩):
  GL P I nb ops K d (⟨none,op,ty,pos,af,none⟩::r) i acc ⟨ts,m⟩:=by
 cases d with
 | false =>
  simp only[GL,wantedL]
  exact .op (o:=⟨none,op,ty,pos,af,none⟩) h (GL.accI hI k)
 | true =>
  simp only[GL,wantedL]
  refine⟨_,.op (o:=⟨none,op,ty,pos,af,none⟩) h,?_⟩
  simp only[Y1x hf]
  exact k
theorem GL.stepP (hI:InlM I){op:Op}{v:LV}{R:List Nat}(h:OpR P (nb+64*t) (evalO ts) m op v [] R)(k:GL P I nb ops K d r (i+1) ((i,[],R)::acc) ⟨updS ts t v,m⟩):
  GL P I nb ops K d (⟨some t,op,ty,pos,af,none⟩::r) i acc ⟨ts,m⟩:=.step hI h (by simp) k
theorem GL.guardT {dst:Option Nat}{op:Op}{g:Nat × Bool}(hg:wantedL ops ⟨dst,op,ty,pos,af,some g⟩ ts=some true)(k:GL P I nb ops K d (⟨dst,op,ty,pos,af,none⟩::r) i acc ⟨ts,m⟩): GL P I nb ops K d (⟨dst,op,ty,pos,af,some g⟩::r) i acc ⟨ts,m⟩:=by
 cases d with
 | false =>
  simp only[GL,hg]
  simp only[GL,wantedL] at k
  cases k with
  | op h k=>exact .op (o:=⟨dst,op,ty,pos,af,some g⟩) h k
  | any h k=>exact .any (o:=⟨dst,op,ty,pos,af,some g⟩) h k
  | lend ho hg he hM hMT hc k=>exact .lend (o:=⟨dst,op,ty,pos,af,some g⟩) ho hg he hM hMT hc k
  | lend1 ho hg he hM hMT hc hu k=>exact .lend1 (o:=⟨dst,op,ty,pos,af,some g⟩) ho hg he hM hMT hc hu k
  | call ho hg hf hc k=>exact .call (o:=⟨dst,op,ty,pos,af,some g⟩) ho hg hf hc k
  | callF ho hg hf hc k=>exact .callF (o:=⟨dst,op,ty,pos,af,some g⟩) ho hg hf hc k
  | inl ho hg k=>exact .inl (o:=⟨dst,op,ty,pos,af,some g⟩) ho hg k
 | true =>
  simp only[GL,hg]
  simp only[GL,wantedL] at k
  obtain⟨dd,h1,h2⟩:=k
  refine⟨dd,?_,h2⟩
  cases h1 with
  | op h=>exact .op (o:=⟨dst,op,ty,pos,af,some g⟩) h
  | call ho hg hf hc ht=>exact .call (o:=⟨dst,op,ty,pos,af,some g⟩) ho hg hf hc ht
  | callF ho hg hf hc hl ht=>exact .callF (o:=⟨dst,op,ty,pos,af,some g⟩) ho hg hf hc hl ht
theorem GL.guardF {op:Op}{g:Nat × Bool}(hg:wantedL ops ⟨some t,op,ty,pos,af,some g⟩ ts=some false)(k:GL P I nb ops K d r (i+1) ((i,[],[])::acc) ⟨updS ts t .skip,m⟩): GL P I nb ops K d (⟨some t,op,ty,pos,af,some g⟩::r) i acc ⟨ts,m⟩:=by
 simp only[GL,hg]
 exact k
theorem GL.move (hI:InlM I){x:Operand}{v:LV}(hx:evalO ts x=v)(k:GL P I nb ops K d r (i+1) ((i,[],[])::acc) ⟨updS ts t v,m⟩): GL P I nb ops K d (⟨some t,.move x,ty,pos,af,none⟩::r) i acc ⟨ts,m⟩:=.stepP hI .move (hx ▸ k)
theorem GL.assign (hI:InlM I){x:Operand}{v:LV}(hx:evalO ts x=v)(k:GL P I nb ops K d r (i+1) ((i,[],[])::acc) ⟨updS ts t v,m⟩): GL P I nb ops K d (⟨some t,.assign x,ty,pos,af,none⟩::r) i acc ⟨ts,m⟩:=.stepP hI .assign (hx ▸ k)
theorem GL.pick (hI:InlM I){c a b:Operand}{z:Bool}{v:LV}(hc:evalO ts c=.bool z)(hx:cond z (evalO ts a) (evalO ts b)=v)(k:GL P I nb ops K d r (i+1) ((i,[],[])::acc) ⟨updS ts t v,m⟩): GL P I nb ops K d (⟨some t,.pick c a b,ty,pos,af,none⟩::r) i acc ⟨ts,m⟩:=.stepP hI (.pick hc) (hx ▸ k)
theorem GL.bin (hI:InlM I){op:BinOp}{xt yt:TypeId}{x y:Operand}{v:LV}(h:binL P op xt (evalO ts x) (evalO ts y)=some v)(k:GL P I nb ops K d r (i+1) ((i,[],[])::acc) ⟨updS ts t v,m⟩): GL P I nb ops K d (⟨some t,.binOp op xt x y yt,ty,pos,af,none⟩::r) i acc ⟨ts,m⟩:=.stepP hI (.bin h) (k)
theorem GL.un (hI:InlM I){op:UnOp}{xt:TypeId}{x:Operand}{v:LV}(h:unL op (evalO ts x)=some v)(k:GL P I nb ops K d r (i+1) ((i,[],[])::acc) ⟨updS ts t v,m⟩): GL P I nb ops K d (⟨some t,.unOp op xt x,ty,pos,af,none⟩::r) i acc ⟨ts,m⟩:=.stepP hI (.un h) (k)
theorem GL.load (hI:InlM I){e:TypeId}{a:Operand}{b g j c:Nat}{x:Box}{cs:List LV}{v:LV}(ht:isAggT P e=some false)(ha:evalO ts a=.ref b g j c)(hm:m b=some x)(hg:x.gen=g)(hk:x.kind≠.mp)(he:x.es[j]?=some cs)(hv:cs[c]?=some v)(k:GL P I nb ops K d r (i+1) ((i,[],[b])::acc) ⟨updS ts t v,m⟩): GL P I nb ops K d (⟨some t,.load e a,ty,pos,af,none⟩::r) i acc ⟨ts,m⟩:=.stepP hI (.load ha hm hg hk he ht hv) (k)
def Ygr := @GL.load
theorem GL.loadA (hI:InlM I){e:TypeId}{a:Operand}{b g j c n:Nat}{x:Box}{cs vs:List LV}(ht:isAggT P e=some true)(ha:evalO ts a=.ref b g j c)(hm:m b=some x)(hg:x.gen=g)(hk:x.kind≠.mp)(he:x.es[j]?=some cs)(hs:szT P e=some n)(hc:c+n≤cs.length)(hv:(cs.drop c).take n=vs)(k:GL P I nb ops K d r (i+1) ((i,[],[b])::acc) ⟨updS ts t (.agg vs),m⟩): GL P I nb ops K d (⟨some t,.load e a,ty,pos,af,none⟩::r) i acc ⟨ts,m⟩:=.stepP hI (.loadA ha hm hg hk he ht hs hc) (hv ▸ k)
def YgA := @GL.loadA
theorem GL.loadF (hI:InlM I){e:TypeId}{a:Operand}{es:List (List LV)}{j c:Nat}{cs:List LV}{v:LV}(ht:isAggT P e=some false)(ha:evalO ts a=.fad es j c)(he:es[j]?=some cs)(hv:cs[c]?=some v)(k:GL P I nb ops K d r (i+1) ((i,[],[])::acc) ⟨updS ts t v,m⟩): GL P I nb ops K d (⟨some t,.load e a,ty,pos,af,none⟩::r) i acc ⟨ts,m⟩:=.stepP hI (.loadF ha he ht hv) (k)
def Ygq := @GL.loadF
theorem GL.loadFA (hI:InlM I){e:TypeId}{a:Operand}{es:List (List LV)}{j c n:Nat}{cs vs:List LV}(ht:isAggT P e=some true)(ha:evalO ts a=.fad es j c)(he:es[j]?=some cs)(hs:szT P e=some n)(hc:c+n≤cs.length)(hv:(cs.drop c).take n=vs)(k:GL P I nb ops K d r (i+1) ((i,[],[])::acc) ⟨updS ts t (.agg vs),m⟩): GL P I nb ops K d (⟨some t,.load e a,ty,pos,af,none⟩::r) i acc ⟨ts,m⟩:=.stepP hI (.loadFA ha he ht hs hc) (hv ▸ k)
def YgG := @GL.loadFA
theorem GL.fieldAddr (hI:InlM I){s:TypeId}{x:Operand}{f b g j c o c':Nat}{y:Box}(ho:offF P s f=some o)(hx:evalO ts x=.ref b g j c)(hm:m b=some y)(hg:y.gen=g)(hc:c+o=c')(k:GL P I nb ops K d r (i+1) ((i,[],[b])::acc) ⟨updS ts t (.ref b g j c'),m⟩): GL P I nb ops K d (⟨some t,.fieldAddr s x f,ty,pos,af,none⟩::r) i acc ⟨ts,m⟩:=.stepP hI (.fieldAddr hx hm hg ho) (hc ▸ k)
def Ygd := @GL.fieldAddr
theorem GL.fieldAddrF (hI:InlM I){s:TypeId}{x:Operand}{f j c o c':Nat}{es:List (List LV)}(ho:offF P s f=some o)(hx:evalO ts x=.fad es j c)(hc:c+o=c')(k:GL P I nb ops K d r (i+1) ((i,[],[])::acc) ⟨updS ts t (.fad es j c'),m⟩): GL P I nb ops K d (⟨some t,.fieldAddr s x f,ty,pos,af,none⟩::r) i acc ⟨ts,m⟩:=.stepP hI (.fieldAddrF hx ho) (hc ▸ k)
def Ygf := @GL.fieldAddrF
theorem GL.indexAddr (hI:InlM I){st e:TypeId}{x ix:Operand}{kk:IntKind}{n:Int}{b g off len j:Nat}{cap:Option Nat}{y:Box}{sz:Nat}(ht:sliceE P st=some e)(hs:szT P e=some sz)(hx:evalO ts x=.own b g off len cap)(hi:evalO ts ix=.int kk n)(hm:m b=some y)(hg:y.gen=g)(hk:y.kind=.slc)(hz:y.sz=sz)(h0:0≤n)(h1:n<(len:Int))(hj:off+n.toNat=j)(k:GL P I nb ops K d r (i+1) ((i,[],[b])::acc) ⟨updS ts t (.ref b g j 0),m⟩): GL P I nb ops K d (⟨some t,.indexAddr st x ix,ty,pos,af,none⟩::r) i acc ⟨ts,m⟩:=.stepP hI (.indexAddr hx hi hm hg hk ht (hz ▸ hs) h0 h1) (hj ▸ k)
def Ygl := @GL.indexAddr
theorem GL.indexAddrF (hI:InlM I){st e:TypeId}{x ix:Operand}{kk:IntKind}{n:Int}{es:List (List LV)}{sz j:Nat}(ht:sliceE P st=some e)(hs:szT P e=some sz)(hx:evalO ts x=.sl es)(hi:evalO ts ix=.int kk n)(h0:0≤n)(h1:n<(es.length:Int))(hz:∀ e∈es,e.length=sz)(hj:n.toNat=j)(k:GL P I nb ops K d r (i+1) ((i,[],[])::acc) ⟨updS ts t (.fad es j 0),m⟩): GL P I nb ops K d (⟨some t,.indexAddr st x ix,ty,pos,af,none⟩::r) i acc ⟨ts,m⟩:=.stepP hI (.indexAddrF hx hi ht hs h0 h1 hz) (hj ▸ k)
def Ygo := @GL.indexAddrF
theorem GL.indexAddrA (hI:InlM I){st e:TypeId}{x ix:Operand}{kk:IntKind}{n:Int}{b g j c len sz c':Nat}{y:Box}(ht:arrayE P st=some (len,e))(hs:szT P e=some sz)(hx:evalO ts x=.ref b g j c)(hi:evalO ts ix=.int kk n)(hm:m b=some y)(hg:y.gen=g)(h0:0≤n)(h1:n<(len:Int))(hc:c+n.toNat*sz=c')(k:GL P I nb ops K d r (i+1) ((i,[],[b])::acc) ⟨updS ts t (.ref b g j c'),m⟩): GL P I nb ops K d (⟨some t,.indexAddr st x ix,ty,pos,af,none⟩::r) i acc ⟨ts,m⟩:=.stepP hI (.indexAddrA hx hi hm hg ht hs h0 h1) (hc ▸ k)
theorem GL.extract (hI:InlM I){x:Operand}{j:Nat}{vs:List LV}{v:LV}(hx:evalO ts x=.tup vs)(hv:vs[j]?=some v)(k:GL P I nb ops K d r (i+1) ((i,[],[])::acc) ⟨updS ts t v,m⟩): GL P I nb ops K d (⟨some t,.extract x j,ty,pos,af,none⟩::r) i acc ⟨ts,m⟩:=.stepP hI (.extract hx hv) (k)
theorem GL.build (hI:InlM I){e:TypeId}{ps:Array (Nat × Operand)}{v:LV}(h:buildL P e (ps.toList.map fun (i,x)=>(i,evalO ts x))=some v)(hp:(ps.toList.all fun p=>(cellsL (evalO ts p.2)).all oneC)=true)(k:GL P I nb ops K d r (i+1) ((i,[],[])::acc) ⟨updS ts t v,m⟩): GL P I nb ops K d (⟨some t,.build e ps,ty,pos,af,none⟩::r) i acc ⟨ts,m⟩:=.stepP hI (.build h hp) (k)
theorem GL.lenF (hI:InlM I){x:Operand}{xt e:TypeId}{es:List (List LV)}{n:Nat}(ht:P.underlying xt=some (.slice e))(hx:evalO ts x=.sl es)(hn:es.length=n)(k:GL P I nb ops K d r (i+1) ((i,[],[])::acc) ⟨updS ts t (.int .i64 n),m⟩): GL P I nb ops K d (⟨some t,.call { callee:=.builtin .len,args:=#[x],argTypes:=#[xt] },ty,pos,af,none⟩::r) i acc ⟨ts,m⟩:=.stepP hI (.len (by rw[hx];exact congrArg some hn) (by rw[hx];exact .sl) (.inl ⟨⟨e,ht⟩,by simp[hx]⟩)) (k)
theorem GL.lenO (hI:InlM I){x:Operand}{xt e:TypeId}{b g off n:Nat}{cap:Option Nat}{y:Box}(ht:P.underlying xt=some (.slice e))(hx:evalO ts x=.own b g off n cap)(hm:m b=some y)(hg:y.gen=g)(k:GL P I nb ops K d r (i+1) ((i,[],[b])::acc) ⟨updS ts t (.int .i64 n),m⟩): GL P I nb ops K d (⟨some t,.call { callee:=.builtin .len,args:=#[x],argTypes:=#[xt] },ty,pos,af,none⟩::r) i acc ⟨ts,m⟩:=.stepP hI (.len (by rw[hx];rfl) (by rw[hx];exact .own hm hg) (.inl ⟨⟨e,ht⟩,by simp[hx]⟩)) (k)
theorem GL.max (hI:InlM I){x:Operand}{xs:List Operand}{tys:Array TypeId}{v:LV}(h:fold2L max2L (evalO ts x) (xs.map (evalO ts))=some v)(k:GL P I nb ops K d r (i+1) ((i,[],[])::acc) ⟨updS ts t v,m⟩): GL P I nb ops K d (⟨some t,.call { callee:=.builtin .max,args:=(x::xs).toArray,argTypes:=tys },ty,pos,af,none⟩::r) i acc ⟨ts,m⟩:=.stepP hI (.max h) (k)
theorem GL.min (hI:InlM I){x:Operand}{xs:List Operand}{tys:Array TypeId}{v:LV}(h:fold2L min2L (evalO ts x) (xs.map (evalO ts))=some v)(k:GL P I nb ops K d r (i+1) ((i,[],[])::acc) ⟨updS ts t v,m⟩): GL P I nb ops K d (⟨some t,.call { callee:=.builtin .min,args:=(x::xs).toArray,argTypes:=tys },ty,pos,af,none⟩::r) i acc ⟨ts,m⟩:=.stepP hI (.min h) (k)
theorem GL.alloc (hI:InlM I){e:TypeId}{cs:List LV}{n:Nat}(h:zeroL P e=some cs)(hn:cs.length=n)(k:∀ g,GL P I nb ops K d r (i+1) ((i,[nb+64*t],[nb+64*t])::acc) ⟨updS ts t (.ref (nb+64*t) g 0 0),updM m (nb+64*t) ⟨g,false,.var,n,[cs]⟩⟩):
  GL P I nb ops K d (⟨some t,.alloc e,ty,pos,af,none⟩::r) i acc ⟨ts,m⟩:=by
 subst hn
 exact .step hI (.alloc h) (by simp) (k _)
def YgF := @GL.alloc
theorem GL.box (hI:InlM I){e:TypeId}{x:Operand}{v:LV}{cs:List LV}{n:Nat}(hx:evalO ts x=v)(h:cellsL v=cs)(hn:cs.length=n)(h1:cs.all oneC=true)
  (k:∀ g,GL P I nb ops K d r (i+1) ((i,[nb+64*t],[nb+64*t])::acc) ⟨updS ts t (.ref (nb+64*t) g 0 0),updM m (nb+64*t) ⟨g,false,.var,n,[cs]⟩⟩):GL P I nb ops K d (⟨some t,.box e x,ty,pos,af,none⟩::r) i acc ⟨ts,m⟩:=by
 subst hn hx
 exact .step hI (.box h h1) (by simp) (k _)
theorem GL.store (hI:InlM I){e:TypeId}{a y:Operand}{b g j c n:Nat}{x:Box}{cs vs cs':List LV}{es':List (List LV)}(hs:szT P e=some n)(ha:evalO ts a=.ref b g j c)(hm:m b=some x)(hg:x.gen=g)(hf:x.frz=false)(hk:x.kind=.var)
  (he:x.es[j]?=some cs) (hy:cellsL (evalO ts y)=vs) (hl:vs.length=n) (h1:vs.all oneC=true) (hc:c+n≤cs.length) (hn:cs.take c++vs++cs.drop (c+n)=cs') (hn':x.es.set j cs'=es')
  (k:GL P I nb ops K d r (i+1) ((i,[b],[b])::acc) ⟨ts,updM m b ⟨g,false,.var,x.sz,es'⟩⟩):GL P I nb ops K d (⟨none,.store e a y,ty,pos,af,none⟩::r) i acc ⟨ts,m⟩:=by
 refine .stepN hI (.store ha hm hg hf (.inl hk) he hs hy hl h1 hc) (by simp[hf]) ?_
 rw[hn,hn']
 simp only[effM,Wn,List.map]
 rw[hg,hf,hk]
 exact k
def Ygx := @GL.store
theorem GL.buildSlice0 (hI:InlM I){e et:TypeId}{n sz:Nat}{ps:Array (Nat × Operand)}{z:List LV}{ps':List (Nat × List LV)}{es:List (List LV)}(ht:sliceE P e=some et)(hz:zeroL P et=some z)(hzl:z.length=sz)(hs:szT P et=some sz)(hn:0<sz)(hb:n*sz≤16777216)(hn0:0<n)(hp:FrzP m sz n (evalO ts) ps.toList ps' [])
  (he:fillE (List.replicate n (z.map pureC)) ps'=es) (k:∀ g,GL P I nb ops K d r (i+1) ((i,[nb+64*t],[nb+64*t])::acc) ⟨updS ts t (.own (nb+64*t) g 0 n none),updM m (nb+64*t) ⟨g,false,.slc,sz,es⟩⟩):GL P I nb ops K d (⟨some t,.buildSlice e n ps,ty,pos,af,none⟩::r) i acc ⟨ts,m⟩:=by
 subst he hzl
 exact .step hI (eff:=[_]) (.buildSlice ht hz hs hn hb hn0 hp) (by simp) (k _)
def Yg9 := @GL.buildSlice0
theorem GL.appendN (hI:InlM I){x y:Operand}{e u et:TypeId}{es:List (List LV)}{z:List LV}{R:List Nat}{sz n:Nat}(ht:sliceE P e=some et)(hu:u=e)(hz:zeroL P et=some z)(hzl:z.length=sz)(hs:szT P et=some sz)(h0:0<sz)(hb:P.bytesOf et≤4096)(hx:evalO ts x=.nils)
  (hy:SrcR m (evalO ts y) sz es R) (hn:es.length=n) (hpos:0<n) (hone:∀ e∈es,e.all oneC=true) (h1:n≤4294967296)
  (k:∀ g,GL P I nb ops K d r (i+1) ((i,[nb+64*t],(nb+64*t)::R)::acc) ⟨updS ts t (.own (nb+64*t) g 0 n none),updM m (nb+64*t) ⟨g,false,.slc,sz,es⟩⟩) :
  GL P I nb ops K d (⟨some t,.call { callee:=.builtin .append,args:=#[x,y],argTypes:=#[e,u] },ty,pos,af,none⟩::r) i acc ⟨ts,m⟩:=by
 subst hzl hn
 exact .step hI (eff:=[_]) (.appendN hx ht hu hz hs h0 hy hpos hone h1 hb) (by simp) (k _)
theorem GL.append (hI:InlM I){x y:Operand}{e u et:TypeId}{b g off len n:Nat}{bx:Box}{es es':List (List LV)}{z:List LV}{R:List Nat}{sz:Nat}(ht:sliceE P e=some et)(hu:u=e)(hz:zeroL P et=some z)(hzl:z.length=sz)(hs:szT P et=some sz)(h0:0<sz)(hb:P.bytesOf et≤4096)
  (hx:evalO ts x=.own b g off len none) (hm:m b=some bx) (hg:bx.gen=g) (hf:bx.frz=false) (hk:bx.kind=.slc) (hsz:bx.sz=sz) (hend:off+len=bx.es.length) (hy:SrcR m (evalO ts y) sz es R) (hyb:b∉R) (hpos:0<es.length) (hone:∀ e∈es,e.all oneC=true) (hn:len+es.length=n) (h1:n≤4294967296)
  (he:bx.es.drop off++es=es') (k:GL P I nb ops K d r (i+1) ((i,[b],b::R)::acc) ⟨updS ts t (.own b (g+1) 0 n none),updM m b ⟨g+1,false,.slc,sz,es'⟩⟩) :
  GL P I nb ops K d (⟨some t,.call { callee:=.builtin .append,args:=#[x,y],argTypes:=#[e,u] },ty,pos,af,none⟩::r) i acc ⟨ts,m⟩:=by
 subst hzl hn he
 refine .step hI (eff:=[_]) (.append hx hm hg hf hk hend ht hu hz hs hsz h0 hy hyb hpos hone h1 hb) (by simp[hf]) ?_
 simp only[effM,Wn,List.map]
 rw[hf,hk,hsz]
 exact k
theorem GL.call0 (hI:InlM I){g:Operand}{as:Array Operand}{tys:Array TypeId}{f:FuncId}{caps args:List LV}{T:List Nat}{res:LV}(hg:evalO ts g=.fn f caps)(hf:Frz m (.agg (as.toList.map (evalO ts)++caps)) (.agg args) T)(hc:CallsV P f args res)
  (hT:unmark m (markE m T)=[]) (ht:topI res=true) (hr:∀ m,impT m (nb+64*t) res=(res,[])) (k:GL P I nb ops K d r (i+1) ((i,[],T)::acc) ⟨updS ts t res,m⟩) :
  GL P I nb ops K d (⟨some t,.call { callee:=.value g,args:=as,argTypes:=tys },ty,pos,af,none⟩::r) i acc ⟨ts,m⟩:=by
 have hm:effM m (markE m T)=m:=by rw[Y0l T fun n x hx=>.inl hx,hT];rfl
 cases d with
 | false =>
  simp only[GL,wantedL]
  refine .call (o:=⟨some t,.call { callee:=.value g,args:=as,argTypes:=tys },ty,pos,af,none⟩) rfl hg hf hc fun r' hr'=>?_
  subst hr'
  refine⟨ht,?_⟩
  simp only[nameO,YeA,hm,hr,effM]
  exact GL.accI hI k
 | true =>
  simp only[GL,wantedL]
  refine⟨_,.call (o:=⟨some t,.call { callee:=.value g,args:=as,argTypes:=tys },ty,pos,af,none⟩) rfl hg hf hc ht,?_⟩
  simp only[nameO,YeA,hm,hr,hT,effM,YdX,Wn,Yfi]
  exact k
def Yg6 := @GL.call0
end
def Has (m:Mem): List (Nat × Box)→Prop
 | []=>True
 | (n,x)::r=>m n=some x∧Has m r
theorem Has.nil {m:Mem}: Has m []:=trivial
def Yg3 := @Has.nil
theorem Has.cons {m:Mem}{n:Nat}{x:Box}{r:List (Nat × Box)}(h:m n=some x)(hr:Has m r): Has m ((n,x)::r):=⟨h,hr⟩
def YfW := @Has.cons
theorem Y01:∀ {bs:List (Nat × Box)}{m:Mem},Has m bs→effM m bs=m
 | [],_,_=>rfl
 | (n,x)::r,m,h=>by
  simp only[effM]
  rw[Ycg h.1]
  exact Y01 h.2
open Go.IntWalk
def In (n:Int): Prop:=-9223372036854775808≤n∧n≤9223372036854775807
section
variable {P:Program}{I:InlP}{nb:Nat}{ops:Array Oper}{K:St→Prop}{r:List Oper}{ts:Slots}{m:Mem}{t:Nat}{ty:TypeId}{pos:String}{af:Array Edge}{d:Bool}{i:Nat}{acc:List (Nat × List Nat × List Nat)}
theorem GL.addR (hI:InlM I){xt yt:TypeId}{x y:Operand}{a b:Int}(hx:evalO ts x=.int .i64 a)(hy:evalO ts y=.int .i64 b)(h:-9223372036854775808≤a+b∧a+b≤9223372036854775807)(k:GL P I nb ops K d r (i+1) ((i,[],[])::acc) ⟨updS ts t (.int .i64 (a+b)),m⟩):
  GL P I nb ops K d (⟨some t,.binOp .add xt x y yt,ty,pos,af,none⟩::r) i acc ⟨ts,m⟩:=.bin hI (v:=.int .i64 (a+b)) (by simp[hx,hy,binL,binI,i64_in _ h]) k
theorem GL.subR (hI:InlM I){xt yt:TypeId}{x y:Operand}{a b:Int}(hx:evalO ts x=.int .i64 a)(hy:evalO ts y=.int .i64 b)(h:-9223372036854775808≤a - b∧a - b≤9223372036854775807)(k:GL P I nb ops K d r (i+1) ((i,[],[])::acc) ⟨updS ts t (.int .i64 (a - b)),m⟩):
  GL P I nb ops K d (⟨some t,.binOp .sub xt x y yt,ty,pos,af,none⟩::r) i acc ⟨ts,m⟩:=.bin hI (v:=.int .i64 (a - b)) (by simp[hx,hy,binL,binI,i64_in _ h]) k
theorem GL.mulR (hI:InlM I){xt yt:TypeId}{x y:Operand}{a b:Int}(hx:evalO ts x=.int .i64 a)(hy:evalO ts y=.int .i64 b)(h:-9223372036854775808≤a*b∧a*b≤9223372036854775807)(k:GL P I nb ops K d r (i+1) ((i,[],[])::acc) ⟨updS ts t (.int .i64 (a*b)),m⟩):
  GL P I nb ops K d (⟨some t,.binOp .mul xt x y yt,ty,pos,af,none⟩::r) i acc ⟨ts,m⟩:=.bin hI (v:=.int .i64 (a*b)) (by simp[hx,hy,binL,binI,i64_in _ h]) k
theorem GL.remR (hI:InlM I){xt yt:TypeId}{x y:Operand}{a b:Int}(hx:evalO ts x=.int .i64 a)(hy:evalO ts y=.int .i64 b)(h:b≠0)(k:GL P I nb ops K d r (i+1) ((i,[],[])::acc) ⟨updS ts t (.int .i64 (a.tmod b)),m⟩):
  GL P I nb ops K d (⟨some t,.binOp .rem xt x y yt,ty,pos,af,none⟩::r) i acc ⟨ts,m⟩:=.bin hI (v:=.int .i64 (a.tmod b)) (by simp[hx,hy,binL,binI,h]) k
theorem GL.quoR (hI:InlM I){xt yt:TypeId}{x y:Operand}{a b:Int}(hx:evalO ts x=.int .i64 a)(hy:evalO ts y=.int .i64 b)(h:-9223372036854775808≤a∧a≤9223372036854775807∧1≤b)(k:GL P I nb ops K d r (i+1) ((i,[],[])::acc) ⟨updS ts t (.int .i64 (a.tdiv b)),m⟩):
  GL P I nb ops K d (⟨some t,.binOp .quo xt x y yt,ty,pos,af,none⟩::r) i acc ⟨ts,m⟩:=by
 have hb:b≠0:=by omega
 exact .bin hI (v:=.int .i64 (a.tdiv b)) (by simp[hx,hy,binL,binI,i64_quo' a b h,hb]) k
theorem GL.splitAt {z:Bool}{l:List Oper}(j:Nat)(hj:ts j=.bool z)(h1:z=true→GL P I nb ops K d l i acc ⟨ts,m⟩)(h2:z=false→GL P I nb ops K d l i acc ⟨ts,m⟩): GL P I nb ops K d l i acc ⟨ts,m⟩:=by
 cases hz:z
 ·exact h2 hz
 ·exact h1 hz
def Yg1 := @GL.splitAt
theorem GL.loadW (hI:InlM I){e:TypeId}{a:Operand}{b g j n:Nat}{x:Box}{cs:List LV}(ht:isAggT P e=some true)(ha:evalO ts a=.ref b g j 0)(hm:m b=some x)(hg:x.gen=g)(hk:x.kind≠.mp)(he:x.es[j]?=some cs)(hs:szT P e=some n)(hn:cs.length=n)
  (k:GL P I nb ops K d r (i+1) ((i,[],[b])::acc) ⟨updS ts t (.agg cs),m⟩):GL P I nb ops K d (⟨some t,.load e a,ty,pos,af,none⟩::r) i acc ⟨ts,m⟩ :=
 .loadA hI ht ha hm hg hk he hs (by omega) (by rw[Ye3,YdP (by omega)]) k
def Ygn := @GL.loadW
theorem GL.loadFW (hI:InlM I){e:TypeId}{a:Operand}{es:List (List LV)}{j n:Nat}{cs:List LV}(ht:isAggT P e=some true)(ha:evalO ts a=.fad es j 0)(he:es[j]?=some cs)(hs:szT P e=some n)(hn:cs.length=n)
  (k:GL P I nb ops K d r (i+1) ((i,[],[])::acc) ⟨updS ts t (.agg cs),m⟩):GL P I nb ops K d (⟨some t,.load e a,ty,pos,af,none⟩::r) i acc ⟨ts,m⟩ :=
 .loadFA hI ht ha he hs (by omega) (by rw[Ye3,YdP (by omega)]) k
def Ygu := @GL.loadFW
theorem GL.storeW (hI:InlM I){e:TypeId}{a y:Operand}{b g n:Nat}{x:Box}{cs vs:List LV}(hs:szT P e=some n)(ha:evalO ts a=.ref b g 0 0)(hm:m b=some x)(hg:x.gen=g)(hf:x.frz=false)(hk:x.kind=.var)
  (he:x.es=[cs]) (hy:cellsL (evalO ts y)=vs) (hl:vs.length=n) (h1:vs.all oneC=true) (hn:cs.length=n)
  (k:GL P I nb ops K d r (i+1) ((i,[b],[b])::acc) ⟨ts,updM m b ⟨g,false,.var,x.sz,[vs]⟩⟩):GL P I nb ops K d (⟨none,.store e a y,ty,pos,af,none⟩::r) i acc ⟨ts,m⟩ :=
 .store hI (cs:=cs) (cs':=vs) (es':=[vs]) hs ha hm hg hf hk (by rw[he];rfl) hy hl h1 (by omega) (by rw[Ye6,YdY,YfN (by omega),YdX]) (by rw[he];rfl) k
def Ygy := @GL.storeW
end
def em {α:Type}(f:α→List LV)(l:List α): List (List LV):=l.map f
theorem Y00 {α:Type}(f:α→List LV)(l:List α): (em f l).length=l.length:=Ye4 ..
theorem Y08 {α:Type}[Inhabited α]{f:α→List LV}{l:List α}{i:Nat}(h:i<l.length): (em f l)[i]?=some (f (l.getD i default)):=by
 simp[em,YdO h]
theorem Ycr {α:Type}{f:α→List LV}{k:Nat}(h:∀ a,(f a).length=k)(l:List α): ∀ e∈em f l,e.length=k:=by
 intro e he
 obtain⟨n,-,rfl⟩:=Ye8.1 he
 exact h n
theorem YaL {α:Type}{f:α→List LV}(h:∀ a,(f a).all oneC=true)(l:List α): ∀ e∈em f l,e.all oneC=true:=by
 intro e he
 obtain⟨n,-,rfl⟩:=Ye8.1 he
 exact h n
theorem Ycl {α:Type}(f:α→List LV)(l:List α)(a:α): (em f l).drop 0++[f a]=em f (l++[a]):=by simp[em]
theorem Y8g {α:Type}(f:α→List LV)(l:List α)(a b:Nat): ((em f l).drop a).take b=em f ((l.drop a).take b):=by simp[em,List.map_take,List.map_drop]
def ni (n:Int): List LV:=[.int .i64 n]
def nr (l:List Int): List LV:=[.sl (em ni l)]
structure Car where
 c0:Int
 c1:Int
 c2:Int
 deriving Inhabited
structure Stop where
 s0:Int
 s1:Int
 s2:Int
 s3:Int
 deriving Inhabited
structure Two where
 p0:Int
 p1:Int
 deriving Inhabited
structure Inst where
 cars:List Car
 stops:List Stop
 pairs:List Two
 travel:List (List Int)
def nc (c:Car): List LV:=[.int .i64 c.c0,.int .i64 c.c1,.int .i64 c.c2]
def ns (s:Stop): List LV:=[.int .i64 s.s0,.int .i64 s.s1,.int .i64 s.s2,.int .i64 s.s3]
def np (p:Two): List LV:=[.int .i64 p.p0,.int .i64 p.p1]
def ic (i:Inst): List LV:=[.sl (em nc i.cars),.sl (em ns i.stops),.sl (em np i.pairs),.sl (em nr i.travel)]
def ei (i:Inst): LV:=.agg (ic i)
def Short {α:Type}(l:List α): Prop:=l.length<1073741824
structure Inst.Short (i:Inst):Prop where
 cars:Mv.Short i.cars
 stops:Mv.Short i.stops
 pairs:Mv.Short i.pairs
 travel:Mv.Short i.travel
 rows:∀ r∈i.travel,Mv.Short r
theorem Inst.Short.row {i:Inst}(h:i.Short)(a:Nat): (i.travel.getD a default).length<1073741824:=by
 by_cases ha:a<i.travel.length
 ·rw[Ye9,YdO ha]
  exact h.rows _ (YeO ha)
 ·rw[Ye9,YeS (by omega)]
  decide
def wadd (a b:Int): Int:=IntKind.i64.wrap (a+b)
def isStop (i:Inst)(n:Int): Bool:=decide (1≤n) && decide (n≤(i.stops.length:Int))
def way (i:Inst)(a b:Int): Int :=
 if a≥(i.travel.length:Int) then 0
 else if b≥((i.travel.getD a.toNat default).length:Int) then 0
 else (i.travel.getD a.toNat default).getD b.toNat default
def within (a n:Int): Int:=if n<1 then 0 else a % n
theorem Y4e (a n:Int)(h:¬ n<1): within a n=if a.tmod n<0 then a.tmod n+n else a.tmod n:=by
 have hn:0<n:=by omega
 have h1:=Int.emod_nonneg a (show n≠0 by omega)
 have h2:=Int.emod_lt_of_pos a hn
 unfold within
 rw[if_neg h,Int.tmod_eq_emod]
 split
 ·rename_i h3
  rw[if_neg (by simp at h3 ⊢;omega)]
  simp
 ·rename_i h3
  have:(n.natAbs:Int)=n:=by omega
  rw[if_pos (by omega)]
  omega
theorem Y09 {α:Type}[Inhabited α]{l:List α}{i:Nat}(h:i<l.length): l.drop i=l.getD i default::l.drop (i+1):=by
 rw[List.drop_eq_getElem_cons h]
 simp[YdO h]
theorem Y0m {α:Type}{l:List α}{i:Nat}(h:¬ i<l.length): l.drop i=[]:=List.drop_eq_nil_of_le (by omega)
def mate:List Two→Int→Int
 | [],_=>0
 | p::r,n=>if n=p.p0 then p.p1 else if n=p.p1 then p.p0 else mate r n
def first:List Two→Int→Bool
 | [],_=>false
 | p::r,n=>if p.p0=n then true else first r n
def index:List Int→Int→Int
 | [],_ => -1
 | x::r,n=>if n=x then 0 else if index r n<0 then -1 else index r n+1
theorem Ybj {l l':List Int}(h:l.length=l'.length)(ha:∀ j,j<l.length→l.getD j default=l'.getD j default): l=l':=by
 refine List.ext_getElem h fun j h1 h2=>?_
 have:=ha j h1
 simpa [YdO h1,YdO h2] using this
theorem Frz.pures {m:Mem}: ∀ {cs:List LV},cs.all pureL=true→Frz m (.agg cs) (.agg cs) []
 | [],_=>.aggn
 | c::cs,h=>by
  simp only[Yfa,Ye0] at h
  exact Frz.aggc (S:=[]) (T:=[]) (.pure h.1) (Frz.pures h.2)
def YfY := @Frz.pures
theorem Frz.whole {m:Mem}{b g n:Nat}{cap:Option Nat}{x:Box}{es:List (List LV)}(hm:m b=Option.some x)(hg:x.gen=g)(hk:x.kind=.slc)(he:x.es=es)(hn:es.length=n): Frz m (.own b g 0 n cap) (.sl es) [b]:=by
 have:=Frz.own (m:=m) (b:=b) (g:=g) (off:=0) (len:=n) (cap:=cap) hm hg hk (by rw[he];omega)
 rw[he,Ye3,YdP (by omega)] at this
 exact this
def Yg5 := @Frz.whole
section
variable {P:Program}{I:InlP}{nb:Nat}{ops:Array Oper}{K:St→Prop}{r:List Oper}{ts:Slots}{m:Mem}{t:Nat}{ty:TypeId}{pos:String}{af:Array Edge}{d:Bool}{i:Nat}{acc:List (Nat × List Nat × List Nat)}
theorem GL.sliceTo (hI:InlM I){α:Type}{f:α→List LV}{l:List α}{st e:TypeId}{x y:Operand}{k:IntKind}{n:Int}{sz j:Nat}(ht:sliceE P st=some e)(hs:szT P e=some sz)(hx:evalO ts x=.sl (em f l))(hy:evalO ts y=.int k n)(hz:∀ e∈em f l,e.length=sz)(h0:0≤n)(h1:n≤(l.length:Int))(hj:n.toNat=j)
  (kk:GL P I nb ops K d r (i+1) ((i,[],[])::acc) ⟨updS ts t (.sl (em f (l.take j))),m⟩):GL P I nb ops K d (⟨some t,.slice st x none (some y) none,ty,pos,af,none⟩::r) i acc ⟨ts,m⟩:=by
 subst hj
 refine .stepP hI (.sliceF (l:=0) (h:=n.toNat) hx ht hs hz rfl (by simp[bndL,hy,h0]) (Ye1 _) (by rw[Y00];omega)) ?_
 rw[Y8g,Ye3,Nat.sub_zero]
 exact kk
theorem GL.sliceFrom (hI:InlM I){α:Type}{f:α→List LV}{l:List α}{st e:TypeId}{x y:Operand}{k:IntKind}{n:Int}{sz j:Nat}(ht:sliceE P st=some e)(hs:szT P e=some sz)(hx:evalO ts x=.sl (em f l))(hy:evalO ts y=.int k n)(hz:∀ e∈em f l,e.length=sz)(h0:0≤n)(h1:n≤(l.length:Int))(hj:n.toNat=j)
  (kk:GL P I nb ops K d r (i+1) ((i,[],[])::acc) ⟨updS ts t (.sl (em f (l.drop j))),m⟩):GL P I nb ops K d (⟨some t,.slice st x (some y) none none,ty,pos,af,none⟩::r) i acc ⟨ts,m⟩:=by
 subst hj
 refine .stepP hI (.sliceF (l:=n.toNat) (h:=l.length) hx ht hs hz (by simp[bndL,hy,h0]) (by simp[bndL,Y00]) (by omega) (by rw[Y00];omega)) ?_
 rw[Y8g,YdP (by simp)]
 exact kk
end
theorem Short.take {α:Type}{l:List α}(h:Short l)(k:Nat): Short (l.take k):=by
 unfold Short at *
 simp
 omega
theorem Y8m:∀ (l:List Int) (n:Int),index l n<(l.length:Int)
 | [],n=>by simp[index]
 | x::r,n=>by
  have:=Y8m r n
  simp only[index,Yen]
  split
  ·omega
  ·split <;> omega
theorem Y2f:∀ (l:List Int) (n:Int),-1≤index l n
 | [],n=>by simp[index]
 | x::r,n=>by
  have:=Y2f r n
  simp only[index]
  split
  ·omega
  ·split <;> omega
theorem Y12:∀ (l:List Int) (n:Int) (k:Nat),k≤l.length→(∀ j,j<k→n≠l.getD j default)→index l n=if index (l.drop k) n<0 then -1 else index (l.drop k) n+(k:Int)
 | l,n,0,_,_=>by
  have:=Y2f l n
  simp only[Ye3]
  split <;> omega
 | [],n,k+1,hk,_=>by simp at hk
 | x::r,n,k+1,hk,h=>by
  have h0:=h 0 (by omega)
  have hr:=Y12 r n k (by simpa using hk) fun j hj=>by have:=h (j+1) (by omega);simpa using this
  simp only[index,YdU]
  rw[if_neg (by simpa using h0),hr]
  have:=Y2f (r.drop k) n
  split
  ·simp
  ·rw[if_neg (by omega)]
   omega
def has (l:List Int)(n:Int): Bool:=decide (index l n≥0)
def chk (i:Inst)(l:List Int)(k:Nat)(x:Int): Bool :=
 isStop i x && !has (l.take k) x && (decide (mate i.pairs x=0) || (decide (¬ index l (mate i.pairs x)<0) && (first i.pairs x == decide (index l (mate i.pairs x)>(k:Int)))))
def order (i:Inst)(l:List Int): Bool:=(List.range l.length).all fun k=>chk i l k (l.getD k default)
theorem Y5b {i:Inst}{l:List Int}(h:∀ k,k<l.length→chk i l k (l.getD k default)=true): order i l=true:=by
 unfold order
 rw[Yed]
 exact fun k hk=>h k (YeI.1 hk)
theorem Y1c {i:Inst}{l:List Int}{k:Nat}(hk:k<l.length)(h:chk i l k (l.getD k default)=false): order i l=false:=by
 unfold order
 rw[List.all_eq_false]
 exact⟨k,YeI.2 hk,by simpa using h⟩
theorem Y60 {i:Inst}{n:Int}(h:isStop i n=true): 0≤n:=by
 simp[isStop] at h
 omega
theorem Y0w {i:Inst}{n:Int}(h:isStop i n=true): 1≤n∧n≤(i.stops.length:Int):=by
 simp[isStop] at h
 exact h
def costGo (i:Inst): Int→Int→List Int→Int
 | at',s,[]=>wadd s (way i at' 0)
 | at',s,x::r=>if isStop i x then costGo i x (wadd s (way i at' x)) r else 0
def cost (i:Inst)(l:List Int): Int:=costGo i 0 0 l
theorem Inv.noBox {X:Ctx}{st:St}{a:Act}{w:World}{F:Nat→Prop}{ρ:Locs}(h:Inv X st a w F ρ)(b sz:Nat):
  Inv X ⟨st.ts,updM st.m b ⟨genAt st.m b,false,.slc,sz,[]⟩⟩ a w F (updRo ρ b none)∧Compat st.m ρ (updM st.m b ⟨genAt st.m b,false,.slc,sz,[]⟩) (updRo ρ b none) :=
 h.adopt (fun k hk=>Y0f _ _ (Ne.symm hk)) rfl rfl (fun l hl=>by rw[Y05] at hl;cases hl) fun _=>Ygc (by simp) (by rw[Y05];exact rfl)
theorem Ya4 {w:World}{F:Nat→Prop}{ρ:Locs}{m:Mem}{b g sz:Nat}{v:Value}(hv:v=.slice none 0 0)(hm:m b=some ⟨g,false,.slc,sz,[]⟩)(hr:ρ b=none): RelL w F ρ m v (.own b g 0 0 none):=by
 subst hv
 refine .own rfl hm (Ye2 _) fun _=>⟨rfl,Ye2 _,?_⟩
 rw[hr]
 exact⟨none,rfl⟩
theorem Weak.nilSlot {ts:Slots}{m:Mem}{j:Nat}(b sz:Nat)(hj:ts j=.nils): Weak ⟨ts,m⟩ ⟨updS ts j (.own b (genAt m b) 0 0 none),updM m b ⟨genAt m b,false,.slc,sz,[]⟩⟩:=by
 intro X a w F ρ h
 obtain⟨h1,h2⟩:=h.noBox b sz
 refine⟨F,_,{ h1 with slots:=fun i=>?_ }⟩
 by_cases hi:j=i
 ·subst hi
  have hv:=h.slots j
  change RelL w F ρ m _ (ts j) at hv
  rw[hj] at hv
  show RelL w F _ _ _ (updS ts j _ j)
  rw[Y0N]
  exact Ya4 hv.nils (Y07 _ _ _) (Y05 _ _ _)
 ·show RelL w F _ _ _ (updS ts j _ i)
  rw[Y3u _ _ hi]
  exact h1.slots i
def Ygp := @Weak.nilSlot
theorem Weak.nilCell {ts:Slots}{m:Mem}{n c:Nat}{x:Box}{cs:List LV}(b sz:Nat)(hn:m n=some x)(hf:x.frz=false)(hk:x.kind=.var)(he:x.es=[cs])(hc:cs[c]?=some .nils)(hb:Nat.beq b n=false):
  Weak ⟨ts,m⟩ ⟨ts,updM (updM m b ⟨genAt m b,false,.slc,sz,[]⟩) n ⟨x.gen,false,.var,x.sz,[cs.set c (.own b (genAt m b) 0 0 none)]⟩⟩:=by
 intro X a w F ρ h
 have hbn:b≠n:=fun e=>by rw[e,Yfx] at hb;cases hb
 obtain⟨h1,-⟩:=h.noBox b sz
 have hn1:(updM m b ⟨genAt m b,false,.slc,sz,[]⟩) n=some x:=by rw[Y0e _ _ hbn];exact hn
 have hcl:=Ygg (by rw[hk];simp) (h1.boxes n x hn1)
 refine⟨F,_,h1.write (n:=n) (ρ':=updRo ρ b none) (x':=⟨x.gen,false,.var,x.sz,[cs.set c (.own b (genAt m b) 0 0 none)]⟩) rfl rfl rfl (Ye2 _) (fun _ _ _=>rfl) (fun _ _=>rfl) rfl (fun y hy=>?_) (fun l hl=>?_) fun hcm _=>?_⟩
 ·change (updM m b _) n=some y at hy
  rw[hn1] at hy
  injection hy with hy
  subst hy
  exact .inl ⟨rfl,rfl,rfl,.inr (by rw[he];rfl),hk.symm⟩
 ·exact⟨(h1.place n x l hn1 hl).1,.inr ⟨x,l,hn1,hf,hl,rfl⟩⟩
 ·refine Ygc (by simp) ?_ (fun _=>(h1.boxes n x hn1).ext hk)
  unfold CellsOK at hcl ⊢
  cases hr:updRo ρ b none n with
  | none =>
   rw[hr] at hcl
   have hcl':x.es=[]:=hcl
   rw[he] at hcl'
   cases hcl'
  | some l =>
   rw[hr] at hcl
   obtain⟨ks,t,g1,g2,g3,g4,g5⟩:=hcl
   rw[he] at g3 g4 g5
   rw[hk] at g5
   refine⟨ks,t,g1,g2,g3,fun e hh=>?_,fun i e k q hi hq=>?_⟩
   ·simp at hh
    subst hh
    rw[YdQ]
    exact g4 cs (by simp)
   ·have hi0:i=0:=by have:=(YdM.1 hi).1;simp at this;omega
    subst hi0
    simp only[Yew,Yem] at hi
    subst hi
    by_cases hkc:c=k
    ·subst hkc
     have hlt:c<cs.length:=(YdM.1 hc).1
     rw[YeH hlt] at hq
     injection hq with hq
     subst hq
     obtain⟨v,hv,hrel⟩:=g5 0 cs c .nils (by simp) hc
     refine⟨v,hv,?_⟩
     have hv2:=(show RelL w F _ _ v .nils from hrel).nils
     exact Ya4 hv2 (by rw[Y0e _ _ (Ne.symm hbn)];exact Y07 _ _ _) (Y05 _ _ _)
    ·rw[YeF hkc] at hq
     obtain⟨v,hv,hrel⟩:=g5 0 cs k q (by simp) hq
     exact⟨v,hv,(show RelL w F _ _ v q from hrel).mono (fun _ h=>h) (fun _ _=>rfl) hcm⟩
def Ygi := @Weak.nilCell
section
variable {P:Program}{I:InlP}{nb:Nat}{Q:Ex→St→Prop}{ops:Array Oper}{K:St→Prop}{r:List Oper}{ts:Slots}{m:Mem}{t:Nat}{ty:TypeId}{pos:String}{af:Array Edge}{d:Bool}{i:Nat}{acc:List (Nat × List Nat × List Nat)}
theorem goWeak {y:Code}{s s':St}(hw:Weak s s')(h:Wp P I nb y Q s'): thenX (fun s=>∃ s',Weak s s'∧Wp P I nb y Q s') Q .normal s:=⟨s',hw,h⟩
theorem GL.append1 (hI:InlM I){α:Type}{f:α→List LV}{l:List α}{v:α}{x y:Operand}{e u et:TypeId}{b g n b' g':Nat}{cap:Option Nat}{bx by':Box}{z:List LV}{sz:Nat}(hz:zeroL P et=some z)(hzl:z.length=sz)(hs:szT P et=some sz)(ht:sliceE P e=some et)(hu:u=e)(h0:0<sz)(hb:P.bytesOf et≤4096)
  (hx:evalO ts x=.own b g 0 n none) (hm:m b=some bx) (hg:bx.gen=g) (hf:bx.frz=false) (hk:bx.kind=.slc) (hsz:bx.sz=sz) (he:bx.es=em f l) (hn:n=l.length)
  (hy:evalO ts y=.own b' g' 0 1 cap) (hm':m b'=some by') (hg':by'.gen=g') (hk':by'.kind=.slc) (hsz':by'.sz=sz) (he':by'.es=[f v]) (hbb:Nat.beq b b'=false) (h1:(f v).all oneC=true) (hle:n+1≤4294967296)
  (k:GL P I nb ops K d r (i+1) ((i,[b],[b,b'])::acc) ⟨updS ts t (.own b (g+1) 0 (n+1) none),updM m b ⟨g+1,false,.slc,sz,em f (l++[v])⟩⟩) :
  GL P I nb ops K d (⟨some t,.call { callee:=.builtin .append,args:=#[x,y],argTypes:=#[e,u] },ty,pos,af,none⟩::r) i acc ⟨ts,m⟩:=by
 have hbn:b≠b':=fun e=>by rw[e,Yfx] at hbb;cases hbb
 have hsrc:SrcR m (evalO ts y) sz [f v] [b']:=by
  rw[hy]
  have:=SrcR.own (m:=m) (b:=b') (g:=g') (off:=0) (len:=1) (cap:=cap) hm' hg' hk' (by rw[he'];simp)
  rw[he',hsz'] at this
  exact this
 exact .append hI ht hu hz hzl hs h0 hb hx hm hg hf hk hsz (by rw[he,Y00];omega) hsrc (by simpa using hbn) (by simp) (by simpa using h1) rfl hle (by rw[he];exact Ycl f l v) k
def Ygj := @GL.append1
end
structure Trip where
 t0:List Int
 t1:List Int
 t2:Int
 t3:Int
 deriving DecidableEq
def zeroT:Trip:=⟨[],[],0,0⟩
def nt (t:Trip): List LV:=[.sl (em ni t.t0),.sl (em ni t.t1),.int .i64 t.t2,.int .i64 t.t3]
def imax (x y:Int): Int:=if y>x then y else x
def stopAt (i:Inst)(x:Int): Stop:=i.stops.getD (x - 1).toNat default
def evalGo (i:Inst)(c:Car)(at' clock load:Int)(ss ls:List Int): List Int→Option (List Int × List Int × Int)
 | []=>if wadd clock (way i at' 0)>c.c2 then none else some (ss,ls,wadd clock (way i at' 0))
 | x::r =>
  if imax (stopAt i x).s1 (wadd clock (way i at' x))>(stopAt i x).s2∨wadd load (stopAt i x).s0<0∨wadd load (stopAt i x).s0>c.c0 then none
  else evalGo i c x (wadd (imax (stopAt i x).s1 (wadd clock (way i at' x))) (stopAt i x).s3) (wadd load (stopAt i x).s0) (ss++[imax (stopAt i x).s1 (wadd clock (way i at' x))]) (ls++[wadd load (stopAt i x).s0]) r
def eval (i:Inst)(car:Int)(l:List Int): Option Trip :=
 if car<0∨car≥(i.cars.length:Int)∨order i l=false then none
 else (evalGo i (i.cars.getD car.toNat default) 0 (i.cars.getD car.toNat default).c1 0 [] [] l).map fun r=>⟨r.1,r.2.1,cost i l,r.2.2⟩
def tripR (o:Option Trip): LV:=.tup [.agg (nt (o.getD zeroT)),.bool o.isSome]
theorem Y5j {i:Inst}{l:List Int}(h:order i l=true)(k:Nat)(hk:k<l.length): isStop i (l.getD k default)=true:=by
 unfold order at h
 rw[Yed] at h
 have:=h k (YeI.2 hk)
 unfold chk at this
 simp only[Ye0] at this
 exact this.1.1
theorem Y1l {i:Inst}{car:Int}{l:List Int}(h:car<0∨car≥(i.cars.length:Int)∨order i l=false): eval i car l=none:=by
 rw[eval,if_pos h]
theorem Y44 {i:Inst}{car:Int}{l:List Int}(h0:¬ car<0)(h1:¬ car≥(i.cars.length:Int))(h2:order i l=true){r:Option (List Int × List Int × Int)}(h:evalGo i (i.cars.getD car.toNat default) 0 (i.cars.getD car.toNat default).c1 0 [] [] l=r):
  eval i car l=r.map fun r=>⟨r.1,r.2.1,cost i l,r.2.2⟩:=by
 rw[eval,if_neg (by rw[h2];simp;omega),h]
inductive EvS (ts:Slots):List (Nat × Operand)→List (Nat × LV)→Prop
 | nil:EvS ts [] []
 | cons {i:Nat}{x:Operand}{v:LV}{r:List (Nat × Operand)}{r':List (Nat × LV)}(h:evalO ts x=v) (hs:EvS ts r r'):EvS ts ((i,x)::r) ((i,v)::r')
theorem EvS.map {ts:Slots}{ps:List (Nat × Operand)}{vs:List (Nat × LV)}(h:EvS ts ps vs): (ps.map fun (i,x)=>(i,evalO ts x))=vs:=by
 induction h with
 | nil=>rfl
 | cons h hs ih=>simp only[Yey,h,ih]
theorem EvS.all {ts:Slots}{ps:List (Nat × Operand)}{vs:List (Nat × LV)}(h:EvS ts ps vs): (ps.all fun p=>(cellsL (evalO ts p.2)).all oneC)=vs.all fun p=>(cellsL p.2).all oneC:=by
 induction h with
 | nil=>rfl
 | cons h hs ih=>simp only[Yfa,h,ih]
def setsL (place:Nat→Option (Nat × Nat))(n:Nat): List LV→List (Nat × LV)→Option (List LV)
 | cs,[]=>some cs
 | cs,(i,v)::r =>
  match place i with
  | some (off,1)=>bif oneC v && Nat.blt off n then setsL place n (cs.set off v) r else none
  | _=>none
theorem Y95 {v:LV}(h:oneC v=true): cellsL v=[v]:=by
 cases v <;> first | rfl | cases h
theorem Y4W {place:Nat→Option (Nat × Nat)}: ∀ {parts:List (Nat × LV)}{cs r:List LV},setsL place cs.length cs parts=some r→fillL place cs parts=some r
 | [],_,_,h=>h
 | (i,v)::t,cs,r,h=>by
  simp only[setsL] at h
  simp only[fillL]
  split at h
  ·rename_i off hp
   rw[hp]
   cases hb:(oneC v && Nat.blt off cs.length) with
   | false=>rw[hb] at h;cases h
   | true =>
    rw[hb] at h
    simp only[Ye0] at hb
    have hlt:off<cs.length:=by have:=hb.2;simp[Nat.blt] at this;omega
    have e:=Y95 hb.1
    rw[e]
    show (if [v].length=1∧off+1≤cs.length then fillL place (cs.take off++[v]++cs.drop (off+1)) t else none)=some r
    rw[if_pos ⟨rfl,by omega⟩]
    have e2:cs.take off++[v]++cs.drop (off+1)=cs.set off v:=by
     rw[List.set_eq_take_append_cons_drop,if_pos hlt]
     simp
    rw[e2]
    refine Y4W (cs:=cs.set off v) ?_
    rw[YdQ]
    exact h
  ·cases h
section
variable {P:Program}{I:InlP}{nb:Nat}{Q:Ex→St→Prop}{ops:Array Oper}{K:St→Prop}{r:List Oper}{ts:Slots}{m:Mem}{t:Nat}{ty:TypeId}{pos:String}{af:Array Edge}{d:Bool}{i:Nat}{acc:List (Nat × List Nat × List Nat)}
theorem GL.buildSliceM (hI:InlM I){e et:TypeId}{n sz:Nat}{ps:Array (Nat × Operand)}{z:List LV}{ps':List (Nat × List LV)}{T:List Nat}{m':Mem}{es:List (List LV)}(ht:sliceE P e=some et)(hz:zeroL P et=some z)(hzl:z.length=sz)(hs:szT P et=some sz)(hn:0<sz)(hb:n*sz≤16777216)(hn0:0<n)
  (hp:FrzP m sz n (evalO ts) ps.toList ps' T) (hm:effM m (markE m T)=m') (he:fillE (List.replicate n (z.map pureC)) ps'=es) (k:∀ g,GL P I nb ops K false r (i+1) acc ⟨updS ts t (.own (nb+64*t) g 0 n none),updM m' (nb+64*t) ⟨g,false,.slc,sz,es⟩⟩) :
  GL P I nb ops K false (⟨some t,.buildSlice e n ps,ty,pos,af,none⟩::r) i acc ⟨ts,m⟩:=by
 subst he hzl hm
 simp only[GL,wantedL]
 refine .op (o:=⟨some t,.buildSlice e n ps,ty,pos,af,none⟩) (.buildSlice ht hz hs hn hb hn0 hp) ?_
 rw[Y0b]
 exact k _
theorem GL.callM0 (hI:InlM I){g:Operand}{as:Array Operand}{tys:Array TypeId}{f:FuncId}{caps args:List LV}{T:List Nat}{res:LV}{m':Mem}(hg:evalO ts g=.fn f caps)(hf:Frz m (.agg (as.toList.map (evalO ts)++caps)) (.agg args) T)(hc:CallsV P f args res)
  (hT:effM m (markE m T)=m') (ht:topI res=true) (hr:∀ m,impT m (nb+64*t) res=(res,[])) (k:GL P I nb ops K false r (i+1) acc ⟨updS ts t res,m'⟩) :
  GL P I nb ops K false (⟨some t,.call { callee:=.value g,args:=as,argTypes:=tys },ty,pos,af,none⟩::r) i acc ⟨ts,m⟩:=by
 simp only[GL,wantedL]
 refine .call (o:=⟨some t,.call { callee:=.value g,args:=as,argTypes:=tys },ty,pos,af,none⟩) rfl hg hf hc fun r' hr'=>?_
 subst hr'
 refine⟨ht,?_⟩
 simp only[nameO,YeA,hT,hr,effM]
 exact k
theorem GL.buildS (hI:InlM I){e:TypeId}{ps:Array (Nat × Operand)}{vs:List (Nat × LV)}{z cs:List LV}{n:Nat}(hz:zeroL P e=some z)(hn:z.length=n)(hs:sizesOk P e=true)(hv:EvS ts ps.toList vs)(hp:(vs.all fun p=>(cellsL p.2).all oneC)=true)(h:setsL (placeS P e) n z vs=some cs)
  (k:GL P I nb ops K d r (i+1) ((i,[],[])::acc) ⟨updS ts t (.agg cs),m⟩):GL P I nb ops K d (⟨some t,.build e ps,ty,pos,af,none⟩::r) i acc ⟨ts,m⟩:=by
 subst hn
 refine .build hI ?_ (by rw[hv.all];exact hp) k
 rw[hv.map,buildL,hz]
 simp only[hs,if_true,Y4W h,Yf1]
def Ygt := @GL.buildS
end
open Go.RowKit
theorem RelI.bool {w:World}{F:Nat→Prop}{v:Value}{b:Bool}{O:List Nat}(h:RelI w F v (.bool b) O): v=.bool b:=by
 cases h with
 | frz h=>cases h;rfl
theorem law_walk {P:Program}{f:FuncId}{vs:Array Value}{args:List LV}{w:World}(h:CallsV P f args (.bool true))(hr:RelF w (fun b=>b<w.heap.size) (.agg vs) (.agg args)):
  Calls P f vs w fun e w'=>e=.returned (.bool true)∧Below w.heap.size w w':=by
 refine Calls.mono (h.2 w _ vs hr fun _ h=>h) fun e w' he=>?_
 obtain⟨v,res,F',O,rfl,hR,hext,-,-,-,q4,-,-⟩:=he
 subst hR
 rw[q4.bool]
 exact⟨rfl,hext.os,hext.tape,hext.output,hext.size,fun k hk=>hext.block k hk (by simp)⟩
theorem RelF.nil {w:World}{F:Nat→Prop}: RelF w F (.agg #[]) (.agg []):=.agg rfl fun i v l hv=>by simp at hv
theorem RelF.cons {w:World}{F:Nat→Prop}{v:Value}{vs:List Value}{l:LV}{ls:List LV}(h:RelF w F v l)(hs:RelF w F (.agg vs.toArray) (.agg ls)): RelF w F (.agg (v::vs).toArray) (.agg (l::ls)):=by
 obtain⟨cs,e1,e2,e3⟩:=hs.cells
 injection e1 with e1
 subst e1
 refine .agg (by simp at e2 ⊢;exact e2) fun i u q hu hq=>?_
 cases i with
 | zero =>
  simp at hu hq
  subst hu hq
  exact h
 | succ i=>exact e3 i u q (by simpa using hu) (by simpa using hq)
open Go.ChangeShapes Go.WideShapes Go.RowKit
structure Ints (z:List Int):Prop where
 len:z.length≤maxLen
 num:∀ n∈z,(Lit.int .i64 n).wf=true
theorem Y74 {z:List Int}{i:Nat}(h:i<z.length): z.getD i 0∈z:=by
 rw[Ye9,YdO h]
 exact YeO h
theorem ints_in {H:Type}{enc:TypeId × Value→H}{P:Program}{w:World}{base:Nat}{spare:Nat→Bool}{held:Bool}{t e:TypeId}{fuel:Nat}{a:Option Addr}{len cap:Nat}{x:DataW H × List MemPlace}
  (ht:P.underlying t=some (.slice e)) (he:P.underlying e=some (.int .i64)) (hc:P.cellsOf e=1) (h:DataW.trod enc P w base spare held fuel t [.slice a len cap]=some x) :
  ∃ z,RelF w (fun b=>b<w.heap.size) (.slice a len cap) (.sl (em ni z))∧Ints z:=by
 rcases open_ints ht he hc h with ⟨hcs,-⟩ | ⟨ad,l,c,zs,hcs,-,hl,hm,hz,-,hcell,hw⟩
 ·injection hcs with h1
  injection h1 with h1 h2 h3
  subst h1 h2 h3
  exact⟨[],.sl (blk:=0) (off:=0) (sz:=1) (fun _ _=>.int .i64 0) rfl (Ye2 _) (fun h=>absurd h (by omega)) (fun e he=>by cases he) (fun i e c l he=>by simp[em] at he) (fun i e c l he=>by simp[em] at he),⟨Ye1 _,by simp⟩⟩
 ·injection hcs with h1
  injection h1 with h1 h2 h3
  subst h1 h2 h3
  have hlz:len≤zs.length:=by rw[hz];split <;> omega
  have htl:(zs.take len).length=len:=by simp;omega
  refine⟨zs.take len,?_,⟨by omega,fun n hn=>hw n (YeC hn)⟩⟩
  obtain⟨b,o,s⟩:=ad
  by_cases h0:0<len
  ·have hc0:=hcell 0 (by omega)
   have hs:s=none:=by
    have e0:(⟨b,o,s⟩:Addr).add 0=⟨b,o,s⟩:=by simp[Addr.add]
    rw[e0] at hc0
    exact World.cell?_spot hc0
   subst hs
   have hb:b<w.heap.size:=by
    rw[Y0g] at hc0
    simp only[World.cell?] at hc0
    cases hq:w.heap[b]? with
    | none=>rw[hq] at hc0;simp at hc0
    | some u=>exact (Yeh.1 hq).1
   refine .sl (blk:=b) (off:=o) (sz:=1) (fun i _=>.int .i64 (zs.getD i 0)) (by rw[Y00,htl]) hl (fun _=>⟨rfl,hb⟩) (fun e he=>by obtain⟨n,-,rfl⟩:=Ye8.1 he;rfl) (fun i e c l he hq=>?_) fun i e c l he hq=>?_
   ·have hi:i<len:=by have:=(YdM.1 he).1;rw[Y00,htl] at this;exact this
    rw[Y08 (by rw[htl];exact hi)] at he
    injection he with he
    subst he
    have hc1:c=0:=by have:=(YdM.1 hq).1;simp[ni] at this;exact this
    subst hc1
    have:=hcell i (by omega)
    rw[Y0g] at this
    simpa using this
   ·have hi:i<len:=by have:=(YdM.1 he).1;rw[Y00,htl] at this;exact this
    rw[Y08 (by rw[htl];exact hi)] at he
    injection he with he
    subst he
    have hc1:c=0:=by have:=(YdM.1 hq).1;simp[ni] at this;exact this
    subst hc1
    simp only[ni,Yew,Yem] at hq
    subst hq
    have:(zs.take len).getD i default=zs.getD i 0:=by
     simp[YeU,hi]
    rw[this]
    exact .int _ _
  ·have hl0:len=0:=by omega
   subst hl0
   exact .sl (blk:=0) (off:=0) (sz:=1) (fun _ _=>.int .i64 0) (by simp[em]) hl (fun h=>absurd h (by omega)) (fun e he=>by simp[em] at he) (fun i e c l he=>by simp[em] at he) (fun i e c l he=>by simp[em] at he)
open Go.IntWalk
theorem Y5K (a b:Int): In (wadd a b):=by
 unfold wadd In
 rw[IntKind.wrap_i64]
 omega
theorem Ints.at {z:List Int}(h:Ints z)(i:Nat): In (z.getD i default):=by
 by_cases hi:i<z.length
 ·have:=h.num _ (Y74 hi)
  simp only[Lit.wf,Ye0,decide_eq_true_eq] at this
  exact this
 ·rw[Ye9,YeS (by omega)]
  unfold In
  decide
def num (z:List Int)(k:Int): Int :=
 if z.length=0 then k*7 else wadd ((z.getD (k.tmod z.length).toNat default).tdiv (1+k.tdiv z.length)) (k.tdiv z.length)
theorem Ych (z:List Int){k:Int}(h0:0≤k)(h1:k<1000000): In (num z k):=by
 unfold num
 split
 ·unfold In
  omega
 ·exact Y5K _ _
theorem Y03 {a n:Int}(h:1≤n): 0≤within a n∧within a n<n:=by
 unfold within
 rw[if_neg (by omega)]
 exact⟨Int.emod_nonneg _ (by omega),Int.emod_lt_of_pos _ (by omega)⟩
theorem Y0H {a b:Int}(h:(a != b)=true): a≠b:=by simpa using h
theorem Y0s {a b:Int}(h:(a != b)=false): a=b:=by simpa using h
theorem Y0M {α:Type}(f:α→List LV)(l:List α)(j:Nat)(v:α): (em f l).set j (f v)=em f (l.set j v):=by simp[em,List.map_set]
theorem Y3w {α:Type}(f:α→List LV)(n:Nat)(a:α): em f (List.replicate n a)=List.replicate n (f a):=by simp[em]
section
variable {P:Program}{I:InlP}{nb:Nat}{Q:Ex→St→Prop}{ops:Array Oper}{K:St→Prop}{r:List Oper}{ts:Slots}{m:Mem}{t:Nat}{ty:TypeId}{pos:String}{af:Array Edge}{d:Bool}{i:Nat}{acc:List (Nat × List Nat × List Nat)}
theorem GL.storeS (hI:InlM I){e:TypeId}{a y:Operand}{b g j c n:Nat}{x:Box}{cs vs cs':List LV}{es':List (List LV)}(hs:szT P e=some n)(ha:evalO ts a=.ref b g j c)(hm:m b=some x)(hg:x.gen=g)(hf:x.frz=false)(hk:x.kind=.slc)
  (he:x.es[j]?=some cs) (hy:cellsL (evalO ts y)=vs) (hp:vs.all pureL=true) (hl:vs.length=n) (h1:vs.all oneC=true) (hc:c+n≤cs.length) (hn:cs.take c++vs++cs.drop (c+n)=cs') (hn':x.es.set j cs'=es')
  (k:GL P I nb ops K d r (i+1) ((i,[b],[b])::acc) ⟨ts,updM m b ⟨g,false,.slc,x.sz,es'⟩⟩):GL P I nb ops K d (⟨none,.store e a y,ty,pos,af,none⟩::r) i acc ⟨ts,m⟩:=by
 refine .stepN hI (eff:=[_]) (R:=[b]) (.storeP (T:=[]) ha hm hg hf hk he hs (by rw[hy];exact YfY hp) (by simp) hl h1 hc) (by simp[hf]) ?_
 rw[hn,hn']
 simp only[effM,Wn,List.map]
 rw[hg,hf,hk]
 exact k
def Ygs := @GL.storeS
theorem GL.negR (hI:InlM I){xt:TypeId}{x:Operand}{a:Int}(hx:evalO ts x=.int .i64 a)(h:-9223372036854775807≤a∧a≤9223372036854775807)(k:GL P I nb ops K d r (i+1) ((i,[],[])::acc) ⟨updS ts t (.int .i64 (-a)),m⟩):
  GL P I nb ops K d (⟨some t,.unOp .neg xt x,ty,pos,af,none⟩::r) i acc ⟨ts,m⟩ :=
 .un hI (v:=.int .i64 (-a)) (by rw[hx];show some (LV.int .i64 (IntKind.i64.wrap (0 - a)))=_;rw[Go.IntWalk.i64_in _ (by omega)];congr 2;omega) k
theorem GL.conv (hI:InlM I){s e:TypeId}{x:Operand}{v:LV}(h:convL P s e (evalO ts x)=some v)(hs:(P.underlying s).isSome=true)(k:GL P I nb ops K d r (i+1) ((i,[],[])::acc) ⟨updS ts t v,m⟩):
  GL P I nb ops K d (⟨some t,.convert s e x,ty,pos,af,none⟩::r) i acc ⟨ts,m⟩:=.stepP hI (.conv h hs) k
theorem GL.makeSlice (hI:InlM I){tt e:TypeId}{ln cp:Operand}{n:Int}{j:Nat}{z:List LV}{sz:Nat}(ht:sliceE P tt=some e)(hz:zeroL P e=some z)(hs:szT P e=some sz)(hzl:z.length=sz)(h0:0<sz)(hn:evalO ts ln=.int .i64 n)(hc:evalO ts cp=.int .i64 n)(h1:0≤n)(h2:n≤4294967296)(hb:P.bytesOf e≤4096)(hj:n.toNat=j)
  (k:∀ g,GL P I nb ops K d r (i+1) ((i,[nb+64*t],[nb+64*t])::acc) ⟨updS ts t (.own (nb+64*t) g 0 j none),updM m (nb+64*t) ⟨g,false,.slc,sz,List.replicate j (z.map pureC)⟩⟩) :
  GL P I nb ops K d (⟨some t,.makeSlice tt ln cp,ty,pos,af,none⟩::r) i acc ⟨ts,m⟩:=by
 subst hj hzl
 exact .step hI (.makeSlice ht hz hs h0 hn hc h1 (Int.le_refl n) h2 hb) (by simp) (k _)
end
def carOf (z:List Int)(k:Int): Car :=
 ⟨[20,60,9,30].getD (within (num z (1+k)) 4).toNat default,within ((num z (1+k)).tdiv 4) 9,[1000,200,90,60].getD (within ((num z (1+k)).tdiv 36) 4).toNat default⟩
def imin (x y:Int): Int:=if y<x then y else x
def stopOf (z:List Int)(k:Int): Stop :=
 ⟨if within (num z (5+k)) 9=8 then -1 - within ((num z (5+k)).tdiv 9) 4 else within (num z (5+k)) 8,within ((num z (5+k)).tdiv 8) 30,
  imin (within ((num z (5+k)).tdiv 8) 30+[900,60,25,8].getD (within ((num z (5+k)).tdiv 7) 4).toNat default) 1000,within ((num z (5+k)).tdiv 240) 6⟩
def nCars (z:List Int): Nat:=(1+within (num z 0) 3).toNat
def nStops (z:List Int): Nat:=(2+within (num z 4) 7).toNat
def cars (z:List Int)(n:Nat): List Car:=(List.range n).map fun k:Nat=>carOf z (k:Int)
def stops0 (z:List Int)(n:Nat): List Stop:=(List.range n).map fun k:Nat=>stopOf z (k:Int)
theorem Y9X (z:List Int)(n:Nat): cars z (n+1)=cars z n++[carOf z n]:=by simp[cars,YfJ]
theorem Y78 (z:List Int)(n:Nat): stops0 z (n+1)=stops0 z n++[stopOf z n]:=by simp[stops0,YfJ]
theorem Y3L (z:List Int)(n:Nat): (cars z n).length=n:=by simp[cars]
theorem Y0o (z:List Int)(n:Nat): (stops0 z n).length=n:=by simp[stops0]
def pairOf (z:List Int)(k:Int): Two:=if within (num z (15+k)) 2=1 then ⟨2*k+2,2*k+1⟩ else ⟨2*k+1,2*k+2⟩
def pairQ (z:List Int)(k:Int): Int:=within (num z (16+k)) 9
def nPairs (z:List Int): Nat:=min (within (num z 14) 3).toNat (nStops z / 2)
def setQ (l:List Stop)(j:Nat)(q:Int): List Stop:=l.set j { l.getD j default with s0:=q }
def pairStep (z:List Int)(l:List Stop)(k:Int): List Stop:=setQ (setQ l ((pairOf z k).p0 - 1).toNat (pairQ z k)) ((pairOf z k).p1 - 1).toNat (-(pairQ z k))
def stopsK (z:List Int)(l:List Stop): Nat→List Stop
 | 0=>l
 | k+1=>pairStep z (stopsK z l k) k
def pairsK (z:List Int)(n:Nat): List Two:=(List.range n).map fun k:Nat=>pairOf z (k:Int)
theorem Y7I (z:List Int)(n:Nat): pairsK z (n+1)=pairsK z n++[pairOf z n]:=by simp[pairsK,YfJ]
theorem Y1L (l:List Stop)(j:Nat)(q:Int): (setQ l j q).length=l.length:=by simp[setQ]
theorem Y19 (z:List Int)(l:List Stop): ∀ k,(stopsK z l k).length=l.length
 | 0=>rfl
 | k+1=>by simp[stopsK,pairStep,Y1L,Y19 z l k]
def wayOf (z:List Int)(x y:Int): Int:=if x=y then 0 else 1+within (num z (20+3*x+5*y)) 14
def wayRow (z:List Int)(x:Int)(n:Nat): List Int:=(List.range n).map fun y:Nat=>wayOf z x (y:Int)
def ways (z:List Int)(m n:Nat): List (List Int):=(List.range n).map fun x:Nat=>wayRow z (x:Int) m
theorem Y4v (z:List Int)(x:Int)(n:Nat): wayRow z x (n+1)=wayRow z x n++[wayOf z x n]:=by simp[wayRow,YfJ]
theorem Y6T (z:List Int)(m n:Nat): ways z m (n+1)=ways z m n++[wayRow z n m]:=by simp[ways,YfJ]
def instOf (z:List Int): Inst:=⟨cars z (nCars z),stopsK z (stops0 z (nStops z)) (nPairs z),pairsK z (nPairs z),ways z (nStops z+1) (nStops z+1)⟩
section
variable {P:Program}{I:InlP}{nb:Nat}{Q:Ex→St→Prop}{ops:Array Oper}{K:St→Prop}{r:List Oper}{ts:Slots}{m:Mem}{t:Nat}{ty:TypeId}{pos:String}{af:Array Edge}{d:Bool}{i:Nat}{acc:List (Nat × List Nat × List Nat)}
theorem GL.callSlo (hI:InlM I){g:Operand}{as:Array Operand}{tys:Array TypeId}{f:FuncId}{caps args:List LV}{T:List Nat}{sz n:Nat}{es:List (List LV)}(hg:evalO ts g=.fn f caps)(hf:Frz m (.agg (as.toList.map (evalO ts)++caps)) (.agg args) T)(hc:CallsV P f args (.slo sz es))
  (hT:unmark m (markE m T)=[]) (hn:es.length=n) (k:∀ gg,GL P I nb ops K d r (i+1) ((i,[nb+64*t],T++[nb+64*t])::acc) ⟨updS ts t (.own (nb+64*t) gg 0 n none),updM m (nb+64*t) ⟨gg,false,.slc,sz,es⟩⟩) :
  GL P I nb ops K d (⟨some t,.call { callee:=.value g,args:=as,argTypes:=tys },ty,pos,af,none⟩::r) i acc ⟨ts,m⟩:=by
 subst hn
 have hm:effM m (markE m T)=m:=by rw[Y0l T fun n x hx=>.inl hx,hT];rfl
 cases d with
 | false =>
  simp only[GL,wantedL]
  refine .call (o:=⟨some t,.call { callee:=.value g,args:=as,argTypes:=tys },ty,pos,af,none⟩) rfl hg hf hc fun r' hr'=>?_
  subst hr'
  refine⟨rfl,?_⟩
  simp only[nameO,YeA,hm]
  exact GL.accI hI (k _)
 | true =>
  simp only[GL,wantedL]
  refine⟨_,.call (o:=⟨some t,.call { callee:=.value g,args:=as,argTypes:=tys },ty,pos,af,none⟩) rfl hg hf hc rfl,?_⟩
  simp only[nameO,YeA,hm,hT]
  exact k _
theorem GL.appendSl (hI:InlM I){α:Type}{f:α→List LV}{l:List α}{x y:Operand}{e u et:TypeId}{z:List LV}{sz:Nat}(hz:zeroL P et=some z)(hzl:z.length=sz)(hs:szT P et=some sz)(ht:sliceE P e=some et)(hu:u=e)(h0:0<sz)(hb:P.bytesOf et≤4096)
  (hx:evalO ts x=.nils) (hy:evalO ts y=.sl (em f l)) (hf:∀ a,(f a).length=sz) (h1:∀ a,(f a).all oneC=true) (hpos:0<l.length) (hle:l.length≤4294967296)
  (k:∀ g,GL P I nb ops K d r (i+1) ((i,[nb+64*t],[nb+64*t])::acc) ⟨updS ts t (.own (nb+64*t) g 0 l.length none),updM m (nb+64*t) ⟨g,false,.slc,sz,em f l⟩⟩) :
  GL P I nb ops K d (⟨some t,.call { callee:=.builtin .append,args:=#[x,y],argTypes:=#[e,u] },ty,pos,af,none⟩::r) i acc ⟨ts,m⟩ :=
 .appendN hI ht hu hz hzl hs h0 hb hx (by rw[hy];exact .sl (Ycr hf l)) (Y00 f l) hpos (YaL h1 l) hle k
end
open Go.IntWalk
theorem Y3R (z:List Int): 1≤nCars z∧nCars z≤3:=by
 have:=Y03 (a:=num z 0) (n:=3) (by decide)
 unfold nCars
 omega
theorem Y1B (z:List Int): 2≤nStops z∧nStops z≤8:=by
 have:=Y03 (a:=num z 4) (n:=7) (by decide)
 unfold nStops
 omega
theorem Y23 (z:List Int): 2*nPairs z≤nStops z∧nPairs z≤2:=by
 have:=Y03 (a:=num z 14) (n:=3) (by decide)
 unfold nPairs
 omega
theorem Y1W (z:List Int): (instOf z).cars.length=nCars z:=Y3L z _
theorem Y1a (z:List Int): (instOf z).stops.length=nStops z:=by
 show (stopsK z (stops0 z (nStops z)) (nPairs z)).length=_
 rw[Y19,Y0o]
theorem Y8H (z:List Int): (instOf z).pairs.length=nPairs z:=by simp[instOf,pairsK]
theorem Y1N (z:List Int): (instOf z).travel.length=nStops z+1:=by simp[instOf,Mv.ways]
theorem Y8x (z:List Int){a:Nat}(h:a<nStops z+1): (instOf z).travel.getD a default=wayRow z a (nStops z+1):=by
 simp[instOf,Mv.ways,h]
theorem Y5Z (z:List Int){a b:Nat}(ha:a<nStops z+1)(hb:b<nStops z+1): ((instOf z).travel.getD a default).getD b default=wayOf z a b:=by
 rw[Y8x z ha]
 simp[wayRow,hb]
theorem Yc1 (z:List Int)(a b:Int): 0≤wayOf z a b∧wayOf z a b≤14:=by
 have:=Y03 (a:=num z (20+3*a+5*b)) (n:=14) (by decide)
 unfold wayOf
 split <;> omega
theorem Y17 (z:List Int): (instOf z).Short:=by
 have h1:=Y3R z
 have h2:=Y1B z
 have h3:=Y23 z
 refine⟨?_,?_,?_,?_,?_⟩
 ·unfold Short;rw[Y1W];omega
 ·unfold Short;rw[Y1a];omega
 ·unfold Short;rw[Y8H];omega
 ·unfold Short;rw[Y1N];omega
 ·intro r hr
  obtain⟨x,-,rfl⟩:=Ye8.1 hr
  unfold Short
  simp[wayRow]
  omega
theorem Y0D {a b:Int}(h:-9223372036854775808≤a+b∧a+b≤9223372036854775807): wadd a b=a+b:=by
 unfold wadd
 exact i64_in _ h
theorem Y8A (i:Inst): ∀ (l:List Int) (p s:Int),(∃ x∈l,isStop i x=false)→costGo i p s l=0
 | [],_,_,h=>by obtain⟨x,hx,-⟩:=h;cases hx
 | y::r,p,s,h=>by
  simp only[costGo]
  cases hy:isStop i y with
  | false=>simp
  | true =>
   simp only[if_true]
   refine Y8A i r _ _ ?_
   obtain⟨x,hx,hb⟩:=h
   rcases Yep.1 hx with rfl | hx
   ·rw[hy] at hb
    cases hb
   ·exact⟨x,hx,hb⟩
structure Sq (i:Inst) (N:Nat):Prop where
 short:i.Short
 low:2≤N
 high:N≤8
 cars0:1≤i.cars.length
 cars1:i.cars.length≤3
 stops:i.stops.length=N
 travel:i.travel.length=N+1
 row:∀ a,a<N+1→(i.travel.getD a default).length=N+1
 cell:∀ a b,a<N+1→b<N+1→0≤(i.travel.getD a default).getD b default∧(i.travel.getD a default).getD b default≤14
 diag:∀ a,a<N+1→(i.travel.getD a default).getD a default=0
theorem YaW (z:List Int): Sq (instOf z) (nStops z):=by
 refine⟨Y17 z,(Y1B z).1,(Y1B z).2,?_,?_,Y1a z,Y1N z,fun a ha=>?_,fun a b ha hb=>?_,fun a ha=>?_⟩
 ·rw[Y1W];exact (Y3R z).1
 ·rw[Y1W];exact (Y3R z).2
 ·rw[Y8x z ha];simp[wayRow]
 ·rw[Y5Z z ha hb];exact Yc1 z a b
 ·rw[Y5Z z ha ha];simp[wayOf]
def cell (i:Inst)(a b:Int): Int:=(i.travel.getD a.toNat default).getD b.toNat default
theorem Sq.way {i:Inst}{N:Nat}(h:Sq i N){a b:Int}(ha:0≤a)(ha2:a≤N)(hb:0≤b)(hb2:b≤N): Mv.way i a b=Mv.cell i a b:=by
 unfold Mv.way Mv.cell
 rw[if_neg (by rw[h.travel];omega),if_neg (by rw[h.row _ (by omega)];omega)]
theorem Sq.cell_in {i:Inst}{N:Nat}(h:Sq i N){a b:Int}(ha:0≤a)(ha2:a≤N)(hb:0≤b)(hb2:b≤N): 0≤Mv.cell i a b∧Mv.cell i a b≤14 :=
 h.cell _ _ (by omega) (by omega)
def legs (i:Inst): Int→List Int→Int
 | _,[]=>0
 | p,x::r=>Mv.cell i p x+legs i x r
def lastOf:Int→List Int→Int
 | p,[]=>p
 | _,x::r=>lastOf x r
theorem Y2C {i:Inst}{N:Nat}(h:Sq i N): ∀ (l:List Int) (p s:Int),0≤p→p≤N→0≤s→s+14*l.length≤1000000→(∀ x∈l,isStop i x=true) →
  costGo i p s l=s+legs i p l+Mv.cell i (lastOf p l) 0
 | [],p,s,hp,hp2,hs,hb,_=>by
  have:=h.cell_in hp hp2 (b:=0) (by omega) (by omega)
  simp only[costGo,legs,lastOf]
  rw[h.way hp hp2 (by omega) (by omega),Y0D (by simp at hb;omega)]
  omega
 | x::r,p,s,hp,hp2,hs,hb,hv=>by
  have hx:=hv x (by simp)
  have hx2:=Y0w hx
  rw[h.stops] at hx2
  have hc:=h.cell_in hp hp2 (b:=x) (by omega) (by omega)
  simp only[Yen] at hb
  simp only[costGo,legs,lastOf,hx,if_true]
  rw[h.way hp hp2 (by omega) (by omega),Y0D (by omega),Y2C h r x _ (by omega) (by omega) (by omega) (by omega) fun y hy=>hv y (by simp[hy])]
  omega
theorem Y7b {i:Inst}{N:Nat}(h:Sq i N): ∀ (l:List Int) (p:Int),0≤p→p≤N→(∀ x∈l,isStop i x=true)→0≤legs i p l∧legs i p l≤14*l.length
 | [],p,_,_,_=>by simp[legs]
 | x::r,p,hp,hp2,hv=>by
  have hx2:=Y0w (hv x (by simp))
  rw[h.stops] at hx2
  have hc:=h.cell_in hp hp2 (b:=x) (by omega) (by omega)
  have:=Y7b h r x (by omega) (by omega) fun y hy=>hv y (by simp[hy])
  simp only[legs,Yen]
  omega
structure Sb (i:Inst) (N:Nat):Prop where
 sq:Sq i N
 car:∀ a,a<i.cars.length→0≤(i.cars.getD a default).c0∧(i.cars.getD a default).c0≤1000∧0≤(i.cars.getD a default).c1∧(i.cars.getD a default).c1≤1000∧0≤(i.cars.getD a default).c2∧(i.cars.getD a default).c2≤1000
 stop:∀ a,a<N → -1000≤(i.stops.getD a default).s0∧(i.stops.getD a default).s0≤1000∧0≤(i.stops.getD a default).s1∧(i.stops.getD a default).s1≤2000∧(i.stops.getD a default).s2≤1000∧0≤(i.stops.getD a default).s3∧(i.stops.getD a default).s3≤1000
theorem nth4 {Q:Int→Prop}{a b c d:Int}(h0:Q a)(h1:Q b)(h2:Q c)(h3:Q d){j:Nat}(h:j<4): Q ([a,b,c,d].getD j default) :=
 match j,h with
 | 0,_=>h0
 | 1,_=>h1
 | 2,_=>h2
 | 3,_=>h3
theorem within4 (a:Int): (within a 4).toNat<4:=by
 have:=Y03 (a:=a) (n:=4) (by decide)
 omega
theorem Yb6 (z:List Int)(k:Int): 0≤(carOf z k).c0∧(carOf z k).c0≤1000∧0≤(carOf z k).c1∧(carOf z k).c1≤1000∧0≤(carOf z k).c2∧(carOf z k).c2≤1000:=by
 have h0:0≤(carOf z k).c0∧(carOf z k).c0≤1000:=nth4 (Q:=fun n=>0≤n∧n≤1000) (by decide) (by decide) (by decide) (by decide) (within4 _)
 have h2:0≤(carOf z k).c2∧(carOf z k).c2≤1000:=nth4 (Q:=fun n=>0≤n∧n≤1000) (by decide) (by decide) (by decide) (by decide) (within4 _)
 have h1:=Y03 (a:=(num z (1+k)).tdiv 4) (n:=9) (by decide)
 have e1:(carOf z k).c1=within ((num z (1+k)).tdiv 4) 9:=rfl
 omega
def StopIn (s:Stop): Prop:=-1000≤s.s0∧s.s0≤1000∧0≤s.s1∧s.s1≤2000∧s.s2≤1000∧0≤s.s3∧s.s3≤1000
theorem Yaz (z:List Int)(k:Int): StopIn (stopOf z k):=by
 have h1:=Y03 (a:=(num z (5+k)).tdiv 9) (n:=4) (by decide)
 have h2:=Y03 (a:=num z (5+k)) (n:=8) (by decide)
 have h3:=Y03 (a:=(num z (5+k)).tdiv 8) (n:=30) (by decide)
 have h4:=Y03 (a:=(num z (5+k)).tdiv 240) (n:=6) (by decide)
 refine⟨?_,?_,?_,?_,?_,?_,?_⟩ <;> simp only[stopOf]
 ·split <;> omega
 ·split <;> omega
 ·omega
 ·omega
 ·unfold imin;split <;> omega
 ·omega
 ·omega
theorem Y0R {α:Type}[Inhabited α](l:List α)(j a:Nat)(v:α)(h:a<l.length): (l.set j v).getD a default=if j=a then v else l.getD a default:=by
 rw[Ye9,List.getElem?_set]
 by_cases e:j=a
 ·subst e;simp[h]
 ·simp[e]
theorem YaN {l:List Stop}(h:∀ a,a<l.length→StopIn (l.getD a default))(j:Nat){q:Int}(h1:-1000≤q)(h2:q≤1000): ∀ a,a<(setQ l j q).length→StopIn ((setQ l j q).getD a default):=by
 intro a ha
 rw[Y1L] at ha
 unfold setQ
 rw[Y0R _ _ _ _ ha]
 by_cases e:j=a
 ·subst e
  rw[if_pos rfl]
  obtain⟨-,-,h3⟩:=h j ha
  exact⟨h1,h2,h3⟩
 ·rw[if_neg e]
  exact h a ha
theorem Y6u {z:List Int}{l:List Stop}(h:∀ a,a<l.length→StopIn (l.getD a default)): ∀ k a,a<(stopsK z l k).length→StopIn ((stopsK z l k).getD a default)
 | 0=>h
 | k+1=>by
  have hq:=Y03 (a:=num z (16+(k:Int))) (n:=9) (by decide)
  have e:pairQ z k=within (num z (16+(k:Int))) 9:=rfl
  exact YaN (YaN (Y6u h k) _ (by omega) (by omega)) _ (by omega) (by omega)
theorem YaR (z:List Int): Sb (instOf z) (nStops z):=by
 refine⟨YaW z,fun a ha=>?_,fun a ha=>?_⟩
 ·rw[Y1W] at ha
  have:(instOf z).cars.getD a default=carOf z a:=by simp[instOf,cars,ha]
  rw[this]
  exact Yb6 z a
 ·refine Y6u (z:=z) (fun a ha=>?_) (nPairs z) a (by rw[Y19,Y0o];exact ha)
  rw[Y0o] at ha
  have:(stops0 z (nStops z)).getD a default=stopOf z a:=by simp[stops0,ha]
  rw[this]
  exact Yaz z a
def begun (i:Inst)(p k x:Int): Int:=imax (stopAt i x).s1 (k+Mv.cell i p x)
def goes (i:Inst)(p k x:Int): Int:=begun i p k x+(stopAt i x).s3
def fine (i:Inst)(c:Car): Int→Int→Int→List Int→Bool
 | p,k,_,[]=>decide (k+Mv.cell i p 0≤c.c2)
 | p,k,o,x::r=>decide (begun i p k x≤(stopAt i x).s2) && (decide (0≤o+(stopAt i x).s0) && (decide (o+(stopAt i x).s0≤c.c0) && fine i c x (goes i p k x) (o+(stopAt i x).s0) r))
def arr (i:Inst): Int→Int→List Int→List Int
 | _,_,[]=>[]
 | p,k,x::r=>begun i p k x::arr i x (goes i p k x) r
def lds (i:Inst): Int→List Int→List Int
 | _,[]=>[]
 | o,x::r=>(o+(stopAt i x).s0)::lds i (o+(stopAt i x).s0) r
def lv (i:Inst): Int→Int→List Int→Int
 | _,k,[]=>k
 | p,k,x::r=>lv i x (goes i p k x) r
def ld (i:Inst): Int→List Int→Int
 | o,[]=>o
 | o,x::r=>ld i (o+(stopAt i x).s0) r
theorem Y7y (x y:Int): x≤imax x y∧y≤imax x y∧(imax x y=x∨imax x y=y):=by
 unfold imax
 split <;> omega
theorem Sb.at {i:Inst}{N:Nat}(h:Sb i N){x:Int}(hx:isStop i x=true): StopIn (stopAt i x):=by
 have hx2:=Y0w hx
 rw[h.sq.stops] at hx2
 exact h.stop _ (by omega)
theorem Y4l {i:Inst}{N:Nat}(hb:Sb i N){c:Car}(hc:c.c0≤1000): ∀ (l:List Int) (p k o:Int) (ss ls:List Int),0≤p→p≤N→0≤k→k≤3000→0≤o→o≤1000→(∀ x∈l,isStop i x=true) →
  evalGo i c p k o ss ls l=if fine i c p k o l=true then some (ss++arr i p k l,ls++lds i o l,lv i p k l+Mv.cell i (lastOf p l) 0) else none
 | [],p,k,o,ss,ls,hp,hp2,hk,hk2,_,_,_=>by
  have hc:=hb.sq.cell_in hp hp2 (b:=0) (by omega) (by omega)
  simp only[evalGo,fine,arr,lds,lv,lastOf,YdX]
  rw[hb.sq.way hp hp2 (by omega) (by omega),Y0D (by omega)]
  by_cases h:k+Mv.cell i p 0≤c.c2
  ·rw[if_neg (by omega),if_pos (by simpa using h)]
  ·rw[if_pos (by omega),if_neg (by simpa using h)]
 | x::r,p,k,o,ss,ls,hp,hp2,hk,hk2,ho,ho2,hv=>by
  have hx:=hv x (by simp)
  have hx2:=Y0w hx
  rw[hb.sq.stops] at hx2
  have hw:=hb.sq.cell_in hp hp2 (b:=x) (by omega) (by omega)
  obtain⟨s1,s2,s3,s4,s5,s6,s7⟩:=hb.at hx
  have hm:=Y7y (stopAt i x).s1 (k+Mv.cell i p x)
  have eB:imax (stopAt i x).s1 (k+Mv.cell i p x)=begun i p k x:=rfl
  have eG:begun i p k x+(stopAt i x).s3=goes i p k x:=rfl
  rw[eB] at hm
  simp only[evalGo,fine,arr,lds,lv,lastOf]
  rw[hb.sq.way hp hp2 (by omega) (by omega),Y0D (a:=k) (by omega),Y0D (a:=o) (by omega),eB]
  by_cases h1:begun i p k x≤(stopAt i x).s2
  ·by_cases h2:0≤o+(stopAt i x).s0
   ·by_cases h3:o+(stopAt i x).s0≤c.c0
    ·rw[if_neg (by omega),Y0D (by omega),eG,Y4l hb hc r x _ _ _ _ (by omega) (by omega) (by omega) (by omega) (by omega) (by omega) fun y hy=>hv y (by simp[hy])]
     simp only[h1,h2,h3,decide_true,YfL,Yfk,List.singleton_append]
    ·rw[if_pos (by omega)];simp[h3]
   ·rw[if_pos (by omega)];simp[h2]
  ·rw[if_pos (by omega)];simp[h1]
theorem Y7J (i:Inst): ∀ (l:List Int) (p k:Int),(arr i p k l).length=l.length
 | [],_,_=>rfl
 | x::r,p,k=>by simp[arr,Y7J i r]
theorem Y70 (i:Inst): ∀ (l:List Int) (o:Int),(lds i o l).length=l.length
 | [],_=>rfl
 | x::r,o=>by simp[lds,Y70 i r]
theorem Yct (i:Inst): ∀ (l:List Int) (p k:Int) (j:Nat),j<l.length→(arr i p k l).getD j default=begun i (lastOf p (l.take j)) (lv i p k (l.take j)) (l.getD j default)
 | [],_,_,_,h=>absurd h (by simp)
 | x::r,p,k,0,_=>rfl
 | x::r,p,k,j+1,h=>by
  have:=Yct i r x (goes i p k x) j (by simpa using h)
  simpa [arr,lastOf,lv] using this
theorem Y9P (i:Inst): ∀ (l:List Int) (p k:Int) (j:Nat),j<l.length→lv i p k (l.take (j+1))=goes i (lastOf p (l.take j)) (lv i p k (l.take j)) (l.getD j default)
 | [],_,_,_,h=>absurd h (by simp)
 | x::r,p,k,0,_=>by simp[lv,lastOf]
 | x::r,p,k,j+1,h=>by
  have:=Y9P i r x (goes i p k x) j (by simpa using h)
  simpa [lastOf,lv] using this
theorem Ycv (i:Inst): ∀ (l:List Int) (o:Int) (j:Nat),j<l.length→(lds i o l).getD j default=ld i o (l.take (j+1))
 | [],_,_,h=>absurd h (by simp)
 | x::r,o,0,_=>by simp[lds,ld]
 | x::r,o,j+1,h=>by
  have:=Ycv i r (o+(stopAt i x).s0) j (by simpa using h)
  simpa [lds,ld] using this
theorem Y9y (i:Inst): ∀ (l:List Int) (o:Int) (j:Nat),j<l.length→ld i o (l.take (j+1))=ld i o (l.take j)+(stopAt i (l.getD j default)).s0
 | [],_,_,h=>absurd h (by simp)
 | x::r,o,0,_=>by simp[ld]
 | x::r,o,j+1,h=>by
  have:=Y9y i r (o+(stopAt i x).s0) j (by simpa using h)
  simpa [ld] using this
theorem Y4d (i:Inst): ∀ (l:List Int) (p:Int) (j:Nat),j<l.length→legs i p (l.take (j+1))=legs i p (l.take j)+Mv.cell i (lastOf p (l.take j)) (l.getD j default)
 | [],_,_,h=>absurd h (by simp)
 | x::r,p,0,_=>by simp[legs,lastOf]
 | x::r,p,j+1,h=>by
  have:=Y4d i r x j (by simpa using h)
  simp only[YdR,legs,lastOf,Yfr] at this ⊢
  omega
theorem Y8B (i:Inst)(c:Car): ∀ (l:List Int) (p k o:Int),fine i c p k o l=true→(∀ j,j<l.length→begun i (lastOf p (l.take j)) (lv i p k (l.take j)) (l.getD j default)≤(stopAt i (l.getD j default)).s2∧0≤ld i o (l.take (j+1))∧ld i o (l.take (j+1))≤c.c0) ∧
  lv i p k l+Mv.cell i (lastOf p l) 0≤c.c2
 | [],p,k,o,h=>⟨fun j hj=>absurd hj (by simp),by simpa [fine,lv,lastOf] using h⟩
 | x::r,p,k,o,h=>by
  simp only[fine,Ye0,decide_eq_true_eq] at h
  obtain⟨h1,h2⟩:=Y8B i c r _ _ _ h.2.2.2
  refine⟨fun j hj=>?_,h2⟩
  match j,hj with
  | 0,_=>exact⟨h.1,h.2.1,h.2.2.1⟩
  | j+1,hj=>simpa [lastOf,lv,ld] using h1 j (by simpa using hj)
theorem Y9N (i:Inst)(c:Car): ∀ (l:List Int) (p k o:Int),(∀ j,j<l.length→begun i (lastOf p (l.take j)) (lv i p k (l.take j)) (l.getD j default)≤(stopAt i (l.getD j default)).s2∧0≤ld i o (l.take (j+1))∧ld i o (l.take (j+1))≤c.c0) →
  lv i p k l+Mv.cell i (lastOf p l) 0≤c.c2→fine i c p k o l=true
 | [],p,k,o,_,h=>by simpa [fine,lv,lastOf] using h
 | x::r,p,k,o,h,h2=>by
  have h0:=h 0 (by simp)
  simp only[fine,Ye0,decide_eq_true_eq]
  refine⟨by simpa [lastOf,lv] using h0.1,by simpa [ld] using h0.2.1,by simpa [ld] using h0.2.2,Y9N i c r _ _ _ (fun j hj=>?_) h2⟩
  simpa [lastOf,lv,ld] using h (j+1) (by simpa using hj)
theorem Y6e {i:Inst}{l:List Int}(h:order i l=true): ∀ x∈l,isStop i x=true:=fun x hx=>by
 obtain⟨j,hj,rfl⟩:=YeW hx
 have:=Y5j h j hj
 rwa [Ye9,YdO hj] at this
def carAt (i:Inst)(car:Int): Car:=i.cars.getD car.toNat default
theorem YaG {i:Inst}{N:Nat}(hb:Sb i N){car:Int}(h0:0≤car)(h1:car<i.cars.length)(l:List Int):
  eval i car l=if order i l=true∧fine i (carAt i car) 0 (carAt i car).c1 0 l=true then
   some ⟨arr i 0 (carAt i car).c1 l,lds i 0 l,cost i l,lv i 0 (carAt i car).c1 l+Mv.cell i (lastOf 0 l) 0⟩ else none:=by
 have hc:=hb.car car.toNat (by omega)
 cases ho:order i l with
 | false=>rw[eval,if_pos (.inr (.inr ho)),if_neg (by simp)]
 | true =>
  rw[eval,if_neg (by rw[ho];simp;omega),Y4l hb (by omega) l 0 _ 0 [] [] (by omega) (by omega) (by omega) (by omega) (by omega) (by omega) (Y6e ho)]
  show Option.map _ (if fine i (carAt i car) 0 (carAt i car).c1 0 l=true then _ else _)=_
  by_cases hf:fine i (carAt i car) 0 (carAt i car).c1 0 l=true
  ·rw[if_pos hf,if_pos ⟨rfl,hf⟩];rfl
  ·rw[if_neg hf,if_neg (fun h=>hf h.2)];rfl
theorem Y4E {I:Inst}: ∀ (r:List Int) (p:Int),(∀ x∈r,isStop I x=true)→0≤p→p≤I.stops.length→0≤lastOf p r∧lastOf p r≤I.stops.length
 | [],_,_,h0,h1=>⟨h0,h1⟩
 | x::r,_,hv,_,_=>by
  have:=Y0w (hv x (by simp))
  exact Y4E r x (fun y hy=>hv y (by simp[hy])) (by omega) (by omega)
theorem Y2I:∀ (l:List Int) (p:Int) (k:Nat),k<l.length→lastOf p (l.take (k+1))=l.getD k default
 | [],_,_,h=>absurd h (by simp)
 | x::l,p,0,_=>rfl
 | x::l,p,k+1,h=>by
  have:=Y2I l x k (by simpa using h)
  simpa [lastOf] using this
theorem Ydv {I:Inst}{N:Nat}(hb:Sb I N): ∀ (l:List Int) (p k:Int),(∀ x∈l,isStop I x=true)→0≤p→p≤N→0≤k→k≤3000→(∀ j,j<l.length→begun I (lastOf p (l.take j)) (lv I p k (l.take j)) (l.getD j default)≤(stopAt I (l.getD j default)).s2)→0≤lv I p k l∧lv I p k l≤3000
 | [],_,_,_,_,_,h0,h1,_=>⟨h0,h1⟩
 | x::r,p,k,hv,hp,hp2,h0,h1,h=>by
  have hx:=hv x (by simp)
  have hx2:=Y0w hx
  rw[hb.sq.stops] at hx2
  have hw:=hb.sq.cell_in hp hp2 (b:=x) (by omega) (by omega)
  obtain⟨s1,s2,s3,s4,s5,s6,s7⟩:=hb.at hx
  have hm:=Y7y (stopAt I x).s1 (k+Mv.cell I p x)
  have hg:begun I p k x≤(stopAt I x).s2:=by simpa [lastOf,lv] using h 0 (by simp)
  unfold begun at hg
  refine Ydv hb r x _ (fun y hy=>hv y (by simp[hy])) (by omega) (by omega) (by unfold goes begun;omega) (by unfold goes begun;omega) fun j hj=>?_
  simpa [lastOf,lv] using h (j+1) (by simpa using hj)
def ents (c:Int): List Int→List (List LV)
 | []=>[]
 | x::r=>[.int .i64 x,.int .i64 c]::ents (c+1) r
def look (c:Int)(l:List Int)(n:Int): Int:=if index l n<0 then 0 else c+index l n
theorem Y3p {P:Program}{t:TypeId}(ht:P.underlying t=some (.int .i64))(n:Int): ∀ (l:List Int) (c:Int),findL P t (.int .i64 n) (ents c l)=some (if index l n<0 then none else some (.int .i64 (c+index l n)))
 | [],c=>rfl
 | x::r,c=>by
  have h1:=Y2f r n
  have ei:index (x::r) n=if n=x then 0 else if index r n<0 then -1 else index r n+1:=rfl
  rw[ei]
  simp only[ents,findL,eqK,eqT,ht,if_true]
  by_cases e:n=x
  ·subst e
   rw[show (n == n)=true by simp]
   simp
  ·rw[show (n == x)=false by simpa using e]
   show findL P t (.int .i64 n) (ents (c+1) r)=_
   rw[Y3p ht n r (c+1)]
   by_cases h:index r n<0
   ·simp[e,h]
   ·have:¬ index r n+1<0:=by omega
    simp only[e,h,this,if_false,show c+1+index r n=c+(index r n+1) by omega]
theorem Y6l {P:Program}{t:TypeId}(ht:P.underlying t=some (.int .i64))(n:Int): ∀ (l:List Int) (c v:Int),index l n<0→v=c+l.length→setL P t (.int .i64 n) (.int .i64 v) (ents c l)=ents c (l++[n])
 | [],c,v,_,h=>by subst h;simp[ents,setL]
 | x::r,c,v,h0,h=>by
  have h1:=Y2f r n
  simp only[index] at h0
  have e:n≠x:=fun e=>by rw[if_pos e] at h0;omega
  rw[if_neg e] at h0
  have hr:index r n<0:=by
   by_cases hq:index r n<0
   ·exact hq
   ·rw[if_neg hq] at h0;omega
  simp only[ents,setL,eqK,eqT,ht,if_true,YdW]
  rw[show (n == x)=false by simpa using e]
  show _::setL P t (.int .i64 n) (.int .i64 v) (ents (c+1) r)=_
  rw[Y6l ht n r (c+1) v hr (by simp at h;omega)]
section
variable {P:Program}{I:InlP}{nb:Nat}{Q:Ex→St→Prop}{ops:Array Oper}{K:St→Prop}{r:List Oper}{ts:Slots}{m:Mem}{t:Nat}{ty:TypeId}{pos:String}{af:Array Edge}{d:Bool}{i:Nat}{acc:List (Nat × List Nat × List Nat)}
theorem GL.makeMap (hI:InlM I){e:TypeId}(k:∀ g,GL P I nb ops K d r (i+1) ((i,[nb+64*t],[nb+64*t])::acc) ⟨updS ts t (.mref (nb+64*t) g),updM m (nb+64*t) ⟨g,false,.mp,2,[]⟩⟩):
  GL P I nb ops K d (⟨some t,.makeMap e none,ty,pos,af,none⟩::r) i acc ⟨ts,m⟩:=.step hI .makeMap (by simp) (k _)
theorem GL.look2 (hI:InlM I){tt kt et:TypeId}{x ix:Operand}{b g:Nat}{y:Box}{c n:Int}{l:List Int}(ht:P.underlying tt=some (.map kt et))(hkt:P.underlying kt=some (.int .i64))(hz:zero1L P et=some (.int .i64 0))(hx:evalO ts x=.mref b g)(hm:m b=some y)(hg:y.gen=g)(hk:y.kind=.mp)(hq:y.sz=2)(he:y.es=ents c l)(hn:evalO ts ix=.int .i64 n)
  (k:GL P I nb ops K d r (i+1) ((i,[],[b])::acc) ⟨updS ts t (.tup [.int .i64 (look c l n),.bool (Mv.has l n)]),m⟩):GL P I nb ops K d (⟨some t,.lookup tt x ix true,ty,pos,af,none⟩::r) i acc ⟨ts,m⟩:=by
 have h:=OpR.lookup (d:=nb+64*t) (ok:=true) (ix:=ix) hx hm hg hk hq ht (by rw[hn];simp[keyK,scalK,hkt,pureL]) hz (by rw[hn,he];exact Y3p hkt n l c)
 refine .stepP hI h ?_
 unfold look Mv.has at k
 by_cases e:index l n<0
 ·rw[if_pos e,show decide (index l n≥0)=false by simp;omega] at k
  rw[if_pos e];exact k
 ·rw[if_neg e,show decide (index l n≥0)=true by simp;omega] at k
  rw[if_neg e];exact k
theorem GL.mapPut (hI:InlM I){tt kt et:TypeId}{x ix y:Operand}{b g:Nat}{bx:Box}{c n v:Int}{l:List Int}(ht:P.underlying tt=some (.map kt et))(hkt:P.underlying kt=some (.int .i64))(hx:evalO ts x=.mref b g)(hm:m b=some bx)(hg:bx.gen=g)(hf:bx.frz=false)(hk:bx.kind=.mp)(hq:bx.sz=2)(he:bx.es=ents c l)(hn:evalO ts ix=.int .i64 n)(hy:evalO ts y=.int .i64 v)
  (h0:index l n<0) (hv:v=c+l.length) (k:GL P I nb ops K d r (i+1) ((i,[b],[b])::acc) ⟨ts,updM m b ⟨g,false,.mp,bx.sz,ents c (l++[n])⟩⟩):GL P I nb ops K d (⟨none,.mapUpdate tt x ix y,ty,pos,af,none⟩::r) i acc ⟨ts,m⟩:=by
 have h:=OpR.mapUpdate (d:=nb+64*4000) (ix:=ix) (y:=y) hx hm hg hk hq hf ht (by rw[hn];simp[keyK,scalK,hkt,pureL]) (by rw[hn,he];exact Y3p hkt n l c) (.pure (by rw[hy];rfl)) (by simp)
 refine .stepN hI h (by simp[hf,markE]) ?_
 rw[hn,hy,he,Y6l hkt n l c v h0 hv]
 simp only[markE,YdY]
 simp only[effM,Wn,List.map]
 rw[hg,hf,hk]
 exact k
end
theorem Y6N:∀ (l:List Int) (n:Int),0≤index l n↔n∈l
 | [],n=>by simp[index]
 | x::r,n=>by
  have h:=Y6N r n
  have h1:=Y2f r n
  have ei:index (x::r) n=if n=x then 0 else if index r n<0 then -1 else index r n+1:=rfl
  rw[ei,Yep,← h]
  by_cases e:n=x
  ·simp[e]
  ·rw[if_neg e]
   split <;> omega
theorem YcA {l:List Int}{n:Int}: Mv.has l n=true↔n∈l:=by
 unfold Mv.has
 rw[decide_eq_true_iff,ge_iff_le,Y6N]
theorem Yaw {l:List Int}{n:Int}(h:Mv.has l n=false): index l n<0:=by
 unfold Mv.has at h
 simpa using h
theorem Y2l {l:List Int}{n:Int}(h:Mv.has l n=true): 0≤index l n:=by
 unfold Mv.has at h
 simpa using h
theorem Y37:∀ {l:List Int}{n:Int},0≤index l n→(index l n).toNat<l.length∧l.getD (index l n).toNat default=n
 | [],n,h=>by simp[index] at h
 | x::r,n,h=>by
  have ei:index (x::r) n=if n=x then 0 else if index r n<0 then -1 else index r n+1:=rfl
  rw[ei] at h ⊢
  by_cases e:n=x
  ·simp[e]
  ·rw[if_neg e] at h ⊢
   by_cases e2:index r n<0
   ·rw[if_pos e2] at h;omega
   ·rw[if_neg e2]
    have:=Y37 (l:=r) (n:=n) (by omega)
    have e3:(index r n+1).toNat=(index r n).toNat+1:=by omega
    rw[e3]
    simpa using this
theorem Y41 {l:List Int}{k:Nat}(hk:k<l.length)(h:Mv.has (l.take k) (l.getD k default)=false): index l (l.getD k default)=k:=by
 have hn:¬ l.getD k default∈l.take k:=fun hm=>by rw[YcA.2 hm] at h;cases h
 rw[Y12 l _ k (by omega) fun j hj e=>hn (by
  rw[e]
  have:j<(l.take k).length:=by simp;omega
  have e2:(l.take k)[j]=l.getD j default:=by simp[YdO (show j<l.length by omega)]
  rw[← e2]
  exact YeO this),Y09 hk]
 simp[index]
theorem Y5B:∀ (ps:List Two) (n:Int),mate ps n≠0→∃ p∈ps,(n=p.p0∧mate ps n=p.p1)∨(n=p.p1∧mate ps n=p.p0)
 | [],n,h=>absurd rfl h
 | p::r,n,h=>by
  have em:mate (p::r) n=if n=p.p0 then p.p1 else if n=p.p1 then p.p0 else mate r n:=rfl
  rw[em] at h ⊢
  by_cases e0:n=p.p0
  ·exact⟨p,by simp,.inl ⟨e0,if_pos e0⟩⟩
  ·rw[if_neg e0] at h ⊢
   by_cases e1:n=p.p1
   ·exact⟨p,by simp,.inr ⟨e1,if_pos e1⟩⟩
   ·rw[if_neg e1] at h ⊢
    obtain⟨q,hq,hh⟩:=Y5B r n h
    exact⟨q,by simp[hq],hh⟩
def Sp (i:Inst): Prop:=∀ p∈i.pairs,p.p0≠0∧p.p1≠0∧p.p0≠p.p1∧mate i.pairs p.p0=p.p1∧mate i.pairs p.p1=p.p0∧first i.pairs p.p0=true∧first i.pairs p.p1=false
def POk (l:List Int)(p:Two): Prop:=Mv.has l p.p0=Mv.has l p.p1∧(Mv.has l p.p0=true→index l p.p0≤index l p.p1)
theorem Y7L {i:Inst}{l:List Int}{k:Nat}{x:Int}: chk i l k x=true↔isStop i x=true∧Mv.has (l.take k) x=false∧(mate i.pairs x=0∨(0≤index l (mate i.pairs x)∧(first i.pairs x=true↔index l (mate i.pairs x)>(k:Int)))):=by
 unfold chk
 simp only[Ye0,YfH,YfP,decide_eq_true_iff,beq_iff_eq,Int.not_lt,and_assoc]
 constructor
 ·rintro⟨h1,h2,h3⟩
  refine⟨h1,h2,h3.imp id fun h=>⟨h.1,?_⟩⟩
  rw[h.2,decide_eq_true_iff]
 ·rintro⟨h1,h2,h3⟩
  refine⟨h1,h2,h3.imp id fun h=>⟨h.1,?_⟩⟩
  rw[Yf2,decide_eq_true_iff]
  exact h.2
theorem Y7p {i:Inst}(hp:Sp i){l:List Int}(hv:∀ k,k<l.length→isStop i (l.getD k default)=true)(hd:∀ k,k<l.length→Mv.has (l.take k) (l.getD k default)=false)(h:∀ p∈i.pairs,POk l p): order i l=true:=by
 refine Y5b fun k hk=>Y7L.2 ⟨hv k hk,hd k hk,?_⟩
 by_cases hm:mate i.pairs (l.getD k default)=0
 ·exact .inl hm
 ·refine .inr ?_
  have hik:=Y41 hk (hd k hk)
  have hhas:Mv.has l (l.getD k default)=true:=by unfold Mv.has;rw[hik];simp
  obtain⟨p,hpm,hc⟩:=Y5B _ _ hm
  obtain⟨p1,p2,p3,p4,p5,p6,p7⟩:=hp p hpm
  obtain⟨q1,q2⟩:=h p hpm
  rcases hc with ⟨e1,e2⟩ | ⟨e1,e2⟩
  ·rw[e1] at hik hhas ⊢
   rw[p4,p6]
   have h1:=Y2l (q1 ▸ hhas)
   have h2:=q2 hhas
   have h3:=Y37 h1
   have h4:=Y37 (Y2l hhas)
   refine⟨h1,fun _=>?_,fun _=>rfl⟩
   rcases Int.lt_or_eq_of_le h2 with h2 | h2
   ·omega
   ·rw[← h2,h4.2] at h3
    exact absurd h3.2 p3
  ·rw[e1] at hik hhas ⊢
   rw[p5,p7]
   have h1:=Y2l (q1.trans hhas)
   have h2:=q2 (q1.trans hhas)
   exact⟨h1,⟨fun hh=>Bool.noConfusion hh,fun hh=>by omega⟩⟩
theorem Y66 {i:Inst}{l:List Int}{k:Nat}(hk:k<l.length)(h:isStop i (l.getD k default)=false∨Mv.has (l.take k) (l.getD k default)=true): order i l=false:=by
 refine Y1c hk ?_
 rw[← Yfp,Y7L]
 rintro⟨h1,h2,-⟩
 rcases h with h | h
 ·rw[h] at h1;cases h1
 ·rw[h] at h2;cases h2
theorem Y7T {i:Inst}{l:List Int}(h:order i l=true){x:Int}(hx:Mv.has l x=true): mate i.pairs x=0∨(0≤index l (mate i.pairs x)∧(first i.pairs x=true↔index l (mate i.pairs x)>index l x)):=by
 have h1:=Y37 (Y2l hx)
 have h0:=Y2l hx
 unfold order at h
 rw[Yed] at h
 have:=Y7L.1 (h (index l x).toNat (YeI.2 h1.1))
 rw[h1.2] at this
 have e:(((index l x).toNat:Nat):Int)=index l x:=by omega
 rw[e] at this
 exact this.2.2
theorem Ya7 {i:Inst}(hp:Sp i){l:List Int}(h:order i l=true){p:Two}(hm:p∈i.pairs): POk l p:=by
 obtain⟨p1,p2,p3,p4,p5,p6,p7⟩:=hp p hm
 by_cases h0:Mv.has l p.p0=true
 ·rcases Y7T h h0 with h1 | h1
  ·rw[p4] at h1;exact absurd h1 p2
  ·rw[p4,p6] at h1
   have h2:=h1.2.1 rfl
   refine⟨?_,fun _=>by omega⟩
   rw[h0]
   unfold Mv.has
   simpa using h1.1
 ·refine⟨?_,fun hh=>absurd hh h0⟩
  by_cases h1:Mv.has l p.p1=true
  ·rcases Y7T h h1 with h2 | h2
   ·rw[p5] at h2;exact absurd h2 p1
   ·rw[p5] at h2
    refine absurd ?_ h0
    unfold Mv.has
    simpa using h2.1
  ·rw[Yfp] at h0 h1
   rw[h0,h1]
theorem Y2w {i:Inst}(hp:Sp i){l:List Int}{p:Two}(hm:p∈i.pairs)(h:¬ POk l p): order i l=false:=by
 rw[← Yfp]
 exact fun ho=>h (Ya7 hp ho hm)
theorem Y3S {c:Int}{l:List Int}{n:Int}(h:Mv.has l n=true): look c l n=c+index l n:=by
 have:=Y2l h
 unfold look
 rw[if_neg (by omega)]
theorem Ybt {l:List Int}{p:Two}(h:(!(Mv.has l p.p0 == Mv.has l p.p1))=false)(h0:Mv.has l p.p0=false): POk l p:=⟨by simpa using h,fun hh=>by rw[h0] at hh;cases hh⟩
theorem Yba {l:List Int}{p:Two}(h:(!(Mv.has l p.p0 == Mv.has l p.p1))=false)(h0:Mv.has l p.p0=true)(h1:¬ look 0 l p.p0>look 0 l p.p1): POk l p:=by
 have e:Mv.has l p.p0=Mv.has l p.p1:=by simpa using h
 rw[Y3S h0,Y3S (e ▸ h0)] at h1
 exact⟨e,fun _=>by omega⟩
theorem Ybp {l:List Int}{p:Two}(h:(!(Mv.has l p.p0 == Mv.has l p.p1))=true): ¬ POk l p:=fun hp=>by rw[hp.1] at h;simp at h
theorem Ybq {l:List Int}{p:Two}(h:(!(Mv.has l p.p0 == Mv.has l p.p1))=false)(h0:Mv.has l p.p0=true)(h1:look 0 l p.p0>look 0 l p.p1): ¬ POk l p:=fun hp=>by
 have e:Mv.has l p.p0=Mv.has l p.p1:=by simpa using h
 rw[Y3S h0,Y3S (e ▸ h0)] at h1
 have:=hp.2 h0
 omega
theorem Y6M {i:Inst}{k:Nat}(h:k<i.pairs.length): i.pairs.getD k default∈i.pairs:=by
 rw[Ye9,YdO h]
 exact YeO h
theorem Yao {i:Inst}{Q:Two→Prop}(h:∀ k,k<i.pairs.length→Q (i.pairs.getD k default)): ∀ p∈i.pairs,Q p:=fun p hp=>by
 obtain⟨k,hk,rfl⟩:=YeW hp
 have:=h k hk
 rwa [Ye9,YdO hk] at this
theorem YcJ (z:List Int): Sp (instOf z):=by
 have h:=Y23 z
 have e:(instOf z).pairs=pairsK z (nPairs z):=rfl
 have e0:pairOf z 0=⟨2,1⟩∨pairOf z 0=⟨1,2⟩:=by unfold pairOf;split <;> simp
 have e1:pairOf z 1=⟨4,3⟩∨pairOf z 1=⟨3,4⟩:=by unfold pairOf;split <;> simp
 unfold Sp
 rw[e]
 generalize nPairs z=n at h
 match n,h with
 | 0,_=>intro p hp;simp[pairsK] at hp
 | 1,_ =>
  have e2:pairsK z 1=[pairOf z 0]:=rfl
  rw[e2]
  rcases e0 with e0 | e0 <;> rw[e0] <;> decide
 | 2,_ =>
  have e2:pairsK z 2=[pairOf z 0,pairOf z 1]:=rfl
  rw[e2]
  rcases e0 with e0 | e0 <;> rcases e1 with e1 | e1 <;> rw[e0,e1] <;> decide
 | n+3,h=>omega
theorem Y4w {α:Type}[Inhabited α]{l:List α}{k:Nat}(h:k<l.length): l.take k++[l.getD k default]=l.take (k+1):=by
 rw[List.take_add_one,YdO h]
 simp[YdO h]
def Fin1 (i:Inst)(c:Car)(l:List Int)(j:Nat): Prop :=
 Mv.begun i (lastOf 0 (l.take j)) (lv i 0 c.c1 (l.take j)) (l.getD j default)≤(stopAt i (l.getD j default)).s2∧0≤ld i 0 (l.take (j+1))∧ld i 0 (l.take (j+1))≤c.c0
structure Onway (i:Inst) (N:Nat) (c:Car) (l:List Int) (k:Nat):Prop where
 l0:0≤lastOf 0 (l.take k)
 l1:lastOf 0 (l.take k)≤N
 v0:0≤lv i 0 c.c1 (l.take k)
 v1:lv i 0 c.c1 (l.take k)≤3000
 d0:0≤ld i 0 (l.take k)
 d1:ld i 0 (l.take k)≤1000
 g0:0≤legs i 0 (l.take k)
 g1:legs i 0 (l.take k)≤100000
 row:(i.travel.getD (lastOf 0 (l.take k)).toNat default).length=N+1
theorem Ydo {i:Inst}{N:Nat}(hb:Sb i N){c:Car}(hc:c.c0≤1000∧0≤c.c1∧c.c1≤1000){l:List Int}(hl:l.length≤1000)(hv:∀ j,j<l.length→isStop i (l.getD j default)=true){k:Nat}(hk:k≤l.length)(h:∀ j,j<k→Fin1 i c l j): Onway i N c l k:=by
 have hst:=hb.sq.stops
 have hvt:∀ x∈l.take k,isStop i x=true:=fun x hx=>by
  obtain⟨j,hj,rfl⟩:=YeW (YeC hx)
  have:=hv j hj
  rwa [Ye9,YdO hj] at this
 have h1:=Y4E (l.take k) 0 hvt (by omega) (by omega)
 have h2:=Ydv hb (l.take k) 0 c.c1 hvt (by omega) (by omega) (by omega) (by omega) fun q hq=>by
  have hq2:q<k∧q<l.length:=by simp at hq;omega
  have:=(h q hq2.1).1
  rw[List.take_take,show min q k=q by omega]
  have e:(l.take k).getD q default=l.getD q default:=by simp[YeU,hq2.1]
  rw[e]
  exact this
 have h3:=Y7b hb.sq (l.take k) 0 (by omega) (by omega) hvt
 have h4:0≤ld i 0 (l.take k)∧ld i 0 (l.take k)≤1000:=by
  cases k with
  | zero=>simp[ld]
  | succ k =>
   have:=(h k (by omega)).2
   omega
 have h5:(l.take k).length≤1000:=by simp;omega
 exact⟨h1.1,by omega,h2.1,h2.2,h4.1,h4.2,h3.1,by omega,hb.sq.row _ (by omega)⟩
theorem Y8e (i:Inst): ∀ (l:List Int) (p k x:Int),arr i p k (l++[x])=arr i p k l++[Mv.begun i (lastOf p l) (lv i p k l) x]
 | [],_,_,_=>rfl
 | y::r,p,k,x=>by simp[arr,lastOf,lv,Y8e i r]
theorem Y85 (i:Inst): ∀ (l:List Int) (o x:Int),lds i o (l++[x])=lds i o l++[ld i o l+(stopAt i x).s0]
 | [],_,_=>rfl
 | y::r,o,x=>by simp[lds,ld,Y85 i r]
theorem Yau (x y:Int): imax x y=imax y x:=by
 unfold imax
 split <;> split <;> omega
theorem YbM {i:Inst}{N:Nat}(hb:Sb i N){car:Int}(h0:0≤car)(h1:car<i.cars.length){l:List Int}(hl:l.length≤1000)(ho:order i l=true)(h:∀ j,j<l.length→Fin1 i (carAt i car) l j)(he:¬ lv i 0 (carAt i car).c1 l+(i.travel.getD (lastOf 0 l).toNat default).getD (Int.toNat 0) default>(carAt i car).c2):
  eval i car l=some ⟨arr i 0 (carAt i car).c1 l,lds i 0 l,legs i 0 l+(i.travel.getD (lastOf 0 l).toNat default).getD (Int.toNat 0) default,lv i 0 (carAt i car).c1 l+(i.travel.getD (lastOf 0 l).toNat default).getD (Int.toNat 0) default⟩:=by
 have hf:fine i (carAt i car) 0 (carAt i car).c1 0 l=true:=Y9N i _ l 0 _ 0 h (by unfold Mv.cell;omega)
 rw[YaG hb h0 h1,if_pos ⟨ho,hf⟩]
 have e1:cost i l=_:=Y2C hb.sq l 0 0 (by omega) (by omega) (by omega) (by omega) (Y6e ho)
 rw[e1,Int.zero_add]
 rfl
theorem Y2Q {i:Inst}{N:Nat}(hb:Sb i N){car:Int}(h0:0≤car)(h1:car<i.cars.length){l:List Int}(h:(∃ j,j<l.length∧¬ Fin1 i (carAt i car) l j)∨lv i 0 (carAt i car).c1 l+(i.travel.getD (lastOf 0 l).toNat default).getD (Int.toNat 0) default>(carAt i car).c2): eval i car l=none:=by
 rw[YaG hb h0 h1,if_neg]
 rintro⟨-,hf⟩
 obtain⟨ha,he⟩:=Y8B i _ l 0 _ 0 hf
 rcases h with ⟨j,hj,hn⟩ | h
 ·exact hn (ha j hj)
 ·unfold Mv.cell at he
  omega
def Sd (i:Inst): Prop:=∀ p∈i.pairs,isStop i p.p0=true∧isStop i p.p1=true∧(stopAt i p.p0).s0+(stopAt i p.p1).s0=0
theorem Y5Q (l:List Stop)(j a:Nat)(q:Int)(h:a<l.length): ((setQ l j q).getD a default).s0=if j=a then q else (l.getD a default).s0:=by
 unfold setQ
 rw[Y0R _ _ _ _ h]
 by_cases e:j=a
 ·rw[if_pos e,if_pos e]
 ·rw[if_neg e,if_neg e]
theorem Y9E (z:List Int): Sd (instOf z):=by
 have h:=Y23 z
 have hs:=Y1B z
 have hst:=Y1a z
 have e:(instOf z).pairs=pairsK z (nPairs z):=rfl
 have el:(instOf z).stops=stopsK z (stops0 z (nStops z)) (nPairs z):=rfl
 have e0:pairOf z 0=⟨2,1⟩∨pairOf z 0=⟨1,2⟩:=by unfold pairOf;split <;> simp
 have e1:pairOf z 1=⟨4,3⟩∨pairOf z 1=⟨3,4⟩:=by unfold pairOf;split <;> simp
 have hl0:=Y0o z (nStops z)
 unfold Sd stopAt isStop
 rw[hst,e,el]
 generalize nPairs z=n at h
 generalize stops0 z (nStops z)=l at hl0
 match n,h with
 | 0,_=>intro p hp;simp[pairsK] at hp
 | 1,_ =>
  have e2:pairsK z 1=[pairOf z 0]:=rfl
  have e3:stopsK z l 1=setQ (setQ l ((pairOf z 0).p0 - 1).toNat (pairQ z 0)) ((pairOf z 0).p1 - 1).toNat (-(pairQ z 0)):=rfl
  intro p hp
  rw[e2,Yej] at hp
  subst hp
  rw[e3]
  have g1:∀ (j a:Nat) (q:Int) (l':List Stop),a<l'.length→((setQ l' j q).getD a default).s0=if j=a then q else (l'.getD a default).s0:=fun j a q l'=>Y5Q l' j a q
  rcases e0 with e0 | e0 <;> rw[e0] <;> refine⟨by simp;omega,by simp;omega,?_⟩ <;> simp only[g1,Y1L,hl0,show ((2:Int) - 1).toNat=1 from rfl,show ((1:Int) - 1).toNat=0 from rfl,show 0<nStops z by omega,show 1<nStops z by omega] <;> simp <;> omega
 | 2,h =>
  have e2:pairsK z 2=[pairOf z 0,pairOf z 1]:=rfl
  have e3:stopsK z l 2=setQ (setQ (setQ (setQ l ((pairOf z 0).p0 - 1).toNat (pairQ z 0)) ((pairOf z 0).p1 - 1).toNat (-(pairQ z 0))) ((pairOf z 1).p0 - 1).toNat (pairQ z 1)) ((pairOf z 1).p1 - 1).toNat (-(pairQ z 1)):=rfl
  intro p hp
  rw[e2] at hp
  have hp2:p=pairOf z 0∨p=pairOf z 1:=by simpa using hp
  rw[e3]
  have g1:∀ (j a:Nat) (q:Int) (l':List Stop),a<l'.length→((setQ l' j q).getD a default).s0=if j=a then q else (l'.getD a default).s0:=fun j a q l'=>Y5Q l' j a q
  rcases hp2 with rfl | rfl <;> rcases e0 with e0 | e0 <;> rcases e1 with e1 | e1 <;> rw[e0,e1] <;> refine⟨by simp;omega,by simp;omega,?_⟩ <;> simp only[g1,Y1L,hl0,show ((2:Int) - 1).toNat=1 from rfl,show ((1:Int) - 1).toNat=0 from rfl,show ((3:Int) - 1).toNat=2 from rfl,show ((4:Int) - 1).toNat=3 from rfl,show 0<nStops z by omega,show 1<nStops z by omega,show 2<nStops z by omega,show 3<nStops z by omega] <;> simp <;> omega
 | n+3,h=>omega
def scaL:LV→Bool
 | .int ..=>true
 | .bool _=>true
 | .str _=>true
 | .nilp=>true
 | .nils=>true
 | .nilm=>true
 | _=>false
theorem RelF.sca {w:World}{F F':Nat→Prop}{v:Value}{l:LV}(hl:scaL l=true)(h:RelF w F v l): RelF w F' v l:=by
 cases h with
 | int k n=>exact .int k n
 | bool b=>exact .bool b
 | str s=>exact .str s
 | nilp=>exact .nilp
 | nils=>exact .nils
 | nilm=>exact .nilm
 | skip=>simp[scaL] at hl
 | undef=>simp[scaL] at hl
 | sl=>simp[scaL] at hl
 | fad=>simp[scaL] at hl
 | fmap0=>simp[scaL] at hl
 | fmap=>simp[scaL] at hl
 | agg=>simp[scaL] at hl
 | tup=>simp[scaL] at hl
 | fn=>simp[scaL] at hl
theorem FlatI.sca {l:LV}(hl:scaL l=true): FlatI l:=by
 intro w F F' v O h
 cases h with
 | frz h=>exact .frz (h.sca hl)
 | slo0=>simp[scaL] at hl
 | slo=>simp[scaL] at hl
 | aggn=>simp[scaL] at hl
 | aggc=>simp[scaL] at hl
 | tup=>simp[scaL] at hl
 | ptro=>simp[scaL] at hl
theorem FlatI.aggn:FlatI (.agg []):=by
 intro w F F' v O h
 obtain⟨rfl,rfl⟩:=h.nil
 exact .aggn
theorem FlatI.aggc {l:LV}{ls:List LV}(h1:FlatI l)(h2:FlatI (.agg ls)): FlatI (.agg (l::ls)):=by
 intro w F F' v O h
 obtain⟨u,us,O1,O2,rfl,rfl,q1,q2⟩:=h.uncons
 exact .aggc (h1 w F F' _ _ q1) (h2 w F F' _ _ q2)
theorem FlatI.tup {ls:List LV}(h1:FlatI (.agg ls)): FlatI (.tup ls):=by
 intro w F F' v O h
 cases h with
 | frz h =>
  cases h with
  | tup hn h=>exact .tup (h1 w F F' _ _ (.frz (.agg hn h)))
 | tup h=>exact .tup (h1 w F F' _ _ h)
def val0:LV→Bool
 | .agg cs=>cs.all cell0
 | l=>cell0 l
def fzC:LV→LV
 | .slo _ es=>.sl es
 | l=>l
def fzV:LV→LV
 | .agg cs=>.agg (cs.map fzC)
 | l=>fzC l
def fzT:LV→LV
 | .tup vs=>.tup (vs.map fzV)
 | l=>fzV l
def FO (F:Nat→Prop)(O:List Nat): Nat→Prop:=fun b=>F b∨b∈O
theorem RelI.fzC {w:World}{F:Nat→Prop}{v:Value}{l:LV}{O:List Nat}(h:RelI w F v l O)(hc:cell0 l=true): RelF w (FO F O) v (fzC l):=by
 cases h with
 | frz h =>
  have e:Mv.fzC l=l:=by cases l <;> first | rfl | cases h
  rw[e]
  exact h.mono (fun _ h=>.inl h) (fun _ _=>rfl)
 | slo0=>exact .sl (blk:=0) (off:=0) (sz:=0) (fun _ _=>undef) rfl (Ye2 _) (fun h=>absurd h (by omega)) (by simp) (by simp) (by simp)
 | @slo blk off len cap sz es cs t h1 h2 h3 h4 h5 h6 =>
  have hv:∀ (i:Nat) e (c:Nat) q,es[i]?=some e→e[c]?=some q→∃ u,w.cell? ⟨blk,off+(i*sz+c),none⟩=some u∧RelF w F u q:=fun i e c q he hq=>by
   obtain⟨u,hu,hr⟩:=h6 i e c q he hq
   exact⟨u,by simp only[World.cell?,h3];exact hu,hr⟩
  refine .sl (blk:=blk) (off:=off) (sz:=sz) (fun i c=>(w.cell? ⟨blk,off+(i*sz+c),none⟩).getD undef) h1 h2 (fun _=>⟨rfl,.inr (by simp)⟩) h5 (fun i e c q he hq=>?_) fun i e c q he hq=>?_
  ·obtain⟨u,hu,hr⟩:=hv i e c q he hq
   rw[hu];rfl
  ·obtain⟨u,hu,hr⟩:=hv i e c q he hq
   rw[hu]
   exact hr.mono (fun _ h=>.inl h) (fun _ _=>rfl)
 | aggn=>cases hc
 | aggc=>cases hc
 | tup=>cases hc
 | ptro=>cases hc
theorem RelI.fzCs {w:World}{F:Nat→Prop}: ∀ {ls:List LV}{v:Value}{O:List Nat},RelI w F v (.agg ls) O→ls.all cell0=true→RelF w (FO F O) v (.agg (ls.map Mv.fzC))
 | [],v,O,h,_=>by
  obtain⟨rfl,rfl⟩:=h.nil
  exact RelF.nil
 | l::ls,v,O,h,hc=>by
  simp only[Yfa,Ye0] at hc
  obtain⟨u,us,O1,O2,rfl,rfl,q1,q2⟩:=h.uncons
  exact RelF.cons ((q1.fzC hc.1).mono (fun b hb=>hb.imp id fun hb=>Yee _ hb) (fun _ _=>rfl)) ((RelI.fzCs q2 hc.2).mono (fun b hb=>hb.imp id fun hb=>Yeg _ hb) (fun _ _=>rfl))
theorem RelI.fzV {w:World}{F:Nat→Prop}{v:Value}{l:LV}{O:List Nat}(h:RelI w F v l O)(hc:val0 l=true): RelF w (FO F O) v (fzV l):=by
 cases l with
 | agg cs=>exact h.fzCs hc
 | _=>exact h.fzC hc
theorem RelI.fzVs {w:World}{F:Nat→Prop}: ∀ {ls:List LV}{v:Value}{O:List Nat},RelI w F v (.agg ls) O→ls.all val0=true→RelF w (FO F O) v (.agg (ls.map Mv.fzV))
 | [],v,O,h,_=>by
  obtain⟨rfl,rfl⟩:=h.nil
  exact RelF.nil
 | l::ls,v,O,h,hc=>by
  simp only[Yfa,Ye0] at hc
  obtain⟨u,us,O1,O2,rfl,rfl,q1,q2⟩:=h.uncons
  exact RelF.cons ((q1.fzV hc.1).mono (fun b hb=>hb.imp id fun hb=>Yee _ hb) (fun _ _=>rfl)) ((RelI.fzVs q2 hc.2).mono (fun b hb=>hb.imp id fun hb=>Yeg _ hb) (fun _ _=>rfl))
def topF:LV→Bool
 | .tup vs=>vs.all val0
 | l=>val0 l
theorem RelI.fzT {w:World}{F:Nat→Prop}{v:Value}{l:LV}{O:List Nat}(h:RelI w F v l O)(hc:topF l=true): RelF w (FO F O) v (fzT l):=by
 cases l with
 | tup vs =>
  have hc':vs.all val0=true:=hc
  cases h with
  | frz h =>
   cases h with
   | tup hn h =>
    obtain⟨cs,e1,e2,e3⟩:=(RelI.fzVs (.frz (.agg hn h)) hc').cells
    injection e1 with e1
    subst e1
    exact .tup e2 e3
  | tup h =>
   obtain⟨cs,e1,e2,e3⟩:=(RelI.fzVs h hc').cells
   injection e1 with e1
   subst e1
   exact .tup e2 e3
 | _=>exact h.fzV hc
theorem CallsV.freeze {P:Program}{f:FuncId}{args:List LV}{res:LV}(h:CallsV P f args res)(hc:topF res=true): CallsV P f args (fzT res):=by
 refine⟨h.1,fun w F vs hr hF=>(h.2 w F vs hr hF).mono fun e w' he=>?_⟩
 obtain⟨v,r,F',O,rfl,hR,q1,q2,q3,q4,q5,q6,q7⟩:=he
 subst hR
 refine⟨v,_,FO F' O,[],rfl,rfl,q1,fun b hb=>.inl (q2 b hb),fun b hb=>?_,fun b hb=>?_,.frz (q5.fzT hc),Yec,by simp⟩
 ·rcases hb with hb | hb
  ·exact q3 b hb
  ·exact .inr (q7 b hb).2.2
 ·rcases hb with hb | hb
  ·exact q4 b hb
  ·exact (q7 b hb).1
section
variable {P:Program}{I:InlP}{nb:Nat}{Q:Ex→St→Prop}{ops:Array Oper}{K:St→Prop}{r:List Oper}{ts:Slots}{m:Mem}{t:Nat}{ty:TypeId}{pos:String}{af:Array Edge}{i:Nat}{acc:List (Nat × List Nat × List Nat)}
theorem GL.callFl (hI:InlM I){g:Operand}{as:Array Operand}{tys:Array TypeId}{f:FuncId}{caps args:List LV}{T:List Nat}{res v:LV}{e:List (Nat × Box)}(hg:evalO ts g=.fn f caps)(hf:Frz m (.agg (as.toList.map (evalO ts)++caps)) (.agg args) T)(hc:CallsV P f args res)
  (hl:FlatI res) (ht:topI res=true) (hr:impT m (nb+64*t) res=(v,e)) (k:GL P I nb ops K false r (i+1) acc ⟨updS ts t v,effM m e⟩) :
  GL P I nb ops K false (⟨some t,.call { callee:=.value g,args:=as,argTypes:=tys },ty,pos,af,none⟩::r) i acc ⟨ts,m⟩:=by
 simp only[GL,wantedL]
 refine .callF (o:=⟨some t,.call { callee:=.value g,args:=as,argTypes:=tys },ty,pos,af,none⟩) rfl hg hf hc fun r' hr'=>?_
 subst hr'
 refine⟨hl,ht,?_⟩
 simp only[nameO,YeA,hr]
 exact GL.accI hI k
end
section
variable {P:Program}{I:InlP}{nb:Nat}{Q:Ex→St→Prop}{ops:Array Oper}{K:St→Prop}{r:List Oper}{ts:Slots}{m:Mem}{t:Nat}{ty:TypeId}{pos:String}{af:Array Edge}{d:Bool}{i:Nat}{acc:List (Nat × List Nat × List Nat)}
theorem GL.eqlA (hI:InlM I){xt yt:TypeId}{x y:Operand}{as bs:List LV}{b:Bool}(hx:evalO ts x=.agg as)(hy:evalO ts y=.agg bs)(h:eqAgg P xt as bs=some b)(k:GL P I nb ops K d r (i+1) ((i,[],[])::acc) ⟨updS ts t (.bool b),m⟩):
  GL P I nb ops K d (⟨some t,.binOp .eql xt x y yt,ty,pos,af,none⟩::r) i acc ⟨ts,m⟩:=.bin hI (by rw[hx,hy];show Option.map _ (eqAgg P xt as bs)=_;rw[h];rfl) k
end
theorem YaZ {i:Inst}{N:Nat}(hb:Sb i N)(hsd:Sd i)(x:Int): 0≤mate i.pairs x∧mate i.pairs x≤8:=by
 have hN:=hb.sq.high
 have hst:=hb.sq.stops
 by_cases q:mate i.pairs x=0
 ·omega
 ·obtain⟨p,hp,hh⟩:=Y5B _ _ q
  obtain⟨p1,p2,-⟩:=hsd p hp
  have p3:=Y0w p1
  have p4:=Y0w p2
  rcases hh with ⟨-,hh⟩ | ⟨-,hh⟩ <;> omega
section
variable {P:Program}{I:InlP}{nb:Nat}{Q:Ex→St→Prop}{ops:Array Oper}{K:St→Prop}{r:List Oper}{ts:Slots}{m:Mem}{t:Nat}{ty:TypeId}{pos:String}{af:Array Edge}{d:Bool}{i:Nat}{acc:List (Nat × List Nat × List Nat)}
theorem GL.appendE (hI:InlM I){x y:Operand}{e u et:TypeId}{b g off n:Nat}{cap:Option Nat}{bx:Box}(ht:sliceE P e=some et)(hu:u=e)(hs:(szT P et).isSome=true)(hx:evalO ts x=.own b g off n cap)(hm:m b=some bx)(hg:bx.gen=g)(hy:evalO ts y=.sl [])
  (k:GL P I nb ops K d r (i+1) ((i,[],[b])::acc) ⟨updS ts t (.own b g off n cap),m⟩):GL P I nb ops K d (⟨some t,.call { callee:=.builtin .append,args:=#[x,y],argTypes:=#[e,u] },ty,pos,af,none⟩::r) i acc ⟨ts,m⟩:=by
 have:=GL.stepP (P:=P) (I:=I) (nb:=nb) (ops:=ops) (K:=K) (d:=d) (r:=r) (ts:=ts) (m:=m) (t:=t) (ty:=ty) (pos:=pos) (af:=af) (i:=i) (acc:=acc) hI
  (.append0 (x:=x) (y:=y) (t:=e) (u:=u) (e:=et) (n:=n) (R:=[b]) (S:=[]) (by rw[hx];rfl) (by simp[hx]) ht hu hs (by rw[hy];rfl) (by simp[hy]) (by rw[hx];exact .own hm hg) (by rw[hy];exact .sl))
 rw[hx] at this
 exact this k
theorem GL.appendO (hI:InlM I){α:Type}{f:α→List LV}{l l2:List α}{x y:Operand}{e u et:TypeId}{b g n n2:Nat}{bx:Box}{z:List LV}{sz:Nat}(hz:zeroL P et=some z)(hzl:z.length=sz)(hs:szT P et=some sz)(ht:sliceE P e=some et)(hu:u=e)(h0:0<sz)(hb:P.bytesOf et≤4096)
  (hx:evalO ts x=.own b g 0 n none) (hm:m b=some bx) (hg:bx.gen=g) (hf:bx.frz=false) (hk:bx.kind=.slc) (hsz:bx.sz=sz) (he:bx.es=em f l) (hn:n=l.length)
  (hy:evalO ts y=.sl (em f l2)) (hfs:∀ a,(f a).length=sz) (h1:∀ a,(f a).all oneC=true) (hn2:l2.length=n2) (hpos:0<n2) (hle:n+n2≤4294967296)
  (k:GL P I nb ops K d r (i+1) ((i,[b],[b])::acc) ⟨updS ts t (.own b (g+1) 0 (n+n2) none),updM m b ⟨g+1,false,.slc,sz,em f (l++l2)⟩⟩) :
  GL P I nb ops K d (⟨some t,.call { callee:=.builtin .append,args:=#[x,y],argTypes:=#[e,u] },ty,pos,af,none⟩::r) i acc ⟨ts,m⟩:=by
 subst hzl hn2
 have hl2:(em f l2).length=l2.length:=Y00 f l2
 have hr:=OpR.append (P:=P) (d:=nb+64*t) (ρ:=evalO ts) (m:=m) (x:=x) (y:=y) (t:=e) (u:=u) (e:=et) (off:=0) (len:=n) (es:=em f l2) (z:=z) (R:=[]) hx hm hg hf hk (by rw[he,Y00];omega) ht hu hz hs hsz h0 (by rw[hy];exact .sl (Ycr hfs l2)) (by simp) (by rw[hl2];exact hpos) (YaL h1 l2) (by rw[hl2];exact hle) hb
 refine .step hI hr (by simp[hf]) ?_
 rw[hl2,he]
 have e1:(em f l).drop 0++em f l2=em f (l++l2):=by simp[em]
 rw[e1]
 simp only[effM,Wn,List.map]
 rw[hf,hk,hsz]
 exact k
end
theorem Wp.merge {P:Program}{I:InlP}{nb:Nat}{Q:Ex→St→Prop}{st:St}(hI:InlM I){x y:Code}(B:St→Prop)(h:Wp P I nb x (thenX (fun s=>∃ s',Weak s s'∧B s') Q) st)(hy:∀ s,B s→Wp P I nb y Q s): Wp P I nb (.seq x y) Q st :=
 Wp.mono (Q:=thenX (fun s=>∃ s',Weak s s'∧B s') Q) (Q':=thenX (fun s=>∃ s',Weak s s'∧Wp P I nb y Q s') Q) hI (fun e s hs=>by
  cases e with
  | normal =>
   obtain⟨s',h1,h2⟩:=hs
   exact⟨s',h1,hy s' h2⟩
  | exit id=>exact hs
  | ret=>exact hs) h
def Ygk := @Wp.merge
def RetM (P:Program)(rvs:List ResultVar)(R:LV→Mem→Prop): Ex→St→Prop
 | .exit _,_=>False
 | _,st=>∃ vs,ResVs P st rvs vs∧R (oneOf vs) st.m
theorem RetM.mono {P:Program}{rvs:List ResultVar}{R R':LV→Mem→Prop}(h:∀ v m,R v m→R' v m): ∀ e s,RetM P rvs R e s→RetM P rvs R' e s:=by
 intro e s hs
 cases e with
 | exit id=>exact hs
 | normal=>obtain⟨vs,h1,h2⟩:=hs;exact⟨vs,h1,h _ _ h2⟩
 | ret=>obtain⟨vs,h1,h2⟩:=hs;exact⟨vs,h1,h _ _ h2⟩
theorem RetM.ret_ {P:Program}{rvs:List ResultVar}{R:LV→Mem→Prop}{st:St}(h:∃ vs,ResVs P st rvs vs∧R (oneOf vs) st.m): RetM P rvs R .ret st:=h
def YgB := @RetM.ret_
theorem RetM.normal_ {P:Program}{rvs:List ResultVar}{R:LV→Mem→Prop}{st:St}(h:∃ vs,ResVs P st rvs vs∧R (oneOf vs) st.m): RetM P rvs R .normal st:=h
def Ygz := @RetM.normal_
def I1 (P:Program)(f0:FuncId)(fn:Func)(n:Nat): InlP:=fun nb f args m R=>f=f0∧args.length=n∧∀ c,fn.body=some c→Wp P I0 nb c (RetM P fn.results.toList R) ⟨argS args,m⟩
theorem I1.mono {P:Program}{f0:FuncId}{fn:Func}{n:Nat}: InlM (I1 P f0 fn n):=by
 rintro nb f args m R R' h ⟨h1,h2,h3⟩
 exact⟨h1,h2,fun c hc=>Wp.mono YfX (RetM.mono h) (h3 c hc)⟩
def Yg7 := @I1.mono
theorem Yb2 {P : Program} {I : InlP} (hI : InlS P I) (hmix : P.follows .mixedOrders = true) {f : FuncId} {fn : Func} {c : Code} (hf : P.funcs[f]? = some fn) (hb : fn.body = some c) (hname : (fn.name == "runtime.NumGoroutine") = false)
  {args:List LV}{m:Mem}{R:LV→Mem→Prop}(hlen:args.length≤fn.ntmps) (hd:dstsOK fn.ntmps c=true) {nb:Nat}(hw:Wp P I nb c (RetM P fn.results.toList R) ⟨argS args,m⟩) :
  FuncOK P f∧∀ X a w F ρ ts,Inv X ⟨ts,m⟩ a w F ρ→∀ vs,RelL w F ρ m (.agg vs) (.agg args) →
   Calls P f vs w fun e w'=>∃ v r m' F' ρ',e=.returned v∧R r m'∧Inv X ⟨ts,m'⟩ a w' F' ρ'∧RelL w' F' ρ' m' v r:=by
 refine⟨⟨fn,hf,hname,by rw[hb];rfl⟩,fun X a0 w F ρ ts h vs hrel=>?_⟩
 obtain⟨cs,e1,e2,e3⟩:=hrel.cells
 injection e1 with e1
 subst e1
 refine calls_of_wp hf hb ?_
 have hinv:Inv ⟨X.w0,X.F0,X.O0,fun v l=>X.K v l∨∃ j,v=a0.tmps.getD j Go.undef∧l=ts j⟩ ⟨argS args,m⟩ { tmps:=vs++Array.replicate (fn.ntmps - vs.size) undef,defers:=[] } w F ρ:=by
  refine⟨rfl,fun j=>?_,h.boxes,h.place,h.inj,h.frz0,h.frz1,h.frzlt,h.ext,fun v l hv=>?_⟩
  ·show RelL w F ρ m _ (argS args j)
   unfold argS
   rw[Ye7]
   by_cases hj:j<vs.size
   ·rw[YeK hj,YdL hj]
    have hj':j<args.length:=by omega
    rw[YdO hj']
    exact e3 j _ _ (YdL hj) (YdO hj')
   ·rw[YeS (by omega)]
    have:((vs++Array.replicate (fn.ntmps - vs.size) undef)[j]?).getD Go.undef=Go.undef:=by
     rw[Yf9 (by omega)]
     by_cases h2:j - vs.size<fn.ntmps - vs.size
     ·rw[YdL (by simpa using h2)]
      simp
     ·rw[YfM (by simp;omega)]
      rfl
    rw[this]
    exact .frz .skip
  ·rcases hv with hv | ⟨j,rfl,rfl⟩
   ·exact h.kept v l hv
   ·exact h.slots j
 refine wp_mono (Wp.sound hI hmix c hd hw hinv (by simp;omega)) fun e a w' hp=>?_
 obtain⟨ex,st,F',ρ',rfl,hq,hi,-⟩:=hp
 have key:(∃ vs',ResVs P st fn.results.toList vs'∧R (oneOf vs') st.m)→a.defers=[]∧∃ v,(results fn a.tmps).run P w'=.ok v w'∧∃ v_1 r m' F' ρ',Ending.returned v=.returned v_1∧R r m'∧Inv X ⟨ts,m'⟩ a0 w' F' ρ'∧RelL w' F' ρ' m' v_1 r:=by
  rintro⟨vs',h1,h2⟩
  obtain⟨val,k1,k2⟩:=Y14 hi h1
  exact⟨hi.defers,val,k1,val,_,st.m,F',ρ',rfl,h2,⟨h.defers,fun j=>hi.kept _ _ (.inr ⟨j,rfl,rfl⟩),hi.boxes,hi.place,hi.inj,hi.frz0,hi.frz1,hi.frzlt,hi.ext,fun v l hv=>hi.kept v l (.inl hv)⟩,k2⟩
 cases ex with
 | normal=>exact key hq
 | ret=>exact key hq
 | exit id=>exact hq.elim
theorem I1.sound {P : Program} (hmix : P.follows .mixedOrders = true) {f0 : FuncId} {fn : Func} {c : Code} {n : Nat} (hf : P.funcs[f0]? = some fn) (hb : fn.body = some c) (hname : (fn.name == "runtime.NumGoroutine") = false) (hlen : n ≤ fn.ntmps) (hd : dstsOK fn.ntmps c = true) : InlS P (I1 P f0 fn n) := by
 rintro nb f args m R ⟨rfl,h2,h3⟩
 exact Yb2 (Yga _) hmix hf hb hname (by rw[h2];exact hlen) hd (h3 c hb)
section
variable {P:Program}{I:InlP}{nb:Nat}{Q:Ex→St→Prop}{ops:Array Oper}{K:St→Prop}{r:List Oper}{ts:Slots}{m:Mem}{t:Nat}{ty:TypeId}{pos:String}{af:Array Edge}{d:Bool}{i:Nat}{acc:List (Nat × List Nat × List Nat)}
theorem GL.inl (hI:InlM I){g:Operand}{as:Array Operand}{tys:Array TypeId}{f:FuncId}{caps:List LV}{nb':Nat}{dst:Option Nat}(hg:evalO ts g=.fn f caps)
  (k:I nb' f (as.toList.map (evalO ts)++caps) m fun v m'=>GL P I nb ops K false r (i+1) [] ⟨putS ts dst v,m'⟩) :
  GL P I nb ops K false (⟨dst,.call { callee:=.value g,args:=as,argTypes:=tys },ty,pos,af,none⟩::r) i acc ⟨ts,m⟩:=by
 simp only[GL,wantedL]
 refine .inl (o:=⟨dst,.call { callee:=.value g,args:=as,argTypes:=tys },ty,pos,af,none⟩) rfl hg (hI _ _ _ _ _ _ (fun v m' h=>?_) k)
 exact GL.accI hI h
theorem GL.nilCheckF (hI:InlM I){x:Operand}{es:List (List LV)}{j c:Nat}(hx:evalO ts x=.fad es j c)(k:GL P I nb ops K d r (i+1) ((i,[],[])::acc) ⟨updS ts t (.fad es j c),m⟩):
  GL P I nb ops K d (⟨some t,.nilCheck x,ty,pos,af,none⟩::r) i acc ⟨ts,m⟩:=by
 have h:=OpR.nilCheck (P:=P) (d:=nb+64*t) (ρ:=evalO ts) (m:=m) (x:=x) (by rw[hx];rfl)
 rw[hx] at h
 exact .stepP hI h k
theorem GL.nilCheckR (hI:InlM I){x:Operand}{b g j c:Nat}{y:Box}(hx:evalO ts x=.ref b g j c)(hm:m b=some y)(hg:y.gen=g)(k:GL P I nb ops K d r (i+1) ((i,[],[b])::acc) ⟨updS ts t (.ref b g j c),m⟩):
  GL P I nb ops K d (⟨some t,.nilCheck x,ty,pos,af,none⟩::r) i acc ⟨ts,m⟩:=by
 have h:=OpR.nilCheckR (P:=P) (d:=nb+64*t) (ρ:=evalO ts) (m:=m) (x:=x) hx hm hg
 rw[hx] at h
 exact .stepP hI h k
end
section
variable {P:Program}{I:InlP}{nb:Nat}{Q:Ex→St→Prop}{ops:Array Oper}{K:St→Prop}{r:List Oper}{ts:Slots}{m:Mem}{t:Nat}{ty:TypeId}{pos:String}{af:Array Edge}{d:Bool}{i:Nat}{acc:List (Nat × List Nat × List Nat)}
theorem GL.callN (hI:InlM I){g:Operand}{as:Array Operand}{tys:Array TypeId}{f:FuncId}{caps args:List LV}{T:List Nat}{res v:LV}{e:List (Nat × Box)}(hg:evalO ts g=.fn f caps)(hf:Frz m (.agg (as.toList.map (evalO ts)++caps)) (.agg args) T)(hc:CallsV P f args res)
  (hT:unmark m (markE m T)=[]) (ht:topI res=true) (hr:impT m (nb+64*t) res=(v,e)) (k:GL P I nb ops K d r (i+1) ((i,Wn e,T++Wn e)::acc) ⟨updS ts t v,effM m e⟩) :
  GL P I nb ops K d (⟨some t,.call { callee:=.value g,args:=as,argTypes:=tys },ty,pos,af,none⟩::r) i acc ⟨ts,m⟩:=by
 have hm:effM m (markE m T)=m:=by rw[Y0l T fun n x hx=>.inl hx,hT];rfl
 cases d with
 | false =>
  simp only[GL,wantedL]
  refine .call (o:=⟨some t,.call { callee:=.value g,args:=as,argTypes:=tys },ty,pos,af,none⟩) rfl hg hf hc fun r' hr'=>?_
  subst hr'
  refine⟨ht,?_⟩
  simp only[nameO,YeA,hm,hr]
  exact GL.accI hI k
 | true =>
  simp only[GL,wantedL]
  refine⟨_,.call (o:=⟨some t,.call { callee:=.value g,args:=as,argTypes:=tys },ty,pos,af,none⟩) rfl hg hf hc ht,?_⟩
  simp only[nameO,YeA,hm,hr,hT,YdY]
  exact k
theorem GL.callX (hI:InlM I){g:Operand}{as:Array Operand}{tys:Array TypeId}{f:FuncId}{caps args:List LV}{T W:List Nat}{res v:LV}{u e:List (Nat × Box)}(hg:evalO ts g=.fn f caps)(hf:Frz m (.agg (as.toList.map (evalO ts)++caps)) (.agg args) T)(hc:CallsV P f args res)
  (hu:unmark m (markE m T)=u) (hW:Wn u=W) (ht:topI res=true) (hr:impT (effM m u) (nb+64*t) res=(v,e)) (k:GL P I nb ops K d r (i+1) ((i,W++Wn e,T++Wn e)::acc) ⟨updS ts t v,effM (effM m u) e⟩) :
  GL P I nb ops K d (⟨some t,.call { callee:=.value g,args:=as,argTypes:=tys },ty,pos,af,none⟩::r) i acc ⟨ts,m⟩:=by
 have hm:effM m (markE m T)=effM m u:=by rw[Y0l T fun n x hx=>.inl hx,hu]
 cases d with
 | false =>
  simp only[GL,wantedL]
  refine .call (o:=⟨some t,.call { callee:=.value g,args:=as,argTypes:=tys },ty,pos,af,none⟩) rfl hg hf hc fun r' hr'=>?_
  subst hr'
  refine⟨ht,?_⟩
  simp only[nameO,YeA,hm,hr]
  exact GL.accI hI k
 | true =>
  simp only[GL,wantedL]
  refine⟨_,.call (o:=⟨some t,.call { callee:=.value g,args:=as,argTypes:=tys },ty,pos,af,none⟩) rfl hg hf hc ht,?_⟩
  simp only[nameO,YeA,hm,hr,hu,Y0b]
  rw[show Wn (u++e)=W++Wn e by rw[← hW];simp[Wn]]
  exact k
def Ygv := @GL.callX
end
theorem Weak.nilSl {ts:Slots}{m:Mem}{j:Nat}(hj:ts j=.nils): Weak ⟨ts,m⟩ ⟨updS ts j (.sl []),m⟩:=by
 intro X a w F ρ h
 refine⟨F,ρ,{ h with slots:=fun i=>?_ }⟩
 by_cases hi:j=i
 ·subst hi
  have hv:=h.slots j
  change RelL w F ρ m _ (ts j) at hv
  rw[hj] at hv
  show RelL w F _ _ _ (updS ts j _ j)
  rw[Y0N,hv.nils]
  exact .frz (.sl (blk:=0) (off:=0) (sz:=0) (fun _ _=>undef) rfl (Ye2 _) (fun h=>absurd h (by omega)) (by simp) (by simp) (by simp))
 ·show RelL w F _ _ _ (updS ts j _ i)
  rw[Y3u _ _ hi]
  exact h.slots i
section
variable {P:Program}{I:InlP}{nb:Nat}{Q:Ex→St→Prop}{ops:Array Oper}{K:St→Prop}{r:List Oper}{ts:Slots}{m:Mem}{t:Nat}{ty:TypeId}{pos:String}{af:Array Edge}{d:Bool}{i:Nat}{acc:List (Nat × List Nat × List Nat)}
theorem GL.any (hI:InlM I){op:Op}{R:LV→List (Nat × Box)→Prop}(h:OpN P (evalO ts) m op R)(k:∀ v eff,R v eff→GL P I nb ops K false r (i+1) acc ⟨updS ts t v,effM m eff⟩): GL P I nb ops K false (⟨some t,op,ty,pos,af,none⟩::r) i acc ⟨ts,m⟩:=by
 simp only[GL,wantedL]
 exact .any (o:=⟨some t,op,ty,pos,af,none⟩) h fun v eff hr=>k v eff hr
theorem GL.sliceFromO (hI:InlM I){st e:TypeId}{x lo:Operand}{kk:IntKind}{n:Int}{b g off len j len':Nat}{y:Box}{sz:Nat}(ht:sliceE P st=some e)(hs:szT P e=some sz)(hx:evalO ts x=.own b g off len none)(hm:m b=some y)(hg:y.gen=g)(hk:y.kind=.slc)(hz:y.sz=sz)(hl:evalO ts lo=.int kk n)
  (h0:0≤n) (h1:n≤(len:Int)) (h2:off+len≤y.es.length) (hj:off+n.toNat=j) (hl':len - n.toNat=len') (k:GL P I nb ops K d r (i+1) ((i,[],[b])::acc) ⟨updS ts t (.own b g j len' none),m⟩):GL P I nb ops K d (⟨some t,.slice st x (some lo) none none,ty,pos,af,none⟩::r) i acc ⟨ts,m⟩:=by
 subst hj hl'
 exact .stepP hI (.slice (l:=n.toNat) (h:=len) hx hm hg hk ht (hz ▸ hs) (by simp only[bndL];rw[hl];simp only[h0,if_true]) rfl (by omega) h2 (by simp)) k
def YgE := @GL.sliceFromO
theorem GL.range (hI:InlM I){mt kt et:TypeId}{x:Operand}{es:List (List LV)}{T:List Nat}{m':Mem}(ht:P.underlying mt=some (.map kt et))(hx:Frz m (evalO ts x) (.fmap es) T)(hm:effM m (markE m T)=m')
  (k:∀ g,GL P I nb ops K false r (i+1) acc ⟨updS ts t (.mref (nb+64*t) g),updM m' (nb+64*t) ⟨g,false,.mp,3,[]::es⟩⟩):GL P I nb ops K false (⟨some t,.range mt x,ty,pos,af,none⟩::r) i acc ⟨ts,m⟩:=by
 subst hm
 simp only[GL,wantedL]
 refine .op (o:=⟨some t,.range mt x,ty,pos,af,none⟩) (.range ht hx) ?_
 rw[Y0b]
 exact k _
theorem GL.next (hI:InlM I){x:Operand}{b g:Nat}{y:Box}{h:List LV}{es:List (List LV)}(hx:evalO ts x=.mref b g)(hm:m b=some y)(hg:y.gen=g)(hf:y.frz=false)(hk:y.kind=.mp)(hn:y.sz=3)(he:y.es=h::es)
  (k0:es=[]→GL P I nb ops K false r (i+1) acc ⟨updS ts t (.tup [.bool false]),m⟩)
  (k1:∀ (j:Nat) (k v:LV),es[j]?=some [k,v]→GL P I nb ops K false r (i+1) acc ⟨updS ts t (.tup [.bool true,k,v]),updM m b ⟨g,false,.mp,3,[k,v]::es.eraseIdx j⟩⟩) :
  GL P I nb ops K false (⟨some t,.next x false,ty,pos,af,none⟩::r) i acc ⟨ts,m⟩:=by
 refine .any hI (.next hx hm hg hf hk hn he) fun v eff hr=>?_
 rcases hr with ⟨h0,rfl,rfl⟩ | ⟨j,k,w,h1,rfl,rfl⟩
 ·exact k0 h0
 ·have:=k1 j k w h1
  simp only[effM,hg,hf,hk,hn]
  exact this
theorem GL.entry (hI:InlM I){x:Operand}{b g:Nat}{y:Box}{k v:LV}{es:List (List LV)}(hx:evalO ts x=.mref b g)(hm:m b=some y)(hg:y.gen=g)(hk:y.kind=.mp)(hn:y.sz=3)(he:y.es=[k,v]::es)
  (kk:GL P I nb ops K d r (i+1) ((i,[],[b])::acc) ⟨updS ts t (.tup [k,v]),m⟩):GL P I nb ops K d (⟨some t,.entry x,ty,pos,af,none⟩::r) i acc ⟨ts,m⟩:=.stepP hI (.entry hx hm hg hk hn he) kk
end
section
variable {P:Program}{I:InlP}{nb:Nat}{Q:Ex→St→Prop}{ops:Array Oper}{K:St→Prop}{r:List Oper}{ts:Slots}{m:Mem}{t:Nat}{ty:TypeId}{pos:String}{af:Array Edge}{d:Bool}{i:Nat}{acc:List (Nat × List Nat × List Nat)}
theorem GL.indexAr (hI:InlM I){xt e:TypeId}{x ix:Operand}{kk:IntKind}{n:Int}{len j:Nat}{cs:List LV}{v:LV}(ht:arrayE P xt=some (len,e))(hs:szT P e=some 1)(ha:isAggT P e=some false)(hx:evalO ts x=.agg cs)(hi:evalO ts ix=.int kk n)(h0:0≤n)(h1:n<(len:Int))(hj:n.toNat=j)(hv:cs[j]?=some v)
  (k:GL P I nb ops K d r (i+1) ((i,[],[])::acc) ⟨updS ts t v,m⟩):GL P I nb ops K d (⟨some t,.index xt x ix,ty,pos,af,none⟩::r) i acc ⟨ts,m⟩:=.stepP hI (.indexAr hx hi ht hs ha h0 h1 (hj ▸ hv)) k
theorem GL.lend1 (hI:InlM I){g:Operand}{as:Array Operand}{tys:Array TypeId}{f:FuncId}{caps args:List LV}{T M:List Nat}{dst:Option Nat}{R:LV→LV→Prop}{j:Nat}{u:LV}{m1:Mem}(hg:evalO ts g=.fn f caps)(he:Exp m (.agg (as.toList.map (evalO ts)++caps)) (.agg args) T M)
  (hM:M.Nodup) (hMT:∀ n∈M,n∉T) (hc:CallsM P f args (some j) R) (hu:(as.toList.map (evalO ts)++caps)[j]?=some u) (h1:effM m (markE m T)=m1)
  (k:∀ res q,R res q→topI res=true∧∃ b x,Back1 m1 u q b x∧b∈M∧b<1000000000∧∃ m2 m3,effM m1 (lendE m1 [(b,x)] M)=m2∧effM m2 (fill1 m2 (nb+64*dst.getD 4000) b x q)=m3 ∧
   GL P I nb ops K false r (i+1) acc ⟨putS ts dst (impT m3 (nb+64*dst.getD 4000) res).1,effM m3 (impT m3 (nb+64*dst.getD 4000) res).2⟩) :
  GL P I nb ops K false (⟨dst,.call { callee:=.value g,args:=as,argTypes:=tys },ty,pos,af,none⟩::r) i acc ⟨ts,m⟩:=by
 subst h1
 simp only[GL,wantedL]
 refine .lend1 (o:=⟨dst,.call { callee:=.value g,args:=as,argTypes:=tys },ty,pos,af,none⟩) rfl hg he hM hMT hc hu fun res q hr=>?_
 obtain⟨h2,b,x,h3,h4,h5,m2,m3,e2,e3,h6⟩:=k res q hr
 refine⟨b,x,h2,h3,h4,h5,fun n1 n2 q1 q2=>?_⟩
 have z1:m2=n1:=e2.symm.trans q1
 subst z1
 have z2:m3=n2:=e3.symm.trans q2
 subst z2
 exact h6
def Ygh := @GL.lend1
end
open Go.Sort
def sorted (zs:List Int): List Int:=zs.mergeSort fun x y=>decide (x≤y)
theorem Y3m (zs:List Int): (sorted zs).length=zs.length:=List.length_mergeSort _
structure Turn where
 car:Int
 before:List Int
 after:List Int
deriving Inhabited,DecidableEq
structure Hold where
 n:Int
 before:Int
 after:Int
deriving Inhabited,DecidableEq
structure Delta where
 turns:List Turn
 locks:List Hold
 ices:List Hold
deriving Inhabited,DecidableEq
def kt (t:Turn): List LV:=[.int .i64 t.car,.sl (em ni t.before),.sl (em ni t.after)]
def kh (h:Hold): List LV:=[.int .i64 h.n,.int .i64 h.before,.int .i64 h.after]
def kd (d:Delta): List LV:=[.sl (em kt d.turns),.sl (em kh d.locks),.sl (em kh d.ices)]
section
variable {α:Type}{f:α→List LV}
def posI [Inhabited α](k:α→Int)(x:α)(p:List α): Nat→Nat
 | 0=>0
 | j+1=>if k x<k (p.getD j default) then posI k x p j else j+1
def insI [Inhabited α](k:α→Int)(p:List α)(x:α): List α:=p.take (posI k x p p.length)++x::p.drop (posI k x p p.length)
def isort [Inhabited α](k:α→Int): List α→List α→List α
 | p,[]=>p
 | p,x::r=>isort k (insI k p x) r
theorem Ycu [Inhabited α](k:α→Int)(x:α)(p:List α)(j:Nat): posI k x p j≤j:=by
 induction j with
 | zero=>exact Ye2 _
 | succ j ih =>
  rw[posI]
  split
  ·omega
  ·exact Ye2 _
theorem Ybz [Inhabited α](k:α→Int)(p:List α)(x:α): (insI k p x).length=p.length+1:=by
 have:=Ycu k x p p.length
 simp[insI]
 omega
theorem Y29 [Inhabited α](k:α→Int)(p r:List α): (isort k p r).length=p.length+r.length:=by
 induction r generalizing p with
 | nil=>simp[isort]
 | cons x r ih =>
  rw[isort,ih,Ybz]
  simp
  omega
end
section
variable {P:Program}{I:InlP}{nb:Nat}{Q:Ex→St→Prop}{ops:Array Oper}{K:St→Prop}{r:List Oper}{ts:Slots}{m:Mem}{t:Nat}{ty:TypeId}{pos:String}{af:Array Edge}{d:Bool}{i:Nat}{acc:List (Nat × List Nat × List Nat)}
theorem GL.sliceToO (hI:InlM I){st e:TypeId}{x hi:Operand}{kk:IntKind}{n:Int}{b g off len j:Nat}{y:Box}{sz:Nat}(ht:sliceE P st=some e)(hs:szT P e=some sz)(hx:evalO ts x=.own b g off len none)(hm:m b=some y)(hg:y.gen=g)(hk:y.kind=.slc)(hz:y.sz=sz)(hh:evalO ts hi=.int kk n)
  (h0:0≤n) (h1:n≤(len:Int)) (h2:off+len≤y.es.length) (hj:n.toNat=j) (k:GL P I nb ops K d r (i+1) ((i,[],[b])::acc) ⟨updS ts t (.own b g off j none),m⟩):GL P I nb ops K d (⟨some t,.slice st x none (some hi) none,ty,pos,af,none⟩::r) i acc ⟨ts,m⟩:=by
 subst hj
 exact .stepP hI (.slice (l:=0) (h:=n.toNat) hx hm hg hk ht (hz ▸ hs) rfl (by simp only[bndL];rw[hh];simp only[h0,if_true]) (Ye1 _) (by omega) (by simp)) k
end
section
variable {α:Type}
def idxP (p:α→Bool): List α→Int→Int
 | [],_ => -1
 | x::r,i=>if p x then i else idxP p r (i+1)
theorem Y8k [Inhabited α](p:α→Bool)(l:List α)(j:Nat)(hj:j<l.length): idxP p (l.drop j) j=if p (l.getD j default) then (j:Int) else idxP p (l.drop (j+1)) ((j+1:Nat):Int):=by
 have:l.drop j=l.getD j default::l.drop (j+1):=by
  rw[List.drop_eq_getElem_cons hj]
  simp[hj,List.getD]
 rw[this,idxP]
 rfl
theorem Ybr (p:α→Bool)(l:List α)(j:Nat)(hj:l.length≤j)(i:Int): idxP p (l.drop j) i = -1:=by
 rw[YfN hj]
 rfl
theorem Yag [Inhabited α](p:α→Bool)(l:List α): ∀ n:Int,(idxP p l n = -1∧∀ x∈l,p x=false)∨∃ j:Nat,j<l.length∧idxP p l n=n+j∧p (l.getD j default)=true∧∀ x∈l.take j,p x=false:=by
 induction l with
 | nil=>exact fun n=>.inl ⟨rfl,by simp⟩
 | cons x r ih =>
  intro n
  rw[idxP]
  by_cases h:p x=true
  ·rw[if_pos h]
   exact .inr ⟨0,by simp,by simp,by simpa using h,by simp⟩
  ·rw[if_neg h]
   have h':p x=false:=by simpa using h
   rcases ih (n+1) with ⟨e1,e2⟩ | ⟨j,e1,e2,e3,e4⟩
   ·exact .inl ⟨e1,fun y hy=>by
     rcases Yep.1 hy with rfl | hy
     ·exact h'
     ·exact e2 y hy⟩
   ·refine .inr ⟨j+1,by simpa using e1,by rw[e2];omega,by simpa using e3,fun y hy=>?_⟩
    rw[YdR] at hy
    rcases Yep.1 hy with rfl | hy
    ·exact h'
    ·exact e4 y hy
theorem Y02 [Inhabited α]{l:List α}{j:Nat}(h:j<l.length): l.getD j default∈l:=by
 have:l.getD j default=l[j]:=by simp[h,List.getD]
 rw[this]
 exact YeO h
theorem Y0a [Inhabited α]{l:List α}{j:Nat}(h:j<l.length): l.take (j+1)=l.take j++[l.getD j default]:=by
 rw[List.take_add_one]
 simp[h,List.getD]
end
def kb (n:Int): List LV:=[.int .i64 n,.bool true]
def addK (l:List Int)(n:Int): List Int:=if n∈l then l else l++[n]
theorem Y9f {l:List Int}(h:l.Nodup)(n:Int): (addK l n).Nodup:=by
 unfold addK
 split
 ·exact h
 ·rename_i hn
  exact Yff.2 ⟨h,by simp,fun a ha b hb=>by
   rw[Yej] at hb
   subst hb
   exact fun e=>hn (e ▸ ha)⟩
theorem Y0I {l:List Int}{n x:Int}: x∈addK l n↔x∈l∨x=n:=by
 unfold addK
 split
 ·rename_i h
  exact⟨.inl,fun h'=>h'.elim id fun e=>e ▸ h⟩
 ·simp
theorem Y3Y (l:List Int)(n:Int): (addK l n).length≤l.length+1:=by
 unfold addK
 split <;> simp
theorem Y5r {P:Program}{t:TypeId}(ht:P.underlying t=some (.int .i64))(n:Int): ∀ (l:List Int),findL P t (.int .i64 n) (em kb l)=some (if n∈l then some (.bool true) else none)
 | []=>rfl
 | x::r=>by
  show findL P t (.int .i64 n) ([.int .i64 x,.bool true]::em kb r)=_
  simp only[findL,eqK,eqT,ht,if_true]
  by_cases e:n=x
  ·subst e
   rw[show (n == n)=true by simp]
   simp
  ·rw[show (n == x)=false by simpa using e]
   show findL P t (.int .i64 n) (em kb r)=_
   rw[Y5r ht n r]
   simp[e]
theorem Y9D {P:Program}{t:TypeId}(ht:P.underlying t=some (.int .i64))(n:Int): ∀ (l:List Int),setL P t (.int .i64 n) (.bool true) (em kb l)=em kb (addK l n)
 | []=>rfl
 | x::r=>by
  show setL P t (.int .i64 n) (.bool true) ([.int .i64 x,.bool true]::em kb r)=_
  simp only[setL,eqK,eqT,ht,if_true]
  by_cases e:n=x
  ·subst e
   rw[show (n == n)=true by simp]
   simp[addK,em,kb]
  ·rw[show (n == x)=false by simpa using e]
   show _::setL P t (.int .i64 n) (.bool true) (em kb r)=_
   rw[Y9D ht n r]
   unfold addK
   by_cases h:n∈r
   ·simp[h,em,kb]
   ·simp[h,e,em,kb]
section
variable {P:Program}{I:InlP}{nb:Nat}{Q:Ex→St→Prop}{ops:Array Oper}{K:St→Prop}{r:List Oper}{ts:Slots}{m:Mem}{t:Nat}{ty:TypeId}{pos:String}{af:Array Edge}{d:Bool}{i:Nat}{acc:List (Nat × List Nat × List Nat)}
theorem GL.setLook (hI:InlM I){tt kt et:TypeId}{x ix:Operand}{b g:Nat}{y:Box}{n:Int}{l:List Int}(ht:P.underlying tt=some (.map kt et))(hkt:P.underlying kt=some (.int .i64))(hz:zero1L P et=some (.bool false))(hx:evalO ts x=.mref b g)(hm:m b=some y)(hg:y.gen=g)(hk:y.kind=.mp)(hq:y.sz=2)(he:y.es=em kb l)(hn:evalO ts ix=.int .i64 n)
  (k:GL P I nb ops K d r (i+1) ((i,[],[b])::acc) ⟨updS ts t (.bool (decide (n∈l))),m⟩):GL P I nb ops K d (⟨some t,.lookup tt x ix false,ty,pos,af,none⟩::r) i acc ⟨ts,m⟩:=by
 have h:=OpR.lookup (d:=nb+64*t) (ok:=false) (ix:=ix) hx hm hg hk hq ht (by rw[hn];simp[keyK,scalK,hkt,pureL]) hz (by rw[hn,he];exact Y5r hkt n l)
 refine .stepP hI h ?_
 by_cases e:n∈l
 ·rw[decide_eq_true e] at k
  rw[if_pos e]
  exact k
 ·rw[decide_eq_false e] at k
  rw[if_neg e]
  exact k
theorem GL.setPut (hI:InlM I){tt kt et:TypeId}{x ix y:Operand}{b g:Nat}{bx:Box}{n:Int}{l:List Int}(ht:P.underlying tt=some (.map kt et))(hkt:P.underlying kt=some (.int .i64))(hx:evalO ts x=.mref b g)(hm:m b=some bx)(hg:bx.gen=g)(hf:bx.frz=false)(hk:bx.kind=.mp)(hq:bx.sz=2)(he:bx.es=em kb l)(hn:evalO ts ix=.int .i64 n)(hy:evalO ts y=.bool true)
  (k:GL P I nb ops K d r (i+1) ((i,[b],[b])::acc) ⟨ts,updM m b ⟨g,false,.mp,bx.sz,em kb (addK l n)⟩⟩):GL P I nb ops K d (⟨none,.mapUpdate tt x ix y,ty,pos,af,none⟩::r) i acc ⟨ts,m⟩:=by
 have h:=OpR.mapUpdate (d:=nb+64*4000) (ix:=ix) (y:=y) hx hm hg hk hq hf ht (by rw[hn];simp[keyK,scalK,hkt,pureL]) (by rw[hn,he];exact Y5r hkt n l) (.pure (by rw[hy];rfl)) (by simp)
 refine .stepN hI h (by simp[hf,markE]) ?_
 rw[hn,hy,he,Y9D hkt n l]
 simp only[markE,YdY]
 simp only[effM,Wn,List.map]
 rw[hg,hf,hk]
 exact k
end
theorem Ydj {R:List Int}{j:Nat}{k v:LV}(h:(em kb R)[j]?=some [k,v]): ∃ n:Int,R[j]?=some n∧k=.int .i64 n∧v=.bool true:=by
 simp only[em,YeY,YfO,kb] at h
 obtain⟨n,h1,h2⟩:=h
 injection h2 with h2 h3
 injection h3 with h3
 exact⟨n,h1,h2.symm,h3.symm⟩
theorem Y2d {α:Type}(f:α→List LV): ∀ (l:List α) (j:Nat),(em f l).eraseIdx j=em f (l.eraseIdx j)
 | [],j=>by simp[em]
 | x::r,0=>rfl
 | x::r,j+1=>by
  show f x::(em f r).eraseIdx j=f x::em f (r.eraseIdx j)
  rw[Y2d f r j]
theorem Y0U {α:Type}: ∀ {l:List α}{j:Nat}{n:α},l[j]?=some n→(n::l.eraseIdx j).Perm l
 | [],j,n,h=>by simp at h
 | x::r,0,n,h=>by
  simp at h
  subst h
  exact .refl _
 | x::r,j+1,n,h=>by
  have h':r[j]?=some n:=by simpa using h
  show (n::x::r.eraseIdx j).Perm (x::r)
  exact (List.Perm.swap x n _).trans ((Y0U h').cons x)
theorem Y1U {α:Type}{l:List α}{j:Nat}{n:α}(h:l[j]?=some n): (l.eraseIdx j).length+1=l.length:=by
 have:=(Y0U h).length_eq
 simpa using this
theorem Y1d (l:List Int): (sorted l).Perm l:=List.mergeSort_perm _ _
theorem Y4F (l:List Int): (sorted l).Pairwise (fun a b=>decide (a≤b)=true):=List.pairwise_mergeSort (fun a b c h1 h2=>by simp at *;omega) (fun a b=>by simp;omega) l
theorem Ya8 {l l':List Int}(h:l.Perm l'): sorted l=sorted l' :=
 List.Perm.eq_of_pairwise (le:=fun a b=>decide (a≤b)=true) (fun a b _ _ h1 h2=>by simp at h1 h2;omega) (Y4F l) (Y4F l') (((Y1d l).trans h).trans (Y1d l').symm)
theorem YaA {l l':List Int}(h:l.Perm l')(hs:l'.Pairwise (fun a b=>decide (a≤b)=true)): sorted l=l' :=
 List.Perm.eq_of_pairwise (le:=fun a b=>decide (a≤b)=true) (fun a b _ _ h1 h2=>by simp at h1 h2;omega) (Y4F l) hs ((Y1d l).trans h)
def collB (ts:List Turn): List Int:=ts.foldl (fun b t=>t.before.foldl addK b) []
def collA (ts:List Turn): List Int:=ts.foldl (fun b t=>t.after.foldl addK b) []
def movedL (d:Delta): List Int:=sorted ((collB d.turns).filter (fun s=>!decide (s∈collA d.turns))++(collA d.turns).filter (fun s=>!decide (s∈collB d.turns)))
theorem Y3P (g:Turn→List Int): ∀ (ts:List Turn) (b:List Int),(ts.foldl (fun b t=>(g t).foldl addK b) b).length≤b.length+(ts.map fun t=>(g t).length).sum:=by
 have h1:∀ (l b:List Int),(l.foldl addK b).length≤b.length+l.length:=by
  intro l
  induction l with
  | nil=>intro b;simp
  | cons x r ih =>
   intro b
   have:=ih (addK b x)
   have:=Y3Y b x
   simp only[Yf7,Yen]
   omega
 intro ts
 induction ts with
 | nil=>intro b;simp
 | cons t r ih =>
  intro b
  have:=ih ((g t).foldl addK b)
  have:=h1 (g t) b
  simp only[Yf7,Yey,List.sum_cons]
  omega
section
variable {P:Program}{I:InlP}{nb:Nat}{Q:Ex→St→Prop}{ops:Array Oper}{K:St→Prop}{r:List Oper}{ts:Slots}{m:Mem}{t:Nat}{ty:TypeId}{pos:String}{af:Array Edge}{d:Bool}{i:Nat}{acc:List (Nat × List Nat × List Nat)}
theorem GL.buildSliceMT {e et:TypeId}{n sz:Nat}{ps:Array (Nat × Operand)}{z:List LV}{ps':List (Nat × List LV)}{T W:List Nat}{E:List (Nat × Box)}{es:List (List LV)}(ht:sliceE P e=some et)(hz:zeroL P et=some z)(hzl:z.length=sz)(hs:szT P et=some sz)(hn:0<sz)(hb:n*sz≤16777216)(hn0:0<n)
  (hp:FrzP m sz n (evalO ts) ps.toList ps' T) (hm:unmark m (markE m T)=E) (hW:Wn E=W) (he:fillE (List.replicate n (z.map pureC)) ps'=es)
  (k:∀ g,GL P I nb ops K true r (i+1) ((i,W++[nb+64*t],(nb+64*t)::T)::acc) ⟨updS ts t (.own (nb+64*t) g 0 n none),updM (effM m E) (nb+64*t) ⟨g,false,.slc,sz,es⟩⟩) :
  GL P I nb ops K true (⟨some t,.buildSlice e n ps,ty,pos,af,none⟩::r) i acc ⟨ts,m⟩:=by
 subst he hzl hm hW
 simp only[GL,wantedL]
 refine⟨_,.op (o:=⟨some t,.buildSlice e n ps,ty,pos,af,none⟩) (.buildSlice ht hz hs hn hb hn0 hp),?_⟩
 rw[Y1R,Y1x (e:=[_]) (by simp),Y0b]
 simp only[Wn,Yfc,Yey,Yfi]
 exact k _
end
theorem Weak.frzSlot {ts:Slots}{m:Mem}{j:Nat}{l:LV}{T:List Nat}(hF:Frz m (ts j) l T): Weak ⟨ts,m⟩ ⟨updS ts j l,effM m (markE m T)⟩:=fun X a w F ρ h=>by
 obtain⟨F',f1,f2,h'⟩:=h.mark T
 refine⟨F',ρ,{ h' with slots:=fun i=>?_ }⟩
 by_cases hi:j=i
 ·subst hi
  show RelL w F' ρ _ _ (updS ts j l j)
  rw[Y0N]
  exact .frz ((hF.sound (fun n x hx=>h.boxes n x hx) _ (h.slots j)).mono (fun b hb=>f2 b hb (fun n hn=>hF.some n hn)) (fun _ _=>rfl))
 ·show RelL w F' ρ _ _ (updS ts j l i)
  rw[Y3u _ _ hi]
  exact h'.slots i
structure SKey where
 kind:Int
 n:Int
deriving Inhabited,DecidableEq
def kk (k:SKey): List LV:=[.int .i64 k.kind,.int .i64 k.n]
section
variable {α:Type}{f:α→List LV}
end
theorem Exp.sloW {m:Mem}{b g len sz:Nat}{x:Box}{es:List (List LV)}(hm:m b=Option.some x)(hg:x.gen=g)(hf:x.frz=false)(hk:x.kind=.slc)(hs:x.sz=sz)(he:x.es=es)(hl:len=es.length): Exp m (.own b g 0 len none) (.slo sz es) [] [b]:=by
 subst hs he hl
 have:=Exp.slo (m:=m) (b:=b) (g:=g) (off:=0) (len:=x.es.length) hm hg hf hk (by omega)
 rwa [Ye3] at this
def Yg4 := @Exp.sloW
structure Plan where
 routes:List (List Int)
 lock:List Int
 ice:List Int
 rv:List Int
 sv:List Int
 iv:List Int
 pv:Int
deriving Inhabited,DecidableEq
def kp (p:Plan): List LV:=[.sl (em nr p.routes),.sl (em ni p.lock),.sl (em ni p.ice),.sl (em ni p.rv),.sl (em ni p.sv),.sl (em ni p.iv),.int .i64 p.pv]
def kpo (p:Plan): LV:=.agg [.slo 1 (em nr p.routes),.slo 1 (em ni p.lock),.slo 1 (em ni p.ice),.slo 1 (em ni p.rv),.slo 1 (em ni p.sv),.slo 1 (em ni p.iv),.int .i64 p.pv]
structure OkP (p:Plan):Prop where
 routes:p.routes.length≤1000000
 each:∀ r∈p.routes,r.length≤1000000
 lock:p.lock.length≤1000000
 ice:p.ice.length≤1000000
 rv:p.rv.length≤1000000
 sv:p.sv.length≤1000000
 iv:p.iv.length≤1000000
def okPb (p:Plan): Bool:=decide (p.routes.length≤1000000) && (p.routes.all (fun r=>decide (r.length≤1000000)) && (decide (p.lock.length≤1000000) && (decide (p.ice.length≤1000000) && (decide (p.rv.length≤1000000) && (decide (p.sv.length≤1000000) && decide (p.iv.length≤1000000))))))
theorem Ycd {p:Plan}(h:okPb p=true): OkP p:=by
 simp only[okPb,Ye0,decide_eq_true_eq,Yed] at h
 exact⟨h.1,h.2.1,h.2.2.1,h.2.2.2.1,h.2.2.2.2.1,h.2.2.2.2.2.1,h.2.2.2.2.2.2⟩
def whereGo (s:Int): List (List Int)→Int→Int × Int
 | [],_=>(-1,-1)
 | r::t,k=>if index r s≥0 then (k,index r s) else whereGo s t (k+1)
def whereR (R:List (List Int))(s:Int): Int × Int:=whereGo s R 0
theorem Yc6 {s:Int}{R:List (List Int)}{i:Nat}(h:i<R.length)(hx:¬ index (R.getD i default) s≥0): whereGo s (R.drop i) (i:Int)=whereGo s (R.drop (i+1)) ((i+1:Nat):Int):=by
 rw[Y09 h,whereGo,if_neg hx]
 rfl
theorem Y9M {s:Int}{R:List (List Int)}{i:Nat}(h:i<R.length)(hx:index (R.getD i default) s≥0): whereGo s (R.drop i) (i:Int)=((i:Int),index (R.getD i default) s):=by
 rw[Y09 h,whereGo,if_pos hx]
theorem Y9x {s:Int}{R:List (List Int)}{i:Nat}(h:¬ i<R.length): whereGo s (R.drop i) (i:Int)=(-1,-1):=by
 rw[Y0m h,whereGo]
def other (h w:Int): Bool:=decide (h ≠ -1) && decide (h≠w)
theorem Ybe {α:Type}[Inhabited α](p:α→Bool)(l:List α): decide (idxP p l 0≥0)=l.any p:=by
 rcases Yag p l 0 with ⟨h1,h2⟩ | ⟨j,h1,h2,h3,-⟩
 ·rw[h1]
  symm
  simpa using fun x hx=>h2 x hx
 ·rw[h2]
  have e:l.any p=true:=YfS.2 ⟨_,Y02 h1,h3⟩
  rw[e]
  simp
def icedB (p:Plan)(t:Turn): Bool:=decide (0≤t.car) && (decide (t.car<p.ice.length) && decide (p.ice.getD t.car.toNat default ≠ -1))
def setR1 (R:List (List Int))(t:Turn): List (List Int):=if 0≤t.car∧t.car<R.length then R.set t.car.toNat t.after else R
def setR (R:List (List Int))(l:List Turn): List (List Int):=l.foldl setR1 R
theorem Y4K (R:List (List Int))(t:Turn): (setR1 R t).length=R.length:=by
 unfold setR1
 split <;> simp
theorem Y1F (R:List (List Int))(l:List Turn): (setR R l).length=R.length:=by
 induction l generalizing R with
 | nil=>rfl
 | cons t r ih=>rw[setR,Yf7,← setR,ih,Y4K]
theorem Y1h (R:List (List Int))(l:List Turn){i:Nat}(h:i<l.length): setR R (l.take (i+1))=setR1 (setR R (l.take i)) (l.getD i default):=by
 rw[Y0a h,setR,YeG]
 rfl
theorem Y6J {N:Nat}{R:List (List Int)}(hR:∀ r∈R,r.length≤N)(l:List Turn)(hl:∀ t∈l,t.after.length≤N): ∀ r∈setR R l,r.length≤N:=by
 induction l generalizing R with
 | nil=>exact hR
 | cons t l ih =>
  rw[setR,Yf7,← setR]
  refine ih (fun r hr=>?_) fun t ht=>hl t (YdV _ ht)
  unfold setR1 at hr
  split at hr
  ·rcases YeZ hr with h | h
   ·exact hR r h
   ·rw[h];exact hl t (by simp)
  ·exact hR r hr
def badS (R R':List (List Int))(lock:List Int)(who:Int)(s:Nat): Bool:=decide (0<s) && (other (lock.getD s default) who && decide (whereR R s≠whereR R' s))
def movedB (R R':List (List Int))(lock:List Int)(who:Int): Bool:=(List.range lock.length).any (badS R R' lock who)
theorem YbG {R R':List (List Int)}{lock:List Int}{who:Int}(h:∀ j,j<lock.length→badS R R' lock who j=false): movedB R R' lock who=false:=by
 unfold movedB
 simpa using h
theorem Y6y {R R':List (List Int)}{lock:List Int}{who:Int}{j:Nat}(hj:j<lock.length)(h:badS R R' lock who j=true): movedB R R' lock who=true :=
 YfS.2 ⟨j,YeI.2 hj,h⟩
section
variable {P:Program}{I:InlP}{nb:Nat}{ops:Array Oper}{K:St→Prop}{r:List Oper}{ts:Slots}{m:Mem}{t:Nat}{ty:TypeId}{pos:String}{af:Array Edge}{d:Bool}{i:Nat}{acc:List (Nat × List Nat × List Nat)}
theorem GL.buildG (hI:InlM I){e:TypeId}{ps:Array (Nat × Operand)}{vs:List (Nat × LV)}{z cs:List LV}(hz:zeroL P e=some z)(hs:sizesOk P e=true)(hv:EvS ts ps.toList vs)(hp:(vs.all fun p=>(cellsL p.2).all oneC)=true)(h:fillL (placeS P e) z vs=some cs)
  (k:GL P I nb ops K d r (i+1) ((i,[],[])::acc) ⟨updS ts t (.agg cs),m⟩):GL P I nb ops K d (⟨some t,.build e ps,ty,pos,af,none⟩::r) i acc ⟨ts,m⟩:=by
 refine .build hI ?_ (by rw[hv.all];exact hp) k
 rw[hv.map,buildL,hz]
 simp only[hs,if_true,h,Yf1]
end
def between (a b c:Int): Bool:=decide (b≤a) && decide (a≤c)
theorem Y0h {a b c:Int}: between a b c=true↔b≤a∧a≤c:=by simp[between]
def carOk (c:Car): Bool:=between c.c0 0 60 && (between c.c2 0 1000 && between c.c1 0 c.c2)
def stopOk (s:Stop): Bool:=between s.s0 (-20) 20 && (between s.s2 0 1000 && (between s.s1 0 s.s2 && between s.s3 0 1000))
def had1 (n:Nat)(x:Int)(h:List Int): Option (List Int):=if between x 1 n=true∧x∉h then some (addK h x) else none
def pairOk (i:Inst)(p:Two)(h:List Int): Option (List Int) :=
 match had1 i.stops.length p.p0 h with
 | none=>none
 | some h1 =>
  match had1 i.stops.length p.p1 h1 with
  | none=>none
  | some h2=>if (stopAt i p.p0).s0<0∨(stopAt i p.p1).s0 ≠ -(stopAt i p.p0).s0 then none else some h2
def pairsGo (i:Inst): List Two→List Int→Bool
 | [],_=>true
 | p::r,h =>
  match pairOk i p h with
  | none=>false
  | some h'=>pairsGo i r h'
theorem Y8l {i:Inst}{h h':List Int}{k:Nat}(hk:k<i.pairs.length)(hp:pairOk i (i.pairs.getD k default) h=some h'): pairsGo i (i.pairs.drop k) h=pairsGo i (i.pairs.drop (k+1)) h':=by
 rw[Y09 hk,pairsGo,hp]
theorem Y15 {i:Inst}{h:List Int}{k:Nat}(hk:k<i.pairs.length)(hp:pairOk i (i.pairs.getD k default) h=none): pairsGo i (i.pairs.drop k) h=false:=by
 rw[Y09 hk,pairsGo,hp]
theorem Y6j {i:Inst}{h:List Int}{k:Nat}(hk:¬ k<i.pairs.length): pairsGo i (i.pairs.drop k) h=true:=by
 rw[Y0m hk,pairsGo]
theorem Yad {i:Inst}{p:Two}{h:List Int}(e:p.p0=p.p1): pairOk i p h=none:=by
 unfold pairOk had1
 split
 ·rfl
 ·rename_i h1 hh
  split at hh
  ·rename_i hc
   injection hh with hh
   subst hh
   rw[if_neg]
   rintro⟨-,hn⟩
   exact hn (Y0I.2 (.inr e.symm))
  ·cases hh
def hadK (n:Nat)(p:Two)(h:List Int): Nat→Option (List Int)
 | 0=>some h
 | 1=>had1 n p.p0 h
 | _=>(had1 n p.p0 h).bind (had1 n p.p1)
theorem Y10 {i:Inst}{p:Two}{h:List Int}: pairOk i p h=(hadK i.stops.length p h 2).bind fun h2=>if (stopAt i p.p0).s0<0∨(stopAt i p.p1).s0 ≠ -(stopAt i p.p0).s0 then none else some h2:=by
 unfold pairOk hadK
 cases h1:had1 i.stops.length p.p0 h with
 | none=>rfl
 | some a =>
  cases h2:had1 i.stops.length p.p1 a with
  | none=>simp only[Option.bind_some,h2,Option.bind_none]
  | some b=>simp only[Option.bind_some,h2]
def atK (p:Two)(k:Nat): Int:=if k=0 then p.p0 else p.p1
theorem Y1n {n:Nat}{p:Two}{h h':List Int}{k:Nat}(hk:k<2)(e:hadK n p h k=some h'): hadK n p h (k+1)=had1 n (atK p k) h':=by
 match k with
 | 0 =>
  simp only[hadK,Yem] at e
  subst e
  rfl
 | 1 =>
  show (had1 n p.p0 h).bind (had1 n p.p1)=_
  rw[show had1 n p.p0 h=some h' from e]
  rfl
theorem Y2W {n:Nat}{p:Two}{h:List Int}{k:Nat}(hk:k<2)(e:hadK n p h (k+1)=none): hadK n p h 2=none:=by
 match k with
 | 0 =>
  show (had1 n p.p0 h).bind (had1 n p.p1)=none
  rw[show had1 n p.p0 h=none from e]
  rfl
 | 1=>exact e
theorem Y6F {n:Nat}{x:Int}{h h':List Int}(e:had1 n x h=some h'): between x 1 n=true∧h'=addK h x:=by
 unfold had1 at e
 split at e
 ·rename_i hc
  injection e with e
  exact⟨hc.1,e.symm⟩
 ·cases e
theorem YaX {n:Nat}{p:Two}{h h':List Int}(e:hadK n p h 2=some h'): (1≤p.p0∧p.p0≤n)∧(1≤p.p1∧p.p1≤n)∧h'.length≤h.length+2:=by
 have e:(had1 n p.p0 h).bind (had1 n p.p1)=some h':=e
 cases h1:had1 n p.p0 h with
 | none=>rw[h1] at e;cases e
 | some a =>
  rw[h1] at e
  have e:had1 n p.p1 a=some h':=e
  obtain⟨a1,a2⟩:=Y6F h1
  obtain⟨b1,b2⟩:=Y6F e
  have:=Y3Y h p.p0
  have:=Y3Y a p.p1
  rw[← a2] at *
  rw[← b2] at *
  exact⟨Y0h.1 a1,Y0h.1 b1,by omega⟩
def rowOk (m a:Nat)(r:List Int): Bool:=decide (r.length=m) && (decide (r.getD a default=0) && r.all fun n=>between n 0 1000)
def rowsGo (m:Nat): Nat→List (List Int)→Bool
 | _,[]=>true
 | a,r::t=>rowOk m a r && rowsGo m (a+1) t
theorem Y7t {m:Nat}{R:List (List Int)}{a:Nat}(ha:a<R.length)(h:rowOk m a (R.getD a default)=true): rowsGo m a (R.drop a)=rowsGo m (a+1) (R.drop (a+1)):=by
 rw[Y09 ha,rowsGo,h,YfL]
theorem Y3v {m:Nat}{R:List (List Int)}{a:Nat}(ha:a<R.length)(h:rowOk m a (R.getD a default)=false): rowsGo m a (R.drop a)=false:=by
 rw[Y09 ha,rowsGo,h,Yf5]
theorem Y5p {m:Nat}{R:List (List Int)}{a:Nat}(ha:¬ a<R.length): rowsGo m a (R.drop a)=true:=by
 rw[Y0m ha,rowsGo]
def travelOk (i:Inst): Bool:=decide (i.travel.length=i.stops.length+1) && rowsGo (i.stops.length+1) 0 i.travel
def checkB (i:Inst): Bool:=between i.cars.length 1 3 && (decide (i.stops.length≤10) && (i.cars.all carOk && (i.stops.all stopOk && (pairsGo i i.pairs [] && travelOk i))))
theorem Y2v {α:Type}[Inhabited α]{l:List α}{f:α→Bool}{k:Nat}(hk:k<l.length)(h:f (l.getD k default)=false): l.all f=false:=by
 rw[← Yfp,Yed]
 intro hh
 rw[hh _ (Y02 hk)] at h
 cases h
theorem Y3g {α:Type}[Inhabited α]{l:List α}{f:α→Bool}(h:∀ j,j<l.length→f (l.getD j default)=true): l.all f=true:=by
 rw[Yed]
 intro x hx
 obtain⟨j,hj,rfl⟩:=YeW hx
 have:=h j hj
 simpa [List.getD,hj] using this
theorem Y3M {α:Type}[Inhabited α]{l:List α}{f:α→Bool}{k:Nat}(hk:k<l.length)(h:l.all f=true): f (l.getD k default)=true:=Yed.1 h _ (Y02 hk)
def zeroP:Plan:=⟨[],[],[],[],[],[],0⟩
def newP (i:Inst): Plan:=if checkB i=true then ⟨List.replicate i.cars.length [],List.replicate (i.stops.length+1) (-1),List.replicate i.cars.length (-1),List.replicate i.cars.length 0,List.replicate (i.stops.length+1) 0,List.replicate i.cars.length 0,0⟩ else zeroP
def fillN (n:Nat)(x:Int)(k:Nat): List Int:=List.replicate k x++List.replicate (n - k) 0
theorem Y62 {n:Nat}{x:Int}{k:Nat}(h:k≤n): (fillN n x k).length=n:=by
 simp[fillN]
 omega
theorem YaE {n:Nat}{x:Int}{k:Nat}(h:k<n): (fillN n x k).set k x=fillN n x (k+1):=by
 unfold fillN
 rw[List.set_append_right _ _ (by simp)]
 obtain⟨m,hm⟩:∃ m,n - k=m+1:=⟨n - k - 1,by omega⟩
 rw[hm,show n - (k+1)=m by omega,YeR,Nat.sub_self,List.replicate_succ,YdS,List.replicate_succ',Yfk]
 rfl
theorem Yac (n:Nat)(x:Int): fillN n x n=List.replicate n x:=by simp[fillN]
theorem Y8W {i:Inst}(h:checkB i=true): 1≤i.cars.length∧i.cars.length≤3∧i.stops.length≤10:=by
 unfold checkB at h
 simp only[Ye0,Y0h,decide_eq_true_eq] at h
 omega
section
variable {α:Type} [DecidableEq α] {l:List α}
end
def carIn (p:Plan)(n:Int): Bool:=decide (0≤n) && decide (n<p.routes.length)
def stopIn (p:Plan)(n:Int): Bool:=decide (1≤n) && decide (n<p.lock.length)
def turnIn (p:Plan)(t:Turn): Bool:=carIn p t.car && t.after.all (stopIn p)
def thereB (p:Plan)(d:Delta): Bool:=d.turns.all (turnIn p) && (d.locks.all (fun h=>stopIn p h.n) && d.ices.all fun h=>carIn p h.n)
def setL1 (L:List Int)(h:Hold): List Int:=L.set h.n.toNat h.after
def setLs (L:List Int)(hs:List Hold): List Int:=hs.foldl setL1 L
theorem Y2M (L:List Int)(hs:List Hold): (setLs L hs).length=L.length:=by
 induction hs generalizing L with
 | nil=>rfl
 | cons h r ih =>
  rw[setLs,Yf7,← setLs,ih]
  simp[setL1]
theorem Y5i (L:List Int)(l:List Hold){i:Nat}(h:i<l.length): setLs L (l.take (i+1))=setL1 (setLs L (l.take i)) (l.getD i default):=by
 rw[Y0a h,setLs,YeG]
 rfl
def onceGo:List Int→List Int→Bool
 | [],_=>true
 | x::r,h=>if x∈h then false else onceGo r (addK h x)
def onceB (R:List (List Int)): Bool:=onceGo R.flatten []
theorem YaQ {x:Int}{r h:List Int}(hx:x∉h): onceGo (x::r) h=onceGo r (addK h x):=by rw[onceGo,if_neg hx]
theorem Ycw {x:Int}{r h:List Int}(hx:x∈h): onceGo (x::r) h=false:=by rw[onceGo,if_pos hx]
def asB (p:Plan)(d:Delta): Bool:=d.turns.all (fun t=>decide (p.routes.getD t.car.toNat default=t.before)) && (d.locks.all (fun h=>decide (p.lock.getD h.n.toNat default=h.before)) && d.ices.all fun h=>decide (p.ice.getD h.n.toNat default=h.before))
def bump1 (l:List Int)(n:Int): List Int:=l.set n.toNat (wadd (l.getD n.toNat default) 1)
def bump (l:List Int)(ns:List Int): List Int:=ns.foldl bump1 l
theorem Y2b (l:List Int)(ns:List Int): (bump l ns).length=l.length:=by
 induction ns generalizing l with
 | nil=>rfl
 | cons h r ih =>
  rw[bump,Yf7,← bump,ih]
  simp[bump1]
theorem Y4u (l:List Int)(ns:List Int){i:Nat}(h:i<ns.length): bump l (ns.take (i+1))=bump1 (bump l (ns.take i)) (ns.getD i default):=by
 rw[Y0a h,bump,YeG]
 rfl
def lengthsB (i:Inst)(p:Plan): Bool:=decide (p.routes.length=i.cars.length) && (decide (p.ice.length=i.cars.length) && (decide (p.rv.length=i.cars.length) && (decide (p.iv.length=i.cars.length) && (decide (p.lock.length=i.stops.length+1) && decide (p.sv.length=i.stops.length+1)))))
def holderX (w:Int): Bool:=decide (w < -1) || decide (w≥6)
def holdersB (l:List Int): Bool:=!l.any holderX
def onceN (n:Nat): List Int→List Int→Bool
 | [],_=>true
 | x::r,h=>if (x<1∨x>n)∨x∈h then false else onceN n r (addK h x)
def onceA (n:Nat)(R:List (List Int)): Bool:=onceN n R.flatten []
theorem Y8F {n:Nat}{x:Int}{r h:List Int}(hx:¬ ((x<1∨x>n)∨x∈h)): onceN n (x::r) h=onceN n r (addK h x):=by rw[onceN,if_neg hx]
theorem Y5P {n:Nat}{x:Int}{r h:List Int}(hx:(x<1∨x>n)∨x∈h): onceN n (x::r) h=false:=by rw[onceN,if_pos hx]
def drivenK (i:Inst)(R:List (List Int))(k:Nat): Bool:=(eval i (k:Int) (R.getD k default)).isSome
def drivenB (i:Inst)(R:List (List Int)): Bool:=(List.range R.length).all (drivenK i R)
theorem Y9V {i:Inst}{R:List (List Int)}{k:Nat}(hk:k<R.length)(h:drivenK i R k=false): drivenB i R=false:=by
 unfold drivenB
 rw[← Yfp,Yed]
 intro hh
 rw[hh k (YeI.2 hk)] at h
 cases h
theorem Y8I {i:Inst}{R:List (List Int)}(h:∀ k,k<R.length→drivenK i R k=true): drivenB i R=true:=by
 unfold drivenB
 rw[Yed]
 exact fun k hk=>h k (YeI.1 hk)
def auditC (i:Inst)(p:Plan): Int :=
 if checkB i=false then 1 else if (lengthsB i p && (holdersB p.lock && holdersB p.ice))=false then 1 else if onceA i.stops.length p.routes=false then 4 else if drivenB i p.routes=false then 13 else 0
structure WfP (I:Inst) (p:Plan):Prop where
 routes:p.routes.length=I.cars.length
 lock:p.lock.length=I.stops.length+1
 ice:p.ice.length=I.cars.length
 rv:p.rv.length=I.cars.length
 sv:p.sv.length=I.stops.length+1
 iv:p.iv.length=I.cars.length
 stops:∀ r∈p.routes,∀ s∈r,1≤s∧s≤I.stops.length
 once:p.routes.flatten.Nodup
theorem Y73 {n:Nat}: ∀ {l:List Int},l.Nodup→(∀ s∈l,1≤s∧s≤(n:Int))→l.length≤n:=by
 induction n with
 | zero =>
  intro l _ h
  cases l with
  | nil=>exact Ye2 _
  | cons x r=>have:=h x (by simp);omega
 | succ n ih =>
  intro l hn h
  have h1:(l.filter fun s=>decide (s≠((n+1:Nat):Int))).length≤n:=ih (hn.filter _) fun s hs=>by
   obtain⟨hs1,hs2⟩:=YeL.1 hs
   have:=h s hs1
   have h3:s≠((n+1:Nat):Int):=by simpa using hs2
   omega
  have h2:l.length≤(l.filter fun s=>decide (s≠((n+1:Nat):Int))).length+1:=by
   clear h1 h ih
   induction l with
   | nil=>simp
   | cons x r ih =>
    have hr:=ih (YeV.1 hn).2
    by_cases hx:x=((n+1:Nat):Int)
    ·subst hx
     have:(r.filter fun s=>decide (s≠((n+1:Nat):Int)))=r:=List.filter_eq_self.2 fun s hs=>by
      have:s≠((n+1:Nat):Int):=fun e=>(YeV.1 hn).1 (e ▸ hs)
      simpa using this
     rw[Yfd,if_neg (by simp),this]
     simp
    ·rw[Yfd,if_pos (by simpa using hx)]
     simp only[Yen]
     omega
  omega
theorem Ybw {R:List (List Int)}{r:List Int}(h:r∈R): r.length≤R.flatten.length:=by
 induction R with
 | nil=>cases h
 | cons x R ih =>
  rw[YfC,YdN]
  rcases Yep.1 h with h | h
  ·subst h;omega
  ·have:=ih h;omega
theorem WfP.row {I:Inst}{p:Plan}(h:WfP I p){r:List Int}(hr:r∈p.routes): r.length≤I.stops.length:=by
 refine Ye5 (Ybw hr) (Y73 h.once fun s hs=>?_)
 obtain⟨q,hq,hsq⟩:=YfT.1 hs
 exact h.stops q hq s hsq
theorem WfP.okP {I:Inst}{p:Plan}(h:WfP I p)(hc:I.cars.length≤10000)(hs:I.stops.length≤10000): OkP p:=by
 refine⟨by rw[h.routes];omega,fun r hr=>?_,by rw[h.lock];omega,by rw[h.ice];omega,by rw[h.rv];omega,by rw[h.sv];omega,by rw[h.iv];omega⟩
 have:=h.row hr
 omega
theorem Yae (a b:Int): FlatI (.tup [.int .i64 a,.int .i64 b]):=.tup (.aggc (.sca rfl) (.aggc (.sca rfl) .aggn))
def em2 (L:List (Int × List Int)): List (List LV):=L.map fun p=>[.int .i64 p.1,.sl (em ni p.2)]
def rlook (n:Int): List (Int × List Int)→Option (List Int)
 | []=>none
 | p::r=>if n=p.1 then some p.2 else rlook n r
def rput (n:Int)(v:List Int): List (Int × List Int)→List (Int × List Int)
 | []=>[(n,v)]
 | p::r=>if n=p.1 then (n,v)::r else p::rput n v r
theorem Y25 {P:Program}{t:TypeId}(ht:P.underlying t=some (.int .i64))(n:Int): ∀ L,findL P t (.int .i64 n) (em2 L)=some ((rlook n L).map fun l=>.sl (em ni l))
 | []=>rfl
 | p::r=>by
  show findL P t (.int .i64 n) ([.int .i64 p.1,.sl (em ni p.2)]::em2 r)=_
  simp only[findL,eqK,eqT,ht,if_true,rlook]
  by_cases e:n=p.1
  ·subst e
   simp
  ·rw[show (n == p.1)=false by simpa using e,if_neg e]
   exact Y25 ht n r
theorem Y5C {P:Program}{t:TypeId}(ht:P.underlying t=some (.int .i64))(n:Int)(v:List Int): ∀ L,setL P t (.int .i64 n) (.sl (em ni v)) (em2 L)=em2 (rput n v L)
 | []=>rfl
 | p::r=>by
  show setL P t (.int .i64 n) (.sl (em ni v)) ([.int .i64 p.1,.sl (em ni p.2)]::em2 r)=_
  simp only[setL,eqK,eqT,ht,if_true,rput]
  by_cases e:n=p.1
  ·subst e
   simp[em2]
  ·rw[show (n == p.1)=false by simpa using e,if_neg e]
   show _::setL P t (.int .i64 n) (.sl (em ni v)) (em2 r)=_
   rw[Y5C ht n v r]
   rfl
theorem Y0P {n:Int}{v:List Int}: ∀ {L:List (Int × List Int)},rlook n L=some v→(n,v)∈L
 | p::r,h=>by
  rw[rlook] at h
  split at h
  ·rename_i e
   injection h with h
   subst e h
   simp
  ·exact YdV _ (Y0P h)
theorem Y0k {Q:List Int→Prop}{n:Int}{v:List Int}(hv:Q v): ∀ {L:List (Int × List Int)},(∀ p∈L,Q p.2)→∀ p∈rput n v L,Q p.2
 | [],_,p,hp=>by simp[rput] at hp;subst hp;exact hv
 | q::r,h,p,hp=>by
  rw[rput] at hp
  split at hp
  ·rcases Yep.1 hp with rfl | hp
   ·exact hv
   ·exact h p (YdV _ hp)
  ·rcases Yep.1 hp with rfl | hp
   ·exact h _ (by simp)
   ·exact Y0k hv (fun p hp=>h p (YdV _ hp)) p hp
def withoutL (l:List Int)(s:Int): List Int:=l.filter fun x=>decide (x≠s)
def withL (l:List Int)(k:Nat)(ss:List Int): List Int:=l.take k++ss++l.drop k
section
variable {P:Program}{I:InlP}{nb:Nat}{Q:Ex→St→Prop}{ops:Array Oper}{K:St→Prop}{r:List Oper}{ts:Slots}{m:Mem}{t:Nat}{ty:TypeId}{pos:String}{af:Array Edge}{d:Bool}{i:Nat}{acc:List (Nat × List Nat × List Nat)}
theorem GL.lookF2 (hI:InlM I){tt kt et:TypeId}{x ix:Operand}{n:Int}{L:List (Int × List Int)}{o:Option (List Int)}(ht:P.underlying tt=some (.map kt et))(hkt:P.underlying kt=some (.int .i64))(hz:zero1L P et=some .nils)(hx:evalO ts x=.fmap (em2 L))(hn:evalO ts ix=.int .i64 n)(ho:rlook n L=o)
  (k:GL P I nb ops K d r (i+1) ((i,[],[])::acc) ⟨updS ts t (.tup [match o with | none=>.nils | some l=>.sl (em ni l),.bool o.isSome]),m⟩):GL P I nb ops K d (⟨some t,.lookup tt x ix true,ty,pos,af,none⟩::r) i acc ⟨ts,m⟩:=by
 have h:=OpR.lookupF (P:=P) (d:=nb+64*t) (ρ:=evalO ts) (m:=m) (ok:=true) (ix:=ix) hx ht (by rw[hn];simp[keyK,scalK,hkt,pureL]) hz (by rw[hn];exact Y25 hkt n L)
 refine .stepP hI h ?_
 rw[ho]
 cases o <;> exact k
theorem GL.lookM2 (hI:InlM I){tt kt et:TypeId}{x ix:Operand}{b g:Nat}{y:Box}{n:Int}{L:List (Int × List Int)}{o:Option (List Int)}(ht:P.underlying tt=some (.map kt et))(hkt:P.underlying kt=some (.int .i64))(hz:zero1L P et=some .nils)(hx:evalO ts x=.mref b g)(hm:m b=some y)(hg:y.gen=g)(hk:y.kind=.mp)(hq:y.sz=2)(he:y.es=em2 L)(hn:evalO ts ix=.int .i64 n)(ho:rlook n L=o)
  (k:GL P I nb ops K d r (i+1) ((i,[],[b])::acc) ⟨updS ts t (.tup [match o with | none=>.nils | some l=>.sl (em ni l),.bool o.isSome]),m⟩):GL P I nb ops K d (⟨some t,.lookup tt x ix true,ty,pos,af,none⟩::r) i acc ⟨ts,m⟩:=by
 have h:=OpR.lookup (P:=P) (d:=nb+64*t) (ρ:=evalO ts) (m:=m) (ok:=true) (ix:=ix) hx hm hg hk hq ht (by rw[hn];simp[keyK,scalK,hkt,pureL]) hz (by rw[hn,he];exact Y25 hkt n L)
 refine .stepP hI h ?_
 rw[ho]
 cases o <;> exact k
theorem GL.putM2 (hI:InlM I){tt kt et:TypeId}{x ix y:Operand}{b g:Nat}{bx:Box}{n:Int}{v:List Int}{L:List (Int × List Int)}(ht:P.underlying tt=some (.map kt et))(hkt:P.underlying kt=some (.int .i64))(hx:evalO ts x=.mref b g)(hm:m b=some bx)(hg:bx.gen=g)(hf:bx.frz=false)(hk:bx.kind=.mp)(hq:bx.sz=2)(he:bx.es=em2 L)(hn:evalO ts ix=.int .i64 n)(hy:evalO ts y=.sl (em ni v))
  (k:GL P I nb ops K d r (i+1) ((i,[b],[b])::acc) ⟨ts,updM m b ⟨g,false,.mp,bx.sz,em2 (rput n v L)⟩⟩):GL P I nb ops K d (⟨none,.mapUpdate tt x ix y,ty,pos,af,none⟩::r) i acc ⟨ts,m⟩:=by
 have h:=OpR.mapUpdate (P:=P) (d:=nb+64*4000) (ρ:=evalO ts) (m:=m) (ix:=ix) (y:=y) hx hm hg hk hq hf ht (by rw[hn];simp[keyK,scalK,hkt,pureL]) (by rw[hn,he];exact Y25 hkt n L) (.pure (by rw[hy];rfl)) (by simp)
 refine .stepN hI h (by simp[hf,markE]) ?_
 rw[hn,hy,he,Y5C hkt n v L]
 simp only[markE,YdY,effM,Wn,List.map]
 rw[hg,hf,hk]
 exact k
theorem GL.appendNU (hI:InlM I){α:Type}{f:α→List LV}{l:List α}{x y:Operand}{e u et:TypeId}{z:List LV}{sz:Nat}(hz:zeroL P et=some z)(hzl:z.length=sz)(hs:szT P et=some sz)(ht:sliceE P e=some et)(hu:u=e)(h0:0<sz)(hb:P.bytesOf et≤4096)
  (hx:evalO ts x=.nils) (hy:evalO ts y=.sl (em f l)) (hf:∀ a,(f a).length=sz) (h1:∀ a,(f a).all oneC=true) (hle:l.length≤4294967296)
  (k:∀ g,GL P I nb ops K d r (i+1) ((i,[nb+64*t],[nb+64*t])::acc) ⟨updS ts t (.own (nb+64*t) g 0 l.length none),updM m (nb+64*t) ⟨g,false,.slc,sz,em f l⟩⟩) :
  GL P I nb ops K d (⟨some t,.call { callee:=.builtin .append,args:=#[x,y],argTypes:=#[e,u] },ty,pos,af,none⟩::r) i acc ⟨ts,m⟩:=by
 cases l with
 | nil=>exact .step hI (.appendNE hx ht hu hs (by rw[hy];rfl) (by simp[hy]) (by rw[hy];exact .sl)) (by simp) (k _)
 | cons a l=>exact .appendSl hI hz hzl hs ht hu h0 hb hx hy hf h1 (by simp) hle k
def YgD := @GL.appendNU
theorem GL.slice3O (hI:InlM I){st e:TypeId}{x:Operand}{lo hi:Option Operand}{mx:Operand}{b g off len l h c:Nat}{y:Box}{sz:Nat}(ht:sliceE P st=some e)(hs:szT P e=some sz)(hx:evalO ts x=.own b g off len none)(hm:m b=some y)(hg:y.gen=g)(hk:y.kind=.slc)(hz:y.sz=sz)
  (hl:bndL (evalO ts) 0 lo=some l) (hhs:hi.isSome=true) (hh:bndL (evalO ts) len hi=some h) (hc:bndL (evalO ts) 0 (some mx)=some c) (h1:l≤h) (h2:h≤c) (h3:off+c≤y.es.length)
  (k:GL P I nb ops K d r (i+1) ((i,[],[b])::acc) ⟨updS ts t (.own b g (off+l) (h - l) (some (c - l))),m⟩):GL P I nb ops K d (⟨some t,.slice st x lo hi (some mx),ty,pos,af,none⟩::r) i acc ⟨ts,m⟩ :=
 .stepP hI (.slice3 hx hm hg hk ht (hz ▸ hs) hl hhs hh hc h1 h2 h3 (by simp)) k
theorem GL.sliceMid (hI:InlM I){α:Type}{f:α→List LV}{l:List α}{st e:TypeId}{x lo hi:Operand}{kk kk':IntKind}{a b:Int}{sz:Nat}{l':List α}(ht:sliceE P st=some e)(hs:szT P e=some sz)(hx:evalO ts x=.sl (em f l))(hf:∀ a,(f a).length=sz)(hl:evalO ts lo=.int kk a)(hh:evalO ts hi=.int kk' b)
  (h0:0≤a) (h1:a≤b) (h2:b≤(l.length:Int)) (he:(l.drop a.toNat).take (b.toNat - a.toNat)=l') (k:GL P I nb ops K d r (i+1) ((i,[],[])::acc) ⟨updS ts t (.sl (em f l')),m⟩):GL P I nb ops K d (⟨some t,.slice st x (some lo) (some hi) none,ty,pos,af,none⟩::r) i acc ⟨ts,m⟩:=by
 subst he
 have h:=OpR.sliceF (P:=P) (d:=nb+64*t) (ρ:=evalO ts) (m:=m) (lo:=some lo) (hi:=some hi) (l:=a.toNat) (h:=b.toNat) hx ht hs (Ycr hf l) (by simp only[bndL];rw[hl];simp only[h0,if_true]) (by simp only[bndL];rw[hh];simp only[show 0≤b by omega,if_true]) (by omega) (by rw[Y00];omega)
 refine .stepP hI h ?_
 have e1:List.take (b.toNat - a.toNat) (List.drop a.toNat (em f l))=em f ((l.drop a.toNat).take (b.toNat - a.toNat)):=by simp[em,List.map_take,List.map_drop]
 rw[e1]
 exact k
theorem GL.sliceStr (hI:InlM I){st:TypeId}{x:Operand}{lo hi:Option Operand}{s:ByteArray}{l h:Nat}(ht:P.underlying st=some .string)(hx:evalO ts x=.str s)(hl:bndL (evalO ts) 0 lo=some l)(hh:bndL (evalO ts) s.size hi=some h)(h1:l≤h)(h2:h≤s.size)
  (k:GL P I nb ops K d r (i+1) ((i,[],[])::acc) ⟨updS ts t (.str (s.extract l h)),m⟩):GL P I nb ops K d (⟨some t,.slice st x lo hi none,ty,pos,af,none⟩::r) i acc ⟨ts,m⟩:=.stepP hI (.sliceS hx ht hl hh h1 h2) k
theorem GL.indexStr (hI:InlM I){st:TypeId}{x ix:Operand}{kk:IntKind}{n:Int}{s:ByteArray}(ht:P.underlying st=some .string)(hx:evalO ts x=.str s)(hi:evalO ts ix=.int kk n)(h0:0≤n)(h1:n.toNat<s.size)
  (k:GL P I nb ops K d r (i+1) ((i,[],[])::acc) ⟨updS ts t (.int .u8 ((s[n.toNat]'h1).toNat:Int)),m⟩):GL P I nb ops K d (⟨some t,.index st x ix,ty,pos,af,none⟩::r) i acc ⟨ts,m⟩:=.stepP hI (.indexS hx hi ht h0 h1) k
theorem GL.addStr (hI:InlM I){st yt:TypeId}{x y:Operand}{a b:ByteArray}(hx:evalO ts x=.str a)(hy:evalO ts y=.str b)(hs:a.size+b.size≤1099511627776)
  (k:GL P I nb ops K d r (i+1) ((i,[],[])::acc) ⟨updS ts t (.str (a++b)),m⟩):GL P I nb ops K d (⟨some t,.binOp .add st x y yt,ty,pos,af,none⟩::r) i acc ⟨ts,m⟩ :=
 .bin hI (by rw[hx,hy];show binS .add a b=_;simp only[binS,if_pos hs]) k
theorem GL.lenStr (hI:InlM I){xt:TypeId}{x:Operand}{s:ByteArray}(ht:P.underlying xt=some .string)(hx:evalO ts x=.str s)(k:GL P I nb ops K d r (i+1) ((i,[],[])::acc) ⟨updS ts t (.int .i64 s.size),m⟩):
  GL P I nb ops K d (⟨some t,.call { callee:=.builtin .len,args:=#[x],argTypes:=#[xt] },ty,pos,af,none⟩::r) i acc ⟨ts,m⟩ :=
 .stepP hI (.len (n:=s.size) (R:=[]) (by rw[hx];rfl) (by rw[hx];exact .str) (.inr ⟨ht,s,hx⟩)) k
end
section
variable {α:Type} [Inhabited α]
def SortK (k:α→Int)(p:List α): Prop:=p.Pairwise fun a b=>k a≤k b
def putAt (p:List α)(j:Nat)(x:α): List α:=p.take j++x::p.drop j
theorem Y2U {p:List α}{j:Nat}{x:α}(h:j≤p.length): (putAt p j x).length=p.length+1:=by
 simp[putAt]
 omega
theorem Y8N (p:List α)(j:Nat)(x:α): (putAt p j x).Perm (x::p):=by
 have h:(putAt p j x).Perm (x::(p.take j++p.drop j)):=YfU
 rwa [Yfg] at h
theorem Y2s {l:List α}{i:Nat}(h:i<l.length): l.getD i default=l[i]:=by
 rw[Ye9,YdO h]
 rfl
theorem SortK.at {k:α→Int}{p:List α}(h:SortK k p){i j:Nat}(hij:i≤j)(hj:j<p.length): k (p.getD i default)≤k (p.getD j default):=by
 rcases Nat.lt_or_eq_of_le hij with hij | rfl
 ·rw[Y2s hj,Y2s (by omega)]
  exact YfK.1 h i j (by omega) hj hij
 ·exact Int.le_refl _
theorem SortK.put {k:α→Int}{p:List α}{x:α}{j:Nat}(hs:SortK k p)(hj:j≤p.length)(h1:∀ i,i<j→k (p.getD i default)≤k x)(h2:j<p.length→k x≤k (p.getD j default)): SortK k (putAt p j x):=by
 refine YfA.2 ⟨hs.sublist (List.take_sublist _ _),Yfo.2 ⟨fun b hb=>?_,hs.sublist (List.drop_sublist _ _)⟩,fun a ha b hb=>?_⟩
 ·obtain⟨i,hi,rfl⟩:=YeW hb
  rw[Yez] at hi
  rw[List.getElem_drop]
  have:=hs.at (i:=j) (j:=j+i) (by omega) (by omega)
  rw[Y2s (i:=j+i) (by omega)] at this
  exact Int.le_trans (h2 (by omega)) this
 ·obtain⟨i,hi,rfl⟩:=YeW ha
  rw[Yek] at hi
  rw[List.getElem_take]
  have ha:=h1 i (by omega)
  rw[Y2s (by omega)] at ha
  rcases Yep.1 hb with rfl | hb
  ·exact ha
  ·obtain⟨q,hq,rfl⟩:=YeW hb
   rw[Yez] at hq
   rw[List.getElem_drop]
   have:=hs.at (i:=j) (j:=j+q) (by omega) (by omega)
   rw[Y2s (i:=j+q) (by omega)] at this
   exact Int.le_trans ha (Int.le_trans (h2 (by omega)) this)
theorem YcY {k:α→Int}{x:α}{p:List α}{j:Nat}(hs:SortK k p)(h1:∀ i,i<j→k (p.getD i default)≤k x)(h2:j<p.length→k x<k (p.getD j default)): ∀ n,j≤n→n≤p.length→posI k x p n=j:=by
 intro n
 induction n with
 | zero=>intro h _;rw[posI];omega
 | succ n ih =>
  intro hj hn
  rw[posI]
  by_cases e:j=n+1
  ·rw[if_neg (by have:=h1 n (by omega);omega)]
   exact e.symm
  ·rw[if_pos (by have:=hs.at (i:=j) (j:=n) (by omega) (by omega);have:=h2 (by omega);omega)]
   exact ih (by omega) (by omega)
theorem Yck {k:α→Int}{x:α}{p:List α}{j:Nat}(hs:SortK k p)(hj:j≤p.length)(h1:∀ i,i<j→k (p.getD i default)≤k x)(h2:j<p.length→k x<k (p.getD j default)): insI k p x=putAt p j x:=by
 rw[insI,YcY hs h1 h2 _ hj (Ye2 _)]
 rfl
theorem Y3n (k:α→Int): ∀ (r p:List α) (x:α),isort k p (r++[x])=insI k (isort k p r) x
 | [],p,x=>rfl
 | y::r,p,x=>Y3n k r (insI k p y) x
theorem Y18 {c:α→Bool}{l:List α}{i:Nat}(h:i<l.length)(hc:c (l.getD i default)=true): (l.take (i+1)).filter c=(l.take i).filter c++[l.getD i default]:=by
 rw[Y0a h,Yfn,Yfd,if_pos hc,List.filter_nil]
theorem Y1u {c:α→Bool}{l:List α}{i:Nat}(h:i<l.length)(hc:c (l.getD i default)=false): (l.take (i+1)).filter c=(l.take i).filter c:=by
 rw[Y0a h,Yfn,Yfd,if_neg (by rw[hc];decide),List.filter_nil,YdX]
end
section
variable {P:Program}{I:InlP}{nb:Nat}{Q:Ex→St→Prop}{ops:Array Oper}{K:St→Prop}{r:List Oper}{ts:Slots}{m:Mem}{t:Nat}{ty:TypeId}{pos:String}{af:Array Edge}{d:Bool}{i:Nat}{acc:List (Nat × List Nat × List Nat)}
theorem GL.capO (hI:InlM I){st e:TypeId}{x hi mx:Operand}{kk kk':IntKind}{b g len j:Nat}{y:Box}{sz:Nat}(ht:sliceE P st=some e)(hs:szT P e=some sz)(hx:evalO ts x=.own b g 0 len none)(hm:m b=some y)(hg:y.gen=g)(hk:y.kind=.slc)(hz:y.sz=sz)
  (hh:evalO ts hi=.int kk (j:Int)) (hc:evalO ts mx=.int kk' (j:Int)) (h3:j≤y.es.length)
  (k:GL P I nb ops K d r (i+1) ((i,[],[b])::acc) ⟨updS ts t (.own b g 0 j (some j)),m⟩):GL P I nb ops K d (⟨some t,.slice st x none (some hi) (some mx),ty,pos,af,none⟩::r) i acc ⟨ts,m⟩:=by
 refine .slice3O hI (l:=0) (h:=j) (c:=j) ht hs hx hm hg hk hz rfl rfl (by simp only[bndL];rw[hh];simp) (by simp only[bndL];rw[hc];simp) (Ye1 _) (Ye2 _) (by omega) ?_
 exact k
theorem GL.appE0 (hI:InlM I){x y:Operand}{e u et:TypeId}{b g n b' g' off':Nat}{cap cap':Option Nat}{bx by':Box}(ht:sliceE P e=some et)(hu:u=e)(hs:(szT P et).isSome=true)(hx:evalO ts x=.own b g 0 n cap)(hm:m b=some bx)(hg:bx.gen=g)
  (hy:evalO ts y=.own b' g' off' 0 cap') (hm':m b'=some by') (hg':by'.gen=g')
  (k:GL P I nb ops K d r (i+1) ((i,[],[b,b'])::acc) ⟨updS ts t (.own b g 0 n cap),m⟩):GL P I nb ops K d (⟨some t,.call { callee:=.builtin .append,args:=#[x,y],argTypes:=#[e,u] },ty,pos,af,none⟩::r) i acc ⟨ts,m⟩:=by
 have:=GL.stepP (P:=P) (I:=I) (nb:=nb) (ops:=ops) (K:=K) (d:=d) (r:=r) (ts:=ts) (m:=m) (t:=t) (ty:=ty) (pos:=pos) (af:=af) (i:=i) (acc:=acc) hI
  (.append0 (x:=x) (y:=y) (t:=e) (u:=u) (e:=et) (n:=n) (R:=[b]) (S:=[b']) (by rw[hx];rfl) (by simp[hx]) ht hu hs (by rw[hy];rfl) (by simp[hy]) (by rw[hx];exact .own hm hg) (by rw[hy];exact .own hm' hg'))
 rw[hx] at this
 exact this k
theorem GL.appW (hI:InlM I){α:Type}{f:α→List LV}{l l2:List α}{x y:Operand}{e u et:TypeId}{b g n b' g' j n2:Nat}{cap:Option Nat}{bx by':Box}{z:List LV}{sz:Nat}(hz:zeroL P et=some z)(hzl:z.length=sz)(hs:szT P et=some sz)(ht:sliceE P e=some et)(hu:u=e)(h0:0<sz)(hb:P.bytesOf et≤4096)
  (hx:evalO ts x=.own b g 0 n none) (hm:m b=some bx) (hg:bx.gen=g) (hf:bx.frz=false) (hk:bx.kind=.slc) (hsz:bx.sz=sz) (he:bx.es=em f l) (hn:n=l.length)
  (hy:evalO ts y=.own b' g' j n2 cap) (hm':m b'=some by') (hg':by'.gen=g') (hk':by'.kind=.slc) (hsz':by'.sz=sz) (he':by'.es=em f l2) (hbb:Nat.beq b b'=false) (h1:∀ a,(f a).all oneC=true) (hn2:j+n2=l2.length) (hpos:0<n2) (hle:n+n2≤4294967296)
  (k:GL P I nb ops K d r (i+1) ((i,[b],[b,b'])::acc) ⟨updS ts t (.own b (g+1) 0 (n+n2) none),updM m b ⟨g+1,false,.slc,sz,em f (l++l2.drop j)⟩⟩) :
  GL P I nb ops K d (⟨some t,.call { callee:=.builtin .append,args:=#[x,y],argTypes:=#[e,u] },ty,pos,af,none⟩::r) i acc ⟨ts,m⟩:=by
 have hbn:b≠b':=fun e=>by rw[e,Yfx] at hbb;cases hbb
 have e2:((em f l2).drop j).take n2=em f (l2.drop j):=by
  rw[YdP (by rw[Yez,Y00];omega)]
  simp[em,List.map_drop]
 have hsrc:SrcR m (evalO ts y) sz (em f (l2.drop j)) [b']:=by
  rw[hy]
  have:=SrcR.own (m:=m) (b:=b') (g:=g') (off:=j) (len:=n2) (cap:=cap) hm' hg' hk' (by rw[he',Y00];omega)
  rw[he',hsz',e2] at this
  exact this
 exact .append hI ht hu hz hzl hs h0 hb hx hm hg hf hk hsz (by rw[he,Y00];omega) hsrc (by simpa using hbn) (by rw[Y00,Yez];omega) (YaL h1 _) (by rw[Y00,Yez];omega) hle (by rw[he];simp[em]) k
theorem GL.appC (hI:InlM I){α:Type}{f:α→List LV}{l l2 l3:List α}{x y:Operand}{e u et:TypeId}{b g j b' g' n2:Nat}{bx by':Box}{z:List LV}{sz:Nat}(hz:zeroL P et=some z)(hzl:z.length=sz)(hs:szT P et=some sz)(ht:sliceE P e=some et)(hu:u=e)(h0:0<sz)(hb:P.bytesOf et≤4096)
  (hx:evalO ts x=.own b g 0 j (some j)) (hm:m b=some bx) (hg:bx.gen=g) (hk:bx.kind=.slc) (hsz:bx.sz=sz) (he:bx.es=em f l) (hj:j≤l.length)
  (hy:evalO ts y=.own b' g' 0 n2 none) (hm':m b'=some by') (hg':by'.gen=g') (hk':by'.kind=.slc) (hsz':by'.sz=sz) (he':by'.es=em f l2) (hn2:n2=l2.length) (h3:l.take j++l2=l3) (hpos:0<n2) (hle:j+n2≤4294967296)
  (k:∀ g2,GL P I nb ops K d r (i+1) ((i,[nb+64*t],[nb+64*t,b,b'])::acc) ⟨updS ts t (.own (nb+64*t) g2 0 l3.length none),updM m (nb+64*t) ⟨g2,false,.slc,sz,em f l3⟩⟩) :
  GL P I nb ops K d (⟨some t,.call { callee:=.builtin .append,args:=#[x,y],argTypes:=#[e,u] },ty,pos,af,none⟩::r) i acc ⟨ts,m⟩:=by
 subst hzl h3
 have e2:((em f l2).drop 0).take n2=em f l2:=by
  rw[Ye3,YdP (by rw[Y00];omega)]
 have hsrc:SrcR m (evalO ts y) z.length (em f l2) [b']:=by
  rw[hy]
  have:=SrcR.own (m:=m) (b:=b') (g:=g') (off:=0) (len:=n2) (cap:=none) hm' hg' hk' (by rw[he',Y00];omega)
  rw[he',hsz',e2] at this
  exact this
 have h:=OpR.appendC (P:=P) (d:=nb+64*t) (ρ:=evalO ts) (m:=m) (x:=x) (y:=y) (t:=e) (u:=u) (e:=et) (off:=0) (len:=j) (c:=j) hx hm hg hk (by rw[he,Y00];omega) ht hu hz hs hsz h0 hsrc (by rw[Y00];omega) (by rw[Y00];omega) (by rw[Y00];omega) hb
 refine .step hI h (by simp) ?_
 have e1:(bx.es.drop 0).take j++em f l2=em f (l.take j++l2):=by rw[he];simp[em,List.map_take]
 have e3:j+(em f l2).length=(l.take j++l2).length:=by rw[Y00,YdN,Yek];omega
 rw[e3,e1]
 exact k _
end
def kbb (p:Int × Bool): List LV:=[.int .i64 p.1,.bool p.2]
def markK (L:List (Int × Bool))(n:Int)(v:Bool): List (Int × Bool) :=
 match L with
 | []=>[(n,v)]
 | p::r=>if n=p.1 then (n,v)::r else p::markK r n v
theorem Y6z {P:Program}{t:TypeId}(ht:P.underlying t=some (.int .i64))(n:Int): ∀ (L:List (Int × Bool)),∃ o,findL P t (.int .i64 n) (em kbb L)=some o
 | []=>⟨_,rfl⟩
 | p::r=>by
  show ∃ o,findL P t (.int .i64 n) ([.int .i64 p.1,.bool p.2]::em kbb r)=some o
  simp only[findL,eqK,eqT,ht,if_true]
  obtain⟨o,ho⟩:=Y6z ht n r
  by_cases e:n=p.1
  ·subst e
   simp
  ·rw[show (n == p.1)=false by simpa using e]
   exact⟨o,ho⟩
theorem Y8f {P:Program}{t:TypeId}(ht:P.underlying t=some (.int .i64))(n:Int)(v:Bool): ∀ L,setL P t (.int .i64 n) (.bool v) (em kbb L)=em kbb (markK L n v)
 | []=>rfl
 | p::r=>by
  show setL P t (.int .i64 n) (.bool v) ([.int .i64 p.1,.bool p.2]::em kbb r)=_
  simp only[setL,eqK,eqT,ht,if_true,markK]
  by_cases e:n=p.1
  ·subst e
   simp[em,kbb]
  ·rw[show (n == p.1)=false by simpa using e,if_neg e]
   show _::setL P t (.int .i64 n) (.bool v) (em kbb r)=_
   rw[Y8f ht n v r]
   rfl
theorem Yak (l:List Int): em kb l=em kbb (l.map fun n=>(n,true)):=by
 simp only[em,List.map_map]
 rfl
section
variable {P:Program}{I:InlP}{nb:Nat}{Q:Ex→St→Prop}{ops:Array Oper}{K:St→Prop}{r:List Oper}{ts:Slots}{m:Mem}{t:Nat}{ty:TypeId}{pos:String}{af:Array Edge}{d:Bool}{i:Nat}{acc:List (Nat × List Nat × List Nat)}
theorem GL.markPut (hI:InlM I){tt kt et:TypeId}{x ix y:Operand}{b g:Nat}{bx:Box}{n:Int}{v:Bool}{L:List (Int × Bool)}(ht:P.underlying tt=some (.map kt et))(hkt:P.underlying kt=some (.int .i64))(hx:evalO ts x=.mref b g)(hm:m b=some bx)(hg:bx.gen=g)(hf:bx.frz=false)(hk:bx.kind=.mp)(hq:bx.sz=2)(he:bx.es=em kbb L)(hn:evalO ts ix=.int .i64 n)(hy:evalO ts y=.bool v)
  (k:GL P I nb ops K d r (i+1) ((i,[b],[b])::acc) ⟨ts,updM m b ⟨g,false,.mp,bx.sz,em kbb (markK L n v)⟩⟩):GL P I nb ops K d (⟨none,.mapUpdate tt x ix y,ty,pos,af,none⟩::r) i acc ⟨ts,m⟩:=by
 obtain⟨o,ho⟩:=Y6z (P:=P) hkt n L
 have h:=OpR.mapUpdate (d:=nb+64*4000) (ix:=ix) (y:=y) hx hm hg hk hq hf ht (by rw[hn];simp[keyK,scalK,hkt,pureL]) (by rw[hn,he];exact ho) (.pure (by rw[hy];rfl)) (by simp)
 refine .stepN hI h (by simp[hf,markE]) ?_
 rw[hn,hy,he,Y8f hkt n v L]
 simp only[markE,YdY]
 simp only[effM,Wn,List.map]
 rw[hg,hf,hk]
 exact k
theorem GL.lenM (hI:InlM I){x:Operand}{xt kt et:TypeId}{b g:Nat}{y:Box}(hx:evalO ts x=.mref b g)(hm:m b=some y)(hg:y.gen=g)(hk:y.kind=.mp)(hn:y.sz=2)(ht:P.underlying xt=some (.map kt et))
  (k:GL P I nb ops K d r (i+1) ((i,[],[b])::acc) ⟨updS ts t (.int .i64 y.es.length),m⟩):GL P I nb ops K d (⟨some t,.call { callee:=.builtin .len,args:=#[x],argTypes:=#[xt] },ty,pos,af,none⟩::r) i acc ⟨ts,m⟩ :=
 .stepP hI (.lenM hx hm hg hk hn ht) k
end
theorem YdB {R:List (Int × Bool)}{j:Nat}{k v:LV}(h:(em kbb R)[j]?=some [k,v]): ∃ p:Int × Bool,R[j]?=some p∧k=.int .i64 p.1∧v=.bool p.2:=by
 simp only[em,YeY,YfO,kbb] at h
 obtain⟨n,h1,h2⟩:=h
 injection h2 with h2 h3
 injection h3 with h3
 exact⟨n,h1,h2.symm,h3.symm⟩
def kv (p:SKey × Int): List LV:=[.agg (kk p.1),.int .i64 p.2]
def putV (k:SKey)(v:Int): List (SKey × Int)→List (SKey × Int)
 | []=>[(k,v)]
 | p::r=>if k=p.1 then (k,v)::r else p::putV k v r
def lookV (k:SKey): List (SKey × Int)→Option Int
 | []=>none
 | p::r=>if k=p.1 then some p.2 else lookV k r
theorem Ybn (k:SKey)(v:Int): ∀ L:List (SKey × Int),(putV k v L).length≤L.length+1
 | []=>by simp[putV]
 | p::r=>by
  rw[putV]
  have:=Ybn k v r
  split <;> simp <;> omega
def EqK (P:Program)(t:TypeId): Prop:=(∀ a b:SKey,eqAgg P t (kk a) (kk b)=some (decide (a=b)))∧∀ a:SKey,keyK P t (.agg (kk a))=true
section
variable {P:Program}{t:TypeId}
theorem Y5q (ht:EqK P t)(k:SKey): ∀ L,findL P t (.agg (kk k)) (em kv L)=some ((lookV k L).map fun n=>LV.int .i64 n)
 | []=>rfl
 | p::r=>by
  show findL P t (.agg (kk k)) ([.agg (kk p.1),.int .i64 p.2]::em kv r)=_
  simp only[findL,eqK,ht.1,lookV]
  by_cases e:k=p.1
  ·rw[decide_eq_true e,if_pos e]
   rfl
  ·rw[decide_eq_false e,if_neg e]
   exact Y5q ht k r
theorem Y9W (ht:EqK P t)(k:SKey)(v:Int): ∀ L,setL P t (.agg (kk k)) (.int .i64 v) (em kv L)=em kv (putV k v L)
 | []=>rfl
 | p::r=>by
  show setL P t (.agg (kk k)) (.int .i64 v) ([.agg (kk p.1),.int .i64 p.2]::em kv r)=_
  simp only[setL,eqK,ht.1,putV]
  by_cases e:k=p.1
  ·rw[decide_eq_true e,if_pos e]
   rfl
  ·rw[decide_eq_false e,if_neg e]
   show _::setL P t (.agg (kk k)) (.int .i64 v) (em kv r)=_
   rw[Y9W ht k v r]
   rfl
end
theorem Ydl {R:List (SKey × Int)}{j:Nat}{k v:LV}(h:(em kv R)[j]?=some [k,v]): ∃ p:SKey × Int,R[j]?=some p∧k=.agg (kk p.1)∧v=.int .i64 p.2:=by
 simp only[em,YeY,YfO,kv] at h
 obtain⟨n,h1,h2⟩:=h
 injection h2 with h2 h3
 injection h3 with h3
 exact⟨n,h1,h2.symm,h3.symm⟩
section
variable {P:Program}{I:InlP}{nb:Nat}{Q:Ex→St→Prop}{ops:Array Oper}{K:St→Prop}{r:List Oper}{ts:Slots}{m:Mem}{t:Nat}{ty:TypeId}{pos:String}{af:Array Edge}{d:Bool}{i:Nat}{acc:List (Nat × List Nat × List Nat)}
theorem GL.putKV (hI:InlM I){tt kt et:TypeId}{x ix y:Operand}{b g:Nat}{bx:Box}{k:SKey}{v:Int}{L:List (SKey × Int)}(ht:P.underlying tt=some (.map kt et))(hkt:EqK P kt)(hx:evalO ts x=.mref b g)(hm:m b=some bx)(hg:bx.gen=g)(hf:bx.frz=false)(hk:bx.kind=.mp)(hq:bx.sz=2)(he:bx.es=em kv L)(hn:evalO ts ix=.agg (kk k))(hy:evalO ts y=.int .i64 v)
  (kk':GL P I nb ops K d r (i+1) ((i,[b],[b])::acc) ⟨ts,updM m b ⟨g,false,.mp,bx.sz,em kv (putV k v L)⟩⟩):GL P I nb ops K d (⟨none,.mapUpdate tt x ix y,ty,pos,af,none⟩::r) i acc ⟨ts,m⟩:=by
 have h:=OpR.mapUpdate (d:=nb+64*4000) (ix:=ix) (y:=y) hx hm hg hk hq hf ht (by rw[hn];exact hkt.2 k) (by rw[hn,he];exact Y5q hkt k L) (.pure (by rw[hy];rfl)) (by simp)
 refine .stepN hI h (by simp[hf,markE]) ?_
 rw[hn,hy,he,Y9W hkt k v L]
 simp only[markE,YdY]
 simp only[effM,Wn,List.map]
 rw[hg,hf,hk]
 exact kk'
theorem GL.lookKV (hI:InlM I){tt kt et:TypeId}{x ix:Operand}{k:SKey}{L:List (SKey × Int)}(ht:P.underlying tt=some (.map kt et))(hkt:EqK P kt)(hz:zero1L P et=some (.int .i64 0))(hx:evalO ts x=.fmap (em kv L))(hn:evalO ts ix=.agg (kk k))
  (kk':GL P I nb ops K d r (i+1) ((i,[],[])::acc) ⟨updS ts t (.tup [.int .i64 ((lookV k L).getD 0),.bool (lookV k L).isSome]),m⟩):GL P I nb ops K d (⟨some t,.lookup tt x ix true,ty,pos,af,none⟩::r) i acc ⟨ts,m⟩:=by
 have h:=OpR.lookupF (d:=nb+64*t) (m:=m) (ok:=true) (ix:=ix) hx ht (by rw[hn];exact hkt.2 k) hz (by rw[hn];exact Y5q hkt k L)
 refine .stepP hI h ?_
 cases e:lookV k L <;> (rw[e] at kk';exact kk')
end
def xorI (a b:Int): Int:=IntKind.u32.wrap (BitVec.ofInt 32 a ^^^ BitVec.ofInt 32 b).toNat
def drawI (x:Int): Int:=if x=0 then 2463534242 else
 let y:=xorI x (IntKind.u32.wrap (x*2 ^ 13))
 let z:=xorI y (y.fdiv (2 ^ 17))
 xorI z (IntKind.u32.wrap (z*2 ^ 5))
def pickI (x n:Int): Int:=if n<1 then 0 else IntKind.i64.wrap ((IntKind.u64.wrap x).tmod (IntKind.u64.wrap n))
section
variable {P:Program}{I:InlP}{nb:Nat}{Q:Ex→St→Prop}{ops:Array Oper}{K:St→Prop}{r:List Oper}{ts:Slots}{m:Mem}{t:Nat}{ty:TypeId}{pos:String}{af:Array Edge}{d:Bool}{i:Nat}{acc:List (Nat × List Nat × List Nat)}
theorem GL.storeMT {e:TypeId}{a y:Operand}{b g j c n:Nat}{x:Box}{cs vs cs':List LV}{es':List (List LV)}{T W:List Nat}{E:List (Nat × Box)}(hs:szT P e=some n)(ha:evalO ts a=.ref b g j c)(hm:m b=some x)(hg:x.gen=g)(hf:x.frz=false)(hk:x.kind=.slc)
  (he:x.es[j]?=some cs) (hy:Frz m (.agg (cellsL (evalO ts y))) (.agg vs) T) (hb:b∉T) (hl:vs.length=n) (h1:vs.all oneC=true) (hc:c+n≤cs.length) (hn:cs.take c++vs++cs.drop (c+n)=cs') (hn':x.es.set j cs'=es') (hE:unmark m (markE m T)=E) (hW:Wn E=W)
  (k:GL P I nb ops K true r (i+1) ((i,W++[b],b::T)::acc) ⟨ts,updM (effM m E) b ⟨g,false,.slc,x.sz,es'⟩⟩):GL P I nb ops K true (⟨none,.store e a y,ty,pos,af,none⟩::r) i acc ⟨ts,m⟩:=by
 subst hE hW
 simp only[GL,wantedL]
 refine⟨_,.op (o:=⟨none,.store e a y,ty,pos,af,none⟩) (.storeP ha hm hg hf hk he hs hy hb hl h1 hc),?_⟩
 rw[Y1R,Y1x (e:=[_]) (by simp[hf]),Y0b,hn,hn']
 simp only[Wn,Yfc,Yey,Yfi,effM]
 rw[hg,hf,hk]
 exact k
theorem GL.storeM {e:TypeId}{a y:Operand}{b g j c n:Nat}{x:Box}{cs vs cs':List LV}{es':List (List LV)}{T:List Nat}{m':Mem}(hs:szT P e=some n)(ha:evalO ts a=.ref b g j c)(hm:m b=some x)(hg:x.gen=g)(hf:x.frz=false)(hk:x.kind=.slc)
  (he:x.es[j]?=some cs) (hy:Frz m (.agg (cellsL (evalO ts y))) (.agg vs) T) (hb:b∉T) (hl:vs.length=n) (h1:vs.all oneC=true) (hc:c+n≤cs.length) (hn:cs.take c++vs++cs.drop (c+n)=cs') (hn':x.es.set j cs'=es') (hE:effM m (markE m T)=m')
  (k:GL P I nb ops K false r (i+1) acc ⟨ts,updM m' b ⟨g,false,.slc,x.sz,es'⟩⟩):GL P I nb ops K false (⟨none,.store e a y,ty,pos,af,none⟩::r) i acc ⟨ts,m⟩:=by
 subst hE
 simp only[GL,wantedL]
 refine .op (o:=⟨none,.store e a y,ty,pos,af,none⟩) (.storeP ha hm hg hf hk he hs hy hb hl h1 hc) ?_
 rw[Y0b,hn,hn']
 simp only[effM]
 rw[hg,hf,hk]
 exact k
end
theorem Y11 {α:Type}[Inhabited α](c:α→Bool){l:List α}{i:Nat}(h:i<l.length): (l.take (i+1)).all c=((l.take i).all c && c (l.getD i default)):=by
 rw[Y0a h,List.all_append]
 simp only[Yfa,List.all_nil,YfF]
theorem Y46 {α:Type}[Inhabited α]{c:α→Bool}{l:List α}{i:Nat}(h:i<l.length)(hc:c (l.getD i default)=false): l.all c=false:=by
 cases e:l.all c with
 | false=>rfl
 | true=>rw[Yed.1 e _ (Y02 h)] at hc;cases hc
structure ShP (p:Plan):Prop where
 lock:p.lock.length=p.sv.length
 rv:p.rv.length=p.routes.length
 ice:p.ice.length=p.routes.length
 iv:p.iv.length=p.routes.length
 stops:∀ r∈p.routes,∀ s∈r,1≤s∧s<p.sv.length
def touchS (T:Delta): List Int:=(movedL T).foldl addK ((T.locks.map Hold.n).foldl addK [])
def doneR (p:Plan)(R:List (List Int))(T:Delta): Plan:=⟨R,setLs p.lock T.locks,setLs p.ice T.ices,bump p.rv (T.turns.map Turn.car),bump p.sv (sorted (touchS T)),bump p.iv (T.ices.map Hold.n),if 0<(movedL T).length then wadd p.pv 1 else p.pv⟩
def asT (p:Plan)(t:Turn): Bool:=decide (p.routes.getD t.car.toNat default=t.before)
def asL (p:Plan)(h:Hold): Bool:=decide (p.lock.getD h.n.toNat default=h.before)
def asI (p:Plan)(h:Hold): Bool:=decide (p.ice.getD h.n.toNat default=h.before)
def applyR (p:Plan)(c:Bool)(d T:Delta): Plan × Int :=
 if c=true∨thereB p d=false then (zeroP,1) else if onceB (setR p.routes d.turns)=false then (zeroP,1) else if asB p d=false then (zeroP,15) else (doneR p (setR p.routes d.turns) T,0)
theorem Y69 (p:Plan)(d:Delta): asB p d=(d.turns.all (asT p) && (d.locks.all (asL p) && d.ices.all (asI p))):=rfl
theorem YaC {p:Plan}{c:Bool}{d T:Delta}(h:c=true): applyR p c d T=(zeroP,1):=by rw[applyR,if_pos (.inl h)]
theorem Y0J {p:Plan}{c:Bool}{d T:Delta}(h:thereB p d=false): applyR p c d T=(zeroP,1):=by rw[applyR,if_pos (.inr h)]
theorem Y8R {p:Plan}{c:Bool}{d T:Delta}(h:onceB (setR p.routes d.turns)=false): applyR p c d T=(zeroP,1):=by
 rw[applyR,if_pos h]
 split <;> rfl
theorem YbW {p:Plan}{c:Bool}{d T:Delta}(h1:c=false)(h2:thereB p d=true)(h3:onceB (setR p.routes d.turns)=true)(h:asB p d=false): applyR p c d T=(zeroP,15):=by
 rw[applyR,if_neg (by simp[h1,h2]),if_neg (by simp[h3]),if_pos h]
theorem Y7Z {p:Plan}{c:Bool}{d T:Delta}(h1:c=false)(h2:thereB p d=true)(h3:onceB (setR p.routes d.turns)=true)(h:asB p d=true): applyR p c d T=(doneR p (setR p.routes d.turns) T,0):=by
 rw[applyR,if_neg (by simp[h1,h2]),if_neg (by simp[h3]),if_neg (by simp[h])]
theorem Y2q {p:Plan}{d:Delta}{i:Nat}(h:i<d.turns.length)(hc:turnIn p (d.turns.getD i default)=false): thereB p d=false:=by
 rw[thereB,Y46 h hc,Yf5]
theorem Y5a {p:Plan}{d:Delta}{i:Nat}(h:i<d.locks.length)(hc:stopIn p (d.locks.getD i default).n=false): thereB p d=false:=by
 rw[thereB,Y46 (c:=fun h=>stopIn p h.n) h hc,Yf5,YeJ]
theorem YaI {p:Plan}{d:Delta}{i:Nat}(h:i<d.ices.length)(hc:carIn p (d.ices.getD i default).n=false): thereB p d=false:=by
 rw[thereB,Y46 (c:=fun h=>carIn p h.n) h hc,YeJ,YeJ]
theorem CellsOK.mono {w:World}{F:Nat→Prop}{ρ ρ':Locs}{m m':Mem}(hc:Compat m ρ m' ρ'){L:Option Loc}{x y:Box}(hk:y.kind=x.kind)(hs:y.sz=x.sz)(he:y.es=x.es)(h:CellsOK w F ρ m L x): CellsOK w F ρ' m' L y:=by
 unfold CellsOK at h ⊢
 rw[he,hs,hk]
 cases L with
 | none=>exact h
 | some l =>
  obtain⟨cs,t,h1,h2,h3,h4,h5⟩:=h
  refine⟨cs,t,h1,h2,h3,h4,fun i e c q hi hq=>?_⟩
  obtain⟨v,hv,hrel⟩:=h5 i e c q hi hq
  exact⟨v,hv,hrel.mono (fun _ h=>h) (fun _ _=>rfl) hc⟩
theorem Weak.moveBox {ts:Slots}{m:Mem}{n q c n' g:Nat}{x y:Box}{cs:List LV}(hq:m q=some y)(hyf:y.frz=false)(hyk:y.kind=.var)(hye:y.es=[cs])(hc:cs[c]?=some (.ref n g 0 0))(hn:m n=some x)(hg:x.gen=g)(hxf:x.frz=false)(hxk:x.kind≠.mp)
  (h1:Nat.beq n' n=false) (h2:Nat.beq n' q=false) (h3:Nat.beq n q=false) :
  Weak ⟨ts,m⟩ ⟨ts,updM (updM (updM m n ⟨x.gen+1,false,.slc,0,[]⟩) n' ⟨genAt m n',false,x.kind,x.sz,x.es⟩) q ⟨y.gen,false,.var,y.sz,[cs.set c (.ref n' (genAt m n') 0 0)]⟩⟩:=by
 intro X a w F ρ h
 have ne:∀ {a b:Nat},Nat.beq a b=false→a≠b:=fun h e=>by rw[e,Yfx] at h;cases h
 have e1:=ne h1
 have e2:=ne h2
 have e3:=ne h3
 have hbq:=h.boxes q y hq
 have hcq:=Ygg (by rw[hyk];simp) hbq
 have hbn:=h.boxes n x hn
 have hcn:=Ygg hxk hbn
 -- what the cell holds
 have hcell:∃ lq cs' t v l,ρ q=some lq∧w.heap[lq.blk]?=some (.cells cs' t (0,0))∧cs'[lq.base+(0*y.sz+c)]?=some v∧ρ n=some l∧v=.pointer (some ⟨l.blk,l.base+(0*x.sz+0),none⟩):=by
  unfold CellsOK at hcq
  cases hr:ρ q with
  | none =>
   rw[hr] at hcq
   have hcq:y.es=[]:=hcq
   rw[hye] at hcq
   cases hcq
  | some lq =>
   rw[hr] at hcq
   obtain⟨ks,t,g1,g2,g3,g4,g5⟩:=hcq
   obtain⟨v,hv,hrel⟩:=g5 0 cs c _ (by rw[hye];rfl) hc
   rw[hyk] at hrel
   obtain⟨-,l,hl,hv'⟩:=RelL.toRef (show RelL w F ρ m v (.ref n g 0 0) from hrel) hn hg
   exact⟨lq,ks,t,v,l,rfl,g1,hv,hl,hv'⟩
 obtain⟨lq,ks0,t0,v0,l0,hlq,hw0,hv0,hl0,hve⟩:=hcell
 -- the old name is forgotten
 have i1:Inv X ⟨ts,updM m n ⟨x.gen+1,false,.slc,0,[]⟩⟩ a w F (updRo ρ n none):=by
  refine h.write (n:=n) (ρ':=updRo ρ n none) (x':=⟨x.gen+1,false,.slc,0,[]⟩) rfl rfl rfl (Ye2 _) (fun _ _ _=>rfl) (fun k hk=>Y0f _ _ (Ne.symm hk)) rfl (fun z hz=>?_) (fun l hl=>?_) fun _ _=>?_
  ·change m n=some z at hz
   rw[hn] at hz
   injection hz with hz
   subst hz
   exact .inr (Yfu _)
  ·rw[Y05] at hl
   cases hl
  ·exact Ygc (by simp) (by rw[Y05];exact rfl)
 have c1:Compat m ρ (updM m n ⟨x.gen+1,false,.slc,0,[]⟩) (updRo ρ n none):=by
  intro b z hz
  by_cases hb:n=b
  ·subst hb
   rw[hn] at hz
   injection hz with hz
   subst hz
   exact⟨_,Y07 _ _ _,.inr (Yfu _)⟩
  ·exact⟨z,by rw[Y0e _ _ hb];exact hz,.inl ⟨rfl,Y0f _ _ hb,rfl,.inr rfl,rfl⟩⟩
 have hgen:genAt (updM m n ⟨x.gen+1,false,.slc,0,[]⟩) n'=genAt m n':=by
  unfold genAt
  rw[Y0e _ _ (Ne.symm e1)]
 -- the new one is taken up
 obtain⟨i2,c2⟩:=i1.adopt (ρ':=updRo (updRo ρ n none) n' (ρ n)) (n:=n') (x':=⟨genAt m n',false,x.kind,x.sz,x.es⟩) (fun k hk=>Y0f _ _ (Ne.symm hk)) rfl hgen.symm (fun l hl=>by
   rw[Y05] at hl
   obtain⟨p1,p2,p3⟩:=h.place n x l hn hl
   refine⟨p1,(p3 hxf).1,(p3 hxf).2,fun k z l' hz hzf hk hl' hb=>?_⟩
   by_cases hkn:n=k
   ·subst hkn
    rw[Y05] at hl'
    cases hl'
   ·rw[Y0f _ _ hkn] at hl'
    change (updM m n _) k=some z at hz
    rw[Y0e _ _ hkn] at hz
    exact hkn (h.inj k n z x l' l hz hn hzf hxf hl' hl hb).symm) (fun hcm=>by
   refine Ygc hxk ?_ fun hk l hl=>?_
   ·rw[Y05]
    refine CellsOK.mono (ρ:=ρ) (m:=m) (x:=x) ?_ rfl rfl rfl hcn
    intro b z hz
    obtain⟨z1,hz1,hz2⟩:=c1 b z hz
    obtain⟨z3,hz3,hz4⟩:=hcm b z1 hz1
    refine⟨z3,hz3,?_⟩
    rcases hz2 with ⟨u1,u2,u3,u4,u5⟩ | u <;> rcases hz4 with ⟨v1,v2,v3,v4,v5⟩ | v
    ·refine .inl ⟨by rw[v1,u1],by rw[v2,u2],by rw[v3,u3],?_,by rw[v5,u5]⟩
     rcases u4 with u4 | u4
     ·exact .inl u4
     ·rcases v4 with v4 | v4
      ·exact .inl (by rw[← u5];exact v4)
      ·exact .inr (by rw[v4,u4])
    ·exact .inr (by omega)
    ·exact .inr (by omega)
    ·exact .inr (by omega)
   ·rw[Y05] at hl
    exact hbn.ext hk l hl)
 -- the cell tells the new name
 have hq2:(updM (updM m n ⟨x.gen+1,false,.slc,0,[]⟩) n' ⟨genAt m n',false,x.kind,x.sz,x.es⟩) q=some y:=by rw[Y0e _ _ e2,Y0e _ _ e3];exact hq
 have hrq:updRo (updRo ρ n none) n' (ρ n) q=ρ q:=by rw[Y0f _ _ e2,Y0f _ _ e3]
 have hcl2:=Ygg (by rw[hyk];simp) (i2.boxes q y hq2)
 refine⟨F,_,i2.write (n:=q) (ρ':=updRo (updRo ρ n none) n' (ρ n)) (x':=⟨y.gen,false,.var,y.sz,[cs.set c (.ref n' (genAt m n') 0 0)]⟩) rfl rfl rfl (Ye2 _) (fun _ _ _=>rfl) (fun _ _=>rfl) rfl (fun z hz=>?_) (fun l hl=>?_) fun hcm _=>?_⟩
 ·change (updM (updM m n _) n' _) q=some z at hz
  rw[hq2] at hz
  injection hz with hz
  subst hz
  exact .inl ⟨rfl,rfl,rfl,.inr (by rw[hye];rfl),hyk.symm⟩
 ·exact⟨(i2.place q y l hq2 hl).1,.inr ⟨y,l,hq2,hyf,hl,rfl⟩⟩
 ·refine Ygc (by simp) ?_ (fun _=>(i2.boxes q y hq2).ext hyk)
  unfold CellsOK at hcl2 ⊢
  rw[hrq,hlq] at hcl2
  rw[hrq,hlq]
  obtain⟨ks,t,g1,g2,g3,g4,g5⟩:=hcl2
  rw[hye] at g3 g4 g5
  rw[hyk] at g5
  refine⟨ks,t,g1,g2,g3,fun e hh=>?_,fun i e k u hi hu=>?_⟩
  ·simp at hh
   subst hh
   rw[YdQ]
   exact g4 cs (by simp)
  ·have hi0:i=0:=by have:=(YdM.1 hi).1;simp at this;omega
   subst hi0
   simp only[Yew,Yem] at hi
   subst hi
   by_cases hkc:c=k
   ·subst hkc
    have hlt:c<cs.length:=(YdM.1 hc).1
    rw[YeH hlt] at hu
    injection hu with hu
    subst hu
    rw[hw0] at g1
    injection g1 with g1
    injection g1 with g1
    subst g1
    refine⟨v0,hv0,?_⟩
    show RelL w F _ _ v0 _
    rw[hve]
    refine .ref rfl (x:=⟨genAt m n',false,x.kind,x.sz,x.es⟩) (by rw[Y0e _ _ (Ne.symm e2)];exact Y07 _ _ _) (Ye2 _) fun _=>⟨hxk,l0,by rw[Y05];exact hl0,rfl⟩
   ·rw[YeF hkc] at hu
    obtain⟨v,hv,hrel⟩:=g5 0 cs k u (by simp) hu
    exact⟨v,hv,(show RelL w F _ _ v u from hrel).mono (fun _ h=>h) (fun _ _=>rfl) hcm⟩
theorem CellR.any {w:World}{F:Nat→Prop}{ρ:Locs}{m:Mem}{k:BK}{v:Value}{l:LV}(h:RelF w F v l): CellR w F ρ m k v l:=by
 cases k
 ·exact .frz h
 ·exact h
 ·exact h
 ·exact .frz h
theorem Weak.cellFrz {ts:Slots}{m m':Mem}{q j c:Nat}{y:Box}{e:List LV}{l l':LV}{T:List Nat}(hq:m q=some y)(hyf:y.frz=false)(hyk:y.kind≠.mp)(he:y.es[j]?=some e)(hc:e[c]?=some l)(hF:Frz m l l' T)(hm:effM m (markE m T)=m')(hq':m' q=some y){es':List (List LV)}(hes:y.es.set j (e.set c l')=es'):
  Weak ⟨ts,m⟩ ⟨ts,updM m' q ⟨y.gen,false,y.kind,y.sz,es'⟩⟩:=by
 subst hes hm
 intro X a w F ρ h
 obtain⟨F',f1,f2,h'⟩:=h.mark T
 have hcl:=Ygg hyk (h.boxes q y hq)
 have hcl':=Ygg hyk (h'.boxes q y hq')
 refine⟨F',ρ,h'.write (n:=q) (ρ':=ρ) (x':=⟨y.gen,false,y.kind,y.sz,y.es.set j (e.set c l')⟩) rfl rfl rfl (Ye2 _) (fun _ _ _=>rfl) (fun _ _=>rfl) rfl (fun z hz=>?_) (fun l hl=>⟨(h'.place q y l hq' hl).1,.inr ⟨y,l,hq',hyf,hl,rfl⟩⟩) fun hcm _=>?_⟩
 ·change (effM m (markE m T)) q=some z at hz
  rw[hq'] at hz
  injection hz with hz
  subst hz
  exact .inl ⟨rfl,rfl,rfl,.inr (by simp),rfl⟩
 ·refine Ygc hyk ?_ fun hv l hl=>BoxOK.ext (x:=y) hv (h'.boxes q y hq') l hl
  unfold CellsOK at hcl hcl' ⊢
  cases hr:ρ q with
  | none =>
   rw[hr] at hcl'
   have hcl':y.es=[]:=hcl'
   rw[hcl'] at he
   cases he
  | some lq =>
   rw[hr] at hcl hcl'
   obtain⟨ks0,t0,g1,g2,g3,g4,g5⟩:=hcl
   obtain⟨ks,t,k1,k2,k3,k4,k5⟩:=hcl'
   rw[g1] at k1
   injection k1 with k1
   injection k1 with k1
   subst k1
   refine⟨ks0,t0,g1,g2,by simpa using g3,fun e' hh=>?_,fun i e' k u hi hu=>?_⟩
   ·rcases YeZ hh with hh | hh
    ·exact g4 e' hh
    ·rw[hh,YdQ]
     exact g4 e (Yet he)
   ·by_cases hij:j=i
    ·subst hij
     rw[YeH (YdM.1 he).1] at hi
     injection hi with hi
     subst hi
     by_cases hkc:c=k
     ·subst hkc
      rw[YeH (YdM.1 hc).1] at hu
      injection hu with hu
      subst hu
      obtain⟨v,hv,hrel⟩:=g5 j e c l he hc
      exact⟨v,hv,CellR.any ((hF.sound (fun n x hx=>h.boxes n x hx) _ hrel.relL).mono (fun b hb=>f2 b hb (fun n hn=>hF.some n hn)) (fun _ _=>rfl))⟩
     ·rw[YeF hkc] at hu
      obtain⟨v,hv,hrel⟩:=k5 j e k u he hu
      exact⟨v,hv,hrel.mono (fun _ h=>h) (fun _ _=>rfl) hcm⟩
    ·rw[YeF hij] at hi
     obtain⟨v,hv,hrel⟩:=k5 i e' k u hi hu
     exact⟨v,hv,hrel.mono (fun _ h=>h) (fun _ _=>rfl) hcm⟩
theorem Weak.moveRow {ts:Slots}{m:Mem}{n q j n' g len:Nat}{x y:Box}{es':List (List LV)}(hq:m q=some y)(hyf:y.frz=false)(hyk:y.kind=.nst)(hc:y.es[j]?=some [.own n g 0 len none])(hn:m n=some x)(hg:x.gen=g)(hxf:x.frz=false)(hxk:x.kind≠.mp)
  (h1:Nat.beq n' n=false) (h2:Nat.beq n' q=false) (h3:Nat.beq n q=false) (hes:y.es.set j [.own n' (genAt m n') 0 len none]=es') :
  Weak ⟨ts,m⟩ ⟨ts,updM (updM (updM m n ⟨x.gen+1,false,.slc,0,[]⟩) n' ⟨genAt m n',false,x.kind,x.sz,x.es⟩) q ⟨y.gen,false,.nst,y.sz,es'⟩⟩:=by
 subst hes
 intro X a w F ρ h
 have ne:∀ {a b:Nat},Nat.beq a b=false→a≠b:=fun h e=>by rw[e,Yfx] at h;cases h
 have e1:=ne h1
 have e2:=ne h2
 have e3:=ne h3
 have hbq:=h.boxes q y hq
 have hcq:=Ygg (by rw[hyk];simp) hbq
 have hbn:=h.boxes n x hn
 have hcn:=Ygg hxk hbn
 have hcell:∃ lq cs' t v,ρ q=some lq∧w.heap[lq.blk]?=some (.cells cs' t (0,0))∧cs'[lq.base+(j*y.sz+0)]?=some v∧v.oneCell'=true∧HdrOK (ρ n) x v 0 len none:=by
  unfold CellsOK at hcq
  cases hr:ρ q with
  | none =>
   rw[hr] at hcq
   have hcq:y.es=[]:=hcq
   rw[hcq] at hc
   cases hc
  | some lq =>
   rw[hr] at hcq
   obtain⟨ks,t,g1,g2,g3,g4,g5⟩:=hcq
   obtain⟨v,hv,hrel⟩:=g5 j _ 0 _ hc rfl
   have hrel:=hrel.relL
   exact⟨lq,ks,t,v,rfl,g1,hv,hrel.one rfl,hrel.toOwn hn hg⟩
 obtain⟨lq,ks0,t0,v0,hlq,hw0,hv0,hone,hhdr⟩:=hcell
 have i1:Inv X ⟨ts,updM m n ⟨x.gen+1,false,.slc,0,[]⟩⟩ a w F (updRo ρ n none):=by
  refine h.write (n:=n) (ρ':=updRo ρ n none) (x':=⟨x.gen+1,false,.slc,0,[]⟩) rfl rfl rfl (Ye2 _) (fun _ _ _=>rfl) (fun k hk=>Y0f _ _ (Ne.symm hk)) rfl (fun z hz=>?_) (fun l hl=>?_) fun _ _=>?_
  ·change m n=some z at hz
   rw[hn] at hz
   injection hz with hz
   subst hz
   exact .inr (Yfu _)
  ·rw[Y05] at hl
   cases hl
  ·exact Ygc (by simp) (by rw[Y05];exact rfl)
 have c1:Compat m ρ (updM m n ⟨x.gen+1,false,.slc,0,[]⟩) (updRo ρ n none):=by
  intro b z hz
  by_cases hb:n=b
  ·subst hb
   rw[hn] at hz
   injection hz with hz
   subst hz
   exact⟨_,Y07 _ _ _,.inr (Yfu _)⟩
  ·exact⟨z,by rw[Y0e _ _ hb];exact hz,.inl ⟨rfl,Y0f _ _ hb,rfl,.inr rfl,rfl⟩⟩
 have hgen:genAt (updM m n ⟨x.gen+1,false,.slc,0,[]⟩) n'=genAt m n':=by
  unfold genAt
  rw[Y0e _ _ (Ne.symm e1)]
 obtain⟨i2,c2⟩:=i1.adopt (ρ':=updRo (updRo ρ n none) n' (ρ n)) (n:=n') (x':=⟨genAt m n',false,x.kind,x.sz,x.es⟩) (fun k hk=>Y0f _ _ (Ne.symm hk)) rfl hgen.symm (fun l hl=>by
   rw[Y05] at hl
   obtain⟨p1,p2,p3⟩:=h.place n x l hn hl
   refine⟨p1,(p3 hxf).1,(p3 hxf).2,fun k z l' hz hzf hk hl' hb=>?_⟩
   by_cases hkn:n=k
   ·subst hkn
    rw[Y05] at hl'
    cases hl'
   ·rw[Y0f _ _ hkn] at hl'
    change (updM m n _) k=some z at hz
    rw[Y0e _ _ hkn] at hz
    exact hkn (h.inj k n z x l' l hz hn hzf hxf hl' hl hb).symm) (fun hcm=>by
   refine Ygc hxk ?_ fun hk l hl=>?_
   ·rw[Y05]
    refine CellsOK.mono (ρ:=ρ) (m:=m) (x:=x) ?_ rfl rfl rfl hcn
    intro b z hz
    obtain⟨z1,hz1,hz2⟩:=c1 b z hz
    obtain⟨z3,hz3,hz4⟩:=hcm b z1 hz1
    refine⟨z3,hz3,?_⟩
    rcases hz2 with ⟨u1,u2,u3,u4,u5⟩ | u <;> rcases hz4 with ⟨v1,v2,v3,v4,v5⟩ | v
    ·refine .inl ⟨by rw[v1,u1],by rw[v2,u2],by rw[v3,u3],?_,by rw[v5,u5]⟩
     rcases u4 with u4 | u4
     ·exact .inl u4
     ·rcases v4 with v4 | v4
      ·exact .inl (by rw[← u5];exact v4)
      ·exact .inr (by rw[v4,u4])
    ·exact .inr (by omega)
    ·exact .inr (by omega)
    ·exact .inr (by omega)
   ·rw[Y05] at hl
    exact hbn.ext hk l hl)
 have hq2:(updM (updM m n ⟨x.gen+1,false,.slc,0,[]⟩) n' ⟨genAt m n',false,x.kind,x.sz,x.es⟩) q=some y:=by rw[Y0e _ _ e2,Y0e _ _ e3];exact hq
 have hrq:updRo (updRo ρ n none) n' (ρ n) q=ρ q:=by rw[Y0f _ _ e2,Y0f _ _ e3]
 have hcl2:=Ygg (by rw[hyk];simp) (i2.boxes q y hq2)
 refine⟨F,_,i2.write (n:=q) (ρ':=updRo (updRo ρ n none) n' (ρ n)) (x':=⟨y.gen,false,.nst,y.sz,y.es.set j [.own n' (genAt m n') 0 len none]⟩) rfl rfl rfl (Ye2 _) (fun _ _ _=>rfl) (fun _ _=>rfl) rfl (fun z hz=>?_) (fun l hl=>?_) fun hcm _=>?_⟩
 ·change (updM (updM m n _) n' _) q=some z at hz
  rw[hq2] at hz
  injection hz with hz
  subst hz
  exact .inl ⟨rfl,rfl,rfl,.inr (by simp),hyk.symm⟩
 ·exact⟨(i2.place q y l hq2 hl).1,.inr ⟨y,l,hq2,hyf,hl,rfl⟩⟩
 ·refine Ygc (by simp) ?_ (fun hv=>by cases hv)
  unfold CellsOK at hcl2 ⊢
  rw[hrq,hlq] at hcl2
  rw[hrq,hlq]
  obtain⟨ks,t,g1,g2,g3,g4,g5⟩:=hcl2
  rw[hyk] at g5
  refine⟨ks,t,g1,g2,by simpa using g3,fun e hh=>?_,fun i e k u hi hu=>?_⟩
  ·rcases YeZ hh with hh | hh
   ·exact g4 e hh
   ·rw[hh]
    have:=g4 _ (Yet hc)
    simpa using this
  ·by_cases hij:j=i
   ·subst hij
    rw[YeH (YdM.1 hc).1] at hi
    injection hi with hi
    subst hi
    have hk0:k=0:=by have:=(YdM.1 hu).1;simp at this;omega
    subst hk0
    simp only[Yew,Yem] at hu
    subst hu
    rw[hw0] at g1
    injection g1 with g1
    injection g1 with g1
    subst g1
    refine⟨v0,hv0,?_⟩
    show RelL w F _ _ v0 _
    refine .own hone (x:=⟨genAt m n',false,x.kind,x.sz,x.es⟩) (by rw[Y0e _ _ (Ne.symm e2)];exact Y07 _ _ _) (Ye2 _) fun _=>?_
    rw[Y05]
    exact hhdr
   ·rw[YeF hij] at hi
    obtain⟨v,hv,hrel⟩:=g5 i e k u hi hu
    exact⟨v,hv,(show RelL w F _ _ v u from hrel).mono (fun _ h=>h) (fun _ _=>rfl) hcm⟩
theorem Inv.noBoxN {X:Ctx}{st:St}{a:Act}{w:World}{F:Nat→Prop}{ρ:Locs}(h:Inv X st a w F ρ)(b sz:Nat):
  Inv X ⟨st.ts,updM st.m b ⟨genAt st.m b,false,.nst,sz,[]⟩⟩ a w F (updRo ρ b none)∧Compat st.m ρ (updM st.m b ⟨genAt st.m b,false,.nst,sz,[]⟩) (updRo ρ b none) :=
 h.adopt (fun k hk=>Y0f _ _ (Ne.symm hk)) rfl rfl (fun l hl=>by rw[Y05] at hl;cases hl) fun _=>Ygc (by simp) (by rw[Y05];exact rfl)
theorem Weak.dummy {ts:Slots}{m:Mem}(b sz:Nat): Weak ⟨ts,m⟩ ⟨ts,updM m b ⟨genAt m b,false,.slc,sz,[]⟩⟩:=fun X a w F ρ h=>⟨F,_,(h.noBox b sz).1⟩
theorem Weak.nilCellN {ts:Slots}{m:Mem}{n c:Nat}{x:Box}{cs:List LV}(b sz:Nat)(hn:m n=some x)(hf:x.frz=false)(hk:x.kind=.var)(he:x.es=[cs])(hc:cs[c]?=some .nils)(hb:Nat.beq b n=false):
  Weak ⟨ts,m⟩ ⟨ts,updM (updM m b ⟨genAt m b,false,.nst,sz,[]⟩) n ⟨x.gen,false,.var,x.sz,[cs.set c (.own b (genAt m b) 0 0 none)]⟩⟩:=by
 intro X a w F ρ h
 have hbn:b≠n:=fun e=>by rw[e,Yfx] at hb;cases hb
 obtain⟨h1,-⟩:=h.noBoxN b sz
 have hn1:(updM m b ⟨genAt m b,false,.nst,sz,[]⟩) n=some x:=by rw[Y0e _ _ hbn];exact hn
 have hcl:=Ygg (by rw[hk];simp) (h1.boxes n x hn1)
 refine⟨F,_,h1.write (n:=n) (ρ':=updRo ρ b none) (x':=⟨x.gen,false,.var,x.sz,[cs.set c (.own b (genAt m b) 0 0 none)]⟩) rfl rfl rfl (Ye2 _) (fun _ _ _=>rfl) (fun _ _=>rfl) rfl (fun y hy=>?_) (fun l hl=>?_) fun hcm _=>?_⟩
 ·change (updM m b _) n=some y at hy
  rw[hn1] at hy
  injection hy with hy
  subst hy
  exact .inl ⟨rfl,rfl,rfl,.inr (by rw[he];rfl),hk.symm⟩
 ·exact⟨(h1.place n x l hn1 hl).1,.inr ⟨x,l,hn1,hf,hl,rfl⟩⟩
 ·refine Ygc (by simp) ?_ (fun _=>(h1.boxes n x hn1).ext hk)
  unfold CellsOK at hcl ⊢
  cases hr:updRo ρ b none n with
  | none =>
   rw[hr] at hcl
   have hcl':x.es=[]:=hcl
   rw[he] at hcl'
   cases hcl'
  | some l =>
   rw[hr] at hcl
   obtain⟨ks,t,g1,g2,g3,g4,g5⟩:=hcl
   rw[he] at g3 g4 g5
   rw[hk] at g5
   refine⟨ks,t,g1,g2,g3,fun e hh=>?_,fun i e k q hi hq=>?_⟩
   ·simp at hh
    subst hh
    rw[YdQ]
    exact g4 cs (by simp)
   ·have hi0:i=0:=by have:=(YdM.1 hi).1;simp at this;omega
    subst hi0
    simp only[Yew,Yem] at hi
    subst hi
    by_cases hkc:c=k
    ·subst hkc
     have hlt:c<cs.length:=(YdM.1 hc).1
     rw[YeH hlt] at hq
     injection hq with hq
     subst hq
     obtain⟨v,hv,hrel⟩:=g5 0 cs c .nils (by simp) hc
     refine⟨v,hv,?_⟩
     have hv2:=(show RelL w F _ _ v .nils from hrel).nils
     subst hv2
     show RelL w F _ _ _ (.own b (genAt m b) 0 0 none)
     refine RelL.own (x:=⟨genAt m b,false,.nst,sz,[]⟩) rfl (by rw[Y0e _ _ (Ne.symm hbn)];exact Y07 _ _ _) (Ye2 _) fun _=>⟨rfl,Ye2 _,?_⟩
     rw[Y05]
     exact⟨none,rfl⟩
    ·rw[YeF hkc] at hq
     obtain⟨v,hv,hrel⟩:=g5 0 cs k q (by simp) hq
     exact⟨v,hv,(show RelL w F _ _ v q from hrel).mono (fun _ h=>h) (fun _ _=>rfl) hcm⟩
section
variable {P:Program}{I:InlP}{nb:Nat}{Q:Ex→St→Prop}{ops:Array Oper}{K:St→Prop}{r:List Oper}{ts:Slots}{m:Mem}{t:Nat}{ty:TypeId}{pos:String}{af:Array Edge}{d:Bool}{i:Nat}{acc:List (Nat × List Nat × List Nat)}
theorem GL.buildSliceN (hI:InlM I){e et:TypeId}{y:Operand}{z cs:List LV}{sz:Nat}(ht:sliceE P e=some et)(hz:zeroL P et=some z)(hzl:z.length=sz)(hs:szT P et=some sz)(hn:0<sz)(hb:1*sz≤16777216)(hy:cellsL (evalO ts y)=cs)(hl:cs.length=sz)(h1:cs.all oneC=true)
  (k:∀ g,GL P I nb ops K d r (i+1) ((i,[nb+64*t],[nb+64*t])::acc) ⟨updS ts t (.own (nb+64*t) g 0 1 none),updM m (nb+64*t) ⟨g,false,.nst,sz,[cs]⟩⟩) :
  GL P I nb ops K d (⟨some t,.buildSlice e 1 #[(0,y)],ty,pos,af,none⟩::r) i acc ⟨ts,m⟩:=by
 subst hzl
 exact .step hI (eff:=[_]) (.buildSliceN ht hz hs hn hb hy hl h1) (by simp) (k _)
theorem GL.indexAddrN (hI:InlM I){st e:TypeId}{x ix:Operand}{kk:IntKind}{n:Int}{b g off len j:Nat}{cap:Option Nat}{y:Box}{sz:Nat}(ht:sliceE P st=some e)(hs:szT P e=some sz)(hx:evalO ts x=.own b g off len cap)(hi:evalO ts ix=.int kk n)(hm:m b=some y)(hg:y.gen=g)(hk:y.kind=.nst)(hz:y.sz=sz)(h0:0≤n)(h1:n<(len:Int))(hj:off+n.toNat=j)
  (k:GL P I nb ops K d r (i+1) ((i,[],[b])::acc) ⟨updS ts t (.ref b g j 0),m⟩):GL P I nb ops K d (⟨some t,.indexAddr st x ix,ty,pos,af,none⟩::r) i acc ⟨ts,m⟩:=by
 subst hj hz
 exact .stepP hI (.indexAddrN hx hi hm hg hk ht hs h0 h1) k
theorem GL.appendNs (hI:InlM I){x y:Operand}{e u et:TypeId}{b g n b' g' sz:Nat}{cap:Option Nat}{bx by':Box}{z cs:List LV}{R:List (List LV)}(hz:zeroL P et=some z)(hzl:z.length=sz)(hs:szT P et=some sz)(ht:sliceE P e=some et)(hu:u=e)(h0:0<sz)(hb:P.bytesOf et≤4096)
  (hx:evalO ts x=.own b g 0 n none) (hm:m b=some bx) (hg:bx.gen=g) (hf:bx.frz=false) (hk:bx.kind=.nst) (hsz:bx.sz=sz) (he:bx.es=R) (hn:n=R.length)
  (hy:evalO ts y=.own b' g' 0 1 cap) (hm':m b'=some by') (hg':by'.gen=g') (hk':by'.kind=.nst) (hsz':by'.sz=sz) (he':by'.es=[cs]) (hbb:Nat.beq b b'=false) (h1:cs.all oneC=true) (hle:n+1≤4294967296)
  (k:GL P I nb ops K d r (i+1) ((i,[b],[b,b'])::acc) ⟨updS ts t (.own b (g+1) 0 (n+1) none),updM m b ⟨g+1,false,.nst,sz,R++[cs]⟩⟩) :
  GL P I nb ops K d (⟨some t,.call { callee:=.builtin .append,args:=#[x,y],argTypes:=#[e,u] },ty,pos,af,none⟩::r) i acc ⟨ts,m⟩:=by
 have hbn:b≠b':=fun e=>by rw[e,Yfx] at hbb;cases hbb
 subst hzl he
 have h:=OpR.appendNs (P:=P) (d:=nb+64*t) (ρ:=evalO ts) (m:=m) (x:=x) (y:=y) (len:=n) (len':=1) hx hm hg hf hk (by omega) ht hu hz hs hsz h0 hy hm' hg' hk' (by rw[he'];simp) hsz' hbn (by decide) (by rw[he'];simpa using h1) hle hb
 refine .step hI (eff:=[_]) h (by simp[hf]) ?_
 have e1:bx.es.drop 0++(by'.es.drop 0).take 1=bx.es++[cs]:=by rw[he'];rfl
 simp only[effM,e1,Wn,Yey,Yfi]
 rw[hf,hk,hsz]
 exact k
end
section
variable {P:Program}{I:InlP}{nb:Nat}{Q:Ex→St→Prop}{ops:Array Oper}{K:St→Prop}{r:List Oper}{ts:Slots}{m:Mem}{t:Nat}{ty:TypeId}{pos:String}{af:Array Edge}{d:Bool}{i:Nat}{acc:List (Nat × List Nat × List Nat)}
theorem GL.insM2 (hI:InlM I){tt kt et:TypeId}{x ix y:Operand}{b g:Nat}{bx:Box}{n:Int}{v:List Int}{L:List (Int × List Int)}(ht:P.underlying tt=some (.map kt et))(hkt:P.underlying kt=some (.int .i64))(hx:evalO ts x=.mref b g)(hm:m b=some bx)(hg:bx.gen=g)(hf:bx.frz=false)(hk:bx.kind=.mp)(hq:bx.sz=2)(he:bx.es=em2 L)(hn:evalO ts ix=.int .i64 n)(hy:evalO ts y=.sl (em ni v))
  (k:GL P I nb ops K d r (i+1) ((i,[b],[b])::acc) ⟨ts,updM m b ⟨g,false,.mp,bx.sz,em2 (rput n v L)⟩⟩):GL P I nb ops K d (⟨none,.insert tt x ix y,ty,pos,af,none⟩::r) i acc ⟨ts,m⟩:=by
 have h:=OpR.insert (P:=P) (d:=nb+64*4000) (ρ:=evalO ts) (m:=m) (ix:=ix) (y:=y) hx hm hg hk hq hf ht (by rw[hn];simp[keyK,scalK,hkt,pureL]) (by rw[hn,he];exact Y25 hkt n L) (.pure (by rw[hy];rfl)) (by simp)
 refine .stepN hI h (by simp[hf,markE]) ?_
 rw[hn,hy,he,Y5C hkt n v L]
 simp only[markE,YdY,effM,Wn,List.map]
 rw[hg,hf,hk]
 exact k
theorem GL.callR (hI:InlM I){α:Type}{p:α→Prop}{f':α→LV}{g:Operand}{as:Array Operand}{tys:Array TypeId}{f:FuncId}{caps args:List LV}{T:List Nat}{m':Mem}(hg:evalO ts g=.fn f caps)(hf:Frz m (.agg (as.toList.map (evalO ts)++caps)) (.agg args) T)(hc:CallsR P f args fun res=>∃ a,p a∧res=f' a)
  (hT:effM m (markE m T)=m') (ht:∀ a,topI (f' a)=true) (hr:∀ a m,impT m (nb+64*t) (f' a)=(f' a,[])) (k:∀ a,p a→GL P I nb ops K false r (i+1) acc ⟨updS ts t (f' a),m'⟩) :
  GL P I nb ops K false (⟨some t,.call { callee:=.value g,args:=as,argTypes:=tys },ty,pos,af,none⟩::r) i acc ⟨ts,m⟩:=by
 simp only[GL,wantedL]
 refine .call (o:=⟨some t,.call { callee:=.value g,args:=as,argTypes:=tys },ty,pos,af,none⟩) rfl hg hf hc ?_
 rintro _ ⟨a,ha,rfl⟩
 refine⟨ht a,?_⟩
 simp only[nameO,YeA,hT,hr,effM]
 exact k a ha
end
theorem Weak.cutCell {ts:Slots}{m:Mem}{q c b g off len:Nat}{y x:Box}{cs:List LV}(hq:m q=some y)(hyf:y.frz=false)(hyk:y.kind=.var)(hye:y.es=[cs])(hc:cs[c]?=some (.own b g off len none))(hm:m b=some x)(hg:x.gen=g)(hxf:x.frz=false)(hxk:x.kind=.slc)(hl:off+len≤x.es.length)(hne:Nat.beq b q=false):
  Weak ⟨ts,m⟩ ⟨ts,updM (updM m b ⟨g+1,false,.slc,x.sz,x.es.take (off+len)⟩) q ⟨y.gen,false,.var,y.sz,[cs.set c (.own b (g+1) off len none)]⟩⟩:=by
 intro X a w F ρ h
 have hbq:b≠q:=fun e=>by rw[e,Yfx] at hne;cases hne
 have hcq:=Ygg (by rw[hyk];simp) (h.boxes q y hq)
 have hbx:=Ygg (by rw[hxk];simp) (h.boxes b x hm)
 have hcell:∃ lq cs' t v,ρ q=some lq∧w.heap[lq.blk]?=some (.cells cs' t (0,0))∧cs'[lq.base+(0*y.sz+c)]?=some v∧v.oneCell'=true∧HdrOK (ρ b) x v off len none:=by
  unfold CellsOK at hcq
  cases hr:ρ q with
  | none =>
   rw[hr] at hcq
   have hcq:y.es=[]:=hcq
   rw[hye] at hcq
   cases hcq
  | some lq =>
   rw[hr] at hcq
   obtain⟨ks,t,g1,g2,g3,g4,g5⟩:=hcq
   obtain⟨v,hv,hrel⟩:=g5 0 cs c _ (by rw[hye];rfl) hc
   have hrel:=hrel.relL
   exact⟨lq,ks,t,v,rfl,g1,hv,hrel.one rfl,hrel.toOwn hm hg⟩
 obtain⟨lq,ks0,t0,v0,hlq,hw0,hv0,hone,h1k,h1l,h1h⟩:=hcell
 have i1:Inv X ⟨ts,updM m b ⟨g+1,false,.slc,x.sz,x.es.take (off+len)⟩⟩ a w F ρ:=by
  refine h.write (n:=b) (x':=⟨g+1,false,.slc,x.sz,x.es.take (off+len)⟩) rfl rfl rfl (Ye2 _) (fun _ _ _=>rfl) (fun _ _=>rfl) rfl (fun z hz=>?_) (fun l hl'=>⟨(h.place b x l hm hl').1,.inr ⟨x,l,hm,hxf,hl',rfl⟩⟩) fun hcm _=>?_
  ·change m b=some z at hz
   rw[hm] at hz
   injection hz with hz
   subst hz
   exact .inr (by rw[hg];exact Yfu g)
  ·refine Ygc (by simp) ?_
   cases hr:ρ b with
   | none =>
    rw[hr] at hbx
    have:x.es=[]:=hbx
    show x.es.take (off+len)=[]
    rw[this]
    simp
   | some l =>
    rw[hr] at hbx
    obtain⟨ds,t,g1,g2,g3,g4,g5⟩:=hbx
    rw[hxk] at g5
    refine⟨ds,t,g1,g2,Ye5 (by simp;omega) g3,fun e he=>g4 e (YeC he),fun k e c' u he hu=>?_⟩
    have he':x.es[k]?=some e:=by
     rw[YeU] at he
     split at he
     ·exact he
     ·cases he
    exact g5 k e c' u he' hu
 have hq1:(updM m b ⟨g+1,false,.slc,x.sz,x.es.take (off+len)⟩) q=some y:=by rw[Y0e _ _ hbq];exact hq
 have hcl2:=Ygg (by rw[hyk];simp) (i1.boxes q y hq1)
 refine⟨F,ρ,i1.write (n:=q) (ρ':=ρ) (x':=⟨y.gen,false,.var,y.sz,[cs.set c (.own b (g+1) off len none)]⟩) rfl rfl rfl (Ye2 _) (fun _ _ _=>rfl) (fun _ _=>rfl) rfl (fun z hz=>?_) (fun l hl'=>⟨(i1.place q y l hq1 hl').1,.inr ⟨y,l,hq1,hyf,hl',rfl⟩⟩) fun hcm _=>?_⟩
 ·change (updM m b _) q=some z at hz
  rw[hq1] at hz
  injection hz with hz
  subst hz
  exact .inl ⟨rfl,rfl,rfl,.inr (by rw[hye];rfl),hyk.symm⟩
 ·refine Ygc (by simp) ?_ (fun _=>(i1.boxes q y hq1).ext hyk)
  unfold CellsOK at hcl2 ⊢
  rw[hlq] at hcl2 ⊢
  obtain⟨ks,t,g1,g2,g3,g4,g5⟩:=hcl2
  rw[hye] at g3 g4 g5
  rw[hyk] at g5
  refine⟨ks,t,g1,g2,g3,fun e hh=>?_,fun i e k u hi hu=>?_⟩
  ·simp at hh
   subst hh
   rw[YdQ]
   exact g4 cs (by simp)
  ·have hi0:i=0:=by have:=(YdM.1 hi).1;simp at this;omega
   subst hi0
   simp only[Yew,Yem] at hi
   subst hi
   by_cases hkc:c=k
   ·subst hkc
    rw[YeH (YdM.1 hc).1] at hu
    injection hu with hu
    subst hu
    rw[hw0] at g1
    injection g1 with g1
    injection g1 with g1
    subst g1
    refine⟨v0,hv0,?_⟩
    show RelL w F _ _ v0 _
    refine .own hone (x:=⟨g+1,false,.slc,x.sz,x.es.take (off+len)⟩) (by rw[Y0e _ _ (Ne.symm hbq)];exact Y07 _ _ _) (Ye2 _) fun _=>⟨rfl,by simp;omega,?_⟩
    cases hr:ρ b with
    | none=>rw[hr] at h1h;exact h1h
    | some l=>rw[hr] at h1h;exact h1h
   ·rw[YeF hkc] at hu
    obtain⟨v,hv,hrel⟩:=g5 0 cs k u (by simp) hu
    exact⟨v,hv,(show RelL w F _ _ v u from hrel).mono (fun _ h=>h) (fun _ _=>rfl) hcm⟩
structure Entry where
 d:Delta
 pre:List (SKey × Int)
 view:List (SKey × Int)
deriving Inhabited
def ke (e:Entry): List LV:=[.sl (em kt e.d.turns),.sl (em kh e.d.locks),.sl (em kh e.d.ices),.fmap (em kv e.pre),.fmap (em kv e.view)]
def cutOK (ops:Array Oper)(k:Nat): Bool :=
 (List.range ops.size).all fun i=>(Nat.blt i k || (List.range k).all fun j=>(BB ops i).testBit j) && (Nat.ble i k || (BB ops i).testBit k)
theorem YcC {ops:Array Oper}{k:Nat}(h:cutOK ops k=true){i j:Nat}(hi:i<ops.size)(hk:k≤i)(hj:j<k): (BB ops i).testBit j=true:=by
 unfold cutOK at h
 rw[Yed] at h
 have:=h i (YeI.2 hi)
 simp only[Ye0,YfH,Yed] at this
 rcases this.1 with h1 | h1
 ·have:=YdK h1
  omega
 ·exact h1 j (YeI.2 hj)
theorem Yd3 {ops:Array Oper}{k:Nat}(h:cutOK ops k=true){i:Nat}(hi:i<ops.size)(hk:k<i): (BB ops i).testBit k=true:=by
 unfold cutOK at h
 rw[Yed] at h
 have:=h i (YeI.2 hi)
 simp only[Ye0,YfH] at this
 rcases this.2 with h1 | h1
 ·have:=YdK h1
  omega
 ·exact h1
section
variable {P:Program}{X:Ctx}
theorem YcQ {I:InlP}(hI:InlS P I){nb n k:Nat}{ops:Array Oper}(hd:∀ (i:Nat) o,ops[i]?=some o→dstOK n o=true){Q:Exit→Act→World→Prop}{st':St}
  (he:edgesOK ops (BB ops)=true) {acc:List (Nat × List Nat × List Nat)}(hp:pairsOK ops (BB ops) acc=true) (hcut:cutOK ops k=true) {f2:Nat}
  (hfin:∀ (listed:Array Bool) (a:Act) (w:World) (F:Nat→Prop) (ρ:Locs),Inv X st' a w F ρ→a.tmps.size=n→listed.size=ops.size→(∀ i,listed[i]?=some false↔k≤i∧i<ops.size)→wpAny P .any ops Q f2 listed a w) :
  ∀ (fuel:Nat) {rem:List (Nat × D)}{st:St}{a:Act}{w:World}{F:Nat→Prop}{ρ:Locs}{listed:Array Bool},rem.length=fuel→Run P nb ops rem st st'→Inv X st a w F ρ→a.tmps.size=n →
   listed.size=ops.size→(∀ i:Nat,listed[i]?=some false↔i∈rem.map (·.1)∨(k≤i∧i<ops.size))→(∀ x∈rem,x.1<k)→(rem.Pairwise fun x y=>x.1<y.1)→(∀ x∈rem,projD x∈acc) →
   (∀ (j:Nat) (o:Oper),ops[j]?=some o→¬ listed[j]?=some false→∀ e∈o.after,Region.binds .any e=true→¬ listed[e.on]?=some false) →
   wpAny P .any ops Q (fuel+f2) listed a w:=by
 intro fuel
 induction fuel with
 | zero =>
  intro rem st a w F ρ listed hl hr h hn hsz hrem hlt hpw hacc hcl
  have:rem=[]:=Yeo hl
  subst this
  have hst:st=st':=hr
  subst hst
  rw[YdZ]
  exact hfin listed a w F ρ h hn hsz fun i=>by rw[hrem i];simp
 | succ fuel ih =>
  intro rem st a w F ρ listed hl hr h hn hsz hrem hlt hpw hacc hcl
  rw[Yfy]
  have hidx:∀ x∈rem,x.1<ops.size:=by
   intro x hx
   have:=(hrem x.1).2 (.inl (Ye8.2 ⟨x,hx,rfl⟩))
   rw[← hsz]
   exact (Yeh.1 this).1
  refine⟨fun hnil=>?_,fun i hi=>?_⟩
  ·exfalso
   cases hrm:rem with
   | nil=>rw[hrm] at hl;cases hl
   | cons x r =>
    subst hrm
    have hx:=hidx x (Yev ..)
    have hx2:=(hrem x.1).2 (.inl (by simp))
    have ho:ops[x.1]?=some (ops[x.1]'hx):=YdL _
    have:x.1∈Region.ready .any ops listed:=by
     refine mem_ready.2 ⟨by rw[Ye7,hx2];rfl,_,ho,fun e hee hb=>?_⟩
     have hlt1:=Y2e he ho hee hb
     have hxk:=hlt x (Yev ..)
     have hno:¬ listed[e.on]?=some false:=by
      intro hm
      rcases (hrem e.on).1 hm with hm | hm
      ·obtain⟨y,hy,hye⟩:=Ye8.1 hm
       rcases Yep.1 hy with hy | hy
       ·subst hy;omega
       ·have:=(Yfo.1 hpw).1 y hy
        omega
      ·omega
     have hlt2:e.on<listed.size:=by omega
     rw[Ye7,YdL hlt2]
     simp only[YeA]
     cases hbb:listed[e.on]'hlt2 with
     | true=>rfl
     | false=>exact absurd (by rw[YdL hlt2,hbb]) hno
    rw[hnil] at this
    cases this
  ·obtain⟨h1,o,ho,hdep⟩:=mem_ready.1 hi
   have hlti:i<ops.size:=(Yeh.1 ho).1
   have hlt2:i<listed.size:=by omega
   have hif:listed[i]?=some false:=by
    rw[Ye7,YdL hlt2] at h1
    rw[YdL hlt2]
    simpa using h1
   have hdep':∀ e∈o.after,Region.binds .any e=true→¬ listed[e.on]?=some false:=by
    intro e hee hb hm
    have h3:=hdep e hee hb
    rw[Ye7,hm] at h3
    cases h3
   have hin:i∈rem.map (·.1):=by
    rcases (hrem i).1 hif with hm | hm
    ·exact hm
    ·exfalso
     cases hrm:rem with
     | nil=>rw[hrm] at hl;cases hl
     | cons x r =>
      have hx:x∈rem:=by rw[hrm];exact Yev ..
      have hb:=YcC hcut hlti hm.1 (hlt x hx)
      exact Y2a he (fun k=>listed[k]?=some false) hcl i ho hdep' (hidx x hx) hb ((hrem x.1).2 (.inl (Ye8.2 ⟨x,hx,rfl⟩)))
   obtain⟨x,hx,hxi⟩:=Ye8.1 hin
   subst hxi
   obtain⟨l1,l2,hsp⟩:=List.append_of_mem hx
   subst hsp
   have hpw2:=YfA.1 hpw
   have hfree:∀ y∈l1,FreeP ops y x:=by
    intro y hy
    have hym:y∈l1++x::l2:=Yee _ hy
    refine Y55 hp (hacc y hym) (hacc x hx) (hpw2.2.2 y hy x (Yev ..)) ?_
    cases hb:(BB ops x.1).testBit y.1 with
    | false=>rfl
    | true=>exact absurd ((hrem y.1).2 (.inl (Ye8.2 ⟨y,hym,rfl⟩))) (Y2a he (fun k=>listed[k]?=some false) hcl x.1 ho hdep' (hidx y hym) hb)
   obtain⟨o',ho',hst,hrun⟩:=Run.pull hr hfree
   rw[ho] at ho'
   injection ho' with ho'
   subst ho'
   have hx1:∀ y∈l1++l2,y.1≠x.1:=by
    intro y hy
    rcases Yei.1 hy with hy | hy
    ·have:=hpw2.2.2 y hy x (Yev ..)
     omega
    ·have:=(Yfo.1 hpw2.2.1).1 y hy
     omega
   have hmem:∀ k,k∈(l1++x::l2).map (·.1)↔k=x.1∨k∈(l1++l2).map (·.1):=by
    intro k
    simp only[Yfc,Yey,Yei,Yep]
    constructor
    ·rintro (h | h | h)
     ·exact .inr (.inl h)
     ·exact .inl h
     ·exact .inr (.inr h)
    ·rintro (h | h | h)
     ·exact .inr (.inl h)
     ·exact .inl h
     ·exact .inr (.inr h)
   have hxk:=hlt x hx
   refine Step.sound hI hst ho (hd _ _ ho) h hn fun a' w' F' ρ' hI' hn'=>?_
   refine ih (rem:=l1++l2) (by simp at hl ⊢;omega) hrun hI' hn' (by simp[hsz]) (fun j=>?_) (fun y hy=>hlt y ?_) ?_ (fun y hy=>hacc y ?_) (fun j oj hoj hj e hee hb hm=>?_)
   ·by_cases hk:x.1=j
    ·subst hk
     rw[Yes hlt2]
     refine⟨fun h=>(by cases h),fun hm=>?_⟩
     rcases hm with hm | hm
     ·obtain⟨y,hy,hye⟩:=Ye8.1 hm
      exact absurd hye (hx1 y hy)
     ·omega
    ·rw[Yeu hk,hrem j,hmem j]
     exact⟨fun h=>h.elim (fun h=>.inl (h.resolve_left (Ne.symm hk))) .inr,fun h=>h.elim (fun h=>.inl (.inr h)) .inr⟩
   ·rcases Yei.1 hy with hy | hy
    ·exact Yee _ hy
    ·exact Yeg _ (YdV _ hy)
   ·exact YfA.2 ⟨hpw2.1,(Yfo.1 hpw2.2.1).2,fun y hy z hz=>hpw2.2.2 y hy z (YdV _ hz)⟩
   ·rcases Yei.1 hy with hy | hy
    ·exact Yee _ hy
    ·exact Yeg _ (YdV _ hy)
   ·have hm2:listed[e.on]?=some false:=by
     by_cases hk:x.1=e.on
     ·rw[← hk,Yes hlt2] at hm
      cases hm
     ·rwa [Yeu hk] at hm
    by_cases hjx:j=x.1
    ·subst hjx
     rw[ho] at hoj
     injection hoj with hoj
     subst hoj
     exact hdep' e hee hb hm2
    ·rw[Yeu (Ne.symm hjx)] at hj
     exact hcl j oj hoj hj e hee hb hm2
theorem Y7u {I:InlP}(hI:InlS P I){nb n k:Nat}{ops:Array Oper}(hd:∀ (i:Nat) o,ops[i]?=some o→dstOK n o=true){Q:St→Prop}{st:St}{a:Act}{w:World}{F:Nat→Prop}{ρ:Locs}(hk:k<ops.size)(hcut:cutOK ops k=true)
  (h:DOps P nb ops (fun s1=>∃ o,ops[k]?=some o∧wantedL ops o s1.ts=some true∧WpOp P I nb o s1 fun v m=>DOps P nb ops Q (List.range' (k+1) (ops.size - (k+1))) [] ⟨putS s1.ts o.dst v,m⟩) (List.range k) [] st) (hinv:Inv X st a w F ρ) (hn:a.tmps.size=n) :
  wpAny P .any ops (Post X n (NQ Q)) ops.size (Array.replicate ops.size false) a { w with drawn:=w.drawn+1 }:=by
 obtain⟨rem,st',h1,h2,⟨o,ho,hw,hop⟩,h4,acc,h5,h6⟩:=DOps.trace h
 have hlen:rem.length=k:=by have:=congrArg List.length h2;simpa using this
 have hfuel:ops.size=k+(ops.size - k):=by omega
 rw[show wpAny P .any ops (Post X n (NQ Q)) ops.size=wpAny P .any ops (Post X n (NQ Q)) (k+(ops.size - k)) from congrArg _ hfuel]
 refine YcQ (X:=X) hI hd h4 h5 hcut (f2:=ops.size - k) ?_ k hlen h1 (hinv.heap rfl rfl rfl rfl) hn (by simp) (fun i=>?_) (fun x hx=>?_) ?_ (fun x hx=>h6 _ (.inl (Ye8.2 ⟨x,hx,rfl⟩))) (fun j oj hoj hj=>?_)
 ·intro listed a w F ρ hinv hn hsz hrem
  have hclosed:∀ (j:Nat) (o:Oper),ops[j]?=some o→¬ listed[j]?=some false→∀ e∈o.after,Region.binds .any e=true→¬ listed[e.on]?=some false:=by
   intro j oj hoj hj e hee hb hm
   have hlt:=Y2e h4 hoj hee hb
   have h7:=(hrem e.on).1 hm
   exact hj ((hrem j).2 ⟨by omega,(Yeh.1 hoj).1⟩)
  rw[show ops.size - k=(ops.size - (k+1))+1 by omega]
  refine⟨fun hnil=>?_,fun i hi=>?_⟩
  ·exfalso
   have hkf:listed[k]?=some false:=(hrem k).2 ⟨Ye2 _,hk⟩
   have:k∈Region.ready .any ops listed:=by
    refine mem_ready.2 ⟨by rw[Ye7,hkf];rfl,_,ho,fun e hee hb=>?_⟩
    have hlt:=Y2e h4 ho hee hb
    have hno:¬ listed[e.on]?=some false:=fun hm=>by have:=(hrem e.on).1 hm;omega
    have hlt2:e.on<listed.size:=by omega
    rw[Ye7,YdL hlt2]
    simp only[YeA]
    cases hbb:listed[e.on]'hlt2 with
    | true=>rfl
    | false=>exact absurd (by rw[YdL hlt2,hbb]) hno
   rw[hnil] at this
   cases this
  ·obtain⟨g1,oi,hoi,hdep⟩:=mem_ready.1 hi
   have hlti:i<ops.size:=(Yeh.1 hoi).1
   have hlt2:i<listed.size:=by omega
   have hif:listed[i]?=some false:=by
    rw[Ye7,YdL hlt2] at g1
    rw[YdL hlt2]
    simpa using g1
   have hik:i=k:=by
    have h7:=((hrem i).1 hif).1
    rcases Nat.lt_or_eq_of_le h7 with h8 | h8
    ·exfalso
     have hb:=Yd3 hcut hlti h8
     have hdep':∀ e∈oi.after,Region.binds .any e=true→¬ listed[e.on]?=some false:=by
      intro e hee hb hm
      have h3:=hdep e hee hb
      rw[Ye7,hm] at h3
      cases h3
     exact Y2a h4 (fun k=>listed[k]?=some false) hclosed i hoi hdep' hk hb ((hrem k).2 ⟨Ye2 _,hk⟩)
    ·exact h8.symm
   subst hik
   rw[ho] at hoi
   injection hoi with hoi
   subst hoi
   have hdst:∀ i,o.dst=some i→i<a.tmps.size:=by
    intro i hi
    have:=hd _ _ ho
    unfold dstOK at this
    rw[hi] at this
    rw[hn]
    exact of_decide_eq_true this
   have hsz2:∀ v,(a.put o.dst v).tmps.size=n:=by
    intro v
    cases o.dst <;> simp[Act.put,hn]
   unfold wpOp
   simp only[ho]
   rw[Y1m hinv hw]
   simp only[if_true]
   refine .inl (WpOp.sound hI hop hinv fun v m val w' F' ρ' hK hI' hv=>?_)
   obtain⟨rem2,st2,r1,r2,r3,r4,acc2,r5,r6⟩:=DOps.trace hK
   have hlen2:rem2.length=ops.size - (i+1):=by have:=congrArg List.length r2;simpa using this
   have hmem2:∀ j,j∈rem2.map (·.1)↔i+1≤j∧j<ops.size:=by
    intro j
    rw[r2,List.mem_range'_1]
    omega
   refine Y4Z (Q:=NQ Q) hI hd r3 r4 r5 (ops.size - (i+1)) hlen2 r1 (hI'.put hdst hv) (hsz2 _) (by simp[hsz]) (fun j=>?_) ?_ (fun x hx=>r6 _ (.inl (Ye8.2 ⟨x,hx,rfl⟩))) (fun j oj hoj hj e hee hb hm=>?_)
   ·rw[hmem2]
    by_cases hij:i=j
    ·subst hij
     rw[Yes hlt2]
     exact⟨fun h=>(by cases h),fun h=>by omega⟩
    ·rw[Yeu hij,hrem j]
     omega
   ·have:(rem2.map (·.1)).Pairwise (·<·):=by rw[r2];exact List.pairwise_lt_range'
    exact List.pairwise_map.1 this
   ·have hlt:=Y2e r4 hoj hee hb
    have h7:=(hmem2 e.on).1 hm
    exact hj ((hmem2 j).2 ⟨by omega,(Yeh.1 hoj).1⟩)
 ·rw[h2,YeI]
  constructor
  ·intro hi
   have:=(Yeh.1 hi).1
   simp at this
   omega
  ·intro hi
   rw[YdL (by simp;omega)]
   simp
 ·have:x.1∈List.range k:=by rw[← h2];exact Ye8.2 ⟨x,hx,rfl⟩
  exact YeI.1 this
 ·have:(rem.map (·.1)).Pairwise (·<·):=by rw[h2];exact List.pairwise_lt_range
  exact List.pairwise_map.1 this
 ·exfalso
  refine hj ?_
  have:=(Yeh.1 hoj).1
  rw[YdL (by simp;omega)]
  simp
def CutD (P:Program)(I:InlP)(nb k:Nat)(ops:Array Oper)(Q:St→Prop)(st:St): Prop :=
 k<ops.size∧cutOK ops k=true∧DOps P nb ops (fun s1=>∃ o,ops[k]?=some o∧wantedL ops o s1.ts=some true∧WpOp P I nb o s1 fun v m=>DOps P nb ops Q (List.range' (k+1) (ops.size - (k+1))) [] ⟨putS s1.ts o.dst v,m⟩) (List.range k) [] st
theorem CutD.sem {I:InlP}{nb k:Nat}{ops:Array Oper}{Q:St→Prop}{st:St}(h:CutD P I nb k ops Q st): DSem P I ops Q st:=by
 intro X n id a w F ρ hmix hI hd hinv hn
 exact wp_region_any hmix (Y7u hI hd h.1 h.2.1 h.2.2 hinv hn)
theorem CutD.alt {I:InlP}{nb kA kB i j:Nat}{ops opsA opsB:Array Oper}{τA τB:Nat→Nat}{Q:St→Prop}{st:St}(hA:Alt ops opsA τA i j)(hB:Alt ops opsB τB j i)(hij:i≠j)(hi:i<ops.size)(hj:j<ops.size)(h1:CutD P I nb kA opsA Q st)(h2:CutD P I nb kB opsB Q st): DSem P I ops Q st:=by
 intro X n id a w F ρ hmix hI hd hinv hn
 exact Y2S hmix hA hB hij hi hj (Y7u hI (hA.dst hd) h1.1 h1.2.1 h1.2.2 hinv hn) (Y7u hI (hB.dst hd) h2.1 h2.2.1 h2.2.2 hinv hn)
end
section
variable {P:Program}{I:InlP}{nb:Nat}{Q:Ex→St→Prop}{st:St}
theorem GL.opsD' {K:St→Prop}: ∀ {ops:Array Oper}{l:List Oper}{k:Nat}{acc:List (Nat × List Nat × List Nat)}{st:St},(∀ i,i<l.length→l[i]?=ops[k+i]?)→GL P I nb ops K true l k acc st→DOps P nb ops K (List.range' k l.length) acc st
 | _,[],_,_,_,_,h=>⟨h.1 rfl,h.2⟩
 | ops,o::r,k,acc,st,hi,h=>by
  have h0:ops[k]?=some o:=by simpa using (hi 0 (by simp)).symm
  have hr:∀ i,i<r.length→r[i]?=ops[k+1+i]?:=fun i hl=>by have:=hi (i+1) (by simp;omega);simpa [Yf0,Nat.add_comm 1 i] using this
  rw[Yen,YfR]
  simp only[DOps,h0,GL] at h ⊢
  cases hw:wantedL ops o st.ts with
  | none=>rw[hw] at h;exact h.elim
  | some b =>
   rw[hw] at h
   cases b with
   | true =>
    obtain⟨dd,h1,h2⟩:=h
    exact⟨dd,h1,GL.opsD' hr h2⟩
   | false=>exact GL.opsD' hr h
theorem CutD.of {K:St→Prop}{ops:Array Oper}(hI:InlM I){k:Nat}(hk:k<ops.size)(hg:ops[k].guard=none)(hcut:cutOK ops k=true)
  (h:GL P I nb ops (fun s1=>GL P I nb ops (fun s2=>GL P I nb ops K true (ops.toList.drop (k+1)) (k+1) [] s2) false [ops[k]] k [] s1) true (ops.toList.take k) 0 [] st):CutD P I nb k ops K st:=by
 refine⟨hk,hcut,?_⟩
 have h1:=GL.opsD' (ops:=ops) (k:=0) (fun i hi=>by rw[YeU,if_pos (by simp at hi;omega)];simp) h
 have e1:(ops.toList.take k).length=k:=by simp;omega
 rw[e1,← Yfq] at h1
 refine DOps.mono (fun s1 hs=>?_) h1
 have ho:ops[k]?=some ops[k]:=YdL hk
 have hw:wantedL ops ops[k] s1.ts=some true:=by unfold wantedL;rw[hg]
 simp only[GL,hw] at hs
 refine⟨_,ho,hw,WpOp.mono hI hs fun v m hv=>?_⟩
 have g2:=GL.opsD' (ops:=ops) (k:=k+1) (fun i hi=>by rw[Yf3];simp) hv.2
 rw[show (ops.toList.drop (k+1)).length=ops.size - (k+1) by simp] at g2
 exact g2
theorem Wp.regCut {id:Nat}{ops:Array Oper}(hI:InlM I)(k:Nat)(hk:k<ops.size)(hg:ops[k].guard=none)(hcut:cutOK ops k=true)
  (h:GL P I nb ops (fun s1=>GL P I nb ops (fun s2=>GL P I nb ops (Q .normal) true (ops.toList.drop (k+1)) (k+1) [] s2) false [ops[k]] k [] s1) true (ops.toList.take k) 0 [] st):Wp P I nb (.region id ops true) Q st :=
 ⟨st,Weak.refl st,.inr (CutD.of hI hk hg hcut h).sem⟩
theorem Wp.regAltCut {id:Nat}{ops:Array Oper}(hI:InlM I)(i j kA kB:Nat)(σ τ:Nat→Nat)(hij:i≠j)(hi:i<ops.size)(hj:j<ops.size)(ha:ordOK ops (fun k=>k) (fun k=>k)=true)(hb:ordOK ops σ τ=true)
  (hkA:kA<(ordT ops (fun k=>k) (fun k=>k) i j).size) (hgA:(ordT ops (fun k=>k) (fun k=>k) i j)[kA].guard=none) (hcA:cutOK (ordT ops (fun k=>k) (fun k=>k) i j) kA=true)
  (hkB:kB<(ordT ops σ τ j i).size) (hgB:(ordT ops σ τ j i)[kB].guard=none) (hcB:cutOK (ordT ops σ τ j i) kB=true)
  (h1:GL P I nb (ordT ops (fun k=>k) (fun k=>k) i j) (fun s1=>GL P I nb (ordT ops (fun k=>k) (fun k=>k) i j) (fun s2=>GL P I nb (ordT ops (fun k=>k) (fun k=>k) i j) (Q .normal) true ((ordT ops (fun k=>k) (fun k=>k) i j).toList.drop (kA+1)) (kA+1) [] s2) false [(ordT ops (fun k=>k) (fun k=>k) i j)[kA]] kA [] s1) true ((ordT ops (fun k=>k) (fun k=>k) i j).toList.take kA) 0 [] st)
  (h2:GL P I nb (ordT ops σ τ j i) (fun s1=>GL P I nb (ordT ops σ τ j i) (fun s2=>GL P I nb (ordT ops σ τ j i) (Q .normal) true ((ordT ops σ τ j i).toList.drop (kB+1)) (kB+1) [] s2) false [(ordT ops σ τ j i)[kB]] kB [] s1) true ((ordT ops σ τ j i).toList.take kB) 0 [] st):Wp P I nb (.region id ops true) Q st :=
 ⟨st,Weak.refl st,.inr (CutD.alt (Y42 ha) (Y42 hb) hij hi hj (CutD.of hI hkA hgA hcA h1) (CutD.of hI hkB hgB hcB h2))⟩
def YgC := @Wp.regAltCut
end
end Go.Proofs.Ytoadnomjbibcgaa.Mv
