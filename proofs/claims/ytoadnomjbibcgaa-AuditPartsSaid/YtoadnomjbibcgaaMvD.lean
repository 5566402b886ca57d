/- The calculus by which the program is walked, and its plain laws: part D. -/
import Derived.Test.YtoadnomjbibcgaaMvC
set_option linter.all false
namespace Go.Proofs.Ytoadnomjbibcgaa.Mv
theorem YbK (z:List Int)(k:Int): carOk (carOf z k)=true:=by
 have h0:0≤(carOf z k).c0∧(carOf z k).c0≤60:=nth4 (Q:=fun n=>0≤n∧n≤60) (by decide) (by decide) (by decide) (by decide) (within4 _)
 have h2:60≤(carOf z k).c2∧(carOf z k).c2≤1000:=nth4 (Q:=fun n=>60≤n∧n≤1000) (by decide) (by decide) (by decide) (by decide) (within4 _)
 have h1:=Y03 (a:=(num z (1+k)).tdiv 4) (n:=9) (by decide)
 have e1:(carOf z k).c1=within ((num z (1+k)).tdiv 4) 9:=rfl
 unfold carOk
 simp only[Ye0,Y0h]
 omega
def StopG (s:Stop): Prop:=(-20≤s.s0∧s.s0≤20)∧(0≤s.s2∧s.s2≤1000)∧(0≤s.s1∧s.s1≤s.s2)∧(0≤s.s3∧s.s3≤1000)
theorem YbC (z:List Int)(k:Int): StopG (stopOf z k):=by
 have h1:=Y03 (a:=(num z (5+k)).tdiv 9) (n:=4) (by decide)
 have h2:=Y03 (a:=num z (5+k)) (n:=8) (by decide)
 have h3:=Y03 (a:=(num z (5+k)).tdiv 8) (n:=30) (by decide)
 have h4:=Y03 (a:=(num z (5+k)).tdiv 240) (n:=6) (by decide)
 have h5:8≤([900,60,25,8]:List Int).getD (within ((num z (5+k)).tdiv 7) 4).toNat default∧([900,60,25,8]:List Int).getD (within ((num z (5+k)).tdiv 7) 4).toNat default≤900:=nth4 (Q:=fun n:Int=>8≤n∧n≤900) (by decide) (by decide) (by decide) (by decide) (within4 _)
 refine⟨?_,?_,?_,?_⟩ <;> simp only[stopOf]
 ·split <;> omega
 ·unfold imin;split <;> omega
 ·unfold imin;split <;> omega
 ·omega
theorem Yce {l:List Stop}(h:∀ a,a<l.length→StopG (l.getD a default))(j:Nat){q:Int}(h1:-20≤q)(h2:q≤20): ∀ a,a<(setQ l j q).length→StopG ((setQ l j q).getD a default):=by
 intro a ha
 rw[Y1L] at ha
 unfold setQ
 rw[Y0R _ _ _ _ ha]
 by_cases e:j=a
 ·subst e
  rw[if_pos rfl]
  obtain⟨-,h3⟩:=h j ha
  exact⟨⟨h1,h2⟩,h3⟩
 ·rw[if_neg e]
  exact h a ha
theorem Y8p {z:List Int}{l:List Stop}(h:∀ a,a<l.length→StopG (l.getD a default)): ∀ k a,a<(stopsK z l k).length→StopG ((stopsK z l k).getD a default)
 | 0=>h
 | k+1=>by
  have hq:=Y03 (a:=num z (16+(k:Int))) (n:=9) (by decide)
  have e:pairQ z k=within (num z (16+(k:Int))) 9:=rfl
  exact Yce (Yce (Y8p h k) _ (by omega) (by omega)) _ (by omega) (by omega)
theorem Yat (z:List Int): ∀ p∈(instOf z).pairs,0≤(stopAt (instOf z) p.p0).s0:=by
 have h:=Y23 z
 have hs:=Y1B z
 have hst:=Y1a z
 have e:(instOf z).pairs=pairsK z (nPairs z):=rfl
 have el:(instOf z).stops=stopsK z (stops0 z (nStops z)) (nPairs z):=rfl
 have e0:pairOf z 0=⟨2,1⟩∨pairOf z 0=⟨1,2⟩:=by unfold pairOf;split <;> simp
 have e1:pairOf z 1=⟨4,3⟩∨pairOf z 1=⟨3,4⟩:=by unfold pairOf;split <;> simp
 have hl0:=Y0o z (nStops z)
 have hq0:=Y03 (a:=num z (16+0)) (n:=9) (by decide)
 have hq1:=Y03 (a:=num z (16+1)) (n:=9) (by decide)
 have g0:pairQ z 0=within (num z (16+0)) 9:=rfl
 have g1:pairQ z 1=within (num z (16+1)) 9:=rfl
 rw[← g0] at hq0
 rw[← g1] at hq1
 unfold stopAt
 rw[e,el]
 generalize nPairs z=n at h
 generalize stops0 z (nStops z)=l at hl0
 match n,h with
 | 0,_=>intro p hp;simp[pairsK] at hp
 | 1,_ =>
  have e2:pairsK z 1=[pairOf z 0]:=rfl
  have e3:stopsK z l 1=setQ (setQ l ((pairOf z 0).p0 - 1).toNat (pairQ z 0)) ((pairOf z 0).p1 - 1).toNat (-(pairQ z 0)):=rfl
  intro p hp
  rw[e2,Yej] at hp
  subst hp
  rw[e3]
  have g1:∀ (j a:Nat) (q:Int) (l':List Stop),a<l'.length→((setQ l' j q).getD a default).s0=if j=a then q else (l'.getD a default).s0:=fun j a q l'=>Y5Q l' j a q
  rcases e0 with e0 | e0 <;> rw[e0] <;> simp only[g1,Y1L,hl0,show ((2:Int) - 1).toNat=1 from rfl,show ((1:Int) - 1).toNat=0 from rfl,show 0<nStops z by omega,show 1<nStops z by omega] <;> simp <;> omega
 | 2,h =>
  have e2:pairsK z 2=[pairOf z 0,pairOf z 1]:=rfl
  have e3:stopsK z l 2=setQ (setQ (setQ (setQ l ((pairOf z 0).p0 - 1).toNat (pairQ z 0)) ((pairOf z 0).p1 - 1).toNat (-(pairQ z 0))) ((pairOf z 1).p0 - 1).toNat (pairQ z 1)) ((pairOf z 1).p1 - 1).toNat (-(pairQ z 1)):=rfl
  intro p hp
  rw[e2] at hp
  have hp2:p=pairOf z 0∨p=pairOf z 1:=by simpa using hp
  rw[e3]
  have g1:∀ (j a:Nat) (q:Int) (l':List Stop),a<l'.length→((setQ l' j q).getD a default).s0=if j=a then q else (l'.getD a default).s0:=fun j a q l'=>Y5Q l' j a q
  rcases hp2 with rfl | rfl <;> rcases e0 with e0 | e0 <;> rcases e1 with e1 | e1 <;> rw[e0,e1] <;> simp only[g1,Y1L,hl0,show ((2:Int) - 1).toNat=1 from rfl,show ((1:Int) - 1).toNat=0 from rfl,show ((3:Int) - 1).toNat=2 from rfl,show ((4:Int) - 1).toNat=3 from rfl,show 0<nStops z by omega,show 1<nStops z by omega,show 2<nStops z by omega,show 3<nStops z by omega] <;> simp <;> omega
 | n+3,h=>omega
theorem Y7A {i:Inst}{p:Two}{h:List Int}(h0:between p.p0 1 i.stops.length=true)(n0:p.p0∉h)(h1:between p.p1 1 i.stops.length=true)(n1:p.p1∉addK h p.p0)(q:0≤(stopAt i p.p0).s0)(q2:(stopAt i p.p0).s0+(stopAt i p.p1).s0=0): pairOk i p h=some (addK (addK h p.p0) p.p1):=by
 unfold pairOk had1
 rw[if_pos ⟨h0,n0⟩]
 simp only
 rw[if_pos ⟨h1,n1⟩]
 simp only
 rw[if_neg (by omega)]
theorem Y61 (z:List Int): pairsGo (instOf z) (instOf z).pairs []=true:=by
 have h:=Y23 z
 have hsd:=Y9E z
 have hpk:=Yat z
 have e:(instOf z).pairs=pairsK z (nPairs z):=rfl
 have e0:pairOf z 0=⟨2,1⟩∨pairOf z 0=⟨1,2⟩:=by unfold pairOf;split <;> simp
 have e1:pairOf z 1=⟨4,3⟩∨pairOf z 1=⟨3,4⟩:=by unfold pairOf;split <;> simp
 have bt:∀ {x:Int},isStop (instOf z) x=true→between x 1 (instOf z).stops.length=true:=by
  intro x hx
  rw[Y0h]
  simp only[isStop,Ye0,decide_eq_true_eq] at hx
  omega
 unfold Sd at hsd
 rw[e] at hsd hpk ⊢
 generalize nPairs z=n at h hsd hpk
 match n,h with
 | 0,_=>rfl
 | 1,_ =>
  have e2:pairsK z 1=[pairOf z 0]:=rfl
  rw[e2] at hsd hpk ⊢
  obtain⟨a1,a2,a3⟩:=hsd _ (Yej.2 rfl)
  have a4:=hpk _ (Yej.2 rfl)
  rw[pairsGo,Y7A (bt a1) (by simp) (bt a2) (by rw[Y0I];rcases e0 with e0 | e0 <;> rw[e0] <;> simp) a4 a3]
  rfl
 | 2,_ =>
  have e2:pairsK z 2=[pairOf z 0,pairOf z 1]:=rfl
  rw[e2] at hsd hpk ⊢
  obtain⟨a1,a2,a3⟩:=hsd (pairOf z 0) (by simp)
  have a4:=hpk (pairOf z 0) (by simp)
  obtain⟨b1,b2,b3⟩:=hsd (pairOf z 1) (by simp)
  have b4:=hpk (pairOf z 1) (by simp)
  rw[pairsGo,Y7A (bt a1) (by simp) (bt a2) (by rw[Y0I];rcases e0 with e0 | e0 <;> rw[e0] <;> simp) a4 a3]
  simp only
  rw[pairsGo,Y7A (bt b1) (by rw[Y0I,Y0I];rcases e0 with e0 | e0 <;> rcases e1 with e1 | e1 <;> rw[e0,e1] <;> simp) (bt b2) (by rw[Y0I,Y0I,Y0I];rcases e0 with e0 | e0 <;> rcases e1 with e1 | e1 <;> rw[e0,e1] <;> simp) b4 b3]
  rfl
 | n+3,h=>omega
theorem Y8L {m:Nat}{R:List (List Int)}(h:∀ a,a<R.length→rowOk m a (R.getD a default)=true): ∀ (n a:Nat),R.length - a=n→rowsGo m a (R.drop a)=true:=by
 intro n
 induction n with
 | zero=>exact fun a ha=>Y5p (by omega)
 | succ n ih=>exact fun a ha=>by rw[Y7t (by omega) (h a (by omega))];exact ih (a+1) (by omega)
theorem Y5h (z:List Int): checkB (instOf z)=true:=by
 have h1:=Y3R z
 have h2:=Y1B z
 have hq:=YaW z
 unfold checkB
 simp only[Ye0,Y0h,decide_eq_true_eq,Yed]
 refine⟨?_,?_,fun c hc=>?_,fun s hs=>?_,Y61 z,?_⟩
 ·rw[Y1W];omega
 ·rw[Y1a];omega
 ·obtain⟨k,-,rfl⟩:=Ye8.1 (show c∈(List.range (nCars z)).map fun k:Nat=>carOf z (k:Int) from hc)
  exact YbK z _
 ·obtain⟨k,hk,rfl⟩:=YeW hs
  have hg:StopG ((instOf z).stops.getD k default):=by
   refine Y8p (z:=z) (fun a ha=>?_) (nPairs z) k hk
   rw[Y0o] at ha
   have:(stops0 z (nStops z)).getD a default=stopOf z a:=by simp[stops0,ha]
   rw[this]
   exact YbC z a
  rw[Ye9,YdO hk,YeA] at hg
  unfold stopOk
  simp only[Ye0,Y0h]
  exact hg
 ·unfold travelOk
  rw[Ye0,decide_eq_true_eq,Y1a]
  refine⟨Y1N z,?_⟩
  have:=Y8L (m:=nStops z+1) (R:=(instOf z).travel) (fun a ha=>?_) _ 0 rfl
  ·exact this
  ·rw[Y1N] at ha
   unfold rowOk
   simp only[Ye0,decide_eq_true_eq,Yed,Y0h]
   refine⟨hq.row a ha,hq.diag a ha,fun n hn=>?_⟩
   obtain⟨k,hk,rfl⟩:=YeW hn
   have hk2:=hk
   rw[hq.row a ha] at hk2
   have hc:=hq.cell a k ha hk2
   rw[Ye9 (l:=(instOf z).travel.getD a default),YdO hk,YeA] at hc
   omega
theorem Wp.loopU {P:Program}{I:InlP}(hI:InlM I){nb:Nat}{c:Code}{Q:Ex→St→Prop}{st:St}(h:Wp P I nb c (thenX (fun s=>Wp P I nb (.loop c) Q s) Q) st): Wp P I nb (.loop c) Q st:=fun X hw hX=>hX st (Wp.mono hI (fun e s hs=>by
 cases e with
 | normal=>exact (show Wp P I nb (.loop c) Q s from hs) X hw hX
 | exit id=>exact hs
 | ret=>exact hs) h)
theorem Y4N {P:Program}{id:Nat}{ops opsA opsB opsC:Array Oper}{τA τB τC:Nat→Nat}{i j k:Nat}{Q:Exit→Act→World→Prop}{a:Act}{w:World}(hm:P.follows .mixedOrders=true)(hA:AltE ops opsA τA [(i,j),(i,k)])(hB:AltE ops opsB τB [(j,i),(i,k)])(hC:AltE ops opsC τC [(k,i)])(hij:i≠j)(hik:i≠k)(hi:i<ops.size)(hj:j<ops.size)(hk:k<ops.size)
  (h1:wpAny P .any opsA Q opsA.size (Array.replicate opsA.size false) a { w with drawn:=w.drawn+1 }) (h2:wpAny P .any opsB Q opsB.size (Array.replicate opsB.size false) a { w with drawn:=w.drawn+1 }) (h3:wpAny P .any opsC Q opsC.size (Array.replicate opsC.size false) a { w with drawn:=w.drawn+1 }):(Code.region id ops true).wp P Q a w :=
 wp_region_draw fun t=>by
  have hrep:∀ {τ:Nat→Nat}{ops':Array Oper}{E:List (Nat × Nat)},AltE ops ops' τ E→∀ k,k<ops.size→(Array.replicate ops.size false)[τ k]?=(Array.replicate ops.size false)[k]?:=by
   intro τ ops' E h k hk
   obtain⟨o',ho',-⟩:=h.like k _ (YdL hk)
   have:=(Yeh.1 ho').1
   rw[h.size] at this
   rw[YdL (by simpa using this),YdL (by simpa using hk)]
   simp
  simp only[Region.schedule,hm,Bool.true_or,if_true]
  rw[hA.size] at h1
  rw[hB.size] at h2
  rw[hC.size] at h3
  rcases Y4M (L:=Region.linearise.go .any ops ops.size t (Array.replicate ops.size false) []) hik with hb | hb
  ·rcases Y4M (L:=Region.linearise.go .any ops ops.size t (Array.replicate ops.size false) []) hij with hb2 | hb2
   ·refine hA.go (fun q hq=>?_) ops.size t _ _ a _ (by simp) (by simp) (hrep hA) (fun q hq p s e=>.inl ?_) h1
    ·simp only[Yep,Yfv,or_false] at hq
     rcases hq with rfl | rfl <;> exact hi
    ·simp only[Yep,Yfv,or_false] at hq
     rcases hq with rfl | rfl
     ·exact hb2 p s e
     ·exact hb p s e
   ·refine hB.go (fun q hq=>?_) ops.size t _ _ a _ (by simp) (by simp) (hrep hB) (fun q hq p s e=>.inl ?_) h2
    ·simp only[Yep,Yfv,or_false] at hq
     rcases hq with rfl | rfl
     ·exact hj
     ·exact hi
    ·simp only[Yep,Yfv,or_false] at hq
     rcases hq with rfl | rfl
     ·exact hb2 p s e
     ·exact hb p s e
  ·refine hC.go (fun q hq=>?_) ops.size t _ _ a _ (by simp) (by simp) (hrep hC) (fun q hq p s e=>.inl ?_) h3
   ·rw[Yej.1 hq];exact hk
   ·obtain rfl:=Yej.1 hq
    exact hb p s e
theorem AltE.dst {ops ops':Array Oper}{τ:Nat→Nat}{E:List (Nat × Nat)}{n:Nat}(h:AltE ops ops' τ E)(hd:∀ (i:Nat) o,ops[i]?=some o→dstOK n o=true): ∀ (i:Nat) o,ops'[i]?=some o→dstOK n o=true:=by
 intro k' o' ho'
 obtain⟨k,hk,rfl⟩:=h.surj k' (Yeh.1 ho').1
 obtain⟨o2,ho2,hl,-⟩:=h.like k _ (YdL hk)
 rw[ho'] at ho2
 injection ho2 with ho2
 subst ho2
 have:=hd k _ (YdL hk)
 unfold dstOK at this ⊢
 rw[hl.dst]
 exact this
section
variable {P:Program}{I:InlP}{nb:Nat}{Q:Ex→St→Prop}{st:St}
theorem Wp.regAlt3 {id:Nat}{ops:Array Oper}(i j k:Nat)(σB τB σC τC:Nat→Nat)(hij:i≠j)(hik:i≠k)(hi:i<ops.size)(hj:j<ops.size)(hk:k<ops.size)(ha:ordOK ops (fun k=>k) (fun k=>k)=true)(hb:ordOK ops σB τB=true)(hc:ordOK ops σC τC=true)
  (h1:GL P I nb (ordE ops (fun k=>k) (fun k=>k) [(i,j),(i,k)]) (Q .normal) true (ordE ops (fun k=>k) (fun k=>k) [(i,j),(i,k)]).toList 0 [] st) (h2:GL P I nb (ordE ops σB τB [(j,i),(i,k)]) (Q .normal) true (ordE ops σB τB [(j,i),(i,k)]).toList 0 [] st) (h3:GL P I nb (ordE ops σC τC [(k,i)]) (Q .normal) true (ordE ops σC τC [(k,i)]).toList 0 [] st):Wp P I nb (.region id ops true) Q st:=by
 have g1:=GL.opsD (k:=0) (fun i=>by simp) h1
 have g2:=GL.opsD (k:=0) (fun i=>by simp) h2
 have g3:=GL.opsD (k:=0) (fun i=>by simp) h3
 rw[← Yfq] at g1 g2 g3
 have f1:DOps P nb (ordE ops (fun k=>k) (fun k=>k) [(i,j),(i,k)]) (Q .normal) (List.range (ordE ops (fun k=>k) (fun k=>k) [(i,j),(i,k)]).size) [] st:=by simpa using g1
 have f2:DOps P nb (ordE ops σB τB [(j,i),(i,k)]) (Q .normal) (List.range (ordE ops σB τB [(j,i),(i,k)]).size) [] st:=by simpa using g2
 have f3:DOps P nb (ordE ops σC τC [(k,i)]) (Q .normal) (List.range (ordE ops σC τC [(k,i)]).size) [] st:=by simpa using g3
 refine⟨st,Weak.refl st,.inr fun X n id a w F ρ hmix hI hd hinv hn=>?_⟩
 exact Y4N hmix (Y1M ha) (Y1M hb) (Y1M hc) hij hik hi hj hk (DOps.any (Q:=NQ (Q .normal)) hI ((Y1M ha).dst hd) f1 hinv hn) (DOps.any (Q:=NQ (Q .normal)) hI ((Y1M hb).dst hd) f2 hinv hn) (DOps.any (Q:=NQ (Q .normal)) hI ((Y1M hc).dst hd) f3 hinv hn)
end
end Go.Proofs.Ytoadnomjbibcgaa.Mv
