/- The walks of the program, part A. -/
import Derived.Test.YtoadnomjbibcgaaProg
import Derived.KernelRfl
import Derived.Test.YtoadnomjbibcgaaMvD
set_option linter.all false
set_option maxRecDepth 100000
set_option maxHeartbeats 4000000
namespace Go.Proofs.Ytoadnomjbibcgaa
open Go.Proofs Mv
/-- What is left to show. -/
structure W (q:Prop):Prop where
  out:q
section
variable {P:Program}{I:InlP}{nb:Nat}{Q:Ex→St→Prop}{st:St}{c:Operand}{x y:Code}
theorem cD {A:Prop}{d:Decidable A}(h1:A→Wp P I nb x Q st)(h2:¬A→Wp P I nb y Q st)(h:evalO st.ts c=.bool (decide A):=by rfl): Wp P I nb (.cond c x y) Q st:=.condI h (fun e=>h1 (of_decide_eq_true e)) fun e=>h2 (of_decide_eq_false e)
theorem cB {a b:Int}(h1:a≠b→Wp P I nb x Q st)(h2:a=b→Wp P I nb y Q st)(h:evalO st.ts c=.bool (a != b):=by rfl): Wp P I nb (.cond c x y) Q st:=.condI h (fun e=>h1 (Y0H e)) fun e=>h2 (Y0s e)
end
theorem lessA {f g:Slots}{m:Mem}(h:LessS f g:=by repeat' first | exact Yg0 _ | refine YfV ?_ rfl): Weak ⟨f,m⟩ ⟨g,m⟩:=YfZ h m
theorem hasA {ts:Slots}{m:Mem}{e:List (Nat × Box)}(h:Has m e:=by repeat' first | exact Yg3 | refine YfW rfl ?_): St.mk ts m=St.mk ts (effM m e):=congrArg (St.mk ts) (Y01 h).symm
variable {p q:Prop}
theorem Ve (k:q)(h:W q→p:=by intro h;refine Wp.seqI ?_;exact h.1): p:=h ⟨k⟩
theorem Vf (k:q)(h:W q→p:=by intro h;refine Wp.regI YfX ?_;exact h.1): p:=h ⟨k⟩
theorem Vt (k:q)(h:W q→p:=by intro h;refine GL.assign YfX (by conv=>lhs;whnf) ?_;exact h.1): p:=h ⟨k⟩
theorem Vq0 (k:q)(h:W q→p:=by intro h;refine GL.doneF ?_;exact h.1): p:=h ⟨k⟩
theorem VqD (k:q)(h:W q→p:=by intro h;refine goOn ?_;exact h.1): p:=h ⟨k⟩
theorem Va (k:q)(h:W q→p:=by intro h;refine GL.move YfX (by conv=>lhs;whnf) ?_;exact h.1): p:=h ⟨k⟩
theorem Vr0 (k:q)(h:W q→p:=by intro h;refine GL.lenF YfX rfl rfl (Y00 _ _) ?_;exact h.1): p:=h ⟨k⟩
theorem Vu (k:q)(h:W q→p:=by intro h;refine GL.bin YfX rfl ?_;exact h.1): p:=h ⟨k⟩
theorem VrD (k:q)(h:W q→p:=by intro h;refine Wp.retI ?_;exact h.1): p:=h ⟨k⟩
theorem VlC (k:q)(h:W q→p:=by intro h;refine thenX.ret ?_;exact h.1): p:=h ⟨k⟩
theorem Vu4 (k:q)(h:W q→p:=by intro h;refine RetX.ret ?_;exact h.1): p:=h ⟨k⟩
theorem VjO (k:q)(h:W q→p:=by intro h;refine⟨_,_,_,_,.cons (.tmp rfl) .nil,.frz (.pure rfl),Yec,by simp,?_⟩;exact h.1): p:=h ⟨k⟩
theorem Vh0 (k:q)(h:W q→p:=by intro h;refine Wp.skipI ?_;exact h.1): p:=h ⟨k⟩
theorem Vo0 (k:q)(h:W q→p:=by intro h;refine Wp.blockI ?_;exact h.1): p:=h ⟨k⟩
theorem VkI (k:q)(h:W q→p:=by intro h;refine Yg8 YfX (α:=Nat) (fun i st=>(i≤l.length∧∀ j,j<i→l.getD j default=l'.getD j default)∧∃ m0,st=⟨(updS (updS (updS (updS (fun _=>LV.undef) 0 (.sl (em ni l))) 1 (.sl (em ni l'))) 12 (.int .i64 (l.length:Int))) 13 (.int .i64 (i:Int))),effM m0 []⟩) (fun i=>l.length - i) 0 ⟨_,lessA,⟨by omega,fun j h=>by omega⟩,_,hasA⟩ ?_;exact h.1): p:=h ⟨k⟩
theorem Vi0 (k:q)(h:W q→p:=by intro h;refine Wp.regD ?_;exact h.1): p:=h ⟨k⟩
theorem VtE (k:q)(h:W q→p:=by intro h;refine Ygo YfX (sz:=1) rfl rfl rfl rfl (by omega) (by (rw[Y00];omega)) (by intro e he;obtain⟨a,-,rfl⟩:=Ye8.1 he;rfl) (by with_reducible exact YeT _) ?_;exact h.1): p:=h ⟨k⟩
theorem Vh4 (k:q)(h:W q→p:=by intro h;refine Ygq YfX rfl rfl (Y08 (by omega)) rfl ?_;exact h.1): p:=h ⟨k⟩
theorem Vp0 (k:q)(h:W q→p:=by intro h;refine GL.doneT (by kernel_rfl) ?_;exact h.1): p:=h ⟨k⟩
theorem VlI (k:q)(h:W q→p:=by intro h;refine blockX.ret ?_;exact h.1): p:=h ⟨k⟩
theorem Vz5 (k:q)(h:W q→p:=by intro h;refine blockX.normal ?_;exact h.1): p:=h ⟨k⟩
theorem Vv (k:q)(h:W q→p:=by intro h;refine GL.addR YfX rfl rfl (by omega) ?_;exact h.1): p:=h ⟨k⟩
theorem VkO (k:q)(h:W q→p:=by intro h;refine Wp.exitI ?_;exact h.1): p:=h ⟨k⟩
theorem VlO (k:q)(h:W q→p:=by intro h;refine thenX.exit ?_;exact h.1): p:=h ⟨k⟩
theorem VmO (k:q)(h:W q→p:=by intro h;refine blockX.out ?_;exact h.1): p:=h ⟨k⟩
theorem Vo (k:q)(h:W q→p:=by intro h;refine GL.box YfX (by conv=>lhs;whnf) rfl (n:=7) rfl rfl ?_;exact h.1): p:=h ⟨k⟩
theorem Vs0 (k:q)(h:W q→p:=by intro h;refine Ygd YfX (o:=0) rfl rfl rfl rfl (by conv=>lhs;whnf) ?_;exact h.1): p:=h ⟨k⟩
theorem Vh2 (k:q)(h:W q→p:=by intro h;refine Ygr YfX rfl rfl rfl rfl (by simp) rfl rfl ?_;exact h.1): p:=h ⟨k⟩
theorem Vv4 (k:q)(h:W q→p:=by intro h;refine⟨_,_,_,_,.cons (.tmp rfl) (.cons (.tmp rfl) .nil),.tup (.aggc (.frz (.pure rfl)) (.aggc (.frz (.pure rfl)) .aggn)),Yec,by simp,?_⟩;exact h.1): p:=h ⟨k⟩
theorem Vb (k:q)(h:W q→p:=by intro h;refine GL.guardT rfl ?_;exact h.1): p:=h ⟨k⟩
theorem VuE (k:q)(h:W q→p:=by intro h;refine GL.guardF rfl ?_;exact h.1): p:=h ⟨k⟩
theorem Vd3 (k:q)(h:W q→p:=by intro h;refine GL.pick YfX rfl (by conv=>lhs;whnf) ?_;exact h.1): p:=h ⟨k⟩
theorem Vw6 (k:q)(h:W q→p:=by intro h;refine GL.box YfX (by conv=>lhs;whnf) rfl (n:=3) rfl rfl ?_;exact h.1): p:=h ⟨k⟩
theorem Vx6 (k:q)(h:W q→p:=by intro h;refine Yg6 YfX rfl (Frz.aggc (by exact Frz.pure rfl) (Frz.aggc (by exact Frz.pure rfl) (Frz.aggc (by exact Frz.pure rfl) (Frz.aggn)))) (Y9b _ _ _) rfl rfl (fun _=>rfl) ?_;exact h.1): p:=h ⟨k⟩
theorem Va6 (k:q)(h:W q→p:=by intro h;refine Ygd YfX (o:=2) rfl rfl rfl rfl (by conv=>lhs;whnf) ?_;exact h.1): p:=h ⟨k⟩
theorem Vb6 (k:q)(h:W q→p:=by intro h;refine Ygd YfX (o:=1) rfl rfl rfl rfl (by conv=>lhs;whnf) ?_;exact h.1): p:=h ⟨k⟩
theorem VnO (k:q)(h:W q→p:=by intro h;refine GL.box YfX (by conv=>lhs;whnf) rfl (n:=4) rfl rfl ?_;exact h.1): p:=h ⟨k⟩
theorem Ve3 (k:q)(h:W q→p:=by intro h;refine Ygd YfX (o:=3) rfl rfl rfl rfl (by conv=>lhs;whnf) ?_;exact h.1): p:=h ⟨k⟩
theorem VoO (k:q)(h:W q→p:=by intro h;refine Ygo YfX (sz:=3) rfl rfl rfl rfl (by omega) (by (rw[Y00];omega)) (by intro e he;obtain⟨a,-,rfl⟩:=Ye8.1 he;rfl) (by with_reducible exact YeT _) ?_;exact h.1): p:=h ⟨k⟩
theorem VlN (k:q)(h:W q→p:=by intro h;refine Ygu YfX (n:=3) rfl rfl (Y08 (by omega)) rfl rfl ?_;exact h.1): p:=h ⟨k⟩
theorem VmN (k:q)(h:W q→p:=by intro h;refine YgF YfX (cs:=[LV.int .i64 0,LV.int .i64 0,LV.int .i64 0]) rfl rfl ?_;exact h.1): p:=h ⟨k⟩
theorem VaB (k:q)(h:W q→p:=by intro h;refine Ygy YfX (n:=3) rfl rfl rfl rfl rfl rfl rfl (by conv=>lhs;whnf) rfl rfl rfl ?_;exact h.1): p:=h ⟨k⟩
theorem Vy6 (k:q)(h:W q→p:=by intro h;refine Ygn YfX (n:=3) rfl rfl rfl rfl (by simp) rfl rfl rfl ?_;exact h.1): p:=h ⟨k⟩
theorem Vz6 (k:q)(h:W q→p:=by intro h;refine GL.un YfX rfl ?_;exact h.1): p:=h ⟨k⟩
theorem VmI (k:q)(h:W q→p:=by intro h;refine Ygo YfX (sz:=4) rfl rfl rfl rfl (by omega) (by (rw[Y00];omega)) (by intro e he;obtain⟨a,-,rfl⟩:=Ye8.1 he;rfl) (by with_reducible exact YeT _) ?_;exact h.1): p:=h ⟨k⟩
theorem VvE (k:q)(h:W q→p:=by intro h;refine Ygu YfX (n:=4) rfl rfl (Y08 (by omega)) rfl rfl ?_;exact h.1): p:=h ⟨k⟩
theorem VsD (k:q)(h:W q→p:=by intro h;refine YgF YfX (cs:=[LV.int .i64 0,LV.int .i64 0,LV.int .i64 0,LV.int .i64 0]) rfl rfl ?_;exact h.1): p:=h ⟨k⟩
theorem Vq3 (k:q)(h:W q→p:=by intro h;refine Ygy YfX (n:=4) rfl rfl rfl rfl rfl rfl rfl (by conv=>lhs;whnf) rfl rfl rfl ?_;exact h.1): p:=h ⟨k⟩
theorem Vt0 (k:q)(h:W q→p:=by intro h;refine Ygn YfX (n:=4) rfl rfl rfl rfl (by simp) rfl rfl rfl ?_;exact h.1): p:=h ⟨k⟩
theorem Vp2 (k:q)(h:W q→p:=by intro h;refine Wp.condT rfl ?_;exact h.1): p:=h ⟨k⟩
theorem VtD (k:q)(h:W q→p:=by intro h;refine Ygo YfX (sz:=1) rfl rfl rfl rfl (by omega) (by rw[Y00];omega) (by intro e he;obtain⟨a,-,rfl⟩:=Ye8.1 he;rfl) (by with_reducible exact YeT _) ?_;exact h.1): p:=h ⟨k⟩
theorem Vv1 (k:q)(h:W q→p:=by intro h;refine GL.makeMap YfX ?_;exact h.1): p:=h ⟨k⟩
theorem VpO (k:q)(h:W q→p:=by intro h;refine Ygo YfX (sz:=2) rfl rfl rfl rfl (by omega) (by (rw[Y00];omega)) (by intro e he;obtain⟨a,-,rfl⟩:=Ye8.1 he;rfl) (by with_reducible exact YeT _) ?_;exact h.1): p:=h ⟨k⟩
theorem VqO (k:q)(h:W q→p:=by intro h;refine Ygu YfX (n:=2) rfl rfl (Y08 (by omega)) rfl rfl ?_;exact h.1): p:=h ⟨k⟩
theorem VjG (k:q)(h:W q→p:=by intro h;refine YgF YfX (cs:=[LV.int .i64 0,LV.int .i64 0]) rfl rfl ?_;exact h.1): p:=h ⟨k⟩
theorem Vc6 (k:q)(h:W q→p:=by intro h;refine Ygy YfX (n:=2) rfl rfl rfl rfl rfl rfl rfl (by conv=>lhs;whnf) rfl rfl rfl ?_;exact h.1): p:=h ⟨k⟩
theorem VnI (k:q)(h:W q→p:=by intro h;refine GL.indexAddrA YfX (sz:=1) (len:=2) rfl rfl rfl rfl rfl rfl (by decide) (by decide) (by conv=>lhs;whnf) ?_;exact h.1): p:=h ⟨k⟩
theorem VuD (k:q)(h:W q→p:=by intro h;refine Ygn YfX (n:=2) rfl rfl rfl rfl (by simp) rfl rfl rfl ?_;exact h.1): p:=h ⟨k⟩
theorem Vi2 (k:q)(h:W q→p:=by intro h;refine GL.subR YfX rfl rfl (by omega) ?_;exact h.1): p:=h ⟨k⟩
theorem VoI (k:q)(h:W q→p:=by intro h;refine Ygo YfX (sz:=4) (j:=((i.pairs.getD k default).p0 - 1).toNat) rfl rfl rfl rfl (by omega) (by rw[Y00];omega) (by intro e he;obtain⟨a,-,rfl⟩:=Ye8.1 he;rfl) rfl ?_;exact h.1): p:=h ⟨k⟩
theorem VmC (k:q)(h:W q→p:=by intro h;refine Ygf YfX (o:=0) rfl rfl (by conv=>lhs;whnf) ?_;exact h.1): p:=h ⟨k⟩
theorem VpI (k:q)(h:W q→p:=by intro h;refine Ygo YfX (sz:=4) (j:=((i.pairs.getD k default).p1 - 1).toNat) rfl rfl rfl rfl (by omega) (by rw[Y00];omega) (by intro e he;obtain⟨a,-,rfl⟩:=Ye8.1 he;rfl) rfl ?_;exact h.1): p:=h ⟨k⟩
theorem Vp9 (k:q)(h:W q→p:=by intro h;refine Yg6 YfX rfl (Frz.aggc (by exact Frz.pure rfl) (Frz.aggc (by exact Frz.pure rfl) (Frz.aggc (by exact Frz.pure rfl) (Frz.aggn)))) (Y92 _ _ _) rfl rfl (fun _=>rfl) ?_;exact h.1): p:=h ⟨k⟩
theorem Vw1 (k:q)(h:W q→p:=by intro h;refine Wp.condF rfl ?_;exact h.1): p:=h ⟨k⟩
theorem VqI (k:q)(h:W q→p:=by intro h;refine GL.makeSlice YfX (j:=n) (sz:=1) (z:=[.int .i64 0]) rfl rfl rfl rfl (by decide) rfl rfl (by omega) (by omega) (YdK rfl) (by omega) ?_;exact h.1): p:=h ⟨k⟩
theorem Vw4 (k:q)(h:W q→p:=by intro h;refine GL.lenO YfX rfl rfl rfl rfl ?_;exact h.1): p:=h ⟨k⟩
theorem VkG (k:q)(h:W q→p:=by intro h;refine Ygl YfX (sz:=1) (j:=i) rfl rfl rfl rfl rfl rfl rfl rfl (by omega) (by omega) (by omega) ?_;exact h.1): p:=h ⟨k⟩
theorem VrI (k:q)(h:W q→p:=by intro h;refine⟨_,_,_,_,.cons (.tmp rfl) .nil,.slo rfl rfl rfl rfl (by rw[Y00,Y62 (by omega)];omega),by simp,by simp,?_⟩;exact h.1): p:=h ⟨k⟩
theorem Vd6 (k:q)(h:W q→p:=by intro h;refine YgF YfX (cs:=[LV.nils,LV.nils,LV.nils,LV.nils,LV.nils,LV.nils,LV.int .i64 0]) rfl rfl ?_;exact h.1): p:=h ⟨k⟩
theorem VsI (k:q)(h:W q→p:=by intro h;refine Yg6 YfX rfl (Frz.aggc (by exact YfY rfl) (Frz.aggn)) (Yaa i hs) rfl rfl (fun _=>rfl) ?_;exact h.1): p:=h ⟨k⟩
theorem VnN (k:q)(h:W q→p:=by intro h;refine Ygt YfX (z:=[LV.nils,LV.nils,LV.nils,LV.nils,LV.nils,LV.nils,LV.int .i64 0]) (cs:=[_,_,_,_,_,_,_]) (n:=7) rfl rfl rfl (EvS.nil) rfl rfl ?_;exact h.1): p:=h ⟨k⟩
theorem Vi4 (k:q)(h:W q→p:=by intro h;refine Ygy YfX (n:=7) rfl rfl rfl rfl rfl rfl rfl (by conv=>lhs;whnf) rfl rfl rfl ?_;exact h.1): p:=h ⟨k⟩
theorem VtI (k:q)(h:W q→p:=by intro h;refine⟨_,_,_,_,.cons (.cellA (n:=7) rfl rfl rfl (by simp) rfl rfl rfl (YdK rfl)) .nil,(.aggc (by exact Exp.nils (sz:=1)) (.aggc (by exact Exp.nils (sz:=1)) (.aggc (by exact Exp.nils (sz:=1)) (.aggc (by exact Exp.nils (sz:=1)) (.aggc (by exact Exp.nils (sz:=1)) (.aggc (by exact Exp.nils (sz:=1)) (.aggc (by exact Exp.frz (Frz.pure rfl)) .aggn))))))),(by decide),by simp,?_⟩;exact h.1): p:=h ⟨k⟩
theorem VuI (k:q)(h:W q→p:=by intro h;refine GL.makeSlice YfX (j:=i.cars.length) (sz:=1) (z:=[.nils]) rfl rfl rfl rfl (by decide) rfl rfl (by omega) (by omega) (YdK rfl) (by omega) ?_;exact h.1): p:=h ⟨k⟩
theorem VwE (k:q)(h:W q→p:=by intro h;refine Ygt YfX (z:=[LV.nils,LV.nils,LV.nils,LV.nils,LV.nils,LV.nils,LV.int .i64 0]) (cs:=[_,_,_,_,_,_,_]) (n:=7) rfl rfl rfl (EvS.cons (by conv=>lhs;whnf) (EvS.cons (by conv=>lhs;whnf) (EvS.cons (by conv=>lhs;whnf) (EvS.cons (by conv=>lhs;whnf) (EvS.cons (by conv=>lhs;whnf) (EvS.cons (by conv=>lhs;whnf) (EvS.nil))))))) rfl rfl ?_;exact h.1): p:=h ⟨k⟩
theorem VwI (k:q)(h:W q→p:=by intro h;refine⟨_,_,_,_,.cons (.cellA (n:=7) rfl rfl rfl (by simp) rfl rfl rfl (YdK rfl)) .nil,(.aggc (by exact Yg4 rfl rfl rfl rfl rfl rfl (by rw[Y00,YeR])) (.aggc (by exact Yg4 rfl rfl rfl rfl rfl rfl (by rw[Y00,YeR])) (.aggc (by exact Yg4 rfl rfl rfl rfl rfl rfl (by rw[Y00,YeR])) (.aggc (by exact Yg4 rfl rfl rfl rfl rfl rfl (by rw[Y00,YeR])) (.aggc (by exact Yg4 rfl rfl rfl rfl rfl rfl (by rw[Y00,YeR])) (.aggc (by exact Yg4 rfl rfl rfl rfl rfl rfl (by rw[Y00,YeR])) (.aggc (by exact Exp.frz (Frz.pure rfl)) .aggn))))))),(by decide),by simp,?_⟩;exact h.1): p:=h ⟨k⟩
theorem VxI (k:q)(h:W q→p:=by intro h;refine GL.callSlo YfX rfl (Frz.aggc (Frz.pure rfl) (Frz.aggc (Frz.pure rfl) Frz.aggn)) (Y7S (i.stops.length+1) (by omega) _ _ (by omega)) rfl (by rw[Y00,YeR]) ?_;exact h.1): p:=h ⟨k⟩
theorem VlG (k:q)(h:W q→p:=by intro h;refine GL.callSlo YfX rfl (Frz.aggc (Frz.pure rfl) (Frz.aggc (Frz.pure rfl) Frz.aggn)) (Y7S i.cars.length (by omega) _ _ rfl) rfl (by rw[Y00,YeR]) ?_;exact h.1): p:=h ⟨k⟩
theorem Vg1 (k:q)(h:W q→p:=by intro h;refine Ygn YfX (n:=7) rfl rfl rfl rfl (by simp) rfl rfl rfl ?_;exact h.1): p:=h ⟨k⟩
theorem Vq9 (k:q)(h:W q→p:=by intro h;refine Ygd YfX (o:=4) rfl rfl rfl rfl (by conv=>lhs;whnf) ?_;exact h.1): p:=h ⟨k⟩
theorem Vx4 (k:q)(h:W q→p:=by intro h;refine Ygd YfX (o:=5) rfl rfl rfl rfl (by conv=>lhs;whnf) ?_;exact h.1): p:=h ⟨k⟩
theorem Va7 (k:q)(h:W q→p:=by intro h;refine Ygd YfX (o:=6) rfl rfl rfl rfl (by conv=>lhs;whnf) ?_;exact h.1): p:=h ⟨k⟩
theorem Vj4 (k:q)(h:W q→p:=by intro h;refine GL.extract YfX rfl rfl ?_;exact h.1): p:=h ⟨k⟩
theorem VyI (k:q)(h:W q→p:=by intro h;refine Yg9 YfX (sz:=1) (z:=[LV.int .i64 0]) (es:=em ni [(i:Int)]) rfl rfl rfl rfl (by decide) (by decide) (by decide) (FrzP.cons (S:=[]) (T:=[]) (Frz.aggc (S:=[]) (T:=[]) (Frz.pure rfl) Frz.aggn) rfl (by decide) rfl (FrzP.nil)) rfl ?_;exact h.1): p:=h ⟨k⟩
theorem VzI (k:q)(h:W q→p:=by intro h;refine Ygj YfX (f:=ni) (v:=(i:Int)) (sz:=1) (z:=[.int .i64 0]) rfl rfl rfl rfl rfl (by decide) (YdK rfl) rfl rfl rfl rfl rfl rfl rfl rfl rfl rfl rfl rfl rfl rfl rfl rfl (by omega) ?_;exact h.1): p:=h ⟨k⟩
theorem VmG (k:q)(h:W q→p:=by intro h;refine⟨_,_,_,_,.cons (.tmp rfl) .nil,.slo rfl rfl rfl rfl (by rw[Y00];simp),by simp,by simp,?_⟩;exact h.1): p:=h ⟨k⟩
theorem VwD (k:q)(h:W q→p:=by intro h;refine Ygo YfX (sz:=1) rfl rfl rfl rfl (by omega) (by (rw[Y00];omega)) (by intro e he;obtain⟨a,-,rfl⟩:=Ye8.1 he;rfl) (by rfl) ?_;exact h.1): p:=h ⟨k⟩
theorem VaJ (k:q)(h:W q→p:=by intro h;refine Yg6 YfX rfl (Frz.aggc (by exact YfY rfl) (Frz.aggc (by exact Frz.pure rfl) (Frz.aggn))) (YdC i _) rfl rfl (fun _=>rfl) ?_;exact h.1): p:=h ⟨k⟩
theorem VnG (k:q)(h:W q→p:=by intro h;refine Yg6 YfX rfl (Frz.aggc (by exact YfY rfl) (Frz.aggc (by exact Frz.pure rfl) (Frz.aggc (by exact Frz.pure rfl) (Frz.aggn)))) (Ycf i hs _ _ (by omega) (by omega)) rfl rfl (fun _=>rfl) ?_;exact h.1): p:=h ⟨k⟩
theorem VbJ (k:q)(h:W q→p:=by intro h;refine Yg8 YfX (α:=Nat) (fun k st=>(k≤i.pairs.length∧mate i.pairs n=mate (i.pairs.drop k) n)∧∃ m0,st=⟨(updS (updS (updS (updS (fun _=>LV.undef) 8 (.sl (em np i.pairs))) 9 (.int .i64 (i.pairs.length:Int))) 10 (.int .i64 (k:Int))) 1 (.int .i64 n)),effM m0 []⟩) (fun k=>i.pairs.length - k) 0 ⟨_,lessA,⟨by omega,by simp⟩,_,hasA⟩ ?_;exact h.1): p:=h ⟨k⟩
theorem VcJ (k:q)(h:W q→p:=by intro h;refine Yg8 YfX (α:=Nat) (fun k st=>(k≤i.pairs.length∧first i.pairs n=first (i.pairs.drop k) n)∧∃ m0,st=⟨(updS (updS (updS (updS (fun _=>LV.undef) 8 (.sl (em np i.pairs))) 9 (.int .i64 (i.pairs.length:Int))) 10 (.int .i64 (k:Int))) 1 (.int .i64 n)),effM m0 []⟩) (fun k=>i.pairs.length - k) 0 ⟨_,lessA,⟨by omega,by simp⟩,_,hasA⟩ ?_;exact h.1): p:=h ⟨k⟩
theorem VxD (k:q)(h:W q→p:=by intro h;refine GL.sliceTo YfX (sz:=1) rfl rfl rfl rfl (by intro e he;obtain⟨a,-,rfl⟩:=Ye8.1 he;rfl) (by omega) (by omega) (by with_reducible exact YeT _) ?_;exact h.1): p:=h ⟨k⟩
theorem VbB (k:q)(h:W q→p:=by intro h;refine YgF YfX (cs:=[LV.nils,LV.nils,LV.int .i64 0,LV.int .i64 0]) rfl rfl ?_;exact h.1): p:=h ⟨k⟩
theorem VrO (k:q)(h:W q→p:=by intro h;refine Ygt YfX (z:=[LV.nils,LV.nils,LV.int .i64 0,LV.int .i64 0]) (cs:=[_,_,_,_]) (n:=4) rfl rfl rfl (EvS.nil) rfl rfl ?_;exact h.1): p:=h ⟨k⟩
theorem Vr9 (k:q)(h:W q→p:=by intro h;refine⟨_,_,_,_,.cons (.cellA (n:=4) rfl rfl rfl (by simp) rfl rfl rfl (YdK rfl)) (.cons (.tmp rfl) .nil),.tup (.aggc (.aggc (by exact Exp.nils (sz:=1)) (.aggc (by exact Exp.nils (sz:=1)) (.aggc (.frz (.pure rfl)) (.aggc (.frz (.pure rfl)) .aggn)))) (.aggc (.frz (.pure rfl)) .aggn)),(by decide),by simp,?_⟩;exact h.1): p:=h ⟨k⟩
theorem VyD (k:q)(h:W q→p:=by intro h;refine Ygo YfX (sz:=3) rfl rfl rfl rfl (by omega) (by (rw[Y00];omega)) (by intro e he;obtain⟨a,-,rfl⟩:=Ye8.1 he;rfl) (by rfl) ?_;exact h.1): p:=h ⟨k⟩
theorem VdJ (k:q)(h:W q→p:=by intro h;refine Ygt YfX (z:=[LV.nils,LV.nils,LV.int .i64 0,LV.int .i64 0]) (cs:=[_,_,_,_]) (n:=4) rfl rfl rfl (EvS.cons (by conv=>lhs;whnf) (EvS.nil)) rfl rfl ?_;exact h.1): p:=h ⟨k⟩
theorem VeJ (k:q)(h:W q→p:=by intro h;refine Ygo YfX (sz:=4) rfl rfl rfl rfl (by omega) (by (rw[Y00];omega)) (by intro e he;obtain⟨a,-,rfl⟩:=Ye8.1 he;rfl) (by rfl) ?_;exact h.1): p:=h ⟨k⟩
theorem Vy4 (k:q)(h:W q→p:=by intro h;refine Yg9 YfX (sz:=1) (z:=[LV.int .i64 0]) rfl rfl rfl rfl (by decide) (by decide) (by decide) (FrzP.cons (S:=[]) (T:=[]) (Frz.aggc (S:=[]) (T:=[]) (Frz.pure rfl) Frz.aggn) rfl (by decide) rfl (FrzP.nil)) (by conv=>lhs;simp only[fillE,List.replicate,List.map,pureC,YdS,YdT]) ?_;exact h.1): p:=h ⟨k⟩
theorem VfJ (k:q)(h:W q→p:=by intro h;refine Ygj YfX (sz:=1) (z:=[.int .i64 0]) rfl rfl rfl rfl rfl (by decide) (YdK rfl) rfl rfl rfl rfl rfl rfl rfl (by omega) rfl rfl rfl rfl rfl rfl rfl rfl (by omega) ?_;exact h.1): p:=h ⟨k⟩
theorem Vb7 (k:q)(h:W q→p:=by intro h;refine Ygx YfX (n:=1) rfl rfl rfl rfl rfl rfl rfl rfl rfl rfl (YdK rfl) (by (conv=>lhs;simp only[YdR,Ye6,YdU,Ye3,YdY,YdW,Yea,YdX,Yeb,YdS,YdT,YdZ,ni,nr,nc,ns,np,ic])) (by (conv=>lhs;simp only[YdR,Ye6,YdU,Ye3,YdY,YdW,Yea,YdX,Yeb,YdS,YdT,YdZ,ni,nr,nc,ns,np,ic])) ?_;exact h.1): p:=h ⟨k⟩
theorem Vs9 (k:q)(h:W q→p:=by intro h;refine GL.mulR YfX rfl rfl (by omega) ?_;exact h.1): p:=h ⟨k⟩
theorem Vp1 (k:q)(h:W q→p:=by intro h;refine GL.quoR YfX rfl rfl (by omega) ?_;exact h.1): p:=h ⟨k⟩
theorem VzD (k:q)(h:W q→p:=by intro h;refine YgF YfX (cs:=[LV.nils,LV.nils,LV.nils,LV.nils]) rfl rfl ?_;exact h.1): p:=h ⟨k⟩
theorem Vc7 (k:q)(h:W q→p:=by intro h;refine Yg6 YfX rfl (Frz.aggc (by exact Frz.pure rfl) (Frz.aggc (by exact Frz.pure rfl) (Frz.aggn))) (Ydk z hz _ (by omega) (by omega)) rfl rfl (fun _=>rfl) ?_;exact h.1): p:=h ⟨k⟩
theorem VgJ (k:q)(h:W q→p:=by intro h;refine Yg6 YfX rfl (Frz.aggc (by exact Frz.pure rfl) (Frz.aggc (by exact Frz.pure rfl) (Frz.aggn))) (Y0q _ 3 (by decide)) rfl rfl (fun _=>rfl) ?_;exact h.1): p:=h ⟨k⟩
theorem VcB (k:q)(h:W q→p:=by intro h;refine Ygr YfX rfl rfl rfl rfl (by simp) (by rfl) rfl ?_;exact h.1): p:=h ⟨k⟩
theorem VxE (k:q)(h:W q→p:=by intro h;refine Yg6 YfX rfl (Frz.aggc (by exact Frz.pure rfl) (Frz.aggc (by exact Frz.pure rfl) (Frz.aggn))) (Y0q _ 4 (by decide)) rfl rfl (fun _=>rfl) ?_;exact h.1): p:=h ⟨k⟩
theorem VoG (k:q)(h:W q→p:=by intro h;refine Ygl YfX (sz:=1) rfl rfl rfl rfl rfl rfl rfl rfl (by exact (Y03 (by decide)).1) (by exact (Y03 (by decide)).2) (by (conv=>lhs;simp only[YdZ,YeT])) ?_;exact h.1): p:=h ⟨k⟩
theorem VpG (k:q)(h:W q→p:=by intro h;refine Ygr YfX rfl rfl rfl rfl (by simp) (by exact Y08 (show _<4 from wi4 _)) rfl ?_;exact h.1): p:=h ⟨k⟩
theorem VyE (k:q)(h:W q→p:=by intro h;refine Yg6 YfX rfl (Frz.aggc (by exact Frz.pure rfl) (Frz.aggc (by exact Frz.pure rfl) (Frz.aggn))) (Y0q _ 9 (by decide)) rfl rfl (fun _=>rfl) ?_;exact h.1): p:=h ⟨k⟩
theorem Ve6 (k:q)(h:W q→p:=by intro h;refine Ygt YfX (z:=[LV.int .i64 0,LV.int .i64 0,LV.int .i64 0]) (cs:=[_,_,_]) (n:=3) rfl rfl rfl (EvS.cons (by conv=>lhs;whnf) (EvS.cons (by conv=>lhs;whnf) (EvS.cons (by conv=>lhs;whnf) (EvS.nil)))) rfl rfl ?_;exact h.1): p:=h ⟨k⟩
theorem VqG (k:q)(h:W q→p:=by intro h;refine Yg6 YfX rfl (Frz.aggc (by exact Frz.pure rfl) (Frz.aggc (by exact Frz.pure rfl) (Frz.aggn))) (Y0q _ 8 (by decide)) rfl rfl (fun _=>rfl) ?_;exact h.1): p:=h ⟨k⟩
theorem VhJ (k:q)(h:W q→p:=by intro h;refine Yg6 YfX rfl (Frz.aggc (by exact Frz.pure rfl) (Frz.aggc (by exact Frz.pure rfl) (Frz.aggn))) (Y0q _ 30 (by decide)) rfl rfl (fun _=>rfl) ?_;exact h.1): p:=h ⟨k⟩
theorem Vf6 (k:q)(h:W q→p:=by intro h;refine Ygn YfX (n:=4) rfl rfl rfl rfl (by simp) (by rfl) rfl rfl ?_;exact h.1): p:=h ⟨k⟩
theorem ViJ (k:q)(h:W q→p:=by intro h;refine Yg9 YfX (sz:=4) (z:=[LV.int .i64 0,LV.int .i64 0,LV.int .i64 0,LV.int .i64 0]) rfl rfl rfl rfl (by decide) (by decide) (by decide) (FrzP.cons (S:=[]) (T:=[]) (YfY rfl) rfl (by decide) rfl (FrzP.nil)) (by conv=>lhs;simp only[fillE,List.replicate,List.map,pureC,YdS,YdT]) ?_;exact h.1): p:=h ⟨k⟩
theorem VzE (k:q)(h:W q→p:=by intro h;refine Ygl YfX (sz:=4) rfl rfl rfl rfl rfl rfl rfl rfl (by omega) (by omega) (by (conv=>lhs;simp only[YdZ,YeT])) ?_;exact h.1): p:=h ⟨k⟩
theorem VjJ (k:q)(h:W q→p:=by intro h;refine Ygs YfX (n:=1) rfl rfl rfl rfl rfl rfl (Y08 (by omega)) rfl rfl rfl rfl (YdK rfl) rfl (Y0M ns _ _ (Stop.mk _ _ _ _)) ?_;exact h.1): p:=h ⟨k⟩
theorem VnC (k:q)(h:W q→p:=by intro h;refine Ygt YfX (z:=[LV.int .i64 0,LV.int .i64 0]) (cs:=[_,_]) (n:=2) rfl rfl rfl (EvS.cons (by conv=>lhs;whnf) (EvS.cons (by conv=>lhs;whnf) (EvS.nil))) rfl rfl ?_;exact h.1): p:=h ⟨k⟩
theorem VkJ (k:q)(h:W q→p:=by intro h;refine Yg9 YfX (sz:=2) (z:=[LV.int .i64 0,LV.int .i64 0]) rfl rfl rfl rfl (by decide) (by decide) (by decide) (FrzP.cons (S:=[]) (T:=[]) (YfY rfl) rfl (by decide) rfl (FrzP.nil)) (by conv=>lhs;simp only[fillE,List.replicate,List.map,pureC,YdS,YdT]) ?_;exact h.1): p:=h ⟨k⟩
theorem VlJ (k:q)(h:W q→p:=by intro h;refine Yg8 YfX (α:=Nat × Nat × Nat × Nat × Nat) (fun ⟨k,ga,gb,gc,gd⟩ st=>(k≤nStops z+1)∧∃ m0,st=⟨(updS (updS (updS (updS (updS (updS (fun _=>LV.undef) 0 (.sl (em ni z))) 2 (.ref 128 g2 0 0)) 3 (.fn 24 [])) 4 (.ref 256 g4 0 0)) 7 (.int .i64 (2+within (num z 4) 7))) 15 (.int .i64 (k:Int))),effM m0 [(128,⟨g2,false,.var,4,[[.nils,.nils,.nils,.nils]]⟩),(256,⟨g4,false,.var,4,[[.own 700001 ga 0 (nCars z) none,.own 700002 gb 0 (nStops z) none,.own 700003 gc 0 (nPairs z) none,.own 700004 gd 0 k none]]⟩),(700001,⟨ga,false,.slc,3,em nc (cars z (nCars z))⟩),(700002,⟨gb,false,.slc,4,em ns (stopsK z (stops0 z (nStops z)) (nPairs z))⟩),(700003,⟨gc,false,.slc,2,em np (pairsK z (nPairs z))⟩),(700004,⟨gd,false,.slc,1,em nr (Mv.ways z (nStops z+1) k)⟩)]⟩) (fun ⟨k,ga,gb,gc,gd⟩=>nStops z+1 - k) ⟨0,_,_,_,_⟩ ⟨_,(YfZ (YfV (YfV (YfV (YfV (YfV (YfV (Yg0 _) rfl) rfl) rfl) rfl) rfl) rfl) _),(Ye1 _),_,(congrArg (St.mk _) (Y01 (YfW rfl (YfW rfl (YfW rfl (YfW rfl (YfW rfl (YfW rfl Yg3))))))).symm)⟩ ?_;exact h.1): p:=h ⟨k⟩
theorem VmJ (k:q)(h:W q→p:=by intro h;refine Yg8 YfX (α:=Nat × Nat) (fun ⟨y,ge⟩ st=>(y≤nStops z+1)∧∃ m0,st=⟨(updS (updS (updS (updS (updS (updS (updS (updS (fun _=>LV.undef) 0 (.sl (em ni z))) 2 (.ref 128 g2 0 0)) 3 (.fn 24 [])) 4 (.ref 256 g4 0 0)) 7 (.int .i64 (2+within (num z 4) 7))) 15 (.int .i64 (k:Int))) 16 (.own 700005 ge 0 y none)) 17 (.int .i64 (y:Int))),effM m0 [(128,⟨g2,false,.var,4,[[.nils,.nils,.nils,.nils]]⟩),(256,⟨g4,false,.var,4,[[.own 700001 ga 0 (nCars z) none,.own 700002 gb 0 (nStops z) none,.own 700003 gc 0 (nPairs z) none,.own 700004 gd 0 k none]]⟩),(700001,⟨ga,false,.slc,3,em nc (cars z (nCars z))⟩),(700002,⟨gb,false,.slc,4,em ns (stopsK z (stops0 z (nStops z)) (nPairs z))⟩),(700003,⟨gc,false,.slc,2,em np (pairsK z (nPairs z))⟩),(700004,⟨gd,false,.slc,1,em nr (Mv.ways z (nStops z+1) k)⟩),(700005,⟨ge,false,.slc,1,em ni (wayRow z k y)⟩)]⟩) (fun ⟨y,ge⟩=>nStops z+1 - y) ⟨0,_⟩ ⟨_,(YfZ (YfV (YfV (YfV (YfV (YfV (YfV (YfV (YfV (Yg0 _) rfl) rfl) rfl) rfl) rfl) rfl) rfl) rfl) _),(Ye1 _),_,(congrArg (St.mk _) (Y01 (YfW rfl (YfW rfl (YfW rfl (YfW rfl (YfW rfl (YfW rfl (YfW rfl Yg3)))))))).symm)⟩ ?_;exact h.1): p:=h ⟨k⟩
theorem VnJ (k:q)(h:W q→p:=by intro h;refine Yg6 YfX rfl (Frz.aggc (by exact Frz.pure rfl) (Frz.aggc (by exact Frz.pure rfl) (Frz.aggn))) (Y0q _ 14 (by decide)) rfl rfl (fun _=>rfl) ?_;exact h.1): p:=h ⟨k⟩
theorem VoJ (k:q)(h:W q→p:=by intro h;refine Ygj YfX (f:=ni) (v:=wayOf z k y) (sz:=1) (z:=[.int .i64 0]) rfl rfl rfl rfl rfl (by decide) (YdK rfl) rfl rfl rfl rfl rfl rfl rfl (by simp[wayRow]) rfl rfl rfl rfl rfl (by (simp only[ni,wayOf,if_pos h191];rfl)) rfl rfl (by omega) ?_;exact h.1): p:=h ⟨k⟩
theorem VpJ (k:q)(h:W q→p:=by intro h;refine Ygj YfX (f:=ni) (v:=wayOf z k y) (sz:=1) (z:=[.int .i64 0]) rfl rfl rfl rfl rfl (by decide) (YdK rfl) rfl rfl rfl rfl rfl rfl rfl (by simp[wayRow]) rfl rfl rfl rfl rfl (by (simp only[ni,wayOf,if_neg h191];rfl)) rfl rfl (by omega) ?_;exact h.1): p:=h ⟨k⟩
theorem VqJ (k:q)(h:W q→p:=by intro h;refine GL.buildSliceM YfX (sz:=1) (z:=[LV.nils]) rfl rfl rfl rfl (by decide) (by decide) (by decide) (FrzP.cons (Frz.aggc (by exact Yg5 rfl rfl rfl rfl (by (rw[Y00];omega))) Frz.aggn) rfl (by decide) rfl (FrzP.nil)) rfl (by conv=>lhs;simp only[fillE,List.replicate,List.map,pureC,YdS,YdT]) ?_;exact h.1): p:=h ⟨k⟩
theorem VrJ (k:q)(h:W q→p:=by intro h;refine Ygj YfX (f:=nr) (v:=wayRow z k (nStops z+1)) (sz:=1) (z:=[.nils]) rfl rfl rfl rfl rfl (by decide) (YdK rfl) rfl rfl rfl rfl rfl rfl rfl (by simp[Mv.ways]) rfl rfl rfl rfl rfl rfl rfl rfl (by omega) ?_;exact h.1): p:=h ⟨k⟩
theorem VsJ (k:q)(h:W q→p:=by intro h;refine⟨_,_,_,_,.cons (.cellA (n:=4) rfl rfl rfl (by simp) rfl rfl rfl (YdK rfl)) .nil,.aggc (.slo rfl rfl rfl rfl (by (rw[Y00];simp;omega))) (.aggc (.slo rfl rfl rfl rfl (by (rw[Y00];simp;omega))) (.aggc (.slo rfl rfl rfl rfl (by (rw[Y00];simp;omega))) (.aggc (.slo rfl rfl rfl rfl (by (rw[Y00];simp;omega))) .aggn))),(by decide),by simp,?_⟩;exact h.1): p:=h ⟨k⟩
theorem VaF (k:q)(h:W q→p:=by intro h;refine GL.setLook YfX rfl rfl rfl rfl rfl rfl rfl rfl rfl rfl ?_;exact h.1): p:=h ⟨k⟩
theorem VoN (k:q)(h:W q→p:=by intro h;refine GL.setPut YfX rfl rfl rfl rfl rfl rfl rfl rfl rfl rfl rfl ?_;exact h.1): p:=h ⟨k⟩
theorem VtJ (k:q)(h:W q→p:=by intro h;refine Yg6 YfX rfl (Frz.aggc (by exact Frz.pure rfl) (Frz.aggn)) (Y7w _ (by omega)) rfl rfl (fun _=>rfl) ?_;exact h.1): p:=h ⟨k⟩
theorem VrG (k:q)(h:W q→p:=by intro h;refine Yg6 YfX rfl (Frz.aggc (by exact Frz.pure rfl) (Frz.aggc (by exact Frz.pure rfl) (Frz.aggc (by exact Frz.pure rfl) (Frz.aggn)))) (Y8Z _ _ _) rfl rfl (fun _=>rfl) ?_;exact h.1): p:=h ⟨k⟩
theorem VsG (k:q)(h:W q→p:=by intro h;refine GL.look2 YfX rfl rfl rfl rfl rfl rfl rfl rfl rfl rfl ?_;exact h.1): p:=h ⟨k⟩
theorem VaE (k:q)(h:W q→p:=by intro h;refine Ygx YfX (n:=1) rfl rfl rfl rfl rfl rfl rfl rfl rfl rfl (YdK rfl) (by (conv=>lhs;simp only[YdR,Ye6,YdU,Ye3,YdY,YdW,Yea,YdX,Yeb,YdS,YdT,YdZ,ni,nr,nc,ns,np,ic,nt,ei,cellsL])) (by (conv=>lhs;simp only[YdR,Ye6,YdU,Ye3,YdY,YdW,Yea,YdX,Yeb,YdS,YdT,YdZ,ni,nr,nc,ns,np,ic,nt,ei,cellsL])) ?_;exact h.1): p:=h ⟨k⟩
theorem VtG (k:q)(h:W q→p:=by intro h;refine Ygl YfX (sz:=1) rfl rfl rfl rfl rfl rfl rfl rfl (by omega) (by omega) (by (conv=>lhs;simp only[YdZ,YeT])) ?_;exact h.1): p:=h ⟨k⟩
theorem Vz4 (k:q)(h:W q→p:=by intro h;refine Ygr YfX rfl rfl rfl rfl (by simp) (by exact Y08 (by omega)) rfl ?_;exact h.1): p:=h ⟨k⟩
theorem VzJ (k:q)(h:W q→p:=by intro h;refine GL.callFl YfX rfl (Frz.aggc (YfY rfl) (Frz.aggc (Frz.pure rfl) Frz.aggn)) (Y4m p hp _) (Yae _ _) rfl rfl ?_;exact h.1): p:=h ⟨k⟩
theorem VaK (k:q)(h:W q→p:=by intro h;refine YgD YfX (f:=ni) (l:=p.lock) (sz:=1) (z:=[.int .i64 0]) rfl rfl rfl rfl rfl (by decide) (YdK rfl) rfl rfl (fun _=>rfl) (fun _=>rfl) (by omega) ?_;exact h.1): p:=h ⟨k⟩
theorem VbK (k:q)(h:W q→p:=by intro h;refine YgD YfX (f:=ni) (l:=p.ice) (sz:=1) (z:=[.int .i64 0]) rfl rfl rfl rfl rfl (by decide) (YdK rfl) rfl rfl (fun _=>rfl) (fun _=>rfl) (by omega) ?_;exact h.1): p:=h ⟨k⟩
theorem VcK (k:q)(h:W q→p:=by intro h;refine YgD YfX (f:=ni) (l:=p.rv) (sz:=1) (z:=[.int .i64 0]) rfl rfl rfl rfl rfl (by decide) (YdK rfl) rfl rfl (fun _=>rfl) (fun _=>rfl) (by omega) ?_;exact h.1): p:=h ⟨k⟩
theorem VdK (k:q)(h:W q→p:=by intro h;refine YgD YfX (f:=ni) (l:=p.sv) (sz:=1) (z:=[.int .i64 0]) rfl rfl rfl rfl rfl (by decide) (YdK rfl) rfl rfl (fun _=>rfl) (fun _=>rfl) (by omega) ?_;exact h.1): p:=h ⟨k⟩
theorem VeK (k:q)(h:W q→p:=by intro h;refine YgD YfX (f:=ni) (l:=p.iv) (sz:=1) (z:=[.int .i64 0]) rfl rfl rfl rfl rfl (by decide) (YdK rfl) rfl rfl (fun _=>rfl) (fun _=>rfl) (by omega) ?_;exact h.1): p:=h ⟨k⟩
theorem VoC (k:q)(h:W q→p:=by intro h;refine YgD YfX (f:=ni) (l:=(p.routes.getD i default)) (sz:=1) (z:=[.int .i64 0]) rfl rfl rfl rfl rfl (by decide) (YdK rfl) rfl rfl (fun _=>rfl) (fun _=>rfl) (by omega) ?_;exact h.1): p:=h ⟨k⟩
theorem VbF (k:q)(h:W q→p:=by intro h;refine Ygx YfX (n:=1) rfl rfl rfl rfl rfl rfl rfl rfl rfl rfl (YdK rfl) (by (conv=>lhs;simp only[YdR,Ye6,YdU,Ye3,YdY,YdW,Yea,YdX,Yeb,YdS,YdT,YdZ,kp])) (by (conv=>lhs;simp only[YdR,Ye6,YdU,Ye3,YdY,YdW,Yea,YdX,Yeb,YdS,YdT,YdZ,kp])) ?_;exact h.1): p:=h ⟨k⟩
theorem VfK (k:q)(h:W q→p:=by intro h;refine Ygl YfX (sz:=3) rfl rfl rfl rfl rfl rfl rfl rfl (by omega) (by omega) (by (conv=>lhs;simp only[YdZ,YeT])) ?_;exact h.1): p:=h ⟨k⟩
theorem VcF (k:q)(h:W q→p:=by intro h;refine GL.capO YfX (sz:=3) rfl rfl rfl rfl rfl rfl rfl rfl rfl (by show _≤(em _ _).length;rw[Y00];omega) ?_;exact h.1): p:=h ⟨k⟩
theorem Vg6 (k:q)(h:W q→p:=by intro h;refine Ygn YfX (n:=3) rfl rfl rfl rfl (by simp) (by rfl) rfl rfl ?_;exact h.1): p:=h ⟨k⟩
theorem VgK (k:q)(h:W q→p:=by intro h;refine Yg9 YfX (sz:=3) (z:=[LV.int .i64 0,LV.int .i64 0,LV.int .i64 0]) (es:=em kh [(l.getD i default)]) rfl rfl rfl rfl (by decide) (by decide) (by decide) (FrzP.cons (S:=[]) (T:=[]) (YfY rfl) rfl (by decide) rfl (FrzP.nil)) rfl ?_;exact h.1): p:=h ⟨k⟩
theorem VhK (k:q)(h:W q→p:=by intro h;refine YgE YfX (sz:=3) (j:=j) (len':=o.length - j) rfl rfl rfl rfl rfl rfl rfl rfl (by omega) (by omega) (by show _≤(em _ _).length;rw[Y00];omega) (by omega) (by omega) ?_;exact h.1): p:=h ⟨k⟩
theorem ViK (k:q)(h:W q→p:=by intro h;refine YgE YfX (sz:=3) (j:=j) (len':=0) rfl rfl rfl rfl rfl rfl rfl rfl (by omega) (by omega) (by show _≤(em _ _).length;rw[Y00];omega) (by omega) (by omega) ?_;exact h.1): p:=h ⟨k⟩
theorem VbE (k:q)(h:W q→p:=by intro h;refine GL.appE0 YfX rfl rfl rfl rfl rfl rfl rfl rfl rfl ?_;exact h.1): p:=h ⟨k⟩
theorem Vz0 (k:q)(h:W q→p:=by intro h;refine YgF YfX (cs:=[LV.nils,LV.nils,LV.nils]) rfl rfl ?_;exact h.1): p:=h ⟨k⟩
theorem VjK (k:q)(h:W q→p:=by intro h;refine Yg6 YfX rfl (Frz.aggc (by exact Frz.pure rfl) (Frz.aggn)) (Y9I _ (by omega)) rfl rfl (fun _=>rfl) ?_;exact h.1): p:=h ⟨k⟩
theorem VsO (k:q)(h:W q→p:=by intro h;refine YgF YfX (cs:=[LV.int .i64 0,LV.nils,LV.nils]) rfl rfl ?_;exact h.1): p:=h ⟨k⟩
theorem VkK (k:q)(h:W q→p:=by intro h;refine Yg9 YfX (sz:=3) (z:=[LV.int .i64 0,LV.nils,LV.nils]) (es:=em kt [(d.turns.getD i default)]) rfl rfl rfl rfl (by decide) (by decide) (by decide) (FrzP.cons (S:=[]) (T:=[]) (YfY rfl) rfl (by decide) rfl (FrzP.nil)) rfl ?_;exact h.1): p:=h ⟨k⟩
theorem VdF (k:q)(h:W q→p:=by intro h;refine Ygx YfX (n:=1) rfl rfl rfl rfl rfl rfl rfl rfl rfl rfl (YdK rfl) (by (conv=>lhs;simp only[YdR,Ye6,YdU,Ye3,YdY,YdW,Yea,YdX,Yeb,YdS,YdT,YdZ,kd,kt,kh])) (by (conv=>lhs;simp only[YdR,Ye6,YdU,Ye3,YdY,YdW,Yea,YdX,Yeb,YdS,YdT,YdZ,kd,kt,kh])) ?_;exact h.1): p:=h ⟨k⟩
theorem VeF (k:q)(h:W q→p:=by intro h;refine Yg6 YfX rfl (Frz.aggc (by exact YfY rfl) (Frz.aggn)) (Y3K d hd) rfl rfl (fun _=>rfl) ?_;exact h.1): p:=h ⟨k⟩
theorem VcE (k:q)(h:W q→p:=by intro h;refine GL.entry YfX rfl rfl rfl rfl rfl rfl ?_;exact h.1): p:=h ⟨k⟩
theorem VlK (k:q)(h:W q→p:=by intro h;refine GL.capO YfX (sz:=1) rfl rfl rfl rfl rfl rfl rfl rfl rfl (by show _≤(em _ _).length;rw[Y00];omega) ?_;exact h.1): p:=h ⟨k⟩
theorem VmK (k:q)(h:W q→p:=by intro h;refine Yg9 YfX (sz:=1) (z:=[LV.int .i64 0]) (es:=em ni [n]) rfl rfl rfl rfl (by decide) (by decide) (by decide) (FrzP.cons (S:=[]) (T:=[]) (YfY rfl) rfl (by decide) rfl (FrzP.nil)) rfl ?_;exact h.1): p:=h ⟨k⟩
theorem VpC (k:q)(h:W q→p:=by intro h;refine Yg6 YfX rfl (Frz.aggc (by exact Frz.pure rfl) (Frz.aggc (by exact Frz.pure rfl) (Frz.aggn))) (YdG _ (by omega) _) rfl rfl (fun _=>rfl) ?_;exact h.1): p:=h ⟨k⟩
theorem VnK (k:q)(h:W q→p:=by intro h;refine Yg6 YfX rfl (Frz.aggc (by exact YfY rfl) (Frz.aggc (by exact YfY rfl) (Frz.aggn))) (Y8U p hp _) rfl rfl (fun _=>rfl) ?_;exact h.1): p:=h ⟨k⟩
theorem VuG (k:q)(h:W q→p:=by intro h;refine Ygt YfX (z:=[LV.int .i64 0,LV.nils,LV.nils]) (cs:=[_,_,_]) (n:=3) rfl rfl rfl (EvS.cons (by conv=>lhs;whnf) (EvS.cons (by conv=>lhs;whnf) (EvS.cons (by conv=>lhs;whnf) (EvS.nil)))) rfl rfl ?_;exact h.1): p:=h ⟨k⟩
theorem VdB (k:q)(h:W q→p:=by intro h;refine GL.conv YfX rfl rfl ?_;exact h.1): p:=h ⟨k⟩
theorem VdE (k:q)(h:W q→p:=by intro h;refine Ygl YfX (sz:=2) rfl rfl rfl rfl rfl rfl rfl rfl (by omega) (by omega) (by (conv=>lhs;simp only[YdZ,YeT])) ?_;exact h.1): p:=h ⟨k⟩
theorem Vd7 (k:q)(h:W q→p:=by intro h;refine Ygn YfX (n:=2) rfl rfl rfl rfl (by simp) (by rfl) rfl rfl ?_;exact h.1): p:=h ⟨k⟩
theorem VfF (k:q)(h:W q→p:=by intro h;refine GL.capO YfX (sz:=2) rfl rfl rfl rfl rfl rfl rfl rfl rfl (by show _≤(em _ _).length;rw[Y00];omega) ?_;exact h.1): p:=h ⟨k⟩
theorem VgF (k:q)(h:W q→p:=by intro h;refine Yg9 YfX (sz:=2) (z:=[LV.int .i64 0,LV.int .i64 0]) (es:=em kk [(L.getD i default)]) rfl rfl rfl rfl (by decide) (by decide) (by decide) (FrzP.cons (S:=[]) (T:=[]) (YfY rfl) rfl (by decide) rfl (FrzP.nil)) rfl ?_;exact h.1): p:=h ⟨k⟩
theorem VoK (k:q)(h:W q→p:=by intro h;refine YgE YfX (sz:=2) (j:=j) (len':=o.length - j) rfl rfl rfl rfl rfl rfl rfl rfl (by omega) (by omega) (by show _≤(em _ _).length;rw[Y00];omega) (by omega) (by omega) ?_;exact h.1): p:=h ⟨k⟩
theorem VpK (k:q)(h:W q→p:=by intro h;refine GL.appW YfX (f:=kk) (l:=[(L.getD i default)]) (l2:=o) (sz:=2) (z:=[.int .i64 0,.int .i64 0]) rfl rfl rfl rfl rfl (by decide) (YdK rfl) rfl rfl rfl rfl rfl rfl rfl rfl rfl rfl rfl rfl rfl rfl rfl (fun _=>rfl) (by omega) (by omega) (by omega) ?_;exact h.1): p:=h ⟨k⟩
theorem VqK (k:q)(h:W q→p:=by intro h;refine GL.appC YfX (f:=kk) (l:=o) (l2:=[(L.getD i default)]++o.drop j) (l3:=putAt o j (L.getD i default)) (sz:=2) (z:=[.int .i64 0,.int .i64 0]) rfl rfl rfl rfl rfl (by decide) (YdK rfl) rfl rfl rfl rfl rfl rfl (by omega) rfl rfl rfl rfl rfl rfl (by simp <;> omega) rfl (by omega) (by omega) ?_;exact h.1): p:=h ⟨k⟩
theorem VrK (k:q)(h:W q→p:=by intro h;refine YgE YfX (sz:=2) (j:=j) (len':=0) rfl rfl rfl rfl rfl rfl rfl rfl (by omega) (by omega) (by show _≤(em _ _).length;rw[Y00];omega) (by omega) (by omega) ?_;exact h.1): p:=h ⟨k⟩
theorem VsK (k:q)(h:W q→p:=by intro h;refine GL.appC YfX (f:=kk) (l:=o) (l2:=[(L.getD i default)]) (l3:=putAt o j (L.getD i default)) (sz:=2) (z:=[.int .i64 0,.int .i64 0]) rfl rfl rfl rfl rfl (by decide) (YdK rfl) rfl rfl rfl rfl rfl rfl (by omega) rfl rfl rfl rfl rfl rfl (by simp <;> omega) (Y3b hge _) (by omega) (by omega) ?_;exact h.1): p:=h ⟨k⟩
theorem Ve7 (k:q)(h:W q→p:=by intro h;refine⟨_,_,_,_,.cons (.cellA (n:=7) rfl rfl rfl (by simp) rfl rfl rfl (YdK rfl)) (.cons (.tmp rfl) .nil),.tup (.aggc (.frz (Frz.aggc (by exact Frz.nils) (Frz.aggc (by exact Frz.nils) (Frz.aggc (by exact Frz.nils) (Frz.aggc (by exact Frz.nils) (Frz.aggc (by exact Frz.nils) (Frz.aggc (by exact Frz.nils) (Frz.aggc (by exact Frz.pure rfl) Frz.aggn)))))))) (.aggc (.frz (.pure rfl)) .aggn)),Yec,by simp,?_⟩;exact h.1): p:=h ⟨k⟩
theorem VeE (k:q)(h:W q→p:=by intro h;refine Ygn YfX (n:=7) rfl rfl rfl rfl (by simp) (by rfl) rfl rfl ?_;exact h.1): p:=h ⟨k⟩
theorem VhF (k:q)(h:W q→p:=by intro h;refine Ygl YfX (sz:=1) (j:=((tidyD d).turns.getD i default).car.toNat) rfl rfl rfl rfl rfl rfl rfl rfl (by omega) (by omega) (by omega) ?_;exact h.1): p:=h ⟨k⟩
theorem VvG (k:q)(h:W q→p:=by intro h;refine Ygl YfX (sz:=1) (j:=((tidyD d).ices.getD i default).n.toNat) rfl rfl rfl rfl rfl rfl rfl rfl (by omega) (by omega) (by omega) ?_;exact h.1): p:=h ⟨k⟩
theorem VtK (k:q)(h:W q→p:=by intro h;refine Ygl YfX (sz:=1) (j:=((sorted S2).getD i default).toNat) rfl rfl rfl rfl rfl rfl rfl rfl (by omega) (by omega) (by omega) ?_;exact h.1): p:=h ⟨k⟩
theorem VwG (k:q)(h:W q→p:=by intro h;refine Ygx YfX (n:=1) rfl rfl rfl rfl rfl rfl rfl rfl rfl rfl (YdK rfl) (by (conv=>lhs;simp only[YdR,Ye6,YdU,Ye3,YdY,YdW,Yea,YdX,Yeb,YdS,YdT,YdZ,kp,kd,kt,kh])) (by (conv=>lhs;simp only[YdR,Ye6,YdU,Ye3,YdY,YdW,Yea,YdX,Yeb,YdS,YdT,YdZ,kp,kd,kt,kh])) ?_;exact h.1): p:=h ⟨k⟩
theorem VuK (k:q)(h:W q→p:=by intro h;refine Ygs YfX (n:=1) rfl rfl rfl rfl rfl rfl (Y08 (by omega)) rfl rfl rfl rfl (YdK rfl) rfl (Y0M nr _ _ ((tidyD d).turns.getD i default).after) ?_;exact h.1): p:=h ⟨k⟩
theorem ViF (k:q)(h:W q→p:=by intro h;refine YgD YfX (f:=ni) (l:=(l.take k)) (sz:=1) (z:=[.int .i64 0]) rfl rfl rfl rfl rfl (by decide) (YdK rfl) rfl rfl (fun _=>rfl) (fun _=>rfl) (by omega) ?_;exact h.1): p:=h ⟨k⟩
theorem VjF (k:q)(h:W q→p:=by intro h;refine GL.sliceFrom YfX (sz:=1) rfl rfl rfl rfl (by intro e he;obtain⟨a,-,rfl⟩:=Ye8.1 he;rfl) (by omega) (by omega) (by with_reducible exact YeT _) ?_;exact h.1): p:=h ⟨k⟩
theorem VvK (k:q)(h:W q→p:=by intro h;refine⟨_,_,_,_,.cons (.tmp rfl) .nil,.slo rfl rfl rfl rfl (by show 0+_=(em _ _).length;simp only[Y00,YdN,Yek,Yez] at *;omega),by simp,by simp,?_⟩;exact h.1): p:=h ⟨k⟩
theorem VwK (k:q)(h:W q→p:=by intro h;refine GL.appendO YfX (f:=ni) (l:=(l.take k)) (l2:=ss) (sz:=1) (z:=[.int .i64 0]) rfl rfl rfl rfl rfl (by decide) (YdK rfl) rfl rfl rfl rfl rfl rfl rfl rfl rfl (fun _=>rfl) (fun _=>rfl) rfl h1 (by simp only[YdN,Yek,Yez] at *;omega) ?_;exact h.1): p:=h ⟨k⟩
theorem VxK (k:q)(h:W q→p:=by intro h;refine YgD YfX (f:=ni) (l:=l) (sz:=1) (z:=[.int .i64 0]) rfl rfl rfl rfl rfl (by decide) (YdK rfl) rfl rfl (fun _=>rfl) (fun _=>rfl) (by omega) ?_;exact h.1): p:=h ⟨k⟩
theorem VyK (k:q)(h:W q→p:=by intro h;refine GL.buildSliceMT (sz:=3) (z:=[.int .i64 0,.nils,.nils]) (es:=em kt [(⟨(i:Int),(p.routes.getD i default),l⟩:Turn)]) rfl rfl rfl rfl (by decide) (by decide) (by decide) (FrzP.cons (Frz.aggc (by exact Frz.pure rfl) (Frz.aggc (by exact Yg5 rfl rfl rfl rfl (by exact Y00 _ _)) (Frz.aggc (by exact Yg5 rfl rfl rfl rfl (by exact Y00 _ _)) Frz.aggn))) rfl (by decide) rfl (FrzP.nil)) rfl rfl rfl ?_;exact h.1): p:=h ⟨k⟩
theorem VzK (k:q)(h:W q→p:=by intro h;refine Ygj YfX (f:=kt) (v:=(⟨(i:Int),(p.routes.getD i default),l⟩:Turn)) (sz:=3) (z:=[.int .i64 0,.nils,.nils]) rfl rfl rfl rfl rfl (by decide) (YdK rfl) rfl rfl rfl rfl rfl rfl rfl rfl rfl rfl rfl rfl rfl rfl rfl rfl (by omega) ?_;exact h.1): p:=h ⟨k⟩
theorem VxG (k:q)(h:W q→p:=by intro h;refine⟨_,_,_,_,.cons (.tmp rfl) .nil,.frz (Yg5 rfl rfl rfl rfl (by rw[Y00])),Yec,by simp,?_⟩;exact h.1): p:=h ⟨k⟩
theorem VfE (k:q)(h:W q→p:=by intro h;refine Ygt YfX (z:=[LV.nils,LV.nils,LV.nils]) (cs:=[_,_,_]) (n:=3) rfl rfl rfl (EvS.nil) rfl rfl ?_;exact h.1): p:=h ⟨k⟩
theorem VkF (k:q)(h:W q→p:=by intro h;refine⟨_,_,_,_,.cons (.cellA (n:=3) rfl rfl rfl (by simp) rfl rfl rfl (YdK rfl)) (.cons (.tmp rfl) .nil),.tup (.aggc (.frz (Frz.aggc (by exact Frz.nils) (Frz.aggc (by exact Frz.nils) (Frz.aggc (by exact Frz.nils) Frz.aggn)))) (.aggc (.frz (.pure rfl)) .aggn)),Yec,by simp,?_⟩;exact h.1): p:=h ⟨k⟩
theorem Vf7 (k:q)(h:W q→p:=by intro h;refine⟨_,_,_,_,.cons (.cellA (n:=3) rfl rfl rfl (by simp) rfl rfl rfl (YdK rfl)) (.cons (.tmp rfl) .nil),.tup (.aggc (.frz (Frz.aggc (by exact Frz.pure rfl) (Frz.aggc (by exact Frz.pure rfl) (Frz.aggc (by exact Frz.pure rfl) Frz.aggn)))) (.aggc (.frz (.pure rfl)) .aggn)),Yec,by simp,?_⟩;exact h.1): p:=h ⟨k⟩
theorem VgE (k:q)(h:W q→p:=by intro h;refine Yg6 YfX rfl (Frz.aggc (by exact YfY rfl) (Frz.aggc (by exact Frz.pure rfl) (Frz.aggn))) (Y5x I hs _) rfl rfl (fun _=>rfl) ?_;exact h.1): p:=h ⟨k⟩
theorem VhE (k:q)(h:W q→p:=by intro h;refine GL.sliceTo YfX (sz:=1) rfl rfl rfl rfl (by intro e he;obtain⟨a,-,rfl⟩:=Ye8.1 he;rfl) (by omega) (by omega) (by rfl) ?_;exact h.1): p:=h ⟨k⟩
theorem VqC (k:q)(h:W q→p:=by intro h;refine GL.sliceFrom YfX (sz:=1) rfl rfl rfl rfl (by intro e he;obtain⟨a,-,rfl⟩:=Ye8.1 he;rfl) (by omega) (by omega) (by rfl) ?_;exact h.1): p:=h ⟨k⟩
theorem VaL (k:q)(h:W q→p:=by intro h;refine Yg6 YfX rfl (Frz.aggc (by exact Frz.pure rfl) (Frz.aggc (by exact Frz.pure rfl) (Frz.aggc (by exact Frz.pure rfl) (Frz.aggn)))) (Y6H ((p.routes.getD c.toNat default).take k.toNat) (by rw[Yek];omega) k (by omega) (by rw[Yek];omega) ((p.routes.getD e.toNat default).drop m.toNat) (by rw[Yez];omega)) rfl rfl (fun _=>rfl) ?_;exact h.1): p:=h ⟨k⟩
theorem VyG (k:q)(h:W q→p:=by intro h;refine GL.insM2 YfX (L:=[]) rfl rfl rfl rfl rfl rfl rfl rfl rfl rfl rfl ?_;exact h.1): p:=h ⟨k⟩
theorem VbL (k:q)(h:W q→p:=by intro h;refine Yg6 YfX rfl (Frz.aggc (by exact Frz.pure rfl) (Frz.aggc (by exact Frz.pure rfl) (Frz.aggc (by exact Frz.pure rfl) (Frz.aggn)))) (Y6H ((p.routes.getD e.toNat default).take m.toNat) (by rw[Yek];omega) m (by omega) (by rw[Yek];omega) ((p.routes.getD c.toNat default).drop k.toNat) (by rw[Yez];omega)) rfl rfl (fun _=>rfl) ?_;exact h.1): p:=h ⟨k⟩
theorem Vq2 (k:q)(h:W q→p:=by intro h;refine Wp.regI Yg7 ?_;exact h.1): p:=h ⟨k⟩
theorem Vm0 (k:q)(h:W q→p:=by intro h;refine GL.assign Yg7 (by conv=>lhs;whnf) ?_;exact h.1): p:=h ⟨k⟩
theorem Vd8 (k:q)(h:W q→p:=by intro h;refine Ygn Yg7 (n:=4) rfl rfl rfl rfl (by simp) rfl rfl rfl ?_;exact h.1): p:=h ⟨k⟩
theorem Vx (k:q)(h:W q→p:=by intro h;refine GL.move Yg7 (by conv=>lhs;whnf) ?_;exact h.1): p:=h ⟨k⟩
theorem Ve8 (k:q)(h:W q→p:=by intro h;refine GL.pick Yg7 rfl (by conv=>lhs;whnf) ?_;exact h.1): p:=h ⟨k⟩
theorem Vf3 (k:q)(h:W q→p:=by intro h;refine GL.bin Yg7 rfl ?_;exact h.1): p:=h ⟨k⟩
theorem VpN (k:q)(h:W q→p:=by intro h;refine Ygd Yg7 (o:=0) rfl rfl rfl rfl (by conv=>lhs;whnf) ?_;exact h.1): p:=h ⟨k⟩
theorem Vt9 (k:q)(h:W q→p:=by intro h;refine Ygr Yg7 rfl rfl rfl rfl (by simp) rfl rfl ?_;exact h.1): p:=h ⟨k⟩
theorem Va5 (k:q)(h:W q→p:=by intro h;refine GL.lenF Yg7 rfl rfl (Y00 _ _) ?_;exact h.1): p:=h ⟨k⟩
theorem VrC (k:q)(h:W q→p:=by intro h;refine Ygn Yg7 (n:=7) rfl rfl rfl rfl (by simp) rfl rfl rfl ?_;exact h.1): p:=h ⟨k⟩
theorem VtO (k:q)(h:W q→p:=by intro h;refine GL.extract Yg7 rfl rfl ?_;exact h.1): p:=h ⟨k⟩
theorem VuO (k:q)(h:W q→p:=by intro h;refine Ygo Yg7 (sz:=1) rfl rfl rfl rfl (by omega) (by (rw[Y00];omega)) (by intro e he;obtain⟨a,-,rfl⟩:=Ye8.1 he;rfl) (by rfl) ?_;exact h.1): p:=h ⟨k⟩
theorem VvO (k:q)(h:W q→p:=by intro h;refine Ygq Yg7 rfl rfl (Y08 (by omega)) rfl ?_;exact h.1): p:=h ⟨k⟩
theorem VlF (k:q)(h:W q→p:=by intro h;refine GL.lookM2 YfX rfl rfl rfl rfl rfl rfl rfl rfl rfl rfl ho ?_;exact h.1): p:=h ⟨k⟩
theorem Vu9 (k:q)(h:W q→p:=by intro h;refine GL.addR Yg7 rfl rfl (by omega) ?_;exact h.1): p:=h ⟨k⟩
theorem VcL (k:q)(h:W q→p:=by intro h;refine Yg6 Yg7 rfl (Frz.aggc (by exact YfY rfl) (Frz.aggc (by exact Frz.pure rfl) (Frz.aggn))) (Y5N p hp _ (by assumption)) rfl rfl (fun _=>rfl) ?_;exact h.1): p:=h ⟨k⟩
theorem VdL (k:q)(h:W q→p:=by intro h;refine Yg6 Yg7 rfl (Frz.aggc (by exact YfY rfl) (Frz.aggc (by exact Frz.pure rfl) (Frz.aggn))) (Y7q I hs _) rfl rfl (fun _=>rfl) ?_;exact h.1): p:=h ⟨k⟩
theorem VeL (k:q)(h:W q→p:=by intro h;refine Yg6 Yg7 rfl (Frz.aggc (by exact YfY rfl) (Frz.aggc (by exact Frz.pure rfl) (Frz.aggn))) (Y5x I hs _) rfl rfl (fun _=>rfl) ?_;exact h.1): p:=h ⟨k⟩
theorem VzG (k:q)(h:W q→p:=by intro h;refine GL.buildSliceN YfX (sz:=1) (z:=[.nils]) rfl rfl rfl rfl (by decide) (by decide) rfl rfl rfl ?_;exact h.1): p:=h ⟨k⟩
theorem VaH (k:q)(h:W q→p:=by intro h;refine GL.appendNs YfX (sz:=1) (z:=[.nils]) rfl rfl rfl rfl rfl (by decide) (YdK rfl) rfl rfl rfl rfl rfl rfl rfl (Y0E _ _ _ _ _ _).symm rfl rfl rfl rfl rfl rfl rfl rfl (by omega) ?_;exact h.1): p:=h ⟨k⟩
theorem VqN (k:q)(h:W q→p:=by intro h;refine YgF Yg7 (cs:=[LV.nils,LV.nils,LV.nils,LV.nils,LV.nils,LV.nils,LV.int .i64 0]) rfl rfl ?_;exact h.1): p:=h ⟨k⟩
theorem VrN (k:q)(h:W q→p:=by intro h;refine Ygy Yg7 (n:=7) rfl rfl rfl rfl rfl rfl rfl (by conv=>lhs;whnf) rfl rfl rfl ?_;exact h.1): p:=h ⟨k⟩
theorem VmF (k:q)(h:W q→p:=by intro h;refine GL.indexAddrN Yg7 (sz:=1) (j:=c) rfl rfl rfl rfl rfl rfl rfl rfl (by omega) (by omega) (by omega) ?_;exact h.1): p:=h ⟨k⟩
theorem VnF (k:q)(h:W q→p:=by intro h;refine GL.indexAddrN Yg7 (sz:=1) (j:=e) rfl rfl rfl rfl rfl rfl rfl rfl (by omega) (by omega) (by omega) ?_;exact h.1): p:=h ⟨k⟩
theorem VfL (k:q)(h:W q→p:=by intro h;refine Ygl Yg7 (sz:=1) (j:=k) rfl rfl rfl rfl rfl rfl rfl rfl (by omega) (by omega) (by omega) ?_;exact h.1): p:=h ⟨k⟩
theorem VgL (k:q)(h:W q→p:=by intro h;refine Ygs Yg7 (n:=1) rfl rfl rfl rfl rfl rfl (Y08 (by omega)) rfl rfl rfl rfl (YdK rfl) rfl (Y0M ni _ _ b) ?_;exact h.1): p:=h ⟨k⟩
theorem VhL (k:q)(h:W q→p:=by intro h;refine Ygl Yg7 (sz:=1) (j:=m) rfl rfl rfl rfl rfl rfl rfl rfl (by omega) (by omega) (by omega) ?_;exact h.1): p:=h ⟨k⟩
theorem VoF (k:q)(h:W q→p:=by intro h;refine Ygr Yg7 rfl rfl rfl rfl (by simp) (Y08 (by rw[Y2K];omega)) rfl ?_;exact h.1): p:=h ⟨k⟩
theorem Vb5 (k:q)(h:W q→p:=by intro h;refine GL.nilCheckR YfX rfl rfl rfl ?_;exact h.1): p:=h ⟨k⟩
theorem VwO (k:q)(h:W q→p:=by intro h;refine Ygd YfX (o:=19) rfl rfl rfl rfl (by conv=>lhs;whnf) ?_;exact h.1): p:=h ⟨k⟩
theorem VbH (k:q)(h:W q→p:=by intro h;refine Yg6 YfX rfl (Frz.aggc (by exact Frz.pure rfl) (Frz.aggn)) (YcL _) rfl rfl (fun _=>rfl) ?_;exact h.1): p:=h ⟨k⟩
theorem VcH (k:q)(h:W q→p:=by intro h;refine Ygx YfX (n:=1) rfl rfl rfl rfl rfl rfl rfl rfl rfl rfl (YdK rfl) (by (conv=>lhs;simp only[YdR,Ye6,YdU,Ye3,YdY,YdW,Yea,YdX,Yeb,YdS,YdT,YdZ,kp,ic,bc])) (by (conv=>lhs;simp only[YdR,Ye6,YdU,Ye3,YdY,YdW,Yea,YdX,Yeb,YdS,YdT,YdZ,kp,ic,bc])) ?_;exact h.1): p:=h ⟨k⟩
theorem VsN (k:q)(h:W q→p:=by intro h;refine GL.nilCheckR Yg7 rfl rfl rfl ?_;exact h.1): p:=h ⟨k⟩
theorem VsC (k:q)(h:W q→p:=by intro h;refine YgA Yg7 (n:=4) rfl rfl rfl rfl (by simp) rfl rfl (YdK rfl) (by (conv=>lhs;simp only[YdR,Ye6,YdU,Ye3,YdY,YdW,Yea,YdX,Yeb,YdS,YdT,YdZ,kp,ic,ei,bc,kd,kt,kh])) ?_;exact h.1): p:=h ⟨k⟩
theorem VtN (k:q)(h:W q→p:=by intro h;refine Ygd Yg7 (o:=11) rfl rfl rfl rfl (by conv=>lhs;whnf) ?_;exact h.1): p:=h ⟨k⟩
theorem VuN (k:q)(h:W q→p:=by intro h;refine YgA Yg7 (n:=7) rfl rfl rfl rfl (by simp) rfl rfl (YdK rfl) (by (conv=>lhs;simp only[YdR,Ye6,YdU,Ye3,YdY,YdW,Yea,YdX,Yeb,YdS,YdT,YdZ,kp,ic,ei,bc,kd,kt,kh])) ?_;exact h.1): p:=h ⟨k⟩
theorem VtC (k:q)(h:W q→p:=by intro h;refine Ygd Yg7 (o:=20) rfl rfl rfl rfl (by conv=>lhs;whnf) ?_;exact h.1): p:=h ⟨k⟩
theorem ViL (k:q)(h:W q→p:=by intro h;refine Yg6 Yg7 rfl (Frz.aggc (by exact Frz.pure rfl) (Frz.aggc (by exact Frz.pure rfl) (Frz.aggn))) (Y1K (drawI (drawI x)) ((freeR I q cars).length:Int) (by omega)) rfl rfl (fun _=>rfl) ?_;exact h.1): p:=h ⟨k⟩
theorem Vg7 (k:q)(h:W q→p:=by intro h;refine YgF Yg7 (cs:=[LV.nils,LV.nils,LV.nils]) rfl rfl ?_;exact h.1): p:=h ⟨k⟩
theorem VvN (k:q)(h:W q→p:=by intro h;refine Ygy Yg7 (n:=3) rfl rfl rfl rfl rfl rfl rfl (by conv=>lhs;whnf) rfl rfl rfl ?_;exact h.1): p:=h ⟨k⟩
theorem VjL (k:q)(h:W q→p:=by intro h;refine Ygn Yg7 (n:=3) rfl rfl rfl rfl (by simp) rfl rfl rfl ?_;exact h.1): p:=h ⟨k⟩
theorem Vh6 (k:q)(h:W q→p:=by intro h;refine RetJX.ret ?_;exact h.1): p:=h ⟨k⟩
theorem VkL (k:q)(h:W q→p:=by intro h;refine⟨_,_,_,_,_,.cons (.tmp rfl) .nil,.aggc (.frz (.pure rfl)) (.aggc (.ptro rfl rfl rfl rfl rfl (.frz (YfY rfl))) .aggn),by simp,by simp,?_⟩;exact h.1): p:=h ⟨k⟩
theorem VxO (k:q)(h:W q→p:=by intro h;refine Ygq YfX rfl rfl (by exact Y08 (by omega)) rfl ?_;exact h.1): p:=h ⟨k⟩
theorem ViE (k:q)(h:W q→p:=by intro h;refine GL.box YfX (by conv=>lhs;whnf) rfl (n:=8) rfl rfl ?_;exact h.1): p:=h ⟨k⟩
theorem VlL (k:q)(h:W q→p:=by intro h;refine Yg6 YfX rfl (Frz.aggc (by exact Frz.pure rfl) (Frz.aggc (by exact Frz.pure rfl) (Frz.aggn))) (Y2n (p.routes.getD x.toNat default) (by omega) c.stop) rfl rfl (fun _=>rfl) ?_;exact h.1): p:=h ⟨k⟩
theorem VmL (k:q)(h:W q→p:=by intro h;refine Yg6 YfX rfl (Frz.aggc (by exact Frz.pure rfl) (Frz.aggc (by exact Frz.pure rfl) (Frz.aggn))) (Y2n (withoutL (p.routes.getD x.toNat default) c.stop) (by omega) (mate I.pairs c.stop)) rfl rfl (fun _=>rfl) ?_;exact h.1): p:=h ⟨k⟩
theorem VuC (k:q)(h:W q→p:=by intro h;refine Ygv YfX rfl (Frz.aggc (YfY rfl) (Frz.aggc (YfY rfl) (Frz.aggc (Frz.pure rfl) (Frz.aggc (Frz.mref rfl rfl rfl rfl) Frz.aggn)))) (YcG I N hb hqI p hpo h20 who _ hLt) rfl rfl rfl rfl ?_;exact h.1): p:=h ⟨k⟩
theorem VpF (k:q)(h:W q→p:=by intro h;refine Ygo YfX (sz:=1) rfl rfl rfl rfl (by omega) (by omega) (by intro e he;obtain⟨a,-,rfl⟩:=Ye8.1 he;rfl) (by rfl) ?_;exact h.1): p:=h ⟨k⟩
theorem VnL (k:q)(h:W q→p:=by intro h;refine Yg9 YfX (sz:=3) (z:=[.int .i64 0,.int .i64 0,.int .i64 0]) (es:=em kh [(⟨c.stop,-1,who⟩:Hold)]) rfl rfl rfl rfl (by decide) (by decide) (by decide) (FrzP.cons (S:=[]) (T:=[]) (YfY rfl) rfl (by decide) rfl (FrzP.nil)) rfl ?_;exact h.1): p:=h ⟨k⟩
theorem VyO (k:q)(h:W q→p:=by intro h;refine Ygt YfX (z:=[LV.nils,LV.nils,LV.nils]) (cs:=[_,_,_]) (n:=3) rfl rfl rfl (EvS.cons (by conv=>lhs;whnf) (EvS.nil)) rfl rfl ?_;exact h.1): p:=h ⟨k⟩
theorem VqF (k:q)(h:W q→p:=by intro h;refine⟨_,_,_,_,.cons (.cellA (n:=3) rfl rfl rfl (by simp) rfl rfl rfl (YdK rfl)) (.cons (.tmp rfl) .nil),.tup (.aggc (.frz (Frz.aggc (by exact Frz.nils) (Frz.aggc (by exact Yg5 rfl rfl rfl rfl (by exact Y00 _ _)) (Frz.aggc (by exact Frz.nils) Frz.aggn)))) (.aggc (.frz (.pure rfl)) .aggn)),Yec,by simp,?_⟩;exact h.1): p:=h ⟨k⟩
theorem VoL (k:q)(h:W q→p:=by intro h;refine Yg9 YfX (sz:=3) (z:=[.int .i64 0,.int .i64 0,.int .i64 0]) (es:=em kh [(⟨c.stop,who,-1⟩:Hold)]) rfl rfl rfl rfl (by decide) (by decide) (by decide) (FrzP.cons (S:=[]) (T:=[]) (YfY rfl) rfl (by decide) rfl (FrzP.nil)) rfl ?_;exact h.1): p:=h ⟨k⟩
theorem VpL (k:q)(h:W q→p:=by intro h;refine Yg9 YfX (sz:=3) (z:=[.int .i64 0,.int .i64 0,.int .i64 0]) (es:=em kh [(⟨c.car,-1,who⟩:Hold)]) rfl rfl rfl rfl (by decide) (by decide) (by decide) (FrzP.cons (S:=[]) (T:=[]) (YfY rfl) rfl (by decide) rfl (FrzP.nil)) rfl ?_;exact h.1): p:=h ⟨k⟩
theorem VrF (k:q)(h:W q→p:=by intro h;refine⟨_,_,_,_,.cons (.cellA (n:=3) rfl rfl rfl (by simp) rfl rfl rfl (YdK rfl)) (.cons (.tmp rfl) .nil),.tup (.aggc (.frz (Frz.aggc (by exact Frz.nils) (Frz.aggc (by exact Frz.nils) (Frz.aggc (by exact Yg5 rfl rfl rfl rfl (by exact Y00 _ _)) Frz.aggn)))) (.aggc (.frz (.pure rfl)) .aggn)),Yec,by simp,?_⟩;exact h.1): p:=h ⟨k⟩
theorem VqL (k:q)(h:W q→p:=by intro h;refine Yg9 YfX (sz:=3) (z:=[.int .i64 0,.int .i64 0,.int .i64 0]) (es:=em kh [(⟨c.car,who,-1⟩:Hold)]) rfl rfl rfl rfl (by decide) (by decide) (by decide) (FrzP.cons (S:=[]) (T:=[]) (YfY rfl) rfl (by decide) rfl (FrzP.nil)) rfl ?_;exact h.1): p:=h ⟨k⟩
theorem VrL (k:q)(h:W q→p:=by intro h;refine Yg6 YfX rfl (Frz.aggc (by exact YfY rfl) (Frz.aggc (by exact Frz.pure rfl) (Frz.aggn))) (Y9r I hs _) rfl rfl (fun _=>rfl) ?_;exact h.1): p:=h ⟨k⟩
theorem VsL (k:q)(h:W q→p:=by intro h;refine Yg9 YfX (sz:=1) (z:=[.int .i64 0]) (es:=em ni [c.stop]) rfl rfl rfl rfl (by decide) (by decide) (by decide) (FrzP.cons (S:=[]) (T:=[]) (Frz.aggc (S:=[]) (T:=[]) (Frz.pure rfl) Frz.aggn) rfl (by decide) rfl (FrzP.nil)) rfl ?_;exact h.1): p:=h ⟨k⟩
theorem VtL (k:q)(h:W q→p:=by intro h;refine Ygv YfX rfl (Frz.aggc (Frz.pure rfl) (Frz.aggc (Frz.pure rfl) (Frz.aggc (Yg5 rfl rfl rfl rfl (Y00 _ _)) Frz.aggn))) (Y6H r (by omega) c.at' hat (by omega) [c.stop] (by simp)) rfl rfl rfl rfl ?_;exact h.1): p:=h ⟨k⟩
theorem VuL (k:q)(h:W q→p:=by intro h;refine Yg9 YfX (sz:=1) (z:=[.int .i64 0]) (es:=em ni [(mate I.pairs c.stop)]) rfl rfl rfl rfl (by decide) (by decide) (by decide) (FrzP.cons (S:=[]) (T:=[]) (Frz.aggc (S:=[]) (T:=[]) (Frz.pure rfl) Frz.aggn) rfl (by decide) rfl (FrzP.nil)) rfl ?_;exact h.1): p:=h ⟨k⟩
theorem VvL (k:q)(h:W q→p:=by intro h;refine Ygv YfX rfl (Frz.aggc (Frz.pure rfl) (Frz.aggc (Frz.pure rfl) (Frz.aggc (Yg5 rfl rfl rfl rfl (Y00 _ _)) Frz.aggn))) (Y6H (withL r c.at'.toNat [c.stop]) (by rw[Y0r];simp only[Yer];omega) c.mate (hpm (by omega)) (by omega) [(mate I.pairs c.stop)] (by simp)) rfl rfl rfl rfl ?_;exact h.1): p:=h ⟨k⟩
theorem VwL (k:q)(h:W q→p:=by intro h;refine Ygv YfX rfl (Frz.aggc (YfY rfl) (Frz.aggc (Frz.mref rfl rfl rfl rfl) Frz.aggn)) (Y1k p hpo h20 (rput c.car r2 L) hLw) rfl rfl rfl rfl ?_;exact h.1): p:=h ⟨k⟩
theorem VxL (k:q)(h:W q→p:=by intro h;refine Yg6 YfX rfl (Frz.aggc (by exact YfY rfl) (Frz.aggn)) (Y4j _ (Y0y h20 hpo.each hLw)) rfl rfl (fun _=>rfl) ?_;exact h.1): p:=h ⟨k⟩
theorem VyL (k:q)(h:W q→p:=by intro h;refine GL.sliceStr YfX (l:=d.toNat) (h:=(d+1).toNat) rfl rfl (YaV rfl (by omega) (by omega)) (YaV rfl (by omega) (by omega)) (by omega) (by show (d+1).toNat≤10;omega) ?_;exact h.1): p:=h ⟨k⟩
theorem VsF (k:q)(h:W q→p:=by intro h;refine Yg6 YfX rfl (Frz.aggn) (Ydi) rfl rfl (fun _=>rfl) ?_;exact h.1): p:=h ⟨k⟩
theorem Vr3 (k:q)(h:W q→p:=by intro h;refine GL.lenStr YfX rfl rfl ?_;exact h.1): p:=h ⟨k⟩
theorem Vi6 (k:q)(h:W q→p:=by intro h;refine GL.indexStr YfX rfl rfl rfl (by omega) (by omega) ?_;exact h.1): p:=h ⟨k⟩
theorem VzL (k:q)(h:W q→p:=by intro h;refine Yg9 YfX (sz:=1) (z:=[LV.str { data:={ toList:=[] } }]) (es:=em nstr [w]) rfl rfl rfl rfl (by decide) (by decide) (by decide) (FrzP.cons (S:=[]) (T:=[]) (YfY rfl) rfl (by decide) rfl (FrzP.nil)) rfl ?_;exact h.1): p:=h ⟨k⟩
theorem VaM (k:q)(h:W q→p:=by intro h;refine Ygj YfX (f:=nstr) (v:=w) (sz:=1) (z:=[.str (ByteArray.mk #[])]) rfl rfl rfl rfl rfl (by decide) (YdK rfl) rfl rfl rfl rfl rfl rfl rfl rfl rfl rfl rfl rfl rfl rfl rfl rfl (by omega) ?_;exact h.1): p:=h ⟨k⟩
theorem VbM (k:q)(h:W q→p:=by intro h;refine Yg8 YfX (α:=Nat × Int) (fun ⟨i,n⟩ st=>(i≤z.1.size)∧∃ m0,st=⟨(updS (updS (updS (updS (fun _=>LV.undef) 0 (.str z.1)) 4 (.bool z.2)) 5 (.int .i64 n)) 6 (.int .i64 (i:Int))),effM m0 []⟩) (fun ⟨i,n⟩=>z.1.size - i) ⟨0,0⟩ ⟨_,lessA,Ye1 _,_,hasA⟩ ?_;exact h.1): p:=h ⟨k⟩
theorem VtF (k:q)(h:W q→p:=by intro h;refine⟨_,_,_,_,.cons (.tmp rfl) (.cons (.tmp rfl) (.cons (.tmp rfl) .nil)),.tup (.aggc (.frz (.pure rfl)) (.aggc (.frz (.pure rfl)) (.aggc (.frz (.pure rfl)) .aggn))),Yec,by simp,?_⟩;exact h.1): p:=h ⟨k⟩
theorem VjE (k:q)(h:W q→p:=by intro h;refine Ygl YfX (sz:=1) (j:=op.toNat) rfl rfl rfl rfl rfl rfl rfl rfl (by omega) (by omega) (by omega) ?_;exact h.1): p:=h ⟨k⟩
theorem Vf8 (k:q)(h:W q→p:=by intro h;refine Ygr YfX rfl rfl rfl rfl (by simp) (Y08 (by omega)) rfl ?_;exact h.1): p:=h ⟨k⟩
theorem VuF (k:q)(h:W q→p:=by intro h;refine YgF YfX (cs:=[LV.int .i64 0,LV.int .i64 0,LV.int .i64 0,LV.int .i64 0,LV.int .i64 0,LV.int .i64 0,LV.int .i64 0,LV.int .i64 0]) rfl rfl ?_;exact h.1): p:=h ⟨k⟩
theorem VdH (k:q)(h:W q→p:=by intro h;refine Ygy YfX (n:=8) rfl rfl rfl rfl rfl rfl rfl (by conv=>lhs;whnf) rfl rfl rfl ?_;exact h.1): p:=h ⟨k⟩
theorem VvC (k:q)(h:W q→p:=by intro h;refine Ygx YfX (n:=1) rfl rfl rfl rfl rfl rfl rfl rfl rfl rfl (YdK rfl) (by (conv=>lhs;simp only[YdR,Ye6,YdU,Ye3,YdY,YdW,Yea,YdX,Yeb,YdS,YdT,YdZ,kc])) (by (conv=>lhs;simp only[YdR,Ye6,YdU,Ye3,YdY,YdW,Yea,YdX,Yeb,YdS,YdT,YdZ,kc])) ?_;exact h.1): p:=h ⟨k⟩
theorem VcM (k:q)(h:W q→p:=by intro h;refine Ygn YfX (n:=8) rfl rfl rfl rfl (by simp) rfl rfl rfl ?_;exact h.1): p:=h ⟨k⟩
theorem VwC (k:q)(h:W q→p:=by intro h;refine⟨_,_,_,_,.cons (.cellA (n:=8) rfl rfl rfl (by simp) rfl rfl rfl (YdK rfl)) .nil,.frz (YfY rfl),Yec,by simp,?_⟩;exact h.1): p:=h ⟨k⟩
theorem Vj6 (k:q)(h:W q→p:=by intro h;refine Ygd YfX (o:=7) rfl rfl rfl rfl (by conv=>lhs;whnf) ?_;exact h.1): p:=h ⟨k⟩
theorem VzO (k:q)(h:W q→p:=by intro h;refine Ygt YfX (z:=[LV.int .i64 0,LV.int .i64 0,LV.int .i64 0,LV.int .i64 0,LV.int .i64 0,LV.int .i64 0,LV.int .i64 0,LV.int .i64 0]) (cs:=[_,_,_,_,_,_,_,_]) (n:=8) rfl rfl rfl (EvS.nil) rfl rfl ?_;exact h.1): p:=h ⟨k⟩
theorem Vg8 (k:q)(h:W q→p:=by intro h;refine⟨_,_,_,_,.cons (.cellA (n:=8) rfl rfl rfl (by simp) rfl rfl rfl (YdK rfl)) (.cons (.tmp rfl) .nil),.tup (.aggc (.frz (YfY rfl)) (.aggc (.frz (.pure rfl)) .aggn)),Yec,by simp,?_⟩;exact h.1): p:=h ⟨k⟩
theorem VeH (k:q)(h:W q→p:=by intro h;refine YgF YfX (cs:=[LV.nils,LV.nils,LV.nils,LV.nilm,LV.nilm]) rfl rfl ?_;exact h.1): p:=h ⟨k⟩
theorem Vs3 (k:q)(h:W q→p:=by intro h;refine Ygy YfX (n:=5) rfl rfl rfl rfl rfl rfl rfl (by conv=>lhs;whnf) rfl rfl rfl ?_;exact h.1): p:=h ⟨k⟩
theorem VfH (k:q)(h:W q→p:=by intro h;refine Ygn YfX (n:=5) rfl rfl rfl rfl (by simp) (by rfl) rfl rfl ?_;exact h.1): p:=h ⟨k⟩
theorem VgH (k:q)(h:W q→p:=by intro h;refine Ygx YfX (n:=1) rfl rfl rfl rfl rfl rfl rfl rfl rfl rfl (YdK rfl) (by (conv=>lhs;simp only[YdR,Ye6,YdU,Ye3,YdY,YdW,Yea,YdX,Yeb,YdS,YdT,YdZ,ke,kd])) (by (conv=>lhs;simp only[YdR,Ye6,YdU,Ye3,YdY,YdW,Yea,YdX,Yeb,YdS,YdT,YdZ,ke,kd])) ?_;exact h.1): p:=h ⟨k⟩
theorem VaP (k:q)(h:W q→p:=by intro h;refine⟨rfl,_,_,.var rfl rfl rfl rfl rfl rfl,(by simp),(by decide),_,_,rfl,rfl,?_⟩;exact h.1): p:=h ⟨k⟩
theorem VdM (k:q)(h:W q→p:=by intro h;refine Ygl YfX (sz:=5) (j:=k) rfl rfl rfl rfl rfl rfl rfl rfl (by omega) (by omega) (by omega) ?_;exact h.1): p:=h ⟨k⟩
theorem VhH (k:q)(h:W q→p:=by intro h;refine GL.putKV YfX (k:=n.1) rfl Y6n rfl rfl rfl rfl rfl rfl rfl rfl rfl ?_;exact h.1): p:=h ⟨k⟩
theorem VkE (k:q)(h:W q→p:=by intro h;refine Yg6 YfX rfl (Frz.aggc (by exact YfY rfl) (Frz.aggc (by exact Frz.pure rfl) (Frz.aggn))) (Yaj p hpo _) rfl rfl (fun _=>rfl) ?_;exact h.1): p:=h ⟨k⟩
theorem VvF (k:q)(h:W q→p:=by intro h;refine goWeak (Weak.frzSlot (j:=15) (l:=.sl (em ni [c.car,c.other])) (Yg5 rfl rfl rfl rfl rfl)) ?_;exact h.1): p:=h ⟨k⟩
theorem VbP (k:q)(h:W q→p:=by intro h;refine Yg6 YfX rfl (Frz.aggc (by exact Frz.pure rfl) (Frz.aggn)) (YdI _) rfl rfl (fun _=>rfl) ?_;exact h.1): p:=h ⟨k⟩
theorem VeM (k:q)(h:W q→p:=by intro h;refine Ygv YfX rfl (Frz.aggc (YfY rfl) (Frz.aggc (YfY rfl) (Frz.aggc (Frz.pure rfl) (Frz.aggc (Frz.pure rfl) (Frz.aggc (Frz.pure rfl) Frz.aggn))))) (YcM I p hpo who _ cars (by omega)) rfl rfl rfl (Ydz _ _ _ _ _ _ _ _) ?_;exact h.1): p:=h ⟨k⟩
theorem VfM (k:q)(h:W q→p:=by intro h;refine Yg8 YfX (α:=Nat × Plan × Int) (fun ⟨k,q,x⟩ st=>(k≤20∧GoodP I q)∧∃ m0,st=⟨(updS (updS (updS (updS (updS (updS (updS (updS (fun _=>LV.undef) 2 (.int .i64 who)) 6 (.ref 384 g6 0 0)) 7 (.ref 448 g7 0 0)) 9 (.ref 576 g9 0 0)) 12 (.ref 768 g12 0 0)) 14 (.ref 896 g14 0 0)) 16 (.ref 4800 g75 0 0)) 17 (.int .i64 (k:Int))),effM m0 [(384,⟨g6,false,.var,4,[ic I]⟩),(448,⟨g7,false,.var,7,[kp p]⟩),(576,⟨g9,false,.var,8,[kc c]⟩),(768,⟨g12,false,.var,3,[[.nils,.nils,.nils]]⟩),(896,⟨g14,false,.var,3,[[.nils,.nils,.nils]]⟩),(4800,⟨g75,false,.var,21,[bc I p q who x cars]⟩)]⟩) (fun ⟨k,q,x⟩=>20 - k) ⟨0,p,_⟩ ⟨_,(YfZ (YfV (YfV (YfV (YfV (YfV (YfV (YfV (YfV (Yg0 _) rfl) rfl) rfl) rfl) rfl) rfl) rfl) rfl) _),⟨Ye1 _,hp⟩,_,(congrArg (St.mk _) (Y01 (YfW rfl (YfW rfl (YfW rfl (YfW rfl (YfW rfl (YfW rfl Yg3))))))).symm)⟩ ?_;exact h.1): p:=h ⟨k⟩
theorem VgM (k:q)(h:W q→p:=by intro h;refine Ygv YfX rfl (Frz.aggc (Frz.ref rfl rfl rfl rfl (YfY rfl)) Frz.aggn) (Y9q I p q hpo h20 (fun r hr=>Ye5 (hq.r100 hcI r hr) (by decide)) who x cars hcl hcq) rfl rfl rfl rfl ?_;exact h.1): p:=h ⟨k⟩
theorem VhM (k:q)(h:W q→p:=by intro h;refine Yg6 YfX rfl (Frz.aggc (by exact YfY rfl) (Frz.aggc (by exact YfY rfl) (Frz.aggc (by exact YfY rfl) (Frz.aggn)))) (Yar I N hb.sq p (turnedD p (delL q cars)) hD.ok (fun t ht=>⟨Ye5 (Y9s hr100 ht) (by decide),Ye5 (Ybv (hq.r100 hcI) hcq ht) (by decide)⟩)) rfl rfl (fun _=>rfl) ?_;exact h.1): p:=h ⟨k⟩
theorem ViM (k:q)(h:W q→p:=by intro h;refine Yg9 YfX (sz:=1) (z:=[.int .i64 0]) (es:=em ni [(gainR I (turnedD p (delL q cars))).1,(gainR I (turnedD p (delL q cars))).2]) rfl rfl rfl rfl (by decide) (by decide) (by decide) (FrzP.cons (S:=[]) (T:=[]) (Frz.aggc (S:=[]) (T:=[]) (Frz.pure rfl) Frz.aggn) rfl (by decide) rfl (FrzP.cons (S:=[]) (T:=[]) (Frz.aggc (S:=[]) (T:=[]) (Frz.pure rfl) Frz.aggn) rfl (by decide) rfl (FrzP.nil))) rfl ?_;exact h.1): p:=h ⟨k⟩
theorem VwF (k:q)(h:W q→p:=by intro h;refine goWeak (Weak.frzSlot (j:=15) (l:=.sl (em ni [c.car])) (Yg5 rfl rfl rfl rfl rfl)) ?_;exact h.1): p:=h ⟨k⟩
theorem VjM (k:q)(h:W q→p:=by intro h;refine Yg6 YfX rfl (Frz.aggc (by exact YfY rfl) (Frz.aggn)) (Y8v p hpo) rfl rfl (fun _=>rfl) ?_;exact h.1): p:=h ⟨k⟩
theorem VxC (k:q)(h:W q→p:=by intro h;refine⟨_,_,_,_,_,.cons (.cellA (n:=3) rfl rfl rfl (by simp) rfl rfl rfl (YdK rfl)) (.cons (.tmp rfl) .nil),.aggc (.tup (.aggc (.frz (Frz.aggc (by exact Frz.nils) (Frz.aggc (by exact Frz.nils) (Frz.aggc (by exact Frz.nils) Frz.aggn)))) (.aggc (.frz (.pure rfl)) .aggn))) (.aggc (.ptro rfl rfl rfl rfl rfl (.aggc (.slo rfl rfl rfl rfl (by rw[Y00];omega)) .aggn)) .aggn),(by decide),(by simp),?_⟩;exact h.1): p:=h ⟨k⟩
theorem VkM (k:q)(h:W q→p:=by intro h;refine Yg6 YfX rfl (Frz.aggc (by exact YfY rfl) (Frz.aggc (by exact Frz.pure rfl) (Frz.aggn))) (Ybi p hpo _) rfl rfl (fun _=>rfl) ?_;exact h.1): p:=h ⟨k⟩
theorem VxF (k:q)(h:W q→p:=by intro h;refine YgA YfX (n:=3) rfl rfl rfl rfl (by simp) rfl rfl (YdK rfl) (by (conv=>lhs;simp only[YdR,Ye6,YdU,Ye3,YdY,YdW,Yea,YdX,Yeb,YdS,YdT,YdZ,ic,ei,kp,kd,kt,kh,kc,bc,ke])) ?_;exact h.1): p:=h ⟨k⟩
theorem VlM (k:q)(h:W q→p:=by intro h;refine Yg6 YfX rfl (Frz.aggc (by exact YfY rfl) (Frz.aggc (by exact Frz.pure rfl) (Frz.aggc (by exact YfY rfl) (Frz.aggn)))) (Y7O p hpo who _ hT.ok) rfl rfl (fun _=>rfl) ?_;exact h.1): p:=h ⟨k⟩
theorem VmM (k:q)(h:W q→p:=by intro h;refine Yg6 YfX rfl (Frz.aggc (by exact YfY rfl) (Frz.aggn)) (Y3K _ hT.ok) rfl rfl (fun _=>rfl) ?_;exact h.1): p:=h ⟨k⟩
theorem VnM (k:q)(h:W q→p:=by intro h;refine⟨_,_,_,_,_,.cons (.cellA (n:=3) rfl rfl rfl (by simp) rfl rfl rfl (YdK rfl)) (.cons (.tmp rfl) .nil),.aggc (.tup (.aggc (.frz (Frz.aggc (by exact Frz.pure rfl) (Frz.aggc (by exact Frz.pure rfl) (Frz.aggc (by exact Frz.pure rfl) Frz.aggn)))) (.aggc (.frz (.pure rfl)) .aggn))) (.aggc (.ptro rfl rfl rfl rfl rfl (.aggc (.slo rfl rfl rfl rfl (by rw[Y00];omega)) .aggn)) .aggn),(by decide),(by simp),?_⟩;exact h.1): p:=h ⟨k⟩
theorem VyC (k:q)(h:W q→p:=by intro h;refine⟨_,_,_,_,_,.cons (.tmp rfl) .nil,.aggc (.frz (.pure rfl)) (.aggc (.ptro rfl rfl rfl rfl rfl (.aggc (.frz (by exact Frz.pure rfl)) (.aggc (.frz (by exact Frz.pure rfl)) (.aggc (.frz (by exact Frz.pure rfl)) (.aggc (.frz (by exact Frz.pure rfl)) (.aggc (.frz (by exact Frz.pure rfl)) (.aggc (.frz (by exact Frz.pure rfl)) (.aggc (.frz (by exact Frz.pure rfl)) (.aggc (.frz (by exact Frz.pure rfl)) (.aggc (.frz (by exact Frz.pure rfl)) (.aggc (.frz (by exact Frz.pure rfl)) (.aggc (.frz (by exact Frz.pure rfl)) (.aggc (.ptro rfl rfl rfl rfl rfl (.aggc (Yg4 rfl rfl rfl rfl rfl rfl (by exact (Y00 _ _).symm)) .aggn)) (.aggc (.ptro rfl rfl rfl rfl rfl (.aggc (Yg4 rfl rfl rfl rfl rfl rfl (by exact (Y00 _ _).symm)) .aggn)) (.aggc (.ptro rfl rfl rfl rfl rfl (.aggc (Yg4 rfl rfl rfl rfl rfl rfl (by exact (Y00 _ _).symm)) .aggn)) (.aggc (.frz (by exact Frz.undU)) (.aggc (.frz (by exact Frz.undU)) (.aggc (.frz (by exact Frz.undU)) (.aggc (.ptro rfl rfl rfl rfl rfl (.aggc (Yg4 rfl rfl rfl rfl rfl rfl (by exact (Y00 _ _).symm)) .aggn)) (.aggc (.ptro rfl rfl rfl rfl rfl (.aggc (Yg4 rfl rfl rfl rfl rfl rfl (by exact (Y00 _ _).symm)) .aggn)) (.aggc (.ptro rfl rfl rfl rfl rfl (.aggc (Yg4 rfl rfl rfl rfl rfl rfl (by exact (Y00 _ _).symm)) .aggn)) (.aggc (.frz (by exact Frz.undU)) (.aggc (.frz (by exact Frz.undU)) (.aggc (.frz (by exact Frz.undU)) .aggn)))))))))))))))))))))))) .aggn),(by decide),(by simp),?_⟩;exact h.1): p:=h ⟨k⟩
theorem VzC (k:q)(h:W q→p:=by intro h;refine Yg6 Yg7 rfl (Frz.aggc (by exact Frz.pure rfl) (Frz.aggn)) (YdI _) rfl rfl (fun _=>rfl) ?_;exact h.1): p:=h ⟨k⟩
theorem ViH (k:q)(h:W q→p:=by intro h;refine GL.callR Yg7 rfl (Frz.aggc (Frz.pure rfl) Frz.aggn) (Ybg line hl) rfl (fun _=>rfl) (fun _ _=>rfl) ?_;exact h.1): p:=h ⟨k⟩
theorem VjH (k:q)(h:W q→p:=by intro h;refine YgF Yg7 (cs:=[LV.int .i64 0,LV.int .i64 0,LV.int .i64 0,LV.int .i64 0,LV.int .i64 0,LV.int .i64 0,LV.int .i64 0,LV.int .i64 0]) rfl rfl ?_;exact h.1): p:=h ⟨k⟩
theorem VkH (k:q)(h:W q→p:=by intro h;refine Ygy Yg7 (n:=8) rfl rfl rfl rfl rfl rfl rfl (by conv=>lhs;whnf) rfl rfl rfl ?_;exact h.1): p:=h ⟨k⟩
theorem VcP (k:q)(h:W q→p:=by intro h;refine YgA Yg7 (n:=4) rfl rfl rfl rfl (by simp) rfl rfl (YdK rfl) (by (conv=>lhs;simp only[YdR,Ye6,YdU,Ye3,YdY,YdW,Yea,YdX,Yeb,YdS,YdT,YdZ,ic,kp,kc,kd,ei,mcs])) ?_;exact h.1): p:=h ⟨k⟩
theorem VdP (k:q)(h:W q→p:=by intro h;refine Ygd Yg7 (o:=4) rfl rfl rfl rfl (by conv=>lhs;whnf) ?_;exact h.1): p:=h ⟨k⟩
theorem VeP (k:q)(h:W q→p:=by intro h;refine YgA Yg7 (n:=7) rfl rfl rfl rfl (by simp) rfl rfl (YdK rfl) (by (conv=>lhs;simp only[YdR,Ye6,YdU,Ye3,YdY,YdW,Yea,YdX,Yeb,YdS,YdT,YdZ,ic,kp,kc,kd,ei,mcs])) ?_;exact h.1): p:=h ⟨k⟩
theorem VfP (k:q)(h:W q→p:=by intro h;refine Ygn Yg7 (n:=8) rfl rfl rfl rfl (by simp) rfl rfl rfl ?_;exact h.1): p:=h ⟨k⟩
theorem VgP (k:q)(h:W q→p:=by intro h;refine GL.indexAddrA Yg7 (sz:=1) (len:=6) rfl rfl rfl rfl rfl rfl (by decide) (by decide) (by conv=>lhs;whnf) ?_;exact h.1): p:=h ⟨k⟩
theorem VhP (k:q)(h:W q→p:=by intro h;refine Ygd Yg7 (o:=17) rfl rfl rfl rfl (by conv=>lhs;whnf) ?_;exact h.1): p:=h ⟨k⟩
theorem ViP (k:q)(h:W q→p:=by intro h;refine Yg6 Yg7 rfl (Frz.aggc (by exact YfY rfl) (Frz.aggc (by exact YfY rfl) (Frz.aggn))) (Y64 p hpo (WfP.shP hp.wf) dl.1 hgd.ok) rfl rfl (fun _=>rfl) ?_;exact h.1): p:=h ⟨k⟩
theorem VjP (k:q)(h:W q→p:=by intro h;refine Wp.regCut Yg7 20 (by decide) rfl (by kernel_rfl) ?_;exact h.1): p:=h ⟨k⟩
theorem VkP (k:q)(h:W q→p:=by intro h;refine Yg6 YfX rfl (Frz.aggc (by exact YfY rfl) (Frz.aggn)) (Y4j dl.1 hgd.ok) rfl rfl (fun _=>rfl) ?_;exact h.1): p:=h ⟨k⟩
theorem VlP (k:q)(h:W q→p:=by intro h;refine⟨_,.nil,?_⟩;exact h.1): p:=h ⟨k⟩
theorem VmP (k:q)(h:W q→p:=by intro h;refine Ygx Yg7 (n:=7) rfl rfl rfl rfl rfl rfl rfl rfl rfl rfl (YdK rfl) (by (conv=>lhs;simp only[YdR,Ye6,YdU,Ye3,YdY,YdW,Yea,YdX,Yeb,YdS,YdT,YdZ,ic,kp,kc,kd,ei,mcs])) (by (conv=>lhs;simp only[YdR,Ye6,YdU,Ye3,YdY,YdW,Yea,YdX,Yeb,YdS,YdT,YdZ,ic,kp,kc,kd,ei,mcs])) ?_;exact h.1): p:=h ⟨k⟩
theorem VoM (k:q)(h:W q→p:=by intro h;refine⟨_,_,_,_,_,.cons (.tmp rfl) .nil,.aggc (.frz (.pure rfl)) (.aggc (.ptro rfl rfl rfl rfl rfl (.aggc (.frz (by exact Frz.pure rfl)) (.aggc (.frz (by exact Frz.pure rfl)) (.aggc (.frz (by exact Frz.pure rfl)) (.aggc (.frz (by exact Frz.pure rfl)) (.aggc (.frz (by exact Frz.pure rfl)) (.aggc (.frz (by exact Frz.pure rfl)) (.aggc (.frz (by exact Frz.pure rfl)) (.aggc (.frz (by exact Frz.pure rfl)) (.aggc (.frz (by exact Frz.pure rfl)) (.aggc (.frz (by exact Frz.pure rfl)) (.aggc (.frz (by exact Frz.pure rfl)) (.aggc (.ptro rfl rfl rfl rfl rfl (.aggc (Yg4 rfl rfl rfl rfl rfl rfl (by rfl)) .aggn)) (.aggc (.ptro rfl rfl rfl rfl rfl (.aggc (Yg4 rfl rfl rfl rfl rfl rfl (by exact (Y00 _ _).symm)) .aggn)) (.aggc (.ptro rfl rfl rfl rfl rfl (.aggc (Yg4 rfl rfl rfl rfl rfl rfl (by exact (Y00 _ _).symm)) .aggn)) (.aggc (.frz (by exact Frz.undU)) (.aggc (.frz (by exact Frz.undU)) (.aggc (.frz (by exact Frz.undU)) (.aggc (.ptro rfl rfl rfl rfl rfl (.aggc (Yg4 rfl rfl rfl rfl rfl rfl (by exact (Y00 _ _).symm)) .aggn)) (.aggc (.ptro rfl rfl rfl rfl rfl (.aggc (Yg4 rfl rfl rfl rfl rfl rfl (by exact (Y00 _ _).symm)) .aggn)) (.aggc (.ptro rfl rfl rfl rfl rfl (.aggc (Yg4 rfl rfl rfl rfl rfl rfl (by exact (Y00 _ _).symm)) .aggn)) (.aggc (.frz (by exact Frz.undU)) (.aggc (.frz (by exact Frz.undU)) (.aggc (.frz (by exact Frz.undU)) .aggn)))))))))))))))))))))))) .aggn),(by decide),(by simp),?_⟩;exact h.1): p:=h ⟨k⟩
theorem VnP (k:q)(h:W q→p:=by intro h;refine Yg6 YfX rfl (Frz.aggc (by exact YfY rfl) (Frz.aggn)) (Ybh dl.1 hgd.ok) rfl rfl (fun _=>rfl) ?_;exact h.1): p:=h ⟨k⟩
theorem VoP (k:q)(h:W q→p:=by intro h;refine Yg6 YfX rfl (Frz.aggc (by exact YfY rfl) (Frz.aggc (by exact Frz.pure rfl) (Frz.aggn))) (YaY p hpo (touchR dl.1) htl) rfl rfl (fun _=>rfl) ?_;exact h.1): p:=h ⟨k⟩
theorem VpP (k:q)(h:W q→p:=by intro h;refine Yg6 YfX rfl (Frz.aggc (by exact YfY rfl) (Frz.aggc (by exact Frz.pure rfl) (Frz.aggn))) (YaY (applyR p (checkD dl.1) dl.1 (tidyD dl.1)).1 hqo (touchR dl.1) htl) rfl rfl (fun _=>rfl) ?_;exact h.1): p:=h ⟨k⟩
theorem VqP (k:q)(h:W q→p:=by intro h;refine Yg6 YfX rfl (Frz.aggc (by exact YfY rfl) (Frz.aggn)) (YcW dl.1 hgd.ok) rfl rfl (fun _=>rfl) ?_;exact h.1): p:=h ⟨k⟩
theorem VrP (k:q)(h:W q→p:=by intro h;refine GL.buildG YfX (z:=[LV.nils,LV.nils,LV.nils,LV.nilm,LV.nilm]) (cs:=[_,_,_,_,_]) rfl rfl (EvS.cons (by conv=>lhs;whnf) (EvS.cons (by conv=>lhs;whnf) (EvS.cons (by conv=>lhs;whnf) EvS.nil))) rfl rfl ?_;exact h.1): p:=h ⟨k⟩
theorem Vh8 (k:q)(h:W q→p:=by intro h;refine Ygn YfX (n:=5) rfl rfl rfl rfl (by simp) rfl rfl rfl ?_;exact h.1): p:=h ⟨k⟩
theorem VlH (k:q)(h:W q→p:=by intro h;refine⟨_,_,_,_,_,.cons (.tmp rfl) .nil,.aggc (.frz (.pure rfl)) (.aggc (.ptro rfl rfl rfl rfl rfl (.aggc (.frz (by exact Frz.pure rfl)) (.aggc (.frz (by exact Frz.pure rfl)) (.aggc (.frz (by exact Frz.pure rfl)) (.aggc (.frz (by exact Frz.pure rfl)) (.aggc (.frz (by exact Frz.pure rfl)) (.aggc (.frz (by exact Frz.pure rfl)) (.aggc (.frz (by exact Frz.pure rfl)) (.aggc (.frz (by exact Frz.pure rfl)) (.aggc (.frz (by exact Frz.pure rfl)) (.aggc (.frz (by exact Frz.pure rfl)) (.aggc (.frz (by exact Frz.pure rfl)) (.aggc (.ptro rfl rfl rfl rfl rfl (.aggc (Yg4 rfl rfl rfl rfl rfl rfl (by rfl)) .aggn)) (.aggc (.ptro rfl rfl rfl rfl rfl (.aggc (Yg4 rfl rfl rfl rfl rfl rfl (by exact (Y00 _ _).symm)) .aggn)) (.aggc (.ptro rfl rfl rfl rfl rfl (.aggc (Yg4 rfl rfl rfl rfl rfl rfl (by exact (Y00 _ _).symm)) .aggn)) (.aggc (.frz (by exact Frz.undU)) (.aggc (.frz (by exact Frz.undU)) (.aggc (.frz (by exact Frz.undU)) (.aggc (.ptro rfl rfl rfl rfl rfl (.aggc (Yg4 rfl rfl rfl rfl rfl rfl (by rfl)) .aggn)) (.aggc (.ptro rfl rfl rfl rfl rfl (.aggc (Yg4 rfl rfl rfl rfl rfl rfl (by exact (Y00 _ _).symm)) .aggn)) (.aggc (.ptro rfl rfl rfl rfl rfl (.aggc (Yg4 rfl rfl rfl rfl rfl rfl (by exact (Y00 _ _).symm)) .aggn)) (.aggc (.frz (by exact Frz.undU)) (.aggc (.frz (by exact Frz.undU)) (.aggc (.frz (by exact Frz.undU)) .aggn)))))))))))))))))))))))) .aggn),(by decide),(by simp),?_⟩;exact h.1): p:=h ⟨k⟩
theorem VpM (k:q)(h:W q→p:=by intro h;refine⟨_,_,_,_,_,.cons (.tmp rfl) .nil,.aggc (.frz (.pure rfl)) (.aggc (.ptro rfl rfl rfl rfl rfl (.aggc (.frz (by exact Frz.pure rfl)) (.aggc (.frz (by exact Frz.pure rfl)) (.aggc (.frz (by exact Frz.pure rfl)) (.aggc (.frz (by exact Frz.pure rfl)) (.aggc (.frz (by exact Frz.pure rfl)) (.aggc (.frz (by exact Frz.pure rfl)) (.aggc (.frz (by exact Frz.pure rfl)) (.aggc (.frz (by exact Frz.pure rfl)) (.aggc (.frz (by exact Frz.pure rfl)) (.aggc (.frz (by exact Frz.pure rfl)) (.aggc (.frz (by exact Frz.pure rfl)) (.aggc (.ptro rfl rfl rfl rfl rfl (.aggc (Yg4 rfl rfl rfl rfl rfl rfl (by exact (Y00 _ _).symm)) .aggn)) (.aggc (.ptro rfl rfl rfl rfl rfl (.aggc (Yg4 rfl rfl rfl rfl rfl rfl (by exact (Y00 _ _).symm)) .aggn)) (.aggc (.ptro rfl rfl rfl rfl rfl (.aggc (Yg4 rfl rfl rfl rfl rfl rfl (by exact (Y00 _ _).symm)) .aggn)) (.aggc (.frz (by exact Frz.undU)) (.aggc (.frz (by exact Frz.undU)) (.aggc (.frz (by exact Frz.undU)) (.aggc (.ptro rfl rfl rfl rfl rfl (.aggc (Yg4 rfl rfl rfl rfl rfl rfl (by rfl)) .aggn)) (.aggc (.ptro rfl rfl rfl rfl rfl (.aggc (Yg4 rfl rfl rfl rfl rfl rfl (by exact (Y00 _ _).symm)) .aggn)) (.aggc (.ptro rfl rfl rfl rfl rfl (.aggc (Yg4 rfl rfl rfl rfl rfl rfl (by exact (Y00 _ _).symm)) .aggn)) (.aggc (.frz (by exact Frz.undU)) (.aggc (.frz (by exact Frz.undU)) (.aggc (.frz (by exact Frz.undU)) .aggn)))))))))))))))))))))))) .aggn),(by decide),(by simp),?_⟩;exact h.1): p:=h ⟨k⟩
theorem VaD (k:q)(h:W q→p:=by intro h;refine GL.callR Yg7 rfl (Frz.aggc (YfY rfl) (Frz.aggc (YfY rfl) (Frz.aggc (Frz.pure rfl) (Frz.aggc (YfY rfl) (Frz.aggc .refU (Frz.aggc .refU Frz.aggn)))))) (Ydf I N hb hqI hs hcI p hp _ (by omega) c hcp.1 hcp.2 (by omega) (by omega)) rfl (fun _=>rfl) (fun _ _=>rfl) ?_;exact h.1): p:=h ⟨k⟩
theorem VmH (k:q)(h:W q→p:=by intro h;refine Ygx YfX (n:=1) rfl rfl rfl rfl rfl rfl rfl rfl rfl rfl (YdK rfl) (by (conv=>lhs;simp only[YdR,Ye6,YdU,Ye3,YdY,YdW,Yea,YdX,Yeb,YdS,YdT,YdZ,kp,ke,kd])) (by (conv=>lhs;simp only[YdR,Ye6,YdU,Ye3,YdY,YdW,Yea,YdX,Yeb,YdS,YdT,YdZ,kp,ke,kd])) ?_;exact h.1): p:=h ⟨k⟩
theorem VqM (k:q)(h:W q→p:=by intro h;refine⟨_,_,_,_,_,.cons (.tmp rfl) .nil,.aggc (.frz (.pure rfl)) (.aggc (.ptro rfl rfl rfl rfl rfl (.aggc (.frz (by exact Frz.pure rfl)) (.aggc (.frz (by exact Frz.pure rfl)) (.aggc (.frz (by exact Frz.pure rfl)) (.aggc (.frz (by exact Frz.pure rfl)) (.aggc (.frz (by exact Frz.pure rfl)) (.aggc (.frz (by exact Frz.pure rfl)) (.aggc (.frz (by exact Frz.pure rfl)) (.aggc (.frz (by exact Frz.pure rfl)) (.aggc (.frz (by exact Frz.pure rfl)) (.aggc (.frz (by exact Frz.pure rfl)) (.aggc (.frz (by exact Frz.pure rfl)) (.aggc (.ptro rfl rfl rfl rfl rfl (.aggc (Yg4 rfl rfl rfl rfl rfl rfl (by exact (Y00 _ _).symm)) .aggn)) (.aggc (.ptro rfl rfl rfl rfl rfl (.aggc (Yg4 rfl rfl rfl rfl rfl rfl (by rfl)) .aggn)) (.aggc (.ptro rfl rfl rfl rfl rfl (.aggc (Yg4 rfl rfl rfl rfl rfl rfl (by exact (Y00 _ _).symm)) .aggn)) (.aggc (.frz (by exact Frz.undU)) (.aggc (.frz (by exact Frz.undU)) (.aggc (.frz (by exact Frz.undU)) (.aggc (.ptro rfl rfl rfl rfl rfl (.aggc (Yg4 rfl rfl rfl rfl rfl rfl (by exact (Y00 _ _).symm)) .aggn)) (.aggc (.ptro rfl rfl rfl rfl rfl (.aggc (Yg4 rfl rfl rfl rfl rfl rfl (by exact (Y00 _ _).symm)) .aggn)) (.aggc (.ptro rfl rfl rfl rfl rfl (.aggc (Yg4 rfl rfl rfl rfl rfl rfl (by exact (Y00 _ _).symm)) .aggn)) (.aggc (.frz (by exact Frz.undU)) (.aggc (.frz (by exact Frz.undU)) (.aggc (.frz (by exact Frz.undU)) .aggn)))))))))))))))))))))))) .aggn),(by decide),(by simp),?_⟩;exact h.1): p:=h ⟨k⟩
theorem VnH (k:q)(h:W q→p:=by intro h;refine⟨_,_,_,_,_,.cons (.tmp rfl) .nil,.aggc (.frz (.pure rfl)) (.aggc (.ptro rfl rfl rfl rfl rfl (.aggc (.frz (by exact Frz.pure rfl)) (.aggc (.frz (by exact Frz.pure rfl)) (.aggc (.frz (by exact Frz.pure rfl)) (.aggc (.frz (by exact Frz.pure rfl)) (.aggc (.frz (by exact Frz.pure rfl)) (.aggc (.frz (by exact Frz.pure rfl)) (.aggc (.frz (by exact Frz.pure rfl)) (.aggc (.frz (by exact Frz.pure rfl)) (.aggc (.frz (by exact Frz.pure rfl)) (.aggc (.frz (by exact Frz.pure rfl)) (.aggc (.frz (by exact Frz.pure rfl)) (.aggc (.ptro rfl rfl rfl rfl rfl (.aggc (Yg4 rfl rfl rfl rfl rfl rfl (by exact (Y00 _ _).symm)) .aggn)) (.aggc (.ptro rfl rfl rfl rfl rfl (.aggc (Yg4 rfl rfl rfl rfl rfl rfl (by rfl)) .aggn)) (.aggc (.ptro rfl rfl rfl rfl rfl (.aggc (Yg4 rfl rfl rfl rfl rfl rfl (by exact (Y00 _ _).symm)) .aggn)) (.aggc (.frz (by exact Frz.undU)) (.aggc (.frz (by exact Frz.undU)) (.aggc (.frz (by exact Frz.undU)) (.aggc (.ptro rfl rfl rfl rfl rfl (.aggc (Yg4 rfl rfl rfl rfl rfl rfl (by exact (Y00 _ _).symm)) .aggn)) (.aggc (.ptro rfl rfl rfl rfl rfl (.aggc (Yg4 rfl rfl rfl rfl rfl rfl (by rfl)) .aggn)) (.aggc (.ptro rfl rfl rfl rfl rfl (.aggc (Yg4 rfl rfl rfl rfl rfl rfl (by exact (Y00 _ _).symm)) .aggn)) (.aggc (.frz (by exact Frz.undU)) (.aggc (.frz (by exact Frz.undU)) (.aggc (.frz (by exact Frz.undU)) .aggn)))))))))))))))))))))))) .aggn),(by decide),(by simp),?_⟩;exact h.1): p:=h ⟨k⟩
theorem VrM (k:q)(h:W q→p:=by intro h;refine⟨_,_,_,_,_,.cons (.tmp rfl) .nil,.aggc (.frz (.pure rfl)) (.aggc (.ptro rfl rfl rfl rfl rfl (.aggc (.frz (by exact Frz.pure rfl)) (.aggc (.frz (by exact Frz.pure rfl)) (.aggc (.frz (by exact Frz.pure rfl)) (.aggc (.frz (by exact Frz.pure rfl)) (.aggc (.frz (by exact Frz.pure rfl)) (.aggc (.frz (by exact Frz.pure rfl)) (.aggc (.frz (by exact Frz.pure rfl)) (.aggc (.frz (by exact Frz.pure rfl)) (.aggc (.frz (by exact Frz.pure rfl)) (.aggc (.frz (by exact Frz.pure rfl)) (.aggc (.frz (by exact Frz.pure rfl)) (.aggc (.ptro rfl rfl rfl rfl rfl (.aggc (Yg4 rfl rfl rfl rfl rfl rfl (by exact (Y00 _ _).symm)) .aggn)) (.aggc (.ptro rfl rfl rfl rfl rfl (.aggc (Yg4 rfl rfl rfl rfl rfl rfl (by exact (Y00 _ _).symm)) .aggn)) (.aggc (.ptro rfl rfl rfl rfl rfl (.aggc (Yg4 rfl rfl rfl rfl rfl rfl (by exact (Y00 _ _).symm)) .aggn)) (.aggc (.frz (by exact Frz.undU)) (.aggc (.frz (by exact Frz.undU)) (.aggc (.frz (by exact Frz.undU)) (.aggc (.ptro rfl rfl rfl rfl rfl (.aggc (Yg4 rfl rfl rfl rfl rfl rfl (by exact (Y00 _ _).symm)) .aggn)) (.aggc (.ptro rfl rfl rfl rfl rfl (.aggc (Yg4 rfl rfl rfl rfl rfl rfl (by rfl)) .aggn)) (.aggc (.ptro rfl rfl rfl rfl rfl (.aggc (Yg4 rfl rfl rfl rfl rfl rfl (by exact (Y00 _ _).symm)) .aggn)) (.aggc (.frz (by exact Frz.undU)) (.aggc (.frz (by exact Frz.undU)) (.aggc (.frz (by exact Frz.undU)) .aggn)))))))))))))))))))))))) .aggn),(by decide),(by simp),?_⟩;exact h.1): p:=h ⟨k⟩
theorem VsM (k:q)(h:W q→p:=by intro h;refine⟨_,_,_,_,_,.cons (.tmp rfl) .nil,.aggc (.frz (.pure rfl)) (.aggc (.ptro rfl rfl rfl rfl rfl (.aggc (.frz (by exact Frz.pure rfl)) (.aggc (.frz (by exact Frz.pure rfl)) (.aggc (.frz (by exact Frz.pure rfl)) (.aggc (.frz (by exact Frz.pure rfl)) (.aggc (.frz (by exact Frz.pure rfl)) (.aggc (.frz (by exact Frz.pure rfl)) (.aggc (.frz (by exact Frz.pure rfl)) (.aggc (.frz (by exact Frz.pure rfl)) (.aggc (.frz (by exact Frz.pure rfl)) (.aggc (.frz (by exact Frz.pure rfl)) (.aggc (.frz (by exact Frz.pure rfl)) (.aggc (.ptro rfl rfl rfl rfl rfl (.aggc (Yg4 rfl rfl rfl rfl rfl rfl (by exact (Y00 _ _).symm)) .aggn)) (.aggc (.ptro rfl rfl rfl rfl rfl (.aggc (Yg4 rfl rfl rfl rfl rfl rfl (by exact (Y00 _ _).symm)) .aggn)) (.aggc (.ptro rfl rfl rfl rfl rfl (.aggc (Yg4 rfl rfl rfl rfl rfl rfl (by rfl)) .aggn)) (.aggc (.frz (by exact Frz.undU)) (.aggc (.frz (by exact Frz.undU)) (.aggc (.frz (by exact Frz.undU)) (.aggc (.ptro rfl rfl rfl rfl rfl (.aggc (Yg4 rfl rfl rfl rfl rfl rfl (by exact (Y00 _ _).symm)) .aggn)) (.aggc (.ptro rfl rfl rfl rfl rfl (.aggc (Yg4 rfl rfl rfl rfl rfl rfl (by exact (Y00 _ _).symm)) .aggn)) (.aggc (.ptro rfl rfl rfl rfl rfl (.aggc (Yg4 rfl rfl rfl rfl rfl rfl (by exact (Y00 _ _).symm)) .aggn)) (.aggc (.frz (by exact Frz.undU)) (.aggc (.frz (by exact Frz.undU)) (.aggc (.frz (by exact Frz.undU)) .aggn)))))))))))))))))))))))) .aggn),(by decide),(by simp),?_⟩;exact h.1): p:=h ⟨k⟩
theorem VoH (k:q)(h:W q→p:=by intro h;refine⟨_,_,_,_,_,.cons (.tmp rfl) .nil,.aggc (.frz (.pure rfl)) (.aggc (.ptro rfl rfl rfl rfl rfl (.aggc (.frz (by exact Frz.pure rfl)) (.aggc (.frz (by exact Frz.pure rfl)) (.aggc (.frz (by exact Frz.pure rfl)) (.aggc (.frz (by exact Frz.pure rfl)) (.aggc (.frz (by exact Frz.pure rfl)) (.aggc (.frz (by exact Frz.pure rfl)) (.aggc (.frz (by exact Frz.pure rfl)) (.aggc (.frz (by exact Frz.pure rfl)) (.aggc (.frz (by exact Frz.pure rfl)) (.aggc (.frz (by exact Frz.pure rfl)) (.aggc (.frz (by exact Frz.pure rfl)) (.aggc (.ptro rfl rfl rfl rfl rfl (.aggc (Yg4 rfl rfl rfl rfl rfl rfl (by exact (Y00 _ _).symm)) .aggn)) (.aggc (.ptro rfl rfl rfl rfl rfl (.aggc (Yg4 rfl rfl rfl rfl rfl rfl (by exact (Y00 _ _).symm)) .aggn)) (.aggc (.ptro rfl rfl rfl rfl rfl (.aggc (Yg4 rfl rfl rfl rfl rfl rfl (by rfl)) .aggn)) (.aggc (.frz (by exact Frz.undU)) (.aggc (.frz (by exact Frz.undU)) (.aggc (.frz (by exact Frz.undU)) (.aggc (.ptro rfl rfl rfl rfl rfl (.aggc (Yg4 rfl rfl rfl rfl rfl rfl (by exact (Y00 _ _).symm)) .aggn)) (.aggc (.ptro rfl rfl rfl rfl rfl (.aggc (Yg4 rfl rfl rfl rfl rfl rfl (by exact (Y00 _ _).symm)) .aggn)) (.aggc (.ptro rfl rfl rfl rfl rfl (.aggc (Yg4 rfl rfl rfl rfl rfl rfl (by rfl)) .aggn)) (.aggc (.frz (by exact Frz.undU)) (.aggc (.frz (by exact Frz.undU)) (.aggc (.frz (by exact Frz.undU)) .aggn)))))))))))))))))))))))) .aggn),(by decide),(by simp),?_⟩;exact h.1): p:=h ⟨k⟩
theorem VtM (k:q)(h:W q→p:=by intro h;refine⟨_,_,_,_,_,.cons (.tmp rfl) .nil,.aggc (.frz (.pure rfl)) (.aggc (.ptro rfl rfl rfl rfl rfl (.aggc (.frz (by exact Frz.pure rfl)) (.aggc (.frz (by exact Frz.pure rfl)) (.aggc (.frz (by exact Frz.pure rfl)) (.aggc (.frz (by exact Frz.pure rfl)) (.aggc (.frz (by exact Frz.pure rfl)) (.aggc (.frz (by exact Frz.pure rfl)) (.aggc (.frz (by exact Frz.pure rfl)) (.aggc (.frz (by exact Frz.pure rfl)) (.aggc (.frz (by exact Frz.pure rfl)) (.aggc (.frz (by exact Frz.pure rfl)) (.aggc (.frz (by exact Frz.pure rfl)) (.aggc (.ptro rfl rfl rfl rfl rfl (.aggc (Yg4 rfl rfl rfl rfl rfl rfl (by exact (Y00 _ _).symm)) .aggn)) (.aggc (.ptro rfl rfl rfl rfl rfl (.aggc (Yg4 rfl rfl rfl rfl rfl rfl (by exact (Y00 _ _).symm)) .aggn)) (.aggc (.ptro rfl rfl rfl rfl rfl (.aggc (Yg4 rfl rfl rfl rfl rfl rfl (by exact (Y00 _ _).symm)) .aggn)) (.aggc (.frz (by exact Frz.undU)) (.aggc (.frz (by exact Frz.undU)) (.aggc (.frz (by exact Frz.undU)) (.aggc (.ptro rfl rfl rfl rfl rfl (.aggc (Yg4 rfl rfl rfl rfl rfl rfl (by exact (Y00 _ _).symm)) .aggn)) (.aggc (.ptro rfl rfl rfl rfl rfl (.aggc (Yg4 rfl rfl rfl rfl rfl rfl (by exact (Y00 _ _).symm)) .aggn)) (.aggc (.ptro rfl rfl rfl rfl rfl (.aggc (Yg4 rfl rfl rfl rfl rfl rfl (by rfl)) .aggn)) (.aggc (.frz (by exact Frz.undU)) (.aggc (.frz (by exact Frz.undU)) (.aggc (.frz (by exact Frz.undU)) .aggn)))))))))))))))))))))))) .aggn),(by decide),(by simp),?_⟩;exact h.1): p:=h ⟨k⟩
theorem Vr2 (k:q)(h:W q→p:=by intro h;refine Yg6 YfX rfl (Frz.aggc (by exact Frz.pure rfl) (Frz.aggc (by exact Frz.pure rfl) (Frz.aggn))) (Y0q _ _ (by omega)) rfl rfl (fun _=>rfl) ?_;exact h.1): p:=h ⟨k⟩
theorem Vx1 (k:q)(h:W q→p:=by intro h;refine Yg6 YfX rfl (Frz.aggc (by exact Frz.pure rfl) (Frz.aggn)) (Y6r _ (by unfold In;omega)) rfl rfl (fun _=>rfl) ?_;exact h.1): p:=h ⟨k⟩
theorem VbD (k:q)(h:W q→p:=by intro h;refine addStrE YfX (na:=1) (nb':=21) (nc:=22) rfl rfl (by decide) (Y0F (by unfold In;omega)) rfl (by decide) ?_;exact h.1): p:=h ⟨k⟩
theorem VuM (k:q)(h:W q→p:=by intro h;refine addStrE YfX (na:=22) (nb':=1) (nc:=23) rfl rfl (by assumption) (by decide) rfl (by decide) ?_;exact h.1): p:=h ⟨k⟩
theorem VvM (k:q)(h:W q→p:=by intro h;refine addStrE YfX (na:=23) (nb':=21) (nc:=44) rfl rfl (by assumption) (Y0F (by unfold In;omega)) rfl (by decide) ?_;exact h.1): p:=h ⟨k⟩
theorem VwM (k:q)(h:W q→p:=by intro h;refine addStrE YfX (na:=44) (nb':=1) (nc:=45) rfl rfl (by assumption) (by decide) rfl (by decide) ?_;exact h.1): p:=h ⟨k⟩
theorem VxM (k:q)(h:W q→p:=by intro h;refine addStrE YfX (na:=45) (nb':=21) (nc:=66) rfl rfl (by assumption) (Y0F (by unfold In;omega)) rfl (by decide) ?_;exact h.1): p:=h ⟨k⟩
theorem VyM (k:q)(h:W q→p:=by intro h;refine addStrE YfX (na:=3) (nb':=88) (nc:=91) rfl rfl (by decide) (by assumption) rfl (by decide) ?_;exact h.1): p:=h ⟨k⟩
theorem VcD (k:q)(h:W q→p:=by intro h;refine addStrE YfX (na:=4) (nb':=21) (nc:=25) rfl rfl (by decide) (Y0F (by unfold In;omega)) rfl (by decide) ?_;exact h.1): p:=h ⟨k⟩
theorem VyF (k:q)(h:W q→p:=by intro h;refine addStrE YfX (na:=5) (nb':=21) (nc:=26) rfl rfl (by decide) (Y0F (by unfold In;omega)) rfl (by decide) ?_;exact h.1): p:=h ⟨k⟩
theorem VpH (k:q)(h:W q→p:=by intro h;refine addStrE YfX (na:=25) (nb':=1) (nc:=26) rfl rfl (by assumption) (by decide) rfl (by decide) ?_;exact h.1): p:=h ⟨k⟩
theorem VqH (k:q)(h:W q→p:=by intro h;refine addStrE YfX (na:=26) (nb':=21) (nc:=47) rfl rfl (by assumption) (Y0F (by unfold In;omega)) rfl (by decide) ?_;exact h.1): p:=h ⟨k⟩
theorem VrH (k:q)(h:W q→p:=by intro h;refine addStrE YfX (na:=47) (nb':=1) (nc:=48) rfl rfl (by assumption) (by decide) rfl (by decide) ?_;exact h.1): p:=h ⟨k⟩
theorem VsH (k:q)(h:W q→p:=by intro h;refine addStrE YfX (na:=48) (nb':=21) (nc:=69) rfl rfl (by assumption) (Y0F (by unfold In;omega)) rfl (by decide) ?_;exact h.1): p:=h ⟨k⟩
theorem VtH (k:q)(h:W q→p:=by intro h;refine addStrE YfX (na:=69) (nb':=22) (nc:=91) rfl rfl (by assumption) (by assumption) rfl (by decide) ?_;exact h.1): p:=h ⟨k⟩
theorem VwN (k:q)(h:W q→p:=by intro h;refine Wp.loopU YfX ?_;exact h.1): p:=h ⟨k⟩
theorem VsP (k:q)(h:W q→p:=by intro h;refine Ygt YfX (z:=[LV.nils]) (cs:=[_]) (n:=1) rfl rfl rfl (EvS.nil) rfl rfl ?_;exact h.1): p:=h ⟨k⟩
theorem VtP (k:q)(h:W q→p:=by intro h;refine GL.box YfX (by conv=>lhs;whnf) rfl (n:=1) rfl rfl ?_;exact h.1): p:=h ⟨k⟩
theorem VuP (k:q)(h:W q→p:=by intro h;refine Ygd YfX (o:=11) rfl rfl rfl rfl (by conv=>lhs;whnf) ?_;exact h.1): p:=h ⟨k⟩
theorem VdD (k:q)(h:W q→p:=by intro h;refine GL.indexAddrA YfX (sz:=1) (len:=6) rfl rfl rfl rfl rfl rfl (by decide) (by decide) (by conv=>lhs;whnf) ?_;exact h.1): p:=h ⟨k⟩
theorem Vc1 (k:q)(h:W q→p:=by intro h;refine Ygx YfX (n:=1) rfl rfl rfl rfl rfl rfl rfl rfl rfl rfl (YdK rfl) (by (conv=>lhs;simp only[YdR,Ye6,YdU,Ye3,YdY,YdW,Yea,YdX,Yeb,YdS,YdT,YdZ,ic,ei,kp,mcs])) (by (conv=>lhs;simp only[YdR,Ye6,YdU,Ye3,YdY,YdW,Yea,YdX,Yeb,YdS,YdT,YdZ,ic,ei,kp,mcs])) ?_;exact h.1): p:=h ⟨k⟩
theorem VeD (k:q)(h:W q→p:=by intro h;refine Ygd YfX (o:=17) rfl rfl rfl rfl (by conv=>lhs;whnf) ?_;exact h.1): p:=h ⟨k⟩
theorem VfD (k:q)(h:W q→p:=by intro h;refine GL.addR YfX rfl rfl (by decide) ?_;exact h.1): p:=h ⟨k⟩
theorem VgD (k:q)(h:W q→p:=by intro h;refine Wp.regCut YfX 27 (by decide) rfl (by kernel_rfl) ?_;exact h.1): p:=h ⟨k⟩
theorem VhD (k:q)(h:W q→p:=by intro h;refine Yg6 YfX rfl (Frz.aggc (Frz.pure rfl) (Frz.aggc (Frz.pure rfl) Frz.aggn)) (Y0q _ 3 (by decide)) rfl rfl (fun _=>rfl) ?_;exact h.1): p:=h ⟨k⟩
theorem VvP (k:q)(h:W q→p:=by intro h;refine YgA YfX (n:=7) rfl rfl rfl rfl (by simp) rfl rfl (YdK rfl) (by (conv=>lhs;simp only[YdR,Ye6,YdU,Ye3,YdY,YdW,Yea,YdX,Yeb,YdS,YdT,YdZ,ic,ei,kp,mcs])) ?_;exact h.1): p:=h ⟨k⟩
theorem ViD (k:q)(h:W q→p:=by intro h;refine Yg6 YfX rfl (Frz.aggc (YfY rfl) (Frz.aggc (YfY rfl) (Frz.aggc (Frz.pure rfl) (Frz.aggc (Frz.pure rfl) (Frz.aggc (Frz.pure rfl) (Frz.aggc (Frz.pure rfl) Frz.aggn)))))) (YcN I N hb hsd hs hcI p hp _ _ _ hi1 hi2 _) rfl rfl (fun _=>rfl) ?_;exact h.1): p:=h ⟨k⟩
theorem VzM (k:q)(h:W q→p:=by intro h;refine⟨rfl,_,_,.var rfl rfl rfl rfl rfl rfl,(by decide),(by decide),_,_,rfl,congrArg _ (YbV _ _ _ _ _ _ _ _ _ _),?_⟩;exact h.1): p:=h ⟨k⟩
theorem VzF (k:q)(h:W q→p:=by intro h;refine⟨_,_,_,_,.cons (.cellA (n:=7) rfl rfl rfl (by simp) rfl rfl rfl (YdK rfl)) (.cons (.tmp rfl) .nil),.tup (.aggc (.frz (Frz.aggc (by exact Frz.pure rfl) (Frz.aggc (by exact Frz.pure rfl) (Frz.aggc (by exact Frz.pure rfl) (Frz.aggc (by exact Frz.pure rfl) (Frz.aggc (by exact Frz.pure rfl) (Frz.aggc (by exact Frz.pure rfl) (Frz.aggc (by exact Frz.pure rfl) Frz.aggn)))))))) (.aggc (.frz .refU) .aggn)),Yec,by simp,?_⟩;exact h.1): p:=h ⟨k⟩
theorem VuH (k:q)(h:W q→p:=by intro h;refine Ygl YfX (sz:=1) (j:=((p.routes.set c []).length - 1)) rfl rfl rfl rfl rfl rfl rfl rfl (by omega) (by omega) (by omega) ?_;exact h.1): p:=h ⟨k⟩
theorem VaG (k:q)(h:W q→p:=by intro h;refine Ygl YfX (sz:=1) (j:=0) rfl rfl rfl rfl rfl rfl rfl rfl (by omega) (by omega) (by omega) ?_;exact h.1): p:=h ⟨k⟩
theorem VaN (k:q)(h:W q→p:=by intro h;refine Ygs YfX (n:=1) rfl rfl rfl rfl rfl rfl (Y08 (by omega)) rfl rfl rfl rfl (YdK rfl) rfl (Y0M nr _ _ ((p.routes.set c []).getD ((p.routes.set c []).length - 1) default)) ?_;exact h.1): p:=h ⟨k⟩
theorem Vj0 (k:q)(h:W q→p:=by intro h;refine Vq0 ?_;refine VqD ?_;exact h.1): p:=h ⟨k⟩
theorem Vc (k:q)(h:W q→p:=by intro h;refine Ve ?_;refine Vf ?_;exact h.1): p:=h ⟨k⟩
theorem Vy (k:q)(h:W q→p:=by intro h;refine Vt ?_;refine Vj0 ?_;exact h.1): p:=h ⟨k⟩
theorem Vw0 (k:q)(h:W q→p:=by intro h;refine VuE ?_;refine VuE ?_;exact h.1): p:=h ⟨k⟩
theorem Vp (k:q)(h:W q→p:=by intro h;refine Vc ?_;refine Va ?_;exact h.1): p:=h ⟨k⟩
theorem Va1 (k:q)(h:W q→p:=by intro h;refine Vy ?_;refine VrD ?_;exact h.1): p:=h ⟨k⟩
theorem Vl1 (k:q)(h:W q→p:=by intro h;refine Vh0 ?_;refine VqD ?_;exact h.1): p:=h ⟨k⟩
theorem Vi8 (k:q)(h:W q→p:=by intro h;refine VlI ?_;refine VlC ?_;exact h.1): p:=h ⟨k⟩
theorem Vg (k:q)(h:W q→p:=by intro h;refine Va ?_;refine Va ?_;exact h.1): p:=h ⟨k⟩
theorem Vz (k:q)(h:W q→p:=by intro h;refine Vw0 ?_;refine Vw0 ?_;exact h.1): p:=h ⟨k⟩
theorem VjD (k:q)(h:W q→p:=by intro h;refine Vu4 ?_;refine VjO ?_;exact h.1): p:=h ⟨k⟩
theorem Vk6 (k:q)(h:W q→p:=by intro h;refine Vj0 ?_;refine Ve ?_;exact h.1): p:=h ⟨k⟩
theorem Vk4 (k:q)(h:W q→p:=by intro h;refine Vd3 ?_;refine Vj0 ?_;exact h.1): p:=h ⟨k⟩
theorem Vl6 (k:q)(h:W q→p:=by intro h;refine Vb ?_;refine Va ?_;exact h.1): p:=h ⟨k⟩
theorem Vh (k:q)(h:W q→p:=by intro h;refine Vl1 ?_;refine Ve ?_;exact h.1): p:=h ⟨k⟩
theorem VlE (k:q)(h:W q→p:=by intro h;refine Vz5 ?_;refine VqD ?_;exact h.1): p:=h ⟨k⟩
theorem VeB (k:q)(h:W q→p:=by intro h;refine Vc ?_;refine Vu ?_;exact h.1): p:=h ⟨k⟩
theorem Vs1 (k:q)(h:W q→p:=by intro h;refine Vd3 ?_;refine Va ?_;exact h.1): p:=h ⟨k⟩
theorem Vh7 (k:q)(h:W q→p:=by intro h;refine VlC ?_;refine Vi8 ?_;exact h.1): p:=h ⟨k⟩
theorem VwP (k:q)(h:W q→p:=by intro h;refine VkO ?_;refine VlO ?_;exact h.1): p:=h ⟨k⟩
theorem VbN (k:q)(h:W q→p:=by intro h;refine VlE ?_;refine Vf ?_;exact h.1): p:=h ⟨k⟩
theorem Vv9 (k:q)(h:W q→p:=by intro h;refine Vy ?_;refine Ve ?_;exact h.1): p:=h ⟨k⟩
theorem VfB (k:q)(h:W q→p:=by intro h;refine Vx ?_;refine VsN ?_;exact h.1): p:=h ⟨k⟩
theorem VxP (k:q)(h:W q→p:=by intro h;refine VwP ?_;refine VlO ?_;exact h.1): p:=h ⟨k⟩
theorem Vi7 (k:q)(h:W q→p:=by intro h;refine VxP ?_;refine VmO ?_;exact h.1): p:=h ⟨k⟩
theorem Vc5 (k:q)(h:W q→p:=by intro h;refine Vc ?_;refine Va1 ?_;exact h.1): p:=h ⟨k⟩
theorem Vx0 (k:q)(h:W q→p:=by intro h;refine Vp0 ?_;refine VqD ?_;exact h.1): p:=h ⟨k⟩
theorem Vh1 (k:q)(h:W q→p:=by intro h;refine Vb ?_;refine Vu ?_;exact h.1): p:=h ⟨k⟩
theorem Vd5 (k:q)(h:W q→p:=by intro h;refine Va ?_;refine Vq0 ?_;exact h.1): p:=h ⟨k⟩
theorem Va0 (k:q)(h:W q→p:=by intro h;refine Vt ?_;refine Vq0 ?_;exact h.1): p:=h ⟨k⟩
theorem Vw9 (k:q)(h:W q→p:=by intro h;refine Vi7 ?_;refine VqD ?_;exact h.1): p:=h ⟨k⟩
theorem Ve5 (k:q)(h:W q→p:=by intro h;refine Vh ?_;refine Vo0 ?_;exact h.1): p:=h ⟨k⟩
theorem Vs2 (k:q)(h:W q→p:=by intro h;refine Vj0 ?_;refine Vo0 ?_;exact h.1): p:=h ⟨k⟩
theorem VyP (k:q)(h:W q→p:=by intro h;refine Vv ?_;refine Vd5 ?_;exact h.1): p:=h ⟨k⟩
theorem VxN (k:q)(h:W q→p:=by intro h;refine VbN ?_;refine VyP ?_;exact h.1): p:=h ⟨k⟩
theorem Vy1 (k:q)(h:W q→p:=by intro h;refine Vb ?_;refine Vh2 ?_;exact h.1): p:=h ⟨k⟩
theorem Vk (k:q)(h:W q→p:=by intro h;refine Vu ?_;refine Vj0 ?_;exact h.1): p:=h ⟨k⟩
theorem Vd (k:q)(h:W q→p:=by intro h;refine VeB ?_;refine Vk6 ?_;exact h.1): p:=h ⟨k⟩
theorem Vj7 (k:q)(h:W q→p:=by intro h;refine Va ?_;refine Vs2 ?_;exact h.1): p:=h ⟨k⟩
theorem Vm6 (k:q)(h:W q→p:=by intro h;refine Vq2 ?_;refine Vx ?_;exact h.1): p:=h ⟨k⟩
theorem Vc0 (k:q)(h:W q→p:=by intro h;refine Vs0 ?_;refine Vh2 ?_;exact h.1): p:=h ⟨k⟩
theorem Vi (k:q)(h:W q→p:=by intro h;refine Vl6 ?_;refine Vb ?_;exact h.1): p:=h ⟨k⟩
theorem VgB (k:q)(h:W q→p:=by intro h;refine VlC ?_;refine Vu4 ?_;exact h.1): p:=h ⟨k⟩
theorem Vf5 (k:q)(h:W q→p:=by intro h;refine Vk4 ?_;refine Vp2 ?_;exact h.1): p:=h ⟨k⟩
theorem Vq (k:q)(h:W q→p:=by intro h;refine Vr0 ?_;refine Vj7 ?_;exact h.1): p:=h ⟨k⟩
theorem Vl4 (k:q)(h:W q→p:=by intro h;refine Ve5 ?_;refine Vc ?_;exact h.1): p:=h ⟨k⟩
theorem Vl (k:q)(h:W q→p:=by intro h;refine Vf ?_;refine Va ?_;exact h.1): p:=h ⟨k⟩
theorem VbG (k:q)(h:W q→p:=by intro h;refine Vj0 ?_;refine VrD ?_;exact h.1): p:=h ⟨k⟩
theorem Vn0 (k:q)(h:W q→p:=by intro h;refine Vw0 ?_;refine VuE ?_;exact h.1): p:=h ⟨k⟩
theorem Vd0 (k:q)(h:W q→p:=by intro h;refine Vy ?_;refine Vp ?_;exact h.1): p:=h ⟨k⟩
theorem Vz1 (k:q)(h:W q→p:=by intro h;refine Vy1 ?_;refine Vb ?_;exact h.1): p:=h ⟨k⟩
theorem Ve0 (k:q)(h:W q→p:=by intro h;refine Vv9 ?_;refine Vp ?_;exact h.1): p:=h ⟨k⟩
theorem Vu0 (k:q)(h:W q→p:=by intro h;refine Vz ?_;refine VuE ?_;exact h.1): p:=h ⟨k⟩
theorem Vm (k:q)(h:W q→p:=by intro h;refine Vu ?_;refine Va ?_;exact h.1): p:=h ⟨k⟩
theorem VzP (k:q)(h:W q→p:=by intro h;refine Vx ?_;refine VfB ?_;exact h.1): p:=h ⟨k⟩
theorem VaQ (k:q)(h:W q→p:=by intro h;refine Vi8 ?_;refine Vh7 ?_;exact h.1): p:=h ⟨k⟩
theorem Vj (k:q)(h:W q→p:=by intro h;refine Vb6 ?_;refine Vh2 ?_;exact h.1): p:=h ⟨k⟩
theorem VbQ (k:q)(h:W q→p:=by intro h;refine VgP ?_;refine Vt9 ?_;exact h.1): p:=h ⟨k⟩
theorem Vg0 (k:q)(h:W q→p:=by intro h;refine Ve ?_;refine Vp ?_;exact h.1): p:=h ⟨k⟩
theorem Vn (k:q)(h:W q→p:=by intro h;refine Vy ?_;refine Vc ?_;exact h.1): p:=h ⟨k⟩
theorem Vv0 (k:q)(h:W q→p:=by intro h;refine Vf ?_;refine Vg ?_;exact h.1): p:=h ⟨k⟩
theorem Vk0 (k:q)(h:W q→p:=by intro h;refine Vz ?_;refine Vz ?_;exact h.1): p:=h ⟨k⟩
theorem Vq1 (k:q)(h:W q→p:=by intro h;refine Va1 ?_;refine VjD ?_;exact h.1): p:=h ⟨k⟩
theorem VmE (k:q)(h:W q→p:=by intro h;refine Vt ?_;refine Vx0 ?_;exact h.1): p:=h ⟨k⟩
theorem VcN (k:q)(h:W q→p:=by intro h;refine Vc ?_;refine Vy6 ?_;exact h.1): p:=h ⟨k⟩
theorem VhB (k:q)(h:W q→p:=by intro h;refine Vm0 ?_;refine VbG ?_;exact h.1): p:=h ⟨k⟩
theorem Vj8 (k:q)(h:W q→p:=by intro h;refine Vj4 ?_;refine Vj4 ?_;exact h.1): p:=h ⟨k⟩
theorem Vw (k:q)(h:W q→p:=by intro h;refine Vs0 ?_;refine VcB ?_;exact h.1): p:=h ⟨k⟩
theorem Vr (k:q)(h:W q→p:=by intro h;refine VeB ?_;refine Vy ?_;exact h.1): p:=h ⟨k⟩
theorem Vl0 (k:q)(h:W q→p:=by intro h;refine Va6 ?_;refine Vh2 ?_;exact h.1): p:=h ⟨k⟩
theorem ViB (k:q)(h:W q→p:=by intro h;refine VaB ?_;refine Va1 ?_;exact h.1): p:=h ⟨k⟩
theorem Vd1 (k:q)(h:W q→p:=by intro h;refine Ve ?_;refine Vc ?_;exact h.1): p:=h ⟨k⟩
theorem VvH (k:q)(h:W q→p:=by intro h;refine VtE ?_;refine Vh4 ?_;exact h.1): p:=h ⟨k⟩
theorem VcQ (k:q)(h:W q→p:=by intro h;refine Vv ?_;refine Va0 ?_;exact h.1): p:=h ⟨k⟩
theorem Ve1 (k:q)(h:W q→p:=by intro h;refine VaQ ?_;refine VjD ?_;exact h.1): p:=h ⟨k⟩
theorem Vi1 (k:q)(h:W q→p:=by intro h;refine Vh1 ?_;refine Vk4 ?_;exact h.1): p:=h ⟨k⟩
theorem Vb0 (k:q)(h:W q→p:=by intro h;refine Vv9 ?_;refine Vc ?_;exact h.1): p:=h ⟨k⟩
theorem VkD (k:q)(h:W q→p:=by intro h;refine Va ?_;refine Vj8 ?_;exact h.1): p:=h ⟨k⟩
theorem Vs (k:q)(h:W q→p:=by intro h;refine Vh0 ?_;refine VxN ?_;exact h.1): p:=h ⟨k⟩
theorem Vn6 (k:q)(h:W q→p:=by intro h;refine Vf5 ?_;refine Vc5 ?_;exact h.1): p:=h ⟨k⟩
theorem VdN (k:q)(h:W q→p:=by intro h;refine VbN ?_;refine Va ?_;exact h.1): p:=h ⟨k⟩
theorem VcG (k:q)(h:W q→p:=by intro h;refine Vh7 ?_;refine Vh7 ?_;exact h.1): p:=h ⟨k⟩
theorem VdQ (k:q)(h:W q→p:=by intro h;refine VfB ?_;refine VdP ?_;exact h.1): p:=h ⟨k⟩
theorem VeQ (k:q)(h:W q→p:=by intro h;refine VdQ ?_;refine VeP ?_;exact h.1): p:=h ⟨k⟩
theorem Vj2 (k:q)(h:W q→p:=by intro h;refine VsP ?_;refine VtP ?_;exact h.1): p:=h ⟨k⟩
theorem Va3 (k:q)(h:W q→p:=by intro h;refine VdN ?_;refine VcQ ?_;exact h.1): p:=h ⟨k⟩
theorem Vf1 (k:q)(h:W q→p:=by intro h;refine Vb ?_;refine Vd3 ?_;exact h.1): p:=h ⟨k⟩
theorem VyN (k:q)(h:W q→p:=by intro h;refine Vi8 ?_;refine VjD ?_;exact h.1): p:=h ⟨k⟩
theorem VfQ (k:q)(h:W q→p:=by intro h;refine Vx ?_;refine VtO ?_;exact h.1): p:=h ⟨k⟩
theorem Vt3 (k:q)(h:W q→p:=by intro h;refine VfQ ?_;refine VtO ?_;exact h.1): p:=h ⟨k⟩
theorem Vo6 (k:q)(h:W q→p:=by intro h;refine Vh1 ?_;refine Vs1 ?_;exact h.1): p:=h ⟨k⟩
theorem Va2 (k:q)(h:W q→p:=by intro h;refine Ve ?_;refine Vq2 ?_;exact h.1): p:=h ⟨k⟩
theorem Vf0 (k:q)(h:W q→p:=by intro h;refine Vl1 ?_;refine Vc ?_;exact h.1): p:=h ⟨k⟩
theorem Vb2 (k:q)(h:W q→p:=by intro h;refine Va1 ?_;refine Vu4 ?_;exact h.1): p:=h ⟨k⟩
theorem Vc2 (k:q)(h:W q→p:=by intro h;refine Vk4 ?_;refine Vw1 ?_;exact h.1): p:=h ⟨k⟩
theorem Vj1 (k:q)(h:W q→p:=by intro h;refine Vg ?_;refine Va ?_;exact h.1): p:=h ⟨k⟩
theorem Vm4 (k:q)(h:W q→p:=by intro h;refine Ve ?_;refine Vi0 ?_;exact h.1): p:=h ⟨k⟩
theorem VwH (k:q)(h:W q→p:=by intro h;refine VmE ?_;refine VrD ?_;exact h.1): p:=h ⟨k⟩
theorem VdG (k:q)(h:W q→p:=by intro h;refine VzP ?_;refine VtN ?_;exact h.1): p:=h ⟨k⟩
theorem Vk2 (k:q)(h:W q→p:=by intro h;refine Ve5 ?_;refine Vp ?_;exact h.1): p:=h ⟨k⟩
theorem Vk7 (k:q)(h:W q→p:=by intro h;refine Vw0 ?_;refine Vs1 ?_;exact h.1): p:=h ⟨k⟩
theorem Vl7 (k:q)(h:W q→p:=by intro h;refine VwD ?_;refine Vh4 ?_;exact h.1): p:=h ⟨k⟩
theorem VnE (k:q)(h:W q→p:=by intro h;refine VcN ?_;refine ViB ?_;exact h.1): p:=h ⟨k⟩
theorem Vg5 (k:q)(h:W q→p:=by intro h;refine VlC ?_;refine VjD ?_;exact h.1): p:=h ⟨k⟩
theorem Vd2 (k:q)(h:W q→p:=by intro h;refine Vd3 ?_;refine Vq1 ?_;exact h.1): p:=h ⟨k⟩
theorem Vg3 (k:q)(h:W q→p:=by intro h;refine VaB ?_;refine Vj0 ?_;exact h.1): p:=h ⟨k⟩
theorem Vu3 (k:q)(h:W q→p:=by intro h;refine Ve3 ?_;refine Vh2 ?_;exact h.1): p:=h ⟨k⟩
theorem Vh3 (k:q)(h:W q→p:=by intro h;refine Vw9 ?_;refine Vp ?_;exact h.1): p:=h ⟨k⟩
theorem VzN (k:q)(h:W q→p:=by intro h;refine VhB ?_;refine Vh6 ?_;exact h.1): p:=h ⟨k⟩
theorem VgQ (k:q)(h:W q→p:=by intro h;refine Vl4 ?_;refine VoO ?_;exact h.1): p:=h ⟨k⟩
theorem VaO (k:q)(h:W q→p:=by intro h;refine VgQ ?_;refine VlN ?_;exact h.1): p:=h ⟨k⟩
theorem VeG (k:q)(h:W q→p:=by intro h;refine VgB ?_;refine VkF ?_;exact h.1): p:=h ⟨k⟩
theorem VhQ (k:q)(h:W q→p:=by intro h;refine VdG ?_;refine VbQ ?_;exact h.1): p:=h ⟨k⟩
theorem ViQ (k:q)(h:W q→p:=by intro h;refine VhQ ?_;refine VzP ?_;exact h.1): p:=h ⟨k⟩
theorem VjQ (k:q)(h:W q→p:=by intro h;refine ViQ ?_;refine VhP ?_;exact h.1): p:=h ⟨k⟩
theorem VkQ (k:q)(h:W q→p:=by intro h;refine VjQ ?_;refine VbQ ?_;exact h.1): p:=h ⟨k⟩
theorem VlQ (k:q)(h:W q→p:=by intro h;refine Vm6 ?_;refine VzN ?_;exact h.1): p:=h ⟨k⟩
theorem Vy0 (k:q)(h:W q→p:=by intro h;refine Vc ?_;refine VnO ?_;exact h.1): p:=h ⟨k⟩
theorem Vm7 (k:q)(h:W q→p:=by intro h;refine Vu0 ?_;refine Vs1 ?_;exact h.1): p:=h ⟨k⟩
theorem Vx9 (k:q)(h:W q→p:=by intro h;refine Vg1 ?_;refine Va ?_;exact h.1): p:=h ⟨k⟩
theorem VjB (k:q)(h:W q→p:=by intro h;refine Ve ?_;refine Vm6 ?_;exact h.1): p:=h ⟨k⟩
theorem Vb1 (k:q)(h:W q→p:=by intro h;refine Vz6 ?_;refine Vj0 ?_;exact h.1): p:=h ⟨k⟩
theorem Vt2 (k:q)(h:W q→p:=by intro h;refine Vz1 ?_;refine Vr0 ?_;exact h.1): p:=h ⟨k⟩
theorem Vu2 (k:q)(h:W q→p:=by intro h;refine VkD ?_;refine Vt ?_;exact h.1): p:=h ⟨k⟩
theorem Vv3 (k:q)(h:W q→p:=by intro h;refine Ve8 ?_;refine Vx ?_;exact h.1): p:=h ⟨k⟩
theorem Vk8 (k:q)(h:W q→p:=by intro h;refine Vf5 ?_;refine Vc ?_;exact h.1): p:=h ⟨k⟩
theorem VlD (k:q)(h:W q→p:=by intro h;refine Vm0 ?_;refine Vx0 ?_;exact h.1): p:=h ⟨k⟩
theorem VmD (k:q)(h:W q→p:=by intro h;refine VfB ?_;refine VpN ?_;exact h.1): p:=h ⟨k⟩
theorem Vi3 (k:q)(h:W q→p:=by intro h;refine Vq0 ?_;refine VxN ?_;exact h.1): p:=h ⟨k⟩
theorem Vl8 (k:q)(h:W q→p:=by intro h;refine Vb ?_;refine Vs0 ?_;exact h.1): p:=h ⟨k⟩
theorem VfG (k:q)(h:W q→p:=by intro h;refine Va1 ?_;refine VcG ?_;exact h.1): p:=h ⟨k⟩
theorem Vk1 (k:q)(h:W q→p:=by intro h;refine Va1 ?_;refine VyN ?_;exact h.1): p:=h ⟨k⟩
theorem Vm8 (k:q)(h:W q→p:=by intro h;refine Vb ?_;refine VcB ?_;exact h.1): p:=h ⟨k⟩
theorem Vh5 (k:q)(h:W q→p:=by intro h;refine Vb ?_;refine Vb6 ?_;exact h.1): p:=h ⟨k⟩
theorem Vm1 (k:q)(h:W q→p:=by intro h;refine Vn0 ?_;refine Vs1 ?_;exact h.1): p:=h ⟨k⟩
theorem Vn1 (k:q)(h:W q→p:=by intro h;refine Vl4 ?_;refine VvH ?_;exact h.1): p:=h ⟨k⟩
theorem Vi5 (k:q)(h:W q→p:=by intro h;refine Vk6 ?_;refine Vc ?_;exact h.1): p:=h ⟨k⟩
theorem Vo1 (k:q)(h:W q→p:=by intro h;refine Vb6 ?_;refine VcB ?_;exact h.1): p:=h ⟨k⟩
theorem VnD (k:q)(h:W q→p:=by intro h;refine Vb ?_;refine Vx ?_;exact h.1): p:=h ⟨k⟩
theorem VmQ (k:q)(h:W q→p:=by intro h;refine VpN ?_;refine Vt9 ?_;exact h.1): p:=h ⟨k⟩
theorem Vj5 (k:q)(h:W q→p:=by intro h;refine Vv9 ?_;refine Vi0 ?_;exact h.1): p:=h ⟨k⟩
theorem VbO (k:q)(h:W q→p:=by intro h;refine Vc5 ?_;refine VjD ?_;exact h.1): p:=h ⟨k⟩
theorem Vr1 (k:q)(h:W q→p:=by intro h;refine Vw9 ?_;refine Vd1 ?_;exact h.1): p:=h ⟨k⟩
theorem VoE (k:q)(h:W q→p:=by intro h;refine VaB ?_;refine VwH ?_;exact h.1): p:=h ⟨k⟩
theorem Vt1 (k:q)(h:W q→p:=by intro h;refine Vw9 ?_;refine VbO ?_;exact h.1): p:=h ⟨k⟩
theorem Vu1 (k:q)(h:W q→p:=by intro h;refine Vl1 ?_;refine Vp ?_;exact h.1): p:=h ⟨k⟩
theorem Vy9 (k:q)(h:W q→p:=by intro h;refine Vb ?_;refine Va6 ?_;exact h.1): p:=h ⟨k⟩
theorem Vn4 (k:q)(h:W q→p:=by intro h;refine Va ?_;refine Vl7 ?_;exact h.1): p:=h ⟨k⟩
theorem Vn7 (k:q)(h:W q→p:=by intro h;refine Va1 ?_;refine VgB ?_;exact h.1): p:=h ⟨k⟩
theorem VeN (k:q)(h:W q→p:=by intro h;refine Vg ?_;refine Vg ?_;exact h.1): p:=h ⟨k⟩
theorem Vz9 (k:q)(h:W q→p:=by intro h;refine VaP ?_;refine Vq0 ?_;exact h.1): p:=h ⟨k⟩
theorem Ve2 (k:q)(h:W q→p:=by intro h;refine Vw9 ?_;refine Vc ?_;exact h.1): p:=h ⟨k⟩
theorem Vf2 (k:q)(h:W q→p:=by intro h;refine Va ?_;refine Vk ?_;exact h.1): p:=h ⟨k⟩
theorem Vg2 (k:q)(h:W q→p:=by intro h;refine Vl6 ?_;refine Vi ?_;exact h.1): p:=h ⟨k⟩
theorem Vp6 (k:q)(h:W q→p:=by intro h;refine VfG ?_;refine Vu4 ?_;exact h.1): p:=h ⟨k⟩
theorem VkB (k:q)(h:W q→p:=by intro h;refine Ve8 ?_;refine Vj0 ?_;exact h.1): p:=h ⟨k⟩
theorem VcO (k:q)(h:W q→p:=by intro h;refine Vm6 ?_;refine VrC ?_;exact h.1): p:=h ⟨k⟩
theorem Vl2 (k:q)(h:W q→p:=by intro h;refine Vc5 ?_;refine Ve1 ?_;exact h.1): p:=h ⟨k⟩
theorem Vm2 (k:q)(h:W q→p:=by intro h;refine Va6 ?_;refine VcB ?_;exact h.1): p:=h ⟨k⟩
theorem VxH (k:q)(h:W q→p:=by intro h;refine Vm4 ?_;refine Vy6 ?_;exact h.1): p:=h ⟨k⟩
theorem VnQ (k:q)(h:W q→p:=by intro h;refine VmD ?_;refine VcP ?_;exact h.1): p:=h ⟨k⟩
theorem VoQ (k:q)(h:W q→p:=by intro h;refine VnQ ?_;refine VeQ ?_;exact h.1): p:=h ⟨k⟩
theorem VpQ (k:q)(h:W q→p:=by intro h;refine VoQ ?_;refine Vx ?_;exact h.1): p:=h ⟨k⟩
theorem VqQ (k:q)(h:W q→p:=by intro h;refine VpQ ?_;refine VfP ?_;exact h.1): p:=h ⟨k⟩
theorem VrQ (k:q)(h:W q→p:=by intro h;refine VqQ ?_;refine VkQ ?_;exact h.1): p:=h ⟨k⟩
theorem VyH (k:q)(h:W q→p:=by intro h;refine VlP ?_;refine Vq0 ?_;exact h.1): p:=h ⟨k⟩
theorem VsQ (k:q)(h:W q→p:=by intro h;refine VcO ?_;refine VsN ?_;exact h.1): p:=h ⟨k⟩
theorem VtQ (k:q)(h:W q→p:=by intro h;refine VsQ ?_;refine VdP ?_;exact h.1): p:=h ⟨k⟩
theorem VuQ (k:q)(h:W q→p:=by intro h;refine VtQ ?_;refine VmP ?_;exact h.1): p:=h ⟨k⟩
theorem VvQ (k:q)(h:W q→p:=by intro h;refine VuQ ?_;refine Vk6 ?_;exact h.1): p:=h ⟨k⟩
theorem VzH (k:q)(h:W q→p:=by intro h;refine VvQ ?_;refine VlQ ?_;exact h.1): p:=h ⟨k⟩
theorem Vn2 (k:q)(h:W q→p:=by intro h;refine VeN ?_;refine Vj2 ?_;exact h.1): p:=h ⟨k⟩
theorem VwQ (k:q)(h:W q→p:=by intro h;refine Vb5 ?_;refine VuP ?_;exact h.1): p:=h ⟨k⟩
theorem Vo2 (k:q)(h:W q→p:=by intro h;refine VwQ ?_;refine VdD ?_;exact h.1): p:=h ⟨k⟩
theorem Vv2 (k:q)(h:W q→p:=by intro h;refine Vr0 ?_;refine Vk ?_;exact h.1): p:=h ⟨k⟩
theorem Vw2 (k:q)(h:W q→p:=by intro h;refine Vc5 ?_;refine Vg5 ?_;exact h.1): p:=h ⟨k⟩
theorem VlB (k:q)(h:W q→p:=by intro h;refine Vj0 ?_;refine Vp ?_;exact h.1): p:=h ⟨k⟩
theorem Vx2 (k:q)(h:W q→p:=by intro h;refine Vt0 ?_;refine Va ?_;exact h.1): p:=h ⟨k⟩
theorem Vy2 (k:q)(h:W q→p:=by intro h;refine Va0 ?_;refine VxN ?_;exact h.1): p:=h ⟨k⟩
theorem Vz2 (k:q)(h:W q→p:=by intro h;refine Vz ?_;refine Vw0 ?_;exact h.1): p:=h ⟨k⟩
theorem VxQ (k:q)(h:W q→p:=by intro h;refine Vp2 ?_;refine Vp ?_;exact h.1): p:=h ⟨k⟩
theorem Vn8 (k:q)(h:W q→p:=by intro h;refine Vy ?_;refine Vo0 ?_;exact h.1): p:=h ⟨k⟩
theorem Vb3 (k:q)(h:W q→p:=by intro h;refine VnI ?_;refine Vh2 ?_;exact h.1): p:=h ⟨k⟩
theorem Vc3 (k:q)(h:W q→p:=by intro h;refine Vz6 ?_;refine Va ?_;exact h.1): p:=h ⟨k⟩
theorem Vo8 (k:q)(h:W q→p:=by intro h;refine Vh1 ?_;refine Vl6 ?_;exact h.1): p:=h ⟨k⟩
theorem VyQ (k:q)(h:W q→p:=by intro h;refine VrO ?_;refine Vq3 ?_;exact h.1): p:=h ⟨k⟩
theorem VpE (k:q)(h:W q→p:=by intro h;refine VnD ?_;refine Vb ?_;exact h.1): p:=h ⟨k⟩
theorem VoD (k:q)(h:W q→p:=by intro h;refine Vi8 ?_;refine Vu4 ?_;exact h.1): p:=h ⟨k⟩
theorem VdO (k:q)(h:W q→p:=by intro h;refine VbP ?_;refine VoE ?_;exact h.1): p:=h ⟨k⟩
theorem VmB (k:q)(h:W q→p:=by intro h;refine Vd0 ?_;refine Va ?_;exact h.1): p:=h ⟨k⟩
theorem Vj3 (k:q)(h:W q→p:=by intro h;refine VaO ?_;refine VmN ?_;exact h.1): p:=h ⟨k⟩
theorem Vk3 (k:q)(h:W q→p:=by intro h;refine Vn0 ?_;refine Vn6 ?_;exact h.1): p:=h ⟨k⟩
theorem Vl3 (k:q)(h:W q→p:=by intro h;refine Vb ?_;refine Vz6 ?_;exact h.1): p:=h ⟨k⟩
theorem Vm3 (k:q)(h:W q→p:=by intro h;refine Vy ?_;refine Vv0 ?_;exact h.1): p:=h ⟨k⟩
theorem Vn3 (k:q)(h:W q→p:=by intro h;refine Vl6 ?_;refine Vo6 ?_;exact h.1): p:=h ⟨k⟩
theorem VaI (k:q)(h:W q→p:=by intro h;refine Vg ?_;refine Vv ?_;exact h.1): p:=h ⟨k⟩
theorem VaA (k:q)(h:W q→p:=by intro h;refine Vm0 ?_;refine Vk6 ?_;exact h.1): p:=h ⟨k⟩
theorem VbI (k:q)(h:W q→p:=by intro h;refine Va2 ?_;refine VhB ?_;exact h.1): p:=h ⟨k⟩
theorem VcI (k:q)(h:W q→p:=by intro h;refine Vf3 ?_;refine Vj0 ?_;exact h.1): p:=h ⟨k⟩
theorem VdI (k:q)(h:W q→p:=by intro h;refine VwD ?_;refine VxO ?_;exact h.1): p:=h ⟨k⟩
theorem Vo3 (k:q)(h:W q→p:=by intro h;refine VnE ?_;refine VeG ?_;exact h.1): p:=h ⟨k⟩
theorem VnB (k:q)(h:W q→p:=by intro h;refine VxH ?_;refine VdO ?_;exact h.1): p:=h ⟨k⟩
theorem VzQ (k:q)(h:W q→p:=by intro h;refine VyH ?_;refine Vx0 ?_;exact h.1): p:=h ⟨k⟩
theorem Vp3 (k:q)(h:W q→p:=by intro h;refine VzQ ?_;refine VzH ?_;exact h.1): p:=h ⟨k⟩
theorem Vw3 (k:q)(h:W q→p:=by intro h;refine Vc ?_;refine Ve0 ?_;exact h.1): p:=h ⟨k⟩
theorem Vx3 (k:q)(h:W q→p:=by intro h;refine Vc0 ?_;refine Vq ?_;exact h.1): p:=h ⟨k⟩
theorem Vy3 (k:q)(h:W q→p:=by intro h;refine Vf ?_;refine VnO ?_;exact h.1): p:=h ⟨k⟩
theorem Vz3 (k:q)(h:W q→p:=by intro h;refine Vg3 ?_;refine Vc ?_;exact h.1): p:=h ⟨k⟩
theorem Va4 (k:q)(h:W q→p:=by intro h;refine Vj0 ?_;refine Vc ?_;exact h.1): p:=h ⟨k⟩
theorem Vb4 (k:q)(h:W q→p:=by intro h;refine Vh3 ?_;refine Vb2 ?_;exact h.1): p:=h ⟨k⟩
theorem VqE (k:q)(h:W q→p:=by intro h;refine Vt ?_;refine VmE ?_;exact h.1): p:=h ⟨k⟩
theorem Vc4 (k:q)(h:W q→p:=by intro h;refine Vi ?_;refine Vs0 ?_;exact h.1): p:=h ⟨k⟩
theorem Vd4 (k:q)(h:W q→p:=by intro h;refine VbG ?_;refine Vu4 ?_;exact h.1): p:=h ⟨k⟩
theorem Ve4 (k:q)(h:W q→p:=by intro h;refine Vc2 ?_;refine Vh0 ?_;exact h.1): p:=h ⟨k⟩
theorem Vf4 (k:q)(h:W q→p:=by intro h;refine Vl8 ?_;refine Vm8 ?_;exact h.1): p:=h ⟨k⟩
theorem Vg4 (k:q)(h:W q→p:=by intro h;refine Vp0 ?_;refine Vz5 ?_;exact h.1): p:=h ⟨k⟩
theorem Vo4 (k:q)(h:W q→p:=by intro h;refine Vp ?_;refine Va ?_;exact h.1): p:=h ⟨k⟩
theorem Vp4 (k:q)(h:W q→p:=by intro h;refine Vb ?_;refine Vh4 ?_;exact h.1): p:=h ⟨k⟩
theorem Vq4 (k:q)(h:W q→p:=by intro h;refine Vi0 ?_;refine Vg ?_;exact h.1): p:=h ⟨k⟩
theorem Vr4 (k:q)(h:W q→p:=by intro h;refine Vg ?_;refine Vp1 ?_;exact h.1): p:=h ⟨k⟩
theorem Vs4 (k:q)(h:W q→p:=by intro h;refine Vt0 ?_;refine Vg1 ?_;exact h.1): p:=h ⟨k⟩
theorem VrE (k:q)(h:W q→p:=by intro h;refine Vn6 ?_;refine VgB ?_;exact h.1): p:=h ⟨k⟩
theorem VpD (k:q)(h:W q→p:=by intro h;refine VmQ ?_;refine Vx ?_;exact h.1): p:=h ⟨k⟩
theorem Vt4 (k:q)(h:W q→p:=by intro h;refine VtE ?_;refine VxO ?_;exact h.1): p:=h ⟨k⟩
theorem Vk5 (k:q)(h:W q→p:=by intro h;refine Vg0 ?_;refine Va ?_;exact h.1): p:=h ⟨k⟩
theorem VaR (k:q)(h:W q→p:=by intro h;refine Vk2 ?_;refine VvH ?_;exact h.1): p:=h ⟨k⟩
theorem Vl5 (k:q)(h:W q→p:=by intro h;refine VaR ?_;refine Vt ?_;exact h.1): p:=h ⟨k⟩
theorem Vm5 (k:q)(h:W q→p:=by intro h;refine VaQ ?_;refine Vu4 ?_;exact h.1): p:=h ⟨k⟩
theorem Vn5 (k:q)(h:W q→p:=by intro h;refine Vy9 ?_;refine Vz1 ?_;exact h.1): p:=h ⟨k⟩
theorem Vo5 (k:q)(h:W q→p:=by intro h;refine Vc0 ?_;refine Vr0 ?_;exact h.1): p:=h ⟨k⟩
theorem VeI (k:q)(h:W q→p:=by intro h;refine VnN ?_;refine Vi4 ?_;exact h.1): p:=h ⟨k⟩
theorem Vp5 (k:q)(h:W q→p:=by intro h;refine Vc0 ?_;refine Va ?_;exact h.1): p:=h ⟨k⟩
theorem Vq5 (k:q)(h:W q→p:=by intro h;refine Va0 ?_;refine Va3 ?_;exact h.1): p:=h ⟨k⟩
theorem VgG (k:q)(h:W q→p:=by intro h;refine Vu ?_;refine Vy ?_;exact h.1): p:=h ⟨k⟩
theorem Vr5 (k:q)(h:W q→p:=by intro h;refine Vt ?_;refine Vt ?_;exact h.1): p:=h ⟨k⟩
theorem Vs5 (k:q)(h:W q→p:=by intro h;refine Vp0 ?_;refine VxN ?_;exact h.1): p:=h ⟨k⟩
theorem Vt5 (k:q)(h:W q→p:=by intro h;refine Vl6 ?_;refine Vi1 ?_;exact h.1): p:=h ⟨k⟩
theorem VhG (k:q)(h:W q→p:=by intro h;refine Vk7 ?_;refine Vk0 ?_;exact h.1): p:=h ⟨k⟩
theorem VeO (k:q)(h:W q→p:=by intro h;refine Vp2 ?_;refine Vl1 ?_;exact h.1): p:=h ⟨k⟩
theorem VfI (k:q)(h:W q→p:=by intro h;refine Ve ?_;refine Ve ?_;exact h.1): p:=h ⟨k⟩
theorem VbR (k:q)(h:W q→p:=by intro h;refine VkB ?_;refine Vp2 ?_;exact h.1): p:=h ⟨k⟩
theorem VgI (k:q)(h:W q→p:=by intro h;refine VbR ?_;refine VbI ?_;exact h.1): p:=h ⟨k⟩
theorem Vu5 (k:q)(h:W q→p:=by intro h;refine VuO ?_;refine VvO ?_;exact h.1): p:=h ⟨k⟩
theorem Vv5 (k:q)(h:W q→p:=by intro h;refine Vx ?_;refine Vx ?_;exact h.1): p:=h ⟨k⟩
theorem VhI (k:q)(h:W q→p:=by intro h;refine VjB ?_;refine VcI ?_;exact h.1): p:=h ⟨k⟩
theorem VsE (k:q)(h:W q→p:=by intro h;refine Vb5 ?_;refine Vw ?_;exact h.1): p:=h ⟨k⟩
theorem Vw5 (k:q)(h:W q→p:=by intro h;refine Vz9 ?_;refine Vt3 ?_;exact h.1): p:=h ⟨k⟩
theorem Vx5 (k:q)(h:W q→p:=by intro h;refine Vb5 ?_;refine VeD ?_;exact h.1): p:=h ⟨k⟩
theorem Vy5 (k:q)(h:W q→p:=by intro h;refine VaI ?_;refine VdI ?_;exact h.1): p:=h ⟨k⟩
theorem Vq6 (k:q)(h:W q→p:=by intro h;refine Vf ?_;refine Vo ?_;exact h.1): p:=h ⟨k⟩
theorem ViI (k:q)(h:W q→p:=by intro h;refine Vf1 ?_;refine Vk4 ?_;exact h.1): p:=h ⟨k⟩
theorem VfO (k:q)(h:W q→p:=by intro h;refine VwP ?_;refine VmO ?_;exact h.1): p:=h ⟨k⟩
theorem Vr6 (k:q)(h:W q→p:=by intro h;refine Vc5 ?_;refine VyN ?_;exact h.1): p:=h ⟨k⟩
theorem Vs6 (k:q)(h:W q→p:=by intro h;refine Vq9 ?_;refine Vh2 ?_;exact h.1): p:=h ⟨k⟩
theorem Vt6 (k:q)(h:W q→p:=by intro h;refine VaO ?_;refine VsO ?_;exact h.1): p:=h ⟨k⟩
theorem Vu6 (k:q)(h:W q→p:=by intro h;refine Vk6 ?_;refine VeO ?_;exact h.1): p:=h ⟨k⟩
theorem VfN (k:q)(h:W q→p:=by intro h;refine Vf ?_;refine Vy6 ?_;exact h.1): p:=h ⟨k⟩
theorem ViG (k:q)(h:W q→p:=by intro h;refine Vv3 ?_;refine Vz ?_;exact h.1): p:=h ⟨k⟩
theorem Vv6 (k:q)(h:W q→p:=by intro h;refine VpE ?_;refine Vf3 ?_;exact h.1): p:=h ⟨k⟩
theorem VgN (k:q)(h:W q→p:=by intro h;refine VlC ?_;refine Vh6 ?_;exact h.1): p:=h ⟨k⟩
theorem Vo7 (k:q)(h:W q→p:=by intro h;refine Vl6 ?_;refine Vl6 ?_;exact h.1): p:=h ⟨k⟩
theorem Vp7 (k:q)(h:W q→p:=by intro h;refine Vc ?_;refine Vw6 ?_;exact h.1): p:=h ⟨k⟩
theorem Vq7 (k:q)(h:W q→p:=by intro h;refine Vh5 ?_;refine Vz1 ?_;exact h.1): p:=h ⟨k⟩
theorem Vr7 (k:q)(h:W q→p:=by intro h;refine Vu0 ?_;refine Vd2 ?_;exact h.1): p:=h ⟨k⟩
theorem Vs7 (k:q)(h:W q→p:=by intro h;refine Vr0 ?_;refine Vv ?_;exact h.1): p:=h ⟨k⟩
theorem Vt7 (k:q)(h:W q→p:=by intro h;refine VlC ?_;refine VlI ?_;exact h.1): p:=h ⟨k⟩
theorem Vu7 (k:q)(h:W q→p:=by intro h;refine Vl0 ?_;refine Vq ?_;exact h.1): p:=h ⟨k⟩
theorem Vv7 (k:q)(h:W q→p:=by intro h;refine Vd0 ?_;refine Vm ?_;exact h.1): p:=h ⟨k⟩
theorem VgO (k:q)(h:W q→p:=by intro h;refine VlB ?_;refine Vs2 ?_;exact h.1): p:=h ⟨k⟩
theorem Vw7 (k:q)(h:W q→p:=by intro h;refine Vh0 ?_;refine Vz5 ?_;exact h.1): p:=h ⟨k⟩
theorem Vx7 (k:q)(h:W q→p:=by intro h;refine VfO ?_;refine VqD ?_;exact h.1): p:=h ⟨k⟩
theorem VcR (k:q)(h:W q→p:=by intro h;refine Vt ?_;refine Vn7 ?_;exact h.1): p:=h ⟨k⟩
theorem VjI (k:q)(h:W q→p:=by intro h;refine VcR ?_;refine Vv4 ?_;exact h.1): p:=h ⟨k⟩
theorem Vy7 (k:q)(h:W q→p:=by intro h;refine VaB ?_;refine Vi5 ?_;exact h.1): p:=h ⟨k⟩
theorem Vz7 (k:q)(h:W q→p:=by intro h;refine Vd3 ?_;refine Vx0 ?_;exact h.1): p:=h ⟨k⟩
theorem VdR (k:q)(h:W q→p:=by intro h;refine VnE ?_;refine Vh7 ?_;exact h.1): p:=h ⟨k⟩
theorem VeR (k:q)(h:W q→p:=by intro h;refine VdR ?_;refine Vu4 ?_;exact h.1): p:=h ⟨k⟩
theorem Va8 (k:q)(h:W q→p:=by intro h;refine VeR ?_;refine VkF ?_;exact h.1): p:=h ⟨k⟩
theorem VhN (k:q)(h:W q→p:=by intro h;refine ViB ?_;refine VoD ?_;exact h.1): p:=h ⟨k⟩
theorem Vb8 (k:q)(h:W q→p:=by intro h;refine Vy ?_;refine Vw1 ?_;exact h.1): p:=h ⟨k⟩
theorem VhO (k:q)(h:W q→p:=by intro h;refine Vl1 ?_;refine VxQ ?_;exact h.1): p:=h ⟨k⟩
theorem VfR (k:q)(h:W q→p:=by intro h;refine Vb5 ?_;refine Vq9 ?_;exact h.1): p:=h ⟨k⟩
theorem Vc8 (k:q)(h:W q→p:=by intro h;refine VfR ?_;refine VvP ?_;exact h.1): p:=h ⟨k⟩
theorem Vp8 (k:q)(h:W q→p:=by intro h;refine Ve0 ?_;refine Vq ?_;exact h.1): p:=h ⟨k⟩
theorem ViN (k:q)(h:W q→p:=by intro h;refine VcG ?_;refine VjD ?_;exact h.1): p:=h ⟨k⟩
theorem Vq8 (k:q)(h:W q→p:=by intro h;refine Vl1 ?_;refine Vv0 ?_;exact h.1): p:=h ⟨k⟩
theorem Vr8 (k:q)(h:W q→p:=by intro h;refine Vc ?_;refine VeI ?_;exact h.1): p:=h ⟨k⟩
theorem VjN (k:q)(h:W q→p:=by intro h;refine Vb ?_;refine Vr0 ?_;exact h.1): p:=h ⟨k⟩
theorem Vs8 (k:q)(h:W q→p:=by intro h;refine Vf ?_;refine VyP ?_;exact h.1): p:=h ⟨k⟩
theorem Vt8 (k:q)(h:W q→p:=by intro h;refine Vj ?_;refine Va ?_;exact h.1): p:=h ⟨k⟩
theorem Vu8 (k:q)(h:W q→p:=by intro h;refine Vk6 ?_;refine Vi0 ?_;exact h.1): p:=h ⟨k⟩
theorem Vv8 (k:q)(h:W q→p:=by intro h;refine Vi0 ?_;refine Vj1 ?_;exact h.1): p:=h ⟨k⟩
theorem Vw8 (k:q)(h:W q→p:=by intro h;refine Vl ?_;refine VcQ ?_;exact h.1): p:=h ⟨k⟩
theorem VkN (k:q)(h:W q→p:=by intro h;refine VgI ?_;refine VgB ?_;exact h.1): p:=h ⟨k⟩
theorem Vx8 (k:q)(h:W q→p:=by intro h;refine Vq0 ?_;refine VlE ?_;exact h.1): p:=h ⟨k⟩
theorem Vy8 (k:q)(h:W q→p:=by intro h;refine Vb5 ?_;refine VwO ?_;exact h.1): p:=h ⟨k⟩
theorem Vz8 (k:q)(h:W q→p:=by intro h;refine Ve ?_;refine Vr ?_;exact h.1): p:=h ⟨k⟩
theorem VgR (k:q)(h:W q→p:=by intro h;refine VaP ?_;refine VkD ?_;exact h.1): p:=h ⟨k⟩
theorem Va9 (k:q)(h:W q→p:=by intro h;refine VgR ?_;refine VeH ?_;exact h.1): p:=h ⟨k⟩
theorem Vb9 (k:q)(h:W q→p:=by intro h;refine VgN ?_;refine VyC ?_;exact h.1): p:=h ⟨k⟩
theorem Vc9 (k:q)(h:W q→p:=by intro h;refine VrQ ?_;refine Vp0 ?_;exact h.1): p:=h ⟨k⟩
theorem Vd9 (k:q)(h:W q→p:=by intro h;refine VrQ ?_;refine Vg7 ?_;exact h.1): p:=h ⟨k⟩
theorem VhR (k:q)(h:W q→p:=by intro h;refine VvN ?_;refine VlD ?_;exact h.1): p:=h ⟨k⟩
theorem Ve9 (k:q)(h:W q→p:=by intro h;refine VhR ?_;refine VfI ?_;exact h.1): p:=h ⟨k⟩
theorem ViR (k:q)(h:W q→p:=by intro h;refine Vi0 ?_;refine VeQ ?_;exact h.1): p:=h ⟨k⟩
theorem VjR (k:q)(h:W q→p:=by intro h;refine ViR ?_;refine VjL ?_;exact h.1): p:=h ⟨k⟩
theorem VkR (k:q)(h:W q→p:=by intro h;refine VjR ?_;refine ViP ?_;exact h.1): p:=h ⟨k⟩
theorem VlR (k:q)(h:W q→p:=by intro h;refine VkR ?_;refine Vt3 ?_;exact h.1): p:=h ⟨k⟩
theorem Vf9 (k:q)(h:W q→p:=by intro h;refine VlR ?_;refine VqN ?_;exact h.1): p:=h ⟨k⟩
theorem VmR (k:q)(h:W q→p:=by intro h;refine VrN ?_;refine VlD ?_;exact h.1): p:=h ⟨k⟩
theorem Vg9 (k:q)(h:W q→p:=by intro h;refine VmR ?_;refine VhI ?_;exact h.1): p:=h ⟨k⟩
theorem VnR (k:q)(h:W q→p:=by intro h;refine VjP ?_;refine VmQ ?_;exact h.1): p:=h ⟨k⟩
theorem VoR (k:q)(h:W q→p:=by intro h;refine VnR ?_;refine VjL ?_;exact h.1): p:=h ⟨k⟩
theorem VpR (k:q)(h:W q→p:=by intro h;refine VoR ?_;refine VeQ ?_;exact h.1): p:=h ⟨k⟩
theorem VqR (k:q)(h:W q→p:=by intro h;refine VpR ?_;refine VrC ?_;exact h.1): p:=h ⟨k⟩
theorem VrR (k:q)(h:W q→p:=by intro h;refine VqR ?_;refine VkQ ?_;exact h.1): p:=h ⟨k⟩
theorem Vh9 (k:q)(h:W q→p:=by intro h;refine VrR ?_;refine Vp0 ?_;exact h.1): p:=h ⟨k⟩
theorem VsR (k:q)(h:W q→p:=by intro h;refine Vk6 ?_;refine VcN ?_;exact h.1): p:=h ⟨k⟩
theorem VtR (k:q)(h:W q→p:=by intro h;refine VsR ?_;refine VkP ?_;exact h.1): p:=h ⟨k⟩
theorem Vi9 (k:q)(h:W q→p:=by intro h;refine VtR ?_;refine Vj0 ?_;exact h.1): p:=h ⟨k⟩
theorem Vj9 (k:q)(h:W q→p:=by intro h;refine VrD ?_;refine VlC ?_;exact h.1): p:=h ⟨k⟩
theorem VuR (k:q)(h:W q→p:=by intro h;refine VfN ?_;refine VnP ?_;exact h.1): p:=h ⟨k⟩
theorem VvR (k:q)(h:W q→p:=by intro h;refine VuR ?_;refine Vj5 ?_;exact h.1): p:=h ⟨k⟩
theorem VwR (k:q)(h:W q→p:=by intro h;refine VvR ?_;refine Vx9 ?_;exact h.1): p:=h ⟨k⟩
theorem VxR (k:q)(h:W q→p:=by intro h;refine VwR ?_;refine VoP ?_;exact h.1): p:=h ⟨k⟩
theorem VyR (k:q)(h:W q→p:=by intro h;refine VxR ?_;refine Vx9 ?_;exact h.1): p:=h ⟨k⟩
theorem VzR (k:q)(h:W q→p:=by intro h;refine VyR ?_;refine VpP ?_;exact h.1): p:=h ⟨k⟩
theorem VaS (k:q)(h:W q→p:=by intro h;refine VzR ?_;refine VqE ?_;exact h.1): p:=h ⟨k⟩
theorem VbS (k:q)(h:W q→p:=by intro h;refine VaS ?_;refine VcN ?_;exact h.1): p:=h ⟨k⟩
theorem VcS (k:q)(h:W q→p:=by intro h;refine VbS ?_;refine VqP ?_;exact h.1): p:=h ⟨k⟩
theorem VdS (k:q)(h:W q→p:=by intro h;refine VcS ?_;refine Vg ?_;exact h.1): p:=h ⟨k⟩
theorem VeS (k:q)(h:W q→p:=by intro h;refine VdS ?_;refine VrP ?_;exact h.1): p:=h ⟨k⟩
theorem Vk9 (k:q)(h:W q→p:=by intro h;refine VeS ?_;refine VeH ?_;exact h.1): p:=h ⟨k⟩
theorem VfS (k:q)(h:W q→p:=by intro h;refine Vs3 ?_;refine VgO ?_;exact h.1): p:=h ⟨k⟩
theorem Vl9 (k:q)(h:W q→p:=by intro h;refine VfS ?_;refine VeB ?_;exact h.1): p:=h ⟨k⟩
theorem VgS (k:q)(h:W q→p:=by intro h;refine VaP ?_;refine Vj0 ?_;exact h.1): p:=h ⟨k⟩
theorem Vm9 (k:q)(h:W q→p:=by intro h;refine VgS ?_;refine Vl ?_;exact h.1): p:=h ⟨k⟩
theorem Vn9 (k:q)(h:W q→p:=by intro h;refine Vh ?_;refine VlQ ?_;exact h.1): p:=h ⟨k⟩
theorem Vo9 (k:q)(h:W q→p:=by intro h;refine VhO ?_;refine VyM ?_;exact h.1): p:=h ⟨k⟩
theorem VbA (k:q)(h:W q→p:=by intro h;refine Vc ?_;refine VmB ?_;exact h.1): p:=h ⟨k⟩
theorem VcA (k:q)(h:W q→p:=by intro h;refine Vi7 ?_;refine VxN ?_;exact h.1): p:=h ⟨k⟩
theorem VhS (k:q)(h:W q→p:=by intro h;refine Vl4 ?_;refine VpO ?_;exact h.1): p:=h ⟨k⟩
theorem ViS (k:q)(h:W q→p:=by intro h;refine VhS ?_;refine VqO ?_;exact h.1): p:=h ⟨k⟩
theorem VdA (k:q)(h:W q→p:=by intro h;refine ViS ?_;refine VjG ?_;exact h.1): p:=h ⟨k⟩
theorem VeA (k:q)(h:W q→p:=by intro h;refine Vz ?_;refine Vs1 ?_;exact h.1): p:=h ⟨k⟩
theorem VfA (k:q)(h:W q→p:=by intro h;refine Vt2 ?_;refine Vo6 ?_;exact h.1): p:=h ⟨k⟩
theorem VgA (k:q)(h:W q→p:=by intro h;refine Vh1 ?_;refine ViI ?_;exact h.1): p:=h ⟨k⟩
theorem VhA (k:q)(h:W q→p:=by intro h;refine Vm7 ?_;refine Vm7 ?_;exact h.1): p:=h ⟨k⟩
theorem ViA (k:q)(h:W q→p:=by intro h;refine Vn ?_;refine Va0 ?_;exact h.1): p:=h ⟨k⟩
theorem VjA (k:q)(h:W q→p:=by intro h;refine Vu2 ?_;refine Vd0 ?_;exact h.1): p:=h ⟨k⟩
theorem VkA (k:q)(h:W q→p:=by intro h;refine Vl1 ?_;refine Vl ?_;exact h.1): p:=h ⟨k⟩
theorem VlA (k:q)(h:W q→p:=by intro h;refine Ve0 ?_;refine Vm ?_;exact h.1): p:=h ⟨k⟩
theorem VmA (k:q)(h:W q→p:=by intro h;refine Vk8 ?_;refine VyQ ?_;exact h.1): p:=h ⟨k⟩
theorem VnA (k:q)(h:W q→p:=by intro h;refine Vc ?_;refine VyQ ?_;exact h.1): p:=h ⟨k⟩
theorem VoA (k:q)(h:W q→p:=by intro h;refine Vp6 ?_;refine Vr9 ?_;exact h.1): p:=h ⟨k⟩
theorem VpA (k:q)(h:W q→p:=by intro h;refine VoN ?_;refine Vi3 ?_;exact h.1): p:=h ⟨k⟩
theorem VqA (k:q)(h:W q→p:=by intro h;refine Vw9 ?_;refine Vg0 ?_;exact h.1): p:=h ⟨k⟩
theorem VrA (k:q)(h:W q→p:=by intro h;refine Vw9 ?_;refine Ve ?_;exact h.1): p:=h ⟨k⟩
theorem VsA (k:q)(h:W q→p:=by intro h;refine Vq0 ?_;refine Vz5 ?_;exact h.1): p:=h ⟨k⟩
theorem VtA (k:q)(h:W q→p:=by intro h;refine Vk7 ?_;refine VhG ?_;exact h.1): p:=h ⟨k⟩
theorem ViO (k:q)(h:W q→p:=by intro h;refine Vk0 ?_;refine VrE ?_;exact h.1): p:=h ⟨k⟩
theorem VuA (k:q)(h:W q→p:=by intro h;refine VyO ?_;refine VhN ?_;exact h.1): p:=h ⟨k⟩
theorem VvA (k:q)(h:W q→p:=by intro h;refine Vf ?_;refine VgG ?_;exact h.1): p:=h ⟨k⟩
theorem VwA (k:q)(h:W q→p:=by intro h;refine Vu3 ?_;refine Va ?_;exact h.1): p:=h ⟨k⟩
theorem VxA (k:q)(h:W q→p:=by intro h;refine VcM ?_;refine VdH ?_;exact h.1): p:=h ⟨k⟩
theorem VyA (k:q)(h:W q→p:=by intro h;refine Vd3 ?_;refine Vq0 ?_;exact h.1): p:=h ⟨k⟩
theorem VzA (k:q)(h:W q→p:=by intro h;refine VnB ?_;refine VeG ?_;exact h.1): p:=h ⟨k⟩
theorem VoB (k:q)(h:W q→p:=by intro h;refine Vg ?_;refine VvH ?_;exact h.1): p:=h ⟨k⟩
theorem VpB (k:q)(h:W q→p:=by intro h;refine Vh0 ?_;refine Va3 ?_;exact h.1): p:=h ⟨k⟩
theorem VqB (k:q)(h:W q→p:=by intro h;refine Vc5 ?_;refine ViN ?_;exact h.1): p:=h ⟨k⟩
theorem VrB (k:q)(h:W q→p:=by intro h;refine VjN ?_;refine Vi1 ?_;exact h.1): p:=h ⟨k⟩
theorem VsB (k:q)(h:W q→p:=by intro h;refine Vu3 ?_;refine Vn4 ?_;exact h.1): p:=h ⟨k⟩
theorem VtB (k:q)(h:W q→p:=by intro h;refine Vb0 ?_;refine Vn8 ?_;exact h.1): p:=h ⟨k⟩
theorem VuB (k:q)(h:W q→p:=by intro h;refine Vv ?_;refine Va ?_;exact h.1): p:=h ⟨k⟩
theorem VvB (k:q)(h:W q→p:=by intro h;refine Vh0 ?_;refine VlE ?_;exact h.1): p:=h ⟨k⟩
theorem VwB (k:q)(h:W q→p:=by intro h;refine Vk8 ?_;refine VjI ?_;exact h.1): p:=h ⟨k⟩
theorem VxB (k:q)(h:W q→p:=by intro h;refine Vc0 ?_;refine Vl0 ?_;exact h.1): p:=h ⟨k⟩
theorem VyB (k:q)(h:W q→p:=by intro h;refine VwH ?_;refine Vu4 ?_;exact h.1): p:=h ⟨k⟩
theorem VzB (k:q)(h:W q→p:=by intro h;refine Vs1 ?_;refine ViO ?_;exact h.1): p:=h ⟨k⟩
theorem VaC (k:q)(h:W q→p:=by intro h;refine ViG ?_;refine VkN ?_;exact h.1): p:=h ⟨k⟩
theorem VbC (k:q)(h:W q→p:=by intro h;refine Vx ?_;refine VpD ?_;exact h.1): p:=h ⟨k⟩
theorem VjS (k:q)(h:W q→p:=by intro h;refine VfB ?_;refine VtN ?_;exact h.1): p:=h ⟨k⟩
theorem VcC (k:q)(h:W q→p:=by intro h;refine VjS ?_;refine VuN ?_;exact h.1): p:=h ⟨k⟩
theorem VdC (k:q)(h:W q→p:=by intro h;refine VaA ?_;refine VjB ?_;exact h.1): p:=h ⟨k⟩
theorem VeC (k:q)(h:W q→p:=by intro h;refine Vy1 ?_;refine Vo8 ?_;exact h.1): p:=h ⟨k⟩
theorem VfC (k:q)(h:W q→p:=by intro h;refine Vp ?_;refine Vk ?_;exact h.1): p:=h ⟨k⟩
theorem VgC (k:q)(h:W q→p:=by intro h;refine VzO ?_;refine VdH ?_;exact h.1): p:=h ⟨k⟩
theorem VhC (k:q)(h:W q→p:=by intro h;refine VsE ?_;refine Vw4 ?_;exact h.1): p:=h ⟨k⟩
theorem ViC (k:q)(h:W q→p:=by intro h;refine Vy ?_;refine VxQ ?_;exact h.1): p:=h ⟨k⟩
theorem VjC (k:q)(h:W q→p:=by intro h;refine Vr2 ?_;refine Vx1 ?_;exact h.1): p:=h ⟨k⟩
theorem VkC (k:q)(h:W q→p:=by intro h;refine VwN ?_;refine VeB ?_;exact h.1): p:=h ⟨k⟩
theorem mix:Try.prog.follows .mixedOrders=true:=by kernel_rfl
theorem YaH (l:List Int)(hl:l.length<9223372036854775808)(A:FuncId)(caps:List LV)(hcaps:caps.all pureL=true)(p:Int→Bool)(hp:∀ t∈l,CallsV Try.prog A ((.int .i64 t)::caps) (.bool (p t))): CallsV Try.prog 109 [.sl (em ni l),.fn A caps] (.int .i64 (idxP p l 0)):=by
 refine Yg2 (Yga _) mix Try.func109 rfl rfl (by simp[Try.f109]) (by kernel_rfl) (nb:=0) ?_
 unfold Try.f109
 refine Vw3 ?_
 refine Vq ?_
 refine Yg8 YfX (α:=Nat) (fun i st=>(i≤l.length∧idxP p l 0=idxP p (l.drop i) i)∧∃ m0,st=⟨(updS (updS (updS (updS (updS (fun _=>LV.undef) 0 (.sl (em ni l))) 1 (.fn A caps)) 6 (.sl (em ni l))) 7 (.int .i64 (l.length:Int))) 8 (.int .i64 (i:Int))),effM m0 []⟩) (fun i=>l.length - i) 0 ⟨_,lessA,⟨Ye1 _,rfl⟩,_,hasA⟩ ?_
 rintro i _ ⟨⟨hi,hA⟩,m0,rfl⟩
 refine Vd ?_
 refine cD (fun h9=>?_) fun h9=>?_
 refine Vk2 ?_
 refine Vd0 ?_
 refine VoB ?_
 refine Yg6 YfX rfl (Frz.aggc (Frz.pure rfl) (YfY hcaps)) (hp _ (Y02 (l:=l) (j:=i) (by omega))) rfl rfl (fun _=>rfl) ?_
 refine Vj0 ?_
 refine Ygb rfl (fun h16=>?_) (fun h16=>?_)
 refine Vp ?_
 refine Va1 ?_
 refine Ve1 ?_
 show LV.int _ _=LV.int _ _
 congr 1
 rw[hA]
 (rw[Y8k _ _ _ (by omega),if_pos h16])
 refine Vs ?_
 refine⟨i+1,(by dsimp only;omega),_,lessA,⟨by omega,by rw[hA,Y8k _ _ _ (by omega),if_neg (by rw[h16];simp)]⟩,_,hasA⟩
 refine Vt1 ?_
 show LV.int _ _=LV.int _ _
 congr 1
 rw[hA]
 · (rw[Ybr _ _ _ (by omega)];done)
def chgT (t:Turn): Bool:=decide (t.before=t.after)
def chgH (h:Hold): Bool:=decide (h.before=h.after)
def tidyT (l:List Turn): List Turn:=isort Turn.car [] (l.filter fun x=>!chgT x)
def tidyH (l:List Hold): List Hold:=isort Hold.n [] (l.filter fun x=>!chgH x)
def tidyD (d:Delta): Delta:=⟨tidyT d.turns,tidyH d.locks,tidyH d.ices⟩
def invT (t:Turn): Turn:=⟨t.car,t.after,t.before⟩
def invH (h:Hold): Hold:=⟨h.n,h.after,h.before⟩
def invD (d:Delta): Delta:=⟨d.turns.map invT,d.locks.map invH,d.ices.map invH⟩
def OkD (d:Delta): Prop:=d.turns.length<20∧d.locks.length<20∧d.ices.length<20∧∀ t∈d.turns,t.before.length≤1000000∧t.after.length≤1000000
theorem Ydp (l:List Int)(q:Int→Bool){N:Nat}(h:l.length≤N): (l.filter q).length≤N:=Ye5 (Yex q l) h
theorem Y6R {N:Nat}: ∀ {l:List Nat},(∀ x∈l,x≤N)→l.sum≤l.length*N
 | [],_=>by simp
 | x::r,h=>by
   have h1:=h x (by simp)
   have h2:=Y6R (l:=r) (N:=N) fun y hy=>h y (by simp[hy])
   rw[List.sum_cons,Yen,YeB]
   omega
theorem Y0q (a n:Int)(hn:n<9223372036854775808): CallsV Try.prog 24 [.int .i64 a,.int .i64 n] (.int .i64 (within a n)):=by
 refine Yg2 (Yga _) mix Try.func24 rfl rfl (by simp[Try.f24]) (by kernel_rfl) (nb:=0) ?_
 unfold Try.f24
 refine Vw3 ?_
 refine Vk ?_
 refine cD (fun h7=>?_) fun h7=>?_
 refine Vw2 ?_
 show LV.int _ _=LV.int _ _
 · (rw[within,if_pos (by omega)];done)
 have hm1:=Int.tmod_lt_of_pos a (show 0<n by omega)
 have hm2:=Int.lt_tmod_of_pos a (show 0<n by omega)
 refine Vu1 ?_
 refine Va ?_
 refine GL.remR YfX rfl rfl (by omega) ?_
 refine Ve0 ?_
 refine Vk ?_
 refine cD (fun h12=>?_) fun h12=>?_
 refine Vv0 ?_
 refine Vv ?_
 refine Vd0 ?_
 refine Vq1 ?_
 show LV.int _ _=LV.int _ _
 · (rw[Y4e _ _ (by omega),if_pos (by omega)];done)
 refine Vu1 ?_
 refine Vq1 ?_
 show LV.int _ _=LV.int _ _
 · (rw[Y4e _ _ (by omega),if_neg (by omega)];done)
/-- Is a number there twice? -/
def twiceI (had:List Int): List Int→Bool
 | []=>false
 | x::r=>if x∈had then true else twiceI (addK had x) r
theorem Y1H {α β:Type}[Inhabited α][Inhabited β](k:α→β){l:List α}{j:Nat}(hj:j<l.length): (l.map k).getD j default=k (l.getD j default):=by
 simp[hj,List.getD]
def checkD (d:Delta): Bool:=twiceI [] (d.turns.map Turn.car) || (twiceI [] (d.locks.map Hold.n) || twiceI [] (d.ices.map Hold.n))
theorem Y6U (l:List Turn): (tidyT l).length≤l.length:=by
 unfold tidyT
 rw[Y29]
 simpa using Yex _ l
theorem Y6S (l:List Hold): (tidyH l).length≤l.length:=by
 unfold tidyH
 rw[Y29]
 simpa using Yex _ l
def emptyD (d:Delta): Bool:=decide ((((tidyD d).turns.length:Int)+(tidyD d).locks.length)+(tidyD d).ices.length=0)
theorem Y86 (l:List Int)(hs:Short l)(n:Int): CallsV Try.prog 36 [.sl (em ni l),.int .i64 n] (.int .i64 (index l n)):=by
 refine Yg2 (Yga _) mix Try.func36 rfl rfl (by simp[Try.f36]) (by kernel_rfl) (nb:=0) ?_
 unfold Try.f36
 refine Vw3 ?_
 refine Vq ?_
 refine Yg8 YfX (α:=Nat) (fun k st=>(k≤l.length∧∀ j,j<k→n≠l.getD j default)∧∃ m0,st=⟨(updS (updS (updS (updS (fun _=>LV.undef) 0 (.sl (em ni l))) 7 (.int .i64 (l.length:Int))) 8 (.int .i64 (k:Int))) 1 (.int .i64 n)),effM m0 []⟩) (fun k=>l.length - k) 0 ⟨_,lessA,⟨by omega,fun j h=>by omega⟩,_,hasA⟩ ?_
 rintro k _ ⟨⟨hi,hA⟩,m0,rfl⟩
 have hsp:=hs
 unfold Short at hsp
 refine Vd ?_
 refine cD (fun h9=>?_) fun h9=>?_
 refine Vk2 ?_
 refine Vd0 ?_
 refine VoB ?_
 refine Vk ?_
 refine cD (fun h16=>?_) fun h16=>?_
 refine Vp ?_
 refine Va1 ?_
 refine Ve1 ?_
 show LV.int _ _=LV.int _ _
 congr 1
 symm
 · first
    | (rw[Y12 l n k (by omega) hA,Y0m (by omega)];rfl)
    | (have hx:index (l.drop k) n=0:=by rw[Y09 (by omega),index,if_pos (by simpa using h16)]
       rw[Y12 l n k (by omega) hA,hx];simp;done)
 refine Vs ?_
 refine⟨k+1,(by dsimp only;omega),_,lessA,⟨by omega,fun j h=>by
       by_cases hj:j=k
       · subst hj;simpa using h16
       · exact hA j (by omega)⟩,_,hasA⟩
 refine Vt1 ?_
 show LV.int _ _=LV.int _ _
 congr 1
 symm
 · first
    | (rw[Y12 l n k (by omega) hA,Y0m (by omega)];rfl)
    | (have hx:index (l.drop k) n=0:=by rw[Y09 (by omega),index,if_pos (by simpa using h16)]
       rw[Y12 l n k (by omega) hA,hx];simp;done)
theorem Yby (l:List Int)(hl:l.length<9223372036854775808)(A:FuncId)(caps:List LV)(hcaps:caps.all pureL=true)(p:Int→Bool)(hp:∀ t∈l,CallsV Try.prog A ((.int .i64 t)::caps) (.bool (p t))): CallsV Try.prog 78 [.sl (em ni l),.fn A caps] (.bool (l.any p)):=by
 refine Yg2 (Yga _) mix Try.func78 rfl rfl (by simp[Try.f78]) (by kernel_rfl) (nb:=0) ?_
 unfold Try.f78
 refine VbA ?_
 refine Yg6 YfX rfl (Frz.aggc (Frz.pure rfl) (Frz.aggc (Frz.fn (YfY hcaps)) Frz.aggn)) (YaH l hl A caps hcaps p hp) rfl rfl (fun _=>rfl) ?_
 refine Vu ?_
 refine Vq1 ?_
 show LV.bool (decide (idxP p l 0≥0))=_
 rw[Ybe]
theorem Y9b (a b c:Int): CallsV Try.prog 71 [.int .i64 a,.int .i64 b,.int .i64 c] (.bool (between a b c)):=by
 refine Yg2 (Yga _) mix Try.func71 rfl rfl (by simp[Try.f71]) (by kernel_rfl) (nb:=0) ?_
 unfold Try.f71
 refine VbA ?_
 refine Vm ?_
 ·refine Yg1 10 rfl (fun h10=>?_) (fun h10=>?_)
  rw[h10]
  replace h10:=of_decide_eq_true h10
  refine Vo7 ?_
  refine Vh1 ?_
  rotate_left
  rw[h10]
  replace h10:=of_decide_eq_false h10
  refine Vn0 ?_
  all_goals
   refine Vd2 ?_
   show LV.bool _=LV.bool _
   congr 1
   simp only[between,ge_iff_le] at *
   · (simp[*];done)
theorem Y92 (a b c:Int): CallsV Try.prog 51 [.int .i64 a,.int .i64 b,.int .i64 c] (.bool (between a b c)):=by
 refine Yg2 (Yga _) mix Try.func51 rfl rfl (by simp[Try.f51]) (by kernel_rfl) (nb:=0) ?_
 unfold Try.f51
 refine VbA ?_
 refine Vm ?_
 ·refine Yg1 10 rfl (fun h10=>?_) (fun h10=>?_)
  rw[h10]
  replace h10:=of_decide_eq_true h10
  refine Vo7 ?_
  refine Vh1 ?_
  rotate_left
  rw[h10]
  replace h10:=of_decide_eq_false h10
  refine Vn0 ?_
  all_goals
   refine Vd2 ?_
   show LV.bool _=LV.bool _
   congr 1
   simp only[between,ge_iff_le] at *
   · (simp[*];done)
theorem YcF (c:Car): CallsV Try.prog 73 [.agg (nc c)] (.bool (carOk c)):=by
 refine Yg2 (Yga _) mix Try.func73 rfl rfl (by simp[Try.f73]) (by kernel_rfl) (nb:=0) ?_
 unfold Try.f73
 refine Vp7 ?_
 intro g1
 refine Vn ?_
 refine Vc0 ?_
 refine Vx6 ?_
 refine Va ?_
 refine Yg1 6 rfl (fun h6=>?_) (fun h6=>?_)
 rw[h6]
 refine Vn5 ?_
 refine Vx6 ?_
 refine Vs1 ?_
 ·refine Yg1 11 rfl (fun h11=>?_) (fun h11=>?_)
  rw[h11]
  refine Vq7 ?_
  refine Va6 ?_
  refine Vz1 ?_
  refine Vx6 ?_
  rotate_left
  rw[h11]
  refine Vu0 ?_
  all_goals
   refine Vd2 ?_
   show LV.bool _=LV.bool _
   congr 1
   unfold carOk
   simp_all
 rw[h6]
 refine Vm1 ?_
 refine Vr7 ?_
 show LV.bool _=LV.bool _
 congr 1
 unfold carOk
 simp_all
theorem YbD (s:Stop): CallsV Try.prog 75 [.agg (ns s)] (.bool (stopOk s)):=by
 refine Yg2 (Yga _) mix Try.func75 rfl rfl (by simp[Try.f75]) (by kernel_rfl) (nb:=0) ?_
 unfold Try.f75
 refine Vy0 ?_
 intro g1
 refine Vn ?_
 refine Vc0 ?_
 refine Vx6 ?_
 refine Va ?_
 refine Yg1 6 rfl (fun h6=>?_) (fun h6=>?_)
 rw[h6]
 refine Vn5 ?_
 refine Vx6 ?_
 refine Vs1 ?_
 refine Yg1 11 rfl (fun h11=>?_) (fun h11=>?_)
 rw[h11]
 refine Vq7 ?_
 refine Va6 ?_
 refine Vz1 ?_
 refine Vx6 ?_
 refine Vs1 ?_
 ·refine Yg1 18 rfl (fun h18=>?_) (fun h18=>?_)
  rw[h18]
  refine Vb ?_
  refine Ve3 ?_
  refine Vz1 ?_
  refine Vx6 ?_
  rotate_left
  rw[h18]
  refine Vn0 ?_
  all_goals
   refine Vd2 ?_
   show LV.bool _=LV.bool _
   congr 1
   unfold stopOk
   simp_all
 rw[h11]
 refine Vm7 ?_
 refine Vn0 ?_
 refine Vd2 ?_
 show LV.bool _=LV.bool _
 congr 1
 unfold stopOk
 simp_all
 rw[h6]
 refine Vm1 ?_
 refine Vm7 ?_
 refine Vn0 ?_
 refine Vd2 ?_
 show LV.bool _=LV.bool _
 congr 1
 unfold stopOk
 simp_all
theorem Ycm (l:List Car)(hl:Short l): CallsV Try.prog 72 [.sl (em nc l),.fn 73 []] (.bool (l.all carOk)):=by
 refine Yg2 (Yga _) mix Try.func72 rfl rfl (by simp[Try.f72]) (by kernel_rfl) (nb:=0) ?_
 unfold Try.f72
 refine Ve ?_
 unfold Short at hl
 refine Vf ?_
 refine Vp8 ?_
 refine Yg8 YfX (α:=Nat) (fun i st=>(i≤l.length∧∀ j,j<i→carOk (l.getD j default)=true)∧∃ m0,st=⟨(updS (updS (updS (updS (fun _=>LV.undef) 1 (.fn 73 [])) 7 (.sl (em nc l))) 8 (.int .i64 (l.length:Int))) 9 (.int .i64 (i:Int))),effM m0 []⟩) (fun i=>l.length - i) 0 ⟨_,lessA,⟨Ye1 _,fun j h=>by omega⟩,_,hasA⟩ ?_
 rintro i _ ⟨⟨hi,hA⟩,m0,rfl⟩
 refine Vd ?_
 refine cD (fun h10=>?_) fun h10=>?_
 refine Vj3 ?_
 intro g6
 refine Vg3 ?_
 refine Vp ?_
 refine Vy6 ?_
 refine GL.callFl YfX rfl (Frz.aggc (YfY rfl) Frz.aggn) (YcF _) (.sca rfl) rfl rfl ?_
 refine Vb1 ?_
 refine Ygb rfl (fun h16=>?_) (fun h16=>?_)
 refine Vl2 ?_
 show LV.bool _=LV.bool _
 congr 1
 symm
 exact Y2v (k:=i) (by omega) (by simpa using h16)
 refine Vs ?_
 refine⟨i+1,(by dsimp only;omega),_,lessA,⟨by omega,fun j h=>by
       by_cases hj:j=i
       · subst hj;simpa using h16
       · exact hA j (by omega)⟩,_,hasA⟩
 refine Vt1 ?_
 show LV.bool _=LV.bool _
 congr 1
 symm
 exact Y3g fun j hj=>hA j (by omega)
theorem YcB (l:List Stop)(hl:Short l): CallsV Try.prog 74 [.sl (em ns l),.fn 75 []] (.bool (l.all stopOk)):=by
 refine Yg2 (Yga _) mix Try.func74 rfl rfl (by simp[Try.f74]) (by kernel_rfl) (nb:=0) ?_
 unfold Try.f74
 refine Ve ?_
 unfold Short at hl
 refine Vf ?_
 refine Vp8 ?_
 refine Yg8 YfX (α:=Nat) (fun i st=>(i≤l.length∧∀ j,j<i→stopOk (l.getD j default)=true)∧∃ m0,st=⟨(updS (updS (updS (updS (fun _=>LV.undef) 1 (.fn 75 [])) 7 (.sl (em ns l))) 8 (.int .i64 (l.length:Int))) 9 (.int .i64 (i:Int))),effM m0 []⟩) (fun i=>l.length - i) 0 ⟨_,lessA,⟨Ye1 _,fun j h=>by omega⟩,_,hasA⟩ ?_
 rintro i _ ⟨⟨hi,hA⟩,m0,rfl⟩
 refine Vd ?_
 refine cD (fun h10=>?_) fun h10=>?_
 refine Vl4 ?_
 refine VmI ?_
 refine VvE ?_
 refine VsD ?_
 intro g6
 refine Vq3 ?_
 refine VlB ?_
 refine Vt0 ?_
 refine GL.callFl YfX rfl (Frz.aggc (YfY rfl) Frz.aggn) (YbD _) (.sca rfl) rfl rfl ?_
 refine Vb1 ?_
 refine Ygb rfl (fun h16=>?_) (fun h16=>?_)
 refine Vl2 ?_
 show LV.bool _=LV.bool _
 congr 1
 symm
 exact Y2v (k:=i) (by omega) (by simpa using h16)
 refine Vs ?_
 refine⟨i+1,(by dsimp only;omega),_,lessA,⟨by omega,fun j h=>by
       by_cases hj:j=i
       · subst hj;simpa using h16
       · exact hA j (by omega)⟩,_,hasA⟩
 refine Vt1 ?_
 show LV.bool _=LV.bool _
 congr 1
 symm
 exact Y3g fun j hj=>hA j (by omega)
theorem YaM (i:Inst)(hs:i.Short): CallsV Try.prog 77 [ei i] (.bool (travelOk i)):=by
 refine Yg2 (Yga _) mix Try.func77 rfl rfl (by simp[Try.f77]) (by kernel_rfl) (nb:=0) ?_
 unfold Try.f77
 refine Ve ?_
 have ht:=hs.travel
 have hst:=hs.stops
 unfold Short at ht hst
 refine Vy3 ?_
 intro g1
 refine Vn ?_
 refine Vj ?_
 refine Vs7 ?_
 refine Vb0 ?_
 refine Vu3 ?_
 refine Vr0 ?_
 refine Vf2 ?_
 refine cB (fun h16=>?_) fun h16=>?_
 refine Vw2 ?_
 show LV.bool _=LV.bool _
 congr 1
 symm
 unfold travelOk
 (rw[decide_eq_false (by omega)];rfl)
 refine Vh ?_
 refine Vc ?_
 refine Vu3 ?_
 refine Vq ?_
 refine Yg8 YfX (α:=Nat) (fun k st=>(k≤i.travel.length∧rowsGo (i.stops.length+1) 0 i.travel=rowsGo (i.stops.length+1) k (i.travel.drop k))∧∃ m0,st=⟨(updS (updS (updS (updS (fun _=>LV.undef) 3 (.int .i64 ((i.stops.length:Int)+1))) 18 (.sl (em nr i.travel))) 19 (.int .i64 (i.travel.length:Int))) 20 (.int .i64 (k:Int))),effM m0 []⟩) (fun k=>i.travel.length - k) 0 ⟨_,lessA,⟨Ye1 _,rfl⟩,_,hasA⟩ ?_
 rintro k _ ⟨⟨hk,hA⟩,m0,rfl⟩
 refine Vd ?_
 refine cD (fun h21=>?_) fun h21=>?_
 have hrow:=hs.row k
 refine Vl5 ?_
 refine Ve0 ?_
 refine Vr0 ?_
 refine Va ?_
 refine Vm ?_
 refine Yg1 29 rfl (fun h29=>?_) (fun h29=>?_)
 rw[h29]
 replace h29:=Y0H h29
 refine Vu0 ?_
 refine Vn6 ?_
 refine ViN ?_
 show LV.bool _=LV.bool _
 congr 1
 symm
 unfold travelOk
 (rw[hA,Y3v (by omega) (by rw[rowOk,decide_eq_false (by omega)];rfl),YeJ])
 rw[h29]
 replace h29:=Y0s h29
 refine Vg2 ?_
 refine VtD ?_
 refine Vp4 ?_
 refine Vi1 ?_
 refine cB (fun h35=>?_) fun h35=>?_
 refine VqB ?_
 show LV.bool _=LV.bool _
 congr 1
 symm
 unfold travelOk
 (rw[hA,Y3v (by omega) (by rw[rowOk,decide_eq_false h35,Yf5,YeJ]),YeJ])
 refine Vu1 ?_
 refine Vq ?_
 refine Yg8 YfX (α:=Nat) (fun j st=>(j≤(i.travel.getD k default).length∧∀ y,y<j→between ((i.travel.getD k default).getD y default) 0 1000=true)∧∃ m0,st=⟨(updS (updS (updS (updS (updS (updS (updS (fun _=>LV.undef) 3 (.int .i64 ((i.stops.length:Int)+1))) 18 (.sl (em nr i.travel))) 19 (.int .i64 (i.travel.length:Int))) 20 (.int .i64 (k:Int))) 36 (.sl (em ni (i.travel.getD k default)))) 37 (.int .i64 ((i.travel.getD k default).length:Int))) 38 (.int .i64 (j:Int))),effM m0 []⟩) (fun j=>(i.travel.getD k default).length - j) 0 ⟨_,lessA,⟨Ye1 _,fun y h=>by omega⟩,_,hasA⟩ ?_
 rintro j _ ⟨⟨hj,hB⟩,m0,rfl⟩
 have hrow:=hs.row k
 refine Vd ?_
 refine cD (fun h39=>?_) fun h39=>?_
 refine Vn1 ?_
 refine Vd0 ?_
 refine Vx6 ?_
 refine Vb1 ?_
 refine Ygb rfl (fun h44=>?_) (fun h44=>?_)
 refine Vc5 ?_
 refine Vi8 ?_
 refine Vt7 ?_
 refine Ve1 ?_
 show LV.bool _=LV.bool _
 congr 1
 symm
 unfold travelOk
 (rw[hA,Y3v (by omega) (by rw[rowOk,Y2v (k:=j) (by omega) (by simpa using h44),YeJ,YeJ]),YeJ])
 refine Vs ?_
 refine⟨j+1,(by dsimp only;omega),_,lessA,⟨by omega,fun y h=>by
       by_cases hy:y=j
       · subst hy;simpa using h44
       · exact hB y (by omega)⟩,_,hasA⟩
 refine VcA ?_
 refine⟨k+1,(by dsimp only;omega),_,lessA,⟨by omega,by rw[hA,Y7t (by omega) (by rw[rowOk,decide_eq_true (by omega),decide_eq_true (by omega),Y3g fun y hy=>hB y (by omega)];rfl)]⟩,_,hasA⟩
 refine Vt1 ?_
 show LV.bool _=LV.bool _
 congr 1
 symm
 unfold travelOk
 (rw[hA,Y5p (by omega),decide_eq_true (by omega)];rfl)
theorem Y5z {n:Nat}{x:Int}{h:List Int}(e:between x 1 n=false∨x∈h): had1 n x h=none:=by
 unfold had1
 rw[if_neg]
 rintro⟨h1,h2⟩
 rcases e with e | e
 rw[e] at h1;cases h1
 exact h2 e
theorem Y84 {n:Nat}{x:Int}{h:List Int}(e:between x 1 n=true)(e2:x∉h): had1 n x h=some (addK h x):=by
 unfold had1
 rw[if_pos ⟨e,e2⟩]
theorem Ybb (i:Inst)(hs:i.Short)(hst:i.stops.all stopOk=true): CallsV Try.prog 76 [ei i] (.bool (pairsGo i i.pairs [])):=by
 refine Yg2 (Yga _) mix Try.func76 rfl rfl (by simp[Try.f76]) (by kernel_rfl) (nb:=0) ?_
 unfold Try.f76
 refine Ve ?_
 have hp:=hs.pairs
 have hsl:=hs.stops
 unfold Short at hp hsl
 refine Vy3 ?_
 intro g1
 refine Vn ?_
 refine Vv1 ?_
 intro g9
 refine Vb0 ?_
 refine Vu7 ?_
 refine Yg8 YfX (α:=Nat × Nat × List Int) (fun ⟨k,g,hd⟩ st=>(k≤i.pairs.length∧pairsGo i i.pairs []=pairsGo i (i.pairs.drop k) hd∧hd.length≤2*k)∧∃ m0,st=⟨(updS (updS (updS (updS (updS (fun _=>LV.undef) 1 (.ref 64 g1 0 0)) 3 (.mref 576 g)) 11 (.sl (em np i.pairs))) 12 (.int .i64 (i.pairs.length:Int))) 13 (.int .i64 (k:Int))),effM m0 [(64,⟨g1,false,.var,4,[ic i]⟩),(576,⟨g,false,.mp,2,em kb hd⟩)]⟩) (fun ⟨k,g,hd⟩=>i.pairs.length - k) ⟨0,_,[]⟩ ⟨_,(YfZ (YfV (YfV (YfV (YfV (YfV (Yg0 _) rfl) rfl) rfl) rfl) rfl) _),⟨Ye1 _,rfl,Ye1 _⟩,_,(congrArg (St.mk _) (Y01 (YfW rfl (YfW rfl Yg3))).symm)⟩ ?_
 rintro⟨k,g,hd⟩ _ ⟨⟨hk,hA,hl⟩,m0,rfl⟩
 refine Vd ?_
 refine cD (fun h14=>?_) fun h14=>?_
 refine VdA ?_
 intro g5
 refine Vc6 ?_
 refine Vi5 ?_
 refine Vb3 ?_
 refine Vb3 ?_
 refine Vk ?_
 refine cD (fun h21=>?_) fun h21=>?_
 refine VqB ?_
 show LV.bool _=LV.bool _
 congr 1
 rw[hA]
 symm
 (rw[Y15 (by omega) (Yad h21)])
 refine Vh ?_
 refine Vc ?_
 refine VuD ?_
 refine Vj7 ?_
 refine Yg8 YfX (α:=Nat × Nat × List Int) (fun ⟨j,g,hd'⟩ st=>(j≤2∧hadK i.stops.length (i.pairs.getD k default) hd j=some hd')∧∃ m0,st=⟨(updS (updS (updS (updS (updS (updS (updS (updS (fun _=>LV.undef) 1 (.ref 64 g1 0 0)) 3 (.mref 576 g)) 5 (.ref 320 g5 0 0)) 11 (.sl (em np i.pairs))) 12 (.int .i64 (i.pairs.length:Int))) 13 (.int .i64 (k:Int))) 22 (.agg (np (i.pairs.getD k default)))) 23 (.int .i64 (j:Int))),effM m0 [(64,⟨g1,false,.var,4,[ic i]⟩),(576,⟨g,false,.mp,2,em kb hd'⟩),(320,⟨g5,false,.var,2,[np (i.pairs.getD k default)]⟩)]⟩) (fun ⟨j,g,hd'⟩=>2 - j) ⟨0,_,_⟩ ⟨_,(YfZ (YfV (YfV (YfV (YfV (YfV (YfV (YfV (YfV (Yg0 _) rfl) rfl) rfl) rfl) rfl) rfl) rfl) rfl) _),⟨Ye1 _,rfl⟩,_,(congrArg (St.mk _) (Y01 (YfW rfl (YfW rfl (YfW rfl Yg3)))).symm)⟩ ?_
 rintro⟨j,g,hd'⟩ _ ⟨⟨hj,hH⟩,m0,rfl⟩
 refine Vd ?_
 refine cD (fun h24=>?_) fun h24=>?_
 have hj2:j<2:=by omega
 refine Vl4 ?_
 refine GL.indexAr YfX (len:=2) (j:=j) (v:=.int .i64 (atK (i.pairs.getD k default) j)) rfl rfl rfl rfl rfl (by omega) (by omega) (by rfl) (by rcases (show j=0∨j=1 by omega) with rfl | rfl <;> rfl) ?_
 refine Ve0 ?_
 refine Vj ?_
 refine Vr0 ?_
 refine Vx6 ?_
 refine Vc3 ?_
 refine Yg1 32 rfl (fun h32=>?_) (fun h32=>?_)
 rw[h32]
 refine Vk3 ?_
 refine VcG ?_
 refine Ve1 ?_
 show LV.bool _=LV.bool _
 congr 1
 rw[hA]
 symm
 (rw[Y15 (by omega) (by rw[Y10,Y2W hj2 (by rw[Y1n hj2 hH,Y5z (by simp_all)])];rfl)])
 rw[h32]
 refine Vg2 ?_
 refine GL.setLook YfX (l:=hd') rfl rfl rfl rfl rfl rfl rfl rfl rfl rfl ?_
 refine Vk4 ?_
 refine cD (fun h36=>?_) fun h36=>?_
 refine Vc5 ?_
 refine VcG ?_
 refine Ve1 ?_
 show LV.bool _=LV.bool _
 congr 1
 rw[hA]
 symm
 (rw[Y15 (by omega) (by rw[Y10,Y2W hj2 (by rw[Y1n hj2 hH,Y5z (by simp_all)])];rfl)])
 refine Vq8 ?_
 refine GL.setPut YfX (l:=hd') rfl rfl rfl rfl rfl rfl rfl rfl rfl rfl rfl ?_
 refine Vi3 ?_
 refine⟨⟨j+1,_,_⟩,(by dsimp only;omega),_,(YfZ (YfV (YfV (YfV (YfV (YfV (YfV (YfV (YfV (Yg0 _) rfl) rfl) rfl) rfl) rfl) rfl) rfl) rfl) _),⟨by omega,by rw[Y1n hj2 hH,Y84 (by simp_all) (by simp_all)]⟩,_,(congrArg (St.mk _) (Y01 (YfW rfl (YfW rfl (YfW rfl Yg3)))).symm)⟩
 obtain rfl:j=2:=by omega
 have hH2:=hH
 obtain⟨⟨i1,i2⟩,⟨i3,i4⟩,i5⟩:=YaX hH
 have q0:=Y3M (l:=i.stops) (k:=((i.pairs.getD k default).p0 - 1).toNat) (by omega) hst
 have q2:=(Y0h.1 (Bool.and_eq_true_iff.1 q0).1)
 refine Ve2 ?_
 refine Vj ?_
 refine Vb3 ?_
 refine Vi2 ?_
 refine VoI ?_
 refine VmC ?_
 refine Vh4 ?_
 refine Vv7 ?_
 refine Yg1 50 rfl (fun h50=>?_) (fun h50=>?_)
 rw[h50]
 replace h50:=of_decide_eq_true h50
 refine Vk0 ?_
 refine Vk3 ?_
 refine Ve1 ?_
 show LV.bool _=LV.bool _
 congr 1
 rw[hA]
 symm
 (rw[Y15 (by omega) (by rw[Y10,hH2];exact if_pos (by exact .inl h50))])
 rw[h50]
 replace h50:=of_decide_eq_false h50
 refine Vq7 ?_
 refine VnI ?_
 refine Vz1 ?_
 refine Vi2 ?_
 refine Vb ?_
 refine VpI ?_
 refine Vb ?_
 refine VmC ?_
 refine Vp4 ?_
 refine Vi ?_
 refine GL.negR YfX rfl (by omega) ?_
 refine Vi1 ?_
 refine cB (fun h62=>?_) fun h62=>?_
 refine Vl2 ?_
 show LV.bool _=LV.bool _
 congr 1
 rw[hA]
 symm
 (rw[Y15 (by omega) (by rw[Y10,hH2];exact if_pos (by exact .inr h62))])
 refine Vs ?_
 refine⟨⟨k+1,_,_⟩,(by dsimp only;omega),_,(YfZ (YfV (YfV (YfV (YfV (YfV (Yg0 _) rfl) rfl) rfl) rfl) rfl) _),⟨by omega,by rw[hA,Y8l (by omega) (by rw[Y10,hH2];exact if_neg (by rintro (h | h) <;> first | exact h50 h | exact h h62 | exact h62 h))],by omega⟩,_,(congrArg (St.mk _) (Y01 (YfW rfl (YfW rfl Yg3))).symm)⟩
 refine Vt1 ?_
 show LV.bool _=LV.bool _
 congr 1
 rw[hA]
 symm
 (rw[Y6j (by omega)])
theorem YaJ {i:Inst}(h1:between i.cars.length 1 3=true)(h2:i.stops.length≤10)(h3:i.cars.all carOk=true)(h4:i.stops.all stopOk=true)(h5:pairsGo i i.pairs []=true)(h6:travelOk i=true): checkB i=true:=by
 unfold checkB
 rw[h1,h3,h4,h5,h6,decide_eq_true h2]
 rfl
theorem Y7W {i:Inst}(h:between i.cars.length 1 3=false): checkB i=false:=by unfold checkB;simp[h]
theorem Y7P {i:Inst}(h:¬ i.stops.length≤10): checkB i=false:=by unfold checkB;simp[h]
theorem Y5v {i:Inst}(h:i.cars.all carOk=false): checkB i=false:=by unfold checkB;rw[h];simp
theorem Y2Z {i:Inst}(h:i.stops.all stopOk=false): checkB i=false:=by unfold checkB;rw[h];simp
theorem Y1X {i:Inst}(h:pairsGo i i.pairs []=false): checkB i=false:=by unfold checkB;rw[h];simp
theorem Y2R {i:Inst}(h:travelOk i=false): checkB i=false:=by unfold checkB;rw[h];simp
theorem YbS {i:Inst}(h:¬ i.travel.length=i.stops.length+1): travelOk i=false:=by unfold travelOk;rw[decide_eq_false h];rfl
theorem Y4r {i:Inst}(h:rowsGo (i.stops.length+1) 0 i.travel=false): travelOk i=false:=by unfold travelOk;rw[h,YeJ]
theorem Yc7 {i:Inst}(h1:i.travel.length=i.stops.length+1)(h:rowsGo (i.stops.length+1) 0 i.travel=true): travelOk i=true:=by unfold travelOk;rw[h,decide_eq_true h1];rfl
theorem carRef (c:Car): carOk c=(between c.c0 0 60 && (between c.c1 0 c.c2 && !decide (c.c2>1000))):=by
 rw[Yf2]
 simp only[carOk,between,Ye0,decide_eq_true_eq,YfP,decide_eq_false_iff_not]
 omega
theorem stopRef (s:Stop): stopOk s=(between s.s0 (-20) 20 && (between s.s1 0 s.s2 && (!decide (s.s2>1000) && between s.s3 0 1000))):=by
 rw[Yf2]
 simp only[stopOk,between,Ye0,decide_eq_true_eq,YfP,decide_eq_false_iff_not]
 omega
theorem nt {b:Bool}(h:(!b)=false): b=true:=by simpa using h
theorem nf {b:Bool}(h:(!b)=true): b=false:=by simpa using h
theorem Yaa (i:Inst)(hs:i.Short): CallsV Try.prog 52 [ei i] (.int .i64 (if checkB i=true then 0 else 1)):=by
 refine Yg2 (Yga _) mix Try.func52 rfl rfl (by simp[Try.f52]) (by kernel_rfl) (nb:=0) ?_
 unfold Try.f52
 refine Vy0 ?_
 intro g1
 refine Vb0 ?_
 refine Vo5 ?_
 refine Vx6 ?_
 refine Vc3 ?_
 refine Yg1 8 rfl (fun h8=>?_) (fun h8=>?_)
 rw[h8]
 refine VeA ?_
 refine VeA ?_
 refine VeA ?_
 refine Vm1 ?_
 refine Vk3 ?_
 refine Vg5 ?_
 show LV.int _ _=LV.int _ _
 congr 1
 symm
 exact if_neg (by rw[Y7W (nf h8)];simp)
 rw[h8]
 refine Vh5 ?_
 refine VfA ?_
 refine Yg1 14 rfl (fun h14=>?_) (fun h14=>?_)
 rw[h14]
 replace h14:=of_decide_eq_true h14
 refine VeA ?_
 refine VeA ?_
 refine Vm1 ?_
 refine Vk3 ?_
 refine Vg5 ?_
 show LV.int _ _=LV.int _ _
 congr 1
 symm
 exact if_neg (by rw[Y7P (by omega)];simp)
 rw[h14]
 replace h14:=of_decide_eq_false h14
 refine Vl8 ?_
 refine Vz1 ?_
 refine Yg6 YfX rfl (Frz.aggc (by exact Frz.pure rfl) (Frz.aggc (by exact Frz.fn Frz.aggn) (Frz.aggn))) (Ycm _ hs.cars) rfl rfl (fun _=>rfl) ?_
 refine Vl3 ?_
 refine Vs1 ?_
 refine Yg1 20 rfl (fun h20=>?_) (fun h20=>?_)
 rw[h20]
 refine VeA ?_
 refine Vm1 ?_
 refine Vk3 ?_
 refine Vg5 ?_
 show LV.int _ _=LV.int _ _
 congr 1
 symm
 exact if_neg (by rw[Y5v (nf h20)];simp)
 rw[h20]
 refine Vq7 ?_
 refine Yg6 YfX rfl (Frz.aggc (by exact Frz.pure rfl) (Frz.aggc (by exact Frz.fn Frz.aggn) (Frz.aggn))) (YcB _ hs.stops) rfl rfl (fun _=>rfl) ?_
 refine Vl3 ?_
 refine Vs1 ?_
 refine Yg1 26 rfl (fun h26=>?_) (fun h26=>?_)
 rw[h26]
 refine Vm1 ?_
 refine Vk3 ?_
 refine Vg5 ?_
 show LV.int _ _=LV.int _ _
 congr 1
 symm
 exact if_neg (by rw[Y2Z (nf h26)];simp)
 rw[h26]
 refine Vb ?_
 refine Vt0 ?_
 refine Vb ?_
 refine Yg6 YfX rfl (Frz.aggc (by exact YfY rfl) (Frz.aggn)) (Ybb i hs (nt h26)) rfl rfl (fun _=>rfl) ?_
 refine Vl3 ?_
 refine Vs1 ?_
 refine Yg1 31 rfl (fun h31=>?_) (fun h31=>?_)
 rw[h31]
 refine Vk3 ?_
 refine Vg5 ?_
 show LV.int _ _=LV.int _ _
 congr 1
 symm
 exact if_neg (by rw[Y1X (nf h31)];simp)
 rw[h31]
 refine Vb ?_
 refine Vt0 ?_
 refine Vb ?_
 refine Yg6 YfX rfl (Frz.aggc (by exact YfY rfl) (Frz.aggn)) (YaM i hs) rfl rfl (fun _=>rfl) ?_
 refine Vl3 ?_
 refine Vk4 ?_
 refine Ygb rfl (fun h35=>?_) (fun h35=>?_)
 refine Vw2 ?_
 show LV.int _ _=LV.int _ _
 congr 1
 symm
 exact if_neg (by rw[Y2R (nf h35)];simp)
 refine Vl1 ?_
 refine VbO ?_
 show LV.int _ _=LV.int _ _
 congr 1
 symm
 exact if_pos (YaJ (nt h8) (by omega) (nt h20) (nt h26) (nt h31) (nt h35))
theorem Y9K (i:Inst)(hs:i.Short): CallsV Try.prog 27 [ei i] (.bool (checkB i)):=by
 refine Yg2 (Yga _) mix Try.func27 rfl rfl (by simp[Try.f27]) (by kernel_rfl) (nb:=0) ?_
 unfold Try.f27
 refine Ve ?_
 have hp:=hs.pairs
 have hsl:=hs.stops
 have hcl:=hs.cars
 have htl:=hs.travel
 unfold Short at hp hsl hcl htl
 refine Vy3 ?_
 intro g1
 refine Vb0 ?_
 refine Vo5 ?_
 refine Vp9 ?_
 refine Vc3 ?_
 refine Yg1 22 rfl (fun h22=>?_) (fun h22=>?_)
 rw[h22]
 refine VeA ?_
 refine Vk0 ?_
 refine Vn6 ?_
 refine Vg5 ?_
 show LV.bool _=LV.bool _
 congr 1
 exact (Y7W (nf h22)).symm
 rw[h22]
 refine Vh5 ?_
 refine VfA ?_
 refine Yg1 28 rfl (fun h28=>?_) (fun h28=>?_)
 rw[h28]
 replace h28:=of_decide_eq_true h28
 refine Vk0 ?_
 refine Vn6 ?_
 refine Vg5 ?_
 show LV.bool _=LV.bool _
 congr 1
 exact (Y7P (by omega)).symm
 rw[h28]
 replace h28:=of_decide_eq_false h28
 refine Vb ?_
 refine Ve3 ?_
 refine Vt2 ?_
 refine Vh5 ?_
 refine Vt2 ?_
 refine Vb ?_
 refine Vv ?_
 refine Vi1 ?_
 refine cB (fun h37=>?_) fun h37=>?_
 refine Vw2 ?_
 show LV.bool _=LV.bool _
 congr 1
 exact (Y2R (YbS (by omega))).symm
 refine Vh ?_
 refine Vc ?_
 refine Vx3 ?_
 refine Yg8 YfX (α:=Nat) (fun k st=>(k≤i.cars.length∧∀ j,j<k→carOk (i.cars.getD j default)=true)∧∃ m0,st=⟨(updS (updS (updS (updS (fun _=>LV.undef) 1 (.ref 64 g1 0 0)) 39 (.sl (em nc i.cars))) 40 (.int .i64 (i.cars.length:Int))) 41 (.int .i64 (k:Int))),effM m0 [(64,⟨g1,false,.var,4,[ic i]⟩)]⟩) (fun k=>i.cars.length - k) 0 ⟨_,lessA,⟨Ye1 _,fun j h=>by omega⟩,_,hasA⟩ ?_
 rintro k _ ⟨⟨hk,hC⟩,m0,rfl⟩
 refine Vd ?_
 refine cD (fun h42=>?_) fun h42=>?_
 refine Vj3 ?_
 intro g4
 refine Vz3 ?_
 refine Vc0 ?_
 refine Vp9 ?_
 refine Vc3 ?_
 refine Yg1 49 rfl (fun h49=>?_) (fun h49=>?_)
 rw[h49]
 refine Vz ?_
 refine Vk7 ?_
 refine Vk3 ?_
 refine Ve1 ?_
 show LV.bool _=LV.bool _
 congr 1
 exact (Y5v (Y2v (k:=k) (by omega) (by rw[carRef];simp_all))).symm
 rw[h49]
 refine Vq7 ?_
 refine Va6 ?_
 refine Vz1 ?_
 refine Vp9 ?_
 refine Vl3 ?_
 refine Vs1 ?_
 refine Yg1 57 rfl (fun h57=>?_) (fun h57=>?_)
 rw[h57]
 refine Vk3 ?_
 refine Ve1 ?_
 show LV.bool _=LV.bool _
 congr 1
 exact (Y5v (Y2v (k:=k) (by omega) (by rw[carRef];simp_all))).symm
 rw[h57]
 refine Vy9 ?_
 refine Vy1 ?_
 refine Vi1 ?_
 refine cD (fun h61=>?_) fun h61=>?_
 refine Vl2 ?_
 show LV.bool _=LV.bool _
 congr 1
 exact (Y5v (Y2v (k:=k) (by omega) (by rw[carRef];simp_all))).symm
 refine Vs ?_
 refine⟨k+1,(by dsimp only;omega),_,lessA,⟨by omega,fun j h=>by
       by_cases hj:j=k
       · subst hj;rw[carRef];simp_all
       · exact hC j (by omega)⟩,_,hasA⟩
 have hcars:=Y3g (l:=i.cars) (f:=carOk) fun j hj=>hC j (by omega)
 refine Vr1 ?_
 refine Vj ?_
 refine Vq ?_
 refine Yg8 YfX (α:=Nat) (fun k st=>(k≤i.stops.length∧∀ j,j<k→stopOk (i.stops.getD j default)=true)∧∃ m0,st=⟨(updS (updS (updS (updS (fun _=>LV.undef) 1 (.ref 64 g1 0 0)) 64 (.sl (em ns i.stops))) 65 (.int .i64 (i.stops.length:Int))) 66 (.int .i64 (k:Int))),effM m0 [(64,⟨g1,false,.var,4,[ic i]⟩)]⟩) (fun k=>i.stops.length - k) 0 ⟨_,lessA,⟨Ye1 _,fun j h=>by omega⟩,_,hasA⟩ ?_
 rintro k _ ⟨⟨hk,hS⟩,m0,rfl⟩
 refine Vd ?_
 refine cD (fun h67=>?_) fun h67=>?_
 refine Vl4 ?_
 refine VmI ?_
 refine VvE ?_
 refine VsD ?_
 intro g6
 refine Vq3 ?_
 refine Va4 ?_
 refine Vc0 ?_
 refine Vp9 ?_
 refine Vc3 ?_
 refine Yg1 74 rfl (fun h74=>?_) (fun h74=>?_)
 rw[h74]
 refine Vz ?_
 refine Vk7 ?_
 refine Vm1 ?_
 refine Vz ?_
 refine Vn6 ?_
 refine Ve1 ?_
 show LV.bool _=LV.bool _
 congr 1
 exact (Y2Z (Y2v (k:=k) (by omega) (by rw[stopRef];simp_all))).symm
 rw[h74]
 refine Vq7 ?_
 refine Va6 ?_
 refine Vz1 ?_
 refine Vp9 ?_
 refine Vl3 ?_
 refine Vs1 ?_
 refine Yg1 82 rfl (fun h82=>?_) (fun h82=>?_)
 rw[h82]
 refine Vm1 ?_
 refine Vz ?_
 refine Vn6 ?_
 refine Ve1 ?_
 show LV.bool _=LV.bool _
 congr 1
 exact (Y2Z (Y2v (k:=k) (by omega) (by rw[stopRef];simp_all))).symm
 rw[h82]
 refine Vy9 ?_
 refine Vy1 ?_
 refine Vo6 ?_
 refine Yg1 87 rfl (fun h87=>?_) (fun h87=>?_)
 rw[h87]
 replace h87:=of_decide_eq_true h87
 refine Vz ?_
 refine Vn6 ?_
 refine Ve1 ?_
 show LV.bool _=LV.bool _
 congr 1
 exact (Y2Z (Y2v (k:=k) (by omega) (by rw[stopRef];simp_all))).symm
 rw[h87]
 replace h87:=of_decide_eq_false h87
 refine Vb ?_
 refine Ve3 ?_
 refine Vz1 ?_
 refine Vp9 ?_
 refine Vl3 ?_
 refine Vk4 ?_
 refine Ygb rfl (fun h92=>?_) (fun h92=>?_)
 refine Vl2 ?_
 show LV.bool _=LV.bool _
 congr 1
 exact (Y2Z (Y2v (k:=k) (by omega) (by rw[stopRef];simp_all))).symm
 refine Vs ?_
 refine⟨k+1,(by dsimp only;omega),_,lessA,⟨by omega,fun j h=>by
       by_cases hj:j=k
       · subst hj;rw[stopRef];simp_all
       · exact hS j (by omega)⟩,_,hasA⟩
 have hstops:=Y3g (l:=i.stops) (f:=stopOk) fun j hj=>hS j (by omega)
 refine Ve2 ?_
 refine Vv1 ?_
 intro g94
 refine Vb0 ?_
 refine Vu7 ?_
 refine Yg8 YfX (α:=Nat × Nat × List Int) (fun ⟨k,g,hd⟩ st=>(k≤i.pairs.length∧pairsGo i i.pairs []=pairsGo i (i.pairs.drop k) hd∧hd.length≤2*k)∧∃ m0,st=⟨(updS (updS (updS (updS (updS (fun _=>LV.undef) 1 (.ref 64 g1 0 0)) 7 (.mref 6016 g)) 96 (.sl (em np i.pairs))) 97 (.int .i64 (i.pairs.length:Int))) 98 (.int .i64 (k:Int))),effM m0 [(64,⟨g1,false,.var,4,[ic i]⟩),(6016,⟨g,false,.mp,2,em kb hd⟩)]⟩) (fun ⟨k,g,hd⟩=>i.pairs.length - k) ⟨0,_,[]⟩ ⟨_,(YfZ (YfV (YfV (YfV (YfV (YfV (Yg0 _) rfl) rfl) rfl) rfl) rfl) _),⟨Ye1 _,rfl,Ye1 _⟩,_,(congrArg (St.mk _) (Y01 (YfW rfl (YfW rfl Yg3))).symm)⟩ ?_
 rintro⟨k,g,hd⟩ _ ⟨⟨hk,hA,hl⟩,m0,rfl⟩
 refine Vd ?_
 refine cD (fun h99=>?_) fun h99=>?_
 refine VdA ?_
 intro g9
 refine Vc6 ?_
 refine Vi5 ?_
 refine VuD ?_
 refine Vj7 ?_
 refine Yg8 YfX (α:=Nat × Nat × List Int) (fun ⟨j,g,hd'⟩ st=>(j≤2∧hadK i.stops.length (i.pairs.getD k default) hd j=some hd')∧∃ m0,st=⟨(updS (updS (updS (updS (updS (updS (updS (updS (fun _=>LV.undef) 1 (.ref 64 g1 0 0)) 7 (.mref 6016 g)) 9 (.ref 576 g9 0 0)) 96 (.sl (em np i.pairs))) 97 (.int .i64 (i.pairs.length:Int))) 98 (.int .i64 (k:Int))) 102 (.agg (np (i.pairs.getD k default)))) 103 (.int .i64 (j:Int))),effM m0 [(64,⟨g1,false,.var,4,[ic i]⟩),(6016,⟨g,false,.mp,2,em kb hd'⟩),(576,⟨g9,false,.var,2,[np (i.pairs.getD k default)]⟩)]⟩) (fun ⟨j,g,hd'⟩=>2 - j) ⟨0,_,_⟩ ⟨_,(YfZ (YfV (YfV (YfV (YfV (YfV (YfV (YfV (YfV (Yg0 _) rfl) rfl) rfl) rfl) rfl) rfl) rfl) rfl) _),⟨Ye1 _,rfl⟩,_,(congrArg (St.mk _) (Y01 (YfW rfl (YfW rfl (YfW rfl Yg3)))).symm)⟩ ?_
 rintro⟨j,g,hd'⟩ _ ⟨⟨hj,hH⟩,m0,rfl⟩
 refine Vd ?_
 refine cD (fun h104=>?_) fun h104=>?_
 have hj2:j<2:=by omega
 refine Vl4 ?_
 refine GL.indexAr YfX (len:=2) (j:=j) (v:=.int .i64 (atK (i.pairs.getD k default) j)) rfl rfl rfl rfl rfl (by omega) (by omega) (by rfl) (by rcases (show j=0∨j=1 by omega) with rfl | rfl <;> rfl) ?_
 refine Ve0 ?_
 refine Vj ?_
 refine Vr0 ?_
 refine Vp9 ?_
 refine Vc3 ?_
 refine Yg1 112 rfl (fun h112=>?_) (fun h112=>?_)
 rw[h112]
 refine Vk3 ?_
 refine VcG ?_
 refine Ve1 ?_
 show LV.bool _=LV.bool _
 congr 1
 exact (Y1X (by rw[hA,Y15 (by omega) (by rw[Y10,Y2W hj2 (by rw[Y1n hj2 hH,Y5z (by simp_all)])];rfl)])).symm
 rw[h112]
 refine Vg2 ?_
 refine GL.setLook YfX (l:=hd') rfl rfl rfl rfl rfl rfl rfl rfl rfl rfl ?_
 refine Vk4 ?_
 refine cD (fun h116=>?_) fun h116=>?_
 refine Vc5 ?_
 refine VcG ?_
 refine Ve1 ?_
 show LV.bool _=LV.bool _
 congr 1
 exact (Y1X (by rw[hA,Y15 (by omega) (by rw[Y10,Y2W hj2 (by rw[Y1n hj2 hH,Y5z (by simp_all)])];rfl)])).symm
 refine Vq8 ?_
 refine GL.setPut YfX (l:=hd') rfl rfl rfl rfl rfl rfl rfl rfl rfl rfl rfl ?_
 refine Vi3 ?_
 refine⟨⟨j+1,_,_⟩,(by dsimp only;omega),_,(YfZ (YfV (YfV (YfV (YfV (YfV (YfV (YfV (YfV (Yg0 _) rfl) rfl) rfl) rfl) rfl) rfl) rfl) rfl) _),⟨by omega,by rw[Y1n hj2 hH,Y84 (by simp_all) (by simp_all)]⟩,_,(congrArg (St.mk _) (Y01 (YfW rfl (YfW rfl (YfW rfl Yg3)))).symm)⟩
 obtain rfl:j=2:=by omega
 have hH2:=hH
 obtain⟨⟨i1,i2⟩,⟨i3,i4⟩,i5⟩:=YaX hH
 have q0:=Y3M (l:=i.stops) (k:=((i.pairs.getD k default).p0 - 1).toNat) (by omega) hstops
 have q2:=(Y0h.1 (Bool.and_eq_true_iff.1 q0).1)
 refine Ve2 ?_
 refine Vj ?_
 refine Vb3 ?_
 refine Vi2 ?_
 refine VoI ?_
 refine VmC ?_
 refine Vh4 ?_
 refine Vv7 ?_
 refine Yg1 130 rfl (fun h130=>?_) (fun h130=>?_)
 rw[h130]
 replace h130:=of_decide_eq_true h130
 refine Vk0 ?_
 refine Vk3 ?_
 refine Ve1 ?_
 show LV.bool _=LV.bool _
 congr 1
 exact (Y1X (by rw[hA,Y15 (by omega) (by rw[Y10,hH2];exact if_pos (by exact .inl h130))])).symm
 rw[h130]
 replace h130:=of_decide_eq_false h130
 refine Vq7 ?_
 refine VnI ?_
 refine Vz1 ?_
 refine Vi2 ?_
 refine Vb ?_
 refine VpI ?_
 refine Vb ?_
 refine VmC ?_
 refine Vp4 ?_
 refine Vi ?_
 refine GL.negR YfX rfl (by omega) ?_
 refine Vi1 ?_
 refine cB (fun h142=>?_) fun h142=>?_
 refine Vl2 ?_
 show LV.bool _=LV.bool _
 congr 1
 exact (Y1X (by rw[hA,Y15 (by omega) (by rw[Y10,hH2];exact if_pos (by exact .inr h142))])).symm
 refine Vs ?_
 refine⟨⟨k+1,_,_⟩,(by dsimp only;omega),_,(YfZ (YfV (YfV (YfV (YfV (YfV (Yg0 _) rfl) rfl) rfl) rfl) rfl) _),⟨by omega,by rw[hA,Y8l (by omega) (by rw[Y10,hH2];exact if_neg (by rintro (h | h) <;> first | exact h130 h | exact h h142 | exact h142 h))],by omega⟩,_,(congrArg (St.mk _) (Y01 (YfW rfl (YfW rfl Yg3))).symm)⟩
 have hpairs:pairsGo i i.pairs []=true:=by rw[hA,Y6j (by omega)]
 refine Vr1 ?_
 refine Vu3 ?_
 refine Vq ?_
 refine Yg8 YfX (α:=Nat) (fun k st=>(k≤i.travel.length∧rowsGo (i.stops.length+1) 0 i.travel=rowsGo (i.stops.length+1) k (i.travel.drop k))∧∃ m0,st=⟨(updS (updS (updS (updS (fun _=>LV.undef) 1 (.ref 64 g1 0 0)) 145 (.sl (em nr i.travel))) 146 (.int .i64 (i.travel.length:Int))) 147 (.int .i64 (k:Int))),effM m0 [(64,⟨g1,false,.var,4,[ic i]⟩)]⟩) (fun k=>i.travel.length - k) 0 ⟨_,lessA,⟨Ye1 _,rfl⟩,_,hasA⟩ ?_
 rintro k _ ⟨⟨hk,hT⟩,m0,rfl⟩
 refine Vd ?_
 refine cD (fun h148=>?_) fun h148=>?_
 have hrow:=hs.row k
 refine Vl5 ?_
 refine Ve0 ?_
 refine Vr0 ?_
 refine Vu3 ?_
 refine Vv2 ?_
 refine cB (fun h157=>?_) fun h157=>?_
 refine VqB ?_
 show LV.bool _=LV.bool _
 congr 1
 exact (Y2R (Y4r (by rw[hT,Y3v (by omega) (by rw[rowOk,decide_eq_false (by omega)];rfl)]))).symm
 refine Vu1 ?_
 refine Vq ?_
 refine Yg8 YfX (α:=Nat) (fun j st=>(j≤(i.travel.getD k default).length∧∀ y,y<j→between ((i.travel.getD k default).getD y default) 0 1000=true∧(k=y→(i.travel.getD k default).getD y default=0))∧∃ m0,st=⟨(updS (updS (updS (updS (updS (updS (updS (updS (fun _=>LV.undef) 1 (.ref 64 g1 0 0)) 13 (.int .i64 (k:Int))) 145 (.sl (em nr i.travel))) 146 (.int .i64 (i.travel.length:Int))) 147 (.int .i64 (k:Int))) 158 (.sl (em ni (i.travel.getD k default)))) 159 (.int .i64 ((i.travel.getD k default).length:Int))) 160 (.int .i64 (j:Int))),effM m0 [(64,⟨g1,false,.var,4,[ic i]⟩)]⟩) (fun j=>(i.travel.getD k default).length - j) 0 ⟨_,lessA,⟨Ye1 _,fun y h=>by omega⟩,_,hasA⟩ ?_
 rintro j _ ⟨⟨hj,hB⟩,m0,rfl⟩
 have hrow:=hs.row k
 refine Vd ?_
 refine cD (fun h161=>?_) fun h161=>?_
 refine Vl5 ?_
 refine Vd0 ?_
 refine Vp9 ?_
 refine Vc3 ?_
 refine Yg1 168 rfl (fun h168=>?_) (fun h168=>?_)
 rw[h168]
 have hbad:rowOk (i.stops.length+1) k (i.travel.getD k default)=false:=by
   rw[← Yfp]
   intro hr
   simp only[rowOk,Ye0,decide_eq_true_eq] at hr
   have hb:=Y3M (l:=(i.travel.getD k default)) (k:=j) (by omega) hr.2.2
   by_cases hkj:(k:Int)=(j:Int)
   · have:k=j:=by omega
     subst this
     simp_all
   · simp_all
 refine Vz ?_
 refine Vk3 ?_
 refine Vi8 ?_
 refine Vt7 ?_
 refine Ve1 ?_
 show LV.bool _=LV.bool _
 congr 1
 exact (Y2R (Y4r (by rw[hT,Y3v (by omega) hbad]))).symm
 rw[h168]
 refine Vo7 ?_
 refine Vo8 ?_
 refine Yg1 172 rfl (fun h172=>?_) (fun h172=>?_)
 rw[h172]
 replace h172:=of_decide_eq_true h172
 refine Vl6 ?_
 refine VgA ?_
 refine cB (fun h176=>?_) fun h176=>?_
 have hbad:rowOk (i.stops.length+1) k (i.travel.getD k default)=false:=by
   rw[← Yfp]
   intro hr
   simp only[rowOk,Ye0,decide_eq_true_eq] at hr
   have hb:=Y3M (l:=(i.travel.getD k default)) (k:=j) (by omega) hr.2.2
   by_cases hkj:(k:Int)=(j:Int)
   · have:k=j:=by omega
     subst this
     simp_all
   · simp_all
 refine Vc5 ?_
 refine Vi8 ?_
 refine Vt7 ?_
 refine Ve1 ?_
 show LV.bool _=LV.bool _
 congr 1
 exact (Y2R (Y4r (by rw[hT,Y3v (by omega) hbad]))).symm
 refine Vs ?_
 refine⟨j+1,(by dsimp only;omega),_,lessA,⟨by omega,fun y h=>by
       by_cases hy:y=j
       · subst hy
         refine⟨by simp_all,fun e=>?_⟩
         subst e
         simp_all
       · exact hB y (by omega)⟩,_,hasA⟩
 rw[h172]
 replace h172:=of_decide_eq_false h172
 refine Vw0 ?_
 refine Vf1 ?_
 refine Vc2 ?_
 refine Vs ?_
 refine⟨j+1,(by dsimp only;omega),_,lessA,⟨by omega,fun y h=>by
       by_cases hy:y=j
       · subst hy
         refine⟨by simp_all,fun e=>?_⟩
         subst e
         simp_all
       · exact hB y (by omega)⟩,_,hasA⟩
 refine VcA ?_
 refine⟨k+1,(by dsimp only;omega),_,lessA,⟨by omega,by rw[hT,Y7t (by omega) (by rw[rowOk,decide_eq_true (by omega),decide_eq_true ((hB k (by omega)).2 rfl),Y3g fun y hy=>(hB y (by omega)).1];rfl)]⟩,_,hasA⟩
 refine Vt1 ?_
 show LV.bool _=LV.bool _
 congr 1
 exact (YaJ (nt h22) (by omega) hcars hstops hpairs (Yc7 (by omega) (by rw[hT,Y5p (by omega)]))).symm
theorem Y9F (n:Nat)(hn:n≤1000000)(x:Int): CallsV Try.prog 66 [.int .i64 (n:Int),.int .i64 x] (.slo 1 (em ni (List.replicate n x))):=by
 refine Yg2 (Yga _) mix Try.func66 rfl rfl (by simp[Try.f66]) (by kernel_rfl) (nb:=0) ?_
 unfold Try.f66
 refine Vc ?_
 refine Vd0 ?_
 refine VqI ?_
 intro g8
 rw[show List.replicate (n) (List.map pureC [LV.int .i64 0])=em ni (List.replicate (n) 0) from by rw[Y3w];rfl]
 refine Ve0 ?_
 refine Vw4 ?_
 refine Vj7 ?_
 refine Yg8 YfX (α:=Nat) (fun i st=>(i≤n)∧∃ m0,st=⟨(updS (updS (updS (updS (updS (fun _=>LV.undef) 1 (.int .i64 x)) 5 (.own 512 g8 0 n none)) 9 (.own 512 g8 0 n none)) 10 (.int .i64 (n:Int))) 11 (.int .i64 (i:Int))),effM m0 [(512,⟨g8,false,.slc,1,em ni (fillN n x i)⟩)]⟩) (fun i=>n - i) 0 ⟨_,lessA,Ye1 _,_,hasA⟩ ?_
 rintro i _ ⟨hi,m0,rfl⟩
 refine Vd ?_
 refine cD (fun h12=>?_) fun h12=>?_
 refine Vk2 ?_
 refine Vm3 ?_
 refine Va ?_
 refine VkG ?_
 refine Ygs YfX (n:=1) rfl rfl rfl rfl rfl rfl (Y08 (by rw[Y62 (by omega)];omega)) rfl rfl rfl rfl (YdK rfl) rfl (Y0M ni _ _ x) ?_
 rw[YaE (by omega)]
 refine Vi3 ?_
 refine⟨i+1,(by dsimp only;omega),_,lessA,(by omega),_,hasA⟩
 refine Vb4 ?_
 refine VrI ?_
 show LV.slo 1 (List.drop 0 (em ni (fillN n x i)))=_
 rw[Ye3,show i=n by omega,Yac]
theorem Y7S (n:Nat)(hn:n≤1000000)(k x:Int)(hk:k=(n:Int)): CallsV Try.prog 66 [.int .i64 k,.int .i64 x] (.slo 1 (em ni (List.replicate n x))):=hk ▸ Y9F n hn x
theorem YcT {i:Inst}(h:checkB i=true): kpo (newP i)=.agg [.slo 1 (em nr (List.replicate i.cars.length [])),.slo 1 (em ni (List.replicate (i.stops.length+1) (-1))),.slo 1 (em ni (List.replicate i.cars.length (-1))),.slo 1 (em ni (List.replicate i.cars.length 0)),.slo 1 (em ni (List.replicate (i.stops.length+1) 0)),.slo 1 (em ni (List.replicate i.cars.length 0)),.int .i64 0]:=by
 unfold newP
 rw[if_pos h]
 rfl
theorem Ybl {i:Inst}(h:¬ checkB i=true): kpo (newP i)=kpo zeroP:=by
 unfold newP
 rw[if_neg h]
theorem YcR (i:Inst)(hs:i.Short): CallsV Try.prog 47 [ei i] (kpo (newP i)):=by
 refine Yg2 (Yga _) mix Try.func47 rfl rfl (by simp[Try.f47]) (by kernel_rfl) (nb:=0) ?_
 unfold Try.f47
 refine Vy0 ?_
 intro g1
 refine Vd6 ?_
 intro g2
 refine Vi5 ?_
 refine Vt0 ?_
 refine Yg6 YfX rfl (Frz.aggc (by exact YfY rfl) (Frz.aggn)) (Y9K i hs) rfl rfl (fun _=>rfl) ?_
 refine Vb1 ?_
 refine Ygb rfl (fun h7=>?_) (fun h7=>?_)
 have hno:¬ checkB i=true:=by rw[nf h7];simp
 refine Vr8 ?_
 refine VbG ?_
 refine VgB ?_
 refine VtI ?_
 show LV.agg _=_
 (rw[Ybl hno];rfl)
 have hok:checkB i=true:=nt h7
 obtain⟨c1,c2,c3⟩:=Y8W hok
 refine Vh ?_
 refine Vi0 ?_
 refine Vo5 ?_
 refine Vj ?_
 refine Vs7 ?_
 refine VqE ?_
 refine Vm4 ?_
 refine Va ?_
 refine VuI ?_
 intro g17
 rw[show List.replicate i.cars.length (List.map pureC [LV.nils])=em nr (List.replicate i.cars.length []) from by rw[Y3w];rfl]
 refine Va ?_
 refine VxI ?_
 intro g19
 refine Va ?_
 refine VlG ?_
 intro g21
 refine Va ?_
 refine VlG ?_
 intro g23
 refine Va ?_
 refine VxI ?_
 intro g25
 refine Va ?_
 refine VlG ?_
 intro g27
 refine VwE ?_
 refine Vi4 ?_
 refine Vx0 ?_
 refine VrD ?_
 refine Vu4 ?_
 refine VwI ?_
 show LV.agg _=_
 (rw[YcT hok])
theorem Ycb (i:Inst)(hs:i.Short): CallsV Try.prog 47 [ei i] (.agg (kp (newP i))):=(YcR i hs).freeze rfl
theorem Y2Y {T:Delta}(hT:OkD T): (movedL T).length≤40000000:=by
 obtain⟨d1,-,-,d4⟩:=hT
 have hb:=Y3P Turn.before T.turns []
 have ha:=Y3P Turn.after T.turns []
 have sb:=Y6R (N:=1000000) (l:=T.turns.map fun t=>t.before.length) (by intro x hx;obtain⟨t,ht,rfl⟩:=Ye8.1 hx;exact (d4 t ht).1)
 have sa:=Y6R (N:=1000000) (l:=T.turns.map fun t=>t.after.length) (by intro x hx;obtain⟨t,ht,rfl⟩:=Ye8.1 hx;exact (d4 t ht).2)
 rw[Ye4] at sa sb
 have h1:=Yex (fun s=>!decide (s∈collA T.turns)) (collB T.turns)
 have h2:=Yex (fun s=>!decide (s∈collB T.turns)) (collA T.turns)
 have e1:(collB T.turns).length≤19000000:=Ye5 hb (by simp only[YeM];omega)
 have e2:(collA T.turns).length≤19000000:=Ye5 ha (by simp only[YeM];omega)
 rw[movedL,Y3m,YdN]
 omega
theorem YbP {α:Type}[Inhabited α](k:α→Int)(p:List α)(x y:α): y∈insI k p x↔y=x∨y∈p:=by
 unfold insI
 rw[Yei,Yep]
 constructor
 rintro (h | h | h)
 exact .inr (YeC h)
 exact .inl h
 exact .inr (YeE h)
 rintro (h | h)
 exact .inr (.inl h)
 rw[← Yfg (posI k x p p.length) p] at h
 rcases Yei.1 h with h | h
 exact .inl h
 exact .inr (.inr h)
theorem Y27 {α:Type}[Inhabited α](k:α→Int)(y:α): ∀ (r p:List α),y∈isort k p r↔y∈p∨y∈r
 | [],p=>by simp[isort]
 | x::r,p=>by
   rw[isort,Y27 k y r,YbP,Yep]
   constructor
   · rintro ((h | h) | h)
     · exact .inr (.inl h)
     · exact .inl h
     · exact .inr (.inr h)
   · rintro (h | h | h)
     · exact .inl (.inr h)
     · exact .inl (.inl h)
     · exact .inr h
theorem Y2c {d:Delta}(h:OkD d): OkD (tidyD d):=by
 obtain⟨h1,h2,h3,h4⟩:=h
 refine⟨?_,?_,?_,fun t ht=>h4 t ?_⟩
 show (isort _ _ _).length<20
 rw[Y29]
 have:=Yex (fun x=>!chgT x) d.turns
 simp only[YeM]
 omega
 show (isort _ _ _).length<20
 rw[Y29]
 have:=Yex (fun x=>!chgH x) d.locks
 simp only[YeM]
 omega
 show (isort _ _ _).length<20
 rw[Y29]
 have:=Yex (fun x=>!chgH x) d.ices
 simp only[YeM]
 omega
 rcases (Y27 Turn.car t _ _).1 ht with h | h
 cases h
 exact (YeL.1 h).1
theorem YdC (i:Inst)(n:Int): CallsV Try.prog 105 [ei i,.int .i64 n] (.bool (isStop i n)):=by
 refine Yg2 (Yga _) mix Try.func105 rfl rfl (by simp[Try.f105]) (by kernel_rfl) (nb:=0) ?_
 unfold Try.f105
 refine Vy0 ?_
 intro g2
 refine Vv7 ?_
 ·refine Yg1 7 rfl (fun h7=>?_) (fun h7=>?_)
  rw[h7]
  replace h7:=of_decide_eq_true h7
  refine Vi ?_
  refine Vb6 ?_
  refine Vt2 ?_
  refine Vh1 ?_
  rotate_left
  rw[h7]
  replace h7:=of_decide_eq_false h7
  refine Vu0 ?_
  all_goals
   refine Vd2 ?_
   show LV.bool _=LV.bool _
   congr 1
   simp only[isStop,ge_iff_le] at *
   · (simp[*];done)
theorem Ycf (i:Inst)(hs:i.Short)(a b:Int)(ha:0≤a)(hb:0≤b): CallsV Try.prog 70 [ei i,.int .i64 a,.int .i64 b] (.int .i64 (way i a b)):=by
 refine Yg2 (Yga _) mix Try.func70 rfl rfl (by simp[Try.f70]) (by kernel_rfl) (nb:=0) ?_
 unfold Try.f70
 refine Vy0 ?_
 intro g3
 refine Ve0 ?_
 refine Vu3 ?_
 refine Vr0 ?_
 refine Vm ?_
 refine Yg1 12 rfl (fun h12=>?_) (fun h12=>?_)
 rw[h12]
 replace h12:=of_decide_eq_true h12
 refine Vk0 ?_
 refine Vn6 ?_
 refine Vg5 ?_
 show LV.int _ _=LV.int _ _
 simp only[way]
 · (rw[if_pos (by omega)];done)
 rw[h12]
 replace h12:=of_decide_eq_false h12
 refine Vi ?_
 refine Ve3 ?_
 refine Vy1 ?_
 refine Vi ?_
 refine VwD ?_
 refine Vp4 ?_
 refine VrB ?_
 refine cD (fun h21=>?_) fun h21=>?_
 refine Vw2 ?_
 show LV.int _ _=LV.int _ _
 simp only[way]
 · (rw[if_neg (by omega),if_pos (by omega)];done)
 refine Vf0 ?_
 refine VsB ?_
 refine Vn4 ?_
 refine Vq1 ?_
 show LV.int _ _=LV.int _ _
 simp only[way]
 · (rw[if_neg (by omega),if_neg (by omega)];done)
theorem Ycp (i:Inst)(hs:i.Short)(l:List Int)(hl:Short l): CallsV Try.prog 69 [ei i,.sl (em ni l)] (.int .i64 (cost i l)):=by
 refine Yg2 (Yga _) mix Try.func69 rfl rfl (by simp[Try.f69]) (by kernel_rfl) (nb:=0) ?_
 unfold Try.f69
 refine Vy0 ?_
 intro g2
 refine Vn ?_
 refine Vt ?_
 refine Vp8 ?_
 refine Yg8 YfX (α:=Nat × Int × Int) (fun ⟨k,s,p⟩ st=>(k≤l.length∧cost i l=costGo i p s (l.drop k)∧0≤p)∧∃ m0,st=⟨(updS (updS (updS (updS (updS (updS (fun _=>LV.undef) 9 (.sl (em ni l))) 10 (.int .i64 (l.length:Int))) 11 (.int .i64 (k:Int))) 5 (.int .i64 s)) 6 (.int .i64 p)) 2 (.ref 128 g2 0 0)),effM m0 [(128,⟨g2,false,.var,4,[ic i]⟩)]⟩) (fun ⟨k,s,p⟩=>l.length - k) ⟨0,0,0⟩ ⟨_,lessA,⟨by omega,rfl,by omega⟩,_,hasA⟩ ?_
 rintro⟨k,s,p⟩ _ ⟨⟨hi,hA,hp⟩,m0,rfl⟩
 have hsp:=hl
 unfold Short at hsp
 refine Vd ?_
 refine cD (fun h12=>?_) fun h12=>?_
 refine Vn1 ?_
 refine Vb0 ?_
 refine Vx2 ?_
 refine VaJ ?_
 refine Vb1 ?_
 refine Ygb rfl (fun h18=>?_) (fun h18=>?_)
 refine VqB ?_
 show LV.int _ _=LV.int _ _
 congr 1
 symm
 rw[hA]
 · (rw[Y09 (by omega),costGo,if_neg (by simpa using h18)];done)
 refine VkA ?_
 refine Vt0 ?_
 refine Vg ?_
 refine Yg6 YfX rfl (Frz.aggc (by exact YfY rfl) (Frz.aggc (by exact Frz.pure rfl) (Frz.aggc (by exact Frz.pure rfl) (Frz.aggn)))) (Ycf i hs _ _ (by omega) (by exact Y60 (by simpa using h18))) rfl rfl (fun _=>rfl) ?_
 refine Vm ?_
 refine Vt ?_
 refine Vy2 ?_
 refine⟨⟨k+1,_,_⟩,(by dsimp only;omega),_,(YfZ (YfV (YfV (YfV (YfV (YfV (YfV (Yg0 _) rfl) rfl) rfl) rfl) rfl) rfl) _),⟨by omega,by rw[hA,Y09 (by omega),costGo,if_pos (by simpa using h18)];rfl,Y60 (by simpa using h18)⟩,_,(congrArg (St.mk _) (Y01 (YfW rfl Yg3)).symm)⟩
 refine Vh3 ?_
 refine Vx2 ?_
 refine VnG ?_
 refine Vu ?_
 refine Vq1 ?_
 show LV.int _ _=LV.int _ _
 congr 1
 symm
 rw[hA]
 (rw[Y0m (by omega)];rfl)
theorem Y80 (l l':List Int)(hl:l.length≤1000000)(hl':l'.length≤1000000): CallsV Try.prog 39 [.sl (em ni l),.sl (em ni l')] (.bool (decide (l=l'))):=by
 refine Yg2 (Yga _) mix Try.func39 rfl rfl (by simp[Try.f39]) (by kernel_rfl) (nb:=0) ?_
 unfold Try.f39
 refine Vw3 ?_
 refine Vr0 ?_
 refine Va ?_
 refine Vv2 ?_
 refine cB (fun h10=>?_) fun h10=>?_
 refine Vw2 ?_
 show LV.bool _=LV.bool _
 congr 1
 symm
 · (refine decide_eq_false (fun h=>?_);subst h;simp at h10;done)
 have h10e:l.length=l'.length:=by first | omega | (simp at h10;omega)
 refine Vh ?_
 refine Vp ?_
 refine Vq ?_
 refine VkI ?_
 rintro i _ ⟨⟨hi,hA⟩,m0,rfl⟩
 refine Vd ?_
 refine cD (fun h14=>?_) fun h14=>?_
 refine Vk2 ?_
 refine Vj5 ?_
 refine Vg ?_
 refine VtD ?_
 refine Vh4 ?_
 refine Vg ?_
 refine VtD ?_
 refine Vh4 ?_
 refine Vu ?_
 refine Vx0 ?_
 refine cB (fun h24=>?_) fun h24=>?_
 refine Vl2 ?_
 show LV.bool _=LV.bool _
 congr 1
 symm
 · (refine decide_eq_false (fun h=>?_);subst h;simp at h24;done)
 refine Vs ?_
 refine⟨i+1,(by dsimp only;omega),_,lessA,⟨by omega,fun j h=>by
       by_cases hj:j=i
       · subst hj;simpa using h24
       · exact hA j (by omega)⟩,_,hasA⟩
 refine Vt1 ?_
 show LV.bool _=LV.bool _
 congr 1
 symm
 (exact decide_eq_true (Ybj h10e fun j hj=>hA j (by omega)))
def costP (i:Inst)(R:List (List Int)): Int:=R.foldl (fun s r=>wadd s (cost i r)) 0
theorem Yb1 (i:Inst)(R:List (List Int)){k:Nat}(h:k<R.length): costP i (R.take (k+1))=wadd (costP i (R.take k)) (cost i (R.getD k default)):=by
 rw[Y0a h,costP,YeG]
 rfl
def unassL (R:List (List Int))(n:Nat): List Int:=((List.range' 1 (n - 1)).filter fun s:Nat=>decide ((whereR R (s:Int)).1<0)).map fun s:Nat=>(s:Int)
theorem Y4o (R:List (List Int))(n:Nat): (unassL R n).length≤n:=by
 unfold unassL
 rw[Ye4]
 refine Ye5 (Yex _ _) ?_
 simp
theorem Yap {R:List (List Int)}{n:Nat}(h0:1≤n)(h:(whereR R (n:Int)).1<0): unassL R (n+1)=unassL R n++[(n:Int)]:=by
 obtain⟨k,rfl⟩:∃ k,n=k+1:=⟨n - 1,by omega⟩
 unfold unassL
 rw[show k+1+1 - 1=k+1 by omega,show k+1 - 1=k by omega,List.range'_concat,Yfn,Yfc,Nat.one_mul,show 1+k=k+1 by omega]
 congr 1
 simp only[Yfd,decide_eq_true h,if_true,List.filter_nil,Yey,Yfi]
theorem YbH {R:List (List Int)}{n:Nat}(h0:1≤n)(h:¬ (whereR R (n:Int)).1<0): unassL R (n+1)=unassL R n:=by
 obtain⟨k,rfl⟩:∃ k,n=k+1:=⟨n - 1,by omega⟩
 unfold unassL
 rw[show k+1+1 - 1=k+1 by omega,show k+1 - 1=k by omega,List.range'_concat,Yfn,Yfc,Nat.one_mul,show 1+k=k+1 by omega]
 simp only[Yfd,decide_eq_false h,Yf4,if_false,List.filter_nil,Yfi,YdX]
theorem Ycy (i:Inst)(hs:i.Short)(n:Int): CallsV Try.prog 107 [ei i,.int .i64 n] (.int .i64 (mate i.pairs n)):=by
 refine Yg2 (Yga _) mix Try.func107 rfl rfl (by simp[Try.f107]) (by kernel_rfl) (nb:=0) ?_
 unfold Try.f107
 refine Vy0 ?_
 intro g2
 refine Vb0 ?_
 refine Vu7 ?_
 refine VbJ ?_
 rintro k _ ⟨⟨hi,hA⟩,m0,rfl⟩
 have hsp:=hs.pairs
 unfold Short at hsp
 refine Vd ?_
 refine cD (fun h11=>?_) fun h11=>?_
 refine VdA ?_
 intro g6
 refine Vc6 ?_
 refine VgO ?_
 refine Vc ?_
 refine Vb3 ?_
 refine VgG ?_
 refine cD (fun h15=>?_) fun h15=>?_
 refine Vc ?_
 refine Vb3 ?_
 refine Va1 ?_
 refine VlI ?_
 refine Ve1 ?_
 show LV.int _ _=LV.int _ _
 congr 1
 rw[hA]
 · (rw[Y09 (by omega),mate,if_pos (by simpa using h15)];done)
 refine Vc ?_
 refine Vb3 ?_
 refine VgG ?_
 refine cD (fun h21=>?_) fun h21=>?_
 refine Vc ?_
 refine Vb3 ?_
 refine Va1 ?_
 refine VlI ?_
 refine Ve1 ?_
 show LV.int _ _=LV.int _ _
 congr 1
 rw[hA]
 · (rw[Y09 (by omega),mate,if_neg (by simpa using h15),if_pos (by simpa using h21)];done)
 refine Vw7 ?_
 refine VxN ?_
 refine⟨k+1,(by dsimp only;omega),_,lessA,⟨by omega,by rw[hA,Y09 (by omega),mate,if_neg (by simpa using h15),if_neg (by simpa using h21)]⟩,_,hasA⟩
 refine Vt1 ?_
 show LV.int _ _=LV.int _ _
 congr 1
 rw[hA]
 (rw[Y0m (by omega)];rfl)
theorem YbF (i:Inst)(hs:i.Short)(n:Int): CallsV Try.prog 108 [ei i,.int .i64 n] (.bool (first i.pairs n)):=by
 refine Yg2 (Yga _) mix Try.func108 rfl rfl (by simp[Try.f108]) (by kernel_rfl) (nb:=0) ?_
 unfold Try.f108
 refine Vy0 ?_
 intro g2
 refine Vb0 ?_
 refine Vu7 ?_
 refine VcJ ?_
 rintro k _ ⟨⟨hi,hA⟩,m0,rfl⟩
 have hsp:=hs.pairs
 unfold Short at hsp
 refine Vd ?_
 refine cD (fun h11=>?_) fun h11=>?_
 refine VdA ?_
 intro g6
 refine Vc6 ?_
 refine Va4 ?_
 refine Vb3 ?_
 refine Vf2 ?_
 refine cD (fun h17=>?_) fun h17=>?_
 refine Vl2 ?_
 show LV.bool _=LV.bool _
 congr 1
 rw[hA]
 · (rw[Y09 (by omega),first,if_pos (by simpa using h17)];done)
 refine Vs ?_
 refine⟨k+1,(by dsimp only;omega),_,lessA,⟨by omega,by rw[hA,Y09 (by omega),first,if_neg (by simpa using h17)]⟩,_,hasA⟩
 refine Vt1 ?_
 show LV.bool _=LV.bool _
 congr 1
 rw[hA]
 (rw[Y0m (by omega)];rfl)
theorem Y7h (l:List Int)(hs:Short l)(n:Int): CallsV Try.prog 106 [.sl (em ni l),.int .i64 n] (.bool (has l n)):=by
 refine Yg2 (Yga _) mix Try.func106 rfl rfl (by simp[Try.f106]) (by kernel_rfl) (nb:=0) ?_
 unfold Try.f106
 refine VbA ?_
 refine Yg6 YfX rfl (Frz.aggc (by exact Frz.pure rfl) (Frz.aggc (by exact Frz.pure rfl) (Frz.aggn))) (Y86 l hs n) rfl rfl (fun _=>rfl) ?_
 refine Vu ?_
 refine Vq1 ?_
 rfl
theorem Yc8 (i:Inst)(hs:i.Short)(l:List Int)(hl:Short l): CallsV Try.prog 68 [ei i,.sl (em ni l)] (.bool (order i l)):=by
 refine Yg2 (Yga _) mix Try.func68 rfl rfl (by simp[Try.f68]) (by kernel_rfl) (nb:=0) ?_
 unfold Try.f68
 refine Vy0 ?_
 intro g2
 refine Vp8 ?_
 refine Yg8 YfX (α:=Nat) (fun k st=>(k≤l.length∧∀ j,j<k→chk i l j (l.getD j default)=true)∧∃ m0,st=⟨(updS (updS (updS (updS (updS (fun _=>LV.undef) 9 (.sl (em ni l))) 10 (.int .i64 (l.length:Int))) 11 (.int .i64 (k:Int))) 1 (.sl (em ni l))) 2 (.ref 128 g2 0 0)),effM m0 [(128,⟨g2,false,.var,4,[ic i]⟩)]⟩) (fun k=>l.length - k) 0 ⟨_,lessA,⟨by omega,fun j h=>by omega⟩,_,hasA⟩ ?_
 rintro k _ ⟨⟨hi,hA⟩,m0,rfl⟩
 have hsp:=hl
 unfold Short at hsp
 refine Vd ?_
 refine cD (fun h12=>?_) fun h12=>?_
 refine Vl5 ?_
 refine Vb0 ?_
 refine Vx2 ?_
 refine VaJ ?_
 refine Vc3 ?_
 refine Yg1 20 rfl (fun h20=>?_) (fun h20=>?_)
 rw[h20]
 refine Vu0 ?_
 refine Vn6 ?_
 refine ViN ?_
 · (refine congrArg LV.bool (Y1c (k:=k) (by omega) ?_).symm;unfold chk;simp_all [has];done)
 rw[h20]
 refine Vg2 ?_
 refine VxD ?_
 refine Vi ?_
 refine Yg6 YfX rfl (Frz.aggc (by exact Frz.pure rfl) (Frz.aggc (by exact Frz.pure rfl) (Frz.aggn))) (Y7h (l.take k) (hl.take k) _) rfl rfl (fun _=>rfl) ?_
 refine Vk4 ?_
 refine cD (fun h26=>?_) fun h26=>?_
 refine VqB ?_
 · (refine congrArg LV.bool (Y1c (k:=k) (by omega) ?_).symm;unfold chk;simp_all [has];done)
 refine Vf0 ?_
 refine Vx2 ?_
 refine Yg6 YfX rfl (Frz.aggc (by exact YfY rfl) (Frz.aggc (by exact Frz.pure rfl) (Frz.aggn))) (Ycy i hs _) rfl rfl (fun _=>rfl) ?_
 refine Ve0 ?_
 refine Vk ?_
 refine cD (fun h31=>?_) fun h31=>?_
 refine Vx7 ?_
 refine Vs8 ?_
 have hk:chk i l k (l.getD k default)=true:=by
   unfold chk
   simp_all [has]
 refine⟨k+1,(by dsimp only;omega),_,lessA,⟨by omega,fun j h=>by
       by_cases hj:j=k
       · subst hj;exact hk
       · exact hA j (by omega)⟩,_,hasA⟩
 refine Vu1 ?_
 refine Va ?_
 refine Yg6 YfX rfl (Frz.aggc (by exact Frz.pure rfl) (Frz.aggc (by exact Frz.pure rfl) (Frz.aggn))) (Y86 l hl _) rfl rfl (fun _=>rfl) ?_
 refine Vv7 ?_
 refine Yg1 37 rfl (fun h37=>?_) (fun h37=>?_)
 rw[h37]
 replace h37:=of_decide_eq_true h37
 refine Vz ?_
 refine Vk3 ?_
 refine Ve1 ?_
 · (refine congrArg LV.bool (Y1c (k:=k) (by omega) ?_).symm;unfold chk;simp_all [has];done)
 rw[h37]
 replace h37:=of_decide_eq_false h37
 refine Vb ?_
 refine Vt0 ?_
 refine Vi ?_
 refine Yg6 YfX rfl (Frz.aggc (by exact YfY rfl) (Frz.aggc (by exact Frz.pure rfl) (Frz.aggn))) (YbF i hs _) rfl rfl (fun _=>rfl) ?_
 refine Vo7 ?_
 refine Vh1 ?_
 refine Vi1 ?_
 refine Ygb rfl (fun h45=>?_) (fun h45=>?_)
 refine Vl2 ?_
 · (refine congrArg LV.bool (Y1c (k:=k) (by omega) ?_).symm;unfold chk;simp_all [has];done)
 refine Vs ?_
 have hk:chk i l k (l.getD k default)=true:=by
   unfold chk
   simp_all [has]
 refine⟨k+1,(by dsimp only;omega),_,lessA,⟨by omega,fun j h=>by
       by_cases hj:j=k
       · subst hj;exact hk
       · exact hA j (by omega)⟩,_,hasA⟩
 refine Vt1 ?_
 exact congrArg LV.bool (Y5b fun j hj=>hA j (by omega)).symm
/-- A trip that is handed over whole. -/
def tripO (o:Option Trip): LV:=.tup [.agg [.slo 1 (em ni (o.getD zeroT).t0),.slo 1 (em ni (o.getD zeroT).t1),.int .i64 (o.getD zeroT).t2,.int .i64 (o.getD zeroT).t3],.bool o.isSome]
theorem Ybu (i:Inst)(hs:i.Short)(car:Int)(l:List Int)(hl:Short l): CallsV Try.prog 49 [ei i,.int .i64 car,.sl (em ni l)] (tripO (eval i car l)):=by
 refine Yg2 (Yga _) mix Try.func49 rfl rfl (by simp[Try.f49]) (by kernel_rfl) (nb:=0) ?_
 unfold Try.f49
 refine Vy0 ?_
 intro g3
 refine VbB ?_
 intro g6
 refine VlA ?_
 refine Yg1 19 rfl (fun h19=>?_) (fun h19=>?_)
 rw[h19]
 replace h19:=of_decide_eq_true h19
 refine Vm7 ?_
 refine Vz ?_
 refine VmA ?_
 refine Vn7 ?_
 refine Vr9 ?_
 (rw[Y1l (by exact .inl h19)];rfl)
 rw[h19]
 replace h19:=of_decide_eq_false h19
 refine Vc4 ?_
 refine VfA ?_
 refine Yg1 26 rfl (fun h26=>?_) (fun h26=>?_)
 rw[h26]
 replace h26:=of_decide_eq_true h26
 refine Vz ?_
 refine VmA ?_
 refine Vn7 ?_
 refine Vr9 ?_
 (rw[Y1l (by exact .inr (.inl h26))];rfl)
 rw[h26]
 replace h26:=of_decide_eq_false h26
 refine Vb ?_
 refine Vt0 ?_
 refine Vi ?_
 refine Yg6 YfX rfl (Frz.aggc (by exact YfY rfl) (Frz.aggc (by exact Frz.pure rfl) (Frz.aggn))) (Yc8 i hs l hl) rfl rfl (fun _=>rfl) ?_
 refine Vl3 ?_
 refine Vk4 ?_
 refine Ygb rfl (fun h31=>?_) (fun h31=>?_)
 refine VnA ?_
 refine Vn7 ?_
 refine Vr9 ?_
 (rw[Y1l (by exact .inr (.inr (by simpa using h31)))];rfl)
 refine Vf0 ?_
 refine Vp5 ?_
 refine VyD ?_
 refine VlN ?_
 refine VmN ?_
 intro g8
 refine Vz3 ?_
 refine Vx2 ?_
 refine Yg6 YfX rfl (Frz.aggc (by exact YfY rfl) (Frz.aggc (by exact Frz.pure rfl) (Frz.aggn))) (Ycp i hs l hl) rfl rfl (fun _=>rfl) ?_
 refine VdJ ?_
 refine VbB ?_
 intro g9
 refine Vq3 ?_
 refine Vq0 ?_
 refine goWeak (Ygm (Ygi (n:=576) (c:=0) 700001 1 rfl rfl rfl rfl rfl rfl) (Ygi (n:=576) (c:=1) 700002 1 rfl rfl rfl rfl rfl rfl)) ?_
 refine Vm4 ?_
 refine Vj ?_
 refine Vt ?_
 refine VqE ?_
 refine Vg0 ?_
 refine Vq ?_
 refine Yg8 YfX (α:=Nat × Int × Int × Int × List Int × List Int × Nat × Nat) (fun ⟨k,p,clock,load,ss,ls,ga,gb⟩ st=>(k≤l.length∧evalGo i (i.cars.getD car.toNat default) 0 (i.cars.getD car.toNat default).c1 0 [] [] l=evalGo i (i.cars.getD car.toNat default) p clock load ss ls (l.drop k)∧0≤p∧ss.length=k∧ls.length=k)∧∃ m0,st=⟨(updS (updS (updS (updS (updS (updS (updS (updS (updS (updS (fun _=>LV.undef) 44 (.sl (em ni l))) 45 (.int .i64 (l.length:Int))) 46 (.int .i64 (k:Int))) 3 (.ref 192 g3 0 0)) 6 (.ref 384 g6 0 0)) 8 (.ref 512 g8 0 0)) 9 (.ref 576 g9 0 0)) 10 (.int .i64 p)) 11 (.int .i64 clock)) 12 (.int .i64 load)),effM m0 [(192,⟨g3,false,.var,4,[ic i]⟩),(384,⟨g6,false,.var,4,[[.nils,.nils,.int .i64 0,.int .i64 0]]⟩),(512,⟨g8,false,.var,3,[nc (i.cars.getD car.toNat default)]⟩),(576,⟨g9,false,.var,4,[[.own 700001 ga 0 k none,.own 700002 gb 0 k none,.int .i64 (cost i l),.int .i64 0]]⟩),(700001,⟨ga,false,.slc,1,em ni ss⟩),(700002,⟨gb,false,.slc,1,em ni ls⟩)]⟩) (fun ⟨k,p,clock,load,ss,ls,ga,gb⟩=>l.length - k) ⟨0,0,(i.cars.getD car.toNat default).c1,0,[],[],_,_⟩ ⟨_,(YfZ (YfV (YfV (YfV (YfV (YfV (YfV (YfV (YfV (YfV (YfV (Yg0 _) rfl) rfl) rfl) rfl) rfl) rfl) rfl) rfl) rfl) rfl) _),⟨by omega,rfl,by omega,rfl,rfl⟩,_,(congrArg (St.mk _) (Y01 (YfW rfl (YfW rfl (YfW rfl (YfW rfl (YfW rfl (YfW rfl Yg3))))))).symm)⟩ ?_
 rintro⟨k,p,clock,load,ss,ls,ga,gb⟩ _ ⟨⟨hi,hE,hp,hss,hls⟩,m0,rfl⟩
 have hsp:=hl
 have hst:=hs.stops
 unfold Short at hsp hst
 refine Vd ?_
 refine cD (fun h47=>?_) fun h47=>?_
 have hx:=Y0w (Y5j (by simpa using h31) k (by omega))
 refine Vn1 ?_
 refine Vn ?_
 refine Vt8 ?_
 refine Vi2 ?_
 refine VeJ ?_
 refine VvE ?_
 refine VsD ?_
 intro g15
 refine Vq3 ?_
 refine Vu8 ?_
 refine Vt8 ?_
 refine Vt0 ?_
 refine Vg ?_
 refine VnG ?_
 refine Vu ?_
 refine GL.max YfX rfl ?_
 refine VmE ?_
 refine Vp ?_
 refine Vc0 ?_
 refine Vu ?_
 refine Ve0 ?_
 refine Vl0 ?_
 refine Vm ?_
 refine Yg1 73 rfl (fun h73=>?_) (fun h73=>?_)
 rw[h73]
 replace h73:=of_decide_eq_true h73
 refine Vk7 ?_
 refine Vz ?_
 refine VmA ?_
 refine VoA ?_
 (rw[Y44 h19 h26 (by simpa using h31) (hE.trans (by rw[Y09 (by omega),evalGo,if_pos (by exact .inl h73)]))];rfl)
 rw[h73]
 replace h73:=of_decide_eq_false h73
 refine Vn3 ?_
 refine Yg1 77 rfl (fun h77=>?_) (fun h77=>?_)
 rw[h77]
 replace h77:=of_decide_eq_true h77
 refine Vz ?_
 refine VmA ?_
 refine VoA ?_
 (rw[Y44 h19 h26 (by simpa using h31) (hE.trans (by rw[Y09 (by omega),evalGo,if_pos (by exact .inr (.inl h77))]))];rfl)
 rw[h77]
 replace h77:=of_decide_eq_false h77
 refine Vc4 ?_
 refine Vy1 ?_
 refine Vi1 ?_
 refine cD (fun h82=>?_) fun h82=>?_
 refine VnA ?_
 refine VoA ?_
 (rw[Y44 h19 h26 (by simpa using h31) (hE.trans (by rw[Y09 (by omega),evalGo,if_pos (by exact .inr (.inr h82))]))];rfl)
 refine Vh ?_
 refine Vi0 ?_
 refine Vp5 ?_
 refine Vy4 ?_
 intro g87
 refine VfJ ?_
 refine Vt8 ?_
 refine Vy4 ?_
 intro g92
 refine VfJ ?_
 refine Vs0 ?_
 refine Vb7 ?_
 refine Vb6 ?_
 refine Vb7 ?_
 refine Vx0 ?_
 refine Vq4 ?_
 refine Vu3 ?_
 refine Vu ?_
 refine Vr5 ?_
 refine Vs5 ?_
 refine⟨⟨k+1,_,_,_,_,_,_,_⟩,(by dsimp only;omega),_,(YfZ (YfV (YfV (YfV (YfV (YfV (YfV (YfV (YfV (YfV (YfV (Yg0 _) rfl) rfl) rfl) rfl) rfl) rfl) rfl) rfl) rfl) rfl) _),⟨by omega,by rw[hE,Y09 (by omega),evalGo,if_neg (by rintro (h | h | h) <;> first | exact h73 h | exact h77 h | exact h82 h)];rfl,by omega,by simp[hss],by simp[hls]⟩,_,(congrArg (St.mk _) (Y01 (YfW rfl (YfW rfl (YfW rfl (YfW rfl (YfW rfl (YfW rfl Yg3))))))).symm)⟩
 refine Vh3 ?_
 refine Vx2 ?_
 refine VnG ?_
 refine Vu ?_
 refine Ve3 ?_
 refine Vb7 ?_
 refine Vi5 ?_
 refine Vu3 ?_
 refine Vl0 ?_
 refine Vk ?_
 refine cD (fun h112=>?_) fun h112=>?_
 refine VnA ?_
 refine Vn7 ?_
 refine Vr9 ?_
 (rw[Y44 h19 h26 (by simpa using h31) (hE.trans (by rw[Y0m (by omega),evalGo,if_pos (show wadd _ _>_ from h112)]))];rfl)
 refine Vf0 ?_
 refine Vt0 ?_
 refine Vq3 ?_
 refine Vb2 ?_
 refine⟨_,_,_,_,.cons (.cellA (n:=4) rfl rfl rfl (by simp) rfl rfl rfl (YdK rfl)) (.cons (.tmp rfl) .nil),.tup (.aggc (.aggc (by exact Exp.slo rfl rfl rfl rfl (by rw[Y00];omega)) (.aggc (by exact Exp.slo rfl rfl rfl rfl (by rw[Y00];omega)) (.aggc (.frz (.pure rfl)) (.aggc (.frz (.pure rfl)) .aggn)))) (.aggc (.frz (.pure rfl)) .aggn)),(by decide),by simp,?_⟩
 (rw[Y44 h19 h26 (by simpa using h31) (hE.trans (by rw[Y0m (by omega),evalGo,if_neg (show ¬ wadd _ _>_ from h112)]))];rfl)
theorem YcI (i:Inst)(hs:i.Short)(car:Int)(l:List Int)(hl:Short l): CallsV Try.prog 49 [ei i,.int .i64 car,.sl (em ni l)] (tripR (eval i car l)):=(Ybu i hs car l hl).freeze rfl
theorem Ydk (z:List Int)(hz:Ints z)(k:Int)(hk:0≤k)(hk1:k<1000000): CallsV Try.prog 32 [.sl (em ni z),.int .i64 k] (.int .i64 (num z k)):=by
 refine Yg2 (Yga _) mix Try.func32 rfl rfl (by simp[Try.f32]) (by kernel_rfl) (nb:=0) ?_
 unfold Try.f32
 refine Vw3 ?_
 refine Vv2 ?_
 refine cD (fun h7=>?_) fun h7=>?_
 refine Vp ?_
 refine Vs9 ?_
 refine Va1 ?_
 refine Vg5 ?_
 show LV.int _ _=LV.int _ _
 congr 1
 unfold num
 · (rw[if_pos (by omega)];done)
 have hlm:=hz.len
 have hl:0<(z.length:Int):=by omega
 have q1:=Int.tdiv_nonneg hk (Int.le_of_lt hl)
 have q2:=Int.tdiv_le_self (z.length:Int) hk
 have m1:=Int.tmod_nonneg (z.length:Int) hk
 have m2:=Int.tmod_lt_of_pos k hl
 have hx:=hz.at (k.tmod z.length).toNat
 unfold In at hx
 refine Vh ?_
 refine Vv8 ?_
 refine Vr0 ?_
 refine GL.remR YfX rfl rfl (by omega) ?_
 refine Vl7 ?_
 refine Vg ?_
 refine Vr0 ?_
 refine Vp1 ?_
 refine Vv ?_
 refine Vp1 ?_
 refine Vg ?_
 refine Vr0 ?_
 refine Vp1 ?_
 refine Vu ?_
 refine VwH ?_
 refine VjD ?_
 show LV.int _ _=LV.int _ _
 congr 1
 unfold num
 (rw[if_neg (by omega)];rfl)
/-- An instance that is handed over whole. -/
def eio (i:Inst): LV:=.agg [.slo 3 (em nc i.cars),.slo 4 (em ns i.stops),.slo 2 (em np i.pairs),.slo 1 (em nr i.travel)]
theorem le900 (j:Nat): 0≤([900,60,25,8]:List Int).getD j default∧([900,60,25,8]:List Int).getD j default≤900:=by
 match j with
 | 0=>decide
 | 1=>decide
 | 2=>decide
 | 3=>decide
 | j+4=>show (0:Int)≤0∧(0:Int)≤900;decide
theorem wi4 (a:Int): (within a 4).toNat<4:=by
 have:=Y03 (a:=a) (n:=4) (by decide)
 omega
theorem Y8c (z:List Int)(hz:Ints z): CallsV Try.prog 8 [.sl (em ni z)] (eio (instOf z)):=by
 refine Yg2 (Yga _) mix Try.func8 rfl rfl (by simp[Try.f8]) (by kernel_rfl) (nb:=0) ?_
 unfold Try.f8
 refine Vc ?_
 refine VzD ?_
 intro g2
 refine Va4 ?_
 refine Vn ?_
 refine VzD ?_
 intro g4
 refine Vi5 ?_
 refine Va0 ?_
 refine goWeak (Ygm (Ygi (n:=256) (c:=0) 700001 3 rfl rfl rfl rfl rfl rfl) (Ygm (Ygi (n:=256) (c:=1) 700002 4 rfl rfl rfl rfl rfl rfl) (Ygm (Ygi (n:=256) (c:=2) 700003 2 rfl rfl rfl rfl rfl rfl) (Ygi (n:=256) (c:=3) 700004 1 rfl rfl rfl rfl rfl rfl)))) ?_
 refine Vo0 ?_
 refine Yg8 YfX (α:=Nat × Nat × Nat × Nat × Nat) (fun ⟨k,ga,gb,gc,gd⟩ st=>(k≤nCars z)∧∃ m0,st=⟨(updS (updS (updS (updS (updS (fun _=>LV.undef) 0 (.sl (em ni z))) 2 (.ref 128 g2 0 0)) 3 (.fn 24 [])) 4 (.ref 256 g4 0 0)) 5 (.int .i64 (k:Int))),effM m0 [(128,⟨g2,false,.var,4,[[.nils,.nils,.nils,.nils]]⟩),(256,⟨g4,false,.var,4,[[.own 700001 ga 0 k none,.own 700002 gb 0 0 none,.own 700003 gc 0 0 none,.own 700004 gd 0 0 none]]⟩),(700001,⟨ga,false,.slc,3,em nc (cars z k)⟩),(700002,⟨gb,false,.slc,4,[]⟩),(700003,⟨gc,false,.slc,2,[]⟩),(700004,⟨gd,false,.slc,1,[]⟩)]⟩) (fun ⟨k,ga,gb,gc,gd⟩=>nCars z - k) ⟨0,_,_,_,_⟩ ⟨_,(YfZ (YfV (YfV (YfV (YfV (YfV (Yg0 _) rfl) rfl) rfl) rfl) rfl) _),(Ye1 _),_,(congrArg (St.mk _) (Y01 (YfW rfl (YfW rfl (YfW rfl (YfW rfl (YfW rfl (YfW rfl Yg3))))))).symm)⟩ ?_
 rintro⟨k,ga,gb,gc,gd⟩ _ ⟨hi,m0,rfl⟩
 have hw0:=Y03 (a:=num z 0) (n:=3) (by decide)
 have hnc:nCars z=(1+within (num z 0) 3).toNat:=rfl
 refine Vg0 ?_
 refine Vg ?_
 refine Vc7 ?_
 refine VgJ ?_
 refine Vv ?_
 refine Vk ?_
 refine cD (fun h25=>?_) fun h25=>?_
 have hs:=Ych z (k:=1+(k:Int)) (by omega) (by omega)
 unfold In at hs
 refine Vk2 ?_
 refine Va ?_
 refine Vv ?_
 refine Vc7 ?_
 refine Vy ?_
 refine Vi0 ?_
 refine Vw ?_
 refine Yg9 YfX (sz:=1) (z:=[LV.int .i64 0]) (es:=em ni [20,60,9,30]) rfl rfl rfl rfl (by decide) (by decide) (by decide) (FrzP.cons (S:=[]) (T:=[]) (Frz.aggc (S:=[]) (T:=[]) (Frz.pure rfl) Frz.aggn) rfl (by decide) rfl (FrzP.cons (S:=[]) (T:=[]) (Frz.aggc (S:=[]) (T:=[]) (Frz.pure rfl) Frz.aggn) rfl (by decide) rfl (FrzP.cons (S:=[]) (T:=[]) (Frz.aggc (S:=[]) (T:=[]) (Frz.pure rfl) Frz.aggn) rfl (by decide) rfl (FrzP.cons (S:=[]) (T:=[]) (Frz.aggc (S:=[]) (T:=[]) (Frz.pure rfl) Frz.aggn) rfl (by decide) rfl (FrzP.nil))))) rfl ?_
 intro g34
 refine Vg ?_
 refine VxE ?_
 refine VoG ?_
 refine VpG ?_
 refine Vr4 ?_
 refine VyE ?_
 refine Yg9 YfX (sz:=1) (z:=[LV.int .i64 0]) (es:=em ni [1000,200,90,60]) rfl rfl rfl rfl (by decide) (by decide) (by decide) (FrzP.cons (S:=[]) (T:=[]) (Frz.aggc (S:=[]) (T:=[]) (Frz.pure rfl) Frz.aggn) rfl (by decide) rfl (FrzP.cons (S:=[]) (T:=[]) (Frz.aggc (S:=[]) (T:=[]) (Frz.pure rfl) Frz.aggn) rfl (by decide) rfl (FrzP.cons (S:=[]) (T:=[]) (Frz.aggc (S:=[]) (T:=[]) (Frz.pure rfl) Frz.aggn) rfl (by decide) rfl (FrzP.cons (S:=[]) (T:=[]) (Frz.aggc (S:=[]) (T:=[]) (Frz.pure rfl) Frz.aggn) rfl (by decide) rfl (FrzP.nil))))) rfl ?_
 intro g44
 refine Vr4 ?_
 refine VxE ?_
 refine VoG ?_
 refine VpG ?_
 refine Ve6 ?_
 refine Yg9 YfX (sz:=3) (z:=[LV.int .i64 0,LV.int .i64 0,LV.int .i64 0]) rfl rfl rfl rfl (by decide) (by decide) (by decide) (FrzP.cons (S:=[]) (T:=[]) (YfY rfl) rfl (by decide) rfl (FrzP.nil)) (by conv=>lhs;simp only[fillE,List.replicate,List.map,pureC,YdS,YdT]) ?_
 intro g52
 refine Ygj YfX (f:=nc) (v:=carOf z k) (sz:=3) (z:=[.int .i64 0,.int .i64 0,.int .i64 0]) rfl rfl rfl rfl rfl (by decide) (YdK rfl) rfl rfl rfl rfl rfl rfl rfl (Y3L z k).symm rfl rfl rfl rfl rfl rfl rfl rfl (by omega) ?_
 rw[← Y9X]
 refine Vs0 ?_
 refine Vb7 ?_
 refine Vp0 ?_
 refine Va3 ?_
 refine⟨⟨k+1,_,_,_,_⟩,(by dsimp only;omega),_,(YfZ (YfV (YfV (YfV (YfV (YfV (Yg0 _) rfl) rfl) rfl) rfl) rfl) _),(by omega),_,(congrArg (St.mk _) (Y01 (YfW rfl (YfW rfl (YfW rfl (YfW rfl (YfW rfl (YfW rfl Yg3))))))).symm)⟩
 obtain rfl:k=nCars z:=by omega
 refine Vh3 ?_
 refine Va ?_
 refine Vc7 ?_
 refine Yg6 YfX rfl (Frz.aggc (by exact Frz.pure rfl) (Frz.aggc (by exact Frz.pure rfl) (Frz.aggn))) (Y0q _ 7 (by decide)) rfl rfl (fun _=>rfl) ?_
 have hw4:=Y03 (a:=num z 4) (n:=7) (by decide)
 refine Vv ?_
 refine VtB ?_
 refine Yg8 YfX (α:=Nat × Nat × Nat × Nat × Nat) (fun ⟨k,ga,gb,gc,gd⟩ st=>(k≤nStops z)∧∃ m0,st=⟨(updS (updS (updS (updS (updS (updS (fun _=>LV.undef) 0 (.sl (em ni z))) 2 (.ref 128 g2 0 0)) 3 (.fn 24 [])) 4 (.ref 256 g4 0 0)) 7 (.int .i64 (2+within (num z 4) 7))) 8 (.int .i64 (k:Int))),effM m0 [(128,⟨g2,false,.var,4,[[.nils,.nils,.nils,.nils]]⟩),(256,⟨g4,false,.var,4,[[.own 700001 ga 0 (nCars z) none,.own 700002 gb 0 k none,.own 700003 gc 0 0 none,.own 700004 gd 0 0 none]]⟩),(700001,⟨ga,false,.slc,3,em nc (cars z (nCars z))⟩),(700002,⟨gb,false,.slc,4,em ns (stops0 z k)⟩),(700003,⟨gc,false,.slc,2,[]⟩),(700004,⟨gd,false,.slc,1,[]⟩)]⟩) (fun ⟨k,ga,gb,gc,gd⟩=>nStops z - k) ⟨0,_,_,_,_⟩ ⟨_,(YfZ (YfV (YfV (YfV (YfV (YfV (YfV (Yg0 _) rfl) rfl) rfl) rfl) rfl) rfl) _),(Ye1 _),_,(congrArg (St.mk _) (Y01 (YfW rfl (YfW rfl (YfW rfl (YfW rfl (YfW rfl (YfW rfl Yg3))))))).symm)⟩ ?_
 rintro⟨k,ga,gb,gc,gd⟩ _ ⟨hi,m0,rfl⟩
 have hw4:=Y03 (a:=num z 4) (n:=7) (by decide)
 have hns:nStops z=(2+within (num z 4) 7).toNat:=rfl
 refine Vg0 ?_
 refine Vf2 ?_
 refine cD (fun h62=>?_) fun h62=>?_
 have hs:=Ych z (k:=5+(k:Int)) (by omega) (by omega)
 unfold In at hs
 refine Vk2 ?_
 refine Va ?_
 refine Vv ?_
 refine Vc7 ?_
 refine VmB ?_
 refine VqG ?_
 refine Vr4 ?_
 refine VhJ ?_
 refine Vr4 ?_
 refine Yg6 YfX rfl (Frz.aggc (by exact Frz.pure rfl) (Frz.aggc (by exact Frz.pure rfl) (Frz.aggn))) (Y0q _ 6 (by decide)) rfl rfl (fun _=>rfl) ?_
 refine Ygt YfX (z:=[LV.int .i64 0,LV.int .i64 0,LV.int .i64 0,LV.int .i64 0]) (cs:=[_,_,_,_]) (n:=4) rfl rfl rfl (EvS.cons (by conv=>lhs;whnf) (EvS.cons (by conv=>lhs;whnf) (EvS.cons (by conv=>lhs;whnf) (EvS.nil)))) rfl rfl ?_
 refine VsD ?_
 intro g10
 refine Vq3 ?_
 refine Vu8 ?_
 refine Vo1 ?_
 refine Yg9 YfX (sz:=1) (z:=[LV.int .i64 0]) (es:=em ni [900,60,25,8]) rfl rfl rfl rfl (by decide) (by decide) (by decide) (FrzP.cons (S:=[]) (T:=[]) (Frz.aggc (S:=[]) (T:=[]) (Frz.pure rfl) Frz.aggn) rfl (by decide) rfl (FrzP.cons (S:=[]) (T:=[]) (Frz.aggc (S:=[]) (T:=[]) (Frz.pure rfl) Frz.aggn) rfl (by decide) rfl (FrzP.cons (S:=[]) (T:=[]) (Frz.aggc (S:=[]) (T:=[]) (Frz.pure rfl) Frz.aggn) rfl (by decide) rfl (FrzP.cons (S:=[]) (T:=[]) (Frz.aggc (S:=[]) (T:=[]) (Frz.pure rfl) Frz.aggn) rfl (by decide) rfl (FrzP.nil))))) rfl ?_
 intro g83
 refine Vr4 ?_
 refine VxE ?_
 refine VoG ?_
 refine VpG ?_
 have hg:=le900 (within ((num z (5+(k:Int))).tdiv 7) 4).toNat
 have hw1:=Y03 (a:=(num z (5+(k:Int))).tdiv 8) (n:=30) (by decide)
 refine Vv ?_
 refine GL.min YfX rfl ?_
 refine Va6 ?_
 refine Vb7 ?_
 refine Vx0 ?_
 refine Vk5 ?_
 refine VyE ?_
 refine Vk ?_
 ·refine cD (fun h96=>?_) fun h96=>?_
  refine Vv0 ?_
  refine Vp1 ?_
  refine VxE ?_
  have hw2:=Y03 (a:=(num z (5+(k:Int))).tdiv 9) (n:=4) (by decide)
  refine Vi2 ?_
  refine Vs0 ?_
  refine Vb7 ?_
  refine Vj0 ?_
  refine Vf ?_
  refine Vo1 ?_
  refine Vf6 ?_
  refine ViJ ?_
  intro g106
  refine Ygj YfX (f:=ns) (v:=stopOf z k) (sz:=4) (z:=[.int .i64 0,.int .i64 0,.int .i64 0,.int .i64 0]) rfl rfl rfl rfl rfl (by decide) (YdK rfl) rfl rfl rfl rfl rfl rfl rfl (Y0o z k).symm rfl rfl rfl rfl rfl (by (simp only[ns,stopOf,if_pos h96];rfl)) rfl rfl (by omega) ?_
  rotate_left
  refine Vl1 ?_
  refine Vf ?_
  refine Vo1 ?_
  refine Vf6 ?_
  refine ViJ ?_
  intro g106
  refine Ygj YfX (f:=ns) (v:=stopOf z k) (sz:=4) (z:=[.int .i64 0,.int .i64 0,.int .i64 0,.int .i64 0]) rfl rfl rfl rfl rfl (by decide) (YdK rfl) rfl rfl rfl rfl rfl rfl rfl (Y0o z k).symm rfl rfl rfl rfl rfl (by (simp only[ns,stopOf,if_neg h96];rfl)) rfl rfl (by omega) ?_
  all_goals
   rw[← Y78]
   refine Vb6 ?_
   refine Vb7 ?_
   refine Vq0 ?_
   refine Va3 ?_
   refine⟨⟨k+1,_,_,_,_⟩,(by dsimp only;omega),_,(YfZ (YfV (YfV (YfV (YfV (YfV (YfV (Yg0 _) rfl) rfl) rfl) rfl) rfl) rfl) _),(by omega),_,(congrArg (St.mk _) (Y01 (YfW rfl (YfW rfl (YfW rfl (YfW rfl (YfW rfl (YfW rfl Yg3))))))).symm)⟩
 obtain rfl:k=nStops z:=by omega
 refine Vr1 ?_
 refine Vn8 ?_
 refine Yg8 YfX (α:=Nat × Nat × Nat × Nat × Nat) (fun ⟨k,ga,gb,gc,gd⟩ st=>(k≤nPairs z)∧∃ m0,st=⟨(updS (updS (updS (updS (updS (updS (fun _=>LV.undef) 0 (.sl (em ni z))) 2 (.ref 128 g2 0 0)) 3 (.fn 24 [])) 4 (.ref 256 g4 0 0)) 7 (.int .i64 (2+within (num z 4) 7))) 11 (.int .i64 (k:Int))),effM m0 [(128,⟨g2,false,.var,4,[[.nils,.nils,.nils,.nils]]⟩),(256,⟨g4,false,.var,4,[[.own 700001 ga 0 (nCars z) none,.own 700002 gb 0 (nStops z) none,.own 700003 gc 0 k none,.own 700004 gd 0 0 none]]⟩),(700001,⟨ga,false,.slc,3,em nc (cars z (nCars z))⟩),(700002,⟨gb,false,.slc,4,em ns (stopsK z (stops0 z (nStops z)) k)⟩),(700003,⟨gc,false,.slc,2,em np (pairsK z k)⟩),(700004,⟨gd,false,.slc,1,[]⟩)]⟩) (fun ⟨k,ga,gb,gc,gd⟩=>nPairs z - k) ⟨0,_,_,_,_⟩ ⟨_,(YfZ (YfV (YfV (YfV (YfV (YfV (YfV (Yg0 _) rfl) rfl) rfl) rfl) rfl) rfl) _),(Ye1 _),_,(congrArg (St.mk _) (Y01 (YfW rfl (YfW rfl (YfW rfl (YfW rfl (YfW rfl (YfW rfl Yg3))))))).symm)⟩ ?_
 rintro⟨k,ga,gb,gc,gd⟩ _ ⟨hi,m0,rfl⟩
 have hw4:=Y03 (a:=num z 4) (n:=7) (by decide)
 have hw14:=Y03 (a:=num z 14) (n:=3) (by decide)
 have hns:nStops z=(2+within (num z 4) 7).toNat:=rfl
 have hnp:nPairs z=min (within (num z 14) 3).toNat (nStops z / 2):=rfl
 have hsl:(stopsK z (stops0 z (nStops z)) k).length=nStops z:=by rw[Y19,Y0o]
 refine Vg0 ?_
 refine Vg ?_
 refine Vc7 ?_
 refine VgJ ?_
 refine Vm ?_
 refine Yg1 115 rfl (fun h115=>?_) (fun h115=>?_)
 rw[h115]
 replace h115:=of_decide_eq_true h115
 refine Vi ?_
 refine Vs9 ?_
 refine Vb ?_
 refine Vv ?_
 refine Vt5 ?_
 refine cD (fun h121=>?_) fun h121=>?_
 refine Vk2 ?_
 refine Vs9 ?_
 refine VuB ?_
 refine Vs9 ?_
 refine Vv ?_
 refine Vt ?_
 refine Ve0 ?_
 refine VaI ?_
 refine Vc7 ?_
 refine Yg6 YfX rfl (Frz.aggc (by exact Frz.pure rfl) (Frz.aggc (by exact Frz.pure rfl) (Frz.aggn))) (Y0q _ 2 (by decide)) rfl rfl (fun _=>rfl) ?_
 refine Vk ?_
 ·refine cD (fun h136=>?_) fun h136=>?_
  refine Vv0 ?_
  refine Vt ?_
  refine Vd0 ?_
  refine VaI ?_
  refine Vc7 ?_
  refine VyE ?_
  refine Vj5 ?_
  refine Vo1 ?_
  refine Va ?_
  refine Vi2 ?_
  refine Vo1 ?_
  refine Va ?_
  refine Vi2 ?_
  refine Vg ?_
  have hwq:=Y03 (a:=num z (16+(k:Int))) (n:=9) (by decide)
  refine GL.negR YfX rfl (by omega) ?_
  refine VzE ?_
  refine Vs0 ?_
  refine VjJ ?_
  refine VzE ?_
  refine Vs0 ?_
  refine Ygs YfX (n:=1) (es':=em ns (stopsK z (stops0 z (nStops z)) (k+1))) rfl rfl rfl rfl rfl rfl (Y08 (by (rw[YdQ];omega))) rfl rfl rfl rfl (YdK rfl) rfl (by (simp only[stopsK,pairStep,pairOf,if_pos h136,setQ,pairQ];exact Y0M ns _ _ (Stop.mk _ _ _ _))) ?_
  refine Vx0 ?_
  refine Vf ?_
  refine Vm2 ?_
  refine Vg ?_
  refine VnC ?_
  refine VkJ ?_
  intro g165
  refine Ygj YfX (f:=np) (v:=pairOf z k) (sz:=2) (z:=[.int .i64 0,.int .i64 0]) rfl rfl rfl rfl rfl (by decide) (YdK rfl) rfl rfl rfl rfl rfl rfl rfl (by simp[pairsK]) rfl rfl rfl rfl rfl (by (simp only[np,pairOf,if_pos h136];rfl)) rfl rfl (by omega) ?_
  rotate_left
  refine Vu1 ?_
  refine VaI ?_
  refine Vc7 ?_
  refine VyE ?_
  refine Vj5 ?_
  refine Vo1 ?_
  refine Va ?_
  refine Vi2 ?_
  refine Vo1 ?_
  refine Va ?_
  refine Vi2 ?_
  refine Vg ?_
  have hwq:=Y03 (a:=num z (16+(k:Int))) (n:=9) (by decide)
  refine GL.negR YfX rfl (by omega) ?_
  refine VzE ?_
  refine Vs0 ?_
  refine VjJ ?_
  refine VzE ?_
  refine Vs0 ?_
  refine Ygs YfX (n:=1) (es':=em ns (stopsK z (stops0 z (nStops z)) (k+1))) rfl rfl rfl rfl rfl rfl (Y08 (by (rw[YdQ];omega))) rfl rfl rfl rfl (YdK rfl) rfl (by (simp only[stopsK,pairStep,pairOf,if_neg h136,setQ,pairQ];exact Y0M ns _ _ (Stop.mk _ _ _ _))) ?_
  refine Vx0 ?_
  refine Vf ?_
  refine Vm2 ?_
  refine Vg ?_
  refine VnC ?_
  refine VkJ ?_
  intro g165
  refine Ygj YfX (f:=np) (v:=pairOf z k) (sz:=2) (z:=[.int .i64 0,.int .i64 0]) rfl rfl rfl rfl rfl (by decide) (YdK rfl) rfl rfl rfl rfl rfl rfl rfl (by simp[pairsK]) rfl rfl rfl rfl rfl (by (simp only[np,pairOf,if_neg h136];rfl)) rfl rfl (by omega) ?_
  all_goals
   rw[← Y7I]
   refine Va6 ?_
   refine Vb7 ?_
   refine Vq0 ?_
   refine Va3 ?_
   refine⟨⟨k+1,_,_,_,_⟩,(by dsimp only;omega),_,(YfZ (YfV (YfV (YfV (YfV (YfV (YfV (Yg0 _) rfl) rfl) rfl) rfl) rfl) rfl) _),(by omega),_,(congrArg (St.mk _) (Y01 (YfW rfl (YfW rfl (YfW rfl (YfW rfl (YfW rfl (YfW rfl Yg3))))))).symm)⟩
 obtain rfl:k=nPairs z:=by omega
 refine Vr1 ?_
 refine Vn8 ?_
 refine VlJ ?_
 rintro⟨k,ga,gb,gc,gd⟩ _ ⟨hi,m0,rfl⟩
 have hw4:=Y03 (a:=num z 4) (n:=7) (by decide)
 have hns:nStops z=(2+within (num z 4) 7).toNat:=rfl
 refine Vg0 ?_
 refine Vf2 ?_
 refine cD (fun h170=>?_) fun h170=>?_
 refine Vl4 ?_
 refine Vb0 ?_
 refine Va0 ?_
 refine goWeak (Ygp (j:=16) 700005 1 rfl) ?_
 refine Vo0 ?_
 refine VmJ ?_
 rintro⟨y,ge⟩ _ ⟨hj,m0,rfl⟩
 refine Vg0 ?_
 refine Vf2 ?_
 refine cD (fun h175=>?_) fun h175=>?_
 refine Vk2 ?_
 refine Vg ?_
 refine Vs9 ?_
 refine VuB ?_
 refine Vs9 ?_
 refine Vv ?_
 refine Vc7 ?_
 refine VnJ ?_
 have hw14:=Y03 (a:=num z (20+3*(k:Int)+5*(y:Int))) (n:=14) (by decide)
 refine Vv ?_
 refine Ve0 ?_
 refine Vf2 ?_
 ·refine cD (fun h191=>?_) fun h191=>?_
  refine Vf ?_
  refine Vm3 ?_
  refine Vy4 ?_
  intro g194
  refine VoJ ?_
  rotate_left
  refine Vq8 ?_
  refine Vy4 ?_
  intro g194
  refine VpJ ?_
  all_goals
   rw[← Y4v]
   refine Vq5 ?_
   refine⟨⟨y+1,_⟩,(by dsimp only;omega),_,(YfZ (YfV (YfV (YfV (YfV (YfV (YfV (YfV (YfV (Yg0 _) rfl) rfl) rfl) rfl) rfl) rfl) rfl) rfl) _),(by omega),_,(congrArg (St.mk _) (Y01 (YfW rfl (YfW rfl (YfW rfl (YfW rfl (YfW rfl (YfW rfl (YfW rfl Yg3)))))))).symm)⟩
 obtain rfl:y=nStops z+1:=by omega
 have hwl:(wayRow z k (nStops z+1)).length=nStops z+1:=by simp[wayRow]
 refine Vw9 ?_
 refine Vf ?_
 refine Ve3 ?_
 refine VcB ?_
 refine Va ?_
 refine VqJ ?_
 intro g199
 refine VrJ ?_
 rw[← Y6T]
 refine Ve3 ?_
 refine Vb7 ?_
 refine Vq0 ?_
 refine Va3 ?_
 refine⟨⟨k+1,_,_,_,_⟩,(by dsimp only;omega),_,(YfZ (YfV (YfV (YfV (YfV (YfV (YfV (Yg0 _) rfl) rfl) rfl) rfl) rfl) rfl) _),(by omega),_,(congrArg (St.mk _) (Y01 (YfW rfl (YfW rfl (YfW rfl (YfW rfl (YfW rfl (YfW rfl Yg3))))))).symm)⟩
 obtain rfl:k=nStops z+1:=by omega
 have e1:=Y3L z (nCars z)
 have e2:(stopsK z (stops0 z (nStops z)) (nPairs z)).length=nStops z:=by rw[Y19,Y0o]
 have e3:(pairsK z (nPairs z)).length=nPairs z:=by simp[pairsK]
 have e4:(Mv.ways z (nStops z+1) (nStops z+1)).length=nStops z+1:=by simp[Mv.ways]
 refine Ve2 ?_
 refine Vf6 ?_
 refine Vq3 ?_
 refine Vd4 ?_
 refine VsJ ?_
 rfl
 rw[h115]
 replace h115:=of_decide_eq_false h115
 obtain rfl:k=nPairs z:=by omega
 refine Vu0 ?_
 refine Vc2 ?_
 refine Vr1 ?_
 refine Vn8 ?_
 refine VlJ ?_
 rintro⟨k,ga,gb,gc,gd⟩ _ ⟨hi,m0,rfl⟩
 have hw4:=Y03 (a:=num z 4) (n:=7) (by decide)
 have hns:nStops z=(2+within (num z 4) 7).toNat:=rfl
 refine Vg0 ?_
 refine Vf2 ?_
 refine cD (fun h170=>?_) fun h170=>?_
 refine Vl4 ?_
 refine Vb0 ?_
 refine Va0 ?_
 refine goWeak (Ygp (j:=16) 700005 1 rfl) ?_
 refine Vo0 ?_
 refine VmJ ?_
 rintro⟨y,ge⟩ _ ⟨hj,m0,rfl⟩
 refine Vg0 ?_
 refine Vf2 ?_
 refine cD (fun h175=>?_) fun h175=>?_
 refine Vk2 ?_
 refine Vg ?_
 refine Vs9 ?_
 refine VuB ?_
 refine Vs9 ?_
 refine Vv ?_
 refine Vc7 ?_
 refine VnJ ?_
 have hw14:=Y03 (a:=num z (20+3*(k:Int)+5*(y:Int))) (n:=14) (by decide)
 refine Vv ?_
 refine Ve0 ?_
 refine Vf2 ?_
 ·refine cD (fun h191=>?_) fun h191=>?_
  refine Vf ?_
  refine Vm3 ?_
  refine Vy4 ?_
  intro g194
  refine VoJ ?_
  rotate_left
  refine Vq8 ?_
  refine Vy4 ?_
  intro g194
  refine VpJ ?_
  all_goals
   rw[← Y4v]
   refine Vq5 ?_
   refine⟨⟨y+1,_⟩,(by dsimp only;omega),_,(YfZ (YfV (YfV (YfV (YfV (YfV (YfV (YfV (YfV (Yg0 _) rfl) rfl) rfl) rfl) rfl) rfl) rfl) rfl) _),(by omega),_,(congrArg (St.mk _) (Y01 (YfW rfl (YfW rfl (YfW rfl (YfW rfl (YfW rfl (YfW rfl (YfW rfl Yg3)))))))).symm)⟩
 obtain rfl:y=nStops z+1:=by omega
 have hwl:(wayRow z k (nStops z+1)).length=nStops z+1:=by simp[wayRow]
 refine Vw9 ?_
 refine Vf ?_
 refine Ve3 ?_
 refine VcB ?_
 refine Va ?_
 refine VqJ ?_
 intro g199
 refine VrJ ?_
 rw[← Y6T]
 refine Ve3 ?_
 refine Vb7 ?_
 refine Vq0 ?_
 refine Va3 ?_
 refine⟨⟨k+1,_,_,_,_⟩,(by dsimp only;omega),_,(YfZ (YfV (YfV (YfV (YfV (YfV (YfV (Yg0 _) rfl) rfl) rfl) rfl) rfl) rfl) _),(by omega),_,(congrArg (St.mk _) (Y01 (YfW rfl (YfW rfl (YfW rfl (YfW rfl (YfW rfl (YfW rfl Yg3))))))).symm)⟩
 obtain rfl:k=nStops z+1:=by omega
 have e1:=Y3L z (nCars z)
 have e2:(stopsK z (stops0 z (nStops z)) (nPairs z)).length=nStops z:=by rw[Y19,Y0o]
 have e3:(pairsK z (nPairs z)).length=nPairs z:=by simp[pairsK]
 have e4:(Mv.ways z (nStops z+1) (nStops z+1)).length=nStops z+1:=by simp[Mv.ways]
 refine Ve2 ?_
 refine Vf6 ?_
 refine Vq3 ?_
 refine Vd4 ?_
 refine VsJ ?_
 rfl
theorem Y9A (z:List Int)(hz:Ints z): CallsV Try.prog 8 [.sl (em ni z)] (ei (instOf z)):=(Y8c z hz).freeze rfl
theorem Y0h {a b c:Int}: between a b c=true↔b≤a∧a≤c:=by simp[between]
theorem Yde {car n:Int}{p:Prop}(h:(!between car 0 (n - 1))=true): car<0∨car≥n∨p:=by
 have h1:¬ between car 0 (n - 1)=true:=by simpa using h
 rw[Y0h] at h1
 by_cases h2:car<0
 exact .inl h2
 exact .inr (.inl (by omega))
theorem YdJ {b:Bool}(h:(!b)=false): b=true:=by simpa using h
theorem YdH {b:Bool}(h:(!b)=true): b=false:=by simpa using h
theorem Y2u {Q:Nat→Prop}{k:Nat}(h:∀ j,j<k→Q j)(hk:Q k): ∀ j,j<k+1→Q j:=fun j hj=>(Nat.lt_succ_iff_lt_or_eq.1 hj).elim (h j) fun e=>e ▸ hk
theorem Y8Z (a b c:Int): CallsV Try.prog 51 [.int .i64 a,.int .i64 b,.int .i64 c] (.bool (between a b c)):=by
 refine Yg2 (Yga _) mix Try.func51 rfl rfl (by simp[Try.f51]) (by kernel_rfl) (nb:=0) ?_
 unfold Try.f51
 refine VbA ?_
 refine Vm ?_
 ·refine Yg1 10 rfl (fun h10=>?_) (fun h10=>?_)
  rw[h10]
  replace h10:=of_decide_eq_true h10
  refine Vo7 ?_
  refine Vh1 ?_
  rotate_left
  rw[h10]
  replace h10:=of_decide_eq_false h10
  refine Vn0 ?_
  all_goals
   refine Vd2 ?_
   show LV.bool _=LV.bool _
   congr 1
   simp only[between,ge_iff_le] at *
   · (simp[*];done)
theorem Ycs (i:Inst)(hs:i.Short)(n:Int): CallsV Try.prog 56 [ei i,.int .i64 n] (.bool (between n 0 ((i.cars.length:Int) - 1))):=by
 refine Yg2 (Yga _) mix Try.func56 rfl rfl (by simp[Try.f56]) (by kernel_rfl) (nb:=0) ?_
 unfold Try.f56
 refine Vy0 ?_
 intro g2
 refine Vd0 ?_
 refine Vo5 ?_
 have hc:=hs.cars
 unfold Short at hc
 refine Vi2 ?_
 refine VrG ?_
 refine Vq1 ?_
 rfl
theorem Y5x (i:Inst)(hs:i.Short)(n:Int): CallsV Try.prog 62 [ei i,.int .i64 n] (.int .i64 (mate i.pairs n)):=by
 refine Yg2 (Yga _) mix Try.func62 rfl rfl (by simp[Try.f62]) (by kernel_rfl) (nb:=0) ?_
 unfold Try.f62
 refine Vy0 ?_
 intro g2
 refine Vb0 ?_
 refine Vu7 ?_
 refine VbJ ?_
 rintro k _ ⟨⟨hi,hA⟩,m0,rfl⟩
 have hsp:=hs.pairs
 unfold Short at hsp
 refine Vd ?_
 refine cD (fun h11=>?_) fun h11=>?_
 refine VdA ?_
 intro g6
 refine Vc6 ?_
 refine Vi5 ?_
 refine Vb3 ?_
 refine Vf2 ?_
 refine cD (fun h17=>?_) fun h17=>?_
 refine Vc ?_
 refine Vb3 ?_
 refine VfG ?_
 refine VjD ?_
 show LV.int _ _=LV.int _ _
 congr 1
 rw[hA]
 · (rw[Y09 (by omega),mate,if_pos (Eq.symm (by simpa using h17))];done)
 refine Vf0 ?_
 refine Vb3 ?_
 refine Vf2 ?_
 refine cD (fun h23=>?_) fun h23=>?_
 refine Vc ?_
 refine Vb3 ?_
 refine Va1 ?_
 refine Ve1 ?_
 show LV.int _ _=LV.int _ _
 congr 1
 rw[hA]
 · (rw[Y09 (by omega),mate,if_neg (fun h=>h17 h.symm),if_pos (Eq.symm (by simpa using h23))];done)
 refine Vs ?_
 refine⟨k+1,(by dsimp only;omega),_,lessA,⟨by omega,by rw[hA,Y09 (by omega),mate,if_neg (fun h=>h17 h.symm),if_neg (fun h=>h23 h.symm)]⟩,_,hasA⟩
 refine Vt1 ?_
 show LV.int _ _=LV.int _ _
 congr 1
 rw[hA]
 (rw[Y0m (by omega)];rfl)
theorem Y9r (i:Inst)(hs:i.Short)(n:Int): CallsV Try.prog 63 [ei i,.int .i64 n] (.bool (first i.pairs n)):=by
 refine Yg2 (Yga _) mix Try.func63 rfl rfl (by simp[Try.f63]) (by kernel_rfl) (nb:=0) ?_
 unfold Try.f63
 refine Vy0 ?_
 intro g2
 refine Vb0 ?_
 refine Vu7 ?_
 refine VcJ ?_
 rintro k _ ⟨⟨hi,hA⟩,m0,rfl⟩
 have hsp:=hs.pairs
 unfold Short at hsp
 refine Vd ?_
 refine cD (fun h11=>?_) fun h11=>?_
 refine VdA ?_
 intro g6
 refine Vc6 ?_
 refine Va4 ?_
 refine Vb3 ?_
 refine Vf2 ?_
 refine cD (fun h17=>?_) fun h17=>?_
 refine Vl2 ?_
 show LV.bool _=LV.bool _
 congr 1
 rw[hA]
 · (rw[Y09 (by omega),first,if_pos (by simpa using h17)];done)
 refine Vs ?_
 refine⟨k+1,(by dsimp only;omega),_,lessA,⟨by omega,by rw[hA,Y09 (by omega),first,if_neg (by simpa using h17)]⟩,_,hasA⟩
 refine Vt1 ?_
 show LV.bool _=LV.bool _
 congr 1
 rw[hA]
 (rw[Y0m (by omega)];rfl)
theorem Ya6 (I:Inst)(N:Nat)(hb:Sb I N)(hp:Sp I)(car:Int)(r:List Int)(hrl:r.length≤1000): CallsV Try.prog 31 [ei I,.int .i64 car,.sl (em ni r)] (tripO (eval I car r)):=by
 refine Yg2 (Yga _) mix Try.func31 rfl rfl (by simp[Try.f31]) (by kernel_rfl) (nb:=0) ?_
 unfold Try.f31
 refine Vy0 ?_
 intro g3
 refine VbB ?_
 intro g6
 refine Vb0 ?_
 refine Vx2 ?_
 refine Yg6 YfX rfl (Frz.aggc (by exact YfY rfl) (Frz.aggc (by exact Frz.pure rfl) (Frz.aggn))) (Ycs I hb.sq.short _) rfl rfl (fun _=>rfl) ?_
 refine Vb1 ?_
 refine Ygb rfl (fun h30=>?_) (fun h30=>?_)
 refine VnA ?_
 refine Vn7 ?_
 refine Vr9 ?_
 (rw[Y1l (by exact Yde h30)];rfl)
 have hcar:0≤car∧car<I.cars.length:=by have:=Y0h.1 (show between car 0 ((I.cars.length:Int) - 1)=true by simpa using h30);omega
 have hca:=hb.car car.toNat (by omega)
 have hN:=hb.sq.high
 have hS:=hb.sq.stops
 have hTr:=hb.sq.travel
 refine Vf0 ?_
 refine Vv1 ?_
 intro g32
 refine Vp8 ?_
 refine Yg8 YfX (α:=Nat) (fun k st=>(k≤r.length∧(∀ j,j<k→isStop I (r.getD j default)=true)∧∀ j,j<k→Mv.has (r.take j) (r.getD j default)=false)∧∃ m0,st=⟨(updS (updS (updS (updS (updS (updS (updS (updS (updS (fun _=>LV.undef) 1 (.int .i64 car)) 2 (.sl (em ni r))) 3 (.ref 192 g3 0 0)) 6 (.ref 384 g6 0 0)) 7 (.bool false)) 8 (.mref 2048 g32)) 33 (.sl (em ni r))) 34 (.int .i64 (r.length:Int))) 35 (.int .i64 (k:Int))),effM m0 [(192,⟨g3,false,.var,4,[ic I]⟩),(384,⟨g6,false,.var,4,[[.nils,.nils,.int .i64 0,.int .i64 0]]⟩),(2048,⟨g32,false,.mp,2,ents 0 (r.take k)⟩)]⟩) (fun k=>r.length - k) 0 ⟨_,lessA,⟨Ye1 _,fun j h=>absurd h (Yfs _),fun j h=>absurd h (Yfs _)⟩,_,hasA⟩ ?_
 rintro k _ ⟨⟨hi,hv,hdd⟩,m0,rfl⟩
 refine Vd ?_
 refine cD (fun h36=>?_) fun h36=>?_
 refine Vl5 ?_
 refine Ve0 ?_
 refine Va ?_
 refine VsG ?_
 refine Vu2 ?_
 refine VmB ?_
 refine Yg1 47 rfl (fun h47=>?_) (fun h47=>?_)
 rw[h47]
 refine Vz2 ?_
 refine VmA ?_
 refine VoA ?_
 (rw[Y1l (by exact .inr (.inr (Y66 (k:=k) (by omega) (by exact .inr h47))))];rfl)
 rw[h47]
 refine Vi ?_
 refine Vb6 ?_
 refine Vt2 ?_
 refine Vb ?_
 refine VrG ?_
 refine Vl3 ?_
 refine Vk4 ?_
 refine Ygb rfl (fun h54=>?_) (fun h54=>?_)
 refine VnA ?_
 refine VoA ?_
 (rw[Y1l (by exact .inr (.inr (Y66 (k:=k) (by omega) (by exact .inl (YdH h54)))))];rfl)
 refine Vq8 ?_
 refine Va ?_
 refine GL.mapPut YfX rfl rfl rfl rfl rfl rfl rfl rfl rfl rfl rfl (Yaw h47) (by rw[Yek];omega) ?_
 rw[Y4w (show k<r.length by omega)]
 refine Vi3 ?_
 refine⟨k+1,(by dsimp only;omega),_,lessA,⟨by omega,Y2u hv (YdJ h54),Y2u hdd h47⟩,_,hasA⟩
 obtain rfl:k=r.length:=by omega
 have ht:r.take r.length=r:=Yfw
 rw[ht]
 refine Vr1 ?_
 refine Vu7 ?_
 refine Yg8 YfX (α:=Nat) (fun q st=>(q≤I.pairs.length∧∀ j,j<q→POk r (I.pairs.getD j default))∧∃ m0,st=⟨(updS (updS (updS (updS (updS (updS (updS (updS (updS (fun _=>LV.undef) 1 (.int .i64 car)) 2 (.sl (em ni r))) 3 (.ref 192 g3 0 0)) 6 (.ref 384 g6 0 0)) 7 (.bool false)) 8 (.mref 2048 g32)) 61 (.sl (em np I.pairs))) 62 (.int .i64 (I.pairs.length:Int))) 63 (.int .i64 (q:Int))),effM m0 [(192,⟨g3,false,.var,4,[ic I]⟩),(384,⟨g6,false,.var,4,[[.nils,.nils,.int .i64 0,.int .i64 0]]⟩),(2048,⟨g32,false,.mp,2,ents 0 r⟩)]⟩) (fun q=>I.pairs.length - q) 0 ⟨_,lessA,⟨Ye1 _,fun j h=>absurd h (Yfs _)⟩,_,hasA⟩ ?_
 rintro q _ ⟨hq,m0,rfl⟩
 have hq1:=hq.1
 have hpl:=hb.sq.short.pairs
 unfold Short at hpl
 refine Vd ?_
 refine cD (fun h64=>?_) fun h64=>?_
 refine VdA ?_
 intro g14
 refine Vc6 ?_
 refine VlB ?_
 refine Vb3 ?_
 refine VsG ?_
 refine VjA ?_
 refine Vb3 ?_
 refine VsG ?_
 refine Vu2 ?_
 refine VmB ?_
 refine Vm ?_
 refine Yg1 84 rfl (fun h84=>?_) (fun h84=>?_)
 rw[h84]
 refine Vz2 ?_
 refine VmA ?_
 refine Va1 ?_
 refine Vm5 ?_
 refine Vr9 ?_
 (rw[Y1l (by exact .inr (.inr (Y2w hp (Y6M (k:=q) (by omega)) (by exact Ybp h84))))];rfl)
 rw[h84]
 refine Vo7 ?_
 refine Yg1 86 rfl (fun h86=>?_) (fun h86=>?_)
 rw[h86]
 refine Vo7 ?_
 refine VgA ?_
 refine cD (fun h91=>?_) fun h91=>?_
 refine VnA ?_
 refine Va1 ?_
 refine Vm5 ?_
 refine Vr9 ?_
 (rw[Y1l (by exact .inr (.inr (Y2w hp (Y6M (k:=q) (by omega)) (by exact Ybq h84 h86 h91))))];rfl)
 refine Vs ?_
 refine⟨q+1,(by dsimp only;omega),_,lessA,⟨by omega,Y2u hq.2 (by exact Yba h84 h86 h91)⟩,_,hasA⟩
 rw[h86]
 refine Vn0 ?_
 refine Vf1 ?_
 refine Vc2 ?_
 refine Vs ?_
 refine⟨q+1,(by dsimp only;omega),_,lessA,⟨by omega,Y2u hq.2 (by exact Ybt h84 h86)⟩,_,hasA⟩
 obtain rfl:q=I.pairs.length:=by omega
 have hord:order I r=true:=Y7p hp hv hdd (Yao hq.2)
 refine Ve2 ?_
 refine Vp5 ?_
 refine VyD ?_
 refine Ygf YfX (o:=1) rfl rfl (by conv=>lhs;whnf) ?_
 refine Vh4 ?_
 refine VdJ ?_
 refine VbB ?_
 intro g19
 refine Vq3 ?_
 refine Va4 ?_
 refine Vp5 ?_
 refine VyD ?_
 refine Ygf YfX (o:=1) rfl rfl (by conv=>lhs;whnf) ?_
 refine Vh4 ?_
 refine Vr5 ?_
 refine Ve0 ?_
 refine Vr0 ?_
 refine Vd5 ?_
 refine goWeak (Ygm (Ygi (n:=1216) (c:=0) 700001 1 rfl rfl rfl rfl rfl rfl) (Ygi (n:=1216) (c:=1) 700002 1 rfl rfl rfl rfl rfl rfl)) ?_
 refine Vo0 ?_
 refine Yg8 YfX (α:=Nat × Nat × Nat) (fun ⟨k,ga,gb⟩ st=>(k≤r.length∧∀ j,j<k→Fin1 I (I.cars.getD car.toNat default) r j)∧∃ m0,st=⟨(updS (updS (updS (updS (updS (updS (updS (updS (updS (updS (updS (updS (fun _=>LV.undef) 1 (.int .i64 car)) 2 (.sl (em ni r))) 3 (.ref 192 g3 0 0)) 6 (.ref 384 g6 0 0)) 7 (.bool false)) 19 (.ref 1216 g19 0 0)) 20 (.int .i64 (lv I 0 (I.cars.getD car.toNat default).c1 (r.take k)))) 21 (.int .i64 (ld I 0 (r.take k)))) 22 (.int .i64 (lastOf 0 (r.take k)))) 107 (.sl (em ni r))) 108 (.int .i64 (r.length:Int))) 109 (.int .i64 (k:Int))),effM m0 [(192,⟨g3,false,.var,4,[ic I]⟩),(384,⟨g6,false,.var,4,[[.nils,.nils,.int .i64 0,.int .i64 0]]⟩),(1216,⟨g19,false,.var,4,[[.own 700001 ga 0 k none,.own 700002 gb 0 k none,.int .i64 (legs I 0 (r.take k)),.int .i64 (I.cars.getD car.toNat default).c1]]⟩),(700001,⟨ga,false,.slc,1,em ni (arr I 0 (I.cars.getD car.toNat default).c1 (r.take k))⟩),(700002,⟨gb,false,.slc,1,em ni (lds I 0 (r.take k))⟩)]⟩) (fun ⟨k,ga,gb⟩=>r.length - k) ⟨0,_,_⟩ ⟨_,(YfZ (YfV (YfV (YfV (YfV (YfV (YfV (YfV (YfV (YfV (YfV (YfV (YfV (Yg0 _) rfl) rfl) rfl) rfl) rfl) rfl) rfl) rfl) rfl) rfl) rfl) rfl) _),⟨Ye1 _,fun j h=>absurd h (Yfs _)⟩,_,(congrArg (St.mk _) (Y01 (YfW rfl (YfW rfl (YfW rfl (YfW rfl (YfW rfl Yg3)))))).symm)⟩ ?_
 rintro⟨k,ga,gb⟩ _ ⟨hi,m0,rfl⟩
 have hi1:=hi.1
 have hR:=Ydo hb (c:=(I.cars.getD car.toNat default)) (by omega) hrl hv hi.1 hi.2
 have r1:=hR.l0
 have r2:=hR.l1
 have r3:=hR.v0
 have r4:=hR.v1
 have r5:=hR.d0
 have r6:=hR.d1
 have r7:=hR.g0
 have r8:=hR.g1
 have r9:=hR.row
 refine Vd ?_
 refine cD (fun h110=>?_) fun h110=>?_
 have hx:=Y0w (hv k (by omega))
 obtain⟨s1,s2,s3,s4,s5,s6,s7⟩:=hb.at (hv k (by omega))
 have hcl:=hb.sq.cell_in hR.l0 hR.l1 (b:=r.getD k default) (by omega) (by omega)
 have d7:=Y9y I r 0 k (by omega)
 have d8:=Y9P I r 0 (I.cars.getD car.toNat default).c1 k (by omega)
 unfold Mv.goes at d8
 have d9:=Y2I r 0 k (by omega)
 have d10:=Y4d I r 0 k (by omega)
 have hmx:=Y7y (stopAt I (r.getD k default)).s1 ((lv I 0 (I.cars.getD car.toNat default).c1 (r.take k))+Mv.cell I (lastOf 0 (r.take k)) (r.getD k default))
 have hbg:(Mv.begun I (lastOf 0 (r.take k)) (lv I 0 (I.cars.getD car.toNat default).c1 (r.take k)) (r.getD k default))=imax (stopAt I (r.getD k default)).s1 ((lv I 0 (I.cars.getD car.toNat default).c1 (r.take k))+Mv.cell I (lastOf 0 (r.take k)) (r.getD k default)):=rfl
 unfold Mv.cell at hcl d10 hmx hbg
 unfold stopAt at s1 s2 s3 s4 s5 s6 s7 d7 d8 hmx hbg
 refine Vn1 ?_
 refine Vn ?_
 refine Vt8 ?_
 refine Vi2 ?_
 refine VeJ ?_
 refine VvE ?_
 refine VsD ?_
 intro g25
 refine Vq3 ?_
 refine Vu8 ?_
 refine Va ?_
 refine VsB ?_
 refine Vn4 ?_
 refine Vv ?_
 refine Vj ?_
 refine GL.max YfX (v:=.int .i64 (Mv.begun I (lastOf 0 (r.take k)) (lv I 0 (I.cars.getD car.toNat default).c1 (r.take k)) (r.getD k default))) (congrArg (fun z=>some (LV.int .i64 z)) (Yau _ _)) ?_
 refine VmE ?_
 refine Vp ?_
 refine Vc0 ?_
 refine Vv ?_
 refine Ve0 ?_
 refine Vl0 ?_
 refine Vm ?_
 refine Yg1 140 rfl (fun h140=>?_) (fun h140=>?_)
 rw[h140]
 replace h140:=of_decide_eq_true h140
 refine VhG ?_
 refine VmA ?_
 refine VoA ?_
 (rw[Y2Q hb hcar.1 hcar.2 (.inl ⟨k,by omega,fun hF=>by obtain⟨q1,q2,q3⟩:=hF;unfold carAt stopAt at q1;unfold carAt at q3;omega⟩)];rfl)
 rw[h140]
 replace h140:=of_decide_eq_false h140
 refine Vn3 ?_
 refine Yg1 144 rfl (fun h144=>?_) (fun h144=>?_)
 rw[h144]
 replace h144:=of_decide_eq_true h144
 refine Vk0 ?_
 refine VmA ?_
 refine VoA ?_
 (rw[Y2Q hb hcar.1 hcar.2 (.inl ⟨k,by omega,fun hF=>by obtain⟨q1,q2,q3⟩:=hF;unfold carAt stopAt at q1;unfold carAt at q3;omega⟩)];rfl)
 rw[h144]
 replace h144:=of_decide_eq_false h144
 refine Vc4 ?_
 refine Vy1 ?_
 refine Vi ?_
 refine VyD ?_
 refine Vb ?_
 refine VmC ?_
 refine Vp4 ?_
 refine Vi1 ?_
 refine cD (fun h153=>?_) fun h153=>?_
 refine VnA ?_
 refine VoA ?_
 (rw[Y2Q hb hcar.1 hcar.2 (.inl ⟨k,by omega,fun hF=>by obtain⟨q1,q2,q3⟩:=hF;unfold carAt stopAt at q1;unfold carAt at q3;omega⟩)];rfl)
 refine Vh ?_
 refine Vi0 ?_
 refine Vp5 ?_
 refine Vy4 ?_
 intro g158
 refine Ygj YfX (f:=ni) (v:=(Mv.begun I (lastOf 0 (r.take k)) (lv I 0 (I.cars.getD car.toNat default).c1 (r.take k)) (r.getD k default))) (sz:=1) (z:=[.int .i64 0]) rfl rfl rfl rfl rfl (by decide) (YdK rfl) rfl rfl rfl rfl rfl rfl rfl (by rw[Y7J];simp;omega) rfl rfl rfl rfl rfl rfl rfl rfl (by omega) ?_
 rw[← Y8e,Y4w (show k<r.length by omega)]
 refine Vt8 ?_
 refine Vy4 ?_
 intro g163
 refine Ygj YfX (f:=ni) (v:=(ld I 0 (r.take k)+(stopAt I (r.getD k default)).s0)) (sz:=1) (z:=[.int .i64 0]) rfl rfl rfl rfl rfl (by decide) (YdK rfl) rfl rfl rfl rfl rfl rfl rfl (by rw[Y70];simp;omega) rfl rfl rfl rfl rfl rfl rfl rfl (by omega) ?_
 rw[← Y85,Y4w (show k<r.length by omega)]
 refine Vl0 ?_
 refine VsB ?_
 refine Vn4 ?_
 refine Vv ?_
 rw[← d10]
 refine Vs0 ?_
 refine VaE ?_
 refine Vb6 ?_
 refine VaE ?_
 refine Va6 ?_
 refine VaE ?_
 refine Vx0 ?_
 refine Vl ?_
 refine Vu3 ?_
 refine VuB ?_
 refine Vt ?_
 refine Vy2 ?_
 refine⟨⟨k+1,_,_⟩,(by dsimp only;omega),_,(YfZ (YfV (YfV (YfV (YfV (YfV (YfV (YfV (YfV (YfV (YfV (YfV (YfV (Yg0 _) rfl) rfl) rfl) rfl) rfl) rfl) (congrArg (LV.int .i64) d8.symm)) (congrArg (LV.int .i64) d7.symm)) (congrArg (LV.int .i64) d9.symm)) rfl) rfl) rfl) _),⟨by omega,Y2u hi.2 ⟨by first | omega | exact Int.not_lt.1 h140,by omega,by omega⟩⟩,_,(congrArg (St.mk _) (Y01 (YfW rfl (YfW rfl (YfW rfl (YfW rfl (YfW rfl Yg3)))))).symm)⟩
 obtain rfl:k=r.length:=by omega
 have ht:r.take r.length=r:=Yfw
 have hcl:=hb.sq.cell_in hR.l0 hR.l1 (b:=0) (by omega) (by omega)
 have hrow:=hR.row
 have hR0:=hR.l0
 have hR1:=hR.l1
 have hR2:=hR.v0
 have hR3:=hR.v1
 have hR4:=hR.g0
 have hR5:=hR.g1
 unfold Mv.cell at hcl
 rw[ht] at hcl hrow hR0 hR1 hR2 hR3 hR4 hR5
 rw[ht]
 refine Vh3 ?_
 refine VsB ?_
 refine Vl7 ?_
 refine Vv ?_
 refine Ve3 ?_
 refine VaE ?_
 refine Vu8 ?_
 refine Vl0 ?_
 refine VsB ?_
 refine Vl7 ?_
 refine Vv ?_
 refine Va6 ?_
 refine VaE ?_
 refine Vx0 ?_
 refine Ve ?_
 refine Vm4 ?_
 refine Vu3 ?_
 refine Vp5 ?_
 refine VyD ?_
 refine Ygf YfX (o:=2) rfl rfl (by conv=>lhs;whnf) ?_
 refine Vh4 ?_
 refine Vu ?_
 refine Vx0 ?_
 refine cD (fun h214=>?_) fun h214=>?_
 refine VnA ?_
 refine Vn7 ?_
 refine Vr9 ?_
 (rw[Y2Q hb hcar.1 hcar.2 (.inr h214)];rfl)
 refine Vf0 ?_
 refine Vt0 ?_
 refine Vq3 ?_
 refine Vb2 ?_
 refine⟨_,_,_,_,.cons (.cellA (n:=4) rfl rfl rfl (by simp) rfl rfl rfl (YdK rfl)) (.cons (.tmp rfl) .nil),.tup (.aggc (.aggc (by exact Exp.slo rfl rfl rfl rfl (by (rw[Y00,Y7J];omega))) (.aggc (by exact Exp.slo rfl rfl rfl rfl (by (rw[Y00,Y70];omega))) (.aggc (.frz (.pure rfl)) (.aggc (.frz (.pure rfl)) .aggn)))) (.aggc (.frz (.pure rfl)) .aggn)),(by decide),by simp,?_⟩
 (rw[YbM hb hcar.1 hcar.2 hrl hord hi.2 h214];rfl)
theorem Y8r (I:Inst)(N:Nat)(hb:Sb I N)(hp:Sp I)(car:Int)(r:List Int)(hrl:r.length≤1000): CallsV Try.prog 31 [ei I,.int .i64 car,.sl (em ni r)] (tripR (eval I car r)):=(Ya6 I N hb hp car r hrl).freeze rfl
theorem YaU {I:Inst}{r:List Int}{k:Nat}(hk:k<r.length)(h:isStop I (r.getD k default)=false): cost I r=0:=by
 refine Y8A I r 0 0 ⟨r.getD k default,?_,h⟩
 rw[Ye9,YdO hk]
 exact YeO hk
theorem Ycx {I:Inst}{N:Nat}(hq:Sq I N){r:List Int}(hrl:r.length≤1000){k:Nat}(hk:k≤r.length)(hv:∀ j,j<k→isStop I (r.getD j default)=true):
   0≤lastOf 0 (r.take k)∧lastOf 0 (r.take k)≤N∧0≤legs I 0 (r.take k)∧legs I 0 (r.take k)≤14000∧(I.travel.getD (lastOf 0 (r.take k)).toNat default).length=N+1∧costGo I 0 0 (r.take k)=legs I 0 (r.take k)+Mv.cell I (lastOf 0 (r.take k)) 0:=by
 have hst:=hq.stops
 have hvt:∀ x∈r.take k,isStop I x=true:=fun x hx=>by
   obtain⟨j,hj,rfl⟩:=YeW hx
   have hjk:j<k:=by simp at hj;omega
   have:=hv j hjk
   rw[List.getElem_take]
   rwa [Ye9,YdO (by omega)] at this
 have h1:=Y4E (r.take k) 0 hvt (by omega) (by omega)
 have h2:=Y7b hq (r.take k) 0 (by omega) (by omega) hvt
 have h3:(r.take k).length≤1000:=by simp;omega
 have h4:=Y2C hq (r.take k) 0 0 (by omega) (by omega) (by omega) (by omega) hvt
 exact⟨h1.1,by omega,h2.1,by omega,hq.row _ (by omega),by omega⟩
theorem Y5O (I:Inst)(N:Nat)(hq:Sq I N)(r:List Int)(hrl:r.length≤1000): CallsV Try.prog 118 [ei I,.sl (em ni r)] (.int .i64 (cost I r)):=by
 refine Yg2 (Yga _) mix Try.func118 rfl rfl (by simp[Try.f118]) (by kernel_rfl) (nb:=0) ?_
 unfold Try.f118
 refine Vy0 ?_
 intro g2
 refine Vn ?_
 refine Vt ?_
 refine Vp8 ?_
 refine Yg8 YfX (α:=Nat) (fun k st=>(k≤r.length∧∀ j,j<k→isStop I (r.getD j default)=true)∧∃ m0,st=⟨(updS (updS (updS (updS (updS (updS (updS (updS (fun _=>LV.undef) 1 (.sl (em ni r))) 2 (.ref 128 g2 0 0)) 4 (.int .i64 0)) 5 (.int .i64 (legs I 0 (r.take k)))) 6 (.int .i64 (lastOf 0 (r.take k)))) 9 (.sl (em ni r))) 10 (.int .i64 (r.length:Int))) 11 (.int .i64 (k:Int))),effM m0 [(128,⟨g2,false,.var,4,[ic I]⟩)]⟩) (fun k=>r.length - k) 0 ⟨_,lessA,⟨Ye1 _,fun j h=>absurd h (Yfs _)⟩,_,hasA⟩ ?_
 rintro k _ ⟨⟨hi,hv⟩,m0,rfl⟩
 obtain⟨q1,q2,q3,q4,q5,q6⟩:=Ycx hq hrl hi hv
 have hN:=hq.high
 have hS:=hq.stops
 have hTr:=hq.travel
 refine Vd ?_
 refine cD (fun h12=>?_) fun h12=>?_
 refine Vn1 ?_
 refine Ve0 ?_
 refine Vj ?_
 refine Vr0 ?_
 refine VrG ?_
 refine Vb1 ?_
 refine Ygb rfl (fun h20=>?_) (fun h20=>?_)
 refine VqB ?_
 exact congrArg (LV.int .i64) (YaU (k:=k) (by omega) (YdH h20)).symm
 have hx:=YdJ h20
 have hx2:=Y0w (i:=I) hx
 have q7:=hq.cell_in q1 q2 (b:=r.getD k default) (by omega) (by omega)
 have d9:=Y2I r 0 k (by omega)
 have d10:=Y4d I r 0 k (by omega)
 unfold Mv.cell at q7 d10
 refine VkA ?_
 refine VsB ?_
 refine Vn4 ?_
 refine VuB ?_
 refine Vt ?_
 refine Vy2 ?_
 refine⟨k+1,(by dsimp only;omega),_,(YfZ (YfV (YfV (YfV (YfV (YfV (YfV (YfV (YfV (Yg0 _) rfl) rfl) rfl) (congrArg (LV.int .i64) d10.symm)) (congrArg (LV.int .i64) d9.symm)) rfl) rfl) rfl) _),⟨by omega,Y2u hv hx⟩,_,hasA⟩
 obtain rfl:k=r.length:=by omega
 rw[Yfw] at q1 q2 q3 q4 q5 q6
 rw[Yfw]
 have q7:=hq.cell_in q1 q2 (b:=0) (by omega) (by omega)
 have hz:r.length=0→cost I r=0:=fun h=>by have:=Yeo h;subst this;have e1:cost I []=legs I 0 []+Mv.cell I (lastOf 0 []) 0:=q6;have e2:Mv.cell I (lastOf 0 []) 0=0:=hq.diag 0 (by omega);have e3:legs I 0 []=0:=rfl;omega
 unfold Mv.cell at q6 q7
 refine VqA ?_
 refine Vv2 ?_
 refine cD (fun h35=>?_) fun h35=>?_
 refine Vw2 ?_
 exact congrArg (LV.int .i64) (hz (by omega)).symm
 refine Vu1 ?_
 refine VsB ?_
 refine Vl7 ?_
 refine Vv ?_
 refine Vq1 ?_
 exact congrArg (LV.int .i64) q6.symm
def atL (l:List Int)(k:Int): Int × Bool:=if 0≤k∧k<l.length then (l.getD k.toNat default,true) else (0,false)
theorem Yan {l:List Int}{n:Int}{j:Nat}(hj:j<l.length)(h:∀ q,q<j→n≠l.getD q default)(e:l.getD j default=n): index l n=(j:Int):=by
 rw[Y12 l n j (by omega) h,Y09 hj,index,if_pos e.symm]
 simp
theorem Y9l {l:List Int}{n:Int}(h:∀ q,q<l.length→n≠l.getD q default): index l n<0:=by
 rw[Y12 l n l.length (Ye2 _) h,List.drop_length]
 simp[index]
theorem Y7H (m:Mem)(d:Nat)(p:Plan): impT m d (kpo p)=(.agg [.own d (genAt m d) 0 p.routes.length none,.own (d+1) (genAt m (d+1)) 0 p.lock.length none,.own (d+1+1) (genAt m (d+1+1)) 0 p.ice.length none,.own (d+1+1+1) (genAt m (d+1+1+1)) 0 p.rv.length none,.own (d+1+1+1+1) (genAt m (d+1+1+1+1)) 0 p.sv.length none,.own (d+1+1+1+1+1) (genAt m (d+1+1+1+1+1)) 0 p.iv.length none,.int .i64 p.pv],
   [(d,⟨genAt m d,false,.slc,1,em nr p.routes⟩),(d+1,⟨genAt m (d+1),false,.slc,1,em ni p.lock⟩),(d+1+1,⟨genAt m (d+1+1),false,.slc,1,em ni p.ice⟩),(d+1+1+1,⟨genAt m (d+1+1+1),false,.slc,1,em ni p.rv⟩),(d+1+1+1+1,⟨genAt m (d+1+1+1+1),false,.slc,1,em ni p.sv⟩),(d+1+1+1+1+1,⟨genAt m (d+1+1+1+1+1),false,.slc,1,em ni p.iv⟩)]):=by
 simp only[kpo,impT,impV,impCs,impC,Y00,YdW,YdY]
theorem YdG (l:List Int)(hl:l.length<9223372036854775808)(k:Int): CallsV Try.prog 43 [.sl (em ni l),.int .i64 k] (.tup [.int .i64 (atL l k).1,.bool (atL l k).2]):=by
 refine Yg2 (Yga _) mix Try.func43 rfl rfl (by simp[Try.f43]) (by kernel_rfl) (nb:=0) ?_
 unfold Try.f43
 refine Vc ?_
 refine Vt ?_
 refine VlA ?_
 refine Yg1 8 rfl (fun h8=>?_) (fun h8=>?_)
 rw[h8]
 replace h8:=of_decide_eq_true h8
 refine Vz ?_
 refine VwB ?_
 (rw[atL,if_neg (by omega)];exact rfl)
 rw[h8]
 replace h8:=of_decide_eq_false h8
 refine Vg2 ?_
 refine Vr0 ?_
 refine Vi1 ?_
 refine cD (fun h13=>?_) fun h13=>?_
 refine Vc ?_
 refine VjI ?_
 (rw[atL,if_neg (by omega)];exact rfl)
 refine Vu1 ?_
 refine Vn4 ?_
 refine Vt ?_
 refine Vb2 ?_
 refine Vv4 ?_
 (rw[atL,if_pos (by omega)];exact rfl)
theorem Y4m (p:Plan)(hp:OkP p)(s:Int): CallsV Try.prog 22 [.agg (kp p),.int .i64 s] (.tup [.int .i64 (whereR p.routes s).1,.int .i64 (whereR p.routes s).2]):=by
 refine Yg2 (Yga _) mix Try.func22 rfl rfl (by simp[Try.f22]) (by kernel_rfl) (nb:=0) ?_
 unfold Try.f22
 refine Ve ?_
 have hpr:=hp.routes
 refine Vq6 ?_
 intro g2
 refine Vt ?_
 refine Vb0 ?_
 refine Vx3 ?_
 refine Yg8 YfX (α:=Nat) (fun i st=>(i≤p.routes.length∧whereGo s p.routes 0=whereGo s (p.routes.drop i) (i:Int))∧∃ m0,st=⟨(updS (updS (updS (updS (fun _=>LV.undef) 1 (.int .i64 s)) 11 (.sl (em nr p.routes))) 12 (.int .i64 (p.routes.length:Int))) 13 (.int .i64 (i:Int))),effM m0 []⟩) (fun i=>p.routes.length - i) 0 ⟨_,lessA,⟨Ye1 _,rfl⟩,_,hasA⟩ ?_
 rintro i _ ⟨⟨hi,hA⟩,m0,rfl⟩
 refine Vd ?_
 refine cD (fun h14=>?_) fun h14=>?_
 have hrl:=hp.each _ (Y02 (l:=p.routes) (j:=i) (by omega))
 refine Vl5 ?_
 refine Vd0 ?_
 refine Vq ?_
 refine Yg8 YfX (α:=Nat) (fun j st=>(j≤(p.routes.getD i default).length∧∀ q,q<j→s≠(p.routes.getD i default).getD q default)∧∃ m0,st=⟨(updS (updS (updS (updS (updS (updS (updS (updS (fun _=>LV.undef) 1 (.int .i64 s)) 6 (.int .i64 (i:Int))) 11 (.sl (em nr p.routes))) 12 (.int .i64 (p.routes.length:Int))) 13 (.int .i64 (i:Int))) 18 (.sl (em ni (p.routes.getD i default)))) 19 (.int .i64 ((p.routes.getD i default).length:Int))) 20 (.int .i64 (j:Int))),effM m0 []⟩) (fun j=>(p.routes.getD i default).length - j) 0 ⟨_,lessA,⟨Ye1 _,fun q h=>by omega⟩,_,hasA⟩ ?_
 rintro j _ ⟨⟨hj,hj2⟩,m0,rfl⟩
 refine Vd ?_
 refine cD (fun h21=>?_) fun h21=>?_
 refine Vl5 ?_
 refine Vd0 ?_
 refine Vf2 ?_
 refine cD (fun h27=>?_) fun h27=>?_
 refine Vo4 ?_
 refine Vt ?_
 refine Va1 ?_
 refine Vi8 ?_
 refine Vt7 ?_
 refine Vm5 ?_
 refine Vv4 ?_
 (have hx:=Yan (by omega) hj2 h27;rw[whereR,hA,Y9M (by omega) (by rw[hx];omega),hx];exact rfl)
 refine Vs ?_
 refine⟨j+1,(by dsimp only;omega),_,lessA,⟨by omega,fun q hq=>by
       by_cases e:q=j
       · subst e;exact fun e=>h27 e.symm
       · exact hj2 q (by omega)⟩,_,hasA⟩
 refine VcA ?_
 refine⟨i+1,(by dsimp only;omega),_,lessA,⟨by omega,by rw[hA,Yc6 (by omega) (by have:=Y9l (l:=p.routes.getD i default) (n:=s) (fun q hq=>hj2 q (by omega));omega)]⟩,_,hasA⟩
 refine Ve2 ?_
 refine Vt ?_
 refine Vb2 ?_
 refine Vv4 ?_
 (rw[whereR,hA,Y9x (by omega)];exact rfl)
theorem Yaq (p:Plan)(hp:OkP p): CallsV Try.prog 95 [.agg (kp p)] (.slo 1 (em ni (unassL p.routes p.sv.length))):=by
 refine Yg2 (Yga _) mix Try.func95 rfl rfl (by simp[Try.f95]) (by kernel_rfl) (nb:=0) ?_
 unfold Try.f95
 refine Ve ?_
 have ⟨p1,p2,p3,p4,p5,p6,p7⟩:=hp
 refine Vq6 ?_
 intro g1
 refine ViA ?_
 refine goWeak (Ygp (j:=3) 700001 1 rfl) ?_
 refine Vd1 ?_
 refine Vn8 ?_
 refine Yg8 YfX (α:=Nat × Nat × List Int) (fun ⟨i,g,r⟩ st=>(1≤i∧(i≤p.sv.length∨i=1)∧r=unassL p.routes i∧r.length≤i)∧∃ m0,st=⟨(updS (updS (updS (fun _=>LV.undef) 1 (.ref 64 g1 0 0)) 3 (.own 700001 g 0 r.length none)) 4 (.int .i64 (i:Int))),effM m0 [(64,⟨g1,false,.var,7,[kp p]⟩),(700001,⟨g,false,.slc,1,em ni r⟩)]⟩) (fun ⟨i,g,r⟩=>p.sv.length - i) ⟨1,_,[]⟩ ⟨_,(YfZ (YfV (YfV (YfV (Yg0 _) rfl) rfl) rfl) _),⟨Ye2 _,.inr rfl,rfl,Ye1 _⟩,_,(congrArg (St.mk _) (Y01 (YfW rfl (YfW rfl Yg3))).symm)⟩ ?_
 rintro⟨i,g,r⟩ _ ⟨⟨hi0,hi1,hr,hrl⟩,m0,rfl⟩
 refine Vg0 ?_
 refine Vs6 ?_
 refine Vv2 ?_
 refine cD (fun h11=>?_) fun h11=>?_
 refine Vl4 ?_
 refine Vx9 ?_
 refine VzJ ?_
 refine VjA ?_
 refine Vk ?_
 refine cD (fun h21=>?_) fun h21=>?_
 refine Vv0 ?_
 refine VyI ?_
 intro g24
 refine VzI ?_
 refine Vq5 ?_
 refine⟨⟨i+1,_,r++[(i:Int)]⟩,(by dsimp only;omega),_,(YfZ (YfV (YfV (YfV (Yg0 _) rfl) (by rw[YdN];rfl)) rfl) _),⟨by omega,.inl (by omega),by rw[Yap hi0 h21,hr],by simp;omega⟩,_,(congrArg (St.mk _) (Y01 (YfW rfl (YfW rfl Yg3))).symm)⟩
 refine VpB ?_
 refine⟨⟨i+1,_,r⟩,(by dsimp only;omega),_,(YfZ (YfV (YfV (YfV (Yg0 _) rfl) rfl) rfl) _),⟨by omega,.inl (by omega),by rw[YbH hi0 h21,hr],by omega⟩,_,(congrArg (St.mk _) (Y01 (YfW rfl (YfW rfl Yg3))).symm)⟩
 refine Vb4 ?_
 have hx:r=unassL p.routes p.sv.length:=by
   rw[hr]
   rcases Nat.eq_or_lt_of_le (show 1≤i by omega) with e | e
   · subst e
     unfold unassL
     rw[show p.sv.length - 1=0 by omega]
   · rw[show i=p.sv.length by omega]
 refine VmG ?_
 show LV.slo 1 (em ni r)=_
 rw[hx]
theorem Y8v (p:Plan)(hp:OkP p): CallsV Try.prog 95 [.agg (kp p)] (.sl (em ni (unassL p.routes p.sv.length))):=(Yaq p hp).freeze rfl
theorem Ya5 (i:Inst)(N:Nat)(hq:Sq i N)(p:Plan)(hp:OkP p)(he:∀ r∈p.routes,r.length≤1000): CallsV Try.prog 96 [ei i,.agg (kp p)] (.int .i64 (costP i p.routes)):=by
 refine Yg2 (Yga _) mix Try.func96 rfl rfl (by simp[Try.f96]) (by kernel_rfl) (nb:=0) ?_
 unfold Try.f96
 refine Ve ?_
 have ⟨p1,p2,p3,p4,p5,p6,p7⟩:=hp
 refine Vy3 ?_
 intro g2
 refine Vo ?_
 intro g3
 refine Vn ?_
 refine Vb0 ?_
 refine Vx3 ?_
 refine Yg8 YfX (α:=Nat × Int) (fun ⟨k,s⟩ st=>(k≤p.routes.length∧s=costP i (p.routes.take k))∧∃ m0,st=⟨(updS (updS (updS (updS (updS (fun _=>LV.undef) 2 (.ref 128 g2 0 0)) 5 (.int .i64 s)) 9 (.sl (em nr p.routes))) 10 (.int .i64 (p.routes.length:Int))) 11 (.int .i64 (k:Int))),effM m0 [(128,⟨g2,false,.var,4,[ic i]⟩)]⟩) (fun ⟨k,s⟩=>p.routes.length - k) ⟨0,0⟩ ⟨_,lessA,⟨Ye1 _,rfl⟩,_,hasA⟩ ?_
 rintro⟨k,s⟩ _ ⟨⟨hk,hA⟩,m0,rfl⟩
 refine Vd ?_
 refine cD (fun h12=>?_) fun h12=>?_
 refine Vn1 ?_
 refine Vy ?_
 refine Vl ?_
 refine Vx2 ?_
 refine Yg6 YfX rfl (Frz.aggc (by exact YfY rfl) (Frz.aggc (by exact Frz.pure rfl) (Frz.aggn))) (Y5O i N hq _ (he _ (Y02 (l:=p.routes) (j:=k) (by omega)))) rfl rfl (fun _=>rfl) ?_
 refine Vu ?_
 refine Vy2 ?_
 refine⟨⟨k+1,_⟩,(by dsimp only;omega),_,(YfZ (YfV (YfV (YfV (YfV (YfV (Yg0 _) rfl) rfl) rfl) rfl) rfl) _),⟨by omega,by rw[Yb1 _ _ (by omega),← hA];rfl⟩,_,(congrArg (St.mk _) (Y01 (YfW rfl Yg3)).symm)⟩
 refine Vh3 ?_
 refine Vq1 ?_
 show LV.int _ _=LV.int _ _
 rw[hA,YdP (by omega)]
theorem Y3J (p:Plan)(hp:OkP p): CallsV Try.prog 14 [.agg (kp p)] (kpo p):=by
 refine Yg2 (Yga _) mix Try.func14 rfl rfl (by simp[Try.f14]) (by kernel_rfl) (nb:=0) ?_
 unfold Try.f14
 refine Ve ?_
 have h1:=hp.lock
 have h2:=hp.ice
 have h3:=hp.rv
 have h4:=hp.sv
 have h5:=hp.iv
 have h6:=hp.routes
 refine Vq6 ?_
 intro g1
 refine Vd6 ?_
 intro g2
 refine Vu8 ?_
 refine Vj ?_
 refine VaK ?_
 intro g8
 refine Vl0 ?_
 refine VbK ?_
 intro g11
 refine Vu3 ?_
 refine VcK ?_
 intro g14
 refine Vs6 ?_
 refine VdK ?_
 intro g17
 refine Vx4 ?_
 refine Vh2 ?_
 refine VeK ?_
 intro g20
 refine Va7 ?_
 refine Vh2 ?_
 refine VwE ?_
 refine Vd6 ?_
 intro g3
 refine Vi4 ?_
 refine Vx0 ?_
 refine Vd1 ?_
 refine Vo5 ?_
 refine Vd5 ?_
 refine goWeak (Ygi (n:=192) (c:=0) 700001 1 rfl rfl rfl rfl rfl rfl) ?_
 refine Vo0 ?_
 refine Yg8 YfX (α:=Nat × Nat × List (List Int)) (fun ⟨i,g,r⟩ st=>(i≤p.routes.length∧r=p.routes.take i)∧∃ m0,st=⟨(updS (updS (updS (updS (updS (updS (fun _=>LV.undef) 1 (.ref 64 g1 0 0)) 2 (.ref 128 g2 0 0)) 3 (.ref 192 g3 0 0)) 25 (.sl (em nr p.routes))) 26 (.int .i64 (p.routes.length:Int))) 27 (.int .i64 (i:Int))),effM m0 [(64,⟨g1,false,.var,7,[kp p]⟩),(128,⟨g2,false,.var,7,[[.nils,.nils,.nils,.nils,.nils,.nils,.int .i64 0]]⟩),(192,⟨g3,false,.var,7,[.own 700001 g 0 i none::[.own 512 g8 0 p.lock.length none,.own 704 g11 0 p.ice.length none,.own 896 g14 0 p.rv.length none,.own 1088 g17 0 p.sv.length none,.own 1280 g20 0 p.iv.length none,.int .i64 p.pv]]⟩),(700001,⟨g,false,.slc,1,em nr r⟩),(512,⟨g8,false,.slc,1,em ni p.lock⟩),(704,⟨g11,false,.slc,1,em ni p.ice⟩),(896,⟨g14,false,.slc,1,em ni p.rv⟩),(1088,⟨g17,false,.slc,1,em ni p.sv⟩),(1280,⟨g20,false,.slc,1,em ni p.iv⟩)]⟩) (fun ⟨i,g,r⟩=>p.routes.length - i) ⟨0,_,[]⟩ ⟨_,(YfZ (YfV (YfV (YfV (YfV (YfV (YfV (Yg0 _) rfl) rfl) rfl) rfl) rfl) rfl) _),⟨Ye1 _,rfl⟩,_,(congrArg (St.mk _) (Y01 (YfW rfl (YfW rfl (YfW rfl (YfW rfl (YfW rfl (YfW rfl (YfW rfl (YfW rfl (YfW rfl Yg3)))))))))).symm)⟩ ?_
 rintro⟨i,g,r⟩ _ ⟨⟨hi,hr⟩,m0,rfl⟩
 have hrl:r.length=i:=by rw[hr,Yek];omega
 refine Vd ?_
 refine cD (fun h28=>?_) fun h28=>?_
 have hrr:=hp.each _ (Y02 (l:=p.routes) (j:=i) (by omega))
 refine Vn1 ?_
 refine Vy ?_
 refine Vi0 ?_
 refine Vp5 ?_
 refine VoC ?_
 intro g34
 refine GL.buildSliceMT (sz:=1) (z:=[.nils]) (es:=em nr [(p.routes.getD i default)]) rfl rfl rfl rfl (by decide) (by decide) (by decide) (FrzP.cons (Frz.aggc (by exact Yg5 rfl rfl rfl rfl (by exact Y00 _ _)) Frz.aggn) rfl (by decide) rfl (FrzP.nil)) rfl rfl rfl ?_
 intro g35
 refine Ygj YfX (f:=nr) (v:=(p.routes.getD i default)) (sz:=1) (z:=[.nils]) rfl rfl rfl rfl rfl (by decide) (YdK rfl) rfl rfl rfl rfl rfl rfl rfl hrl.symm rfl rfl rfl rfl rfl rfl rfl rfl (by omega) ?_
 refine Vs0 ?_
 refine VbF ?_
 refine Vs5 ?_
 refine⟨⟨i+1,_,r++[p.routes.getD i default]⟩,(by dsimp only;omega),_,(YfZ (YfV (YfV (YfV (YfV (YfV (YfV (Yg0 _) rfl) rfl) rfl) rfl) rfl) rfl) _),⟨by omega,by rw[hr,Y0a (by omega)]⟩,_,(congrArg (St.mk _) (Y01 (YfW rfl (YfW rfl (YfW rfl (YfW rfl (YfW rfl (YfW rfl (YfW rfl (YfW rfl (YfW rfl Yg3)))))))))).symm)⟩
 refine Ve2 ?_
 refine Vg1 ?_
 refine Vi4 ?_
 refine Vd4 ?_
 have hx:r=p.routes:=by rw[hr,show i=p.routes.length by omega,Yfw]
 refine⟨_,_,_,_,.cons (.cellA (n:=7) rfl rfl rfl (by simp) rfl rfl rfl (YdK rfl)) .nil,(.aggc (by exact Yg4 rfl rfl rfl rfl rfl rfl (by (rw[Y00];omega))) (.aggc (by exact Yg4 rfl rfl rfl rfl rfl rfl (by exact (Y00 _ _).symm)) (.aggc (by exact Yg4 rfl rfl rfl rfl rfl rfl (by exact (Y00 _ _).symm)) (.aggc (by exact Yg4 rfl rfl rfl rfl rfl rfl (by exact (Y00 _ _).symm)) (.aggc (by exact Yg4 rfl rfl rfl rfl rfl rfl (by exact (Y00 _ _).symm)) (.aggc (by exact Yg4 rfl rfl rfl rfl rfl rfl (by exact (Y00 _ _).symm)) (.aggc (by exact Exp.frz (Frz.pure rfl)) .aggn))))))),(by decide),by simp,?_⟩
 show LV.agg _=_
 rw[hx]
 rfl
theorem Ya9 {l:List Hold}{i:Nat}(h:i<l.length)(hc:¬ (l.getD i default).before=(l.getD i default).after): tidyH (l.take (i+1))=insI Hold.n (tidyH (l.take i)) (l.getD i default):=by
 rw[tidyH,Y18 h (by simp only[chgH,decide_eq_false hc];rfl),Y3n]
 rfl
theorem Yb8 {l:List Hold}{i:Nat}(h:i<l.length)(hc:(l.getD i default).before=(l.getD i default).after): tidyH (l.take (i+1))=tidyH (l.take i):=by
 rw[tidyH,Y1u h (by simp only[chgH,decide_eq_true hc];rfl)]
 rfl
theorem Yah {l:List Turn}{i:Nat}(h:i<l.length)(hc:¬ (l.getD i default).before=(l.getD i default).after): tidyT (l.take (i+1))=insI Turn.car (tidyT (l.take i)) (l.getD i default):=by
 rw[tidyT,Y18 h (by simp only[chgT,decide_eq_false hc];rfl),Y3n]
 rfl
theorem Yc0 {l:List Turn}{i:Nat}(h:i<l.length)(hc:(l.getD i default).before=(l.getD i default).after): tidyT (l.take (i+1))=tidyT (l.take i):=by
 rw[tidyT,Y1u h (by simp only[chgT,decide_eq_true hc];rfl)]
 rfl
theorem Y3b {α:Type}{o:List α}{j:Nat}(h:j=o.length)(x:α): o.take j++[x]=putAt o j x:=by subst h;simp[putAt]
theorem Y4V {α:Type}[Inhabited α]{k:α→Int}{o:List α}{x:α}{j:Nat}(hs:SortK k o)(hj:j≤o.length)(h1:∀ q,q<j→k (o.getD q default)≤k x)(h2:j<o.length→k x<k (o.getD j default)): putAt o j x=insI k o x∧SortK k (putAt o j x)∧(putAt o j x).length=o.length+1 :=
 ⟨(Yck hs hj h1 h2).symm,hs.put hj h1 fun h=>Int.le_of_lt (h2 h),Y2U hj⟩
theorem Y1q (l b:List Int): (l.foldl addK b).length≤b.length+l.length:=by
 induction l generalizing b with
 | nil=>exact Ye2 _
 | cons x r ih =>
   rw[Yf7,Yen]
   have:=ih (addK b x)
   have:=Y3Y b x
   omega
theorem YaK (l:List Int): ∀ b:List Int,twiceI b l=!decide ((l.foldl addK b).length=b.length+l.length):=by
 induction l with
 | nil=>intro b;simp[twiceI]
 | cons x r ih =>
   intro b
   rw[twiceI,Yf7,Yen]
   by_cases hx:x∈b
   · rw[if_pos hx,addK,if_pos hx,decide_eq_false]
     · rfl
     · have:=Y1q r b
       omega
   · rw[if_neg hx,ih,addK,if_neg hx]
     congr 2
     rw[YdN]
     simp
     omega
theorem Y9n (l:List Hold)(hl:l.length≤1000000): CallsV Try.prog 65 [.sl (em kh l)] (.slo 3 (em kh (tidyH l))):=by
 refine Yg2 (Yga _) mix Try.func65 rfl rfl (by simp[Try.f65]) (by kernel_rfl) (nb:=0) ?_
 unfold Try.f65
 refine Vc ?_
 refine ViA ?_
 refine goWeak (Ygp (j:=3) 2816 3 rfl) ?_
 refine Vg0 ?_
 refine Vq ?_
 refine Yg8 YfX (α:=Nat × Nat × List Hold) (fun ⟨i,g,o⟩ st=>(i≤l.length∧o=tidyH (l.take i)∧SortK Hold.n o∧o.length≤i)∧∃ m0,st=⟨(updS (updS (updS (updS (fun _=>LV.undef) 3 (.own 2816 g 0 o.length none)) 7 (.sl (em kh l))) 8 (.int .i64 (l.length:Int))) 9 (.int .i64 (i:Int))),effM m0 [(2816,⟨g,false,.slc,3,em kh o⟩)]⟩) (fun ⟨i,g,o⟩=>l.length - i) ⟨0,_,[]⟩ ⟨_,(YfZ (YfV (YfV (YfV (YfV (Yg0 _) rfl) rfl) rfl) rfl) _),⟨Ye1 _,rfl,List.Pairwise.nil,Ye2 _⟩,_,(congrArg (St.mk _) (Y01 (YfW rfl Yg3)).symm)⟩ ?_
 rintro⟨i,g,o⟩ _ ⟨⟨hi,ho,hs,hol⟩,m0,rfl⟩
 refine Vd ?_
 refine cD (fun h10=>?_) fun h10=>?_
 refine Vj3 ?_
 intro g5
 refine Vy7 ?_
 refine Vo1 ?_
 refine Vm2 ?_
 refine Vk ?_
 refine cD (fun h17=>?_) fun h17=>?_
 have hsame:=h17
 refine Vx7 ?_
 refine Vs8 ?_
 refine⟨⟨i+1,_,o⟩,(by dsimp only;omega),_,(YfZ (YfV (YfV (YfV (YfV (Yg0 _) rfl) rfl) rfl) rfl) _),⟨by omega,by rw[Yb8 (by omega) hsame];exact ho,hs,by omega⟩,_,(congrArg (St.mk _) (Y01 (YfW rfl Yg3)).symm)⟩
 have hdiff:=h17
 refine Vf0 ?_
 refine Vy ?_
 refine Ygk YfX (fun st=>∃ j:Nat,(j≤o.length∧(∀ q,q<j→(o.getD q default).n≤(l.getD i default).n)∧(j<o.length→(l.getD i default).n<(o.getD j default).n))∧∃ m0,st=⟨(updS (updS (updS (updS (updS (updS (fun _=>LV.undef) 3 (.own 2816 g 0 o.length none)) 5 (.ref 320 g5 0 0)) 6 (.int .i64 (j:Int))) 7 (.sl (em kh l))) 8 (.int .i64 (l.length:Int))) 9 (.int .i64 (i:Int))),effM m0 [(2816,⟨g,false,.slc,3,em kh o⟩),(320,⟨g5,false,.var,3,[kh (l.getD i default)]⟩)]⟩) ?_ ?_
 refine Vo0 ?_
 refine Yg8 YfX (α:=Nat) (fun j st=>(j≤o.length∧(∀ q,q<j→(o.getD q default).n≤(l.getD i default).n))∧∃ m0,st=⟨(updS (updS (updS (updS (updS (updS (fun _=>LV.undef) 3 (.own 2816 g 0 o.length none)) 5 (.ref 320 g5 0 0)) 6 (.int .i64 (j:Int))) 7 (.sl (em kh l))) 8 (.int .i64 (l.length:Int))) 9 (.int .i64 (i:Int))),effM m0 [(2816,⟨g,false,.slc,3,em kh o⟩),(320,⟨g5,false,.var,3,[kh (l.getD i default)]⟩)]⟩) (fun j=>o.length - j) 0 ⟨_,lessA,⟨Ye1 _,fun q h=>by omega⟩,_,hasA⟩ ?_
 rintro j _ ⟨⟨hj,hle⟩,m0,rfl⟩
 refine Ve ?_
 refine Vm4 ?_
 refine Vg ?_
 refine Vw4 ?_
 refine Vm ?_
 refine Yg1 22 rfl (fun h22=>?_) (fun h22=>?_)
 rw[h22]
 replace h22:=of_decide_eq_true h22
 refine Vg2 ?_
 refine VfK ?_
 refine Vl8 ?_
 refine Vb ?_
 refine Vz4 ?_
 refine Vf4 ?_
 refine Vh1 ?_
 refine Vz7 ?_
 refine cD (fun h31=>?_) fun h31=>?_
 refine Vl1 ?_
 refine Vo0 ?_
 refine Vw8 ?_
 refine Vz5 ?_
 refine⟨j+1,(by dsimp only;omega),_,lessA,⟨by omega,fun q hq=>by
       by_cases e:q=j
       · subst e;omega
       · exact hle q (by omega)⟩,_,hasA⟩
 refine Vi7 ?_
 refine⟨_,(YfZ (YfV (YfV (YfV (YfV (YfV (YfV (Yg0 _) rfl) rfl) rfl) rfl) rfl) rfl) _),_,⟨by omega,hle,fun _=>by omega⟩,_,(congrArg (St.mk _) (Y01 (YfW rfl (YfW rfl Yg3))).symm)⟩
 rw[h22]
 replace h22:=of_decide_eq_false h22
 refine Vk0 ?_
 refine Vz7 ?_
 refine Vw1 ?_
 refine Vi7 ?_
 refine⟨_,(YfZ (YfV (YfV (YfV (YfV (YfV (YfV (Yg0 _) rfl) rfl) rfl) rfl) rfl) rfl) _),_,⟨by omega,hle,fun _=>by omega⟩,_,(congrArg (St.mk _) (Y01 (YfW rfl (YfW rfl Yg3))).symm)⟩
 rintro _ ⟨j,⟨hj,hle,hgt⟩,m0,rfl⟩
 ·rcases (show j<o.length∨j=o.length by omega) with hlt | hge
  refine Vv8 ?_
  refine VcF ?_
  refine Vg6 ?_
  refine VgK ?_
  intro g39
  refine Vg ?_
  refine VhK ?_
  refine GL.appW YfX (f:=kh) (l:=[(l.getD i default)]) (l2:=o) (sz:=3) (z:=[.int .i64 0,.int .i64 0,.int .i64 0]) rfl rfl rfl rfl rfl (by decide) (YdK rfl) rfl rfl rfl rfl rfl rfl rfl rfl rfl rfl rfl rfl rfl rfl rfl (fun _=>rfl) (by omega) (by omega) (by omega) ?_
  refine GL.appC YfX (f:=kh) (l:=o) (l2:=[(l.getD i default)]++o.drop j) (l3:=putAt o j (l.getD i default)) (sz:=3) (z:=[.int .i64 0,.int .i64 0,.int .i64 0]) rfl rfl rfl rfl rfl (by decide) (YdK rfl) rfl rfl rfl rfl rfl rfl (by omega) rfl rfl rfl rfl rfl rfl (by simp <;> omega) rfl (by omega) (by omega) ?_
  rotate_left
  refine Vv8 ?_
  refine VcF ?_
  refine Vg6 ?_
  refine VgK ?_
  intro g39
  refine Vg ?_
  refine ViK ?_
  refine VbE ?_
  refine GL.appC YfX (f:=kh) (l:=o) (l2:=[(l.getD i default)]) (l3:=putAt o j (l.getD i default)) (sz:=3) (z:=[.int .i64 0,.int .i64 0,.int .i64 0]) rfl rfl rfl rfl rfl (by decide) (YdK rfl) rfl rfl rfl rfl rfl rfl (by omega) rfl rfl rfl rfl rfl rfl (by simp <;> omega) (Y3b hge _) (by omega) (by omega) ?_
  all_goals
   intro gc
   refine Vt ?_
   refine Vs5 ?_
   refine⟨⟨i+1,_,putAt o j (l.getD i default)⟩,(by dsimp only;omega),_,(YfZ (YfV (YfV (YfV (YfV (Yg0 _) rfl) rfl) rfl) rfl) _),⟨by omega,by rw[Ya9 (by omega) hdiff,← ho];exact (Y4V hs hj hle hgt).1,(Y4V hs hj hle hgt).2.1,by have:=(Y4V hs hj hle hgt).2.2;omega⟩,_,(congrArg (St.mk _) (Y01 (YfW rfl Yg3)).symm)⟩
 refine Vb4 ?_
 have hx:o=tidyH l:=by rw[ho,YdP (by omega)]
 refine⟨_,_,_,_,.cons (.tmp rfl) .nil,.slo rfl rfl rfl rfl (by show 0+_=(em _ _).length;rw[Y00,YdZ]),by simp,by simp,?_⟩
 show LV.slo 3 (em kh o)=_
 rw[hx]
theorem Y9I (l:List Hold)(hl:l.length≤1000000): CallsV Try.prog 65 [.sl (em kh l)] (.sl (em kh (tidyH l))):=(Y9n l hl).freeze rfl
theorem Y3K (d:Delta)(hd:OkD d): CallsV Try.prog 44 [.agg (kd d)] (.agg (kd (tidyD d))):=by
 refine Yg2 (Yga _) mix Try.func44 rfl rfl (by simp[Try.f44]) (by kernel_rfl) (nb:=0) ?_
 unfold Try.f44
 refine Ve ?_
 obtain⟨d1,d2,d3,d4⟩:=hd
 refine Vf ?_
 refine Vw6 ?_
 intro g1
 refine Vz0 ?_
 intro g2
 refine Vu8 ?_
 refine Vo1 ?_
 refine VjK ?_
 refine Vm2 ?_
 refine VjK ?_
 refine Ygt YfX (z:=[LV.nils,LV.nils,LV.nils]) (cs:=[_,_,_]) (n:=3) rfl rfl rfl (EvS.cons (by conv=>lhs;whnf) (EvS.cons (by conv=>lhs;whnf) (EvS.nil))) rfl rfl ?_
 refine Vz0 ?_
 intro g3
 refine VaB ?_
 refine Vx0 ?_
 refine Vd1 ?_
 refine Vw ?_
 refine Vr0 ?_
 refine Vd5 ?_
 refine goWeak (Ygi (n:=192) (c:=0) 3584 3 rfl rfl rfl rfl rfl rfl) ?_
 refine Vo0 ?_
 refine Yg8 YfX (α:=Nat × Nat × List Turn) (fun ⟨i,g,o⟩ st=>(i≤d.turns.length∧o=tidyT (d.turns.take i)∧SortK Turn.car o∧o.length≤i)∧∃ m0,st=⟨(updS (updS (updS (updS (updS (updS (fun _=>LV.undef) 1 (.ref 64 g1 0 0)) 2 (.ref 128 g2 0 0)) 3 (.ref 192 g3 0 0)) 15 (.sl (em kt d.turns))) 16 (.int .i64 (d.turns.length:Int))) 17 (.int .i64 (i:Int))),effM m0 [(64,⟨g1,false,.var,3,[kd d]⟩),(128,⟨g2,false,.var,3,[[.nils,.nils,.nils]]⟩),(192,⟨g3,false,.var,3,[[.own 3584 g 0 o.length none,.sl (em kh (tidyH d.locks)),.sl (em kh (tidyH d.ices))]]⟩),(3584,⟨g,false,.slc,3,em kt o⟩)]⟩) (fun ⟨i,g,o⟩=>d.turns.length - i) ⟨0,_,[]⟩ ⟨_,(YfZ (YfV (YfV (YfV (YfV (YfV (YfV (Yg0 _) rfl) rfl) rfl) rfl) rfl) rfl) _),⟨Ye1 _,rfl,List.Pairwise.nil,Ye2 _⟩,_,(congrArg (St.mk _) (Y01 (YfW rfl (YfW rfl (YfW rfl (YfW rfl Yg3))))).symm)⟩ ?_
 rintro⟨i,g,o⟩ _ ⟨⟨hi,ho,hs,hol⟩,m0,rfl⟩
 refine Vd ?_
 refine cD (fun h18=>?_) fun h18=>?_
 have hmem:=Y02 (l:=d.turns) (j:=i) (by omega)
 refine Vt6 ?_
 intro g5
 refine Vy7 ?_
 refine Vo1 ?_
 refine Vm2 ?_
 refine Yg6 YfX rfl (Frz.aggc (by exact Frz.pure rfl) (Frz.aggc (by exact Frz.pure rfl) (Frz.aggn))) (Y80 _ _ (by have:=(d4 _ hmem).1;omega) (by have:=(d4 _ hmem).2;omega)) rfl rfl (fun _=>rfl) ?_
 refine Vj0 ?_
 refine cD (fun h25=>?_) fun h25=>?_
 have hsame:=h25
 refine Vx7 ?_
 refine Vs8 ?_
 refine⟨⟨i+1,_,o⟩,(by dsimp only;omega),_,(YfZ (YfV (YfV (YfV (YfV (YfV (YfV (Yg0 _) rfl) rfl) rfl) rfl) rfl) rfl) _),⟨by omega,by rw[Yc0 (by omega) hsame];exact ho,hs,by omega⟩,_,(congrArg (St.mk _) (Y01 (YfW rfl (YfW rfl (YfW rfl (YfW rfl Yg3))))).symm)⟩
 have hdiff:=h25
 refine Vf0 ?_
 refine Vy ?_
 refine Ygk YfX (fun st=>∃ j:Nat,(j≤o.length∧(∀ q,q<j→(o.getD q default).car≤(d.turns.getD i default).car)∧(j<o.length→(d.turns.getD i default).car<(o.getD j default).car))∧∃ m0,st=⟨(updS (updS (updS (updS (updS (updS (updS (updS (fun _=>LV.undef) 5 (.ref 320 g5 0 0)) 6 (.int .i64 (j:Int))) 1 (.ref 64 g1 0 0)) 2 (.ref 128 g2 0 0)) 3 (.ref 192 g3 0 0)) 15 (.sl (em kt d.turns))) 16 (.int .i64 (d.turns.length:Int))) 17 (.int .i64 (i:Int))),effM m0 [(64,⟨g1,false,.var,3,[kd d]⟩),(128,⟨g2,false,.var,3,[[.nils,.nils,.nils]]⟩),(192,⟨g3,false,.var,3,[[.own 3584 g 0 o.length none,.sl (em kh (tidyH d.locks)),.sl (em kh (tidyH d.ices))]]⟩),(3584,⟨g,false,.slc,3,em kt o⟩),(320,⟨g5,false,.var,3,[kt (d.turns.getD i default)]⟩)]⟩) ?_ ?_
 refine Vo0 ?_
 refine Yg8 YfX (α:=Nat) (fun j st=>(j≤o.length∧(∀ q,q<j→(o.getD q default).car≤(d.turns.getD i default).car))∧∃ m0,st=⟨(updS (updS (updS (updS (updS (updS (updS (updS (fun _=>LV.undef) 5 (.ref 320 g5 0 0)) 6 (.int .i64 (j:Int))) 1 (.ref 64 g1 0 0)) 2 (.ref 128 g2 0 0)) 3 (.ref 192 g3 0 0)) 15 (.sl (em kt d.turns))) 16 (.int .i64 (d.turns.length:Int))) 17 (.int .i64 (i:Int))),effM m0 [(64,⟨g1,false,.var,3,[kd d]⟩),(128,⟨g2,false,.var,3,[[.nils,.nils,.nils]]⟩),(192,⟨g3,false,.var,3,[[.own 3584 g 0 o.length none,.sl (em kh (tidyH d.locks)),.sl (em kh (tidyH d.ices))]]⟩),(3584,⟨g,false,.slc,3,em kt o⟩),(320,⟨g5,false,.var,3,[kt (d.turns.getD i default)]⟩)]⟩) (fun j=>o.length - j) 0 ⟨_,lessA,⟨Ye1 _,fun q h=>by omega⟩,_,hasA⟩ ?_
 rintro j _ ⟨⟨hj,hle⟩,m0,rfl⟩
 refine Ve ?_
 refine Vm4 ?_
 refine Va ?_
 refine Vw ?_
 refine Vw4 ?_
 refine Vm ?_
 refine Yg1 31 rfl (fun h31=>?_) (fun h31=>?_)
 rw[h31]
 replace h31:=of_decide_eq_true h31
 refine Vf4 ?_
 refine Vi ?_
 refine VfK ?_
 refine Vl8 ?_
 refine Vb ?_
 refine Vz4 ?_
 refine Vf4 ?_
 refine Vh1 ?_
 refine Vz7 ?_
 refine cD (fun h41=>?_) fun h41=>?_
 refine Vl1 ?_
 refine Vo0 ?_
 refine Vw8 ?_
 refine Vz5 ?_
 refine⟨j+1,(by dsimp only;omega),_,lessA,⟨by omega,fun q hq=>by
       by_cases e:q=j
       · subst e;omega
       · exact hle q (by omega)⟩,_,hasA⟩
 refine Vi7 ?_
 refine⟨_,(YfZ (YfV (YfV (YfV (YfV (YfV (YfV (YfV (YfV (Yg0 _) rfl) rfl) rfl) rfl) rfl) rfl) rfl) rfl) _),_,⟨by omega,hle,fun _=>by omega⟩,_,(congrArg (St.mk _) (Y01 (YfW rfl (YfW rfl (YfW rfl (YfW rfl (YfW rfl Yg3)))))).symm)⟩
 rw[h31]
 replace h31:=of_decide_eq_false h31
 refine Vz ?_
 refine Vu0 ?_
 refine Vz7 ?_
 refine Vw1 ?_
 refine Vi7 ?_
 refine⟨_,(YfZ (YfV (YfV (YfV (YfV (YfV (YfV (YfV (YfV (Yg0 _) rfl) rfl) rfl) rfl) rfl) rfl) rfl) rfl) _),_,⟨by omega,hle,fun _=>by omega⟩,_,(congrArg (St.mk _) (Y01 (YfW rfl (YfW rfl (YfW rfl (YfW rfl (YfW rfl Yg3)))))).symm)⟩
 rintro _ ⟨j,⟨hj,hle,hgt⟩,m0,rfl⟩
 ·rcases (show j<o.length∨j=o.length by omega) with hlt | hge
  refine Vi0 ?_
  refine Vw ?_
  refine Vg ?_
  refine VcF ?_
  refine Vg6 ?_
  refine VkK ?_
  intro g50
  refine Vw ?_
  refine Va ?_
  refine VhK ?_
  refine GL.appW YfX (f:=kt) (l:=[(d.turns.getD i default)]) (l2:=o) (sz:=3) (z:=[.int .i64 0,.nils,.nils]) rfl rfl rfl rfl rfl (by decide) (YdK rfl) rfl rfl rfl rfl rfl rfl rfl rfl rfl rfl rfl rfl rfl rfl rfl (fun _=>rfl) (by omega) (by omega) (by omega) ?_
  refine GL.appC YfX (f:=kt) (l:=o) (l2:=[(d.turns.getD i default)]++o.drop j) (l3:=putAt o j (d.turns.getD i default)) (sz:=3) (z:=[.int .i64 0,.nils,.nils]) rfl rfl rfl rfl rfl (by decide) (YdK rfl) rfl rfl rfl rfl rfl rfl (by omega) rfl rfl rfl rfl rfl rfl (by simp <;> omega) rfl (by omega) (by omega) ?_
  rotate_left
  refine Vi0 ?_
  refine Vw ?_
  refine Vg ?_
  refine VcF ?_
  refine Vg6 ?_
  refine VkK ?_
  intro g50
  refine Vw ?_
  refine Va ?_
  refine ViK ?_
  refine VbE ?_
  refine GL.appC YfX (f:=kt) (l:=o) (l2:=[(d.turns.getD i default)]) (l3:=putAt o j (d.turns.getD i default)) (sz:=3) (z:=[.int .i64 0,.nils,.nils]) rfl rfl rfl rfl rfl (by decide) (YdK rfl) rfl rfl rfl rfl rfl rfl (by omega) rfl rfl rfl rfl rfl rfl (by simp <;> omega) (Y3b hge _) (by omega) (by omega) ?_
  all_goals
   intro gc
   refine Vs0 ?_
   refine VdF ?_
   refine Vs5 ?_
   refine⟨⟨i+1,_,putAt o j (d.turns.getD i default)⟩,(by dsimp only;omega),_,(YfZ (YfV (YfV (YfV (YfV (YfV (YfV (Yg0 _) rfl) rfl) rfl) rfl) rfl) rfl) _),⟨by omega,by rw[Yah (by omega) hdiff,← ho];exact (Y4V hs hj hle hgt).1,(Y4V hs hj hle hgt).2.1,by have:=(Y4V hs hj hle hgt).2.2;omega⟩,_,(congrArg (St.mk _) (Y01 (YfW rfl (YfW rfl (YfW rfl (YfW rfl Yg3))))).symm)⟩
 refine Ve2 ?_
 refine Vg6 ?_
 refine VaB ?_
 refine Vd4 ?_
 have hx:o=tidyT d.turns:=by rw[ho,YdP (by omega)]
 refine⟨_,_,_,_,.cons (.cellA (n:=3) rfl rfl rfl (by simp) rfl rfl rfl (YdK rfl)) .nil,.frz (Frz.aggc (by exact Yg5 rfl rfl rfl rfl (by exact Y00 _ _)) (Frz.aggc (by exact Frz.pure rfl) (Frz.aggc (by exact Frz.pure rfl) Frz.aggn))),Yec,by simp,?_⟩
 show LV.agg [.sl (em kt o),.sl (em kh _),.sl (em kh _)]=_
 rw[hx]
 rfl
theorem Y3s {d:Delta}(hd:OkD d): (tidyD d).turns.length<20∧(tidyD d).locks.length<20∧(tidyD d).ices.length<20:=by
 obtain⟨d1,d2,d3,d4⟩:=hd
 have h1:(tidyD d).turns.length≤d.turns.length:=Y6U d.turns
 have h2:(tidyD d).locks.length≤d.locks.length:=Y6S d.locks
 have h3:(tidyD d).ices.length≤d.ices.length:=Y6S d.ices
 omega
theorem Y4j (d:Delta)(hd:OkD d): CallsV Try.prog 98 [.agg (kd d)] (.bool (emptyD d)):=by
 refine Yg2 (Yga _) mix Try.func98 rfl rfl (by simp[Try.f98]) (by kernel_rfl) (nb:=0) ?_
 unfold Try.f98
 refine Ve ?_
 have hl:=Y3s hd
 refine Vf ?_
 refine Vw6 ?_
 intro g1
 refine Vn ?_
 refine Vy6 ?_
 refine VeF ?_
 refine Vz0 ?_
 intro g3
 refine Vz3 ?_
 refine Vo5 ?_
 refine Vj ?_
 refine Vs7 ?_
 refine Vl0 ?_
 refine Vs7 ?_
 refine Vu ?_
 refine Vq1 ?_
 rfl
def rkL (R:List (Int × Bool)): List Int:=(R.filter Prod.snd).map Prod.fst
theorem YcH {R:List (Int × Bool)}{O O' X:List Int}{j:Nat}{n:Int}(h:R[j]?=some (n,true))(hp:(O++rkL R).Perm X)(ho:O'.Perm (n::O)): (O'++rkL (R.eraseIdx j)).Perm X:=by
 refine List.Perm.trans ?_ hp
 have h1:=((Y0U h).filter Prod.snd).map Prod.fst
 rw[Yfd,if_pos rfl,Yey] at h1
 refine (List.Perm.append_right _ ho).trans ?_
 rw[YdW]
 exact YfU.symm.trans (List.Perm.append_left O h1)
theorem Ycz {R:List (Int × Bool)}{O X:List Int}{j:Nat}{n:Int}(h:R[j]?=some (n,false))(hp:(O++rkL R).Perm X): (O++rkL (R.eraseIdx j)).Perm X:=by
 refine List.Perm.trans (List.Perm.append_left O ?_) hp
 have h1:=((Y0U h).filter Prod.snd).map Prod.fst
 rwa [Yfd,if_neg (by simp)] at h1
theorem Ydu (R:List (Int × Bool)): (rkL R).length≤R.length:=by
 rw[rkL,Ye4]
 exact Yex _ _
theorem YaB {α:Type}{f:α→List LV}{R:List α}(h:0<R.length)(h0:em f R=[]): False:=by
 have:=congrArg List.length h0
 rw[Y00,YeM] at this
 omega
theorem Y9t {O X:List Int}(hp:(O++rkL []).Perm X)(hs:SortK (fun x:Int=>x) O): sorted X=O:=by
 have h1:O.Perm X:=by simpa [rkL] using hp
 exact YaA h1.symm (hs.imp fun h=>decide_eq_true h)
theorem Y97 (L:List (Int × Bool))(hL:L.length≤100000000): CallsV Try.prog 46 [.fmap (em kbb L)] (.slo 1 (em ni (sorted (rkL L)))):=by
 refine Yg2 (Yga _) mix Try.func46 rfl rfl (by simp[Try.f46]) (by kernel_rfl) (nb:=0) ?_
 unfold Try.f46
 refine Vc ?_
 refine ViA ?_
 refine goWeak (Ygp (j:=3) 2560 1 rfl) ?_
 refine Vg0 ?_
 refine GL.range YfX (T:=[]) rfl (.pure rfl) rfl ?_
 intro g8
 refine Vs2 ?_
 refine Yg8 YfX (α:=List LV × List (Int × Bool) × Nat × List Int) (fun ⟨h,R,g,O⟩ st=>((O++rkL R).Perm (rkL L)∧SortK (fun x:Int=>x) O)∧∃ m0,st=⟨(updS (updS (fun _=>LV.undef) 3 (.own 2560 g 0 O.length none)) 8 (.mref 512 g8)),effM m0 [(2560,⟨g,false,.slc,1,em ni O⟩),(512,⟨g8,false,.mp,3,h::em kbb R⟩)]⟩) (fun ⟨h,R,g,O⟩=>R.length) ⟨_,L,_,[]⟩ ⟨_,(YfZ (YfV (YfV (Yg0 _) rfl) rfl) _),⟨by rw[YdY],List.Pairwise.nil⟩,_,(congrArg (St.mk _) (Y01 (YfW rfl (YfW rfl Yg3))).symm)⟩ ?_
 rintro⟨h,R,g,O⟩ _ ⟨⟨hp,hs⟩,m0,rfl⟩
 have hll:=hp.length_eq
 rw[YdN] at hll
 have hl2:=Ydu L
 refine Ve ?_
 rcases Yfm R.length with hz | hz
 refine Vf ?_
 obtain rfl:=Yeo hz
 refine GL.next YfX rfl rfl rfl rfl rfl rfl rfl (fun _=>?_) (fun jm k v hj=>absurd hj (by simp[em]))
 refine Vj4 ?_
 refine Vk6 ?_
 refine Vw1 ?_
 refine Vb4 ?_
 rw[Y9t hp hs]
 exact⟨_,_,_,_,.cons (.tmp rfl) .nil,.slo rfl rfl rfl rfl (by show 0+_=(em _ _).length;rw[Y00,YdZ]),by simp,by simp,rfl⟩
 refine Vf ?_
 refine GL.next YfX rfl rfl rfl rfl rfl rfl rfl (fun h0=>(YaB hz h0).elim) (fun jm k v hj=>?_)
 obtain⟨⟨n,fl⟩,hR,rfl,rfl⟩:=YdB hj
 rw[Y2d]
 have hel:=Y1U hR
 refine Vj4 ?_
 refine Vu6 ?_
 refine Vo0 ?_
 refine Vc ?_
 refine VcE ?_
 refine Vj8 ?_
 refine Vt ?_
 refine Ve0 ?_
 refine Vb1 ?_
 refine Ygb rfl (fun h15=>?_) (fun h15=>?_)
 have hfl:fl=false:=by simpa using h15
 refine VfO ?_
 refine⟨⟨_,R.eraseIdx jm,_,O⟩,(by dsimp only;omega),_,(YfZ (YfV (YfV (Yg0 _) rfl) rfl) _),⟨Ycz (by rw[hR,hfl]) hp,hs⟩,_,(congrArg (St.mk _) (Y01 (YfW rfl (YfW rfl Yg3))).symm)⟩
 have hfl:fl=true:=by simpa using h15
 refine Vf0 ?_
 refine Vy ?_
 refine Ygk YfX (fun st=>∃ j:Nat,(j≤O.length∧(∀ q,q<j→O.getD q default<n)∧(j<O.length→n≤O.getD j default))∧∃ m0,st=⟨(updS (updS (updS (updS (fun _=>LV.undef) 4 (.int .i64 n)) 6 (.int .i64 (j:Int))) 3 (.own 2560 g 0 O.length none)) 8 (.mref 512 g8)),effM m0 [(2560,⟨g,false,.slc,1,em ni O⟩),(512,⟨g8,false,.mp,3,[.int .i64 n,.bool fl]::em kbb (R.eraseIdx jm)⟩)]⟩) ?_ ?_
 refine Vo0 ?_
 refine Yg8 YfX (α:=Nat) (fun j st=>(j≤O.length∧(∀ q,q<j→O.getD q default<n))∧∃ m0,st=⟨(updS (updS (updS (updS (fun _=>LV.undef) 4 (.int .i64 n)) 6 (.int .i64 (j:Int))) 3 (.own 2560 g 0 O.length none)) 8 (.mref 512 g8)),effM m0 [(2560,⟨g,false,.slc,1,em ni O⟩),(512,⟨g8,false,.mp,3,[.int .i64 n,.bool fl]::em kbb (R.eraseIdx jm)⟩)]⟩) (fun j=>O.length - j) 0 ⟨_,lessA,⟨Ye1 _,fun q h=>by omega⟩,_,hasA⟩ ?_
 rintro j _ ⟨⟨hj,hle⟩,m0,rfl⟩
 refine Vk5 ?_
 refine Vw4 ?_
 refine Vm ?_
 refine Yg1 20 rfl (fun h20=>?_) (fun h20=>?_)
 rw[h20]
 replace h20:=of_decide_eq_true h20
 refine Vg2 ?_
 refine VtG ?_
 refine Vb ?_
 refine Vz4 ?_
 refine Vt5 ?_
 refine cD (fun h27=>?_) fun h27=>?_
 refine Vl1 ?_
 refine Vo0 ?_
 refine Vw8 ?_
 refine Vz5 ?_
 refine⟨j+1,(by dsimp only;omega),_,lessA,⟨by omega,fun q hq=>by
       by_cases e:q=j
       · subst e;omega
       · exact hle q (by omega)⟩,_,hasA⟩
 refine Vi7 ?_
 refine⟨_,(YfZ (YfV (YfV (YfV (YfV (Yg0 _) rfl) rfl) rfl) rfl) _),_,⟨by omega,hle,fun _=>by omega⟩,_,(congrArg (St.mk _) (Y01 (YfW rfl (YfW rfl Yg3))).symm)⟩
 rw[h20]
 replace h20:=of_decide_eq_false h20
 refine Vz2 ?_
 refine Vc2 ?_
 refine Vi7 ?_
 refine⟨_,(YfZ (YfV (YfV (YfV (YfV (Yg0 _) rfl) rfl) rfl) rfl) _),_,⟨by omega,hle,fun _=>by omega⟩,_,(congrArg (St.mk _) (Y01 (YfW rfl (YfW rfl Yg3))).symm)⟩
 rintro _ ⟨j,⟨hj,hle,hgt⟩,m0,rfl⟩
 ·rcases (show j<O.length∨j=O.length by omega) with hlt | hge
  refine Vv8 ?_
  refine VlK ?_
  refine Va ?_
  refine VmK ?_
  intro g35
  refine Vg ?_
  refine YgE YfX (sz:=1) (j:=j) (len':=O.length - j) rfl rfl rfl rfl rfl rfl rfl rfl (by omega) (by omega) (by show _≤(em _ _).length;rw[Y00];omega) (by omega) (by omega) ?_
  refine GL.appW YfX (f:=ni) (l:=[n]) (l2:=O) (sz:=1) (z:=[.int .i64 0]) rfl rfl rfl rfl rfl (by decide) (YdK rfl) rfl rfl rfl rfl rfl rfl rfl rfl rfl rfl rfl rfl rfl rfl rfl (fun _=>rfl) (by omega) (by omega) (by omega) ?_
  refine GL.appC YfX (f:=ni) (l:=O) (l2:=[n]++O.drop j) (l3:=putAt O j n) (sz:=1) (z:=[.int .i64 0]) rfl rfl rfl rfl rfl (by decide) (YdK rfl) rfl rfl rfl rfl rfl rfl (by omega) rfl rfl rfl rfl rfl rfl (by simp <;> omega) rfl (by omega) (by omega) ?_
  rotate_left
  refine Vv8 ?_
  refine VlK ?_
  refine Va ?_
  refine VmK ?_
  intro g35
  refine Vg ?_
  refine YgE YfX (sz:=1) (j:=j) (len':=0) rfl rfl rfl rfl rfl rfl rfl rfl (by omega) (by omega) (by show _≤(em _ _).length;rw[Y00];omega) (by omega) (by omega) ?_
  refine VbE ?_
  refine GL.appC YfX (f:=ni) (l:=O) (l2:=[n]) (l3:=putAt O j n) (sz:=1) (z:=[.int .i64 0]) rfl rfl rfl rfl rfl (by decide) (YdK rfl) rfl rfl rfl rfl rfl rfl (by omega) rfl rfl rfl rfl rfl rfl (by simp <;> omega) (Y3b hge _) (by omega) (by omega) ?_
  all_goals
   intro gc
   refine Vt ?_
   refine Vg4 ?_
   refine⟨⟨_,R.eraseIdx jm,_,putAt O j n⟩,(by dsimp only;omega),_,(YfZ (YfV (YfV (Yg0 _) rfl) rfl) _),⟨YcH (by rw[hR,hfl]) hp (Y8N _ _ _),hs.put hj (fun q hq=>Int.le_of_lt (hle q hq)) hgt⟩,_,(congrArg (St.mk _) (Y01 (YfW rfl (YfW rfl Yg3))).symm)⟩
theorem Y6E (L:List (Int × Bool))(hL:L.length≤100000000): CallsV Try.prog 46 [.fmap (em kbb L)] (.sl (em ni (sorted (rkL L)))):=(Y97 L hL).freeze rfl
theorem Y6n:EqK Try.prog 182:=⟨fun a b=>by
 have h:eqAgg Try.prog 182 (kk a) (kk b)=some (a.kind == b.kind && (a.n == b.n && true)):=by kernel_rfl
 rw[h]
 congr 1
 obtain⟨a1,a2⟩:=a
 obtain⟨b1,b2⟩:=b
 rw[Yf2]
 simp,fun a=>by kernel_rfl⟩
theorem Y4f {n:Int}{v:Bool}: ∀ {L:List (Int × Bool)},(∀ p∈L,p.1≠n)→markK L n v=L++[(n,v)]
 | [],_=>rfl
 | p::r,h=>by
   rw[markK,if_neg (fun e=>h p (by simp) e.symm),Y4f fun q hq=>h q (by simp[hq])]
   rfl
theorem Y50 {n:Int}{f:Int→Bool}: ∀ {D:List Int}{M:List (Int × Bool)},n∈D→markK (D.map (fun s=>(s,f s))++M) n (f n)=D.map (fun s=>(s,f s))++M
 | x::r,M,h=>by
   rw[Yey,YdW,markK]
   by_cases e:n=x
   · subst e
     rw[if_pos rfl]
   · rw[if_neg e,Y50 (by simpa [e] using h)]
theorem Y3d (g:Turn→List Int): ∀ (ts:List Turn) (b:List Int),b.Nodup→(ts.foldl (fun b t=>(g t).foldl addK b) b).Nodup
 | [],b,h=>h
 | t::r,b,h=>by
   rw[Yf7]
   refine Y3d g r _ ?_
   have h2:∀ (l b:List Int),b.Nodup→(l.foldl addK b).Nodup:=fun l=>by
     induction l with
     | nil=>exact fun b h=>h
     | cons x s ih=>exact fun b h=>ih _ (Y9f h x)
   exact h2 _ _ h
theorem Y57 {D R B:List Int}{n:Int}{j:Nat}(hp:(D++R).Perm B)(hB:B.Nodup)(hR:R[j]?=some n): n∉D:=fun h=>by
 have:=(Yff.1 (hp.nodup_iff.2 hB)).2.2 n h n (Yet hR)
 exact this rfl
theorem Y6X {D R B:List Int}{n:Int}{j:Nat}(hp:(D++R).Perm B)(hR:R[j]?=some n): ((D++[n])++R.eraseIdx j).Perm B:=by
 refine List.Perm.trans ?_ hp
 rw[Yfk]
 exact List.Perm.append_left D (Y0U hR)
def mk1 (A D:List Int): List (Int × Bool):=D.map fun s=>(s,!decide (s∈A))
theorem YbT (A D:List Int){n:Int}(h:n∉D): markK (mk1 A D) n (!decide (n∈A))=mk1 A (D++[n]):=by
 rw[Y4f]
 simp[mk1]
 intro p hp
 obtain⟨s,hs,rfl⟩:=Ye8.1 hp
 exact fun e=>h (by simpa using e ▸ hs)
def mk2 (A B D E:List Int): List (Int × Bool):=mk1 A D++(E.filter fun s=>!decide (s∈B)).map fun s=>(s,true)
theorem Ybs {A B D E:List Int}{n:Int}(hA:n∈A)(hD:n∈D↔n∈B)(hE:n∉E): markK (mk2 A B D E) n (!decide (n∈B))=mk2 A B D (E++[n]):=by
 by_cases h:n∈B
 have e1:(!decide (n∈B))=!decide (n∈A):=by simp[h,hA]
 rw[mk2,mk1,e1,Y50 (f:=fun s=>!decide (s∈A)) (hD.2 h),mk2,mk1]
 simp[Yfn,h]
 rw[mk2,Y4f]
 simp[mk2,Yfn,h]
 intro p hp
 rcases Yei.1 hp with hp | hp
 obtain⟨s,hs,rfl⟩:=Ye8.1 hp
 exact fun e=>h (hD.1 (by simpa using e ▸ hs))
 obtain⟨s,hs,rfl⟩:=Ye8.1 hp
 exact fun e=>hE (by have:=(YeL.1 hs).1;simpa using e ▸ this)
theorem Ydr (A B D E:List Int): rkL (mk2 A B D E)=D.filter (fun s=>!decide (s∈A))++E.filter (fun s=>!decide (s∈B)):=by
 have h1:∀ D:List Int,rkL (mk1 A D)=D.filter fun s=>!decide (s∈A):=fun D=>by
   induction D with
   | nil=>rfl
   | cons x r ih =>
     rw[mk1,Yey,rkL,Yfd,Yfd]
     by_cases hx:x∈A
     · simp only[hx,decide_true,Bool.not_true,Yf4,if_false]
       exact ih
     · simp only[hx,decide_false,Bool.not_false,if_true,Yey]
       exact congrArg _ ih
 have h2:∀ E:List Int,rkL (E.map fun s=>(s,true))=E:=fun E=>by
   induction E with
   | nil=>rfl
   | cons x r ih=>exact congrArg (x::·) ih
 have h3:∀ L M:List (Int × Bool),rkL (L++M)=rkL L++rkL M:=fun L M=>by simp[rkL]
 rw[mk2,h3,h1,h2]
theorem Y5Y (d:Delta)(hd:OkD d): CallsV Try.prog 45 [.agg (kd d)] (.sl (em ni (movedL d))):=by
 refine Yg2 (Yga _) mix Try.func45 rfl rfl (by simp[Try.f45]) (by kernel_rfl) (nb:=0) ?_
 unfold Try.f45
 refine Ve ?_
 obtain⟨d1,d2,d3,d4⟩:=hd
 refine Vf ?_
 refine Vw6 ?_
 intro g1
 refine Vn ?_
 refine Vv1 ?_
 intro g14
 refine Vv1 ?_
 intro g15
 refine Vv1 ?_
 intro g16
 refine Vr5 ?_
 refine Vb0 ?_
 refine Vx3 ?_
 refine Yg8 YfX (α:=Nat × List Int × List Int) (fun ⟨i,B,A⟩ st=>(i≤d.turns.length∧B=(d.turns.take i).foldl (fun b t=>t.before.foldl addK b) []∧A=(d.turns.take i).foldl (fun b t=>t.after.foldl addK b) [])∧∃ m0,st=⟨(updS (updS (updS (updS (updS (updS (updS (fun _=>LV.undef) 1 (.ref 64 g1 0 0)) 3 (.mref 896 g14)) 4 (.mref 960 g15)) 5 (.mref 1024 g16)) 18 (.sl (em kt d.turns))) 19 (.int .i64 (d.turns.length:Int))) 20 (.int .i64 (i:Int))),effM m0 [(64,⟨g1,false,.var,3,[kd d]⟩),(896,⟨g14,false,.mp,2,em kb B⟩),(960,⟨g15,false,.mp,2,em kb A⟩),(1024,⟨g16,false,.mp,2,[]⟩)]⟩) (fun ⟨i,B,A⟩=>d.turns.length - i) ⟨0,[],[]⟩ ⟨_,lessA,⟨Ye1 _,rfl,rfl⟩,_,hasA⟩ ?_
 rintro⟨i,B,A⟩ _ ⟨⟨hi,hB,hA⟩,m0,rfl⟩
 refine Vd ?_
 refine cD (fun h21=>?_) fun h21=>?_
 have hmem:=Y02 (l:=d.turns) (j:=i) (by omega)
 have h4:=d4 _ hmem
 refine Vt6 ?_
 intro g7
 refine Vy7 ?_
 refine Vj ?_
 refine Vq ?_
 refine Yg8 YfX (α:=Nat × List Int) (fun ⟨j,B2⟩ st=>(j≤(d.turns.getD i default).before.length∧B2=((d.turns.getD i default).before.take j).foldl addK B)∧∃ m0,st=⟨(updS (updS (updS (updS (updS (updS (updS (updS (updS (updS (updS (fun _=>LV.undef) 1 (.ref 64 g1 0 0)) 3 (.mref 896 g14)) 4 (.mref 960 g15)) 5 (.mref 1024 g16)) 18 (.sl (em kt d.turns))) 19 (.int .i64 (d.turns.length:Int))) 20 (.int .i64 (i:Int))) 7 (.ref 448 g7 0 0)) 25 (.sl (em ni (d.turns.getD i default).before))) 26 (.int .i64 ((d.turns.getD i default).before.length:Int))) 27 (.int .i64 (j:Int))),effM m0 [(64,⟨g1,false,.var,3,[kd d]⟩),(896,⟨g14,false,.mp,2,em kb B2⟩),(960,⟨g15,false,.mp,2,em kb A⟩),(1024,⟨g16,false,.mp,2,[]⟩),(448,⟨g7,false,.var,3,[kt (d.turns.getD i default)]⟩)]⟩) (fun ⟨j,B2⟩=>(d.turns.getD i default).before.length - j) ⟨0,_⟩ ⟨_,(YfZ (YfV (YfV (YfV (YfV (YfV (YfV (YfV (YfV (YfV (YfV (YfV (Yg0 _) rfl) rfl) rfl) rfl) rfl) rfl) rfl) rfl) rfl) rfl) rfl) _),⟨Ye1 _,rfl⟩,_,(congrArg (St.mk _) (Y01 (YfW rfl (YfW rfl (YfW rfl (YfW rfl (YfW rfl Yg3)))))).symm)⟩ ?_
 rintro⟨j,B2⟩ _ ⟨⟨hj,hB2⟩,m0,rfl⟩
 refine Vd ?_
 refine cD (fun h28=>?_) fun h28=>?_
 refine Vn1 ?_
 refine Vm3 ?_
 refine VpA ?_
 refine⟨⟨j+1,addK B2 ((d.turns.getD i default).before.getD j default)⟩,(by dsimp only;omega),_,lessA,⟨by omega,by rw[hB2,Y0a (by omega),YeG];rfl⟩,_,hasA⟩
 rw[YdP (by omega)] at hB2
 refine Ve2 ?_
 refine Vu7 ?_
 refine Yg8 YfX (α:=Nat × List Int) (fun ⟨j,A2⟩ st=>(j≤(d.turns.getD i default).after.length∧A2=((d.turns.getD i default).after.take j).foldl addK A)∧∃ m0,st=⟨(updS (updS (updS (updS (updS (updS (updS (updS (updS (updS (updS (fun _=>LV.undef) 1 (.ref 64 g1 0 0)) 3 (.mref 896 g14)) 4 (.mref 960 g15)) 5 (.mref 1024 g16)) 18 (.sl (em kt d.turns))) 19 (.int .i64 (d.turns.length:Int))) 20 (.int .i64 (i:Int))) 7 (.ref 448 g7 0 0)) 35 (.sl (em ni (d.turns.getD i default).after))) 36 (.int .i64 ((d.turns.getD i default).after.length:Int))) 37 (.int .i64 (j:Int))),effM m0 [(64,⟨g1,false,.var,3,[kd d]⟩),(896,⟨g14,false,.mp,2,em kb B2⟩),(960,⟨g15,false,.mp,2,em kb A2⟩),(1024,⟨g16,false,.mp,2,[]⟩),(448,⟨g7,false,.var,3,[kt (d.turns.getD i default)]⟩)]⟩) (fun ⟨j,A2⟩=>(d.turns.getD i default).after.length - j) ⟨0,_⟩ ⟨_,(YfZ (YfV (YfV (YfV (YfV (YfV (YfV (YfV (YfV (YfV (YfV (YfV (Yg0 _) rfl) rfl) rfl) rfl) rfl) rfl) rfl) rfl) rfl) rfl) rfl) _),⟨Ye1 _,rfl⟩,_,(congrArg (St.mk _) (Y01 (YfW rfl (YfW rfl (YfW rfl (YfW rfl (YfW rfl Yg3)))))).symm)⟩ ?_
 rintro⟨j,A2⟩ _ ⟨⟨hj,hA2⟩,m0,rfl⟩
 refine Vd ?_
 refine cD (fun h38=>?_) fun h38=>?_
 refine Vn1 ?_
 refine Vm3 ?_
 refine VpA ?_
 refine⟨⟨j+1,addK A2 ((d.turns.getD i default).after.getD j default)⟩,(by dsimp only;omega),_,lessA,⟨by omega,by rw[hA2,Y0a (by omega),YeG];rfl⟩,_,hasA⟩
 rw[YdP (by omega)] at hA2
 refine VcA ?_
 refine⟨⟨i+1,B2,A2⟩,(by dsimp only;omega),_,lessA,⟨by omega,by rw[hB2,hB,Y0a (by omega),YeG];rfl,by rw[hA2,hA,Y0a (by omega),YeG];rfl⟩,_,hasA⟩
 obtain rfl:i=d.turns.length:=by omega
 rw[Yfw] at hB hA
 have hBf:=hB
 have hAf:=hA
 have hBn:B.Nodup:=hB ▸ Y3d Turn.before d.turns [] (by simp)
 have hAn:A.Nodup:=hA ▸ Y3d Turn.after d.turns [] (by simp)
 have hlB:=Y3P Turn.before d.turns []
 have hlA:=Y3P Turn.after d.turns []
 have hsB:=Y6R (l:=d.turns.map fun t=>t.before.length) (N:=1000000) (by intro x hx;obtain⟨t,ht,rfl⟩:=Ye8.1 hx;exact (d4 t ht).1)
 have hsA:=Y6R (l:=d.turns.map fun t=>t.after.length) (N:=1000000) (by intro x hx;obtain⟨t,ht,rfl⟩:=Ye8.1 hx;exact (d4 t ht).2)
 rw[Ye4] at hsB hsA
 rw[← hB] at hlB
 rw[← hA] at hlA
 rw[YeM] at hlA hlB
 refine VqA ?_
 refine GL.range YfX (m':=updM _ 896 ⟨g14,true,.mp,2,em kb B⟩) rfl (.mref rfl rfl rfl rfl) rfl ?_
 intro g46
 refine Vs2 ?_
 refine Yg8 YfX (α:=List LV × List Int × List Int) (fun ⟨h,R,D⟩ st=>((D++R).Perm B)∧∃ m0,st=⟨(updS (updS (updS (updS (updS (fun _=>LV.undef) 1 (.ref 64 g1 0 0)) 3 (.mref 896 g14)) 4 (.mref 960 g15)) 5 (.mref 1024 g16)) 46 (.mref 2944 g46)),effM m0 [(64,⟨g1,false,.var,3,[kd d]⟩),(896,⟨g14,true,.mp,2,em kb B⟩),(960,⟨g15,false,.mp,2,em kb A⟩),(1024,⟨g16,false,.mp,2,em kbb (mk1 A D)⟩),(2944,⟨g46,false,.mp,3,h::em kb R⟩)]⟩) (fun ⟨h,R,D⟩=>R.length) ⟨_,B,[]⟩ ⟨_,(YfZ (YfV (YfV (YfV (YfV (YfV (Yg0 _) rfl) rfl) rfl) rfl) rfl) _),(by rw[YdY]),_,(congrArg (St.mk _) (Y01 (YfW rfl (YfW rfl (YfW rfl (YfW rfl (YfW rfl Yg3)))))).symm)⟩ ?_
 rintro⟨h,R,D⟩ _ ⟨hp6,m0,rfl⟩
 refine Ve ?_
 rcases Yfm R.length with hz | hz
 refine Vf ?_
 obtain rfl:=Yeo hz
 refine GL.next YfX rfl rfl rfl rfl rfl rfl rfl (fun _=>?_) (fun jm k v hj=>absurd hj (by simp[em]))
 refine Vj4 ?_
 refine Vk6 ?_
 refine Vw1 ?_
 refine Vw9 ?_
 refine VfI ?_
 have hDB:D.Perm B:=by simpa using hp6
 rw[show mk1 A D=mk2 A B D [] from by simp[mk2]]
 refine Vl ?_
 refine GL.range YfX (m':=updM _ 960 ⟨g15,true,.mp,2,em kb A⟩) rfl (.mref rfl rfl rfl rfl) rfl ?_
 intro g58
 refine Vs2 ?_
 refine Yg8 YfX (α:=List LV × List Int × List Int) (fun ⟨h,R,E⟩ st=>((E++R).Perm A)∧∃ m0,st=⟨(updS (updS (updS (updS (updS (fun _=>LV.undef) 1 (.ref 64 g1 0 0)) 3 (.mref 896 g14)) 4 (.mref 960 g15)) 5 (.mref 1024 g16)) 58 (.mref 3712 g58)),effM m0 [(64,⟨g1,false,.var,3,[kd d]⟩),(896,⟨g14,true,.mp,2,em kb B⟩),(960,⟨g15,true,.mp,2,em kb A⟩),(1024,⟨g16,false,.mp,2,em kbb (mk2 A B D E)⟩),(3712,⟨g58,false,.mp,3,h::em kb R⟩)]⟩) (fun ⟨h,R,E⟩=>R.length) ⟨_,A,[]⟩ ⟨_,(YfZ (YfV (YfV (YfV (YfV (YfV (Yg0 _) rfl) rfl) rfl) rfl) rfl) _),(by rw[YdY]),_,(congrArg (St.mk _) (Y01 (YfW rfl (YfW rfl (YfW rfl (YfW rfl (YfW rfl Yg3)))))).symm)⟩ ?_
 rintro⟨h,R,E⟩ _ ⟨hp8,m0,rfl⟩
 refine Ve ?_
 rcases Yfm R.length with hz | hz
 refine Vf ?_
 obtain rfl:=Yeo hz
 refine GL.next YfX rfl rfl rfl rfl rfl rfl rfl (fun _=>?_) (fun jm k v hj=>absurd hj (by simp[em]))
 refine Vj4 ?_
 refine Vk6 ?_
 refine Vw1 ?_
 refine VrA ?_
 have hEA:E.Perm A:=by simpa using hp8
 refine Vl ?_
 refine GL.callM0 YfX rfl (Frz.aggc (Frz.mref rfl rfl rfl rfl) Frz.aggn) (Y6E (mk2 A B D E) (by have h1:=hDB.length_eq;have h2:=hEA.length_eq;have h3:=Ydp E (fun s=>!decide (s∈B)) (N:=E.length) (Ye2 _);simp only[mk2,mk1,YdN,Ye4];omega)) rfl rfl (fun _=>rfl) ?_
 refine Vq1 ?_
 show LV.sl (em ni (sorted (rkL (mk2 A B D E))))=_
 rw[Ydr,movedL,collB,collA,← hBf,← hAf,Ya8 ((hDB.filter _).append (hEA.filter _))]
 refine Vf ?_
 refine GL.next YfX rfl rfl rfl rfl rfl rfl rfl (fun h0=>(YaB hz h0).elim) (fun jm k v hj=>?_)
 obtain⟨n,hR,rfl,rfl⟩:=Ydj hj
 rw[Y2d]
 have hel:=Y1U hR
 refine Vj4 ?_
 refine Vu6 ?_
 refine Vo0 ?_
 refine Vc ?_
 refine VcE ?_
 refine Vj4 ?_
 refine Vm3 ?_
 refine Vg ?_
 refine VaF ?_
 refine Vz6 ?_
 refine GL.markPut YfX (L:=mk2 A B D E) (v:=!decide (n∈B)) rfl rfl rfl rfl rfl rfl rfl rfl rfl rfl rfl ?_
 refine VsA ?_
 rw[Ybs (hp8.subset (Yeg _ (Yet hR))) hDB.mem_iff (Y57 hp8 hAn hR)]
 refine⟨⟨_,R.eraseIdx jm,E++[n]⟩,(by dsimp only;omega),_,(YfZ (YfV (YfV (YfV (YfV (YfV (Yg0 _) rfl) rfl) rfl) rfl) rfl) _),Y6X hp8 hR,_,(congrArg (St.mk _) (Y01 (YfW rfl (YfW rfl (YfW rfl (YfW rfl (YfW rfl Yg3)))))).symm)⟩
 refine Vf ?_
 refine GL.next YfX rfl rfl rfl rfl rfl rfl rfl (fun h0=>(YaB hz h0).elim) (fun jm k v hj=>?_)
 obtain⟨n,hR,rfl,rfl⟩:=Ydj hj
 rw[Y2d]
 have hel:=Y1U hR
 refine Vj4 ?_
 refine Vu6 ?_
 refine Vo0 ?_
 refine Vc ?_
 refine VcE ?_
 refine Vj4 ?_
 refine Vm3 ?_
 refine Vg ?_
 refine VaF ?_
 refine Vz6 ?_
 refine GL.markPut YfX (L:=mk1 A D) (v:=!decide (n∈A)) rfl rfl rfl rfl rfl rfl rfl rfl rfl rfl rfl ?_
 refine VsA ?_
 rw[YbT A D (Y57 hp6 hBn hR)]
 refine⟨⟨_,R.eraseIdx jm,D++[n]⟩,(by dsimp only;omega),_,(YfZ (YfV (YfV (YfV (YfV (YfV (Yg0 _) rfl) rfl) rfl) rfl) rfl) _),Y6X hp6 hR,_,(congrArg (St.mk _) (Y01 (YfW rfl (YfW rfl (YfW rfl (YfW rfl (YfW rfl Yg3)))))).symm)⟩
theorem twice0 (l:List Int): twiceI [] l=!decide ((l.foldl addK []).length=l.length):=by rw[YaK];simp
theorem Ya2 (d:Delta)(hd:OkD d): CallsV Try.prog 42 [.agg (kd d)] (.bool (!checkD d)):=by
 refine Yg2 (Yga _) mix Try.func42 rfl rfl (by simp[Try.f42]) (by kernel_rfl) (nb:=0) ?_
 unfold Try.f42
 refine Ve ?_
 obtain⟨d1,d2,d3,d4⟩:=hd
 refine Vf ?_
 refine Vw6 ?_
 intro g1
 refine Vn ?_
 refine Vv1 ?_
 intro g12
 refine Vv1 ?_
 intro g13
 refine Vv1 ?_
 intro g14
 refine Vr5 ?_
 refine Vb0 ?_
 refine Vx3 ?_
 refine Yg8 YfX (α:=Nat × List Int) (fun ⟨i,X⟩ st=>(i≤d.turns.length∧X=((d.turns.map Turn.car).take i).foldl addK [])∧∃ m0,st=⟨(updS (updS (updS (updS (updS (updS (updS (fun _=>LV.undef) 1 (.ref 64 g1 0 0)) 3 (.mref 768 g12)) 4 (.mref 832 g13)) 5 (.mref 896 g14)) 16 (.sl (em kt d.turns))) 17 (.int .i64 (d.turns.length:Int))) 18 (.int .i64 (i:Int))),effM m0 [(64,⟨g1,false,.var,3,[kd d]⟩),(768,⟨g12,false,.mp,2,em kb X⟩),(832,⟨g13,false,.mp,2,em kb []⟩),(896,⟨g14,false,.mp,2,em kb []⟩)]⟩) (fun ⟨i,X⟩=>d.turns.length - i) ⟨0,[]⟩ ⟨_,lessA,⟨Ye1 _,rfl⟩,_,hasA⟩ ?_
 rintro⟨i,X⟩ _ ⟨⟨hi0,hX⟩,m0,rfl⟩
 refine Vd ?_
 refine cD (fun h19=>?_) fun h19=>?_
 refine Vt6 ?_
 intro g7
 refine Vg3 ?_
 refine Vl ?_
 refine Vc0 ?_
 refine VpA ?_
 refine⟨⟨i+1,addK X (d.turns.getD i default).car⟩,(by dsimp only;omega),_,lessA,⟨by omega,by rw[hX,Y0a (by rw[Ye4];omega),YeG,Y1H _ (by omega)];rfl⟩,_,hasA⟩
 have q0:X=(d.turns.map Turn.car).foldl addK []:=by rw[hX,YdP (by rw[Ye4];omega)]
 refine Vr1 ?_
 refine Vj ?_
 refine Vq ?_
 refine Yg8 YfX (α:=Nat × List Int) (fun ⟨i,Y⟩ st=>(i≤d.locks.length∧Y=((d.locks.map Hold.n).take i).foldl addK [])∧∃ m0,st=⟨(updS (updS (updS (updS (updS (updS (updS (fun _=>LV.undef) 1 (.ref 64 g1 0 0)) 3 (.mref 768 g12)) 4 (.mref 832 g13)) 5 (.mref 896 g14)) 27 (.sl (em kh d.locks))) 28 (.int .i64 (d.locks.length:Int))) 29 (.int .i64 (i:Int))),effM m0 [(64,⟨g1,false,.var,3,[kd d]⟩),(768,⟨g12,false,.mp,2,em kb X⟩),(832,⟨g13,false,.mp,2,em kb Y⟩),(896,⟨g14,false,.mp,2,em kb []⟩)]⟩) (fun ⟨i,Y⟩=>d.locks.length - i) ⟨0,[]⟩ ⟨_,lessA,⟨Ye1 _,rfl⟩,_,hasA⟩ ?_
 rintro⟨i,Y⟩ _ ⟨⟨hi1,hY⟩,m0,rfl⟩
 refine Vd ?_
 refine cD (fun h30=>?_) fun h30=>?_
 refine Vj3 ?_
 intro g9
 refine Vg3 ?_
 refine Vl ?_
 refine Vc0 ?_
 refine VpA ?_
 refine⟨⟨i+1,addK Y (d.locks.getD i default).n⟩,(by dsimp only;omega),_,lessA,⟨by omega,by rw[hY,Y0a (by rw[Ye4];omega),YeG,Y1H _ (by omega)];rfl⟩,_,hasA⟩
 have q2:Y=(d.locks.map Hold.n).foldl addK []:=by rw[hY,YdP (by rw[Ye4];omega)]
 refine Vr1 ?_
 refine Vu7 ?_
 refine Yg8 YfX (α:=Nat × List Int) (fun ⟨i,Z⟩ st=>(i≤d.ices.length∧Z=((d.ices.map Hold.n).take i).foldl addK [])∧∃ m0,st=⟨(updS (updS (updS (updS (updS (updS (updS (fun _=>LV.undef) 1 (.ref 64 g1 0 0)) 3 (.mref 768 g12)) 4 (.mref 832 g13)) 5 (.mref 896 g14)) 38 (.sl (em kh d.ices))) 39 (.int .i64 (d.ices.length:Int))) 40 (.int .i64 (i:Int))),effM m0 [(64,⟨g1,false,.var,3,[kd d]⟩),(768,⟨g12,false,.mp,2,em kb X⟩),(832,⟨g13,false,.mp,2,em kb Y⟩),(896,⟨g14,false,.mp,2,em kb Z⟩)]⟩) (fun ⟨i,Z⟩=>d.ices.length - i) ⟨0,[]⟩ ⟨_,lessA,⟨Ye1 _,rfl⟩,_,hasA⟩ ?_
 rintro⟨i,Z⟩ _ ⟨⟨hi2,hZ⟩,m0,rfl⟩
 refine Vd ?_
 refine cD (fun h41=>?_) fun h41=>?_
 refine Vj3 ?_
 intro g11
 refine Vg3 ?_
 refine Vl ?_
 refine Vc0 ?_
 refine VpA ?_
 refine⟨⟨i+1,addK Z (d.ices.getD i default).n⟩,(by dsimp only;omega),_,lessA,⟨by omega,by rw[hZ,Y0a (by rw[Ye4];omega),YeG,Y1H _ (by omega)];rfl⟩,_,hasA⟩
 have q4:Z=(d.ices.map Hold.n).foldl addK []:=by rw[hZ,YdP (by rw[Ye4];omega)]
 refine Vh3 ?_
 refine GL.lenM YfX rfl rfl rfl rfl rfl rfl ?_
 refine Vo5 ?_
 refine Vm ?_
 refine Yg1 54 rfl (fun h54=>?_) (fun h54=>?_)
 rw[h54]
 replace h54:=of_decide_eq_true h54
 refine Vi ?_
 refine GL.lenM YfX rfl rfl rfl rfl rfl rfl ?_
 refine Vh5 ?_
 refine VfA ?_
 refine Yg1 62 rfl (fun h62=>?_) (fun h62=>?_)
 rw[h62]
 replace h62:=of_decide_eq_true h62
 refine Vi ?_
 refine GL.lenM YfX rfl rfl rfl rfl rfl rfl ?_
 refine Vy9 ?_
 refine Vt2 ?_
 refine Vh1 ?_
 refine Vd2 ?_
 show LV.bool _=LV.bool _
 congr 1
 rw[checkD,twice0,twice0,twice0,← q0,← q2,← q4,Ye4,Ye4,Ye4]
 simp only[Y00] at *
 simp only[Bool.not_or,Bool.not_not]
 (rw[decide_eq_true (by omega),decide_eq_true (by omega),YfL,YfL,Yf2];simp only[beq_iff_eq,decide_eq_true_eq,Y00];omega)
 rw[h62]
 replace h62:=of_decide_eq_false h62
 refine Vz2 ?_
 refine Vd2 ?_
 show LV.bool _=LV.bool _
 congr 1
 rw[checkD,twice0,twice0,twice0,← q0,← q2,← q4,Ye4,Ye4,Ye4]
 simp only[Y00] at *
 simp only[Bool.not_or,Bool.not_not]
 (rw[decide_eq_true (by omega),decide_eq_false (by omega)];rfl)
 rw[h54]
 replace h54:=of_decide_eq_false h54
 refine Vz ?_
 refine Vk7 ?_
 refine Vz2 ?_
 refine Vd2 ?_
 show LV.bool _=LV.bool _
 congr 1
 rw[checkD,twice0,twice0,twice0,← q0,← q2,← q4,Ye4,Ye4,Ye4]
 simp only[Y00] at *
 simp only[Bool.not_or,Bool.not_not]
 (rw[decide_eq_false (by omega)];rfl)
def versP (p:Plan)(k:SKey): Int :=
 if k.kind=1 then (if (atL p.rv k.n).2 then (atL p.rv k.n).1 else -1)
 else if k.kind=2 then (if (atL p.sv k.n).2 && decide (k.n>0) then (atL p.sv k.n).1 else -1)
 else if k.kind=3 then (if (atL p.iv k.n).2 then (atL p.iv k.n).1 else -1)
 else if k.kind=4 then (if k.n=0 then p.pv else -1) else -1
theorem Y8U (p:Plan)(hp:OkP p)(k:SKey): CallsV Try.prog 119 [.agg (kp p),.agg (kk k)] (.int .i64 (versP p k)):=by
 refine Yg2 (Yga _) mix Try.func119 rfl rfl (by simp[Try.f119]) (by kernel_rfl) (nb:=0) ?_
 unfold Try.f119
 refine Ve ?_
 obtain⟨p1,p2,p3,p4,p5,p6,p7⟩:=hp
 refine Vq6 ?_
 intro g2
 refine GL.box YfX (by conv=>lhs;whnf) rfl (n:=2) rfl rfl ?_
 intro g3
 refine Vn ?_
 refine Vt ?_
 refine Vb0 ?_
 refine Vc0 ?_
 refine Vs2 ?_
 refine Vr ?_
 refine cD (fun h9=>?_) fun h9=>?_
 refine Vf ?_
 refine Vu3 ?_
 refine Vj ?_
 refine VpC ?_
 refine Vu2 ?_
 refine Va0 ?_
 refine VlE ?_
 refine Vg0 ?_
 refine Vb1 ?_
 ·refine Ygb rfl (fun h53=>?_) (fun h53=>?_)
  refine Vc5 ?_
  refine VlC ?_
  rotate_left
  refine Vu1 ?_
  refine Va1 ?_
  all_goals
   refine VjD ?_
   show LV.int _ _=LV.int _ _
   congr 1
   unfold versP
   · (simp_all;done)
 refine Vr ?_
 refine cD (fun h19=>?_) fun h19=>?_
 refine Vc ?_
 refine Vs6 ?_
 refine Vj ?_
 refine VpC ?_
 refine Vu2 ?_
 refine Vm3 ?_
 refine Yg1 30 rfl (fun h30=>?_) (fun h30=>?_)
 rw[h30]
 refine Vh5 ?_
 refine Vy1 ?_
 refine Vh1 ?_
 refine Vd3 ?_
 refine Va0 ?_
 refine VlE ?_
 refine Vg0 ?_
 refine Vb1 ?_
 refine Ygb rfl (fun h53=>?_) (fun h53=>?_)
 refine Vw2 ?_
 show LV.int _ _=LV.int _ _
 congr 1
 unfold versP
 (simp_all;intros;omega)
 refine Vu1 ?_
 refine Vq1 ?_
 show LV.int _ _=LV.int _ _
 congr 1
 unfold versP
 · (simp_all;done)
 rw[h30]
 refine Vn0 ?_
 refine Vd3 ?_
 refine Va0 ?_
 refine VlE ?_
 refine Vg0 ?_
 refine Vb1 ?_
 refine Vp2 ?_
 refine Vw2 ?_
 show LV.int _ _=LV.int _ _
 congr 1
 unfold versP
 · (simp_all;done)
 refine Vr ?_
 refine cD (fun h35=>?_) fun h35=>?_
 refine Vf ?_
 refine Vx4 ?_
 refine Vh2 ?_
 refine Vj ?_
 refine VpC ?_
 refine Vu2 ?_
 refine Va0 ?_
 refine VlE ?_
 refine Vg0 ?_
 refine Vb1 ?_
 ·refine Ygb rfl (fun h53=>?_) (fun h53=>?_)
  refine Vc5 ?_
  refine VlC ?_
  rotate_left
  refine Vu1 ?_
  refine Va1 ?_
  all_goals
   refine VjD ?_
   show LV.int _ _=LV.int _ _
   congr 1
   unfold versP
   · (simp_all;done)
 refine Vr ?_
 refine cD (fun h45=>?_) fun h45=>?_
 refine Vi0 ?_
 refine Va7 ?_
 refine Vh2 ?_
 refine Vj ?_
 refine Vu ?_
 refine Vr5 ?_
 refine Vp0 ?_
 refine VlE ?_
 refine Vg0 ?_
 refine Vb1 ?_
 ·refine cB (fun h53=>?_) fun h53=>?_
  refine Vc5 ?_
  refine VlC ?_
  rotate_left
  refine Vu1 ?_
  refine Va1 ?_
  all_goals
   refine VjD ?_
   show LV.int _ _=LV.int _ _
   congr 1
   unfold versP
   · (simp_all;done)
 refine VvB ?_
 refine Vg0 ?_
 refine Vb1 ?_
 refine Vp2 ?_
 refine Vw2 ?_
 show LV.int _ _=LV.int _ _
 congr 1
 unfold versP
 · (simp_all;done)
end Go.Proofs.Ytoadnomjbibcgaa
