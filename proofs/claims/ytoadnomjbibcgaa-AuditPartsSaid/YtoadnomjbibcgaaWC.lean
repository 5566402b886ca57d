/- The walks of the program, part C. -/
import Derived.Test.YtoadnomjbibcgaaProg
import Derived.KernelRfl
import Derived.Test.YtoadnomjbibcgaaWB
set_option linter.all false
set_option maxRecDepth 100000
set_option maxHeartbeats 4000000
namespace Go.Proofs.Ytoadnomjbibcgaa
open Go.Proofs Mv
def wordsL:List ByteArray:=[(ByteArray.mk #[]),(ByteArray.mk #[97,100,100]),(ByteArray.mk #[100,101,108]),(ByteArray.mk #[109,111,118]),(ByteArray.mk #[108,111,99,107]),(ByteArray.mk #[102,114,101,101]),(ByteArray.mk #[105,99,101]),(ByteArray.mk #[116,104,97,119]),(ByteArray.mk #[111,112,116]),(ByteArray.mk #[117,110,100,111]),(ByteArray.mk #[114,101,100,111]),(ByteArray.mk #[115,104,111,119]),(ByteArray.mk #[112,111,111,108]),(ByteArray.mk #[99,111,115,116])]
def numsL:List ByteArray:=[(ByteArray.mk #[]),(ByteArray.mk #[115,99,105,106]),(ByteArray.mk #[115]),(ByteArray.mk #[115,99,105,106]),(ByteArray.mk #[115]),(ByteArray.mk #[115]),(ByteArray.mk #[99]),(ByteArray.mk #[99]),(ByteArray.mk #[98,120,99,100]),(ByteArray.mk #[]),(ByteArray.mk #[]),(ByteArray.mk #[99]),(ByteArray.mk #[]),(ByteArray.mk #[])]
theorem Y9e:∀ s∈wordsL,s.size≤20:=fun s hs=>of_decide_eq_true (Yed.1 (show (wordsL.all fun s=>decide (s.size≤20))=true by rfl) s hs)
theorem Yay:∀ s∈numsL,s.size≤4:=fun s hs=>of_decide_eq_true (Yed.1 (show (numsL.all fun s=>decide (s.size≤4))=true by rfl) s hs)
def zeroC (op:Int): Cmd:=⟨op,0,0,0,-1,0,0,-1⟩
def putC (c:Cmd)(f n:Int): Cmd:=if f=115 then { c with stop:=n } else if f=99 then { c with car:=n } else if f=105 then { c with at':=n } else if f=106 then { c with mate:=n } else if f=98 then { c with budget:=n } else if f=120 then { c with seed:=n } else { c with other:=n }
structure CmdP (c:Cmd):Prop where
 op:1≤c.op∧c.op≤13
 stop:0≤c.stop∧c.stop≤999
 car:0≤c.car∧c.car≤999
 at':0≤c.at'∧c.at'≤999
 mate:-1≤c.mate∧c.mate≤999
 budget:0≤c.budget∧c.budget≤999
 seed:0≤c.seed∧c.seed≤999
 other:-1≤c.other∧c.other≤999
theorem YbZ {op:Int}(h:1≤op∧op≤13): CmdP (zeroC op):=by
 refine⟨h,?_,?_,?_,?_,?_,?_,?_⟩ <;> simp[zeroC]
theorem Ydn (c:Cmd)(f n:Int): (putC c f n).op=c.op:=by
 unfold putC
 repeat (first | split | rfl)
theorem YcP {c:Cmd}(h:CmdP c)(f:Int){n:Int}(hn:0≤n∧n≤999): CmdP (putC c f n):=by
 have hn1:-1≤n∧n≤999:=by omega
 unfold putC
 split
 exact { h with stop:=hn }
 split
 exact { h with car:=hn }
 split
 exact { h with at':=hn }
 split
 exact { h with mate:=hn1 }
 split
 exact { h with budget:=hn }
 split
 exact { h with seed:=hn }
 exact { h with other:=hn1 }
theorem Yd9 (op:Int): CallsR Try.prog 82 [.int .i64 op] fun res=>∃ a:ByteArray × ByteArray × Int,(a.1.size≤20∧a.2.1.size≤4∧(a.2.2=0∨a.2.2=1))∧res=.tup [.str a.1,.str a.2.1,.int .i64 a.2.2]:=by
 refine Yg2 (Yga _) mix Try.func82 rfl rfl (by simp[Try.f82]) (by kernel_rfl) (nb:=0) ?_
 unfold Try.f82
 refine Vc ?_
 refine Vr5 ?_
 refine Vn ?_
 refine Yg9 YfX (sz:=1) (z:=[LV.str { data:={ toList:=[] } }]) (es:=em nstr wordsL) rfl rfl rfl rfl (by decide) (by decide) (by decide) (FrzP.cons (S:=[]) (T:=[]) (YfY rfl) rfl (by decide) rfl (FrzP.cons (S:=[]) (T:=[]) (YfY rfl) rfl (by decide) rfl (FrzP.cons (S:=[]) (T:=[]) (YfY rfl) rfl (by decide) rfl (FrzP.cons (S:=[]) (T:=[]) (YfY rfl) rfl (by decide) rfl (FrzP.cons (S:=[]) (T:=[]) (YfY rfl) rfl (by decide) rfl (FrzP.cons (S:=[]) (T:=[]) (YfY rfl) rfl (by decide) rfl (FrzP.cons (S:=[]) (T:=[]) (YfY rfl) rfl (by decide) rfl (FrzP.cons (S:=[]) (T:=[]) (YfY rfl) rfl (by decide) rfl (FrzP.cons (S:=[]) (T:=[]) (YfY rfl) rfl (by decide) rfl (FrzP.cons (S:=[]) (T:=[]) (YfY rfl) rfl (by decide) rfl (FrzP.cons (S:=[]) (T:=[]) (YfY rfl) rfl (by decide) rfl (FrzP.cons (S:=[]) (T:=[]) (YfY rfl) rfl (by decide) rfl (FrzP.cons (S:=[]) (T:=[]) (YfY rfl) rfl (by decide) rfl (FrzP.cons (S:=[]) (T:=[]) (YfY rfl) rfl (by decide) rfl (FrzP.nil))))))))))))))) rfl ?_
 intro g8
 refine Vn ?_
 refine Yg9 YfX (sz:=1) (z:=[LV.str { data:={ toList:=[] } }]) (es:=em nstr numsL) rfl rfl rfl rfl (by decide) (by decide) (by decide) (FrzP.cons (S:=[]) (T:=[]) (YfY rfl) rfl (by decide) rfl (FrzP.cons (S:=[]) (T:=[]) (YfY rfl) rfl (by decide) rfl (FrzP.cons (S:=[]) (T:=[]) (YfY rfl) rfl (by decide) rfl (FrzP.cons (S:=[]) (T:=[]) (YfY rfl) rfl (by decide) rfl (FrzP.cons (S:=[]) (T:=[]) (YfY rfl) rfl (by decide) rfl (FrzP.cons (S:=[]) (T:=[]) (YfY rfl) rfl (by decide) rfl (FrzP.cons (S:=[]) (T:=[]) (YfY rfl) rfl (by decide) rfl (FrzP.cons (S:=[]) (T:=[]) (YfY rfl) rfl (by decide) rfl (FrzP.cons (S:=[]) (T:=[]) (YfY rfl) rfl (by decide) rfl (FrzP.cons (S:=[]) (T:=[]) (YfY rfl) rfl (by decide) rfl (FrzP.cons (S:=[]) (T:=[]) (YfY rfl) rfl (by decide) rfl (FrzP.cons (S:=[]) (T:=[]) (YfY rfl) rfl (by decide) rfl (FrzP.cons (S:=[]) (T:=[]) (YfY rfl) rfl (by decide) rfl (FrzP.cons (S:=[]) (T:=[]) (YfY rfl) rfl (by decide) rfl (FrzP.nil))))))))))))))) rfl ?_
 intro g9
 refine VlA ?_
 refine Yg1 12 rfl (fun h12=>?_) (fun h12=>?_)
 rw[h12]
 replace h12:=of_decide_eq_true h12
 refine Vw0 ?_
 refine Vk8 ?_
 refine Vr5 ?_
 refine Vn7 ?_
 refine VtF ?_
 exact⟨(ByteArray.mk #[],ByteArray.mk #[],0),⟨by decide,by decide,.inl rfl⟩,rfl⟩
 rw[h12]
 replace h12:=of_decide_eq_false h12
 refine Vt5 ?_
 refine cD (fun h15=>?_) fun h15=>?_
 refine Vc ?_
 refine Vr5 ?_
 refine Vn7 ?_
 refine VtF ?_
 exact⟨(ByteArray.mk #[],ByteArray.mk #[],0),⟨by decide,by decide,.inl rfl⟩,rfl⟩
 refine Vh ?_
 have hw14:wordsL.length=14:=rfl
 have hn14:numsL.length=14:=rfl
 have hz1:=Y9e _ (Y02 (l:=wordsL) (j:=op.toNat) (by omega))
 have hz2:=Yay _ (Y02 (l:=numsL) (j:=op.toNat) (by omega))
 refine Vf ?_
 refine Ve0 ?_
 refine Va ?_
 refine VjE ?_
 refine Vf8 ?_
 refine Vr3 ?_
 refine Vk ?_
 refine cD (fun h21=>?_) fun h21=>?_
 refine Vf ?_
 refine Vj5 ?_
 refine Vg ?_
 refine VjE ?_
 refine Vf8 ?_
 refine Vg ?_
 refine VjE ?_
 refine Vf8 ?_
 refine Va ?_
 refine Vr5 ?_
 refine VyB ?_
 refine VtF ?_
 exact⟨(_,_,1),⟨hz1,hz2,.inr rfl⟩,rfl⟩
 refine Vh ?_
 refine Vq4 ?_
 refine VjE ?_
 refine Vf8 ?_
 refine Vg ?_
 refine VjE ?_
 refine Vf8 ?_
 refine Va ?_
 refine Vr5 ?_
 refine VyB ?_
 refine VtF ?_
 exact⟨(_,_,0),⟨hz1,hz2,.inl rfl⟩,rfl⟩
theorem YbQ (op:Int): CallsV Try.prog 83 [.int .i64 op] (.agg (kc (zeroC op))):=by
 refine Yg2 (Yga _) mix Try.func83 rfl rfl (by simp[Try.f83]) (by kernel_rfl) (nb:=0) ?_
 unfold Try.f83
 refine Vc ?_
 refine VuF ?_
 intro g2
 refine VlB ?_
 refine Ygt YfX (z:=[LV.int .i64 0,LV.int .i64 0,LV.int .i64 0,LV.int .i64 0,LV.int .i64 0,LV.int .i64 0,LV.int .i64 0,LV.int .i64 0]) (cs:=[_,_,_,_,_,_,_,_]) (n:=8) rfl rfl rfl (EvS.cons (by conv=>lhs;whnf) (EvS.cons (by conv=>lhs;whnf) (EvS.cons (by conv=>lhs;whnf) (EvS.nil)))) rfl rfl ?_
 refine VdH ?_
 refine Vd4 ?_
 refine⟨_,_,_,_,.cons (.cellA (n:=8) rfl rfl rfl (by simp) rfl rfl rfl (YdK rfl)) .nil,.frz (YfY rfl),Yec,by simp,rfl⟩
theorem Ydm (c:Cmd)(f n:Int): CallsV Try.prog 85 [.agg (kc c),.int .u8 f,.int .i64 n] (.agg (kc (putC c f n))):=by
 refine Yg2 (Yga _) mix Try.func85 rfl rfl (by simp[Try.f85]) (by kernel_rfl) (nb:=0) ?_
 unfold Try.f85
 refine Vc ?_
 refine ViE ?_
 intro g3
 refine VuF ?_
 intro g6
 refine Vk6 ?_
 refine Vp ?_
 refine Vs2 ?_
 refine Vr ?_
 refine cD (fun h10=>?_) fun h10=>?_
 refine Vl ?_
 refine Vb6 ?_
 refine VvC ?_
 refine Vx8 ?_
 refine Vc ?_
 refine VxA ?_
 refine Vd4 ?_
 refine VwC ?_
 show LV.agg _=LV.agg (kc (putC c f n))
 unfold putC
 repeat (first | rw[if_pos (by assumption)] | rw[if_neg (by assumption)])
 rfl
 refine Vr ?_
 refine cD (fun h14=>?_) fun h14=>?_
 refine Vl ?_
 refine Va6 ?_
 refine VvC ?_
 refine Vx8 ?_
 refine Vc ?_
 refine VxA ?_
 refine Vd4 ?_
 refine VwC ?_
 show LV.agg _=LV.agg (kc (putC c f n))
 unfold putC
 repeat (first | rw[if_pos (by assumption)] | rw[if_neg (by assumption)])
 rfl
 refine Vr ?_
 refine cD (fun h18=>?_) fun h18=>?_
 refine Vl ?_
 refine Ve3 ?_
 refine VvC ?_
 refine Vx8 ?_
 refine Vc ?_
 refine VxA ?_
 refine Vd4 ?_
 refine VwC ?_
 show LV.agg _=LV.agg (kc (putC c f n))
 unfold putC
 repeat (first | rw[if_pos (by assumption)] | rw[if_neg (by assumption)])
 rfl
 refine Vr ?_
 refine cD (fun h22=>?_) fun h22=>?_
 refine Vl ?_
 refine Vq9 ?_
 refine VvC ?_
 refine Vx8 ?_
 refine Vc ?_
 refine VxA ?_
 refine Vd4 ?_
 refine VwC ?_
 show LV.agg _=LV.agg (kc (putC c f n))
 unfold putC
 repeat (first | rw[if_pos (by assumption)] | rw[if_neg (by assumption)])
 rfl
 refine Vr ?_
 refine cD (fun h26=>?_) fun h26=>?_
 refine Vl ?_
 refine Vx4 ?_
 refine VvC ?_
 refine Vx8 ?_
 refine Vc ?_
 refine VxA ?_
 refine Vd4 ?_
 refine VwC ?_
 show LV.agg _=LV.agg (kc (putC c f n))
 unfold putC
 repeat (first | rw[if_pos (by assumption)] | rw[if_neg (by assumption)])
 rfl
 refine Vr ?_
 ·refine cD (fun h30=>?_) fun h30=>?_
  refine Vl ?_
  refine Va7 ?_
  rotate_left
  refine Vl ?_
  refine Vj6 ?_
  all_goals
   refine VvC ?_
   refine Vx8 ?_
   refine Vc ?_
   refine VxA ?_
   refine Vd4 ?_
   refine VwC ?_
   show LV.agg _=LV.agg (kc (putC c f n))
   unfold putC
   repeat (first | rw[if_pos (by assumption)] | rw[if_neg (by assumption)])
   rfl
theorem Ybg (s:ByteArray)(hs:s.size≤1000): CallsR Try.prog 58 [.str s] fun res=>∃ a:Cmd × Bool,(a.2=true→CmdP a.1∧(a.1.op=8→1≤a.1.budget∧a.1.budget≤20))∧res=.tup [.agg (kc a.1),.bool a.2]:=by
 refine Yg2 (Yga _) mix Try.func58 rfl rfl (by simp[Try.f58]) (by kernel_rfl) (nb:=0) ?_
 unfold Try.f58
 refine Vc ?_
 refine VuF ?_
 intro g2
 refine Vd0 ?_
 refine GL.callR YfX rfl (Frz.aggc (Frz.pure rfl) Frz.aggn) (Ybk s hs) rfl (fun _=>rfl) (fun _ _=>rfl) (fun l hl=>?_)
 obtain⟨hl1,hl2⟩:=hl
 refine VtB ?_
 refine Yg8 YfX (α:=Nat) (fun i st=>(1≤i∧i≤14)∧∃ m0,st=⟨(updS (updS (updS (fun _=>LV.undef) 2 (.ref 128 g2 0 0)) 4 (.sl (em nstr l))) 5 (.int .i64 (i:Int))),effM m0 [(128,⟨g2,false,.var,8,[kc ⟨0,0,0,0,0,0,0,0⟩]⟩)]⟩) (fun i=>14 - i) 1 ⟨_,lessA,⟨Ye2 _,by decide⟩,_,hasA⟩ ?_
 rintro i _ ⟨⟨hi1,hi2⟩,m0,rfl⟩
 refine Vg0 ?_
 refine Vm ?_
 refine Yg1 18 rfl (fun h18=>?_) (fun h18=>?_)
 rw[h18]
 replace h18:=of_decide_eq_true h18
 refine Vi ?_
 refine Vr0 ?_
 refine Vi1 ?_
 refine cD (fun h22=>?_) fun h22=>?_
 refine Vk2 ?_
 refine GL.callR YfX rfl (Frz.aggc (Frz.pure rfl) Frz.aggn) (Yd9 _) rfl (fun _=>rfl) (fun _ _=>rfl) (fun a ha=>?_)
 obtain⟨wd,nm,ls⟩:=a
 obtain⟨ha1,ha2,ha3⟩:=ha
 replace ha1:wd.size≤20:=ha1
 replace ha2:nm.size≤4:=ha2
 replace ha3:ls=0∨ls=1:=ha3
 dsimp only
 refine VkD ?_
 refine Vj4 ?_
 refine Vr5 ?_
 refine Ve0 ?_
 refine Vl7 ?_
 refine Va ?_
 refine Vm ?_
 refine Yg1 36 rfl (fun h36=>?_) (fun h36=>?_)
 rw[h36]
 refine Vz ?_
 refine VhG ?_
 refine Vf5 ?_
 refine Vx7 ?_
 refine Vw8 ?_
 refine⟨i+1,(by dsimp only;omega),_,lessA,⟨by omega,by omega⟩,_,hasA⟩
 rw[h36]
 refine Vi ?_
 refine Vr0 ?_
 refine Vb ?_
 refine Vi2 ?_
 refine Vi ?_
 refine Vr3 ?_
 refine Vo6 ?_
 refine Yg1 44 rfl (fun h44=>?_) (fun h44=>?_)
 rw[h44]
 replace h44:=of_decide_eq_true h44
 refine Vk0 ?_
 refine Vf5 ?_
 refine Vx7 ?_
 refine Vw8 ?_
 refine⟨i+1,(by dsimp only;omega),_,lessA,⟨by omega,by omega⟩,_,hasA⟩
 rw[h44]
 replace h44:=of_decide_eq_false h44
 refine Vi ?_
 refine Vr0 ?_
 refine Vb ?_
 refine Vi2 ?_
 refine Vi ?_
 refine Vr3 ?_
 refine Vi ?_
 refine Vi2 ?_
 refine Vi1 ?_
 refine cD (fun h53=>?_) fun h53=>?_
 refine Vx7 ?_
 refine Vw8 ?_
 refine⟨i+1,(by dsimp only;omega),_,lessA,⟨by omega,by omega⟩,_,hasA⟩
 refine Vu1 ?_
 refine Yg6 YfX rfl (Frz.aggc (by exact Frz.pure rfl) (Frz.aggn)) (YbQ _) rfl rfl (fun _=>rfl) ?_
 refine VuF ?_
 intro g9
 refine VdH ?_
 refine Vk6 ?_
 refine Ve ?_
 have hdl:(l.drop 1).length=l.length - 1:=Yez
 refine Vl ?_
 refine VqC ?_
 refine Vq ?_
 refine Yg8 YfX (α:=Nat × Cmd) (fun ⟨k,c⟩ st=>(k≤(l.drop 1).length∧CmdP c∧c.op=i)∧∃ m0,st=⟨(updS (updS (updS (updS (updS (updS (updS (updS (fun _=>LV.undef) 2 (.ref 128 g2 0 0)) 4 (.sl (em nstr l))) 5 (.int .i64 (i:Int))) 7 (.str nm)) 9 (.ref 576 g9 0 0)) 57 (.sl (em nstr (l.drop 1)))) 58 (.int .i64 ((l.drop 1).length:Int))) 59 (.int .i64 (k:Int))),effM m0 [(128,⟨g2,false,.var,8,[kc ⟨0,0,0,0,0,0,0,0⟩]⟩),(576,⟨g9,false,.var,8,[kc c]⟩)]⟩) (fun ⟨k,c⟩=>(l.drop 1).length - k) ⟨0,zeroC i⟩ ⟨_,lessA,⟨Ye1 _,YbZ (by omega),rfl⟩,_,hasA⟩ ?_
 rintro⟨k,c⟩ _ ⟨⟨hk,hc,hci⟩,m0,rfl⟩
 refine Vd ?_
 refine cD (fun h60=>?_) fun h60=>?_
 refine Vl5 ?_
 refine Vv9 ?_
 have hws:=hl2 _ (YeE (Y02 (l:=(l.drop 1)) (j:=k) (by omega)))
 refine Vl ?_
 refine GL.callR YfX rfl (Frz.aggc (Frz.pure rfl) Frz.aggn) (Ydt _ (by omega)) rfl (fun _=>rfl) (fun _ _=>rfl) (fun a _=>?_)
 obtain⟨n,ok⟩:=a
 dsimp only
 refine Vu2 ?_
 refine Ve0 ?_
 refine Vc3 ?_
 refine Yg1 71 rfl (fun h71=>?_) (fun h71=>?_)
 rw[h71]
 refine Vk7 ?_
 refine Vw0 ?_
 refine Vk8 ?_
 refine VgC ?_
 refine VfG ?_
 refine Vm5 ?_
 refine Vg8 ?_
 exact⟨(⟨0,0,0,0,0,0,0,0⟩,false),(fun h=>by cases h),rfl⟩
 rw[h71]
 refine Vn3 ?_
 refine Yg1 75 rfl (fun h75=>?_) (fun h75=>?_)
 rw[h75]
 replace h75:=of_decide_eq_true h75
 refine Vw0 ?_
 refine Vk8 ?_
 refine VgC ?_
 refine VfG ?_
 refine Vm5 ?_
 refine Vg8 ?_
 exact⟨(⟨0,0,0,0,0,0,0,0⟩,false),(fun h=>by cases h),rfl⟩
 rw[h75]
 replace h75:=of_decide_eq_false h75
 refine Vt5 ?_
 refine cD (fun h78=>?_) fun h78=>?_
 refine Vc ?_
 refine VgC ?_
 refine VfG ?_
 refine Vm5 ?_
 refine Vg8 ?_
 exact⟨(⟨0,0,0,0,0,0,0,0⟩,false),(fun h=>by cases h),rfl⟩
 refine Vl1 ?_
 refine Vi0 ?_
 refine VcM ?_
 refine Vg ?_
 refine Vi6 ?_
 refine Va ?_
 refine Yg6 YfX rfl (Frz.aggc (by exact YfY rfl) (Frz.aggc (by exact Frz.pure rfl) (Frz.aggc (by exact Frz.pure rfl) (Frz.aggn)))) (Ydm _ _ _) rfl rfl (fun _=>rfl) ?_
 refine VdH ?_
 refine Vs5 ?_
 refine⟨⟨k+1,_⟩,(by dsimp only;omega),_,(YfZ (YfV (YfV (YfV (YfV (YfV (YfV (YfV (YfV (Yg0 _) rfl) rfl) rfl) rfl) rfl) rfl) rfl) rfl) _),⟨by omega,YcP hc _ (by omega),(Ydn _ _ _).trans hci⟩,_,(congrArg (St.mk _) (Y01 (YfW rfl (YfW rfl Yg3))).symm)⟩
 refine VqA ?_
 refine Vm ?_
 refine Yg1 89 rfl (fun h89=>?_) (fun h89=>?_)
 rw[h89]
 replace h89:=of_decide_eq_true h89
 refine Vb ?_
 refine Vx4 ?_
 refine VeC ?_
 refine Yg1 93 rfl (fun h93=>?_) (fun h93=>?_)
 rw[h93]
 replace h93:=of_decide_eq_true h93
 refine Vn0 ?_
 refine Vf1 ?_
 refine Vk8 ?_
 refine VgC ?_
 refine Vp6 ?_
 refine Vg8 ?_
 exact⟨(⟨0,0,0,0,0,0,0,0⟩,false),(fun h=>by cases h),rfl⟩
 rw[h93]
 replace h93:=of_decide_eq_false h93
 refine Vb ?_
 refine Vx4 ?_
 refine Vy1 ?_
 refine VgA ?_
 refine cD (fun h98=>?_) fun h98=>?_
 refine Vc ?_
 refine VgC ?_
 refine Vp6 ?_
 refine Vg8 ?_
 exact⟨(⟨0,0,0,0,0,0,0,0⟩,false),(fun h=>by cases h),rfl⟩
 refine Vf0 ?_
 refine VxA ?_
 refine Va1 ?_
 refine Vm5 ?_
 refine Vg8 ?_
 exact⟨(c,true),(fun _=>⟨hc,fun h=>by have h:c.op=8:=h;show 1≤c.budget∧c.budget≤20;omega⟩),rfl⟩
 rw[h89]
 replace h89:=of_decide_eq_false h89
 refine Vk0 ?_
 refine Vc2 ?_
 refine Vf0 ?_
 refine VxA ?_
 refine Va1 ?_
 refine Vm5 ?_
 refine Vg8 ?_
 exact⟨(c,true),(fun _=>⟨hc,fun h=>by have h:c.op=8:=h;show 1≤c.budget∧c.budget≤20;omega⟩),rfl⟩
 refine Ve2 ?_
 refine VgC ?_
 refine Vb2 ?_
 refine Vg8 ?_
 exact⟨(⟨0,0,0,0,0,0,0,0⟩,false),(fun h=>by cases h),rfl⟩
 rw[h18]
 replace h18:=of_decide_eq_false h18
 refine Vn0 ?_
 refine Vc2 ?_
 refine Ve2 ?_
 refine VgC ?_
 refine Vb2 ?_
 refine Vg8 ?_
 exact⟨(⟨0,0,0,0,0,0,0,0⟩,false),(fun h=>by cases h),rfl⟩
def topE (E:List Entry): Entry:=E.getD (E.length - 1) default
def pushE (E:List Entry)(x:Entry): List Entry:=(E++[x]).drop (E.length+1 - 4)
def popE (E:List Entry): List Entry:=E.take (E.length - 1)
theorem Yam (E:List Entry)(hE:E.length≤10): CallsM Try.prog 92 [.ptro [.slo 5 (em ke E)]] (some 0) fun res q=>res=.tup [.agg (ke (topE E)),.bool (decide (0<E.length))]∧q=.ptro [.slo 5 (em ke E)]:=by
 refine Ygw (ls:=[.ref 500000000 0 0 0]) (e:=[(500000001,⟨0,false,.slc,5,em ke E⟩),(500000000,⟨0,false,.var,1,[[.own 500000001 0 0 E.length none]]⟩)]) (ju:=some (.ref 500000000 0 0 0)) (Yga _) mix Try.func92 rfl rfl (by simp[Try.f92]) (by kernel_rfl) (nb:=0) rfl (by simp[impAs,impT,impV,impC,impCs,impC0,impCs0,genAt,Y00,ke]) (fun k hk=>by cases hk;exact⟨_,rfl,rfl⟩) (fun h=>by cases h) ?_
 unfold Try.f92
 refine Vc ?_
 refine VeH ?_
 intro g2
 refine Ve0 ?_
 refine VhC ?_
 refine Vk ?_
 refine cD (fun h9=>?_) fun h9=>?_
 refine Vc ?_
 refine Ygt YfX (z:=[LV.nils,LV.nils,LV.nils,LV.nilm,LV.nilm]) (cs:=[_,_,_,_,_]) (n:=5) rfl rfl rfl (EvS.nil) rfl rfl ?_
 refine Vs3 ?_
 refine Va1 ?_
 refine VgN ?_
 refine⟨_,_,_,_,_,.cons (.cellA (n:=5) rfl rfl rfl (by simp) rfl rfl rfl (YdK rfl)) (.cons (.tmp rfl) .nil),.aggc (.tup (.aggc (.frz (Frz.aggc (by exact Frz.nils) (Frz.aggc (by exact Frz.nils) (Frz.aggc (by exact Frz.nils) (Frz.aggc (by exact Frz.nilm) (Frz.aggc (by exact Frz.nilm) Frz.aggn)))))) (.aggc (.frz (.pure rfl)) .aggn))) (.aggc (.ptro rfl rfl rfl rfl rfl (.aggc (.slo rfl rfl rfl rfl (by rw[Y00];omega)) .aggn)) .aggn),by simp,by simp,?_⟩
 (have hn:E=[]:=Yeo (by omega);subst hn;exact⟨rfl,rfl⟩)
 refine Vh ?_
 refine Vi0 ?_
 refine Va ?_
 refine VsE ?_
 refine Va ?_
 refine VhC ?_
 refine Vi2 ?_
 refine Ygl YfX (sz:=5) (j:=E.length - 1) rfl rfl rfl rfl rfl rfl rfl rfl (by omega) (by omega) (by omega) ?_
 refine Ygn YfX (n:=5) rfl rfl rfl rfl (by simp) (by exact Y08 (by omega)) rfl rfl ?_
 refine Vs3 ?_
 refine VwH ?_
 refine Vh6 ?_
 refine⟨_,_,_,_,_,.cons (.cellA (n:=5) rfl rfl rfl (by simp) rfl rfl rfl (YdK rfl)) (.cons (.tmp rfl) .nil),.aggc (.tup (.aggc (.frz (Frz.aggc (by exact Frz.pure rfl) (Frz.aggc (by exact Frz.pure rfl) (Frz.aggc (by exact Frz.pure rfl) (Frz.aggc (by exact Frz.pure rfl) (Frz.aggc (by exact Frz.pure rfl) Frz.aggn)))))) (.aggc (.frz (.pure rfl)) .aggn))) (.aggc (.ptro rfl rfl rfl rfl rfl (.aggc (.slo rfl rfl rfl rfl (by rw[Y00];omega)) .aggn)) .aggn),by simp,by simp,?_⟩
 exact⟨by rw[decide_eq_true (by omega)];rfl,rfl⟩
theorem Y1J (E:List Entry)(hE:E.length≤10)(x:Entry): CallsM Try.prog 104 [.ptro [.slo 5 (em ke E)],.agg (ke x)] (some 0) fun res q=>res=.tup []∧q=.ptro [.slo 5 (em ke (pushE E x))]:=by
 refine Ygw (ls:=[.ref 500000000 0 0 0,.agg (ke x)]) (e:=[(500000001,⟨0,false,.slc,5,em ke E⟩),(500000000,⟨0,false,.var,1,[[.own 500000001 0 0 E.length none]]⟩)]) (ju:=some (.ref 500000000 0 0 0)) (Yga _) mix Try.func104 rfl rfl (by simp[Try.f104]) (by kernel_rfl) (nb:=0) rfl (by simp[impAs,impT,impV,impC,impCs,impC0,impCs0,genAt,Y00,ke]) (fun k hk=>by cases hk;exact⟨_,rfl,rfl⟩) (fun h=>by cases h) ?_
 unfold Try.f104
 refine Vc ?_
 refine GL.box YfX (by conv=>lhs;whnf) rfl (n:=5) rfl rfl ?_
 intro g3
 refine Vk6 ?_
 refine Vq4 ?_
 refine VsE ?_
 refine Va ?_
 refine VhC ?_
 refine Va ?_
 refine VhC ?_
 refine GL.capO YfX (sz:=5) rfl rfl rfl rfl rfl rfl rfl rfl rfl (by show _≤(em _ _).length;rw[Y00];omega) ?_
 refine VfH ?_
 refine Yg9 YfX (sz:=5) (z:=[LV.nils,LV.nils,LV.nils,LV.nilm,LV.nilm]) (es:=em ke [x]) rfl rfl rfl rfl (by decide) (by decide) (by decide) (FrzP.cons (S:=[]) (T:=[]) (YfY rfl) rfl (by decide) rfl (FrzP.nil)) rfl ?_
 intro g21
 refine GL.appC YfX (f:=ke) (l:=E) (l2:=[x]) (l3:=E++[x]) (sz:=5) (z:=[.nils,.nils,.nils,.nilm,.nilm]) rfl rfl rfl rfl rfl (by decide) (YdK rfl) rfl rfl rfl rfl rfl rfl (Ye2 _) rfl rfl rfl rfl rfl rfl rfl (by rw[Yfw]) (by decide) (by omega) ?_
 intro gc
 refine Vb5 ?_
 refine Vs0 ?_
 refine VgH ?_
 refine Vx0 ?_
 refine Vq4 ?_
 refine VsE ?_
 refine Va ?_
 refine VhC ?_
 refine GL.subR YfX rfl rfl (by rw[YdN,Yer];omega) ?_
 refine GL.max YfX rfl ?_
 refine YgE YfX (sz:=5) (j:=E.length+1 - 4) (len':=(E++[x]).length - (E.length+1 - 4)) rfl rfl rfl rfl rfl rfl rfl rfl (by simp only[YdN,Yer];split <;> omega) (by simp only[YdN,Yer];split <;> omega) (by show _≤(em _ _).length;rw[Y00];omega) (by simp only[YdN,Yer];split <;> omega) (by simp only[YdN,Yer];split <;> omega) ?_
 refine Vb5 ?_
 refine Vs0 ?_
 refine VgH ?_
 refine Vp0 ?_
 refine RetJX.normal ?_
 refine⟨_,_,_,_,_,.nil,.aggc (.tup .aggn) (.aggc (.ptro rfl rfl rfl rfl rfl (.aggc (.slo rfl rfl rfl rfl (by rw[Y00,YdN,Yer];omega)) .aggn)) .aggn),by simp,by simp,?_⟩
 exact⟨rfl,by show LV.ptro [.slo 5 ((em ke (E++[x])).drop _)]=_;rw[pushE,em,em,List.map_drop]⟩
theorem Ybx {m:Mem}{b g:Nat}{x:Box}{es:List (List LV)}(hm:m b=some x)(hg:x.gen=g)(hk:x.kind=.mp)(hn:x.sz=2)(he:x.es=es): Frz m (.mref b g) (.fmap es) [b]:=by
 subst he
 exact .mref hm hg hk hn
theorem Yd4 {α:Type}(f:α→List LV)(l:List α)(n:Nat): (em f l).take n=em f (l.take n):=by simp[em,List.map_take]
theorem Y5f (E:List Entry)(hE:E.length≤10): CallsM Try.prog 102 [.ptro [.slo 5 (em ke E)]] (some 0) fun res q=>res=.tup [.agg (ke (topE E)),.bool (decide (0<E.length))]∧q=.ptro [.slo 5 (em ke (popE E))]:=by
 refine Ygw (ls:=[.ref 500000000 0 0 0]) (e:=[(500000001,⟨0,false,.slc,5,em ke E⟩),(500000000,⟨0,false,.var,1,[[.own 500000001 0 0 E.length none]]⟩)]) (ju:=some (.ref 500000000 0 0 0)) (Yga _) mix Try.func102 rfl rfl (by simp[Try.f102]) (by kernel_rfl) (nb:=0) rfl (by simp[impAs,impT,impV,impC,impCs,impC0,impCs0,genAt,Y00,ke]) (fun k hk=>by cases hk;exact⟨_,rfl,rfl⟩) (fun h=>by cases h) ?_
 unfold Try.f102
 refine Ve ?_
 have hel:(em ke E).length=E.length:=Y00 _ _
 refine Vf ?_
 refine VeH ?_
 intro g2
 refine Vd0 ?_
 refine Ygh YfX (args:=[.ptro [.slo 5 (em ke E)]]) (T:=[]) (M:=[500000000,500000001]) (u:=.ref 500000000 0 0 0) rfl (by exact .aggc (S:=[]) (T:=[]) (M:=[500000000,500000001]) (N:=[]) (.ptro (M:=[500000001]) rfl rfl rfl rfl rfl (.aggc (S:=[]) (T:=[]) (M:=[500000001]) (N:=[]) (Yg4 rfl rfl rfl rfl rfl rfl (Y00 _ _).symm) .aggn)) (.frz Frz.aggn)) (by decide) (by simp) (Yam E hE) rfl rfl (fun res q hr=>?_)
 obtain⟨rfl,rfl⟩:=hr
 refine Va9 ?_
 intro g4
 refine Vs3 ?_
 refine Ve0 ?_
 refine Vj0 ?_
 refine cD (fun h11=>?_) fun h11=>?_
 refine Vq4 ?_
 refine VsE ?_
 refine Va ?_
 refine VhC ?_
 refine Vi2 ?_
 refine GL.sliceToO YfX (sz:=5) (j:=E.length - 1) rfl rfl rfl rfl rfl rfl rfl rfl (by omega) (by omega) (by show 0+(em ke E).length≤(em ke E).length;omega) (by omega) ?_
 refine Vb5 ?_
 refine Vs0 ?_
 refine VgH ?_
 refine Vp0 ?_
 refine goWeak (Weak.cutCell (q:=500000000) (b:=1002097152) (c:=0) (len:=E.length - 1) rfl rfl rfl rfl rfl rfl rfl rfl rfl (by show 0+(E.length - 1)≤(em ke E).length;omega) rfl) ?_
 refine Vc ?_
 refine VfH ?_
 refine Va ?_
 refine Vs3 ?_
 refine Va1 ?_
 refine Vh6 ?_
 refine⟨_,_,_,_,_,.cons (.cellA (n:=5) rfl rfl rfl (by simp) rfl rfl rfl (YdK rfl)) (.cons (.tmp rfl) .nil),.aggc (.tup (.aggc (.frz (Frz.aggc (by exact Frz.pure rfl) (Frz.aggc (by exact Frz.pure rfl) (Frz.aggc (by exact Frz.pure rfl) (Frz.aggc (by exact Frz.pure rfl) (Frz.aggc (by exact Frz.pure rfl) Frz.aggn)))))) (.aggc (.frz (.pure rfl)) .aggn))) (.aggc (.ptro rfl rfl rfl rfl rfl (.aggc (.slo rfl rfl rfl rfl (by (rw[YdZ,Yek,hel];omega))) .aggn)) .aggn),(by (simp;done)),(by simp),?_⟩
 exact⟨rfl,by show LV.ptro [.slo 5 ((em ke E).take (0+(E.length - 1)))]=_;rw[YdZ,Yd4];rfl⟩
 refine Vf0 ?_
 refine VfH ?_
 refine Va ?_
 refine Vs3 ?_
 refine Va1 ?_
 refine Vh6 ?_
 refine⟨_,_,_,_,_,.cons (.cellA (n:=5) rfl rfl rfl (by simp) rfl rfl rfl (YdK rfl)) (.cons (.tmp rfl) .nil),.aggc (.tup (.aggc (.frz (Frz.aggc (by exact Frz.pure rfl) (Frz.aggc (by exact Frz.pure rfl) (Frz.aggc (by exact Frz.pure rfl) (Frz.aggc (by exact Frz.pure rfl) (Frz.aggc (by exact Frz.pure rfl) Frz.aggn)))))) (.aggc (.frz (.pure rfl)) .aggn))) (.aggc (.ptro rfl rfl rfl rfl rfl (.aggc (.slo rfl rfl rfl rfl (by (rw[Y00,YdZ];done))) .aggn)) .aggn),(by decide),(by simp),?_⟩
 (have hn:E=[]:=Yeo (by omega);subst hn;exact⟨rfl,rfl⟩)
theorem YdE {E:List Entry}{k:Nat}{x:Entry}(h:k<E.length)(hx:x.d=(E.getD k default).d): (E.set k x).map (·.d)=E.map (·.d):=by
 rw[List.map_set]
 refine List.ext_getElem? fun j=>?_
 by_cases e:k=j
 subst e
 rw[YeH (by rw[Ye4];exact h),YeY,YdO h,hx,Ye9,YdO h]
 rfl
 rw[YeF e]
theorem Y2j (E:List Entry)(hE:E.length≤10)(a b:List (SKey × Int)): CallsM Try.prog 103 [.ptro [.slo 5 (em ke E)],.fmap (em kv a),.fmap (em kv b)] (some 0) fun res q=>∃ E':List Entry,E'.map (·.d)=E.map (·.d)∧res=.tup []∧q=.ptro [.slo 5 (em ke E')]:=by
 refine Ygw (ls:=[.ref 500000000 0 0 0,.fmap (em kv a),.fmap (em kv b)]) (e:=[(500000001,⟨0,false,.slc,5,em ke E⟩),(500000000,⟨0,false,.var,1,[[.own 500000001 0 0 E.length none]]⟩)]) (ju:=some (.ref 500000000 0 0 0)) (Yga _) mix Try.func103 rfl rfl (by simp[Try.f103]) (by kernel_rfl) (nb:=0) rfl (by simp[impAs,impT,impV,impC,impCs,impC0,impCs0,genAt,Y00,ke]) (fun k hk=>by cases hk;exact⟨_,rfl,rfl⟩) (fun h=>by cases h) ?_
 unfold Try.f103
 refine Vp ?_
 refine VhC ?_
 refine Vj7 ?_
 refine Yg8 YfX (α:=Nat × List Entry) (fun ⟨k,E'⟩ st=>(k≤E.length∧E'.length=E.length∧E'.map (·.d)=E.map (·.d))∧∃ m0,st=⟨(updS (updS (updS (updS (updS (updS (fun _=>LV.undef) 0 (.ref 500000000 0 0 0)) 1 (.fmap (em kv a))) 2 (.fmap (em kv b))) 18 (.own 500000001 0 0 E.length none)) 19 (.int .i64 (E.length:Int))) 20 (.int .i64 (k:Int))),effM m0 [(500000000,⟨0,false,.var,1,[[.own 500000001 0 0 E.length none]]⟩),(500000001,⟨0,false,.slc,5,em ke E'⟩)]⟩) (fun ⟨k,E'⟩=>E.length - k) ⟨0,E⟩ ⟨_,lessA,⟨Ye1 _,rfl,rfl⟩,_,hasA⟩ ?_
 rintro⟨k,E'⟩ _ ⟨⟨hk,hl,hd⟩,m0,rfl⟩
 refine Vd ?_
 refine cD (fun h21=>?_) fun h21=>?_
 refine Vk2 ?_
 refine VdM ?_
 refine Ygn YfX (n:=5) rfl rfl rfl rfl (by simp) (by exact Y08 (by omega)) rfl rfl ?_
 refine VeH ?_
 intro g7
 refine Vt ?_
 refine Vs3 ?_
 refine Va4 ?_
 refine Vv1 ?_
 intro g25
 refine Vb0 ?_
 refine Vq9 ?_
 refine VcB ?_
 refine GL.range YfX (T:=[]) rfl (.pure rfl) rfl ?_
 intro g28
 refine Vs2 ?_
 refine Yg8 YfX (α:=List LV × List (SKey × Int) × List (SKey × Int)) (fun ⟨h,R,V⟩ st=>(True)∧∃ m0,st=⟨(updS (updS (updS (updS (updS (updS (updS (updS (updS (updS (fun _=>LV.undef) 0 (.ref 500000000 0 0 0)) 1 (.fmap (em kv a))) 2 (.fmap (em kv b))) 18 (.own 500000001 0 0 E.length none)) 19 (.int .i64 (E.length:Int))) 20 (.int .i64 (k:Int))) 6 (.int .i64 (k:Int))) 7 (.ref 448 g7 0 0)) 8 (.mref 1600 g25)) 28 (.mref 1792 g28)),effM m0 [(500000000,⟨0,false,.var,1,[[.own 500000001 0 0 E.length none]]⟩),(500000001,⟨0,false,.slc,5,em ke E'⟩),(448,⟨g7,false,.var,5,[ke (E'.getD k default)]⟩),(1600,⟨g25,false,.mp,2,em kv V⟩),(1792,⟨g28,false,.mp,3,h::em kv R⟩)]⟩) (fun ⟨h,R,V⟩=>R.length) ⟨_,(E'.getD k default).view,[]⟩ ⟨_,(YfZ (YfV (YfV (YfV (YfV (YfV (YfV (YfV (YfV (YfV (YfV (Yg0 _) rfl) rfl) rfl) rfl) rfl) rfl) rfl) rfl) rfl) rfl) _),trivial,_,(congrArg (St.mk _) (Y01 (YfW rfl (YfW rfl (YfW rfl (YfW rfl (YfW rfl Yg3)))))).symm)⟩ ?_
 rintro⟨h,R,V⟩ _ ⟨-,m0,rfl⟩
 refine Ve ?_
 rcases Yfm R.length with hz | hz
 refine Vf ?_
 obtain rfl:=Yeo hz
 refine GL.next YfX rfl rfl rfl rfl rfl rfl rfl (fun _=>?_) (fun jm k v hj=>absurd hj (by simp[em]))
 refine Vj4 ?_
 refine Vk6 ?_
 refine Vw1 ?_
 refine Vw9 ?_
 refine Vl ?_
 refine VsE ?_
 refine Vg ?_
 refine VdM ?_
 refine Vq9 ?_
 refine GL.storeM (n:=1) (vs:=[.fmap (em kv V)]) (T:=[1600]) rfl rfl rfl rfl rfl rfl (Y08 (by omega)) (by exact Frz.aggc (S:=[1600]) (T:=[]) (Ybx rfl rfl rfl rfl rfl) Frz.aggn) (by decide) rfl rfl (YdK rfl) rfl (Y0M ke _ _ (Entry.mk (E'.getD k default).d (E'.getD k default).pre V)) rfl ?_
 refine Vi3 ?_
 refine⟨⟨k+1,E'.set k (Entry.mk (E'.getD k default).d (E'.getD k default).pre V)⟩,(by dsimp only;omega),_,lessA,⟨by omega,by rw[YdQ];exact hl,(YdE (E:=E') (k:=k) (x:=Entry.mk (E'.getD k default).d (E'.getD k default).pre V) (by omega) rfl).trans hd⟩,_,hasA⟩
 refine Vf ?_
 refine GL.next YfX rfl rfl rfl rfl rfl rfl rfl (fun h0=>(YaB hz h0).elim) (fun jm k v hj=>?_)
 obtain⟨n,hR,rfl,rfl⟩:=Ydl hj
 rw[Y2d]
 have hel:=Y1U hR
 refine Vj4 ?_
 refine Vu6 ?_
 refine Vo0 ?_
 refine Vc ?_
 refine VcE ?_
 refine Vj8 ?_
 refine VjG ?_
 intro g9
 refine Vc6 ?_
 refine Vd0 ?_
 refine Vd7 ?_
 refine GL.lookKV YfX (k:=n.1) rfl Y6n rfl rfl rfl ?_
 refine VjA ?_
 refine Vd7 ?_
 refine GL.lookKV YfX (k:=n.1) rfl Y6n rfl rfl rfl ?_
 refine Vu2 ?_
 refine Ve0 ?_
 refine Va ?_
 refine Yg1 47 rfl (fun h47=>?_) (fun h47=>?_)
 rw[h47]
 refine Vl6 ?_
 refine Vs1 ?_
 refine Yg1 50 rfl (fun h50=>?_) (fun h50=>?_)
 rw[h50]
 refine Vl6 ?_
 refine Vt5 ?_
 ·refine cD (fun h54=>?_) fun h54=>?_
  refine Vl ?_
  refine Va0 ?_
  rotate_left
  refine Vh0 ?_
  all_goals
   refine VqD ?_
   refine Vl ?_
   refine Vd7 ?_
   refine Va ?_
   refine VhH ?_
   refine VsA ?_
   refine⟨⟨_,R.eraseIdx jm,_⟩,(by dsimp only;omega),_,(YfZ (YfV (YfV (YfV (YfV (YfV (YfV (YfV (YfV (YfV (YfV (Yg0 _) rfl) rfl) rfl) rfl) rfl) rfl) rfl) rfl) rfl) rfl) _),trivial,_,(congrArg (St.mk _) (Y01 (YfW rfl (YfW rfl (YfW rfl (YfW rfl (YfW rfl Yg3)))))).symm)⟩
 rw[h50]
 refine Vn0 ?_
 refine Vc2 ?_
 refine VkA ?_
 refine Vd7 ?_
 refine Va ?_
 refine VhH ?_
 refine VsA ?_
 refine⟨⟨_,R.eraseIdx jm,_⟩,(by dsimp only;omega),_,(YfZ (YfV (YfV (YfV (YfV (YfV (YfV (YfV (YfV (YfV (YfV (Yg0 _) rfl) rfl) rfl) rfl) rfl) rfl) rfl) rfl) rfl) rfl) _),trivial,_,(congrArg (St.mk _) (Y01 (YfW rfl (YfW rfl (YfW rfl (YfW rfl (YfW rfl Yg3)))))).symm)⟩
 rw[h47]
 refine VuE ?_
 refine Vs1 ?_
 refine Vn0 ?_
 refine Vc2 ?_
 refine VkA ?_
 refine Vd7 ?_
 refine Va ?_
 refine VhH ?_
 refine VsA ?_
 refine⟨⟨_,R.eraseIdx jm,_⟩,(by dsimp only;omega),_,(YfZ (YfV (YfV (YfV (YfV (YfV (YfV (YfV (YfV (YfV (YfV (Yg0 _) rfl) rfl) rfl) rfl) rfl) rfl) rfl) rfl) rfl) rfl) _),trivial,_,(congrArg (St.mk _) (Y01 (YfW rfl (YfW rfl (YfW rfl (YfW rfl (YfW rfl Yg3)))))).symm)⟩
 refine Vi7 ?_
 refine RetJX.normal ?_
 refine⟨_,_,_,_,_,.nil,.aggc (.tup .aggn) (.aggc (.ptro rfl rfl rfl rfl rfl (.aggc (.slo rfl rfl rfl rfl (by rw[Y00];omega)) .aggn)) .aggn),by simp,by simp,?_⟩
 exact⟨E',hd,rfl,rfl⟩
def noS (e:Int): ByteArray:=if e<1∨17≤e then ByteArray.mk #[110,111,32,119,104,97,116] else ByteArray.mk #[110,111,32]++whyL.getD e.toNat default
theorem Ya0 (I:Inst): ∀ (ts:List Turn) (a:Int × Int),In a.1∧In a.2→In (ts.foldl (gain1 I) a).1∧In (ts.foldl (gain1 I) a).2
 | [],_,h=>h
 | t::r,a,h=>Ya0 I r _ ⟨Y5K _ _,Y5K _ _⟩
theorem Y5L (I:Inst)(d:Delta): In (gainR I d).1∧In (gainR I d).2:=Ya0 I d.turns (0,0) (by unfold In;decide)
theorem Y8a (I:Inst): ∀ (R:List (List Int)) (a:Int),In a→In (R.foldl (fun s r=>wadd s (cost I r)) a)
 | [],_,h=>h
 | t::r,a,h=>Y8a I r _ (Y5K _ _)
theorem YbU (I:Inst)(R:List (List Int)): In (costP I R):=Y8a I R 0 (by unfold In;decide)
theorem Yc3 {R:List (List Int)}{n:Nat}(hn:n≤1000000): ∀ x∈unassL R n,In x:=by
 intro x hx
 unfold unassL at hx
 obtain⟨k,hk,rfl⟩:=Ye8.1 hx
 have:=List.mem_range'_1.1 (YeL.1 hk).1
 unfold In
 omega
theorem Ydz (m:Mem)(d:Nat)(I:Inst)(p q:Plan)(who x:Int)(cars:List Int): impT m d (.ptro (bc I p q who x cars))=(.ref d (genAt m d) 0 0,[(d,⟨genAt m d,false,.var,21,[bc I p q who x cars]⟩)]):=by
 simp[bc,ic,kp,impT,impCs,impC]
theorem Y9B {x:Int}{n:Nat}(h:(!(decide (0≤x) && decide (x<(n:Int))))=false): 0≤x∧x<n:=by simpa using h
theorem car1 {x:Int}{n:Nat}(h:0≤x∧x<n): ∀ y∈[x],0≤y∧y<(n:Int):=fun y hy=>by rw[Yej.1 hy];exact h
theorem car2 {x z:Int}{n:Nat}(h:0≤x∧x<n)(hz:0≤z∧z<n): ∀ y∈[x,z],0≤y∧y<(n:Int):=fun y hy=>by
 rcases Yep.1 hy with rfl | hy
 exact h
 rw[Yej.1 hy];exact hz
theorem Y9s {p:Plan}{L:List (Int × List Int)}{t:Turn}{n:Nat}(h:∀ r∈p.routes,r.length≤n)(ht:t∈(turnedD p L).turns): t.before.length≤n:=by
 obtain⟨k,g1,g2,g3,g4,-⟩:=Y0v.1 ht
 rw[g3]
 exact h _ (Y02 g1)
theorem Ybv {p q:Plan}{cars:List Int}{t:Turn}{n:Nat}(h:∀ r∈q.routes,r.length≤n)(hc:∀ c∈cars,0≤c∧c<q.routes.length)(ht:t∈(turnedD p (delL q cars)).turns): t.after.length≤n:=by
 obtain⟨k,g1,g2,g3,g4,-⟩:=Y0v.1 ht
 exact Y71 h hc _ (Y0P g4)
theorem Y9G {E:List Entry}(h:0<E.length): topE E∈E:=Y02 (by omega)
theorem YdI (e:Int): CallsV Try.prog 57 [.int .i64 e] (.str (noS e)):=by
 refine Yg2 (Yga _) mix Try.func57 rfl rfl (by simp[Try.f57]) (by kernel_rfl) (nb:=0) ?_
 unfold Try.f57
 refine Ve ?_
 have hwl:whyL.length=17:=rfl
 refine Vf ?_
 refine VlA ?_
 refine Yg1 5 rfl (fun h5=>?_) (fun h5=>?_)
 rw[h5]
 replace h5:=of_decide_eq_true h5
 refine Vz ?_
 refine Vn6 ?_
 refine Vg5 ?_
 show LV.str _=LV.str (noS e)
 congr 1
 unfold noS
 (rw[if_pos (show e<1∨17≤e by omega)])
 rw[h5]
 replace h5:=of_decide_eq_false h5
 refine Vi ?_
 refine VsF ?_
 refine VrB ?_
 refine cD (fun h10=>?_) fun h10=>?_
 refine Vw2 ?_
 show LV.str _=LV.str (noS e)
 congr 1
 unfold noS
 (rw[if_pos (show e<1∨17≤e by omega)])
 refine Vh ?_
 have hz:=Yc2 _ (Y02 (l:=whyL) (j:=e.toNat) (by omega))
 refine Vf ?_
 refine VsF ?_
 refine Vn4 ?_
 refine GL.addStr YfX rfl rfl (by show 3+(whyL.getD e.toNat default).size≤_;omega) ?_
 refine Vq1 ?_
 show LV.str _=LV.str (noS e)
 congr 1
 unfold noS
 (rw[if_neg (show ¬ (e<1∨17≤e) by omega)])
theorem Ydf (I:Inst)(N:Nat)(hb:Sb I N)(hqI:Sp I)(hs:I.Short)(hcI:checkB I=true)(p:Plan)(hp:GoodP I p)(who:Int)(hw:0≤who∧who≤5)(c:Cmd)(hc:CmdP c)(hbu:c.op=8→1≤c.budget∧c.budget≤20)(h9:c.op≠9)(h10:c.op≠10): CallsR Try.prog 59 [ei I,.agg (kp p),.int .i64 who,.agg (kc c),.undef,.undef] fun res=>∃ a:Delta × ByteArray,GoodD I a.1∧res=.tup [.agg (kd a.1),.str a.2]:=by
 refine Yg2 (Yga _) mix Try.func59 rfl rfl (by simp[Try.f59]) (by kernel_rfl) (nb:=0) ?_
 unfold Try.f59
 refine Ve ?_
 have hpo:=hp.okP hcI
 have h20:=hp.h20 hcI
 have hr100:=hp.r100 hcI
 have hr1000:∀ r∈p.routes,r.length≤1000:=fun r hr=>Ye5 (hr100 r hr) (by decide)
 have hst:=Y0V hcI
 have hsv:=hp.wf.sv
 have hul:=Y4o p.routes p.sv.length
 have hc1:=hc.op
 have hc2:=hc.car
 refine Vy3 ?_
 intro g6
 refine Vo ?_
 intro g7
 refine ViE ?_
 intro g9
 refine Vz0 ?_
 intro g12
 refine Vn ?_
 refine VfE ?_
 refine Vz0 ?_
 intro g14
 refine Vy7 ?_
 refine Vc0 ?_
 refine Vs2 ?_
 refine Vr ?_
 refine cD (fun h29=>?_) fun h29=>?_
 refine Vc ?_
 refine Vl0 ?_
 refine Yg9 YfX (sz:=1) (z:=[LV.int .i64 0]) (es:=em ni [c.car]) rfl rfl rfl rfl (by decide) (by decide) (by decide) (FrzP.cons (S:=[]) (T:=[]) (Frz.aggc (S:=[]) (T:=[]) (Frz.pure rfl) Frz.aggn) rfl (by decide) rfl (FrzP.nil)) rfl ?_
 intro g33
 refine Vb0 ?_
 refine Vj6 ?_
 refine Vh2 ?_
 refine Vk ?_
 refine cD (fun h36=>?_) fun h36=>?_
 refine Vl ?_
 refine Vj6 ?_
 refine Vh2 ?_
 refine Yg9 YfX (sz:=1) (z:=[LV.int .i64 0]) (es:=em ni [c.other]) rfl rfl rfl rfl (by decide) (by decide) (by decide) (FrzP.cons (S:=[]) (T:=[]) (Frz.aggc (S:=[]) (T:=[]) (Frz.pure rfl) Frz.aggn) rfl (by decide) rfl (FrzP.nil)) rfl ?_
 intro g40
 refine Ygj YfX (f:=ni) (v:=c.other) (sz:=1) (z:=[.int .i64 0]) rfl rfl rfl rfl rfl (by decide) (YdK rfl) rfl rfl rfl rfl rfl rfl rfl rfl rfl rfl rfl rfl rfl rfl rfl rfl (by decide) ?_
 refine Vy ?_
 refine Ygk YfX (fun st=>∃ cars:List Int,(cars.length≤2∧∀ y∈cars,0≤y∧y<p.routes.length)∧∃ m0,st=⟨(updS (updS (updS (updS (updS (updS (updS (fun _=>LV.undef) 2 (.int .i64 who)) 6 (.ref 384 g6 0 0)) 7 (.ref 448 g7 0 0)) 9 (.ref 576 g9 0 0)) 12 (.ref 768 g12 0 0)) 14 (.ref 896 g14 0 0)) 15 (.sl (em ni cars))),effM m0 [(384,⟨g6,false,.var,4,[ic I]⟩),(448,⟨g7,false,.var,7,[kp p]⟩),(576,⟨g9,false,.var,8,[kc c]⟩),(768,⟨g12,false,.var,3,[[.nils,.nils,.nils]]⟩),(896,⟨g14,false,.var,3,[[.nils,.nils,.nils]]⟩)]⟩) ?_ ?_
 refine Vc ?_
 refine Vg1 ?_
 refine Vl0 ?_
 refine VkE ?_
 refine Vc3 ?_
 refine Yg1 47 rfl (fun h47=>?_) (fun h47=>?_)
 rw[h47]
 refine Vk0 ?_
 refine Vk7 ?_
 refine Vu0 ?_
 refine VyA ?_
 refine VvF ?_
 refine Vp2 ?_
 refine VzA ?_
 exact⟨(⟨[],[],[]⟩,_),Y06,rfl⟩
 rw[h47]
 refine Vb ?_
 refine Vj6 ?_
 refine VeC ?_
 refine Yg1 51 rfl (fun h51=>?_) (fun h51=>?_)
 rw[h51]
 replace h51:=of_decide_eq_true h51
 refine Vb ?_
 refine Vg1 ?_
 refine Vb ?_
 refine Vj6 ?_
 refine Vz1 ?_
 refine VkE ?_
 refine Vl3 ?_
 refine Vf1 ?_
 refine Vs1 ?_
 refine Yg1 59 rfl (fun h59=>?_) (fun h59=>?_)
 rw[h59]
 refine Vu0 ?_
 refine VyA ?_
 refine VvF ?_
 refine Vp2 ?_
 refine VzA ?_
 exact⟨(⟨[],[],[]⟩,_),Y06,rfl⟩
 rw[h59]
 refine Vn5 ?_
 refine Vj6 ?_
 refine Vy1 ?_
 refine Vh1 ?_
 refine VyA ?_
 refine VvF ?_
 refine cD (fun h65=>?_) fun h65=>?_
 refine VzA ?_
 exact⟨(⟨[],[],[]⟩,_),Y06,rfl⟩
 refine Vh0 ?_
 refine⟨_,(YfZ (YfV (YfV (YfV (YfV (YfV (YfV (YfV (Yg0 _) rfl) rfl) rfl) rfl) rfl) rfl) rfl) _),_,⟨(YdK rfl),car2 (Y9B h47) (by exact Y9B h59)⟩,_,(congrArg (St.mk _) (Y01 (YfW rfl (YfW rfl (YfW rfl (YfW rfl (YfW rfl Yg3)))))).symm)⟩
 rw[h51]
 replace h51:=of_decide_eq_false h51
 refine Vu0 ?_
 refine Vf1 ?_
 refine Vs1 ?_
 refine Vn5 ?_
 refine Vj6 ?_
 refine Vy1 ?_
 refine Vh1 ?_
 refine VyA ?_
 refine VvF ?_
 refine cD (fun h65=>?_) fun h65=>?_
 refine VzA ?_
 exact⟨(⟨[],[],[]⟩,_),Y06,rfl⟩
 refine Vh0 ?_
 refine⟨_,(YfZ (YfV (YfV (YfV (YfV (YfV (YfV (YfV (Yg0 _) rfl) rfl) rfl) rfl) rfl) rfl) rfl) _),_,⟨(YdK rfl),car2 (Y9B h47) (by omega)⟩,_,(congrArg (St.mk _) (Y01 (YfW rfl (YfW rfl (YfW rfl (YfW rfl (YfW rfl Yg3)))))).symm)⟩
 rintro _ ⟨cars,⟨hcl,hcars⟩,m0,rfl⟩
 refine Vc ?_
 refine Vt0 ?_
 refine Vx9 ?_
 refine Va7 ?_
 refine Vh2 ?_
 refine VdB ?_
 refine Va ?_
 refine VeM ?_
 generalize genAt _ _=g75
 refine VtB ?_
 refine VfM ?_
 rintro⟨k,q,x⟩ _ ⟨⟨hk,hq⟩,m0,rfl⟩
 have hcq:∀ y∈cars,0≤y∧y<q.routes.length:=fun y hy=>by have:=hcars y hy;rw[hq.wf.routes,← hp.wf.routes];exact this
 refine Vg0 ?_
 refine Vx4 ?_
 refine Vh2 ?_
 refine Vk ?_
 refine cD (fun h79=>?_) fun h79=>?_
 refine Ve5 ?_
 refine Vl ?_
 refine Ygh YfX (args:=[.ptro (bc I p q who x cars)]) (T:=[]) (M:=[4800]) (u:=.ref 4800 g75 0 0) rfl (by exact .aggc (S:=[]) (T:=[]) (M:=[4800]) (N:=[]) (.ptro rfl rfl rfl rfl rfl (.frz (YfY rfl))) (.frz .aggn)) (by decide) (by simp) (Yai I N hb hqI hs hcI p q hq who x cars hcl hcq) rfl rfl (fun res z hr=>?_)
 obtain⟨r,x2,q2,hq2,rfl,rfl⟩:=hr
 refine Vz9 ?_
 refine Va3 ?_
 refine⟨⟨k+1,q2,x2⟩,(by dsimp only;omega),_,lessA,⟨by omega,hq2⟩,_,hasA⟩
 refine VrA ?_
 have hcq:∀ y∈cars,0≤y∧y<q.routes.length:=fun y hy=>by have:=hcars y hy;rw[hq.wf.routes,← hp.wf.routes];exact this
 have hD:=Y3N hcI hp hq hcq
 refine Vl ?_
 refine VgM ?_
 refine Vz0 ?_
 intro g18
 refine Vz3 ?_
 refine Vs4 ?_
 refine Vy6 ?_
 refine VhM ?_
 refine Vu2 ?_
 refine Vj5 ?_
 refine Vy6 ?_
 refine Vg ?_
 refine ViM ?_
 intro g96
 refine Ygv YfX rfl (Frz.aggc (Frz.pure rfl) (Frz.aggc (Yg5 rfl rfl rfl rfl (Y00 _ _)) Frz.aggn)) (Y4k (ByteArray.mk #[111,107]) (by decide) [(gainR I (turnedD p (delL q cars))).1,(gainR I (turnedD p (delL q cars))).2] (by simp) (fun z hz=>by rcases Yep.1 hz with rfl | hz;exact (Y5L _ _).1;rw[Yej.1 hz];exact (Y5L _ _).2)) rfl rfl rfl rfl ?_
 refine VoE ?_
 refine VoD ?_
 refine Vf7 ?_
 exact⟨(_,_),Y3N hcI hp hq hcq,rfl⟩
 refine Vl1 ?_
 refine Ygk YfX (fun st=>∃ cars:List Int,(cars.length≤2∧∀ y∈cars,0≤y∧y<p.routes.length)∧∃ m0,st=⟨(updS (updS (updS (updS (updS (updS (updS (fun _=>LV.undef) 2 (.int .i64 who)) 6 (.ref 384 g6 0 0)) 7 (.ref 448 g7 0 0)) 9 (.ref 576 g9 0 0)) 12 (.ref 768 g12 0 0)) 14 (.ref 896 g14 0 0)) 15 (.sl (em ni cars))),effM m0 [(384,⟨g6,false,.var,4,[ic I]⟩),(448,⟨g7,false,.var,7,[kp p]⟩),(576,⟨g9,false,.var,8,[kc c]⟩),(768,⟨g12,false,.var,3,[[.nils,.nils,.nils]]⟩),(896,⟨g14,false,.var,3,[[.nils,.nils,.nils]]⟩)]⟩) ?_ ?_
 refine Vc ?_
 refine Vg1 ?_
 refine Vl0 ?_
 refine VkE ?_
 refine Vc3 ?_
 refine Yg1 47 rfl (fun h47=>?_) (fun h47=>?_)
 rw[h47]
 refine Vk0 ?_
 refine Vk7 ?_
 refine Vu0 ?_
 refine VyA ?_
 refine VwF ?_
 refine Vp2 ?_
 refine VzA ?_
 exact⟨(⟨[],[],[]⟩,_),Y06,rfl⟩
 rw[h47]
 refine Vb ?_
 refine Vj6 ?_
 refine VeC ?_
 refine Yg1 51 rfl (fun h51=>?_) (fun h51=>?_)
 rw[h51]
 replace h51:=of_decide_eq_true h51
 refine Vb ?_
 refine Vg1 ?_
 refine Vb ?_
 refine Vj6 ?_
 refine Vz1 ?_
 refine VkE ?_
 refine Vl3 ?_
 refine Vf1 ?_
 refine Vs1 ?_
 refine Yg1 59 rfl (fun h59=>?_) (fun h59=>?_)
 rw[h59]
 refine Vu0 ?_
 refine VyA ?_
 refine VwF ?_
 refine Vp2 ?_
 refine VzA ?_
 exact⟨(⟨[],[],[]⟩,_),Y06,rfl⟩
 rw[h59]
 refine Vn5 ?_
 refine Vj6 ?_
 refine Vy1 ?_
 refine Vh1 ?_
 refine VyA ?_
 refine VwF ?_
 refine cD (fun h65=>?_) fun h65=>?_
 refine VzA ?_
 exact⟨(⟨[],[],[]⟩,_),Y06,rfl⟩
 refine Vh0 ?_
 refine⟨_,(YfZ (YfV (YfV (YfV (YfV (YfV (YfV (YfV (Yg0 _) rfl) rfl) rfl) rfl) rfl) rfl) rfl) _),_,⟨(YdK rfl),car1 (Y9B h47)⟩,_,(congrArg (St.mk _) (Y01 (YfW rfl (YfW rfl (YfW rfl (YfW rfl (YfW rfl Yg3)))))).symm)⟩
 rw[h51]
 replace h51:=of_decide_eq_false h51
 refine Vu0 ?_
 refine Vf1 ?_
 refine Vs1 ?_
 refine Vn5 ?_
 refine Vj6 ?_
 refine Vy1 ?_
 refine Vh1 ?_
 refine VyA ?_
 refine VwF ?_
 refine cD (fun h65=>?_) fun h65=>?_
 refine VzA ?_
 exact⟨(⟨[],[],[]⟩,_),Y06,rfl⟩
 refine Vh0 ?_
 refine⟨_,(YfZ (YfV (YfV (YfV (YfV (YfV (YfV (YfV (Yg0 _) rfl) rfl) rfl) rfl) rfl) rfl) rfl) _),_,⟨(YdK rfl),car1 (Y9B h47)⟩,_,(congrArg (St.mk _) (Y01 (YfW rfl (YfW rfl (YfW rfl (YfW rfl (YfW rfl Yg3)))))).symm)⟩
 rintro _ ⟨cars,⟨hcl,hcars⟩,m0,rfl⟩
 refine Vc ?_
 refine Vt0 ?_
 refine Vx9 ?_
 refine Va7 ?_
 refine Vh2 ?_
 refine VdB ?_
 refine Va ?_
 refine VeM ?_
 generalize genAt _ _=g75
 refine VtB ?_
 refine VfM ?_
 rintro⟨k,q,x⟩ _ ⟨⟨hk,hq⟩,m0,rfl⟩
 have hcq:∀ y∈cars,0≤y∧y<q.routes.length:=fun y hy=>by have:=hcars y hy;rw[hq.wf.routes,← hp.wf.routes];exact this
 refine Vg0 ?_
 refine Vx4 ?_
 refine Vh2 ?_
 refine Vk ?_
 refine cD (fun h79=>?_) fun h79=>?_
 refine Ve5 ?_
 refine Vl ?_
 refine Ygh YfX (args:=[.ptro (bc I p q who x cars)]) (T:=[]) (M:=[4800]) (u:=.ref 4800 g75 0 0) rfl (by exact .aggc (S:=[]) (T:=[]) (M:=[4800]) (N:=[]) (.ptro rfl rfl rfl rfl rfl (.frz (YfY rfl))) (.frz .aggn)) (by decide) (by simp) (Yai I N hb hqI hs hcI p q hq who x cars hcl hcq) rfl rfl (fun res z hr=>?_)
 obtain⟨r,x2,q2,hq2,rfl,rfl⟩:=hr
 refine Vz9 ?_
 refine Va3 ?_
 refine⟨⟨k+1,q2,x2⟩,(by dsimp only;omega),_,lessA,⟨by omega,hq2⟩,_,hasA⟩
 refine VrA ?_
 have hcq:∀ y∈cars,0≤y∧y<q.routes.length:=fun y hy=>by have:=hcars y hy;rw[hq.wf.routes,← hp.wf.routes];exact this
 have hD:=Y3N hcI hp hq hcq
 refine Vl ?_
 refine VgM ?_
 refine Vz0 ?_
 intro g18
 refine Vz3 ?_
 refine Vs4 ?_
 refine Vy6 ?_
 refine VhM ?_
 refine Vu2 ?_
 refine Vj5 ?_
 refine Vy6 ?_
 refine Vg ?_
 refine ViM ?_
 intro g96
 refine Ygv YfX rfl (Frz.aggc (Frz.pure rfl) (Frz.aggc (Yg5 rfl rfl rfl rfl (Y00 _ _)) Frz.aggn)) (Y4k (ByteArray.mk #[111,107]) (by decide) [(gainR I (turnedD p (delL q cars))).1,(gainR I (turnedD p (delL q cars))).2] (by simp) (fun z hz=>by rcases Yep.1 hz with rfl | hz;exact (Y5L _ _).1;rw[Yej.1 hz];exact (Y5L _ _).2)) rfl rfl rfl rfl ?_
 refine VoE ?_
 refine VoD ?_
 refine Vf7 ?_
 exact⟨(_,_),Y3N hcI hp hq hcq,rfl⟩
 refine Vz8 ?_
 refine cD (fun h98=>?_) fun h98=>?_
 exact absurd h98 (by omega)
 refine VvA ?_
 refine cD (fun h98=>?_) fun h98=>?_
 exact absurd h98 (by omega)
 refine Vr ?_
 refine cD (fun h133=>?_) fun h133=>?_
 refine Vd1 ?_
 refine Vg1 ?_
 refine Vl0 ?_
 refine VkE ?_
 refine Vb1 ?_
 ·refine Ygb rfl (fun h139=>?_) (fun h139=>?_)
  refine VnB ?_
  refine VlC ?_
  rotate_left
  refine Vh ?_
  have hin:0≤c.car∧c.car<p.routes.length:=by simpa using h139
  refine Vi0 ?_
  refine Vy6 ?_
  refine VxB ?_
  refine VdI ?_
  refine Yg6 YfX rfl (Frz.aggc (Frz.pure rfl) (Frz.aggc (Frz.pure rfl) Frz.aggn)) (Y4k _ (by decide) (p.routes.getD c.car.toNat default) (hr1000 _ (Y02 (by omega))) (fun z hz=>by have:=hp.wf.stops _ (Y02 (l:=p.routes) (j:=c.car.toNat) (by omega)) z hz;unfold In;omega)) rfl rfl (fun _=>rfl) ?_
  refine VoE ?_
  all_goals
   refine VoD ?_
   refine VkF ?_
   exact⟨(⟨[],[],[]⟩,_),Y06,rfl⟩
 refine Vr ?_
 refine cD (fun h150=>?_) fun h150=>?_
 refine VxH ?_
 refine Vg1 ?_
 refine VjM ?_
 refine Yg6 YfX rfl (Frz.aggc (Frz.pure rfl) (Frz.aggc (Frz.pure rfl) Frz.aggn)) (Y4k _ (by decide) (unassL p.routes p.sv.length) (by omega) (Yc3 (by omega))) rfl rfl (fun _=>rfl) ?_
 refine VoE ?_
 refine VoD ?_
 refine VkF ?_
 exact⟨(⟨[],[],[]⟩,_),Y06,rfl⟩
 refine Vr ?_
 refine cD (fun h156=>?_) fun h156=>?_
 refine VxH ?_
 refine Vs4 ?_
 refine Yg6 YfX rfl (Frz.aggc (by exact YfY rfl) (Frz.aggc (by exact YfY rfl) (Frz.aggn))) (Ya5 I N hb.sq p hpo hr1000) rfl rfl (fun _=>rfl) ?_
 refine Vg1 ?_
 refine VjM ?_
 refine Vr0 ?_
 refine Yg9 YfX (sz:=1) (z:=[.int .i64 0]) (es:=em ni [costP I p.routes,((unassL p.routes p.sv.length).length:Int)]) rfl rfl rfl rfl (by decide) (by decide) (by decide) (FrzP.cons (S:=[]) (T:=[]) (Frz.aggc (S:=[]) (T:=[]) (Frz.pure rfl) Frz.aggn) rfl (by decide) rfl (FrzP.cons (S:=[]) (T:=[]) (Frz.aggc (S:=[]) (T:=[]) (Frz.pure rfl) Frz.aggn) rfl (by decide) rfl (FrzP.nil))) rfl ?_
 intro g165
 refine Ygv YfX rfl (Frz.aggc (Frz.pure rfl) (Frz.aggc (Yg5 rfl rfl rfl rfl (Y00 _ _)) Frz.aggn)) (Y4k (ByteArray.mk #[99,111,115,116]) (by decide) [costP I p.routes,((unassL p.routes p.sv.length).length:Int)] (by simp) (fun z hz=>by rcases Yep.1 hz with rfl | hz;exact YbU _ _;rw[Yej.1 hz];unfold In;omega)) rfl rfl rfl rfl ?_
 refine VoE ?_
 refine VoD ?_
 refine VkF ?_
 exact⟨(⟨[],[],[]⟩,_),Y06,rfl⟩
 refine VvB ?_
 refine Vc ?_
 refine Vt0 ?_
 refine Vx9 ?_
 refine VcM ?_
 refine GL.callR YfX rfl (Frz.aggc (YfY rfl) (Frz.aggc (YfY rfl) (Frz.aggc (Frz.pure rfl) (Frz.aggc (YfY rfl) Frz.aggn)))) (Ydc I N hb hqI hs hcI p hp who hw c (by omega) hc.at'.1) rfl (fun _=>rfl) (fun _ _=>rfl) ?_
 rintro a hga
 refine VkD ?_
 refine Vz0 ?_
 intro g24
 refine VaB ?_
 refine Ve0 ?_
 refine Vk ?_
 refine cB (fun h176=>?_) fun h176=>?_
 refine VxH ?_
 refine Va ?_
 refine VdO ?_
 refine VeG ?_
 exact⟨(⟨[],[],[]⟩,_),Y06,rfl⟩
 refine Vl1 ?_
 refine VnE ?_
 refine Vu4 ?_
 refine Vf7 ?_
 exact⟨(a.1,_),hga,rfl⟩
theorem Y5l (I:Inst)(hcI:checkB I=true)(p:Plan)(hp:GoodP I p)(who:Int)(c:Cmd)(h9:c.op=9)(E:List Entry)(hE:E.length≤10)(hED:∀ e∈E,GoodD I e.d): CallsM Try.prog 59 [ei I,.agg (kp p),.int .i64 who,.agg (kc c),.ptro [.slo 5 (em ke E)],.undef] (some 4) fun res q=>(∃ a:Delta × ByteArray,GoodD I a.1∧res=.tup [.agg (kd a.1),.str a.2])∧q=.ptro [.slo 5 (em ke E)]:=by
 refine Ygw (ls:=[ei I,.agg (kp p),.int .i64 who,.agg (kc c),.ref 500004000 0 0 0,.undef]) (e:=[(500004001,⟨0,false,.slc,5,em ke E⟩),(500004000,⟨0,false,.var,1,[[.own 500004001 0 0 E.length none]]⟩)]) (ju:=some (.ref 500004000 0 0 0)) (Yga _) mix Try.func59 rfl rfl (by simp[Try.f59]) (by kernel_rfl) (nb:=0) rfl (by simp[impAs,impT,impV,impC,impCs,impC0,impCs0,genAt,effM,Y00,ke,kc,kp,ic,ei]) (fun k hk=>by cases hk;exact⟨_,rfl,rfl⟩) (fun h=>by cases h) ?_
 unfold Try.f59
 refine Ve ?_
 have hpo:=hp.okP hcI
 refine Vy3 ?_
 intro g6
 refine Vo ?_
 intro g7
 refine ViE ?_
 intro g9
 refine Vz0 ?_
 intro g12
 refine Vn ?_
 refine VfE ?_
 refine Vz0 ?_
 intro g14
 refine Vy7 ?_
 refine Vc0 ?_
 refine Vs2 ?_
 refine Vr ?_
 refine cD (fun h29=>?_) fun h29=>?_
 exact absurd h29 (by omega)
 refine Vz8 ?_
 refine cD (fun h98=>?_) fun h98=>?_
 refine Vl1 ?_
 refine cD (fun h98=>?_) fun h98=>?_
 refine Vp ?_
 refine Vb0 ?_
 refine Vc0 ?_
 refine Vk ?_
 refine cD (fun h104=>?_) fun h104=>?_
 exact absurd h104 (by omega)
 refine Vu1 ?_
 refine Ygh YfX (args:=[.ptro [.slo 5 (em ke E)]]) (T:=[]) (M:=[500004000,500004001]) (u:=.ref 500004000 0 0 0) rfl (by exact .aggc (S:=[]) (T:=[]) (M:=[500004000,500004001]) (N:=[]) (.ptro (M:=[500004001]) rfl rfl rfl rfl rfl (.aggc (S:=[]) (T:=[]) (M:=[500004001]) (N:=[]) (Yg4 rfl rfl rfl rfl rfl rfl (Y00 _ _).symm) .aggn)) (.frz Frz.aggn)) (by decide) (by simp) (Yam E hE) rfl rfl (fun res q hr=>?_)
 obtain⟨rfl,rfl⟩:=hr
 refine Va9 ?_
 intro g22
 refine Vs3 ?_
 refine Ve0 ?_
 refine Vb1 ?_
 refine Ygb rfl (fun h112=>?_) (fun h112=>?_)
 refine VnB ?_
 refine Vh7 ?_
 refine Vh6 ?_
 refine VxC ?_
 exact⟨⟨(⟨[],[],[]⟩,_),Y06,rfl⟩,rfl⟩
 refine Vh ?_
 refine Ve ?_
 have hT:=hED _ (Y9G (by simpa using h112))
 refine Vf ?_
 refine Vg1 ?_
 refine Vs6 ?_
 refine VkM ?_
 refine Vc3 ?_
 refine Yg1 120 rfl (fun h120=>?_) (fun h120=>?_)
 rw[h120]
 refine Vz2 ?_
 refine Vf5 ?_
 refine VnB ?_
 refine Vh7 ?_
 refine Vh6 ?_
 refine VxC ?_
 exact⟨⟨(⟨[],[],[]⟩,_),Y06,rfl⟩,rfl⟩
 rw[h120]
 refine Vb ?_
 refine Vg1 ?_
 refine Vc4 ?_
 refine Vb ?_
 refine VxF ?_
 refine Vb ?_
 refine VlM ?_
 refine Vi1 ?_
 refine cB (fun h127=>?_) fun h127=>?_
 refine VnB ?_
 refine Vh7 ?_
 refine Vh6 ?_
 refine VxC ?_
 exact⟨⟨(⟨[],[],[]⟩,_),Y06,rfl⟩,rfl⟩
 refine Vf0 ?_
 refine Vs0 ?_
 refine VxF ?_
 refine VmM ?_
 refine ViB ?_
 refine Vi8 ?_
 refine Vh6 ?_
 refine VnM ?_
 exact⟨⟨(tidyD (topE E).d,_),Y6W hT,rfl⟩,rfl⟩
 exact absurd h98 (by omega)
 exact absurd h98 (by omega)
theorem Y54 (I:Inst)(hcI:checkB I=true)(p:Plan)(hp:GoodP I p)(who:Int)(c:Cmd)(h9:c.op=10)(E:List Entry)(hE:E.length≤10)(hED:∀ e∈E,GoodD I e.d): CallsM Try.prog 59 [ei I,.agg (kp p),.int .i64 who,.agg (kc c),.undef,.ptro [.slo 5 (em ke E)]] (some 5) fun res q=>(∃ a:Delta × ByteArray,GoodD I a.1∧res=.tup [.agg (kd a.1),.str a.2])∧q=.ptro [.slo 5 (em ke E)]:=by
 refine Ygw (ls:=[ei I,.agg (kp p),.int .i64 who,.agg (kc c),.undef,.ref 500005000 0 0 0]) (e:=[(500005001,⟨0,false,.slc,5,em ke E⟩),(500005000,⟨0,false,.var,1,[[.own 500005001 0 0 E.length none]]⟩)]) (ju:=some (.ref 500005000 0 0 0)) (Yga _) mix Try.func59 rfl rfl (by simp[Try.f59]) (by kernel_rfl) (nb:=0) rfl (by simp[impAs,impT,impV,impC,impCs,impC0,impCs0,genAt,effM,Y00,ke,kc,kp,ic,ei]) (fun k hk=>by cases hk;exact⟨_,rfl,rfl⟩) (fun h=>by cases h) ?_
 unfold Try.f59
 refine Ve ?_
 have hpo:=hp.okP hcI
 refine Vy3 ?_
 intro g6
 refine Vo ?_
 intro g7
 refine ViE ?_
 intro g9
 refine Vz0 ?_
 intro g12
 refine Vn ?_
 refine VfE ?_
 refine Vz0 ?_
 intro g14
 refine Vy7 ?_
 refine Vc0 ?_
 refine Vs2 ?_
 refine Vr ?_
 refine cD (fun h29=>?_) fun h29=>?_
 exact absurd h29 (by omega)
 refine Ve ?_
 refine VeB ?_
 rw[show (c.op == 9)=false by rw[h9];rfl]
 refine Vb8 ?_
 refine Vf ?_
 refine Vu ?_
 rw[show (c.op == 10)=true by rw[h9];rfl]
 refine ViC ?_
 refine Vb0 ?_
 refine Vc0 ?_
 refine Vk ?_
 refine cD (fun h104=>?_) fun h104=>?_
 refine Vl ?_
 refine Vd0 ?_
 refine Ygh YfX (args:=[.ptro [.slo 5 (em ke E)]]) (T:=[]) (M:=[500005000,500005001]) (u:=.ref 500005000 0 0 0) rfl (by exact .aggc (S:=[]) (T:=[]) (M:=[500005000,500005001]) (N:=[]) (.ptro (M:=[500005001]) rfl rfl rfl rfl rfl (.aggc (S:=[]) (T:=[]) (M:=[500005001]) (N:=[]) (Yg4 rfl rfl rfl rfl rfl rfl (Y00 _ _).symm) .aggn)) (.frz Frz.aggn)) (by decide) (by simp) (Yam E hE) rfl rfl (fun res q hr=>?_)
 obtain⟨rfl,rfl⟩:=hr
 refine Va9 ?_
 intro g22
 refine Vs3 ?_
 refine Ve0 ?_
 refine Vb1 ?_
 refine Ygb rfl (fun h112=>?_) (fun h112=>?_)
 refine VnB ?_
 refine Vh7 ?_
 refine Vh6 ?_
 refine VxC ?_
 exact⟨⟨(⟨[],[],[]⟩,_),Y06,rfl⟩,rfl⟩
 refine Vh ?_
 refine Ve ?_
 have hT:=hED _ (Y9G (by simpa using h112))
 refine Vf ?_
 refine Vg1 ?_
 refine Vs6 ?_
 refine VkM ?_
 refine Vc3 ?_
 refine Yg1 120 rfl (fun h120=>?_) (fun h120=>?_)
 rw[h120]
 refine Vz2 ?_
 refine Vf5 ?_
 refine VnB ?_
 refine Vh7 ?_
 refine Vh6 ?_
 refine VxC ?_
 exact⟨⟨(⟨[],[],[]⟩,_),Y06,rfl⟩,rfl⟩
 rw[h120]
 refine Vb ?_
 refine Vg1 ?_
 refine Vc4 ?_
 refine Vb ?_
 refine VxF ?_
 refine Vb ?_
 refine VlM ?_
 refine Vi1 ?_
 refine cB (fun h127=>?_) fun h127=>?_
 refine VnB ?_
 refine Vh7 ?_
 refine Vh6 ?_
 refine VxC ?_
 exact⟨⟨(⟨[],[],[]⟩,_),Y06,rfl⟩,rfl⟩
 refine Vf0 ?_
 refine Vs0 ?_
 refine VxF ?_
 refine VmM ?_
 refine ViB ?_
 refine Vi8 ?_
 refine Vh6 ?_
 refine VnM ?_
 exact⟨⟨(tidyD (topE E).d,_),Y6W hT,rfl⟩,rfl⟩
 exact absurd h104 (by omega)
def stP (E:List Entry): LV:=.ptro [.slo 5 (em ke E)]
def mcs (I:Inst)(p:Plan)(u0 u1 u2 r0 r1 r2:List Entry): List LV:=ic I++(kp p++[stP u0,stP u1,stP u2,.undef,.undef,.undef,stP r0,stP r1,stP r2,.undef,.undef,.undef])
structure StkOK (I:Inst) (E:List Entry):Prop where
 len:E.length≤4
 good:∀ e∈E,GoodD I e.d
theorem Y1Q (I:Inst): StkOK I []:=⟨by simp,fun e he=>by cases he⟩
theorem Y13 {I:Inst}{E:List Entry}(h:StkOK I E): StkOK I (popE E):=by
 refine⟨?_,fun e he=>h.good e (YeC he)⟩
 have:=h.len
 rw[popE,Yek]
 omega
theorem Y1z {I:Inst}{E E':List Entry}(hd:E'.map (·.d)=E.map (·.d))(h:StkOK I E): StkOK I E':=by
 refine⟨?_,fun e he=>?_⟩
 have:=congrArg List.length hd
 rw[Ye4,Ye4] at this
 have:=h.len
 omega
 have:e.d∈E.map (·.d):=by rw[← hd];exact Ye8.2 ⟨e,he,rfl⟩
 obtain⟨x,hx,hxe⟩:=Ye8.1 this
 rw[← hxe]
 exact h.good x hx
theorem Y16 {I:Inst}{E:List Entry}{x:Entry}(h:StkOK I E)(hx:GoodD I x.d): StkOK I (pushE E x):=by
 refine⟨?_,fun e he=>?_⟩
 rw[pushE,Yez,YdN,Yer]
 omega
 rcases Yei.1 (YeE he) with he | he
 exact h.good e he
 rw[Yej.1 he]
 exact hx
theorem VersIn.le {n m:Nat}{p:Plan}(h:VersIn n p)(hm:n≤m): VersIn m p:=by
 obtain⟨h1,h2,h3,h4⟩:=h
 refine⟨fun v hv=>?_,fun v hv=>?_,fun v hv=>?_,?_⟩
 have:=h1 v hv;omega
 have:=h2 v hv;omega
 have:=h3 v hv;omega
 omega
theorem Y8q:∀ (l o:List SKey),(l.foldl insU o).length≤o.length+l.length
 | [],o=>Ye2 _
 | k::r,o=>by
   have h1:=Ybm o k
   have h2:=Y8q r (insU o k)
   rw[Yf7,Yen]
   omega
theorem Y0O {d:Delta}(hd:OkD d): (touchR d).length≤100000000:=by
 have h1:=Y3s hd
 have h2:=Y2Y (Y2c hd)
 have h3:=Y8q (keysL (tidyD d)) []
 have h4:(keysL (tidyD d)).length=(tidyD d).turns.length+(tidyD d).locks.length+(movedL (tidyD d)).length+(tidyD d).ices.length:=by simp only[keysL,YdN,Ye4]
 rw[YeM] at h3
 unfold touchR
 omega
theorem Y22:InlS Try.prog (I1 Try.prog 60 Try.f60 6):=I1.sound mix Try.func60 rfl rfl (by decide) (by kernel_rfl)
theorem Yco (I:Inst)(hs:I.Short): CallsV Try.prog 33 [ei I] (.ptro (mcs I (newP I) [] [] [] [] [] [])):=by
 refine Yg2 (Yga _) mix Try.func33 rfl rfl (by simp[Try.f33]) (by kernel_rfl) (nb:=0) ?_
 unfold Try.f33
 refine Vy0 ?_
 intro g1
 refine Vj5 ?_
 refine Vt0 ?_
 refine Vt0 ?_
 refine Yg6 YfX rfl (Frz.aggc (by exact YfY rfl) (Frz.aggn)) (Ycb I hs) rfl rfl (fun _=>rfl) ?_
 refine GL.buildG YfX (z:=[LV.nils,LV.nils,LV.nils,LV.nils,LV.nils,LV.nils,LV.nils,LV.nils,LV.nils,LV.nils,LV.int .i64 0,LV.nilp,LV.nilp,LV.nilp,LV.nilp,LV.nilp,LV.nilp,LV.nilp,LV.nilp,LV.nilp,LV.nilp,LV.nilp,LV.nilp]) (cs:=[_,_,_,_,_,_,_,_,_,_,_,_,_,_,_,_,_,_,_,_,_,_,_]) rfl rfl (EvS.cons (by conv=>lhs;whnf) (EvS.cons (by conv=>lhs;whnf) EvS.nil)) rfl rfl ?_
 refine GL.box YfX (by conv=>lhs;whnf) rfl (n:=23) rfl rfl ?_
 intro g9
 refine VmE ?_
 refine Vg0 ?_
 refine Vs2 ?_
 refine VkC ?_
 rw[show (decide ((0:Int)<6))=true from rfl]
 refine Vu6 ?_
 refine Ygk YfX (fun st=>∃ ga0 gb0 gq:Nat,(True)∧∃ m0,st=⟨(updS (updS (fun _=>LV.undef) 3 (.ref 576 gq 0 0)) 10 (.int .i64 0)),effM m0 [(800000,⟨ga0,false,.var,1,[[.nils]]⟩),(800010,⟨gb0,false,.var,1,[[.nils]]⟩),(576,⟨gq,false,.var,23,[ic I++(kp (newP I)++[.ref 800000 ga0 0 0,.nilp,.nilp,.nilp,.nilp,.nilp,.ref 800010 gb0 0 0,.nilp,.nilp,.nilp,.nilp,.nilp])]⟩)]⟩) ?_ ?_
 refine Vo0 ?_
 refine Vp ?_
 refine Vy ?_
 ·refine Wp.regAlt3 11 12 13 (fun k=>bif Nat.beq k 11 then 12 else bif Nat.beq k 12 then 11 else k) (fun k=>bif Nat.beq k 11 then 12 else bif Nat.beq k 12 then 11 else k) (fun k=>bif Nat.beq k 11 then 12 else bif Nat.beq k 12 then 13 else bif Nat.beq k 13 then 11 else k) (fun k=>bif Nat.beq k 12 then 11 else bif Nat.beq k 13 then 12 else bif Nat.beq k 11 then 13 else k) (by decide) (by decide) (by decide) (by decide) (by decide) (by kernel_rfl) (by kernel_rfl) (by kernel_rfl) ?_ ?_ ?_
  refine Vn2 ?_
  intro g18
  refine Vj2 ?_
  intro g20
  refine Vo2 ?_
  refine Vc1 ?_
  refine Vx5 ?_
  rotate_left
  refine Vn2 ?_
  intro g18
  refine Vj2 ?_
  intro g20
  refine Vo2 ?_
  refine Vb5 ?_
  refine Vc1 ?_
  refine VeD ?_
  rotate_left
  refine Vn2 ?_
  intro g18
  refine Vj2 ?_
  intro g20
  refine Vo2 ?_
  refine Vx5 ?_
  refine Vc1 ?_
  all_goals
   refine VdD ?_
   refine Vc1 ?_
   refine Vg4 ?_
   refine⟨_,Ygm (Ygm (Weak.moveBox (q:=576) (c:=11) (n:=1152) (n':=800000) rfl rfl rfl rfl rfl rfl rfl rfl (by simp) rfl rfl rfl) (Weak.moveBox (q:=576) (c:=17) (n:=1280) (n':=800010) rfl rfl rfl rfl rfl rfl rfl rfl (by simp) rfl rfl rfl)) (YfZ (YfV (YfV (Yg0 _) rfl) rfl) _),_,_,_,trivial,_,(congrArg (St.mk _) (Y01 (YfW rfl (YfW rfl (YfW rfl Yg3)))).symm)⟩
 rintro _ ⟨ga0,gb0,gq,-,m0,rfl⟩
 refine Vf ?_
 refine VfD ?_
 rw[show ((0:Int)+1)=1 from rfl]
 refine Vd5 ?_
 refine VkC ?_
 rw[show (decide ((1:Int)<6))=true from rfl]
 refine Vu6 ?_
 refine Ygk YfX (fun st=>∃ ga0 ga1 gb0 gb1 gq:Nat,(True)∧∃ m0,st=⟨(updS (updS (fun _=>LV.undef) 3 (.ref 576 gq 0 0)) 10 (.int .i64 1)),effM m0 [(800000,⟨ga0,false,.var,1,[[.nils]]⟩),(800001,⟨ga1,false,.var,1,[[.nils]]⟩),(800010,⟨gb0,false,.var,1,[[.nils]]⟩),(800011,⟨gb1,false,.var,1,[[.nils]]⟩),(576,⟨gq,false,.var,23,[ic I++(kp (newP I)++[.ref 800000 ga0 0 0,.ref 800001 ga1 0 0,.nilp,.nilp,.nilp,.nilp,.ref 800010 gb0 0 0,.ref 800011 gb1 0 0,.nilp,.nilp,.nilp,.nilp])]⟩)]⟩) ?_ ?_
 refine Vo0 ?_
 refine Vp ?_
 refine Vy ?_
 ·refine Wp.regAlt3 11 12 13 (fun k=>bif Nat.beq k 11 then 12 else bif Nat.beq k 12 then 11 else k) (fun k=>bif Nat.beq k 11 then 12 else bif Nat.beq k 12 then 11 else k) (fun k=>bif Nat.beq k 11 then 12 else bif Nat.beq k 12 then 13 else bif Nat.beq k 13 then 11 else k) (fun k=>bif Nat.beq k 12 then 11 else bif Nat.beq k 13 then 12 else bif Nat.beq k 11 then 13 else k) (by decide) (by decide) (by decide) (by decide) (by decide) (by kernel_rfl) (by kernel_rfl) (by kernel_rfl) ?_ ?_ ?_
  refine Vn2 ?_
  intro g18
  refine Vj2 ?_
  intro g20
  refine Vo2 ?_
  refine Vc1 ?_
  refine Vx5 ?_
  rotate_left
  refine Vn2 ?_
  intro g18
  refine Vj2 ?_
  intro g20
  refine Vo2 ?_
  refine Vb5 ?_
  refine Vc1 ?_
  refine VeD ?_
  rotate_left
  refine Vn2 ?_
  intro g18
  refine Vj2 ?_
  intro g20
  refine Vo2 ?_
  refine Vx5 ?_
  refine Vc1 ?_
  all_goals
   refine VdD ?_
   refine Vc1 ?_
   refine Vg4 ?_
   refine⟨_,Ygm (Ygm (Weak.moveBox (q:=576) (c:=12) (n:=1152) (n':=800001) rfl rfl rfl rfl rfl rfl rfl rfl (by simp) rfl rfl rfl) (Weak.moveBox (q:=576) (c:=18) (n:=1280) (n':=800011) rfl rfl rfl rfl rfl rfl rfl rfl (by simp) rfl rfl rfl)) (YfZ (YfV (YfV (Yg0 _) rfl) rfl) _),_,_,_,_,_,trivial,_,(congrArg (St.mk _) (Y01 (YfW rfl (YfW rfl (YfW rfl (YfW rfl (YfW rfl Yg3)))))).symm)⟩
 rintro _ ⟨ga0,ga1,gb0,gb1,gq,-,m0,rfl⟩
 refine Vf ?_
 refine VfD ?_
 rw[show ((1:Int)+1)=2 from rfl]
 refine Vd5 ?_
 refine VkC ?_
 rw[show (decide ((2:Int)<6))=true from rfl]
 refine Vu6 ?_
 refine Ygk YfX (fun st=>∃ ga0 ga1 ga2 gb0 gb1 gb2 gq:Nat,(True)∧∃ m0,st=⟨(updS (updS (fun _=>LV.undef) 3 (.ref 576 gq 0 0)) 10 (.int .i64 2)),effM m0 [(800000,⟨ga0,false,.var,1,[[.nils]]⟩),(800001,⟨ga1,false,.var,1,[[.nils]]⟩),(800002,⟨ga2,false,.var,1,[[.nils]]⟩),(800010,⟨gb0,false,.var,1,[[.nils]]⟩),(800011,⟨gb1,false,.var,1,[[.nils]]⟩),(800012,⟨gb2,false,.var,1,[[.nils]]⟩),(576,⟨gq,false,.var,23,[ic I++(kp (newP I)++[.ref 800000 ga0 0 0,.ref 800001 ga1 0 0,.ref 800002 ga2 0 0,.nilp,.nilp,.nilp,.ref 800010 gb0 0 0,.ref 800011 gb1 0 0,.ref 800012 gb2 0 0,.nilp,.nilp,.nilp])]⟩)]⟩) ?_ ?_
 refine Vo0 ?_
 refine Vp ?_
 refine Vy ?_
 ·refine Wp.regAlt3 11 12 13 (fun k=>bif Nat.beq k 11 then 12 else bif Nat.beq k 12 then 11 else k) (fun k=>bif Nat.beq k 11 then 12 else bif Nat.beq k 12 then 11 else k) (fun k=>bif Nat.beq k 11 then 12 else bif Nat.beq k 12 then 13 else bif Nat.beq k 13 then 11 else k) (fun k=>bif Nat.beq k 12 then 11 else bif Nat.beq k 13 then 12 else bif Nat.beq k 11 then 13 else k) (by decide) (by decide) (by decide) (by decide) (by decide) (by kernel_rfl) (by kernel_rfl) (by kernel_rfl) ?_ ?_ ?_
  refine Vn2 ?_
  intro g18
  refine Vj2 ?_
  intro g20
  refine Vo2 ?_
  refine Vc1 ?_
  refine Vx5 ?_
  rotate_left
  refine Vn2 ?_
  intro g18
  refine Vj2 ?_
  intro g20
  refine Vo2 ?_
  refine Vb5 ?_
  refine Vc1 ?_
  refine VeD ?_
  rotate_left
  refine Vn2 ?_
  intro g18
  refine Vj2 ?_
  intro g20
  refine Vo2 ?_
  refine Vx5 ?_
  refine Vc1 ?_
  all_goals
   refine VdD ?_
   refine Vc1 ?_
   refine Vg4 ?_
   refine⟨_,Ygm (Ygm (Weak.moveBox (q:=576) (c:=13) (n:=1152) (n':=800002) rfl rfl rfl rfl rfl rfl rfl rfl (by simp) rfl rfl rfl) (Weak.moveBox (q:=576) (c:=19) (n:=1280) (n':=800012) rfl rfl rfl rfl rfl rfl rfl rfl (by simp) rfl rfl rfl)) (YfZ (YfV (YfV (Yg0 _) rfl) rfl) _),_,_,_,_,_,_,_,trivial,_,(congrArg (St.mk _) (Y01 (YfW rfl (YfW rfl (YfW rfl (YfW rfl (YfW rfl (YfW rfl (YfW rfl Yg3)))))))).symm)⟩
 rintro _ ⟨ga0,ga1,ga2,gb0,gb1,gb2,gq,-,m0,rfl⟩
 refine Vf ?_
 refine VfD ?_
 rw[show ((2:Int)+1)=3 from rfl]
 refine Vd5 ?_
 refine VkC ?_
 rw[show (decide ((3:Int)<6))=true from rfl]
 refine Vu6 ?_
 refine Ygk YfX (fun st=>∃ ga0 ga1 ga2 gb0 gb1 gb2 gs3 gt3 gq:Nat,(True)∧∃ m0,st=⟨(updS (updS (fun _=>LV.undef) 3 (.ref 576 gq 0 0)) 10 (.int .i64 3)),effM m0 [(800000,⟨ga0,false,.var,1,[[.nils]]⟩),(800001,⟨ga1,false,.var,1,[[.nils]]⟩),(800002,⟨ga2,false,.var,1,[[.nils]]⟩),(800010,⟨gb0,false,.var,1,[[.nils]]⟩),(800011,⟨gb1,false,.var,1,[[.nils]]⟩),(800012,⟨gb2,false,.var,1,[[.nils]]⟩),(576,⟨gq,false,.var,23,[ic I++(kp (newP I)++[.ref 800000 ga0 0 0,.ref 800001 ga1 0 0,.ref 800002 ga2 0 0,.ref 1152 gs3 0 0,.nilp,.nilp,.ref 800010 gb0 0 0,.ref 800011 gb1 0 0,.ref 800012 gb2 0 0,.ref 1280 gt3 0 0,.nilp,.nilp])]⟩)]⟩) ?_ ?_
 refine Vo0 ?_
 refine Vp ?_
 refine Vy ?_
 ·refine Wp.regAlt3 11 12 13 (fun k=>bif Nat.beq k 11 then 12 else bif Nat.beq k 12 then 11 else k) (fun k=>bif Nat.beq k 11 then 12 else bif Nat.beq k 12 then 11 else k) (fun k=>bif Nat.beq k 11 then 12 else bif Nat.beq k 12 then 13 else bif Nat.beq k 13 then 11 else k) (fun k=>bif Nat.beq k 12 then 11 else bif Nat.beq k 13 then 12 else bif Nat.beq k 11 then 13 else k) (by decide) (by decide) (by decide) (by decide) (by decide) (by kernel_rfl) (by kernel_rfl) (by kernel_rfl) ?_ ?_ ?_
  refine Vn2 ?_
  intro g18
  refine Vj2 ?_
  intro g20
  refine Vo2 ?_
  refine Vc1 ?_
  refine Vx5 ?_
  rotate_left
  refine Vn2 ?_
  intro g18
  refine Vj2 ?_
  intro g20
  refine Vo2 ?_
  refine Vb5 ?_
  refine Vc1 ?_
  refine VeD ?_
  rotate_left
  refine Vn2 ?_
  intro g18
  refine Vj2 ?_
  intro g20
  refine Vo2 ?_
  refine Vx5 ?_
  refine Vc1 ?_
  all_goals
   refine VdD ?_
   refine Vc1 ?_
   refine Vg4 ?_
   refine⟨_,(YfZ (YfV (YfV (Yg0 _) rfl) rfl) _),_,_,_,_,_,_,_,_,_,trivial,_,(congrArg (St.mk _) (Y01 (YfW rfl (YfW rfl (YfW rfl (YfW rfl (YfW rfl (YfW rfl (YfW rfl Yg3)))))))).symm)⟩
 rintro _ ⟨ga0,ga1,ga2,gb0,gb1,gb2,gs3,gt3,gq,-,m0,rfl⟩
 refine Vf ?_
 refine VfD ?_
 rw[show ((3:Int)+1)=4 from rfl]
 refine Vd5 ?_
 refine VkC ?_
 rw[show (decide ((4:Int)<6))=true from rfl]
 refine Vu6 ?_
 refine Ygk YfX (fun st=>∃ ga0 ga1 ga2 gb0 gb1 gb2 gs3 gs4 gt3 gt4 gq:Nat,(True)∧∃ m0,st=⟨(updS (updS (fun _=>LV.undef) 3 (.ref 576 gq 0 0)) 10 (.int .i64 4)),effM m0 [(800000,⟨ga0,false,.var,1,[[.nils]]⟩),(800001,⟨ga1,false,.var,1,[[.nils]]⟩),(800002,⟨ga2,false,.var,1,[[.nils]]⟩),(800010,⟨gb0,false,.var,1,[[.nils]]⟩),(800011,⟨gb1,false,.var,1,[[.nils]]⟩),(800012,⟨gb2,false,.var,1,[[.nils]]⟩),(576,⟨gq,false,.var,23,[ic I++(kp (newP I)++[.ref 800000 ga0 0 0,.ref 800001 ga1 0 0,.ref 800002 ga2 0 0,.ref 1152 gs3 0 0,.ref 1152 gs4 0 0,.nilp,.ref 800010 gb0 0 0,.ref 800011 gb1 0 0,.ref 800012 gb2 0 0,.ref 1280 gt3 0 0,.ref 1280 gt4 0 0,.nilp])]⟩)]⟩) ?_ ?_
 refine Vo0 ?_
 refine Vp ?_
 refine Vy ?_
 ·refine Wp.regAlt3 11 12 13 (fun k=>bif Nat.beq k 11 then 12 else bif Nat.beq k 12 then 11 else k) (fun k=>bif Nat.beq k 11 then 12 else bif Nat.beq k 12 then 11 else k) (fun k=>bif Nat.beq k 11 then 12 else bif Nat.beq k 12 then 13 else bif Nat.beq k 13 then 11 else k) (fun k=>bif Nat.beq k 12 then 11 else bif Nat.beq k 13 then 12 else bif Nat.beq k 11 then 13 else k) (by decide) (by decide) (by decide) (by decide) (by decide) (by kernel_rfl) (by kernel_rfl) (by kernel_rfl) ?_ ?_ ?_
  refine Vn2 ?_
  intro g18
  refine Vj2 ?_
  intro g20
  refine Vo2 ?_
  refine Vc1 ?_
  refine Vx5 ?_
  rotate_left
  refine Vn2 ?_
  intro g18
  refine Vj2 ?_
  intro g20
  refine Vo2 ?_
  refine Vb5 ?_
  refine Vc1 ?_
  refine VeD ?_
  rotate_left
  refine Vn2 ?_
  intro g18
  refine Vj2 ?_
  intro g20
  refine Vo2 ?_
  refine Vx5 ?_
  refine Vc1 ?_
  all_goals
   refine VdD ?_
   refine Vc1 ?_
   refine Vg4 ?_
   refine⟨_,(YfZ (YfV (YfV (Yg0 _) rfl) rfl) _),_,_,_,_,_,_,_,_,_,_,_,trivial,_,(congrArg (St.mk _) (Y01 (YfW rfl (YfW rfl (YfW rfl (YfW rfl (YfW rfl (YfW rfl (YfW rfl Yg3)))))))).symm)⟩
 rintro _ ⟨ga0,ga1,ga2,gb0,gb1,gb2,gs3,gs4,gt3,gt4,gq,-,m0,rfl⟩
 refine Vf ?_
 refine VfD ?_
 rw[show ((4:Int)+1)=5 from rfl]
 refine Vd5 ?_
 refine VkC ?_
 rw[show (decide ((5:Int)<6))=true from rfl]
 refine Vu6 ?_
 refine Ygk YfX (fun st=>∃ ga0 ga1 ga2 gb0 gb1 gb2 gs3 gs4 gs5 gt3 gt4 gt5 gq:Nat,(True)∧∃ m0,st=⟨(updS (updS (fun _=>LV.undef) 3 (.ref 576 gq 0 0)) 10 (.int .i64 5)),effM m0 [(800000,⟨ga0,false,.var,1,[[.nils]]⟩),(800001,⟨ga1,false,.var,1,[[.nils]]⟩),(800002,⟨ga2,false,.var,1,[[.nils]]⟩),(800010,⟨gb0,false,.var,1,[[.nils]]⟩),(800011,⟨gb1,false,.var,1,[[.nils]]⟩),(800012,⟨gb2,false,.var,1,[[.nils]]⟩),(576,⟨gq,false,.var,23,[ic I++(kp (newP I)++[.ref 800000 ga0 0 0,.ref 800001 ga1 0 0,.ref 800002 ga2 0 0,.ref 1152 gs3 0 0,.ref 1152 gs4 0 0,.ref 1152 gs5 0 0,.ref 800010 gb0 0 0,.ref 800011 gb1 0 0,.ref 800012 gb2 0 0,.ref 1280 gt3 0 0,.ref 1280 gt4 0 0,.ref 1280 gt5 0 0])]⟩)]⟩) ?_ ?_
 refine Vo0 ?_
 refine Vp ?_
 refine Vy ?_
 ·refine Wp.regAlt3 11 12 13 (fun k=>bif Nat.beq k 11 then 12 else bif Nat.beq k 12 then 11 else k) (fun k=>bif Nat.beq k 11 then 12 else bif Nat.beq k 12 then 11 else k) (fun k=>bif Nat.beq k 11 then 12 else bif Nat.beq k 12 then 13 else bif Nat.beq k 13 then 11 else k) (fun k=>bif Nat.beq k 12 then 11 else bif Nat.beq k 13 then 12 else bif Nat.beq k 11 then 13 else k) (by decide) (by decide) (by decide) (by decide) (by decide) (by kernel_rfl) (by kernel_rfl) (by kernel_rfl) ?_ ?_ ?_
  refine Vn2 ?_
  intro g18
  refine Vj2 ?_
  intro g20
  refine Vo2 ?_
  refine Vc1 ?_
  refine Vx5 ?_
  rotate_left
  refine Vn2 ?_
  intro g18
  refine Vj2 ?_
  intro g20
  refine Vo2 ?_
  refine Vb5 ?_
  refine Vc1 ?_
  refine VeD ?_
  rotate_left
  refine Vn2 ?_
  intro g18
  refine Vj2 ?_
  intro g20
  refine Vo2 ?_
  refine Vx5 ?_
  refine Vc1 ?_
  all_goals
   refine VdD ?_
   refine Vc1 ?_
   refine Vg4 ?_
   refine⟨_,(YfZ (YfV (YfV (Yg0 _) rfl) rfl) _),_,_,_,_,_,_,_,_,_,_,_,_,_,trivial,_,(congrArg (St.mk _) (Y01 (YfW rfl (YfW rfl (YfW rfl (YfW rfl (YfW rfl (YfW rfl (YfW rfl Yg3)))))))).symm)⟩
 rintro _ ⟨ga0,ga1,ga2,gb0,gb1,gb2,gs3,gs4,gs5,gt3,gt4,gt5,gq,-,m0,rfl⟩
 refine Vf ?_
 refine VfD ?_
 rw[show ((5:Int)+1)=6 from rfl]
 refine Vd5 ?_
 refine VkC ?_
 rw[show (decide ((6:Int)<6))=false from rfl]
 refine Vk6 ?_
 refine Vw1 ?_
 refine Vh3 ?_
 refine Va0 ?_
 refine goWeak (Ygm (Ygi (n:=800000) (c:=0) 900000 5 rfl rfl rfl rfl rfl rfl) (Ygm (Ygi (n:=800001) (c:=0) 900001 5 rfl rfl rfl rfl rfl rfl) (Ygm (Ygi (n:=800002) (c:=0) 900002 5 rfl rfl rfl rfl rfl rfl) (Ygm (Ygi (n:=800010) (c:=0) 900010 5 rfl rfl rfl rfl rfl rfl) (Ygm (Ygi (n:=800011) (c:=0) 900011 5 rfl rfl rfl rfl rfl rfl) (Ygi (n:=800012) (c:=0) 900012 5 rfl rfl rfl rfl rfl rfl)))))) ?_
 refine VrD ?_
 refine Vu4 ?_
 refine⟨_,_,_,_,.cons (.tmp rfl) .nil,.ptro rfl rfl rfl rfl rfl (.aggc (.frz (Frz.pure rfl)) (.aggc (.frz (Frz.pure rfl)) (.aggc (.frz (Frz.pure rfl)) (.aggc (.frz (Frz.pure rfl)) (.aggc (.frz (Frz.pure rfl)) (.aggc (.frz (Frz.pure rfl)) (.aggc (.frz (Frz.pure rfl)) (.aggc (.frz (Frz.pure rfl)) (.aggc (.frz (Frz.pure rfl)) (.aggc (.frz (Frz.pure rfl)) (.aggc (.frz (Frz.pure rfl)) (.aggc (.ptro rfl rfl rfl rfl rfl (.aggc (Yg4 rfl rfl rfl rfl rfl rfl rfl) .aggn)) (.aggc (.ptro rfl rfl rfl rfl rfl (.aggc (Yg4 rfl rfl rfl rfl rfl rfl rfl) .aggn)) (.aggc (.ptro rfl rfl rfl rfl rfl (.aggc (Yg4 rfl rfl rfl rfl rfl rfl rfl) .aggn)) (.aggc (.frz .refU) (.aggc (.frz .refU) (.aggc (.frz .refU) (.aggc (.ptro rfl rfl rfl rfl rfl (.aggc (Yg4 rfl rfl rfl rfl rfl rfl rfl) .aggn)) (.aggc (.ptro rfl rfl rfl rfl rfl (.aggc (Yg4 rfl rfl rfl rfl rfl rfl rfl) .aggn)) (.aggc (.ptro rfl rfl rfl rfl rfl (.aggc (Yg4 rfl rfl rfl rfl rfl rfl rfl) .aggn)) (.aggc (.frz .refU) (.aggc (.frz .refU) (.aggc (.frz .refU) .aggn))))))))))))))))))))))),(by decide),(by simp),?_⟩
 rfl
def oddL:List ByteArray:=[(ByteArray.mk #[]),(ByteArray.mk #[32]),(ByteArray.mk #[97,100,100]),(ByteArray.mk #[100,101,108]),(ByteArray.mk #[100,101,108,32,120]),(ByteArray.mk #[100,101,108,32,45,49]),(ByteArray.mk #[100,101,108,32,48,49]),(ByteArray.mk #[100,101,108,32,49,48,48,48]),(ByteArray.mk #[108,111,99,107,32,49,32,50]),(ByteArray.mk #[111,112,116,32,48,32,49,32,48]),(ByteArray.mk #[111,112,116,32,50,49,32,49,32,48]),(ByteArray.mk #[117,110,100,111,32,49]),(ByteArray.mk #[80,111,111,108]),(ByteArray.mk #[32,32,99,111,115,116,32]),(ByteArray.mk #[115,104,111,119,32,32,48]),(ByteArray.mk #[109,111,118,32,49,32,48,32,48,32,48,32,48]),(ByteArray.mk #[119,104,97,116])]
theorem Y8o:∀ s∈oddL,s.size≤20:=fun s hs=>of_decide_eq_true (Yed.1 (show (oddL.all fun s=>decide (s.size≤20))=true by rfl) s hs)
theorem tq {a n:Int}(h:0≤a)(hn:1≤n): 0≤a.tdiv n∧a.tdiv n≤a:=by
 rw[Int.tdiv_eq_ediv_of_nonneg h]
 exact⟨Int.ediv_nonneg h (by omega),Int.ediv_le_self _ h⟩
section
variable {P:Program}{I:InlP}{nb:Nat}{ops:Array Oper}{K:St→Prop}{r:List Oper}{ts:Slots}{m:Mem}{t:Nat}{ty:TypeId}{pos:String}{af:Array Edge}{d:Bool}{i:Nat}{acc:List (Nat × List Nat × List Nat)}
theorem addStrE (hI:InlM I){st yt:TypeId}{x y:Operand}{a b:ByteArray}{na nb' nc:Nat}(hx:evalO ts x=.str a)(hy:evalO ts y=.str b)(h1:a.size≤na)(h2:b.size≤nb')(h3:na+nb'=nc)(h4:nc≤1000000)
   (k:∀ s:ByteArray,s.size≤nc→s=a++b→GL P I nb ops K d r (i+1) ((i,[],[])::acc) ⟨updS ts t (.str s),m⟩):GL P I nb ops K d (⟨some t,.binOp .add st x y yt,ty,pos,af,none⟩::r) i acc ⟨ts,m⟩ :=
 GL.addStr hI hx hy (by omega) (k _ (by rw[ByteArray.size_append];omega) rfl)
end
def xS (I:Inst)(n:Int): Int:=within n ((I.stops.length:Int)+1)+(within (n.tdiv 50) 20).tdiv 18
def yS (I:Inst)(n m:Int): Int:=within m ((I.cars.length:Int)+(within (n.tdiv 31) 8).tdiv 7)
def szS (p:Plan)(y:Int): Int:=if 0≤y∧y<p.routes.length then ((p.routes.getD y.toNat default).length:Int) else 0
def pl1 (n x y sz:Int): ByteArray:=sp++digS x++sp++digS y++sp++digS (within (n.tdiv 11) (sz+1)+(within (n.tdiv 67) 20).tdiv 19)
def pl2 (I:Inst)(n x y sz:Int): ByteArray:=if first I.pairs x=true then pl1 n x y sz else sp++digS (mate I.pairs x)++sp++digS y++sp++digS (within (n.tdiv 11) (sz+1))
def pl3 (I:Inst)(n m x y sz:Int): ByteArray:=if mate I.pairs x>0∧within (n.tdiv 5) 9<8 then pl2 I n x y sz++(sp++digS (within (n.tdiv 11) (sz+1)+1+(within (m.tdiv 5) (sz+1)).tdiv 2)) else pl1 n x y sz
def optS1 (n m y:Int): ByteArray:=(ByteArray.mk #[111,112,116,32])++digS (1+within n 12)++sp++digS (within m 1000)++sp++digS y
def optS (I:Inst)(n m y:Int): ByteArray:=if within n 3>0 then optS1 n m y++(sp++digS (within (m.tdiv 7) ((I.cars.length:Int)+1))) else optS1 n m y
def lineL (I:Inst)(n m x y sz:Int): List ByteArray:=[(ByteArray.mk #[97,100,100])++pl3 I n m x y sz,(ByteArray.mk #[97,100,100])++pl3 I n m x y sz,(ByteArray.mk #[97,100,100])++pl3 I n m x y sz,(ByteArray.mk #[97,100,100])++pl3 I n m x y sz,(ByteArray.mk #[97,100,100])++pl3 I n m x y sz,(ByteArray.mk #[97,100,100])++pl3 I n m x y sz,(ByteArray.mk #[97,100,100])++pl3 I n m x y sz,(ByteArray.mk #[97,100,100])++pl3 I n m x y sz,(ByteArray.mk #[100,101,108,32])++digS x,(ByteArray.mk #[100,101,108,32])++digS x,(ByteArray.mk #[109,111,118])++pl3 I n m x y sz,(ByteArray.mk #[109,111,118])++pl3 I n m x y sz,(ByteArray.mk #[109,111,118])++pl3 I n m x y sz,(ByteArray.mk #[108,111,99,107,32])++digS x,(ByteArray.mk #[102,114,101,101,32])++digS x,(ByteArray.mk #[105,99,101,32])++digS y,(ByteArray.mk #[116,104,97,119,32])++digS y,optS I n m y,optS I n m y,optS I n m y,(ByteArray.mk #[117,110,100,111]),(ByteArray.mk #[117,110,100,111]),(ByteArray.mk #[117,110,100,111]),(ByteArray.mk #[114,101,100,111]),(ByteArray.mk #[114,101,100,111]),(ByteArray.mk #[115,104,111,119,32])++digS y,(ByteArray.mk #[112,111,111,108]),(ByteArray.mk #[99,111,115,116]),oddL.getD (within n 17).toNat default]
def lineS (I:Inst)(p:Plan)(k n m:Int)(s0:ByteArray): ByteArray:=(lineL I n m (xS I n) (yS I n m) (szS p (yS I n m))).getD (within k 30).toNat s0
theorem tq1 {a n:Int}(h:0≤a)(hn:1≤n)(h2:a<2*n): a.tdiv n≤1:=by
 rw[Int.tdiv_eq_ediv_of_nonneg h]
 have:=(Int.ediv_lt_iff_lt_mul (show 0<n by omega)).2 h2
 omega
theorem Ydy {I:Inst}(h:I.stops.length≤10)(n:Int): 0≤xS I n∧xS I n≤11:=by
 have w1:=Y03 (a:=n) (n:=(I.stops.length:Int)+1) (by omega)
 have w2:=Y03 (a:=n.tdiv 50) (n:=20) (by omega)
 have q2:=tq (n:=18) w2.1 (by omega)
 have q3:=tq1 (n:=18) w2.1 (by omega) (by omega)
 unfold xS
 omega
theorem Ydx {I:Inst}(h:1≤I.cars.length∧I.cars.length≤3)(n m:Int): 0≤yS I n m∧yS I n m≤4:=by
 have w3:=Y03 (a:=n.tdiv 31) (n:=8) (by omega)
 have q3:=tq (n:=7) w3.1 (by omega)
 have q4:=tq1 (n:=7) w3.1 (by omega) (by omega)
 have w4:=Y03 (a:=m) (n:=(I.cars.length:Int)+(within (n.tdiv 31) 8).tdiv 7) (by omega)
 unfold yS
 omega
theorem Ycj {p:Plan}(h:∀ r∈p.routes,r.length≤100)(y:Int): 0≤szS p y∧szS p y≤100:=by
 unfold szS
 split
 have:=h _ (Y02 (l:=p.routes) (j:=y.toNat) (by omega))
 omega
 omega
theorem YcN (I:Inst)(N:Nat)(hb:Sb I N)(hsd:Sd I)(hs:I.Short)(hcI:checkB I=true)(p:Plan)(hp:GoodP I p)(k n m:Int)(hn:In n)(hm:In m)(s0:ByteArray): CallsV Try.prog 35 [ei I,.agg (kp p),.int .i64 k,.int .i64 n,.int .i64 m,.str s0] (.str (lineS I p k n m s0)):=by
 refine Yg2 (Yga _) mix Try.func35 rfl rfl (by simp[Try.f35]) (by kernel_rfl) (nb:=0) ?_
 unfold Try.f35
 refine Ve ?_
 have hpo:=hp.okP hcI
 have hr100:=hp.r100 hcI
 have h20:=hp.h20 hcI
 have hst:=Y0V hcI
 have hca:=Y1b hcI
 unfold In at hn hm
 refine Vy3 ?_
 intro g6
 refine Vo ?_
 intro g7
 refine Vn ?_
 refine Vn ?_
 refine Vy ?_
 refine Ygk YfX (fun st=>∃ x y:Int,(x=xS I n∧y=yS I n m)∧∃ m0,st=⟨(updS (updS (updS (updS (updS (updS (updS (updS (updS (updS (fun _=>LV.undef) 2 (.int .i64 k)) 3 (.int .i64 n)) 4 (.int .i64 m)) 5 (.str s0)) 6 (.ref 384 g6 0 0)) 7 (.ref 448 g7 0 0)) 13 (.fn 24 [])) 14 (.fn 61 [])) 15 (.int .i64 x)) 16 (.int .i64 y)),effM m0 [(384,⟨g6,false,.var,4,[ic I]⟩),(448,⟨g7,false,.var,7,[kp p]⟩)]⟩) ?_ ?_
 have w1:=Y03 (a:=n) (n:=(I.stops.length:Int)+1) (by omega)
 have w2:=Y03 (a:=n.tdiv 50) (n:=20) (by omega)
 have q2:=tq (n:=18) w2.1 (by omega)
 have q2b:=tq1 (n:=18) w2.1 (by omega) (by omega)
 have w3:=Y03 (a:=n.tdiv 31) (n:=8) (by omega)
 have q3:=tq (n:=7) w3.1 (by omega)
 have q3b:=tq1 (n:=7) w3.1 (by omega) (by omega)
 have w4:=Y03 (a:=m) (n:=(I.cars.length:Int)+(within (n.tdiv 31) 8).tdiv 7) (by omega)
 refine Vq4 ?_
 refine Vo1 ?_
 refine Vs7 ?_
 refine Vr2 ?_
 refine Vr4 ?_
 refine Vr2 ?_
 refine Vp1 ?_
 refine Vv ?_
 refine Vg ?_
 refine Vw ?_
 refine Vr0 ?_
 refine Vr4 ?_
 refine Vr2 ?_
 refine Vp1 ?_
 refine Vv ?_
 refine Vr2 ?_
 refine Vr5 ?_
 refine Vp0 ?_
 refine⟨_,(YfZ (YfV (YfV (YfV (YfV (YfV (YfV (YfV (YfV (YfV (YfV (Yg0 _) rfl) rfl) rfl) rfl) rfl) rfl) rfl) rfl) rfl) rfl) _),_,_,⟨rfl,rfl⟩,_,(congrArg (St.mk _) (Y01 (YfW rfl (YfW rfl Yg3))).symm)⟩
 rintro _ ⟨x,y,⟨hx,hy⟩,m0,rfl⟩
 have hx2:=Ydy hst n
 have hy2:=Ydx hca n m
 rw[← hx] at hx2
 rw[← hy] at hy2
 refine Vc ?_
 refine Vy ?_
 refine Ygk YfX (fun st=>∃ sz:Int,(sz=szS p y)∧∃ m0,st=⟨(updS (updS (updS (updS (updS (updS (updS (updS (updS (updS (updS (fun _=>LV.undef) 2 (.int .i64 k)) 3 (.int .i64 n)) 4 (.int .i64 m)) 5 (.str s0)) 6 (.ref 384 g6 0 0)) 7 (.ref 448 g7 0 0)) 13 (.fn 24 [])) 14 (.fn 61 [])) 15 (.int .i64 x)) 16 (.int .i64 y)) 17 (.int .i64 sz)),effM m0 [(384,⟨g6,false,.var,4,[ic I]⟩),(448,⟨g7,false,.var,7,[kp p]⟩)]⟩) ?_ ?_
 refine Vp ?_
 refine Vm ?_
 refine Yg1 47 rfl (fun h47=>?_) (fun h47=>?_)
 rw[h47]
 replace h47:=of_decide_eq_true h47
 refine Vc4 ?_
 refine Vm8 ?_
 refine VrB ?_
 refine cD (fun h53=>?_) fun h53=>?_
 have hrow:=hr100 _ (Y02 (l:=p.routes) (j:=y.toNat) (by omega))
 refine Vf ?_
 refine Vw ?_
 refine Va ?_
 refine VdI ?_
 refine Vr0 ?_
 refine Va0 ?_
 refine⟨_,(YfZ (YfV (YfV (YfV (YfV (YfV (YfV (YfV (YfV (YfV (YfV (YfV (Yg0 _) rfl) rfl) rfl) rfl) rfl) rfl) rfl) rfl) rfl) rfl) rfl) _),_,(by unfold szS;rw[if_pos (by omega)];done),_,(congrArg (St.mk _) (Y01 (YfW rfl (YfW rfl Yg3))).symm)⟩
 refine Vh0 ?_
 refine⟨_,(YfZ (YfV (YfV (YfV (YfV (YfV (YfV (YfV (YfV (YfV (YfV (YfV (Yg0 _) rfl) rfl) rfl) rfl) rfl) rfl) rfl) rfl) rfl) rfl) rfl) _),_,(by unfold szS;rw[if_neg (by omega)];done),_,(congrArg (St.mk _) (Y01 (YfW rfl (YfW rfl Yg3))).symm)⟩
 rw[h47]
 replace h47:=of_decide_eq_false h47
 refine Vu0 ?_
 refine Ve4 ?_
 refine⟨_,(YfZ (YfV (YfV (YfV (YfV (YfV (YfV (YfV (YfV (YfV (YfV (YfV (Yg0 _) rfl) rfl) rfl) rfl) rfl) rfl) rfl) rfl) rfl) rfl) rfl) _),_,(by unfold szS;rw[if_neg (by omega)];done),_,(congrArg (St.mk _) (Y01 (YfW rfl (YfW rfl Yg3))).symm)⟩
 rintro _ ⟨sz,hz,m0,rfl⟩
 have hsz:=Ycj hr100 y
 rw[← hz] at hsz
 refine Ygk YfX (fun st=>∃ s18:ByteArray,(s18.size≤66∧s18=pl1 n x y sz)∧∃ m0,st=⟨(updS (updS (updS (updS (updS (updS (updS (updS (updS (updS (updS (updS (fun _=>LV.undef) 2 (.int .i64 k)) 3 (.int .i64 n)) 4 (.int .i64 m)) 5 (.str s0)) 6 (.ref 384 g6 0 0)) 7 (.ref 448 g7 0 0)) 13 (.fn 24 [])) 14 (.fn 61 [])) 15 (.int .i64 x)) 16 (.int .i64 y)) 17 (.int .i64 sz)) 18 (.str s18)),effM m0 [(384,⟨g6,false,.var,4,[ic I]⟩),(448,⟨g7,false,.var,7,[kp p]⟩)]⟩) ?_ ?_
 have wa:=Y03 (a:=n.tdiv 11) (n:=sz+1) (by omega)
 have wb:=Y03 (a:=n.tdiv 67) (n:=20) (by omega)
 have qb:=tq (n:=19) wb.1 (by omega)
 refine Vv0 ?_
 refine Vx1 ?_
 refine VbD ?_
 intro s63 z63 e63
 refine VuM ?_
 intro s64 z64 e64
 refine Vg ?_
 refine Vx1 ?_
 refine VvM ?_
 intro s68 z68 e68
 refine VwM ?_
 intro s69 z69 e69
 refine Vj1 ?_
 refine Vp1 ?_
 refine Va ?_
 refine Vv ?_
 refine Vr2 ?_
 refine Vr4 ?_
 refine Vr2 ?_
 refine Vp1 ?_
 refine Vv ?_
 refine Vx1 ?_
 refine VxM ?_
 intro s84 z84 e84
 refine Va0 ?_
 refine⟨_,(YfZ (YfV (YfV (YfV (YfV (YfV (YfV (YfV (YfV (YfV (YfV (YfV (YfV (Yg0 _) rfl) rfl) rfl) rfl) rfl) rfl) rfl) rfl) rfl) rfl) rfl) rfl) _),_,⟨z84,by rw[e84,e69,e68,e64,e63];rfl⟩,_,(congrArg (St.mk _) (Y01 (YfW rfl (YfW rfl Yg3))).symm)⟩
 rintro _ ⟨s18,⟨z18,e18⟩,m0,rfl⟩
 refine Ygk YfX (fun st=>∃ s18:ByteArray,(s18.size≤88∧s18=pl3 I n m x y sz)∧∃ m0,st=⟨(updS (updS (updS (updS (updS (updS (updS (updS (updS (updS (updS (updS (fun _=>LV.undef) 2 (.int .i64 k)) 3 (.int .i64 n)) 4 (.int .i64 m)) 5 (.str s0)) 6 (.ref 384 g6 0 0)) 7 (.ref 448 g7 0 0)) 13 (.fn 24 [])) 14 (.fn 61 [])) 15 (.int .i64 x)) 16 (.int .i64 y)) 17 (.int .i64 sz)) 18 (.str s18)),effM m0 [(384,⟨g6,false,.var,4,[ic I]⟩),(448,⟨g7,false,.var,7,[kp p]⟩)]⟩) ?_ ?_
 refine Ve ?_
 have w8:=Y03 (a:=n.tdiv 5) (n:=9) (by omega)
 refine Vf ?_
 refine Vf6 ?_
 refine Va ?_
 refine VgE ?_
 refine Vm ?_
 refine Yg1 89 rfl (fun h89=>?_) (fun h89=>?_)
 rw[h89]
 replace h89:=of_decide_eq_true h89
 refine Vg2 ?_
 refine Vp1 ?_
 refine Vb ?_
 refine Vr2 ?_
 refine Vi1 ?_
 refine cD (fun h95=>?_) fun h95=>?_
 refine Ygk YfX (fun st=>∃ s18:ByteArray,(s18.size≤66∧s18=pl2 I n x y sz)∧∃ m0,st=⟨(updS (updS (updS (updS (updS (updS (updS (updS (updS (updS (updS (updS (fun _=>LV.undef) 2 (.int .i64 k)) 3 (.int .i64 n)) 4 (.int .i64 m)) 5 (.str s0)) 6 (.ref 384 g6 0 0)) 7 (.ref 448 g7 0 0)) 13 (.fn 24 [])) 14 (.fn 61 [])) 15 (.int .i64 x)) 16 (.int .i64 y)) 17 (.int .i64 sz)) 18 (.str s18)),effM m0 [(384,⟨g6,false,.var,4,[ic I]⟩),(448,⟨g7,false,.var,7,[kp p]⟩)]⟩) ?_ ?_
 refine Vc ?_
 refine Vf6 ?_
 refine Va ?_
 refine VrL ?_
 refine Vb1 ?_
 refine Ygb rfl (fun h99=>?_) (fun h99=>?_)
 have wa:=Y03 (a:=n.tdiv 11) (n:=sz+1) (by omega)
 have hm2:=YaZ hb hsd x
 refine Vl ?_
 refine Vf6 ?_
 refine Va ?_
 refine VgE ?_
 refine Vx1 ?_
 refine VbD ?_
 intro s105 z105 e105
 refine VuM ?_
 intro s106 z106 e106
 refine Vg ?_
 refine Vx1 ?_
 refine VvM ?_
 intro s110 z110 e110
 refine VwM ?_
 intro s111 z111 e111
 refine Vj1 ?_
 refine Vp1 ?_
 refine Va ?_
 refine Vv ?_
 refine VjC ?_
 refine VxM ?_
 intro s120 z120 e120
 refine Va0 ?_
 refine⟨_,(YfZ (YfV (YfV (YfV (YfV (YfV (YfV (YfV (YfV (YfV (YfV (YfV (YfV (Yg0 _) rfl) rfl) rfl) rfl) rfl) rfl) rfl) rfl) rfl) rfl) rfl) rfl) _),_,⟨z120,by unfold pl2;rw[if_neg (by rw[nf' h99];simp),e120,e111,e110,e106,e105];first | done | rfl⟩,_,(congrArg (St.mk _) (Y01 (YfW rfl (YfW rfl Yg3))).symm)⟩
 refine Vh0 ?_
 refine⟨_,(YfZ (YfV (YfV (YfV (YfV (YfV (YfV (YfV (YfV (YfV (YfV (YfV (YfV (Yg0 _) rfl) rfl) rfl) rfl) rfl) rfl) rfl) rfl) rfl) rfl) rfl) rfl) _),_,⟨z18,by unfold pl2;rw[if_pos (nt' h99)];exact e18⟩,_,(congrArg (St.mk _) (Y01 (YfW rfl (YfW rfl Yg3))).symm)⟩
 rintro _ ⟨s18,⟨z18,e18⟩,m0,rfl⟩
 have wa:=Y03 (a:=n.tdiv 11) (n:=sz+1) (by omega)
 have wb:=Y03 (a:=m.tdiv 5) (n:=sz+1) (by omega)
 have qb:=tq (n:=2) wb.1 (by omega)
 refine Vv0 ?_
 refine Vr4 ?_
 refine Va ?_
 refine Vv ?_
 refine Vr2 ?_
 refine Vv ?_
 refine Vr4 ?_
 refine Va ?_
 refine Vv ?_
 refine Vr2 ?_
 refine Vp1 ?_
 refine Vv ?_
 refine Vx1 ?_
 refine VbD ?_
 intro s139 z139 e139
 refine addStrE YfX (na:=66) (nb':=22) (nc:=88) rfl rfl (by assumption) (by assumption) rfl (by decide) ?_
 intro s140 z140 e140
 refine Va0 ?_
 refine⟨_,(YfZ (YfV (YfV (YfV (YfV (YfV (YfV (YfV (YfV (YfV (YfV (YfV (YfV (Yg0 _) rfl) rfl) rfl) rfl) rfl) rfl) rfl) rfl) rfl) rfl) rfl) rfl) _),_,⟨z140,by unfold pl3;rw[if_pos (by omega),e140,e139,e18];first | done | rfl⟩,_,(congrArg (St.mk _) (Y01 (YfW rfl (YfW rfl Yg3))).symm)⟩
 refine Vh0 ?_
 refine⟨_,(YfZ (YfV (YfV (YfV (YfV (YfV (YfV (YfV (YfV (YfV (YfV (YfV (YfV (Yg0 _) rfl) rfl) rfl) rfl) rfl) rfl) rfl) rfl) rfl) rfl) rfl) rfl) _),_,⟨Ye5 z18 (by decide),by unfold pl3;rw[if_neg (by omega)];exact e18⟩,_,(congrArg (St.mk _) (Y01 (YfW rfl (YfW rfl Yg3))).symm)⟩
 rw[h89]
 replace h89:=of_decide_eq_false h89
 refine Vu0 ?_
 refine Ve4 ?_
 refine⟨_,(YfZ (YfV (YfV (YfV (YfV (YfV (YfV (YfV (YfV (YfV (YfV (YfV (YfV (Yg0 _) rfl) rfl) rfl) rfl) rfl) rfl) rfl) rfl) rfl) rfl) rfl) rfl) _),_,⟨Ye5 z18 (by decide),by unfold pl3;rw[if_neg (by omega)];exact e18⟩,_,(congrArg (St.mk _) (Y01 (YfW rfl (YfW rfl Yg3))).symm)⟩
 rintro _ ⟨s18,⟨z18,e18⟩,m0,rfl⟩
 refine Vk5 ?_
 refine Vr2 ?_
 refine Vs2 ?_
 refine Vz8 ?_
 refine Ygb rfl (fun h144=>?_) (fun h144=>?_)
 rw[h144]
 replace h144:=of_decide_eq_true h144
 refine Vo9 ?_
 intro s154 z154 e154
 refine Vk1 ?_
 show LV.str _=LV.str (lineS I p k n m s0)
 congr 1
 unfold lineS
 rw[← hx,← hy,← hz]
 (rw[show within k 30=0 by omega];first | rfl | (subst_vars;rfl))
 rw[h144]
 replace h144:=of_decide_eq_false h144
 refine Vr ?_
 refine Ygb rfl (fun h144=>?_) (fun h144=>?_)
 rw[h144]
 replace h144:=of_decide_eq_true h144
 refine Vo9 ?_
 intro s154 z154 e154
 refine Vk1 ?_
 show LV.str _=LV.str (lineS I p k n m s0)
 congr 1
 unfold lineS
 rw[← hx,← hy,← hz]
 (rw[show within k 30=1 by omega];first | rfl | (subst_vars;rfl))
 rw[h144]
 replace h144:=of_decide_eq_false h144
 refine Vr ?_
 refine Ygb rfl (fun h144=>?_) (fun h144=>?_)
 rw[h144]
 replace h144:=of_decide_eq_true h144
 refine Vo9 ?_
 intro s154 z154 e154
 refine Vk1 ?_
 show LV.str _=LV.str (lineS I p k n m s0)
 congr 1
 unfold lineS
 rw[← hx,← hy,← hz]
 (rw[show within k 30=2 by omega];first | rfl | (subst_vars;rfl))
 rw[h144]
 replace h144:=of_decide_eq_false h144
 refine Vr ?_
 refine Ygb rfl (fun h144=>?_) (fun h144=>?_)
 rw[h144]
 replace h144:=of_decide_eq_true h144
 refine Vo9 ?_
 intro s154 z154 e154
 refine Vk1 ?_
 show LV.str _=LV.str (lineS I p k n m s0)
 congr 1
 unfold lineS
 rw[← hx,← hy,← hz]
 (rw[show within k 30=3 by omega];first | rfl | (subst_vars;rfl))
 rw[h144]
 replace h144:=of_decide_eq_false h144
 refine Vr ?_
 refine Ygb rfl (fun h144=>?_) (fun h144=>?_)
 rw[h144]
 replace h144:=of_decide_eq_true h144
 refine Vo9 ?_
 intro s154 z154 e154
 refine Vk1 ?_
 show LV.str _=LV.str (lineS I p k n m s0)
 congr 1
 unfold lineS
 rw[← hx,← hy,← hz]
 (rw[show within k 30=4 by omega];first | rfl | (subst_vars;rfl))
 rw[h144]
 replace h144:=of_decide_eq_false h144
 refine Vr ?_
 refine Ygb rfl (fun h144=>?_) (fun h144=>?_)
 rw[h144]
 replace h144:=of_decide_eq_true h144
 refine Vo9 ?_
 intro s154 z154 e154
 refine Vk1 ?_
 show LV.str _=LV.str (lineS I p k n m s0)
 congr 1
 unfold lineS
 rw[← hx,← hy,← hz]
 (rw[show within k 30=5 by omega];first | rfl | (subst_vars;rfl))
 rw[h144]
 replace h144:=of_decide_eq_false h144
 refine Vr ?_
 refine Ygb rfl (fun h144=>?_) (fun h144=>?_)
 rw[h144]
 replace h144:=of_decide_eq_true h144
 refine Vo9 ?_
 intro s154 z154 e154
 refine Vk1 ?_
 show LV.str _=LV.str (lineS I p k n m s0)
 congr 1
 unfold lineS
 rw[← hx,← hy,← hz]
 (rw[show within k 30=6 by omega];first | rfl | (subst_vars;rfl))
 rw[h144]
 replace h144:=of_decide_eq_false h144
 refine VvA ?_
 refine Ygb rfl (fun h144=>?_) (fun h144=>?_)
 rw[h144]
 replace h144:=of_decide_eq_true h144
 refine Vp ?_
 refine VyM ?_
 intro s154 z154 e154
 refine Vk1 ?_
 show LV.str _=LV.str (lineS I p k n m s0)
 congr 1
 unfold lineS
 rw[← hx,← hy,← hz]
 (rw[show within k 30=7 by omega];first | rfl | (subst_vars;rfl))
 rw[h144]
 replace h144:=of_decide_eq_false h144
 refine Vz8 ?_
 refine Ygb rfl (fun h155=>?_) (fun h155=>?_)
 rw[h155]
 replace h155:=of_decide_eq_true h155
 refine VhO ?_
 refine Va ?_
 refine Vx1 ?_
 refine VcD ?_
 intro s161 z161 e161
 refine Vk1 ?_
 show LV.str _=LV.str (lineS I p k n m s0)
 congr 1
 unfold lineS
 rw[← hx,← hy,← hz]
 (rw[show within k 30=8 by omega];first | rfl | (subst_vars;rfl))
 rw[h155]
 replace h155:=of_decide_eq_false h155
 refine VvA ?_
 refine Ygb rfl (fun h155=>?_) (fun h155=>?_)
 rw[h155]
 replace h155:=of_decide_eq_true h155
 refine Vo4 ?_
 refine Vx1 ?_
 refine VcD ?_
 intro s161 z161 e161
 refine Vk1 ?_
 show LV.str _=LV.str (lineS I p k n m s0)
 congr 1
 unfold lineS
 rw[← hx,← hy,← hz]
 (rw[show within k 30=9 by omega];first | rfl | (subst_vars;rfl))
 rw[h155]
 replace h155:=of_decide_eq_false h155
 refine Vz8 ?_
 refine Ygb rfl (fun h162=>?_) (fun h162=>?_)
 rw[h162]
 replace h162:=of_decide_eq_true h162
 refine Vo9 ?_
 intro s167 z167 e167
 refine Vk1 ?_
 show LV.str _=LV.str (lineS I p k n m s0)
 congr 1
 unfold lineS
 rw[← hx,← hy,← hz]
 (rw[show within k 30=10 by omega];first | rfl | (subst_vars;rfl))
 rw[h162]
 replace h162:=of_decide_eq_false h162
 refine Vr ?_
 refine Ygb rfl (fun h162=>?_) (fun h162=>?_)
 rw[h162]
 replace h162:=of_decide_eq_true h162
 refine Vo9 ?_
 intro s167 z167 e167
 refine Vk1 ?_
 show LV.str _=LV.str (lineS I p k n m s0)
 congr 1
 unfold lineS
 rw[← hx,← hy,← hz]
 (rw[show within k 30=11 by omega];first | rfl | (subst_vars;rfl))
 rw[h162]
 replace h162:=of_decide_eq_false h162
 refine VvA ?_
 refine Ygb rfl (fun h162=>?_) (fun h162=>?_)
 rw[h162]
 replace h162:=of_decide_eq_true h162
 refine Vp ?_
 refine VyM ?_
 intro s167 z167 e167
 refine Vk1 ?_
 show LV.str _=LV.str (lineS I p k n m s0)
 congr 1
 unfold lineS
 rw[← hx,← hy,← hz]
 (rw[show within k 30=12 by omega];first | rfl | (subst_vars;rfl))
 rw[h162]
 replace h162:=of_decide_eq_false h162
 refine Vr ?_
 refine Ygb rfl (fun h168=>?_) (fun h168=>?_)
 rw[h168]
 replace h168:=of_decide_eq_true h168
 refine Vo4 ?_
 refine Vx1 ?_
 refine VyF ?_
 intro s173 z173 e173
 refine Vk1 ?_
 show LV.str _=LV.str (lineS I p k n m s0)
 congr 1
 unfold lineS
 rw[← hx,← hy,← hz]
 (rw[show within k 30=13 by omega];first | rfl | (subst_vars;rfl))
 rw[h168]
 replace h168:=of_decide_eq_false h168
 refine Vr ?_
 refine Ygb rfl (fun h174=>?_) (fun h174=>?_)
 rw[h174]
 replace h174:=of_decide_eq_true h174
 refine Vo4 ?_
 refine Vx1 ?_
 refine VyF ?_
 intro s179 z179 e179
 refine Vk1 ?_
 show LV.str _=LV.str (lineS I p k n m s0)
 congr 1
 unfold lineS
 rw[← hx,← hy,← hz]
 (rw[show within k 30=14 by omega];first | rfl | (subst_vars;rfl))
 rw[h174]
 replace h174:=of_decide_eq_false h174
 refine Vr ?_
 refine Ygb rfl (fun h180=>?_) (fun h180=>?_)
 rw[h180]
 replace h180:=of_decide_eq_true h180
 refine Vo4 ?_
 refine Vx1 ?_
 refine VcD ?_
 intro s185 z185 e185
 refine Vk1 ?_
 show LV.str _=LV.str (lineS I p k n m s0)
 congr 1
 unfold lineS
 rw[← hx,← hy,← hz]
 (rw[show within k 30=15 by omega];first | rfl | (subst_vars;rfl))
 rw[h180]
 replace h180:=of_decide_eq_false h180
 refine Vr ?_
 refine Ygb rfl (fun h186=>?_) (fun h186=>?_)
 rw[h186]
 replace h186:=of_decide_eq_true h186
 refine Vo4 ?_
 refine Vx1 ?_
 refine VyF ?_
 intro s191 z191 e191
 refine Vk1 ?_
 show LV.str _=LV.str (lineS I p k n m s0)
 congr 1
 unfold lineS
 rw[← hx,← hy,← hz]
 (rw[show within k 30=16 by omega];first | rfl | (subst_vars;rfl))
 rw[h186]
 replace h186:=of_decide_eq_false h186
 refine Vz8 ?_
 refine Ygb rfl (fun h192=>?_) (fun h192=>?_)
 rw[h192]
 replace h192:=of_decide_eq_true h192
 refine Vl1 ?_
 refine Vp2 ?_
 refine Ygk YfX (fun st=>∃ s19:ByteArray,(s19.size≤69∧s19=optS1 n m y)∧∃ m0,st=⟨(updS (updS (updS (updS (updS (updS (updS (updS (updS (updS (updS (updS (updS (fun _=>LV.undef) 2 (.int .i64 k)) 3 (.int .i64 n)) 4 (.int .i64 m)) 5 (.str s0)) 6 (.ref 384 g6 0 0)) 7 (.ref 448 g7 0 0)) 13 (.fn 24 [])) 14 (.fn 61 [])) 15 (.int .i64 x)) 16 (.int .i64 y)) 17 (.int .i64 sz)) 18 (.str s18)) 19 (.str s19)),effM m0 [(384,⟨g6,false,.var,4,[ic I]⟩),(448,⟨g7,false,.var,7,[kp p]⟩)]⟩) ?_ ?_
 have wa:=Y03 (a:=n) (n:=12) (by omega)
 have wb:=Y03 (a:=m) (n:=1000) (by omega)
 refine Vv0 ?_
 refine Va ?_
 refine Vr2 ?_
 refine Vv ?_
 refine Vx1 ?_
 refine VcD ?_
 intro s202 z202 e202
 refine VpH ?_
 intro s203 z203 e203
 refine Vj1 ?_
 refine VjC ?_
 refine VqH ?_
 intro s209 z209 e209
 refine VrH ?_
 intro s210 z210 e210
 refine Vg ?_
 refine Vx1 ?_
 refine VsH ?_
 intro s214 z214 e214
 refine Va0 ?_
 refine⟨_,(YfZ (YfV (YfV (YfV (YfV (YfV (YfV (YfV (YfV (YfV (YfV (YfV (YfV (YfV (Yg0 _) rfl) rfl) rfl) rfl) rfl) rfl) rfl) rfl) rfl) rfl) rfl) rfl) rfl) _),_,⟨z214,by rw[e214,e210,e209,e203,e202];rfl⟩,_,(congrArg (St.mk _) (Y01 (YfW rfl (YfW rfl Yg3))).symm)⟩
 rintro _ ⟨s19,⟨z19,e19⟩,m0,rfl⟩
 refine Ygk YfX (fun st=>∃ s19:ByteArray,(s19=optS I n m y)∧∃ m0,st=⟨(updS (fun _=>LV.undef) 19 (.str s19)),effM m0 []⟩) ?_ ?_
 refine Vo4 ?_
 refine Vr2 ?_
 refine Vk ?_
 refine Ygb rfl (fun h218=>?_) (fun h218=>?_)
 rw[h218]
 replace h218:=of_decide_eq_true h218
 have wa:=Y03 (a:=m.tdiv 7) (n:=(I.cars.length:Int)+1) (by omega)
 refine Vv0 ?_
 refine Vr4 ?_
 refine Vw ?_
 refine Vs7 ?_
 refine VjC ?_
 refine VbD ?_
 intro s230 z230 e230
 refine VtH ?_
 intro s231 z231 e231
 refine Va0 ?_
 refine⟨_,(YfZ (YfV (Yg0 _) rfl) _),_,(by unfold optS;rw[if_pos (by omega),e231,e230,e19];first | done | rfl),_,(congrArg (St.mk _) (Y01 Yg3).symm)⟩
 rw[h218]
 replace h218:=of_decide_eq_false h218
 refine Vh0 ?_
 refine⟨_,(YfZ (YfV (Yg0 _) rfl) _),_,(by unfold optS;rw[if_neg (by omega)];exact e19),_,(congrArg (St.mk _) (Y01 Yg3).symm)⟩
 rintro _ ⟨s19,e19,m0,rfl⟩
 refine Vp ?_
 refine Vk1 ?_
 show LV.str _=LV.str (lineS I p k n m s0)
 congr 1
 unfold lineS
 rw[← hx,← hy,← hz]
 (rw[show within k 30=17 by omega];first | rfl | (subst_vars;rfl))
 rw[h192]
 replace h192:=of_decide_eq_false h192
 refine Vr ?_
 refine Ygb rfl (fun h192=>?_) (fun h192=>?_)
 rw[h192]
 replace h192:=of_decide_eq_true h192
 refine Vl1 ?_
 refine Vp2 ?_
 refine Ygk YfX (fun st=>∃ s19:ByteArray,(s19.size≤69∧s19=optS1 n m y)∧∃ m0,st=⟨(updS (updS (updS (updS (updS (updS (updS (updS (updS (updS (updS (updS (updS (fun _=>LV.undef) 2 (.int .i64 k)) 3 (.int .i64 n)) 4 (.int .i64 m)) 5 (.str s0)) 6 (.ref 384 g6 0 0)) 7 (.ref 448 g7 0 0)) 13 (.fn 24 [])) 14 (.fn 61 [])) 15 (.int .i64 x)) 16 (.int .i64 y)) 17 (.int .i64 sz)) 18 (.str s18)) 19 (.str s19)),effM m0 [(384,⟨g6,false,.var,4,[ic I]⟩),(448,⟨g7,false,.var,7,[kp p]⟩)]⟩) ?_ ?_
 have wa:=Y03 (a:=n) (n:=12) (by omega)
 have wb:=Y03 (a:=m) (n:=1000) (by omega)
 refine Vv0 ?_
 refine Va ?_
 refine Vr2 ?_
 refine Vv ?_
 refine Vx1 ?_
 refine VcD ?_
 intro s202 z202 e202
 refine VpH ?_
 intro s203 z203 e203
 refine Vj1 ?_
 refine VjC ?_
 refine VqH ?_
 intro s209 z209 e209
 refine VrH ?_
 intro s210 z210 e210
 refine Vg ?_
 refine Vx1 ?_
 refine VsH ?_
 intro s214 z214 e214
 refine Va0 ?_
 refine⟨_,(YfZ (YfV (YfV (YfV (YfV (YfV (YfV (YfV (YfV (YfV (YfV (YfV (YfV (YfV (Yg0 _) rfl) rfl) rfl) rfl) rfl) rfl) rfl) rfl) rfl) rfl) rfl) rfl) rfl) _),_,⟨z214,by rw[e214,e210,e209,e203,e202];rfl⟩,_,(congrArg (St.mk _) (Y01 (YfW rfl (YfW rfl Yg3))).symm)⟩
 rintro _ ⟨s19,⟨z19,e19⟩,m0,rfl⟩
 refine Ygk YfX (fun st=>∃ s19:ByteArray,(s19=optS I n m y)∧∃ m0,st=⟨(updS (fun _=>LV.undef) 19 (.str s19)),effM m0 []⟩) ?_ ?_
 refine Vo4 ?_
 refine Vr2 ?_
 refine Vk ?_
 refine Ygb rfl (fun h218=>?_) (fun h218=>?_)
 rw[h218]
 replace h218:=of_decide_eq_true h218
 have wa:=Y03 (a:=m.tdiv 7) (n:=(I.cars.length:Int)+1) (by omega)
 refine Vv0 ?_
 refine Vr4 ?_
 refine Vw ?_
 refine Vs7 ?_
 refine VjC ?_
 refine VbD ?_
 intro s230 z230 e230
 refine VtH ?_
 intro s231 z231 e231
 refine Va0 ?_
 refine⟨_,(YfZ (YfV (Yg0 _) rfl) _),_,(by unfold optS;rw[if_pos (by omega),e231,e230,e19];first | done | rfl),_,(congrArg (St.mk _) (Y01 Yg3).symm)⟩
 rw[h218]
 replace h218:=of_decide_eq_false h218
 refine Vh0 ?_
 refine⟨_,(YfZ (YfV (Yg0 _) rfl) _),_,(by unfold optS;rw[if_neg (by omega)];exact e19),_,(congrArg (St.mk _) (Y01 Yg3).symm)⟩
 rintro _ ⟨s19,e19,m0,rfl⟩
 refine Vp ?_
 refine Vk1 ?_
 show LV.str _=LV.str (lineS I p k n m s0)
 congr 1
 unfold lineS
 rw[← hx,← hy,← hz]
 (rw[show within k 30=18 by omega];first | rfl | (subst_vars;rfl))
 rw[h192]
 replace h192:=of_decide_eq_false h192
 refine VvA ?_
 refine Ygb rfl (fun h192=>?_) (fun h192=>?_)
 rw[h192]
 replace h192:=of_decide_eq_true h192
 refine Ygk YfX (fun st=>∃ s19:ByteArray,(s19.size≤69∧s19=optS1 n m y)∧∃ m0,st=⟨(updS (updS (updS (updS (updS (updS (updS (updS (updS (updS (updS (updS (updS (fun _=>LV.undef) 2 (.int .i64 k)) 3 (.int .i64 n)) 4 (.int .i64 m)) 5 (.str s0)) 6 (.ref 384 g6 0 0)) 7 (.ref 448 g7 0 0)) 13 (.fn 24 [])) 14 (.fn 61 [])) 15 (.int .i64 x)) 16 (.int .i64 y)) 17 (.int .i64 sz)) 18 (.str s18)) 19 (.str s19)),effM m0 [(384,⟨g6,false,.var,4,[ic I]⟩),(448,⟨g7,false,.var,7,[kp p]⟩)]⟩) ?_ ?_
 have wa:=Y03 (a:=n) (n:=12) (by omega)
 have wb:=Y03 (a:=m) (n:=1000) (by omega)
 refine Vv0 ?_
 refine Va ?_
 refine Vr2 ?_
 refine Vv ?_
 refine Vx1 ?_
 refine VcD ?_
 intro s202 z202 e202
 refine VpH ?_
 intro s203 z203 e203
 refine Vj1 ?_
 refine VjC ?_
 refine VqH ?_
 intro s209 z209 e209
 refine VrH ?_
 intro s210 z210 e210
 refine Vg ?_
 refine Vx1 ?_
 refine VsH ?_
 intro s214 z214 e214
 refine Va0 ?_
 refine⟨_,(YfZ (YfV (YfV (YfV (YfV (YfV (YfV (YfV (YfV (YfV (YfV (YfV (YfV (YfV (Yg0 _) rfl) rfl) rfl) rfl) rfl) rfl) rfl) rfl) rfl) rfl) rfl) rfl) rfl) _),_,⟨z214,by rw[e214,e210,e209,e203,e202];rfl⟩,_,(congrArg (St.mk _) (Y01 (YfW rfl (YfW rfl Yg3))).symm)⟩
 rintro _ ⟨s19,⟨z19,e19⟩,m0,rfl⟩
 refine Ygk YfX (fun st=>∃ s19:ByteArray,(s19=optS I n m y)∧∃ m0,st=⟨(updS (fun _=>LV.undef) 19 (.str s19)),effM m0 []⟩) ?_ ?_
 refine Vo4 ?_
 refine Vr2 ?_
 refine Vk ?_
 refine Ygb rfl (fun h218=>?_) (fun h218=>?_)
 rw[h218]
 replace h218:=of_decide_eq_true h218
 have wa:=Y03 (a:=m.tdiv 7) (n:=(I.cars.length:Int)+1) (by omega)
 refine Vv0 ?_
 refine Vr4 ?_
 refine Vw ?_
 refine Vs7 ?_
 refine VjC ?_
 refine VbD ?_
 intro s230 z230 e230
 refine VtH ?_
 intro s231 z231 e231
 refine Va0 ?_
 refine⟨_,(YfZ (YfV (Yg0 _) rfl) _),_,(by unfold optS;rw[if_pos (by omega),e231,e230,e19];first | done | rfl),_,(congrArg (St.mk _) (Y01 Yg3).symm)⟩
 rw[h218]
 replace h218:=of_decide_eq_false h218
 refine Vh0 ?_
 refine⟨_,(YfZ (YfV (Yg0 _) rfl) _),_,(by unfold optS;rw[if_neg (by omega)];exact e19),_,(congrArg (St.mk _) (Y01 Yg3).symm)⟩
 rintro _ ⟨s19,e19,m0,rfl⟩
 refine Vp ?_
 refine Vk1 ?_
 show LV.str _=LV.str (lineS I p k n m s0)
 congr 1
 unfold lineS
 rw[← hx,← hy,← hz]
 (rw[show within k 30=19 by omega];first | rfl | (subst_vars;rfl))
 rw[h192]
 replace h192:=of_decide_eq_false h192
 refine Vz8 ?_
 refine Ygb rfl (fun h233=>?_) (fun h233=>?_)
 rw[h233]
 replace h233:=of_decide_eq_true h233
 refine Vl1 ?_
 refine Vp2 ?_
 refine Vr6 ?_
 show LV.str _=LV.str (lineS I p k n m s0)
 congr 1
 unfold lineS
 rw[← hx,← hy,← hz]
 (rw[show within k 30=20 by omega];first | rfl | (subst_vars;rfl))
 rw[h233]
 replace h233:=of_decide_eq_false h233
 refine Vr ?_
 refine Ygb rfl (fun h233=>?_) (fun h233=>?_)
 rw[h233]
 replace h233:=of_decide_eq_true h233
 refine Vl1 ?_
 refine Vp2 ?_
 refine Vr6 ?_
 show LV.str _=LV.str (lineS I p k n m s0)
 congr 1
 unfold lineS
 rw[← hx,← hy,← hz]
 (rw[show within k 30=21 by omega];first | rfl | (subst_vars;rfl))
 rw[h233]
 replace h233:=of_decide_eq_false h233
 refine VvA ?_
 refine Ygb rfl (fun h233=>?_) (fun h233=>?_)
 rw[h233]
 replace h233:=of_decide_eq_true h233
 refine Vr6 ?_
 show LV.str _=LV.str (lineS I p k n m s0)
 congr 1
 unfold lineS
 rw[← hx,← hy,← hz]
 (rw[show within k 30=22 by omega];first | rfl | (subst_vars;rfl))
 rw[h233]
 replace h233:=of_decide_eq_false h233
 refine Vz8 ?_
 refine Ygb rfl (fun h237=>?_) (fun h237=>?_)
 rw[h237]
 replace h237:=of_decide_eq_true h237
 refine Vl1 ?_
 refine Vp2 ?_
 refine Vr6 ?_
 show LV.str _=LV.str (lineS I p k n m s0)
 congr 1
 unfold lineS
 rw[← hx,← hy,← hz]
 (rw[show within k 30=23 by omega];first | rfl | (subst_vars;rfl))
 rw[h237]
 replace h237:=of_decide_eq_false h237
 refine VvA ?_
 refine Ygb rfl (fun h237=>?_) (fun h237=>?_)
 rw[h237]
 replace h237:=of_decide_eq_true h237
 refine Vr6 ?_
 show LV.str _=LV.str (lineS I p k n m s0)
 congr 1
 unfold lineS
 rw[← hx,← hy,← hz]
 (rw[show within k 30=24 by omega];first | rfl | (subst_vars;rfl))
 rw[h237]
 replace h237:=of_decide_eq_false h237
 refine Vr ?_
 refine Ygb rfl (fun h240=>?_) (fun h240=>?_)
 rw[h240]
 replace h240:=of_decide_eq_true h240
 refine Vo4 ?_
 refine Vx1 ?_
 refine VyF ?_
 intro s245 z245 e245
 refine Vk1 ?_
 show LV.str _=LV.str (lineS I p k n m s0)
 congr 1
 unfold lineS
 rw[← hx,← hy,← hz]
 (rw[show within k 30=25 by omega];first | rfl | (subst_vars;rfl))
 rw[h240]
 replace h240:=of_decide_eq_false h240
 refine Vr ?_
 refine Ygb rfl (fun h246=>?_) (fun h246=>?_)
 rw[h246]
 replace h246:=of_decide_eq_true h246
 refine Vr6 ?_
 show LV.str _=LV.str (lineS I p k n m s0)
 congr 1
 unfold lineS
 rw[← hx,← hy,← hz]
 (rw[show within k 30=26 by omega];first | rfl | (subst_vars;rfl))
 rw[h246]
 replace h246:=of_decide_eq_false h246
 refine Vr ?_
 refine Ygb rfl (fun h248=>?_) (fun h248=>?_)
 rw[h248]
 replace h248:=of_decide_eq_true h248
 refine Vr6 ?_
 show LV.str _=LV.str (lineS I p k n m s0)
 congr 1
 unfold lineS
 rw[← hx,← hy,← hz]
 (rw[show within k 30=27 by omega];first | rfl | (subst_vars;rfl))
 rw[h248]
 replace h248:=of_decide_eq_false h248
 refine Vr ?_
 refine Ygb rfl (fun h250=>?_) (fun h250=>?_)
 rw[h250]
 replace h250:=of_decide_eq_true h250
 refine Ve ?_
 have wa:=Y03 (a:=n) (n:=17) (by omega)
 have hol:oddL.length=17:=rfl
 have hos:=Y8o _ (Y02 (l:=oddL) (j:=(within n 17).toNat) (by omega))
 refine Vf ?_
 refine Yg9 YfX (sz:=1) (z:=[LV.str { data:={ toList:=[] } }]) (es:=em nstr oddL) rfl rfl rfl rfl (by decide) (by decide) (by decide) (FrzP.cons (S:=[]) (T:=[]) (YfY rfl) rfl (by decide) rfl (FrzP.cons (S:=[]) (T:=[]) (YfY rfl) rfl (by decide) rfl (FrzP.cons (S:=[]) (T:=[]) (YfY rfl) rfl (by decide) rfl (FrzP.cons (S:=[]) (T:=[]) (YfY rfl) rfl (by decide) rfl (FrzP.cons (S:=[]) (T:=[]) (YfY rfl) rfl (by decide) rfl (FrzP.cons (S:=[]) (T:=[]) (YfY rfl) rfl (by decide) rfl (FrzP.cons (S:=[]) (T:=[]) (YfY rfl) rfl (by decide) rfl (FrzP.cons (S:=[]) (T:=[]) (YfY rfl) rfl (by decide) rfl (FrzP.cons (S:=[]) (T:=[]) (YfY rfl) rfl (by decide) rfl (FrzP.cons (S:=[]) (T:=[]) (YfY rfl) rfl (by decide) rfl (FrzP.cons (S:=[]) (T:=[]) (YfY rfl) rfl (by decide) rfl (FrzP.cons (S:=[]) (T:=[]) (YfY rfl) rfl (by decide) rfl (FrzP.cons (S:=[]) (T:=[]) (YfY rfl) rfl (by decide) rfl (FrzP.cons (S:=[]) (T:=[]) (YfY rfl) rfl (by decide) rfl (FrzP.cons (S:=[]) (T:=[]) (YfY rfl) rfl (by decide) rfl (FrzP.cons (S:=[]) (T:=[]) (YfY rfl) rfl (by decide) rfl (FrzP.cons (S:=[]) (T:=[]) (YfY rfl) rfl (by decide) rfl (FrzP.nil)))))))))))))))))) rfl ?_
 intro g252
 refine Vg ?_
 refine Vr2 ?_
 refine VtG ?_
 refine Vz4 ?_
 refine Vk1 ?_
 show LV.str _=LV.str (lineS I p k n m s0)
 congr 1
 unfold lineS
 rw[← hx,← hy,← hz]
 (rw[show within k 30=28 by omega];first | rfl | (subst_vars;rfl))
 rw[h250]
 replace h250:=of_decide_eq_false h250
 refine VvB ?_
 refine Ve ?_
 have hk29:within k 30=29:=by have:=Y03 (a:=k) (n:=30) (by omega);omega
 refine Vl ?_
 refine Vq1 ?_
 show LV.str _=LV.str (lineS I p k n m s0)
 congr 1
 unfold lineS
 rw[← hx,← hy,← hz]
 (rw[show within k 30=29 by omega];first | rfl | (subst_vars;rfl))
theorem Y9R (I:Inst)(N:Nat)(hb:Sb I N)(hqI:Sp I)(hs:I.Short)(hcI:checkB I=true)(n:Nat)(hn:n≤1000000000000000000)(p:Plan)(hp:GoodP I p)(hv:VersIn n p)(u0 u1 u2 r0 r1 r2:List Entry)(hu0:StkOK I u0)(hu1:StkOK I u1)(hu2:StkOK I u2)(hr0:StkOK I r0)(hr1:StkOK I r1)(hr2:StkOK I r2)(line:ByteArray)(hl:line.size≤1000): CallsM Try.prog 34 [.ptro (mcs I p u0 u1 u2 r0 r1 r2),.int .i64 0,.str line,.bool false] (some 0) fun res q=>∃ (s:ByteArray) (p2:Plan) (a2 b2 c2 d2 e2 f2:List Entry),(GoodP I p2∧VersIn (n+100000000) p2∧StkOK I a2∧StkOK I b2∧StkOK I c2∧StkOK I d2∧StkOK I e2∧StkOK I f2)∧res=.str s∧q=.ptro (mcs I p2 a2 b2 c2 d2 e2 f2):=by
 refine Ygw (ls:=[.ref 500000000 0 0 0,.int .i64 0,.str line,.bool false]) (e:=[(500000002,⟨0,false,.slc,5,em ke u0⟩),(500000001,⟨0,false,.var,1,[[.own 500000002 0 0 u0.length none]]⟩),(500000004,⟨0,false,.slc,5,em ke u1⟩),(500000003,⟨0,false,.var,1,[[.own 500000004 0 0 u1.length none]]⟩),(500000006,⟨0,false,.slc,5,em ke u2⟩),(500000005,⟨0,false,.var,1,[[.own 500000006 0 0 u2.length none]]⟩),(500000008,⟨0,false,.slc,5,em ke r0⟩),(500000007,⟨0,false,.var,1,[[.own 500000008 0 0 r0.length none]]⟩),(500000010,⟨0,false,.slc,5,em ke r1⟩),(500000009,⟨0,false,.var,1,[[.own 500000010 0 0 r1.length none]]⟩),(500000012,⟨0,false,.slc,5,em ke r2⟩),(500000011,⟨0,false,.var,1,[[.own 500000012 0 0 r2.length none]]⟩),(500000000,⟨0,false,.var,23,[ic I++(kp p++[.ref 500000001 0 0 0,.ref 500000003 0 0 0,.ref 500000005 0 0 0,.undef,.undef,.undef,.ref 500000007 0 0 0,.ref 500000009 0 0 0,.ref 500000011 0 0 0,.undef,.undef,.undef])]⟩)]) (ju:=some (.ref 500000000 0 0 0)) Y22 mix Try.func34 rfl rfl (by simp[Try.f34]) (by kernel_rfl) (nb:=0) rfl (by simp[impAs,impT,impV,impC,impCs,impC0,impCs0,genAt,effM,Y00,mcs,stP,ic,kp]) (fun k hk=>by cases hk;exact⟨_,rfl,rfl⟩) (fun h=>by cases h) ?_
 unfold Try.f34
 refine Ve ?_
 have hpo:=hp.okP hcI
 refine Vq2 ?_
 refine VdC ?_
 refine Vf3 ?_
 refine Vx ?_
 refine Yg1 17 rfl (fun h17=>?_) (fun h17=>?_)
 rw[h17]
 replace h17:=of_decide_eq_true h17
 refine Vw0 ?_
 refine VgI ?_
 refine Vb9 ?_
 exact⟨_,p,u0,u1,u2,r0,r1,r2,⟨hp,hv.le (by omega),hu0,hu1,hu2,hr0,hr1,hr2⟩,rfl,rfl⟩
 rw[h17]
 replace h17:=of_decide_eq_false h17
 refine Vv6 ?_
 refine VkB ?_
 refine cD (fun h20=>?_) fun h20=>?_
 exact absurd h20 (by omega)
 refine Vh ?_
 refine VjB ?_
 refine Vj0 ?_
 refine Ygb rfl (fun h21=>?_) (fun h21=>?_)
 refine Va2 ?_
 refine VzC ?_
 refine VhB ?_
 refine Vb9 ?_
 exact⟨_,p,u0,u1,u2,r0,r1,r2,⟨hp,hv.le (by omega),hu0,hu1,hu2,hr0,hr1,hr2⟩,rfl,rfl⟩
 refine Vh ?_
 refine Vm6 ?_
 refine ViH ?_
 rintro cb hck0
 obtain⟨c,bb⟩:=cb
 have hck:bb=true→CmdP c∧(c.op=8→1≤c.budget∧c.budget≤20):=hck0
 refine Vt3 ?_
 refine VjH ?_
 intro g9
 refine VkH ?_
 refine VdC ?_
 refine GL.un Yg7 rfl ?_
 refine Vj0 ?_
 refine Ygb rfl (fun h29=>?_) (fun h29=>?_)
 refine Va2 ?_
 refine VzC ?_
 refine VhB ?_
 refine Vb9 ?_
 exact⟨_,p,u0,u1,u2,r0,r1,r2,⟨hp,hv.le (by omega),hu0,hu1,hu2,hr0,hr1,hr2⟩,rfl,rfl⟩
 have hcp:=hck (nt' h29)
 refine Vh ?_
 rcases (show c.op=9∨c.op=10∨(c.op≠9∧c.op≠10) by omega) with hop | hop | hop
 ·refine YgC Yg7 22 26 22 23 (fun k=>bif Nat.blt k 22 then k else bif Nat.beq k 22 then 26 else bif Nat.ble k 26 then k - 1 else k) (fun k=>bif Nat.blt k 22 then k else bif Nat.beq k 26 then 22 else bif Nat.blt k 26 then k+1 else k) (by decide) (by decide) (by decide) (by kernel_rfl) (by kernel_rfl) (YdK (by kernel_rfl)) (by kernel_rfl) (by kernel_rfl) (YdK (by kernel_rfl)) (by kernel_rfl) (by kernel_rfl) ?_ ?_
  refine Vc9 ?_
  refine Ygh Yg7 (args:=[ei I,.agg (kp p),.int .i64 0,.agg (kc c),stP u0,.undef]) (T:=[]) (M:=[500000001,500000002]) (u:=.ref 500000001 0 0 0) rfl (by exact .aggc (S:=[]) (T:=[]) (M:=[]) (N:=[500000001,500000002]) (.frz (YfY rfl)) (.aggc (S:=[]) (T:=[]) (M:=[]) (N:=[500000001,500000002]) (.frz (YfY rfl)) (.aggc (S:=[]) (T:=[]) (M:=[]) (N:=[500000001,500000002]) (.frz (Frz.pure rfl)) (.aggc (S:=[]) (T:=[]) (M:=[]) (N:=[500000001,500000002]) (.frz (YfY rfl)) (.aggc (S:=[]) (T:=[]) (M:=[500000001,500000002]) (N:=[]) (.ptro (M:=[500000002]) rfl rfl rfl rfl rfl (.aggc (S:=[]) (T:=[]) (M:=[500000002]) (N:=[]) (Yg4 rfl rfl rfl rfl rfl rfl (by exact (Y00 _ _).symm)) .aggn)) (.frz (Frz.aggc .refU Frz.aggn))))))) (by decide) (by simp) (Y5l I hcI p hp 0 c hop u0 (by have:=hu0.len;omega) hu0.good) rfl rfl (fun res z hr=>?_)
  obtain⟨⟨dl,hgd,rfl⟩,rfl⟩:=hr
  refine Vw5 ?_
  refine Vg7 ?_
  intro g11
  rotate_left
  refine Vd9 ?_
  intro g11
  refine Vp0 ?_
  refine Ygh Yg7 (args:=[ei I,.agg (kp p),.int .i64 0,.agg (kc c),stP u0,.undef]) (T:=[]) (M:=[500000001,500000002]) (u:=.ref 500000001 0 0 0) rfl (by exact .aggc (S:=[]) (T:=[]) (M:=[]) (N:=[500000001,500000002]) (.frz (YfY rfl)) (.aggc (S:=[]) (T:=[]) (M:=[]) (N:=[500000001,500000002]) (.frz (YfY rfl)) (.aggc (S:=[]) (T:=[]) (M:=[]) (N:=[500000001,500000002]) (.frz (Frz.pure rfl)) (.aggc (S:=[]) (T:=[]) (M:=[]) (N:=[500000001,500000002]) (.frz (YfY rfl)) (.aggc (S:=[]) (T:=[]) (M:=[500000001,500000002]) (N:=[]) (.ptro (M:=[500000002]) rfl rfl rfl rfl rfl (.aggc (S:=[]) (T:=[]) (M:=[500000002]) (N:=[]) (Yg4 rfl rfl rfl rfl rfl rfl (by exact (Y00 _ _).symm)) .aggn)) (.frz (Frz.aggc .refU Frz.aggn))))))) (by decide) (by simp) (Y5l I hcI p hp 0 c hop u0 (by have:=hu0.len;omega) hu0.good) rfl rfl (fun res z hr=>?_)
  obtain⟨⟨dl,hgd,rfl⟩,rfl⟩:=hr
  refine Vw5 ?_
  all_goals
   refine Ve9 ?_
   have hgq:(applyR p (checkD dl.1) dl.1 (tidyD dl.1)).2=0→GoodP I (applyR p (checkD dl.1) dl.1 (tidyD dl.1)).1:=Y0u hp hgd
   have hvq:(applyR p (checkD dl.1) dl.1 (tidyD dl.1)).2=0→VersIn (n+100000000) (applyR p (checkD dl.1) dl.1 (tidyD dl.1)).1:=Y0B hv hgd.ok hn
   refine Vf9 ?_
   intro g13
   refine Vg9 ?_
   refine cD (fun h67=>?_) fun h67=>?_
   refine Ve ?_
   have hap:=h67
   replace hgq:=hgq hap
   replace hvq:=hvq hap
   have hqo:=hgq.okP hcI
   have htl:=Y0O hgd.ok
   refine Vh9 ?_
   refine GL.inl Yg7 (nb':=1000000) rfl ⟨rfl,rfl,fun c hc=>?_⟩
   unfold Try.f60 at hc
   injection hc with hc
   subst hc
   refine Vp7 ?_
   intro g7
   refine Vo ?_
   intro g8
   refine Vo ?_
   intro g9
   refine Vi9 ?_
   refine cD (fun h21=>?_) fun h21=>?_
   refine Vj9 ?_
   refine YgB ?_
   refine Vp3 ?_
   refine VoM ?_
   exact⟨_,(applyR p (checkD dl.1) dl.1 (tidyD dl.1)).1,u0,u1,u2,r0,r1,r2,⟨hgq,hvq,hu0,hu1,hu2,hr0,hr1,hr2⟩,rfl,rfl⟩
   refine Vh ?_
   have hE0:=hgd.ok
   refine Vk9 ?_
   intro g15
   refine Vl9 ?_
   rw[show (c.op == 9)=true by first | (rw[hop];rfl) | exact beq_false_of_ne (by omega)]
   refine ViC ?_
   refine Ygh YfX (args:=[stP u0]) (T:=[]) (M:=[500000001,1014155776]) (u:=.ref 500000001 0 0 0) rfl (by exact .aggc (S:=[]) (T:=[]) (M:=[500000001,1014155776]) (N:=[]) (.ptro (M:=[1014155776]) rfl rfl rfl rfl rfl (.aggc (S:=[]) (T:=[]) (M:=[1014155776]) (N:=[]) (Yg4 rfl rfl rfl rfl rfl rfl (by rfl)) .aggn)) (.frz Frz.aggn)) (by decide) (by simp) (Y5f u0 (by have:=hu0.len;omega)) rfl rfl (fun res z hr=>?_)
   obtain⟨rfl,rfl⟩:=hr
   refine Va9 ?_
   intro g16
   refine Vs3 ?_
   refine Vd0 ?_
   refine VwA ?_
   refine Ygh YfX (args:=[stP (popE u0),.fmap (em kv (topE u0).pre),.fmap (em kv (lookP (applyR p (checkD dl.1) dl.1 (tidyD dl.1)).1 (touchR dl.1)))]) (T:=[]) (M:=[500000001,5108058624]) (u:=.ref 500000001 0 0 0) rfl (by exact .aggc (S:=[]) (T:=[]) (M:=[500000001,5108058624]) (N:=[]) (.ptro (M:=[5108058624]) rfl rfl rfl rfl rfl (.aggc (S:=[]) (T:=[]) (M:=[5108058624]) (N:=[]) (Yg4 rfl rfl rfl rfl rfl rfl (by rfl)) .aggn)) (.frz (Frz.aggc (Frz.pure rfl) (Frz.aggc (Frz.pure rfl) Frz.aggn)))) (by decide) (by simp) (Y2j (popE u0) (by have:=(Y13 hu0).len;omega) _ _) rfl rfl (fun res z hr=>?_)
   obtain⟨E2,hE2,rfl,rfl⟩:=hr
   refine Vm9 ?_
   refine Vh8 ?_
   refine Ygh YfX (args:=[stP r0,.agg (ke ⟨invD dl.1,(lookP p (touchR dl.1)),(lookP (applyR p (checkD dl.1) dl.1 (tidyD dl.1)).1 (touchR dl.1))⟩)]) (T:=[]) (M:=[500000007,500000008]) (u:=.ref 500000007 0 0 0) rfl (by exact .aggc (S:=[]) (T:=[]) (M:=[500000007,500000008]) (N:=[]) (.ptro (M:=[500000008]) rfl rfl rfl rfl rfl (.aggc (S:=[]) (T:=[]) (M:=[500000008]) (N:=[]) (Yg4 rfl rfl rfl rfl rfl rfl (by exact (Y00 _ _).symm)) .aggn)) (.frz (Frz.aggc (YfY rfl) Frz.aggn))) (by decide) (by simp) (Y1J r0 (by have:=hr0.len;omega) ⟨invD dl.1,(lookP p (touchR dl.1)),(lookP (applyR p (checkD dl.1) dl.1 (tidyD dl.1)).1 (touchR dl.1))⟩) rfl rfl (fun res z hr=>?_)
   obtain⟨rfl,rfl⟩:=hr
   refine Vz9 ?_
   refine Vz5 ?_
   refine Ygz ?_
   refine Vp3 ?_
   refine VlH ?_
   exact⟨_,(applyR p (checkD dl.1) dl.1 (tidyD dl.1)).1,E2,u1,u2,pushE r0 ⟨invD dl.1,(lookP p (touchR dl.1)),(lookP (applyR p (checkD dl.1) dl.1 (tidyD dl.1)).1 (touchR dl.1))⟩,r1,r2,⟨hgq,hvq,Y1z hE2 (Y13 hu0),hu1,hu2,Y16 hr0 (Y0T hp hgd.ok hap),hr1,hr2⟩,rfl,rfl⟩
   refine Vn9 ?_
   refine VoM ?_
   exact⟨_,p,u0,u1,u2,r0,r1,r2,⟨hp,hv.le (by omega),hu0,hu1,hu2,hr0,hr1,hr2⟩,rfl,rfl⟩
 ·refine YgC Yg7 22 26 22 23 (fun k=>bif Nat.blt k 22 then k else bif Nat.beq k 22 then 26 else bif Nat.ble k 26 then k - 1 else k) (fun k=>bif Nat.blt k 22 then k else bif Nat.beq k 26 then 22 else bif Nat.blt k 26 then k+1 else k) (by decide) (by decide) (by decide) (by kernel_rfl) (by kernel_rfl) (YdK (by kernel_rfl)) (by kernel_rfl) (by kernel_rfl) (YdK (by kernel_rfl)) (by kernel_rfl) (by kernel_rfl) ?_ ?_
  refine Vc9 ?_
  refine Ygh Yg7 (args:=[ei I,.agg (kp p),.int .i64 0,.agg (kc c),.undef,stP r0]) (T:=[]) (M:=[500000007,500000008]) (u:=.ref 500000007 0 0 0) rfl (by exact .aggc (S:=[]) (T:=[]) (M:=[]) (N:=[500000007,500000008]) (.frz (YfY rfl)) (.aggc (S:=[]) (T:=[]) (M:=[]) (N:=[500000007,500000008]) (.frz (YfY rfl)) (.aggc (S:=[]) (T:=[]) (M:=[]) (N:=[500000007,500000008]) (.frz (Frz.pure rfl)) (.aggc (S:=[]) (T:=[]) (M:=[]) (N:=[500000007,500000008]) (.frz (YfY rfl)) (.aggc (S:=[]) (T:=[]) (M:=[]) (N:=[500000007,500000008]) (.frz .refU) (.aggc (S:=[]) (T:=[]) (M:=[500000007,500000008]) (N:=[]) (.ptro (M:=[500000008]) rfl rfl rfl rfl rfl (.aggc (S:=[]) (T:=[]) (M:=[500000008]) (N:=[]) (Yg4 rfl rfl rfl rfl rfl rfl (by exact (Y00 _ _).symm)) .aggn)) (.frz Frz.aggn))))))) (by decide) (by simp) (Y54 I hcI p hp 0 c hop r0 (by have:=hr0.len;omega) hr0.good) rfl rfl (fun res z hr=>?_)
  obtain⟨⟨dl,hgd,rfl⟩,rfl⟩:=hr
  refine Vw5 ?_
  refine Vg7 ?_
  intro g11
  rotate_left
  refine Vd9 ?_
  intro g11
  refine Vp0 ?_
  refine Ygh Yg7 (args:=[ei I,.agg (kp p),.int .i64 0,.agg (kc c),.undef,stP r0]) (T:=[]) (M:=[500000007,500000008]) (u:=.ref 500000007 0 0 0) rfl (by exact .aggc (S:=[]) (T:=[]) (M:=[]) (N:=[500000007,500000008]) (.frz (YfY rfl)) (.aggc (S:=[]) (T:=[]) (M:=[]) (N:=[500000007,500000008]) (.frz (YfY rfl)) (.aggc (S:=[]) (T:=[]) (M:=[]) (N:=[500000007,500000008]) (.frz (Frz.pure rfl)) (.aggc (S:=[]) (T:=[]) (M:=[]) (N:=[500000007,500000008]) (.frz (YfY rfl)) (.aggc (S:=[]) (T:=[]) (M:=[]) (N:=[500000007,500000008]) (.frz .refU) (.aggc (S:=[]) (T:=[]) (M:=[500000007,500000008]) (N:=[]) (.ptro (M:=[500000008]) rfl rfl rfl rfl rfl (.aggc (S:=[]) (T:=[]) (M:=[500000008]) (N:=[]) (Yg4 rfl rfl rfl rfl rfl rfl (by exact (Y00 _ _).symm)) .aggn)) (.frz Frz.aggn))))))) (by decide) (by simp) (Y54 I hcI p hp 0 c hop r0 (by have:=hr0.len;omega) hr0.good) rfl rfl (fun res z hr=>?_)
  obtain⟨⟨dl,hgd,rfl⟩,rfl⟩:=hr
  refine Vw5 ?_
  all_goals
   refine Ve9 ?_
   have hgq:(applyR p (checkD dl.1) dl.1 (tidyD dl.1)).2=0→GoodP I (applyR p (checkD dl.1) dl.1 (tidyD dl.1)).1:=Y0u hp hgd
   have hvq:(applyR p (checkD dl.1) dl.1 (tidyD dl.1)).2=0→VersIn (n+100000000) (applyR p (checkD dl.1) dl.1 (tidyD dl.1)).1:=Y0B hv hgd.ok hn
   refine Vf9 ?_
   intro g13
   refine Vg9 ?_
   refine cD (fun h67=>?_) fun h67=>?_
   refine Ve ?_
   have hap:=h67
   replace hgq:=hgq hap
   replace hvq:=hvq hap
   have hqo:=hgq.okP hcI
   have htl:=Y0O hgd.ok
   refine Vh9 ?_
   refine GL.inl Yg7 (nb':=1000000) rfl ⟨rfl,rfl,fun c hc=>?_⟩
   unfold Try.f60 at hc
   injection hc with hc
   subst hc
   refine Vp7 ?_
   intro g7
   refine Vo ?_
   intro g8
   refine Vo ?_
   intro g9
   refine Vi9 ?_
   refine cD (fun h21=>?_) fun h21=>?_
   refine Vj9 ?_
   refine YgB ?_
   refine Vp3 ?_
   refine VpM ?_
   exact⟨_,(applyR p (checkD dl.1) dl.1 (tidyD dl.1)).1,u0,u1,u2,r0,r1,r2,⟨hgq,hvq,hu0,hu1,hu2,hr0,hr1,hr2⟩,rfl,rfl⟩
   refine Vh ?_
   have hE0:=hgd.ok
   refine Vk9 ?_
   intro g15
   refine Vl9 ?_
   rw[show (c.op == 9)=false by first | (rw[hop];rfl) | exact beq_false_of_ne (by omega)]
   refine Vb8 ?_
   refine VeB ?_
   rw[show (c.op == 10)=true by first | (rw[hop];rfl) | exact beq_false_of_ne (by omega)]
   refine ViC ?_
   refine Ygh YfX (args:=[stP r0]) (T:=[]) (M:=[500000007,1014155776]) (u:=.ref 500000007 0 0 0) rfl (by exact .aggc (S:=[]) (T:=[]) (M:=[500000007,1014155776]) (N:=[]) (.ptro (M:=[1014155776]) rfl rfl rfl rfl rfl (.aggc (S:=[]) (T:=[]) (M:=[1014155776]) (N:=[]) (Yg4 rfl rfl rfl rfl rfl rfl (by rfl)) .aggn)) (.frz Frz.aggn)) (by decide) (by simp) (Y5f r0 (by have:=hr0.len;omega)) rfl rfl (fun res z hr=>?_)
   obtain⟨rfl,rfl⟩:=hr
   refine Va9 ?_
   intro g18
   refine Vs3 ?_
   refine Vd0 ?_
   refine VwA ?_
   refine Ygh YfX (args:=[stP (popE r0),.fmap (em kv (topE r0).pre),.fmap (em kv (lookP (applyR p (checkD dl.1) dl.1 (tidyD dl.1)).1 (touchR dl.1)))]) (T:=[]) (M:=[500000007,5111990784]) (u:=.ref 500000007 0 0 0) rfl (by exact .aggc (S:=[]) (T:=[]) (M:=[500000007,5111990784]) (N:=[]) (.ptro (M:=[5111990784]) rfl rfl rfl rfl rfl (.aggc (S:=[]) (T:=[]) (M:=[5111990784]) (N:=[]) (Yg4 rfl rfl rfl rfl rfl rfl (by rfl)) .aggn)) (.frz (Frz.aggc (Frz.pure rfl) (Frz.aggc (Frz.pure rfl) Frz.aggn)))) (by decide) (by simp) (Y2j (popE r0) (by have:=(Y13 hr0).len;omega) _ _) rfl rfl (fun res z hr=>?_)
   obtain⟨E2,hE2,rfl,rfl⟩:=hr
   refine Vm9 ?_
   refine Vh8 ?_
   refine Ygh YfX (args:=[stP u0,.agg (ke ⟨invD dl.1,(lookP p (touchR dl.1)),(lookP (applyR p (checkD dl.1) dl.1 (tidyD dl.1)).1 (touchR dl.1))⟩)]) (T:=[]) (M:=[500000001,500000002]) (u:=.ref 500000001 0 0 0) rfl (by exact .aggc (S:=[]) (T:=[]) (M:=[500000001,500000002]) (N:=[]) (.ptro (M:=[500000002]) rfl rfl rfl rfl rfl (.aggc (S:=[]) (T:=[]) (M:=[500000002]) (N:=[]) (Yg4 rfl rfl rfl rfl rfl rfl (by exact (Y00 _ _).symm)) .aggn)) (.frz (Frz.aggc (YfY rfl) Frz.aggn))) (by decide) (by simp) (Y1J u0 (by have:=hu0.len;omega) ⟨invD dl.1,(lookP p (touchR dl.1)),(lookP (applyR p (checkD dl.1) dl.1 (tidyD dl.1)).1 (touchR dl.1))⟩) rfl rfl (fun res z hr=>?_)
   obtain⟨rfl,rfl⟩:=hr
   refine Vz9 ?_
   refine Vz5 ?_
   refine Ygz ?_
   refine Vp3 ?_
   refine VlH ?_
   exact⟨_,(applyR p (checkD dl.1) dl.1 (tidyD dl.1)).1,pushE u0 ⟨invD dl.1,(lookP p (touchR dl.1)),(lookP (applyR p (checkD dl.1) dl.1 (tidyD dl.1)).1 (touchR dl.1))⟩,u1,u2,E2,r1,r2,⟨hgq,hvq,Y16 hu0 (Y0T hp hgd.ok hap),hu1,hu2,Y1z hE2 (Y13 hr0),hr1,hr2⟩,rfl,rfl⟩
   refine Vn9 ?_
   refine VpM ?_
   exact⟨_,p,u0,u1,u2,r0,r1,r2,⟨hp,hv.le (by omega),hu0,hu1,hu2,hr0,hr1,hr2⟩,rfl,rfl⟩
 ·refine YgC Yg7 22 26 22 23 (fun k=>bif Nat.blt k 22 then k else bif Nat.beq k 22 then 26 else bif Nat.ble k 26 then k - 1 else k) (fun k=>bif Nat.blt k 22 then k else bif Nat.beq k 26 then 22 else bif Nat.blt k 26 then k+1 else k) (by decide) (by decide) (by decide) (by kernel_rfl) (by kernel_rfl) (YdK (by kernel_rfl)) (by kernel_rfl) (by kernel_rfl) (YdK (by kernel_rfl)) (by kernel_rfl) (by kernel_rfl) ?_ ?_
  refine Vc9 ?_
  refine VaD ?_
  rintro dl hgd
  refine Vq0 ?_
  refine Vt3 ?_
  refine Vg7 ?_
  intro g11
  rotate_left
  refine Vd9 ?_
  intro g11
  refine Vp0 ?_
  refine VaD ?_
  rintro dl hgd
  refine Vq0 ?_
  refine Vt3 ?_
  all_goals
   refine Ve9 ?_
   have hgq:(applyR p (checkD dl.1) dl.1 (tidyD dl.1)).2=0→GoodP I (applyR p (checkD dl.1) dl.1 (tidyD dl.1)).1:=Y0u hp hgd
   have hvq:(applyR p (checkD dl.1) dl.1 (tidyD dl.1)).2=0→VersIn (n+100000000) (applyR p (checkD dl.1) dl.1 (tidyD dl.1)).1:=Y0B hv hgd.ok hn
   refine Vf9 ?_
   intro g13
   refine Vg9 ?_
   refine cD (fun h67=>?_) fun h67=>?_
   refine Ve ?_
   have hap:=h67
   replace hgq:=hgq hap
   replace hvq:=hvq hap
   have hqo:=hgq.okP hcI
   have htl:=Y0O hgd.ok
   refine Vh9 ?_
   refine GL.inl Yg7 (nb':=1000000) rfl ⟨rfl,rfl,fun c hc=>?_⟩
   unfold Try.f60 at hc
   injection hc with hc
   subst hc
   refine Vp7 ?_
   intro g7
   refine Vo ?_
   intro g8
   refine Vo ?_
   intro g9
   refine Vi9 ?_
   refine cD (fun h21=>?_) fun h21=>?_
   refine Vj9 ?_
   refine YgB ?_
   refine Vp3 ?_
   refine VyC ?_
   exact⟨_,(applyR p (checkD dl.1) dl.1 (tidyD dl.1)).1,u0,u1,u2,r0,r1,r2,⟨hgq,hvq,hu0,hu1,hu2,hr0,hr1,hr2⟩,rfl,rfl⟩
   refine Vh ?_
   have hE0:=hgd.ok
   refine Vk9 ?_
   intro g15
   refine Vl9 ?_
   rw[show (c.op == 9)=false by first | (rw[hop];rfl) | exact beq_false_of_ne (by omega)]
   refine Vb8 ?_
   refine VeB ?_
   rw[show (c.op == 10)=false by first | (rw[hop];rfl) | exact beq_false_of_ne (by omega)]
   refine Vb8 ?_
   refine Vp ?_
   refine Vh8 ?_
   refine Ygh YfX (args:=[stP u0,.agg (ke ⟨invD dl.1,(lookP p (touchR dl.1)),(lookP (applyR p (checkD dl.1) dl.1 (tidyD dl.1)).1 (touchR dl.1))⟩)]) (T:=[]) (M:=[500000001,500000002]) (u:=.ref 500000001 0 0 0) rfl (by exact .aggc (S:=[]) (T:=[]) (M:=[500000001,500000002]) (N:=[]) (.ptro (M:=[500000002]) rfl rfl rfl rfl rfl (.aggc (S:=[]) (T:=[]) (M:=[500000002]) (N:=[]) (Yg4 rfl rfl rfl rfl rfl rfl (by exact (Y00 _ _).symm)) .aggn)) (.frz (Frz.aggc (YfY rfl) Frz.aggn))) (by decide) (by simp) (Y1J u0 (by have:=hu0.len;omega) ⟨invD dl.1,(lookP p (touchR dl.1)),(lookP (applyR p (checkD dl.1) dl.1 (tidyD dl.1)).1 (touchR dl.1))⟩) rfl rfl (fun res z hr=>?_)
   obtain⟨rfl,rfl⟩:=hr
   refine Vm9 ?_
   refine Vb5 ?_
   refine Vs0 ?_
   refine VmH ?_
   refine VsA ?_
   refine Ygz ?_
   refine VyH ?_
   refine Vp0 ?_
   refine goWeak (Ygi (n:=500000007) (c:=0) 700001 5 rfl rfl rfl rfl rfl rfl) ?_
   refine VzH ?_
   refine VlH ?_
   exact⟨_,(applyR p (checkD dl.1) dl.1 (tidyD dl.1)).1,pushE u0 ⟨invD dl.1,(lookP p (touchR dl.1)),(lookP (applyR p (checkD dl.1) dl.1 (tidyD dl.1)).1 (touchR dl.1))⟩,u1,u2,[],r1,r2,⟨hgq,hvq,Y16 hu0 (Y0T hp hgd.ok hap),hu1,hu2,Y1Q I,hr1,hr2⟩,rfl,rfl⟩
   refine Vn9 ?_
   refine VyC ?_
   exact⟨_,p,u0,u1,u2,r0,r1,r2,⟨hp,hv.le (by omega),hu0,hu1,hu2,hr0,hr1,hr2⟩,rfl,rfl⟩
theorem Y9Y (I:Inst)(N:Nat)(hb:Sb I N)(hqI:Sp I)(hs:I.Short)(hcI:checkB I=true)(n:Nat)(hn:n≤1000000000000000000)(p:Plan)(hp:GoodP I p)(hv:VersIn n p)(u0 u1 u2 r0 r1 r2:List Entry)(hu0:StkOK I u0)(hu1:StkOK I u1)(hu2:StkOK I u2)(hr0:StkOK I r0)(hr1:StkOK I r1)(hr2:StkOK I r2)(line:ByteArray)(hl:line.size≤1000): CallsM Try.prog 34 [.ptro (mcs I p u0 u1 u2 r0 r1 r2),.int .i64 1,.str line,.bool false] (some 0) fun res q=>∃ (s:ByteArray) (p2:Plan) (a2 b2 c2 d2 e2 f2:List Entry),(GoodP I p2∧VersIn (n+100000000) p2∧StkOK I a2∧StkOK I b2∧StkOK I c2∧StkOK I d2∧StkOK I e2∧StkOK I f2)∧res=.str s∧q=.ptro (mcs I p2 a2 b2 c2 d2 e2 f2):=by
 refine Ygw (ls:=[.ref 500000000 0 0 0,.int .i64 1,.str line,.bool false]) (e:=[(500000002,⟨0,false,.slc,5,em ke u0⟩),(500000001,⟨0,false,.var,1,[[.own 500000002 0 0 u0.length none]]⟩),(500000004,⟨0,false,.slc,5,em ke u1⟩),(500000003,⟨0,false,.var,1,[[.own 500000004 0 0 u1.length none]]⟩),(500000006,⟨0,false,.slc,5,em ke u2⟩),(500000005,⟨0,false,.var,1,[[.own 500000006 0 0 u2.length none]]⟩),(500000008,⟨0,false,.slc,5,em ke r0⟩),(500000007,⟨0,false,.var,1,[[.own 500000008 0 0 r0.length none]]⟩),(500000010,⟨0,false,.slc,5,em ke r1⟩),(500000009,⟨0,false,.var,1,[[.own 500000010 0 0 r1.length none]]⟩),(500000012,⟨0,false,.slc,5,em ke r2⟩),(500000011,⟨0,false,.var,1,[[.own 500000012 0 0 r2.length none]]⟩),(500000000,⟨0,false,.var,23,[ic I++(kp p++[.ref 500000001 0 0 0,.ref 500000003 0 0 0,.ref 500000005 0 0 0,.undef,.undef,.undef,.ref 500000007 0 0 0,.ref 500000009 0 0 0,.ref 500000011 0 0 0,.undef,.undef,.undef])]⟩)]) (ju:=some (.ref 500000000 0 0 0)) Y22 mix Try.func34 rfl rfl (by simp[Try.f34]) (by kernel_rfl) (nb:=0) rfl (by simp[impAs,impT,impV,impC,impCs,impC0,impCs0,genAt,effM,Y00,mcs,stP,ic,kp]) (fun k hk=>by cases hk;exact⟨_,rfl,rfl⟩) (fun h=>by cases h) ?_
 unfold Try.f34
 refine Ve ?_
 have hpo:=hp.okP hcI
 refine Vq2 ?_
 refine VdC ?_
 refine Vf3 ?_
 refine Vx ?_
 refine Yg1 17 rfl (fun h17=>?_) (fun h17=>?_)
 rw[h17]
 replace h17:=of_decide_eq_true h17
 refine Vw0 ?_
 refine VgI ?_
 refine Vb9 ?_
 exact⟨_,p,u0,u1,u2,r0,r1,r2,⟨hp,hv.le (by omega),hu0,hu1,hu2,hr0,hr1,hr2⟩,rfl,rfl⟩
 rw[h17]
 replace h17:=of_decide_eq_false h17
 refine Vv6 ?_
 refine VkB ?_
 refine cD (fun h20=>?_) fun h20=>?_
 exact absurd h20 (by omega)
 refine Vh ?_
 refine VjB ?_
 refine Vj0 ?_
 refine Ygb rfl (fun h21=>?_) (fun h21=>?_)
 refine Va2 ?_
 refine VzC ?_
 refine VhB ?_
 refine Vb9 ?_
 exact⟨_,p,u0,u1,u2,r0,r1,r2,⟨hp,hv.le (by omega),hu0,hu1,hu2,hr0,hr1,hr2⟩,rfl,rfl⟩
 refine Vh ?_
 refine Vm6 ?_
 refine ViH ?_
 rintro cb hck0
 obtain⟨c,bb⟩:=cb
 have hck:bb=true→CmdP c∧(c.op=8→1≤c.budget∧c.budget≤20):=hck0
 refine Vt3 ?_
 refine VjH ?_
 intro g9
 refine VkH ?_
 refine VdC ?_
 refine GL.un Yg7 rfl ?_
 refine Vj0 ?_
 refine Ygb rfl (fun h29=>?_) (fun h29=>?_)
 refine Va2 ?_
 refine VzC ?_
 refine VhB ?_
 refine Vb9 ?_
 exact⟨_,p,u0,u1,u2,r0,r1,r2,⟨hp,hv.le (by omega),hu0,hu1,hu2,hr0,hr1,hr2⟩,rfl,rfl⟩
 have hcp:=hck (nt' h29)
 refine Vh ?_
 rcases (show c.op=9∨c.op=10∨(c.op≠9∧c.op≠10) by omega) with hop | hop | hop
 ·refine YgC Yg7 22 26 22 23 (fun k=>bif Nat.blt k 22 then k else bif Nat.beq k 22 then 26 else bif Nat.ble k 26 then k - 1 else k) (fun k=>bif Nat.blt k 22 then k else bif Nat.beq k 26 then 22 else bif Nat.blt k 26 then k+1 else k) (by decide) (by decide) (by decide) (by kernel_rfl) (by kernel_rfl) (YdK (by kernel_rfl)) (by kernel_rfl) (by kernel_rfl) (YdK (by kernel_rfl)) (by kernel_rfl) (by kernel_rfl) ?_ ?_
  refine Vc9 ?_
  refine Ygh Yg7 (args:=[ei I,.agg (kp p),.int .i64 1,.agg (kc c),stP u1,.undef]) (T:=[]) (M:=[500000003,500000004]) (u:=.ref 500000003 0 0 0) rfl (by exact .aggc (S:=[]) (T:=[]) (M:=[]) (N:=[500000003,500000004]) (.frz (YfY rfl)) (.aggc (S:=[]) (T:=[]) (M:=[]) (N:=[500000003,500000004]) (.frz (YfY rfl)) (.aggc (S:=[]) (T:=[]) (M:=[]) (N:=[500000003,500000004]) (.frz (Frz.pure rfl)) (.aggc (S:=[]) (T:=[]) (M:=[]) (N:=[500000003,500000004]) (.frz (YfY rfl)) (.aggc (S:=[]) (T:=[]) (M:=[500000003,500000004]) (N:=[]) (.ptro (M:=[500000004]) rfl rfl rfl rfl rfl (.aggc (S:=[]) (T:=[]) (M:=[500000004]) (N:=[]) (Yg4 rfl rfl rfl rfl rfl rfl (by exact (Y00 _ _).symm)) .aggn)) (.frz (Frz.aggc .refU Frz.aggn))))))) (by decide) (by simp) (Y5l I hcI p hp 1 c hop u1 (by have:=hu1.len;omega) hu1.good) rfl rfl (fun res z hr=>?_)
  obtain⟨⟨dl,hgd,rfl⟩,rfl⟩:=hr
  refine Vw5 ?_
  refine Vg7 ?_
  intro g11
  rotate_left
  refine Vd9 ?_
  intro g11
  refine Vp0 ?_
  refine Ygh Yg7 (args:=[ei I,.agg (kp p),.int .i64 1,.agg (kc c),stP u1,.undef]) (T:=[]) (M:=[500000003,500000004]) (u:=.ref 500000003 0 0 0) rfl (by exact .aggc (S:=[]) (T:=[]) (M:=[]) (N:=[500000003,500000004]) (.frz (YfY rfl)) (.aggc (S:=[]) (T:=[]) (M:=[]) (N:=[500000003,500000004]) (.frz (YfY rfl)) (.aggc (S:=[]) (T:=[]) (M:=[]) (N:=[500000003,500000004]) (.frz (Frz.pure rfl)) (.aggc (S:=[]) (T:=[]) (M:=[]) (N:=[500000003,500000004]) (.frz (YfY rfl)) (.aggc (S:=[]) (T:=[]) (M:=[500000003,500000004]) (N:=[]) (.ptro (M:=[500000004]) rfl rfl rfl rfl rfl (.aggc (S:=[]) (T:=[]) (M:=[500000004]) (N:=[]) (Yg4 rfl rfl rfl rfl rfl rfl (by exact (Y00 _ _).symm)) .aggn)) (.frz (Frz.aggc .refU Frz.aggn))))))) (by decide) (by simp) (Y5l I hcI p hp 1 c hop u1 (by have:=hu1.len;omega) hu1.good) rfl rfl (fun res z hr=>?_)
  obtain⟨⟨dl,hgd,rfl⟩,rfl⟩:=hr
  refine Vw5 ?_
  all_goals
   refine Ve9 ?_
   have hgq:(applyR p (checkD dl.1) dl.1 (tidyD dl.1)).2=0→GoodP I (applyR p (checkD dl.1) dl.1 (tidyD dl.1)).1:=Y0u hp hgd
   have hvq:(applyR p (checkD dl.1) dl.1 (tidyD dl.1)).2=0→VersIn (n+100000000) (applyR p (checkD dl.1) dl.1 (tidyD dl.1)).1:=Y0B hv hgd.ok hn
   refine Vf9 ?_
   intro g13
   refine Vg9 ?_
   refine cD (fun h67=>?_) fun h67=>?_
   refine Ve ?_
   have hap:=h67
   replace hgq:=hgq hap
   replace hvq:=hvq hap
   have hqo:=hgq.okP hcI
   have htl:=Y0O hgd.ok
   refine Vh9 ?_
   refine GL.inl Yg7 (nb':=1000000) rfl ⟨rfl,rfl,fun c hc=>?_⟩
   unfold Try.f60 at hc
   injection hc with hc
   subst hc
   refine Vp7 ?_
   intro g7
   refine Vo ?_
   intro g8
   refine Vo ?_
   intro g9
   refine Vi9 ?_
   refine cD (fun h21=>?_) fun h21=>?_
   refine Vj9 ?_
   refine YgB ?_
   refine Vp3 ?_
   refine VqM ?_
   exact⟨_,(applyR p (checkD dl.1) dl.1 (tidyD dl.1)).1,u0,u1,u2,r0,r1,r2,⟨hgq,hvq,hu0,hu1,hu2,hr0,hr1,hr2⟩,rfl,rfl⟩
   refine Vh ?_
   have hE0:=hgd.ok
   refine Vk9 ?_
   intro g15
   refine Vl9 ?_
   rw[show (c.op == 9)=true by first | (rw[hop];rfl) | exact beq_false_of_ne (by omega)]
   refine ViC ?_
   refine Ygh YfX (args:=[stP u1]) (T:=[]) (M:=[500000003,1014155776]) (u:=.ref 500000003 0 0 0) rfl (by exact .aggc (S:=[]) (T:=[]) (M:=[500000003,1014155776]) (N:=[]) (.ptro (M:=[1014155776]) rfl rfl rfl rfl rfl (.aggc (S:=[]) (T:=[]) (M:=[1014155776]) (N:=[]) (Yg4 rfl rfl rfl rfl rfl rfl (by rfl)) .aggn)) (.frz Frz.aggn)) (by decide) (by simp) (Y5f u1 (by have:=hu1.len;omega)) rfl rfl (fun res z hr=>?_)
   obtain⟨rfl,rfl⟩:=hr
   refine Va9 ?_
   intro g16
   refine Vs3 ?_
   refine Vd0 ?_
   refine VwA ?_
   refine Ygh YfX (args:=[stP (popE u1),.fmap (em kv (topE u1).pre),.fmap (em kv (lookP (applyR p (checkD dl.1) dl.1 (tidyD dl.1)).1 (touchR dl.1)))]) (T:=[]) (M:=[500000003,5108058624]) (u:=.ref 500000003 0 0 0) rfl (by exact .aggc (S:=[]) (T:=[]) (M:=[500000003,5108058624]) (N:=[]) (.ptro (M:=[5108058624]) rfl rfl rfl rfl rfl (.aggc (S:=[]) (T:=[]) (M:=[5108058624]) (N:=[]) (Yg4 rfl rfl rfl rfl rfl rfl (by rfl)) .aggn)) (.frz (Frz.aggc (Frz.pure rfl) (Frz.aggc (Frz.pure rfl) Frz.aggn)))) (by decide) (by simp) (Y2j (popE u1) (by have:=(Y13 hu1).len;omega) _ _) rfl rfl (fun res z hr=>?_)
   obtain⟨E2,hE2,rfl,rfl⟩:=hr
   refine Vm9 ?_
   refine Vh8 ?_
   refine Ygh YfX (args:=[stP r1,.agg (ke ⟨invD dl.1,(lookP p (touchR dl.1)),(lookP (applyR p (checkD dl.1) dl.1 (tidyD dl.1)).1 (touchR dl.1))⟩)]) (T:=[]) (M:=[500000009,500000010]) (u:=.ref 500000009 0 0 0) rfl (by exact .aggc (S:=[]) (T:=[]) (M:=[500000009,500000010]) (N:=[]) (.ptro (M:=[500000010]) rfl rfl rfl rfl rfl (.aggc (S:=[]) (T:=[]) (M:=[500000010]) (N:=[]) (Yg4 rfl rfl rfl rfl rfl rfl (by exact (Y00 _ _).symm)) .aggn)) (.frz (Frz.aggc (YfY rfl) Frz.aggn))) (by decide) (by simp) (Y1J r1 (by have:=hr1.len;omega) ⟨invD dl.1,(lookP p (touchR dl.1)),(lookP (applyR p (checkD dl.1) dl.1 (tidyD dl.1)).1 (touchR dl.1))⟩) rfl rfl (fun res z hr=>?_)
   obtain⟨rfl,rfl⟩:=hr
   refine Vz9 ?_
   refine Vz5 ?_
   refine Ygz ?_
   refine Vp3 ?_
   refine VnH ?_
   exact⟨_,(applyR p (checkD dl.1) dl.1 (tidyD dl.1)).1,u0,E2,u2,r0,pushE r1 ⟨invD dl.1,(lookP p (touchR dl.1)),(lookP (applyR p (checkD dl.1) dl.1 (tidyD dl.1)).1 (touchR dl.1))⟩,r2,⟨hgq,hvq,hu0,Y1z hE2 (Y13 hu1),hu2,hr0,Y16 hr1 (Y0T hp hgd.ok hap),hr2⟩,rfl,rfl⟩
   refine Vn9 ?_
   refine VqM ?_
   exact⟨_,p,u0,u1,u2,r0,r1,r2,⟨hp,hv.le (by omega),hu0,hu1,hu2,hr0,hr1,hr2⟩,rfl,rfl⟩
 ·refine YgC Yg7 22 26 22 23 (fun k=>bif Nat.blt k 22 then k else bif Nat.beq k 22 then 26 else bif Nat.ble k 26 then k - 1 else k) (fun k=>bif Nat.blt k 22 then k else bif Nat.beq k 26 then 22 else bif Nat.blt k 26 then k+1 else k) (by decide) (by decide) (by decide) (by kernel_rfl) (by kernel_rfl) (YdK (by kernel_rfl)) (by kernel_rfl) (by kernel_rfl) (YdK (by kernel_rfl)) (by kernel_rfl) (by kernel_rfl) ?_ ?_
  refine Vc9 ?_
  refine Ygh Yg7 (args:=[ei I,.agg (kp p),.int .i64 1,.agg (kc c),.undef,stP r1]) (T:=[]) (M:=[500000009,500000010]) (u:=.ref 500000009 0 0 0) rfl (by exact .aggc (S:=[]) (T:=[]) (M:=[]) (N:=[500000009,500000010]) (.frz (YfY rfl)) (.aggc (S:=[]) (T:=[]) (M:=[]) (N:=[500000009,500000010]) (.frz (YfY rfl)) (.aggc (S:=[]) (T:=[]) (M:=[]) (N:=[500000009,500000010]) (.frz (Frz.pure rfl)) (.aggc (S:=[]) (T:=[]) (M:=[]) (N:=[500000009,500000010]) (.frz (YfY rfl)) (.aggc (S:=[]) (T:=[]) (M:=[]) (N:=[500000009,500000010]) (.frz .refU) (.aggc (S:=[]) (T:=[]) (M:=[500000009,500000010]) (N:=[]) (.ptro (M:=[500000010]) rfl rfl rfl rfl rfl (.aggc (S:=[]) (T:=[]) (M:=[500000010]) (N:=[]) (Yg4 rfl rfl rfl rfl rfl rfl (by exact (Y00 _ _).symm)) .aggn)) (.frz Frz.aggn))))))) (by decide) (by simp) (Y54 I hcI p hp 1 c hop r1 (by have:=hr1.len;omega) hr1.good) rfl rfl (fun res z hr=>?_)
  obtain⟨⟨dl,hgd,rfl⟩,rfl⟩:=hr
  refine Vw5 ?_
  refine Vg7 ?_
  intro g11
  rotate_left
  refine Vd9 ?_
  intro g11
  refine Vp0 ?_
  refine Ygh Yg7 (args:=[ei I,.agg (kp p),.int .i64 1,.agg (kc c),.undef,stP r1]) (T:=[]) (M:=[500000009,500000010]) (u:=.ref 500000009 0 0 0) rfl (by exact .aggc (S:=[]) (T:=[]) (M:=[]) (N:=[500000009,500000010]) (.frz (YfY rfl)) (.aggc (S:=[]) (T:=[]) (M:=[]) (N:=[500000009,500000010]) (.frz (YfY rfl)) (.aggc (S:=[]) (T:=[]) (M:=[]) (N:=[500000009,500000010]) (.frz (Frz.pure rfl)) (.aggc (S:=[]) (T:=[]) (M:=[]) (N:=[500000009,500000010]) (.frz (YfY rfl)) (.aggc (S:=[]) (T:=[]) (M:=[]) (N:=[500000009,500000010]) (.frz .refU) (.aggc (S:=[]) (T:=[]) (M:=[500000009,500000010]) (N:=[]) (.ptro (M:=[500000010]) rfl rfl rfl rfl rfl (.aggc (S:=[]) (T:=[]) (M:=[500000010]) (N:=[]) (Yg4 rfl rfl rfl rfl rfl rfl (by exact (Y00 _ _).symm)) .aggn)) (.frz Frz.aggn))))))) (by decide) (by simp) (Y54 I hcI p hp 1 c hop r1 (by have:=hr1.len;omega) hr1.good) rfl rfl (fun res z hr=>?_)
  obtain⟨⟨dl,hgd,rfl⟩,rfl⟩:=hr
  refine Vw5 ?_
  all_goals
   refine Ve9 ?_
   have hgq:(applyR p (checkD dl.1) dl.1 (tidyD dl.1)).2=0→GoodP I (applyR p (checkD dl.1) dl.1 (tidyD dl.1)).1:=Y0u hp hgd
   have hvq:(applyR p (checkD dl.1) dl.1 (tidyD dl.1)).2=0→VersIn (n+100000000) (applyR p (checkD dl.1) dl.1 (tidyD dl.1)).1:=Y0B hv hgd.ok hn
   refine Vf9 ?_
   intro g13
   refine Vg9 ?_
   refine cD (fun h67=>?_) fun h67=>?_
   refine Ve ?_
   have hap:=h67
   replace hgq:=hgq hap
   replace hvq:=hvq hap
   have hqo:=hgq.okP hcI
   have htl:=Y0O hgd.ok
   refine Vh9 ?_
   refine GL.inl Yg7 (nb':=1000000) rfl ⟨rfl,rfl,fun c hc=>?_⟩
   unfold Try.f60 at hc
   injection hc with hc
   subst hc
   refine Vp7 ?_
   intro g7
   refine Vo ?_
   intro g8
   refine Vo ?_
   intro g9
   refine Vi9 ?_
   refine cD (fun h21=>?_) fun h21=>?_
   refine Vj9 ?_
   refine YgB ?_
   refine Vp3 ?_
   refine VrM ?_
   exact⟨_,(applyR p (checkD dl.1) dl.1 (tidyD dl.1)).1,u0,u1,u2,r0,r1,r2,⟨hgq,hvq,hu0,hu1,hu2,hr0,hr1,hr2⟩,rfl,rfl⟩
   refine Vh ?_
   have hE0:=hgd.ok
   refine Vk9 ?_
   intro g15
   refine Vl9 ?_
   rw[show (c.op == 9)=false by first | (rw[hop];rfl) | exact beq_false_of_ne (by omega)]
   refine Vb8 ?_
   refine VeB ?_
   rw[show (c.op == 10)=true by first | (rw[hop];rfl) | exact beq_false_of_ne (by omega)]
   refine ViC ?_
   refine Ygh YfX (args:=[stP r1]) (T:=[]) (M:=[500000009,1014155776]) (u:=.ref 500000009 0 0 0) rfl (by exact .aggc (S:=[]) (T:=[]) (M:=[500000009,1014155776]) (N:=[]) (.ptro (M:=[1014155776]) rfl rfl rfl rfl rfl (.aggc (S:=[]) (T:=[]) (M:=[1014155776]) (N:=[]) (Yg4 rfl rfl rfl rfl rfl rfl (by rfl)) .aggn)) (.frz Frz.aggn)) (by decide) (by simp) (Y5f r1 (by have:=hr1.len;omega)) rfl rfl (fun res z hr=>?_)
   obtain⟨rfl,rfl⟩:=hr
   refine Va9 ?_
   intro g18
   refine Vs3 ?_
   refine Vd0 ?_
   refine VwA ?_
   refine Ygh YfX (args:=[stP (popE r1),.fmap (em kv (topE r1).pre),.fmap (em kv (lookP (applyR p (checkD dl.1) dl.1 (tidyD dl.1)).1 (touchR dl.1)))]) (T:=[]) (M:=[500000009,5111990784]) (u:=.ref 500000009 0 0 0) rfl (by exact .aggc (S:=[]) (T:=[]) (M:=[500000009,5111990784]) (N:=[]) (.ptro (M:=[5111990784]) rfl rfl rfl rfl rfl (.aggc (S:=[]) (T:=[]) (M:=[5111990784]) (N:=[]) (Yg4 rfl rfl rfl rfl rfl rfl (by rfl)) .aggn)) (.frz (Frz.aggc (Frz.pure rfl) (Frz.aggc (Frz.pure rfl) Frz.aggn)))) (by decide) (by simp) (Y2j (popE r1) (by have:=(Y13 hr1).len;omega) _ _) rfl rfl (fun res z hr=>?_)
   obtain⟨E2,hE2,rfl,rfl⟩:=hr
   refine Vm9 ?_
   refine Vh8 ?_
   refine Ygh YfX (args:=[stP u1,.agg (ke ⟨invD dl.1,(lookP p (touchR dl.1)),(lookP (applyR p (checkD dl.1) dl.1 (tidyD dl.1)).1 (touchR dl.1))⟩)]) (T:=[]) (M:=[500000003,500000004]) (u:=.ref 500000003 0 0 0) rfl (by exact .aggc (S:=[]) (T:=[]) (M:=[500000003,500000004]) (N:=[]) (.ptro (M:=[500000004]) rfl rfl rfl rfl rfl (.aggc (S:=[]) (T:=[]) (M:=[500000004]) (N:=[]) (Yg4 rfl rfl rfl rfl rfl rfl (by exact (Y00 _ _).symm)) .aggn)) (.frz (Frz.aggc (YfY rfl) Frz.aggn))) (by decide) (by simp) (Y1J u1 (by have:=hu1.len;omega) ⟨invD dl.1,(lookP p (touchR dl.1)),(lookP (applyR p (checkD dl.1) dl.1 (tidyD dl.1)).1 (touchR dl.1))⟩) rfl rfl (fun res z hr=>?_)
   obtain⟨rfl,rfl⟩:=hr
   refine Vz9 ?_
   refine Vz5 ?_
   refine Ygz ?_
   refine Vp3 ?_
   refine VnH ?_
   exact⟨_,(applyR p (checkD dl.1) dl.1 (tidyD dl.1)).1,u0,pushE u1 ⟨invD dl.1,(lookP p (touchR dl.1)),(lookP (applyR p (checkD dl.1) dl.1 (tidyD dl.1)).1 (touchR dl.1))⟩,u2,r0,E2,r2,⟨hgq,hvq,hu0,Y16 hu1 (Y0T hp hgd.ok hap),hu2,hr0,Y1z hE2 (Y13 hr1),hr2⟩,rfl,rfl⟩
   refine Vn9 ?_
   refine VrM ?_
   exact⟨_,p,u0,u1,u2,r0,r1,r2,⟨hp,hv.le (by omega),hu0,hu1,hu2,hr0,hr1,hr2⟩,rfl,rfl⟩
 ·refine YgC Yg7 22 26 22 23 (fun k=>bif Nat.blt k 22 then k else bif Nat.beq k 22 then 26 else bif Nat.ble k 26 then k - 1 else k) (fun k=>bif Nat.blt k 22 then k else bif Nat.beq k 26 then 22 else bif Nat.blt k 26 then k+1 else k) (by decide) (by decide) (by decide) (by kernel_rfl) (by kernel_rfl) (YdK (by kernel_rfl)) (by kernel_rfl) (by kernel_rfl) (YdK (by kernel_rfl)) (by kernel_rfl) (by kernel_rfl) ?_ ?_
  refine Vc9 ?_
  refine VaD ?_
  rintro dl hgd
  refine Vq0 ?_
  refine Vt3 ?_
  refine Vg7 ?_
  intro g11
  rotate_left
  refine Vd9 ?_
  intro g11
  refine Vp0 ?_
  refine VaD ?_
  rintro dl hgd
  refine Vq0 ?_
  refine Vt3 ?_
  all_goals
   refine Ve9 ?_
   have hgq:(applyR p (checkD dl.1) dl.1 (tidyD dl.1)).2=0→GoodP I (applyR p (checkD dl.1) dl.1 (tidyD dl.1)).1:=Y0u hp hgd
   have hvq:(applyR p (checkD dl.1) dl.1 (tidyD dl.1)).2=0→VersIn (n+100000000) (applyR p (checkD dl.1) dl.1 (tidyD dl.1)).1:=Y0B hv hgd.ok hn
   refine Vf9 ?_
   intro g13
   refine Vg9 ?_
   refine cD (fun h67=>?_) fun h67=>?_
   refine Ve ?_
   have hap:=h67
   replace hgq:=hgq hap
   replace hvq:=hvq hap
   have hqo:=hgq.okP hcI
   have htl:=Y0O hgd.ok
   refine Vh9 ?_
   refine GL.inl Yg7 (nb':=1000000) rfl ⟨rfl,rfl,fun c hc=>?_⟩
   unfold Try.f60 at hc
   injection hc with hc
   subst hc
   refine Vp7 ?_
   intro g7
   refine Vo ?_
   intro g8
   refine Vo ?_
   intro g9
   refine Vi9 ?_
   refine cD (fun h21=>?_) fun h21=>?_
   refine Vj9 ?_
   refine YgB ?_
   refine Vp3 ?_
   refine VyC ?_
   exact⟨_,(applyR p (checkD dl.1) dl.1 (tidyD dl.1)).1,u0,u1,u2,r0,r1,r2,⟨hgq,hvq,hu0,hu1,hu2,hr0,hr1,hr2⟩,rfl,rfl⟩
   refine Vh ?_
   have hE0:=hgd.ok
   refine Vk9 ?_
   intro g15
   refine Vl9 ?_
   rw[show (c.op == 9)=false by first | (rw[hop];rfl) | exact beq_false_of_ne (by omega)]
   refine Vb8 ?_
   refine VeB ?_
   rw[show (c.op == 10)=false by first | (rw[hop];rfl) | exact beq_false_of_ne (by omega)]
   refine Vb8 ?_
   refine Vp ?_
   refine Vh8 ?_
   refine Ygh YfX (args:=[stP u1,.agg (ke ⟨invD dl.1,(lookP p (touchR dl.1)),(lookP (applyR p (checkD dl.1) dl.1 (tidyD dl.1)).1 (touchR dl.1))⟩)]) (T:=[]) (M:=[500000003,500000004]) (u:=.ref 500000003 0 0 0) rfl (by exact .aggc (S:=[]) (T:=[]) (M:=[500000003,500000004]) (N:=[]) (.ptro (M:=[500000004]) rfl rfl rfl rfl rfl (.aggc (S:=[]) (T:=[]) (M:=[500000004]) (N:=[]) (Yg4 rfl rfl rfl rfl rfl rfl (by exact (Y00 _ _).symm)) .aggn)) (.frz (Frz.aggc (YfY rfl) Frz.aggn))) (by decide) (by simp) (Y1J u1 (by have:=hu1.len;omega) ⟨invD dl.1,(lookP p (touchR dl.1)),(lookP (applyR p (checkD dl.1) dl.1 (tidyD dl.1)).1 (touchR dl.1))⟩) rfl rfl (fun res z hr=>?_)
   obtain⟨rfl,rfl⟩:=hr
   refine Vm9 ?_
   refine Vb5 ?_
   refine Vs0 ?_
   refine VmH ?_
   refine VsA ?_
   refine Ygz ?_
   refine VyH ?_
   refine Vp0 ?_
   refine goWeak (Ygi (n:=500000009) (c:=0) 700001 5 rfl rfl rfl rfl rfl rfl) ?_
   refine VzH ?_
   refine VnH ?_
   exact⟨_,(applyR p (checkD dl.1) dl.1 (tidyD dl.1)).1,u0,pushE u1 ⟨invD dl.1,(lookP p (touchR dl.1)),(lookP (applyR p (checkD dl.1) dl.1 (tidyD dl.1)).1 (touchR dl.1))⟩,u2,r0,[],r2,⟨hgq,hvq,hu0,Y16 hu1 (Y0T hp hgd.ok hap),hu2,hr0,Y1Q I,hr2⟩,rfl,rfl⟩
   refine Vn9 ?_
   refine VyC ?_
   exact⟨_,p,u0,u1,u2,r0,r1,r2,⟨hp,hv.le (by omega),hu0,hu1,hu2,hr0,hr1,hr2⟩,rfl,rfl⟩
theorem Yb3 (I:Inst)(N:Nat)(hb:Sb I N)(hqI:Sp I)(hs:I.Short)(hcI:checkB I=true)(n:Nat)(hn:n≤1000000000000000000)(p:Plan)(hp:GoodP I p)(hv:VersIn n p)(u0 u1 u2 r0 r1 r2:List Entry)(hu0:StkOK I u0)(hu1:StkOK I u1)(hu2:StkOK I u2)(hr0:StkOK I r0)(hr1:StkOK I r1)(hr2:StkOK I r2)(line:ByteArray)(hl:line.size≤1000): CallsM Try.prog 34 [.ptro (mcs I p u0 u1 u2 r0 r1 r2),.int .i64 2,.str line,.bool false] (some 0) fun res q=>∃ (s:ByteArray) (p2:Plan) (a2 b2 c2 d2 e2 f2:List Entry),(GoodP I p2∧VersIn (n+100000000) p2∧StkOK I a2∧StkOK I b2∧StkOK I c2∧StkOK I d2∧StkOK I e2∧StkOK I f2)∧res=.str s∧q=.ptro (mcs I p2 a2 b2 c2 d2 e2 f2):=by
 refine Ygw (ls:=[.ref 500000000 0 0 0,.int .i64 2,.str line,.bool false]) (e:=[(500000002,⟨0,false,.slc,5,em ke u0⟩),(500000001,⟨0,false,.var,1,[[.own 500000002 0 0 u0.length none]]⟩),(500000004,⟨0,false,.slc,5,em ke u1⟩),(500000003,⟨0,false,.var,1,[[.own 500000004 0 0 u1.length none]]⟩),(500000006,⟨0,false,.slc,5,em ke u2⟩),(500000005,⟨0,false,.var,1,[[.own 500000006 0 0 u2.length none]]⟩),(500000008,⟨0,false,.slc,5,em ke r0⟩),(500000007,⟨0,false,.var,1,[[.own 500000008 0 0 r0.length none]]⟩),(500000010,⟨0,false,.slc,5,em ke r1⟩),(500000009,⟨0,false,.var,1,[[.own 500000010 0 0 r1.length none]]⟩),(500000012,⟨0,false,.slc,5,em ke r2⟩),(500000011,⟨0,false,.var,1,[[.own 500000012 0 0 r2.length none]]⟩),(500000000,⟨0,false,.var,23,[ic I++(kp p++[.ref 500000001 0 0 0,.ref 500000003 0 0 0,.ref 500000005 0 0 0,.undef,.undef,.undef,.ref 500000007 0 0 0,.ref 500000009 0 0 0,.ref 500000011 0 0 0,.undef,.undef,.undef])]⟩)]) (ju:=some (.ref 500000000 0 0 0)) Y22 mix Try.func34 rfl rfl (by simp[Try.f34]) (by kernel_rfl) (nb:=0) rfl (by simp[impAs,impT,impV,impC,impCs,impC0,impCs0,genAt,effM,Y00,mcs,stP,ic,kp]) (fun k hk=>by cases hk;exact⟨_,rfl,rfl⟩) (fun h=>by cases h) ?_
 unfold Try.f34
 refine Ve ?_
 have hpo:=hp.okP hcI
 refine Vq2 ?_
 refine VdC ?_
 refine Vf3 ?_
 refine Vx ?_
 refine Yg1 17 rfl (fun h17=>?_) (fun h17=>?_)
 rw[h17]
 replace h17:=of_decide_eq_true h17
 refine Vw0 ?_
 refine VgI ?_
 refine Vb9 ?_
 exact⟨_,p,u0,u1,u2,r0,r1,r2,⟨hp,hv.le (by omega),hu0,hu1,hu2,hr0,hr1,hr2⟩,rfl,rfl⟩
 rw[h17]
 replace h17:=of_decide_eq_false h17
 refine Vv6 ?_
 refine VkB ?_
 refine cD (fun h20=>?_) fun h20=>?_
 exact absurd h20 (by omega)
 refine Vh ?_
 refine VjB ?_
 refine Vj0 ?_
 refine Ygb rfl (fun h21=>?_) (fun h21=>?_)
 refine Va2 ?_
 refine VzC ?_
 refine VhB ?_
 refine Vb9 ?_
 exact⟨_,p,u0,u1,u2,r0,r1,r2,⟨hp,hv.le (by omega),hu0,hu1,hu2,hr0,hr1,hr2⟩,rfl,rfl⟩
 refine Vh ?_
 refine Vm6 ?_
 refine ViH ?_
 rintro cb hck0
 obtain⟨c,bb⟩:=cb
 have hck:bb=true→CmdP c∧(c.op=8→1≤c.budget∧c.budget≤20):=hck0
 refine Vt3 ?_
 refine VjH ?_
 intro g9
 refine VkH ?_
 refine VdC ?_
 refine GL.un Yg7 rfl ?_
 refine Vj0 ?_
 refine Ygb rfl (fun h29=>?_) (fun h29=>?_)
 refine Va2 ?_
 refine VzC ?_
 refine VhB ?_
 refine Vb9 ?_
 exact⟨_,p,u0,u1,u2,r0,r1,r2,⟨hp,hv.le (by omega),hu0,hu1,hu2,hr0,hr1,hr2⟩,rfl,rfl⟩
 have hcp:=hck (nt' h29)
 refine Vh ?_
 rcases (show c.op=9∨c.op=10∨(c.op≠9∧c.op≠10) by omega) with hop | hop | hop
 ·refine YgC Yg7 22 26 22 23 (fun k=>bif Nat.blt k 22 then k else bif Nat.beq k 22 then 26 else bif Nat.ble k 26 then k - 1 else k) (fun k=>bif Nat.blt k 22 then k else bif Nat.beq k 26 then 22 else bif Nat.blt k 26 then k+1 else k) (by decide) (by decide) (by decide) (by kernel_rfl) (by kernel_rfl) (YdK (by kernel_rfl)) (by kernel_rfl) (by kernel_rfl) (YdK (by kernel_rfl)) (by kernel_rfl) (by kernel_rfl) ?_ ?_
  refine Vc9 ?_
  refine Ygh Yg7 (args:=[ei I,.agg (kp p),.int .i64 2,.agg (kc c),stP u2,.undef]) (T:=[]) (M:=[500000005,500000006]) (u:=.ref 500000005 0 0 0) rfl (by exact .aggc (S:=[]) (T:=[]) (M:=[]) (N:=[500000005,500000006]) (.frz (YfY rfl)) (.aggc (S:=[]) (T:=[]) (M:=[]) (N:=[500000005,500000006]) (.frz (YfY rfl)) (.aggc (S:=[]) (T:=[]) (M:=[]) (N:=[500000005,500000006]) (.frz (Frz.pure rfl)) (.aggc (S:=[]) (T:=[]) (M:=[]) (N:=[500000005,500000006]) (.frz (YfY rfl)) (.aggc (S:=[]) (T:=[]) (M:=[500000005,500000006]) (N:=[]) (.ptro (M:=[500000006]) rfl rfl rfl rfl rfl (.aggc (S:=[]) (T:=[]) (M:=[500000006]) (N:=[]) (Yg4 rfl rfl rfl rfl rfl rfl (by exact (Y00 _ _).symm)) .aggn)) (.frz (Frz.aggc .refU Frz.aggn))))))) (by decide) (by simp) (Y5l I hcI p hp 2 c hop u2 (by have:=hu2.len;omega) hu2.good) rfl rfl (fun res z hr=>?_)
  obtain⟨⟨dl,hgd,rfl⟩,rfl⟩:=hr
  refine Vw5 ?_
  refine Vg7 ?_
  intro g11
  rotate_left
  refine Vd9 ?_
  intro g11
  refine Vp0 ?_
  refine Ygh Yg7 (args:=[ei I,.agg (kp p),.int .i64 2,.agg (kc c),stP u2,.undef]) (T:=[]) (M:=[500000005,500000006]) (u:=.ref 500000005 0 0 0) rfl (by exact .aggc (S:=[]) (T:=[]) (M:=[]) (N:=[500000005,500000006]) (.frz (YfY rfl)) (.aggc (S:=[]) (T:=[]) (M:=[]) (N:=[500000005,500000006]) (.frz (YfY rfl)) (.aggc (S:=[]) (T:=[]) (M:=[]) (N:=[500000005,500000006]) (.frz (Frz.pure rfl)) (.aggc (S:=[]) (T:=[]) (M:=[]) (N:=[500000005,500000006]) (.frz (YfY rfl)) (.aggc (S:=[]) (T:=[]) (M:=[500000005,500000006]) (N:=[]) (.ptro (M:=[500000006]) rfl rfl rfl rfl rfl (.aggc (S:=[]) (T:=[]) (M:=[500000006]) (N:=[]) (Yg4 rfl rfl rfl rfl rfl rfl (by exact (Y00 _ _).symm)) .aggn)) (.frz (Frz.aggc .refU Frz.aggn))))))) (by decide) (by simp) (Y5l I hcI p hp 2 c hop u2 (by have:=hu2.len;omega) hu2.good) rfl rfl (fun res z hr=>?_)
  obtain⟨⟨dl,hgd,rfl⟩,rfl⟩:=hr
  refine Vw5 ?_
  all_goals
   refine Ve9 ?_
   have hgq:(applyR p (checkD dl.1) dl.1 (tidyD dl.1)).2=0→GoodP I (applyR p (checkD dl.1) dl.1 (tidyD dl.1)).1:=Y0u hp hgd
   have hvq:(applyR p (checkD dl.1) dl.1 (tidyD dl.1)).2=0→VersIn (n+100000000) (applyR p (checkD dl.1) dl.1 (tidyD dl.1)).1:=Y0B hv hgd.ok hn
   refine Vf9 ?_
   intro g13
   refine Vg9 ?_
   refine cD (fun h67=>?_) fun h67=>?_
   refine Ve ?_
   have hap:=h67
   replace hgq:=hgq hap
   replace hvq:=hvq hap
   have hqo:=hgq.okP hcI
   have htl:=Y0O hgd.ok
   refine Vh9 ?_
   refine GL.inl Yg7 (nb':=1000000) rfl ⟨rfl,rfl,fun c hc=>?_⟩
   unfold Try.f60 at hc
   injection hc with hc
   subst hc
   refine Vp7 ?_
   intro g7
   refine Vo ?_
   intro g8
   refine Vo ?_
   intro g9
   refine Vi9 ?_
   refine cD (fun h21=>?_) fun h21=>?_
   refine Vj9 ?_
   refine YgB ?_
   refine Vp3 ?_
   refine VsM ?_
   exact⟨_,(applyR p (checkD dl.1) dl.1 (tidyD dl.1)).1,u0,u1,u2,r0,r1,r2,⟨hgq,hvq,hu0,hu1,hu2,hr0,hr1,hr2⟩,rfl,rfl⟩
   refine Vh ?_
   have hE0:=hgd.ok
   refine Vk9 ?_
   intro g15
   refine Vl9 ?_
   rw[show (c.op == 9)=true by first | (rw[hop];rfl) | exact beq_false_of_ne (by omega)]
   refine ViC ?_
   refine Ygh YfX (args:=[stP u2]) (T:=[]) (M:=[500000005,1014155776]) (u:=.ref 500000005 0 0 0) rfl (by exact .aggc (S:=[]) (T:=[]) (M:=[500000005,1014155776]) (N:=[]) (.ptro (M:=[1014155776]) rfl rfl rfl rfl rfl (.aggc (S:=[]) (T:=[]) (M:=[1014155776]) (N:=[]) (Yg4 rfl rfl rfl rfl rfl rfl (by rfl)) .aggn)) (.frz Frz.aggn)) (by decide) (by simp) (Y5f u2 (by have:=hu2.len;omega)) rfl rfl (fun res z hr=>?_)
   obtain⟨rfl,rfl⟩:=hr
   refine Va9 ?_
   intro g16
   refine Vs3 ?_
   refine Vd0 ?_
   refine VwA ?_
   refine Ygh YfX (args:=[stP (popE u2),.fmap (em kv (topE u2).pre),.fmap (em kv (lookP (applyR p (checkD dl.1) dl.1 (tidyD dl.1)).1 (touchR dl.1)))]) (T:=[]) (M:=[500000005,5108058624]) (u:=.ref 500000005 0 0 0) rfl (by exact .aggc (S:=[]) (T:=[]) (M:=[500000005,5108058624]) (N:=[]) (.ptro (M:=[5108058624]) rfl rfl rfl rfl rfl (.aggc (S:=[]) (T:=[]) (M:=[5108058624]) (N:=[]) (Yg4 rfl rfl rfl rfl rfl rfl (by rfl)) .aggn)) (.frz (Frz.aggc (Frz.pure rfl) (Frz.aggc (Frz.pure rfl) Frz.aggn)))) (by decide) (by simp) (Y2j (popE u2) (by have:=(Y13 hu2).len;omega) _ _) rfl rfl (fun res z hr=>?_)
   obtain⟨E2,hE2,rfl,rfl⟩:=hr
   refine Vm9 ?_
   refine Vh8 ?_
   refine Ygh YfX (args:=[stP r2,.agg (ke ⟨invD dl.1,(lookP p (touchR dl.1)),(lookP (applyR p (checkD dl.1) dl.1 (tidyD dl.1)).1 (touchR dl.1))⟩)]) (T:=[]) (M:=[500000011,500000012]) (u:=.ref 500000011 0 0 0) rfl (by exact .aggc (S:=[]) (T:=[]) (M:=[500000011,500000012]) (N:=[]) (.ptro (M:=[500000012]) rfl rfl rfl rfl rfl (.aggc (S:=[]) (T:=[]) (M:=[500000012]) (N:=[]) (Yg4 rfl rfl rfl rfl rfl rfl (by exact (Y00 _ _).symm)) .aggn)) (.frz (Frz.aggc (YfY rfl) Frz.aggn))) (by decide) (by simp) (Y1J r2 (by have:=hr2.len;omega) ⟨invD dl.1,(lookP p (touchR dl.1)),(lookP (applyR p (checkD dl.1) dl.1 (tidyD dl.1)).1 (touchR dl.1))⟩) rfl rfl (fun res z hr=>?_)
   obtain⟨rfl,rfl⟩:=hr
   refine Vz9 ?_
   refine Vz5 ?_
   refine Ygz ?_
   refine Vp3 ?_
   refine VoH ?_
   exact⟨_,(applyR p (checkD dl.1) dl.1 (tidyD dl.1)).1,u0,u1,E2,r0,r1,pushE r2 ⟨invD dl.1,(lookP p (touchR dl.1)),(lookP (applyR p (checkD dl.1) dl.1 (tidyD dl.1)).1 (touchR dl.1))⟩,⟨hgq,hvq,hu0,hu1,Y1z hE2 (Y13 hu2),hr0,hr1,Y16 hr2 (Y0T hp hgd.ok hap)⟩,rfl,rfl⟩
   refine Vn9 ?_
   refine VsM ?_
   exact⟨_,p,u0,u1,u2,r0,r1,r2,⟨hp,hv.le (by omega),hu0,hu1,hu2,hr0,hr1,hr2⟩,rfl,rfl⟩
 ·refine YgC Yg7 22 26 22 23 (fun k=>bif Nat.blt k 22 then k else bif Nat.beq k 22 then 26 else bif Nat.ble k 26 then k - 1 else k) (fun k=>bif Nat.blt k 22 then k else bif Nat.beq k 26 then 22 else bif Nat.blt k 26 then k+1 else k) (by decide) (by decide) (by decide) (by kernel_rfl) (by kernel_rfl) (YdK (by kernel_rfl)) (by kernel_rfl) (by kernel_rfl) (YdK (by kernel_rfl)) (by kernel_rfl) (by kernel_rfl) ?_ ?_
  refine Vc9 ?_
  refine Ygh Yg7 (args:=[ei I,.agg (kp p),.int .i64 2,.agg (kc c),.undef,stP r2]) (T:=[]) (M:=[500000011,500000012]) (u:=.ref 500000011 0 0 0) rfl (by exact .aggc (S:=[]) (T:=[]) (M:=[]) (N:=[500000011,500000012]) (.frz (YfY rfl)) (.aggc (S:=[]) (T:=[]) (M:=[]) (N:=[500000011,500000012]) (.frz (YfY rfl)) (.aggc (S:=[]) (T:=[]) (M:=[]) (N:=[500000011,500000012]) (.frz (Frz.pure rfl)) (.aggc (S:=[]) (T:=[]) (M:=[]) (N:=[500000011,500000012]) (.frz (YfY rfl)) (.aggc (S:=[]) (T:=[]) (M:=[]) (N:=[500000011,500000012]) (.frz .refU) (.aggc (S:=[]) (T:=[]) (M:=[500000011,500000012]) (N:=[]) (.ptro (M:=[500000012]) rfl rfl rfl rfl rfl (.aggc (S:=[]) (T:=[]) (M:=[500000012]) (N:=[]) (Yg4 rfl rfl rfl rfl rfl rfl (by exact (Y00 _ _).symm)) .aggn)) (.frz Frz.aggn))))))) (by decide) (by simp) (Y54 I hcI p hp 2 c hop r2 (by have:=hr2.len;omega) hr2.good) rfl rfl (fun res z hr=>?_)
  obtain⟨⟨dl,hgd,rfl⟩,rfl⟩:=hr
  refine Vw5 ?_
  refine Vg7 ?_
  intro g11
  rotate_left
  refine Vd9 ?_
  intro g11
  refine Vp0 ?_
  refine Ygh Yg7 (args:=[ei I,.agg (kp p),.int .i64 2,.agg (kc c),.undef,stP r2]) (T:=[]) (M:=[500000011,500000012]) (u:=.ref 500000011 0 0 0) rfl (by exact .aggc (S:=[]) (T:=[]) (M:=[]) (N:=[500000011,500000012]) (.frz (YfY rfl)) (.aggc (S:=[]) (T:=[]) (M:=[]) (N:=[500000011,500000012]) (.frz (YfY rfl)) (.aggc (S:=[]) (T:=[]) (M:=[]) (N:=[500000011,500000012]) (.frz (Frz.pure rfl)) (.aggc (S:=[]) (T:=[]) (M:=[]) (N:=[500000011,500000012]) (.frz (YfY rfl)) (.aggc (S:=[]) (T:=[]) (M:=[]) (N:=[500000011,500000012]) (.frz .refU) (.aggc (S:=[]) (T:=[]) (M:=[500000011,500000012]) (N:=[]) (.ptro (M:=[500000012]) rfl rfl rfl rfl rfl (.aggc (S:=[]) (T:=[]) (M:=[500000012]) (N:=[]) (Yg4 rfl rfl rfl rfl rfl rfl (by exact (Y00 _ _).symm)) .aggn)) (.frz Frz.aggn))))))) (by decide) (by simp) (Y54 I hcI p hp 2 c hop r2 (by have:=hr2.len;omega) hr2.good) rfl rfl (fun res z hr=>?_)
  obtain⟨⟨dl,hgd,rfl⟩,rfl⟩:=hr
  refine Vw5 ?_
  all_goals
   refine Ve9 ?_
   have hgq:(applyR p (checkD dl.1) dl.1 (tidyD dl.1)).2=0→GoodP I (applyR p (checkD dl.1) dl.1 (tidyD dl.1)).1:=Y0u hp hgd
   have hvq:(applyR p (checkD dl.1) dl.1 (tidyD dl.1)).2=0→VersIn (n+100000000) (applyR p (checkD dl.1) dl.1 (tidyD dl.1)).1:=Y0B hv hgd.ok hn
   refine Vf9 ?_
   intro g13
   refine Vg9 ?_
   refine cD (fun h67=>?_) fun h67=>?_
   refine Ve ?_
   have hap:=h67
   replace hgq:=hgq hap
   replace hvq:=hvq hap
   have hqo:=hgq.okP hcI
   have htl:=Y0O hgd.ok
   refine Vh9 ?_
   refine GL.inl Yg7 (nb':=1000000) rfl ⟨rfl,rfl,fun c hc=>?_⟩
   unfold Try.f60 at hc
   injection hc with hc
   subst hc
   refine Vp7 ?_
   intro g7
   refine Vo ?_
   intro g8
   refine Vo ?_
   intro g9
   refine Vi9 ?_
   refine cD (fun h21=>?_) fun h21=>?_
   refine Vj9 ?_
   refine YgB ?_
   refine Vp3 ?_
   refine VtM ?_
   exact⟨_,(applyR p (checkD dl.1) dl.1 (tidyD dl.1)).1,u0,u1,u2,r0,r1,r2,⟨hgq,hvq,hu0,hu1,hu2,hr0,hr1,hr2⟩,rfl,rfl⟩
   refine Vh ?_
   have hE0:=hgd.ok
   refine Vk9 ?_
   intro g15
   refine Vl9 ?_
   rw[show (c.op == 9)=false by first | (rw[hop];rfl) | exact beq_false_of_ne (by omega)]
   refine Vb8 ?_
   refine VeB ?_
   rw[show (c.op == 10)=true by first | (rw[hop];rfl) | exact beq_false_of_ne (by omega)]
   refine ViC ?_
   refine Ygh YfX (args:=[stP r2]) (T:=[]) (M:=[500000011,1014155776]) (u:=.ref 500000011 0 0 0) rfl (by exact .aggc (S:=[]) (T:=[]) (M:=[500000011,1014155776]) (N:=[]) (.ptro (M:=[1014155776]) rfl rfl rfl rfl rfl (.aggc (S:=[]) (T:=[]) (M:=[1014155776]) (N:=[]) (Yg4 rfl rfl rfl rfl rfl rfl (by rfl)) .aggn)) (.frz Frz.aggn)) (by decide) (by simp) (Y5f r2 (by have:=hr2.len;omega)) rfl rfl (fun res z hr=>?_)
   obtain⟨rfl,rfl⟩:=hr
   refine Va9 ?_
   intro g18
   refine Vs3 ?_
   refine Vd0 ?_
   refine VwA ?_
   refine Ygh YfX (args:=[stP (popE r2),.fmap (em kv (topE r2).pre),.fmap (em kv (lookP (applyR p (checkD dl.1) dl.1 (tidyD dl.1)).1 (touchR dl.1)))]) (T:=[]) (M:=[500000011,5111990784]) (u:=.ref 500000011 0 0 0) rfl (by exact .aggc (S:=[]) (T:=[]) (M:=[500000011,5111990784]) (N:=[]) (.ptro (M:=[5111990784]) rfl rfl rfl rfl rfl (.aggc (S:=[]) (T:=[]) (M:=[5111990784]) (N:=[]) (Yg4 rfl rfl rfl rfl rfl rfl (by rfl)) .aggn)) (.frz (Frz.aggc (Frz.pure rfl) (Frz.aggc (Frz.pure rfl) Frz.aggn)))) (by decide) (by simp) (Y2j (popE r2) (by have:=(Y13 hr2).len;omega) _ _) rfl rfl (fun res z hr=>?_)
   obtain⟨E2,hE2,rfl,rfl⟩:=hr
   refine Vm9 ?_
   refine Vh8 ?_
   refine Ygh YfX (args:=[stP u2,.agg (ke ⟨invD dl.1,(lookP p (touchR dl.1)),(lookP (applyR p (checkD dl.1) dl.1 (tidyD dl.1)).1 (touchR dl.1))⟩)]) (T:=[]) (M:=[500000005,500000006]) (u:=.ref 500000005 0 0 0) rfl (by exact .aggc (S:=[]) (T:=[]) (M:=[500000005,500000006]) (N:=[]) (.ptro (M:=[500000006]) rfl rfl rfl rfl rfl (.aggc (S:=[]) (T:=[]) (M:=[500000006]) (N:=[]) (Yg4 rfl rfl rfl rfl rfl rfl (by exact (Y00 _ _).symm)) .aggn)) (.frz (Frz.aggc (YfY rfl) Frz.aggn))) (by decide) (by simp) (Y1J u2 (by have:=hu2.len;omega) ⟨invD dl.1,(lookP p (touchR dl.1)),(lookP (applyR p (checkD dl.1) dl.1 (tidyD dl.1)).1 (touchR dl.1))⟩) rfl rfl (fun res z hr=>?_)
   obtain⟨rfl,rfl⟩:=hr
   refine Vz9 ?_
   refine Vz5 ?_
   refine Ygz ?_
   refine Vp3 ?_
   refine VoH ?_
   exact⟨_,(applyR p (checkD dl.1) dl.1 (tidyD dl.1)).1,u0,u1,pushE u2 ⟨invD dl.1,(lookP p (touchR dl.1)),(lookP (applyR p (checkD dl.1) dl.1 (tidyD dl.1)).1 (touchR dl.1))⟩,r0,r1,E2,⟨hgq,hvq,hu0,hu1,Y16 hu2 (Y0T hp hgd.ok hap),hr0,hr1,Y1z hE2 (Y13 hr2)⟩,rfl,rfl⟩
   refine Vn9 ?_
   refine VtM ?_
   exact⟨_,p,u0,u1,u2,r0,r1,r2,⟨hp,hv.le (by omega),hu0,hu1,hu2,hr0,hr1,hr2⟩,rfl,rfl⟩
 ·refine YgC Yg7 22 26 22 23 (fun k=>bif Nat.blt k 22 then k else bif Nat.beq k 22 then 26 else bif Nat.ble k 26 then k - 1 else k) (fun k=>bif Nat.blt k 22 then k else bif Nat.beq k 26 then 22 else bif Nat.blt k 26 then k+1 else k) (by decide) (by decide) (by decide) (by kernel_rfl) (by kernel_rfl) (YdK (by kernel_rfl)) (by kernel_rfl) (by kernel_rfl) (YdK (by kernel_rfl)) (by kernel_rfl) (by kernel_rfl) ?_ ?_
  refine Vc9 ?_
  refine VaD ?_
  rintro dl hgd
  refine Vq0 ?_
  refine Vt3 ?_
  refine Vg7 ?_
  intro g11
  rotate_left
  refine Vd9 ?_
  intro g11
  refine Vp0 ?_
  refine VaD ?_
  rintro dl hgd
  refine Vq0 ?_
  refine Vt3 ?_
  all_goals
   refine Ve9 ?_
   have hgq:(applyR p (checkD dl.1) dl.1 (tidyD dl.1)).2=0→GoodP I (applyR p (checkD dl.1) dl.1 (tidyD dl.1)).1:=Y0u hp hgd
   have hvq:(applyR p (checkD dl.1) dl.1 (tidyD dl.1)).2=0→VersIn (n+100000000) (applyR p (checkD dl.1) dl.1 (tidyD dl.1)).1:=Y0B hv hgd.ok hn
   refine Vf9 ?_
   intro g13
   refine Vg9 ?_
   refine cD (fun h67=>?_) fun h67=>?_
   refine Ve ?_
   have hap:=h67
   replace hgq:=hgq hap
   replace hvq:=hvq hap
   have hqo:=hgq.okP hcI
   have htl:=Y0O hgd.ok
   refine Vh9 ?_
   refine GL.inl Yg7 (nb':=1000000) rfl ⟨rfl,rfl,fun c hc=>?_⟩
   unfold Try.f60 at hc
   injection hc with hc
   subst hc
   refine Vp7 ?_
   intro g7
   refine Vo ?_
   intro g8
   refine Vo ?_
   intro g9
   refine Vi9 ?_
   refine cD (fun h21=>?_) fun h21=>?_
   refine Vj9 ?_
   refine YgB ?_
   refine Vp3 ?_
   refine VyC ?_
   exact⟨_,(applyR p (checkD dl.1) dl.1 (tidyD dl.1)).1,u0,u1,u2,r0,r1,r2,⟨hgq,hvq,hu0,hu1,hu2,hr0,hr1,hr2⟩,rfl,rfl⟩
   refine Vh ?_
   have hE0:=hgd.ok
   refine Vk9 ?_
   intro g15
   refine Vl9 ?_
   rw[show (c.op == 9)=false by first | (rw[hop];rfl) | exact beq_false_of_ne (by omega)]
   refine Vb8 ?_
   refine VeB ?_
   rw[show (c.op == 10)=false by first | (rw[hop];rfl) | exact beq_false_of_ne (by omega)]
   refine Vb8 ?_
   refine Vp ?_
   refine Vh8 ?_
   refine Ygh YfX (args:=[stP u2,.agg (ke ⟨invD dl.1,(lookP p (touchR dl.1)),(lookP (applyR p (checkD dl.1) dl.1 (tidyD dl.1)).1 (touchR dl.1))⟩)]) (T:=[]) (M:=[500000005,500000006]) (u:=.ref 500000005 0 0 0) rfl (by exact .aggc (S:=[]) (T:=[]) (M:=[500000005,500000006]) (N:=[]) (.ptro (M:=[500000006]) rfl rfl rfl rfl rfl (.aggc (S:=[]) (T:=[]) (M:=[500000006]) (N:=[]) (Yg4 rfl rfl rfl rfl rfl rfl (by exact (Y00 _ _).symm)) .aggn)) (.frz (Frz.aggc (YfY rfl) Frz.aggn))) (by decide) (by simp) (Y1J u2 (by have:=hu2.len;omega) ⟨invD dl.1,(lookP p (touchR dl.1)),(lookP (applyR p (checkD dl.1) dl.1 (tidyD dl.1)).1 (touchR dl.1))⟩) rfl rfl (fun res z hr=>?_)
   obtain⟨rfl,rfl⟩:=hr
   refine Vm9 ?_
   refine Vb5 ?_
   refine Vs0 ?_
   refine VmH ?_
   refine VsA ?_
   refine Ygz ?_
   refine VyH ?_
   refine Vp0 ?_
   refine goWeak (Ygi (n:=500000011) (c:=0) 700001 5 rfl rfl rfl rfl rfl rfl) ?_
   refine VzH ?_
   refine VoH ?_
   exact⟨_,(applyR p (checkD dl.1) dl.1 (tidyD dl.1)).1,u0,u1,pushE u2 ⟨invD dl.1,(lookP p (touchR dl.1)),(lookP (applyR p (checkD dl.1) dl.1 (tidyD dl.1)).1 (touchR dl.1))⟩,r0,r1,[],⟨hgq,hvq,hu0,hu1,Y16 hu2 (Y0T hp hgd.ok hap),hr0,hr1,Y1Q I⟩,rfl,rfl⟩
   refine Vn9 ?_
   refine VyC ?_
   exact⟨_,p,u0,u1,u2,r0,r1,r2,⟨hp,hv.le (by omega),hu0,hu1,hu2,hr0,hr1,hr2⟩,rfl,rfl⟩
theorem Y4i {I:Inst}(h:checkB I=true): I.cars.all carOk=true∧travelOk I=true:=by
 unfold checkB at h
 simp only[Ye0] at h
 exact⟨h.2.2.1,h.2.2.2.2.2⟩
theorem Y99 {I:Inst}(h:checkB I=true): Mv.cell I 0 0=0:=by
 have h:=(Y4i h).2
 unfold travelOk at h
 simp only[Ye0,decide_eq_true_eq] at h
 cases ht:I.travel with
 | nil=>rw[ht] at h;simp at h
 | cons r t =>
   rw[ht] at h
   have h2:=h.2
   rw[rowsGo,Ye0] at h2
   have h3:=h2.1
   unfold rowOk at h3
   simp only[Ye0,decide_eq_true_eq] at h3
   unfold Mv.cell
   rw[ht]
   exact h3.2.1
theorem Y87 {I:Inst}{N:Nat}(hb:Sb I N)(hcI:checkB I=true){k:Nat}(hk:k<I.cars.length): (eval I (k:Int) []).isSome=true:=by
 have hc:=hb.car k hk
 have hok:=Yed.1 (Y4i hcI).1 _ (Y02 hk)
 unfold carOk at hok
 simp only[Ye0,Y0h] at hok
 have hw:way I 0 0=0:=by rw[hb.sq.way (by omega) (by omega) (by omega) (by omega)];exact Y99 hcI
 unfold eval
 rw[if_neg (by rintro (h | h | h) <;> first | omega | (simp[order] at h))]
 rw[YeT]
 simp only[evalGo]
 rw[hw,Y0D (by omega),if_neg (by omega)]
 rfl
theorem YbL {I:Inst}{N:Nat}(hb:Sb I N)(hcI:checkB I=true): GoodP I (newP I):=by
 unfold newP
 rw[if_pos hcI]
 refine⟨⟨by simp,by simp,by simp,by simp,by simp,by simp,fun r hr s hs=>?_,by simp⟩,fun k hk=>?_,fun h hh=>?_,fun h hh=>?_,?_⟩
 have hr:r∈List.replicate I.cars.length ([]:List Int):=hr
 rw[YeQ hr] at hs
 cases hs
 have hk:k<I.cars.length:=by simpa using hk
 have e:(List.replicate I.cars.length ([]:List Int)).getD k default=[]:=YeQ (Y02 (by simpa using hk))
 show (eval I (k:Int) ((List.replicate I.cars.length ([]:List Int)).getD k default)).isSome=true
 rw[e]
 exact Y87 hb hcI hk
 have hh:h∈List.replicate (I.stops.length+1) (-1:Int):=hh
 rw[YeQ hh]
 decide
 have hh:h∈List.replicate I.cars.length (-1:Int):=hh
 rw[YeQ hh]
 decide
 show (List.replicate (I.stops.length+1) (-1:Int)).getD 0 default = -1
 exact YeQ (Y02 (by simp))
theorem Yc5 (I:Inst)(n:Nat): VersIn n (newP I):=by
 unfold newP
 split
 refine⟨fun v hv=>?_,fun v hv=>?_,fun v hv=>?_,⟨Int.le_refl _,Int.natCast_nonneg n⟩⟩ <;> (rw[show v=0 from YeQ hv];omega)
 exact⟨fun v hv=>(Yfv hv).elim,fun v hv=>(Yfv hv).elim,fun v hv=>(Yfv hv).elim,⟨Int.le_refl _,Int.natCast_nonneg n⟩⟩
theorem Y6g {n:Nat}: ∀ {l h:List Int},onceN n l h=true↔l.Nodup∧∀ x∈l,(1≤x∧x≤(n:Int))∧x∉h
 | [],h=>by simp[onceN]
 | x::r,h=>by
   rw[onceN]
   split
   · rename_i hx
     refine⟨fun e=>(Bool.noConfusion e),fun ⟨_,h2⟩=>?_⟩
     have:=h2 x (by simp)
     rcases hx with hx | hx
     · omega
     · exact absurd hx this.2
   · rename_i hx
     simp only[not_or] at hx
     rw[Y6g,YeV]
     constructor
     · rintro⟨h1,h2⟩
       refine⟨⟨fun hm=>(h2 x hm).2 (Y0I.2 (.inr rfl)),h1⟩,fun y hy=>?_⟩
       rcases Yep.1 hy with rfl | hy
       · exact⟨by omega,hx.2⟩
       · exact⟨(h2 y hy).1,fun hm=>(h2 y hy).2 (Y0I.2 (.inl hm))⟩
     · rintro⟨⟨h1,h2⟩,h3⟩
       refine⟨h2,fun y hy=>⟨(h3 y (YdV _ hy)).1,fun hm=>?_⟩⟩
       rcases Y0I.1 hm with hm | rfl
       · exact (h3 y (YdV _ hy)).2 hm
       · exact h1 hy
theorem Y1Z {n:Nat}{R:List (List Int)}: onceA n R=true↔R.flatten.Nodup∧∀ x∈R.flatten,1≤x∧x≤(n:Int):=by
 unfold onceA
 rw[Y6g]
 simp
theorem Y9g {n:Nat}{R R':List (List Int)}(h:R.flatten.Perm R'.flatten): onceA n R=onceA n R':=by
 rw[Yf2,Y1Z,Y1Z,h.nodup_iff]
 exact⟨fun ⟨a,b⟩=>⟨a,fun x hx=>b x (h.mem_iff.2 hx)⟩,fun ⟨a,b⟩=>⟨a,fun x hx=>b x (h.mem_iff.1 hx)⟩⟩
theorem Y4Q {i:Inst}{R:List (List Int)}: drivenB i R=true↔∀ k,k<R.length→(eval i (k:Int) (R.getD k default)).isSome=true:=by
 unfold drivenB
 rw[Yed]
 exact⟨fun h k hk=>h k (YeI.2 hk),fun h k hk=>h k (YeI.1 hk)⟩
theorem Y5d {l:List Int}(h:∀ x∈l,-1≤x∧x≤5): holdersB l=true:=by
 unfold holdersB
 have:l.any holderX=false:=by
   rw[List.any_eq_false]
   intro x hx
   have:=h x hx
   simp only[holderX,YfH,decide_eq_true_eq]
   omega
 rw[this]
 rfl
theorem Y8P {I:Inst}{p:Plan}(h:WfP I p): lengthsB I p=true:=by
 simp[lengthsB,h.routes,h.ice,h.rv,h.iv,h.lock,h.sv]
/-- What is told of a plan whose lists are as long as they must be, and whose holders there are. -/
theorem Y8X {I:Inst}{p:Plan}(hcI:checkB I=true)(hp:GoodP I p){R:List (List Int)}(hl:R.length=p.routes.length):
   auditC I { p with routes:=R }=if onceA I.stops.length R=false then 4 else if drivenB I R=false then 13 else 0:=by
 have h1:lengthsB I { p with routes:=R }=true:=by
   have:=Y8P hp.wf
   unfold lengthsB at this ⊢
   simp only at this ⊢
   rw[hl]
   exact this
 unfold auditC
 rw[hcI,if_neg (by decide),h1,if_neg (by rw[Y5d hp.lockH,Y5d hp.iceH];decide)]
theorem YcO {I:Inst}{p:Plan}(h:WfP I p): onceA I.stops.length p.routes=true:=by
 refine Y1Z.2 ⟨h.once,fun x hx=>?_⟩
 obtain⟨r,hr,hx⟩:=YfT.1 hx
 exact h.stops r hr x hx
theorem Y5H:∀ (R:List (List Int)) (c:Nat),(R.set c []).flatten.Sublist R.flatten
 | [],c=>by simp
 | r::t,0=>by simp
 | r::t,c+1=>by
   simp only[YdT,YfC]
   exact List.Sublist.append (List.Sublist.refl _) (Y5H t c)
theorem Y7d {I:Inst}{N:Nat}(hb:Sb I N){p:Plan}(hcI:checkB I=true)(hp:GoodP I p){c:Nat}(hc:c<p.routes.length): auditC I { p with routes:=p.routes.set c [] }=0:=by
 rw[Y8X hcI hp (by simp)]
 have ho:=Y1Z.1 (YcO hp.wf)
 have h1:onceA I.stops.length (p.routes.set c [])=true:=Y1Z.2 ⟨ho.1.sublist (Y5H _ _),fun x hx=>ho.2 x ((Y5H _ _).subset hx)⟩
 have h2:drivenB I (p.routes.set c [])=true:=by
   refine Y4Q.2 fun k hk=>?_
   rw[YdQ] at hk
   rw[Y0R _ _ _ _ (by omega)]
   split
   · exact Y87 hb hcI (by rw[← hp.wf.routes];omega)
   · exact hp.driven k hk
 rw[h1,h2]
 rfl
def swapE (R:List (List Int)): List (List Int):=(R.set 0 (R.getD (R.length - 1) default)).set (R.length - 1) (R.getD 0 default)
theorem Y04 (R:List (List Int)): (swapE R).length=R.length:=by simp[swapE]
theorem Y2t {R:List (List Int)}(h:0<R.length): (swapE R).Perm R:=by
 have:=List.set_set_perm (i:=0) (j:=R.length - 1) h (show R.length - 1<R.length by omega)
 unfold swapE
 rw[Ye9,Ye9,YdO h,YdO (show R.length - 1<R.length by omega)]
 exact this
theorem Y6o {i:Inst}{a b:Int}(ha:0≤a∧a<i.cars.length)(hb:0≤b∧b<i.cars.length)(h:i.cars.getD a.toNat default=i.cars.getD b.toNat default)(l:List Int): eval i a l=eval i b l:=by
 unfold eval
 rw[h]
 by_cases ho:order i l=false
 rw[if_pos (.inr (.inr ho)),if_pos (.inr (.inr ho))]
 rw[if_neg (by rintro (h | h | h) <;> first | omega | exact ho h),if_neg (by rintro (h | h | h) <;> first | omega | exact ho h)]
theorem Y4S {i:Inst}(hc:∀ a b,a<i.cars.length→b<i.cars.length→i.cars.getD a default=i.cars.getD b default){R:List (List Int)}(hl:R.length=i.cars.length)(h0:0<i.cars.length): drivenB i R=true↔∀ r∈R,(eval i 0 r).isSome=true:=by
 rw[Y4Q]
 constructor
 intro h r hr
 obtain⟨k,hk,rfl⟩:=Y1E hr
 rw[Y6o (a:=0) (b:=(k:Int)) (by omega) (by omega) (hc _ _ (by omega) (by omega))]
 exact h k hk
 intro h k hk
 rw[Y6o (a:=(k:Int)) (b:=0) (by omega) (by omega) (hc _ _ (by omega) (by omega))]
 exact h _ (Y02 hk)
theorem Y8Y {j:Inst}(hc:∀ a b,a<j.cars.length→b<j.cars.length→j.cars.getD a default=j.cars.getD b default)(p:Plan)(h0:0<p.routes.length): auditC j { p with routes:=swapE p.routes }=auditC j p:=by
 have h1:lengthsB j { p with routes:=swapE p.routes }=lengthsB j p:=by
   unfold lengthsB
   simp only[Y04]
 unfold auditC
 rw[h1]
 by_cases hk:checkB j=false
 rw[if_pos hk,if_pos hk]
 rw[if_neg hk,if_neg hk]
 by_cases hl:(lengthsB j p && (holdersB p.lock && holdersB p.ice))=false
 rw[if_pos hl,if_pos hl]
 rw[if_neg hl,if_neg hl]
 have ho:onceA j.stops.length (swapE p.routes)=onceA j.stops.length p.routes:=Y9g (Y2t h0).flatten
 have hlen:p.routes.length=j.cars.length:=by
   simp only[Bool.not_eq_false,Ye0,lengthsB,decide_eq_true_eq] at hl
   exact hl.1.1
 have hd:drivenB j (swapE p.routes)=drivenB j p.routes:=by
   rw[Yf2,Y4S hc (by rw[Y04];exact hlen) (by omega),Y4S hc hlen (by omega)]
   exact⟨fun h r hr=>h r ((Y2t h0).mem_iff.2 hr),fun h r hr=>h r ((Y2t h0).mem_iff.1 hr)⟩
 rw[show ({ p with routes:=swapE p.routes }:Plan).routes=swapE p.routes from rfl,ho,hd]
theorem Ycq (m:Mem)(I:Inst)(p:Plan)(u0 u1 u2 r0 r1 r2:List Entry): impT m (0+64*9) (.ptro (mcs I p u0 u1 u2 r0 r1 r2))=(.ref 576 (genAt m 576) 0 0,[(578,⟨(genAt m 578),false,.slc,5,em ke u0⟩),(577,⟨(genAt m 577),false,.var,1,[[.own 578 (genAt m 578) 0 u0.length none]]⟩),(580,⟨(genAt m 580),false,.slc,5,em ke u1⟩),(579,⟨(genAt m 579),false,.var,1,[[.own 580 (genAt m 580) 0 u1.length none]]⟩),(582,⟨(genAt m 582),false,.slc,5,em ke u2⟩),(581,⟨(genAt m 581),false,.var,1,[[.own 582 (genAt m 582) 0 u2.length none]]⟩),(584,⟨(genAt m 584),false,.slc,5,em ke r0⟩),(583,⟨(genAt m 583),false,.var,1,[[.own 584 (genAt m 584) 0 r0.length none]]⟩),(586,⟨(genAt m 586),false,.slc,5,em ke r1⟩),(585,⟨(genAt m 585),false,.var,1,[[.own 586 (genAt m 586) 0 r1.length none]]⟩),(588,⟨(genAt m 588),false,.slc,5,em ke r2⟩),(587,⟨(genAt m 587),false,.var,1,[[.own 588 (genAt m 588) 0 r2.length none]]⟩),(576,⟨(genAt m 576),false,.var,23,[ic I++(kp p++[.ref 577 (genAt m 577) 0 0,.ref 579 (genAt m 579) 0 0,.ref 581 (genAt m 581) 0 0,.undef,.undef,.undef,.ref 583 (genAt m 583) 0 0,.ref 585 (genAt m 585) 0 0,.ref 587 (genAt m 587) 0 0,.undef,.undef,.undef])]⟩)]):=by
 simp[mcs,stP,ic,kp,impT,impCs,impC,impC0,impCs0,Y00]
section
variable {P:Program}{I:InlP}{ops:Array Oper}{K:St→Prop}{r:List Oper}{ts:Slots}{m:Mem}{ty:TypeId}{pos:String}{af:Array Edge}{d:Bool}{i:Nat}{acc:List (Nat × List Nat × List Nat)}
theorem callMcs (hI:InlM I){g:Operand}{asv:Array Operand}{tys:Array TypeId}{f:FuncId}{caps args:List LV}{J:Inst}{p:Plan}{u0 u1 u2 r0 r1 r2:List Entry}(hg:evalO ts g=.fn f caps)(hf:Frz m (.agg (asv.toList.map (evalO ts)++caps)) (.agg args) [])(hc:CallsV P f args (.ptro (mcs J p u0 u1 u2 r0 r1 r2)))
   (k:∀ g9 h0 h1 h2 h3 h4 h5 h6 h7 h8 h9 h10 h11,GL P I 0 ops K false r (i+1) acc ⟨updS ts 9 (.ref 576 g9 0 0),effM m [(578,⟨h1,false,.slc,5,em ke u0⟩),(577,⟨h0,false,.var,1,[[.own 578 h1 0 u0.length none]]⟩),(580,⟨h3,false,.slc,5,em ke u1⟩),(579,⟨h2,false,.var,1,[[.own 580 h3 0 u1.length none]]⟩),(582,⟨h5,false,.slc,5,em ke u2⟩),(581,⟨h4,false,.var,1,[[.own 582 h5 0 u2.length none]]⟩),(584,⟨h7,false,.slc,5,em ke r0⟩),(583,⟨h6,false,.var,1,[[.own 584 h7 0 r0.length none]]⟩),(586,⟨h9,false,.slc,5,em ke r1⟩),(585,⟨h8,false,.var,1,[[.own 586 h9 0 r1.length none]]⟩),(588,⟨h11,false,.slc,5,em ke r2⟩),(587,⟨h10,false,.var,1,[[.own 588 h11 0 r2.length none]]⟩),(576,⟨g9,false,.var,23,[ic J++(kp p++[.ref 577 h0 0 0,.ref 579 h2 0 0,.ref 581 h4 0 0,.undef,.undef,.undef,.ref 583 h6 0 0,.ref 585 h8 0 0,.ref 587 h10 0 0,.undef,.undef,.undef])]⟩)]⟩) :
   GL P I 0 ops K false (⟨some 9,.call { callee:=.value g,args:=asv,argTypes:=tys },ty,pos,af,none⟩::r) i acc ⟨ts,m⟩ :=
 Ygv hI hg hf hc rfl rfl rfl (Ycq _ _ _ _ _ _ _ _ _) (GL.accI hI (k _ _ _ _ _ _ _ _ _ _ _ _ _))
end
theorem dsz {n:Int}(h:-1000000≤n∧n≤1000000): (digS n).size≤21:=Y0F (by unfold In;omega)
theorem Y8d {n x y sz:Int}(hx:0≤x∧x≤11)(hy:0≤y∧y≤4)(hs:0≤sz∧sz≤100): (pl1 n x y sz).size≤66:=by
 have wa:=Y03 (a:=n.tdiv 11) (n:=sz+1) (by omega)
 have wb:=Y03 (a:=n.tdiv 67) (n:=20) (by omega)
 have qb:=tq1 (n:=19) wb.1 (by omega) (by omega)
 have qa:=tq (n:=19) wb.1 (by omega)
 unfold pl1
 have d1:(digS x).size≤21:=dsz (by omega)
 have d2:(digS y).size≤21:=dsz (by omega)
 have d3:(digS (within (n.tdiv 11) (sz+1)+(within (n.tdiv 67) 20).tdiv 19)).size≤21:=dsz (by omega)
 have ds:sp.size=1:=rfl
 simp only[ByteArray.size_append]
 omega
theorem YbN {I:Inst}{N:Nat}(hb:Sb I N)(hsd:Sd I){n x y sz:Int}(hx:0≤x∧x≤11)(hy:0≤y∧y≤4)(hs:0≤sz∧sz≤100): (pl2 I n x y sz).size≤66:=by
 have wa:=Y03 (a:=n.tdiv 11) (n:=sz+1) (by omega)
 have hm2:=YaZ hb hsd x
 unfold pl2
 split
 exact Y8d hx hy hs
 have d1:(digS (mate I.pairs x)).size≤21:=Y0F (by unfold In;omega)
 have d2:(digS y).size≤21:=dsz (by omega)
 have d3:(digS (within (n.tdiv 11) (sz+1))).size≤21:=dsz (by omega)
 have ds:sp.size=1:=rfl
 simp only[ByteArray.size_append]
 omega
theorem Yb7 {I:Inst}{N:Nat}(hb:Sb I N)(hsd:Sd I){n m x y sz:Int}(hx:0≤x∧x≤11)(hy:0≤y∧y≤4)(hs:0≤sz∧sz≤100): (pl3 I n m x y sz).size≤88:=by
 have wa:=Y03 (a:=n.tdiv 11) (n:=sz+1) (by omega)
 have wb:=Y03 (a:=m.tdiv 5) (n:=sz+1) (by omega)
 have qb:=tq (n:=2) wb.1 (by omega)
 unfold pl3
 split
 have d1:=YbN hb hsd (n:=n) hx hy hs
 have d3:(digS (within (n.tdiv 11) (sz+1)+1+(within (m.tdiv 5) (sz+1)).tdiv 2)).size≤21:=dsz (by omega)
 have ds:sp.size=1:=rfl
 simp only[ByteArray.size_append]
 omega
 exact Ye5 (Y8d hx hy hs) (by decide)
theorem Y9U {I:Inst}(hc:I.cars.length≤3){n m y:Int}(hy:0≤y∧y≤4): (optS I n m y).size≤91:=by
 have wa:=Y03 (a:=n) (n:=12) (by omega)
 have wb:=Y03 (a:=m) (n:=1000) (by omega)
 have wc:=Y03 (a:=m.tdiv 7) (n:=(I.cars.length:Int)+1) (by omega)
 have h1:(optS1 n m y).size≤69:=by
   unfold optS1
   have d1:(digS (1+within n 12)).size≤21:=dsz (by omega)
   have d2:(digS (within m 1000)).size≤21:=dsz (by omega)
   have d3:(digS y).size≤21:=dsz (by omega)
   have ds:sp.size=1:=rfl
   have d4:(ByteArray.mk #[111,112,116,32]).size=4:=rfl
   simp only[ByteArray.size_append]
   omega
 unfold optS
 split
 have d1:(digS (within (m.tdiv 7) ((I.cars.length:Int)+1))).size≤21:=dsz (by omega)
 have ds:sp.size=1:=rfl
 simp only[ByteArray.size_append]
 omega
 exact Ye5 h1 (by decide)
theorem Y6k {l:List ByteArray}{d:ByteArray}{n:Nat}(h:∀ s∈l,s.size≤n)(hd:d.size≤n)(j:Nat): (l.getD j d).size≤n:=by
 rw[Ye9]
 cases e:l[j]? with
 | none=>exact hd
 | some s=>exact h s (Yet e)
theorem Y1r {I:Inst}{N:Nat}(hb:Sb I N)(hsd:Sd I)(hcI:checkB I=true){p:Plan}(hp:GoodP I p)(k n m:Int): (lineS I p k n m (ByteArray.mk #[])).size≤1000:=by
 have hx:=Ydy (Y0V hcI) n
 have hy:=Ydx (Y1b hcI) n m
 have hz:=Ycj (hp.r100 hcI) (yS I n m)
 have h3:=Yb7 hb hsd (n:=n) (m:=m) hx hy hz
 have ho:=Y9U (Y1b hcI).2 (n:=n) (m:=m) hy
 have dx:(digS (xS I n)).size≤21:=dsz (by omega)
 have dy:(digS (yS I n m)).size≤21:=dsz (by omega)
 have ha:∀ {a b:ByteArray},a.size≤20→b.size≤100→(a++b).size≤200:=fun h h'=>by rw[ByteArray.size_append];omega
 unfold lineS
 refine Ye5 (Y6k (n:=200) (fun s hs=>?_) (by decide) _) (by decide)
 unfold lineL at hs
 repeat' (rcases Yep.1 hs with rfl | hs;first | exact ha (by decide) (by omega) | exact Ye5 ho (by decide) | decide | exact Y6k (fun s hs=>Ye5 (Y8o s hs) (by decide)) (by decide) _)
 cases hs
theorem YbV (m:Mem)(x:Box)(I:Inst)(p:Plan)(u0 u1 u2 r0 r1 r2:List Entry): fill1 m (0+64*(some 48).getD 4000) 576 x (.ptro (mcs I p u0 u1 u2 r0 r1 r2))=[(1012582913,⟨(genAt m 1012582913),false,.slc,5,em ke u0⟩),(1012582912,⟨(genAt m 1012582912),false,.var,1,[[.own 1012582913 (genAt m 1012582913) 0 u0.length none]]⟩),(1012582915,⟨(genAt m 1012582915),false,.slc,5,em ke u1⟩),(1012582914,⟨(genAt m 1012582914),false,.var,1,[[.own 1012582915 (genAt m 1012582915) 0 u1.length none]]⟩),(1012582917,⟨(genAt m 1012582917),false,.slc,5,em ke u2⟩),(1012582916,⟨(genAt m 1012582916),false,.var,1,[[.own 1012582917 (genAt m 1012582917) 0 u2.length none]]⟩),(1012582919,⟨(genAt m 1012582919),false,.slc,5,em ke r0⟩),(1012582918,⟨(genAt m 1012582918),false,.var,1,[[.own 1012582919 (genAt m 1012582919) 0 r0.length none]]⟩),(1012582921,⟨(genAt m 1012582921),false,.slc,5,em ke r1⟩),(1012582920,⟨(genAt m 1012582920),false,.var,1,[[.own 1012582921 (genAt m 1012582921) 0 r1.length none]]⟩),(1012582923,⟨(genAt m 1012582923),false,.slc,5,em ke r2⟩),(1012582922,⟨(genAt m 1012582922),false,.var,1,[[.own 1012582923 (genAt m 1012582923) 0 r2.length none]]⟩),(576,⟨x.gen,x.frz,x.kind,x.sz,[ic I++(kp p++[.ref 1012582912 (genAt m 1012582912) 0 0,.ref 1012582914 (genAt m 1012582914) 0 0,.ref 1012582916 (genAt m 1012582916) 0 0,.undef,.undef,.undef,.ref 1012582918 (genAt m 1012582918) 0 0,.ref 1012582920 (genAt m 1012582920) 0 0,.ref 1012582922 (genAt m 1012582922) 0 0,.undef,.undef,.undef])]⟩)]:=by
 simp[fill1,farD,mcs,stP,ic,kp,impCs,impC,impC0,impCs0,Y00]
theorem YcD (I:Inst)(N:Nat)(hb:Sb I N)(hqI:Sp I)(hsd:Sd I)(hs:I.Short)(hcI:checkB I=true)(l:List Int)(hl:l.length≤9223372036854775807)(hi:∀ x∈l,In x): CallsR Try.prog 9 [ei I,.sl (em ni l)] fun res=>∃ p:Plan,(GoodP I p∧VersIn 10000000000 p)∧res=.tup [.agg (kp p),.undef]:=by
 refine Yg2 (Yga _) mix Try.func9 rfl rfl (by simp[Try.f9]) (by kernel_rfl) (nb:=0) ?_
 unfold Try.f9
 refine Vy0 ?_
 intro g2
 refine Vd6 ?_
 intro g4
 refine Vv9 ?_
 obtain⟨k,hk0⟩:∃ k:Nat,k=0:=⟨_,rfl⟩
 obtain⟨p,hp0⟩:∃ p:Plan,p=newP I:=⟨_,rfl⟩
 obtain⟨u0,u1,u2,r0,r1,r2,e0,e1,e2,e3,e4,e5⟩:∃ u0 u1 u2 r0 r1 r2:List Entry,u0=[]∧u1=[]∧u2=[]∧r0=[]∧r1=[]∧r2=[]:=⟨_,_,_,_,_,_,rfl,rfl,rfl,rfl,rfl,rfl⟩
 have hnew:CallsV Try.prog 33 [ei I] (.ptro (mcs I p u0 u1 u2 r0 r1 r2)):=by rw[hp0,e0,e1,e2,e3,e4,e5];exact Yco I hs
 have hp:GoodP I p:=hp0 ▸ YbL hb hcI
 have hv:VersIn (k*100000000) p:=hp0 ▸ Yc5 I _
 have hu0:StkOK I u0:=e0 ▸ Y1Q I
 have hu1:StkOK I u1:=e1 ▸ Y1Q I
 have hu2:StkOK I u2:=e2 ▸ Y1Q I
 have hr0:StkOK I r0:=e3 ▸ Y1Q I
 have hr1:StkOK I r1:=e4 ▸ Y1Q I
 have hr2:StkOK I r2:=e5 ▸ Y1Q I
 refine Vf ?_
 refine Vt0 ?_
 refine callMcs YfX rfl (Frz.aggc (YfY rfl) Frz.aggn) hnew ?_
 intro g9 h0 h1 h2 h3 h4 h5 h6 h7 h8 h9 h10 h11
 refine Vb0 ?_
 refine GL.assign YfX (v:=.int .i64 (k:Int)) (by rw[hk0];rfl) ?_
 refine Vs2 ?_
 refine VwN ?_
 refine Vg0 ?_
 refine VuB ?_
 refine Vr0 ?_
 refine Vm ?_
 refine Yg1 15 rfl (fun h15=>?_) (fun h15=>?_)
 rw[h15]
 replace h15:=of_decide_eq_true h15
 refine Vt5 ?_
 refine cD (fun h18=>?_) fun h18=>?_
 refine Ve5 ?_
 ·rcases (show within (l.getD k default) 3=0∨within (l.getD k default) 3=1∨within (l.getD k default) 3=2 by have:=Y03 (a:=l.getD k default) (n:=3) (by decide);omega) with hss | hss | hss
  have hi0:=hi _ (Y02 (l:=l) (j:=k) (by omega))
  have hi1:=hi _ (Y02 (l:=l) (j:=k+1) (by omega))
  have hi2:=hi _ (Y02 (l:=l) (j:=k+2) (by omega))
  unfold In at hi0
  refine VgD ?_
  refine Vj1 ?_
  refine Vt4 ?_
  refine VhD ?_
  rw[hss]
  refine Vx2 ?_
  refine Vc8 ?_
  refine Vg ?_
  refine Vt4 ?_
  refine Vp1 ?_
  refine Vy5 ?_
  refine Vy5 ?_
  refine ViD ?_
  refine Vp0 ?_
  refine Ygh YfX (args:=[.ptro (mcs I p u0 u1 u2 r0 r1 r2),.int .i64 0,.str (lineS I p ((l.getD k default).tdiv 3) (l.getD (k+1) default) (l.getD (k+2) default) (ByteArray.mk #[])),.bool false]) (T:=[]) (M:=[576,577,578,579,580,581,582,583,584,585,586,587,588]) (u:=.ref 576 g9 0 0) rfl (by exact .aggc (S:=[]) (T:=[]) (M:=[576,577,578,579,580,581,582,583,584,585,586,587,588]) (N:=[]) (.ptro (M:=[577,578,579,580,581,582,583,584,585,586,587,588]) rfl rfl rfl rfl rfl (.aggc (S:=[]) (T:=[]) (M:=[]) (N:=[577,578,579,580,581,582,583,584,585,586,587,588]) (.frz (Frz.pure rfl)) (.aggc (S:=[]) (T:=[]) (M:=[]) (N:=[577,578,579,580,581,582,583,584,585,586,587,588]) (.frz (Frz.pure rfl)) (.aggc (S:=[]) (T:=[]) (M:=[]) (N:=[577,578,579,580,581,582,583,584,585,586,587,588]) (.frz (Frz.pure rfl)) (.aggc (S:=[]) (T:=[]) (M:=[]) (N:=[577,578,579,580,581,582,583,584,585,586,587,588]) (.frz (Frz.pure rfl)) (.aggc (S:=[]) (T:=[]) (M:=[]) (N:=[577,578,579,580,581,582,583,584,585,586,587,588]) (.frz (Frz.pure rfl)) (.aggc (S:=[]) (T:=[]) (M:=[]) (N:=[577,578,579,580,581,582,583,584,585,586,587,588]) (.frz (Frz.pure rfl)) (.aggc (S:=[]) (T:=[]) (M:=[]) (N:=[577,578,579,580,581,582,583,584,585,586,587,588]) (.frz (Frz.pure rfl)) (.aggc (S:=[]) (T:=[]) (M:=[]) (N:=[577,578,579,580,581,582,583,584,585,586,587,588]) (.frz (Frz.pure rfl)) (.aggc (S:=[]) (T:=[]) (M:=[]) (N:=[577,578,579,580,581,582,583,584,585,586,587,588]) (.frz (Frz.pure rfl)) (.aggc (S:=[]) (T:=[]) (M:=[]) (N:=[577,578,579,580,581,582,583,584,585,586,587,588]) (.frz (Frz.pure rfl)) (.aggc (S:=[]) (T:=[]) (M:=[]) (N:=[577,578,579,580,581,582,583,584,585,586,587,588]) (.frz (Frz.pure rfl)) (.aggc (S:=[]) (T:=[]) (M:=[577,578]) (N:=[579,580,581,582,583,584,585,586,587,588]) (.ptro (M:=[578]) rfl rfl rfl rfl rfl (.aggc (S:=[]) (T:=[]) (M:=[578]) (N:=[]) (Yg4 rfl rfl rfl rfl rfl rfl (Y00 _ _).symm) .aggn)) (.aggc (S:=[]) (T:=[]) (M:=[579,580]) (N:=[581,582,583,584,585,586,587,588]) (.ptro (M:=[580]) rfl rfl rfl rfl rfl (.aggc (S:=[]) (T:=[]) (M:=[580]) (N:=[]) (Yg4 rfl rfl rfl rfl rfl rfl (Y00 _ _).symm) .aggn)) (.aggc (S:=[]) (T:=[]) (M:=[581,582]) (N:=[583,584,585,586,587,588]) (.ptro (M:=[582]) rfl rfl rfl rfl rfl (.aggc (S:=[]) (T:=[]) (M:=[582]) (N:=[]) (Yg4 rfl rfl rfl rfl rfl rfl (Y00 _ _).symm) .aggn)) (.aggc (S:=[]) (T:=[]) (M:=[]) (N:=[583,584,585,586,587,588]) (.frz Frz.undU) (.aggc (S:=[]) (T:=[]) (M:=[]) (N:=[583,584,585,586,587,588]) (.frz Frz.undU) (.aggc (S:=[]) (T:=[]) (M:=[]) (N:=[583,584,585,586,587,588]) (.frz Frz.undU) (.aggc (S:=[]) (T:=[]) (M:=[583,584]) (N:=[585,586,587,588]) (.ptro (M:=[584]) rfl rfl rfl rfl rfl (.aggc (S:=[]) (T:=[]) (M:=[584]) (N:=[]) (Yg4 rfl rfl rfl rfl rfl rfl (Y00 _ _).symm) .aggn)) (.aggc (S:=[]) (T:=[]) (M:=[585,586]) (N:=[587,588]) (.ptro (M:=[586]) rfl rfl rfl rfl rfl (.aggc (S:=[]) (T:=[]) (M:=[586]) (N:=[]) (Yg4 rfl rfl rfl rfl rfl rfl (Y00 _ _).symm) .aggn)) (.aggc (S:=[]) (T:=[]) (M:=[587,588]) (N:=[]) (.ptro (M:=[588]) rfl rfl rfl rfl rfl (.aggc (S:=[]) (T:=[]) (M:=[588]) (N:=[]) (Yg4 rfl rfl rfl rfl rfl rfl (Y00 _ _).symm) .aggn)) (.aggc (S:=[]) (T:=[]) (M:=[]) (N:=[]) (.frz Frz.undU) (.aggc (S:=[]) (T:=[]) (M:=[]) (N:=[]) (.frz Frz.undU) (.aggc (S:=[]) (T:=[]) (M:=[]) (N:=[]) (.frz Frz.undU) .aggn)))))))))))))))))))))))) (.frz (Frz.aggc (Frz.pure rfl) (Frz.aggc (Frz.pure rfl) (Frz.aggc (Frz.pure rfl) Frz.aggn))))) (by decide) (by simp) (Y9R I N hb hqI hs hcI (k*100000000) (by omega) p hp hv u0 u1 u2 r0 r1 r2 hu0 hu1 hu2 hr0 hr1 hr2 _ (Y1r hb hsd hcI hp _ _ _)) rfl rfl (fun res z hr=>?_)
  rotate_left
  have hi0:=hi _ (Y02 (l:=l) (j:=k) (by omega))
  have hi1:=hi _ (Y02 (l:=l) (j:=k+1) (by omega))
  have hi2:=hi _ (Y02 (l:=l) (j:=k+2) (by omega))
  unfold In at hi0
  refine VgD ?_
  refine Vj1 ?_
  refine Vt4 ?_
  refine VhD ?_
  rw[hss]
  refine Vx2 ?_
  refine Vc8 ?_
  refine Vg ?_
  refine Vt4 ?_
  refine Vp1 ?_
  refine Vy5 ?_
  refine Vy5 ?_
  refine ViD ?_
  refine Vp0 ?_
  refine Ygh YfX (args:=[.ptro (mcs I p u0 u1 u2 r0 r1 r2),.int .i64 1,.str (lineS I p ((l.getD k default).tdiv 3) (l.getD (k+1) default) (l.getD (k+2) default) (ByteArray.mk #[])),.bool false]) (T:=[]) (M:=[576,577,578,579,580,581,582,583,584,585,586,587,588]) (u:=.ref 576 g9 0 0) rfl (by exact .aggc (S:=[]) (T:=[]) (M:=[576,577,578,579,580,581,582,583,584,585,586,587,588]) (N:=[]) (.ptro (M:=[577,578,579,580,581,582,583,584,585,586,587,588]) rfl rfl rfl rfl rfl (.aggc (S:=[]) (T:=[]) (M:=[]) (N:=[577,578,579,580,581,582,583,584,585,586,587,588]) (.frz (Frz.pure rfl)) (.aggc (S:=[]) (T:=[]) (M:=[]) (N:=[577,578,579,580,581,582,583,584,585,586,587,588]) (.frz (Frz.pure rfl)) (.aggc (S:=[]) (T:=[]) (M:=[]) (N:=[577,578,579,580,581,582,583,584,585,586,587,588]) (.frz (Frz.pure rfl)) (.aggc (S:=[]) (T:=[]) (M:=[]) (N:=[577,578,579,580,581,582,583,584,585,586,587,588]) (.frz (Frz.pure rfl)) (.aggc (S:=[]) (T:=[]) (M:=[]) (N:=[577,578,579,580,581,582,583,584,585,586,587,588]) (.frz (Frz.pure rfl)) (.aggc (S:=[]) (T:=[]) (M:=[]) (N:=[577,578,579,580,581,582,583,584,585,586,587,588]) (.frz (Frz.pure rfl)) (.aggc (S:=[]) (T:=[]) (M:=[]) (N:=[577,578,579,580,581,582,583,584,585,586,587,588]) (.frz (Frz.pure rfl)) (.aggc (S:=[]) (T:=[]) (M:=[]) (N:=[577,578,579,580,581,582,583,584,585,586,587,588]) (.frz (Frz.pure rfl)) (.aggc (S:=[]) (T:=[]) (M:=[]) (N:=[577,578,579,580,581,582,583,584,585,586,587,588]) (.frz (Frz.pure rfl)) (.aggc (S:=[]) (T:=[]) (M:=[]) (N:=[577,578,579,580,581,582,583,584,585,586,587,588]) (.frz (Frz.pure rfl)) (.aggc (S:=[]) (T:=[]) (M:=[]) (N:=[577,578,579,580,581,582,583,584,585,586,587,588]) (.frz (Frz.pure rfl)) (.aggc (S:=[]) (T:=[]) (M:=[577,578]) (N:=[579,580,581,582,583,584,585,586,587,588]) (.ptro (M:=[578]) rfl rfl rfl rfl rfl (.aggc (S:=[]) (T:=[]) (M:=[578]) (N:=[]) (Yg4 rfl rfl rfl rfl rfl rfl (Y00 _ _).symm) .aggn)) (.aggc (S:=[]) (T:=[]) (M:=[579,580]) (N:=[581,582,583,584,585,586,587,588]) (.ptro (M:=[580]) rfl rfl rfl rfl rfl (.aggc (S:=[]) (T:=[]) (M:=[580]) (N:=[]) (Yg4 rfl rfl rfl rfl rfl rfl (Y00 _ _).symm) .aggn)) (.aggc (S:=[]) (T:=[]) (M:=[581,582]) (N:=[583,584,585,586,587,588]) (.ptro (M:=[582]) rfl rfl rfl rfl rfl (.aggc (S:=[]) (T:=[]) (M:=[582]) (N:=[]) (Yg4 rfl rfl rfl rfl rfl rfl (Y00 _ _).symm) .aggn)) (.aggc (S:=[]) (T:=[]) (M:=[]) (N:=[583,584,585,586,587,588]) (.frz Frz.undU) (.aggc (S:=[]) (T:=[]) (M:=[]) (N:=[583,584,585,586,587,588]) (.frz Frz.undU) (.aggc (S:=[]) (T:=[]) (M:=[]) (N:=[583,584,585,586,587,588]) (.frz Frz.undU) (.aggc (S:=[]) (T:=[]) (M:=[583,584]) (N:=[585,586,587,588]) (.ptro (M:=[584]) rfl rfl rfl rfl rfl (.aggc (S:=[]) (T:=[]) (M:=[584]) (N:=[]) (Yg4 rfl rfl rfl rfl rfl rfl (Y00 _ _).symm) .aggn)) (.aggc (S:=[]) (T:=[]) (M:=[585,586]) (N:=[587,588]) (.ptro (M:=[586]) rfl rfl rfl rfl rfl (.aggc (S:=[]) (T:=[]) (M:=[586]) (N:=[]) (Yg4 rfl rfl rfl rfl rfl rfl (Y00 _ _).symm) .aggn)) (.aggc (S:=[]) (T:=[]) (M:=[587,588]) (N:=[]) (.ptro (M:=[588]) rfl rfl rfl rfl rfl (.aggc (S:=[]) (T:=[]) (M:=[588]) (N:=[]) (Yg4 rfl rfl rfl rfl rfl rfl (Y00 _ _).symm) .aggn)) (.aggc (S:=[]) (T:=[]) (M:=[]) (N:=[]) (.frz Frz.undU) (.aggc (S:=[]) (T:=[]) (M:=[]) (N:=[]) (.frz Frz.undU) (.aggc (S:=[]) (T:=[]) (M:=[]) (N:=[]) (.frz Frz.undU) .aggn)))))))))))))))))))))))) (.frz (Frz.aggc (Frz.pure rfl) (Frz.aggc (Frz.pure rfl) (Frz.aggc (Frz.pure rfl) Frz.aggn))))) (by decide) (by simp) (Y9Y I N hb hqI hs hcI (k*100000000) (by omega) p hp hv u0 u1 u2 r0 r1 r2 hu0 hu1 hu2 hr0 hr1 hr2 _ (Y1r hb hsd hcI hp _ _ _)) rfl rfl (fun res z hr=>?_)
  rotate_left
  have hi0:=hi _ (Y02 (l:=l) (j:=k) (by omega))
  have hi1:=hi _ (Y02 (l:=l) (j:=k+1) (by omega))
  have hi2:=hi _ (Y02 (l:=l) (j:=k+2) (by omega))
  unfold In at hi0
  refine VgD ?_
  refine Vj1 ?_
  refine Vt4 ?_
  refine VhD ?_
  rw[hss]
  refine Vx2 ?_
  refine Vc8 ?_
  refine Vg ?_
  refine Vt4 ?_
  refine Vp1 ?_
  refine Vy5 ?_
  refine Vy5 ?_
  refine ViD ?_
  refine Vp0 ?_
  refine Ygh YfX (args:=[.ptro (mcs I p u0 u1 u2 r0 r1 r2),.int .i64 2,.str (lineS I p ((l.getD k default).tdiv 3) (l.getD (k+1) default) (l.getD (k+2) default) (ByteArray.mk #[])),.bool false]) (T:=[]) (M:=[576,577,578,579,580,581,582,583,584,585,586,587,588]) (u:=.ref 576 g9 0 0) rfl (by exact .aggc (S:=[]) (T:=[]) (M:=[576,577,578,579,580,581,582,583,584,585,586,587,588]) (N:=[]) (.ptro (M:=[577,578,579,580,581,582,583,584,585,586,587,588]) rfl rfl rfl rfl rfl (.aggc (S:=[]) (T:=[]) (M:=[]) (N:=[577,578,579,580,581,582,583,584,585,586,587,588]) (.frz (Frz.pure rfl)) (.aggc (S:=[]) (T:=[]) (M:=[]) (N:=[577,578,579,580,581,582,583,584,585,586,587,588]) (.frz (Frz.pure rfl)) (.aggc (S:=[]) (T:=[]) (M:=[]) (N:=[577,578,579,580,581,582,583,584,585,586,587,588]) (.frz (Frz.pure rfl)) (.aggc (S:=[]) (T:=[]) (M:=[]) (N:=[577,578,579,580,581,582,583,584,585,586,587,588]) (.frz (Frz.pure rfl)) (.aggc (S:=[]) (T:=[]) (M:=[]) (N:=[577,578,579,580,581,582,583,584,585,586,587,588]) (.frz (Frz.pure rfl)) (.aggc (S:=[]) (T:=[]) (M:=[]) (N:=[577,578,579,580,581,582,583,584,585,586,587,588]) (.frz (Frz.pure rfl)) (.aggc (S:=[]) (T:=[]) (M:=[]) (N:=[577,578,579,580,581,582,583,584,585,586,587,588]) (.frz (Frz.pure rfl)) (.aggc (S:=[]) (T:=[]) (M:=[]) (N:=[577,578,579,580,581,582,583,584,585,586,587,588]) (.frz (Frz.pure rfl)) (.aggc (S:=[]) (T:=[]) (M:=[]) (N:=[577,578,579,580,581,582,583,584,585,586,587,588]) (.frz (Frz.pure rfl)) (.aggc (S:=[]) (T:=[]) (M:=[]) (N:=[577,578,579,580,581,582,583,584,585,586,587,588]) (.frz (Frz.pure rfl)) (.aggc (S:=[]) (T:=[]) (M:=[]) (N:=[577,578,579,580,581,582,583,584,585,586,587,588]) (.frz (Frz.pure rfl)) (.aggc (S:=[]) (T:=[]) (M:=[577,578]) (N:=[579,580,581,582,583,584,585,586,587,588]) (.ptro (M:=[578]) rfl rfl rfl rfl rfl (.aggc (S:=[]) (T:=[]) (M:=[578]) (N:=[]) (Yg4 rfl rfl rfl rfl rfl rfl (Y00 _ _).symm) .aggn)) (.aggc (S:=[]) (T:=[]) (M:=[579,580]) (N:=[581,582,583,584,585,586,587,588]) (.ptro (M:=[580]) rfl rfl rfl rfl rfl (.aggc (S:=[]) (T:=[]) (M:=[580]) (N:=[]) (Yg4 rfl rfl rfl rfl rfl rfl (Y00 _ _).symm) .aggn)) (.aggc (S:=[]) (T:=[]) (M:=[581,582]) (N:=[583,584,585,586,587,588]) (.ptro (M:=[582]) rfl rfl rfl rfl rfl (.aggc (S:=[]) (T:=[]) (M:=[582]) (N:=[]) (Yg4 rfl rfl rfl rfl rfl rfl (Y00 _ _).symm) .aggn)) (.aggc (S:=[]) (T:=[]) (M:=[]) (N:=[583,584,585,586,587,588]) (.frz Frz.undU) (.aggc (S:=[]) (T:=[]) (M:=[]) (N:=[583,584,585,586,587,588]) (.frz Frz.undU) (.aggc (S:=[]) (T:=[]) (M:=[]) (N:=[583,584,585,586,587,588]) (.frz Frz.undU) (.aggc (S:=[]) (T:=[]) (M:=[583,584]) (N:=[585,586,587,588]) (.ptro (M:=[584]) rfl rfl rfl rfl rfl (.aggc (S:=[]) (T:=[]) (M:=[584]) (N:=[]) (Yg4 rfl rfl rfl rfl rfl rfl (Y00 _ _).symm) .aggn)) (.aggc (S:=[]) (T:=[]) (M:=[585,586]) (N:=[587,588]) (.ptro (M:=[586]) rfl rfl rfl rfl rfl (.aggc (S:=[]) (T:=[]) (M:=[586]) (N:=[]) (Yg4 rfl rfl rfl rfl rfl rfl (Y00 _ _).symm) .aggn)) (.aggc (S:=[]) (T:=[]) (M:=[587,588]) (N:=[]) (.ptro (M:=[588]) rfl rfl rfl rfl rfl (.aggc (S:=[]) (T:=[]) (M:=[588]) (N:=[]) (Yg4 rfl rfl rfl rfl rfl rfl (Y00 _ _).symm) .aggn)) (.aggc (S:=[]) (T:=[]) (M:=[]) (N:=[]) (.frz Frz.undU) (.aggc (S:=[]) (T:=[]) (M:=[]) (N:=[]) (.frz Frz.undU) (.aggc (S:=[]) (T:=[]) (M:=[]) (N:=[]) (.frz Frz.undU) .aggn)))))))))))))))))))))))) (.frz (Frz.aggc (Frz.pure rfl) (Frz.aggc (Frz.pure rfl) (Frz.aggc (Frz.pure rfl) Frz.aggn))))) (by decide) (by simp) (Yb3 I N hb hqI hs hcI (k*100000000) (by omega) p hp hv u0 u1 u2 r0 r1 r2 hu0 hu1 hu2 hr0 hr1 hr2 _ (Y1r hb hsd hcI hp _ _ _)) rfl rfl (fun res z hr=>?_)
  all_goals
   obtain⟨sx,p2,a2,b2,c2,d2,e2,f2,⟨hp2,hv2,hu02,hu12,hu22,hr02,hr12,hr22⟩,rfl,rfl⟩:=hr
   refine VzM ?_
   refine Vq0 ?_
   refine Vp0 ?_
   refine Va3 ?_
   refine Yg8 YfX (α:=Nat × Plan × List Entry × List Entry × List Entry × List Entry × List Entry × List Entry × Nat × Nat × Nat × Nat × Nat × Nat × Nat × Nat × Nat × Nat × Nat × Nat) (fun ⟨k,p,u0,u1,u2,r0,r1,r2,h0,h1,h2,h3,h4,h5,h6,h7,h8,h9,h10,h11⟩ st=>(k≤63∧GoodP I p∧VersIn (k*100000000) p∧StkOK I u0∧StkOK I u1∧StkOK I u2∧StkOK I r0∧StkOK I r1∧StkOK I r2)∧∃ m0,st=⟨(updS (updS (updS (updS (updS (updS (fun _=>LV.undef) 1 (.sl (em ni l))) 2 (.ref 128 g2 0 0)) 4 (.ref 256 g4 0 0)) 5 (.nilp)) 6 (.ref 576 g9 0 0)) 7 (.int .i64 (k:Int))),effM m0 [(128,⟨g2,false,.var,4,[ic I]⟩),(256,⟨g4,false,.var,7,[[.nils,.nils,.nils,.nils,.nils,.nils,.int .i64 0]]⟩),(1012582913,⟨h1,false,.slc,5,em ke u0⟩),(1012582912,⟨h0,false,.var,1,[[.own 1012582913 h1 0 u0.length none]]⟩),(1012582915,⟨h3,false,.slc,5,em ke u1⟩),(1012582914,⟨h2,false,.var,1,[[.own 1012582915 h3 0 u1.length none]]⟩),(1012582917,⟨h5,false,.slc,5,em ke u2⟩),(1012582916,⟨h4,false,.var,1,[[.own 1012582917 h5 0 u2.length none]]⟩),(1012582919,⟨h7,false,.slc,5,em ke r0⟩),(1012582918,⟨h6,false,.var,1,[[.own 1012582919 h7 0 r0.length none]]⟩),(1012582921,⟨h9,false,.slc,5,em ke r1⟩),(1012582920,⟨h8,false,.var,1,[[.own 1012582921 h9 0 r1.length none]]⟩),(1012582923,⟨h11,false,.slc,5,em ke r2⟩),(1012582922,⟨h10,false,.var,1,[[.own 1012582923 h11 0 r2.length none]]⟩),(576,⟨g9,false,.var,23,[ic I++(kp p++[.ref 1012582912 h0 0 0,.ref 1012582914 h2 0 0,.ref 1012582916 h4 0 0,.undef,.undef,.undef,.ref 1012582918 h6 0 0,.ref 1012582920 h8 0 0,.ref 1012582922 h10 0 0,.undef,.undef,.undef])]⟩)]⟩) (fun ⟨k,p,u0,u1,u2,r0,r1,r2,h0,h1,h2,h3,h4,h5,h6,h7,h8,h9,h10,h11⟩=>63 - k) ⟨k+3,p2,a2,b2,c2,d2,e2,f2,_,_,_,_,_,_,_,_,_,_,_,_⟩ ⟨_,(YfZ (YfV (YfV (YfV (YfV (YfV (YfV (Yg0 _) rfl) rfl) rfl) rfl) rfl) rfl) _),⟨by omega,hp2,hv2.le (by omega),hu02,hu12,hu22,hr02,hr12,hr22⟩,_,(congrArg (St.mk _) (Y01 (YfW rfl (YfW rfl (YfW rfl (YfW rfl (YfW rfl (YfW rfl (YfW rfl (YfW rfl (YfW rfl (YfW rfl (YfW rfl (YfW rfl (YfW rfl (YfW rfl (YfW rfl Yg3)))))))))))))))).symm)⟩ ?_
   rintro⟨k,p,u0,u1,u2,r0,r1,r2,h0,h1,h2,h3,h4,h5,h6,h7,h8,h9,h10,h11⟩ _ ⟨⟨hk,hp,hv,hu0,hu1,hu2,hr0,hr1,hr2⟩,m0,rfl⟩
   refine Vg0 ?_
   refine VuB ?_
   refine Vr0 ?_
   refine Vm ?_
   refine Yg1 15 rfl (fun h15=>?_) (fun h15=>?_)
   rw[h15]
   replace h15:=of_decide_eq_true h15
   refine Vt5 ?_
   refine cD (fun h18=>?_) fun h18=>?_
   refine Ve5 ?_
   ·rcases (show within (l.getD k default) 3=0∨within (l.getD k default) 3=1∨within (l.getD k default) 3=2 by have:=Y03 (a:=l.getD k default) (n:=3) (by decide);omega) with hss | hss | hss
    have hi0:=hi _ (Y02 (l:=l) (j:=k) (by omega))
    have hi1:=hi _ (Y02 (l:=l) (j:=k+1) (by omega))
    have hi2:=hi _ (Y02 (l:=l) (j:=k+2) (by omega))
    unfold In at hi0
    refine VgD ?_
    refine Vj1 ?_
    refine Vt4 ?_
    refine VhD ?_
    rw[hss]
    refine Vx2 ?_
    refine Vc8 ?_
    refine Vg ?_
    refine Vt4 ?_
    refine Vp1 ?_
    refine Vy5 ?_
    refine Vy5 ?_
    refine ViD ?_
    refine Vp0 ?_
    refine Ygh YfX (args:=[.ptro (mcs I p u0 u1 u2 r0 r1 r2),.int .i64 0,.str (lineS I p ((l.getD k default).tdiv 3) (l.getD (k+1) default) (l.getD (k+2) default) (ByteArray.mk #[])),.bool false]) (T:=[]) (M:=[576,1012582912,1012582913,1012582914,1012582915,1012582916,1012582917,1012582918,1012582919,1012582920,1012582921,1012582922,1012582923]) (u:=.ref 576 g9 0 0) rfl (by exact .aggc (S:=[]) (T:=[]) (M:=[576,1012582912,1012582913,1012582914,1012582915,1012582916,1012582917,1012582918,1012582919,1012582920,1012582921,1012582922,1012582923]) (N:=[]) (.ptro (M:=[1012582912,1012582913,1012582914,1012582915,1012582916,1012582917,1012582918,1012582919,1012582920,1012582921,1012582922,1012582923]) rfl rfl rfl rfl rfl (.aggc (S:=[]) (T:=[]) (M:=[]) (N:=[1012582912,1012582913,1012582914,1012582915,1012582916,1012582917,1012582918,1012582919,1012582920,1012582921,1012582922,1012582923]) (.frz (Frz.pure rfl)) (.aggc (S:=[]) (T:=[]) (M:=[]) (N:=[1012582912,1012582913,1012582914,1012582915,1012582916,1012582917,1012582918,1012582919,1012582920,1012582921,1012582922,1012582923]) (.frz (Frz.pure rfl)) (.aggc (S:=[]) (T:=[]) (M:=[]) (N:=[1012582912,1012582913,1012582914,1012582915,1012582916,1012582917,1012582918,1012582919,1012582920,1012582921,1012582922,1012582923]) (.frz (Frz.pure rfl)) (.aggc (S:=[]) (T:=[]) (M:=[]) (N:=[1012582912,1012582913,1012582914,1012582915,1012582916,1012582917,1012582918,1012582919,1012582920,1012582921,1012582922,1012582923]) (.frz (Frz.pure rfl)) (.aggc (S:=[]) (T:=[]) (M:=[]) (N:=[1012582912,1012582913,1012582914,1012582915,1012582916,1012582917,1012582918,1012582919,1012582920,1012582921,1012582922,1012582923]) (.frz (Frz.pure rfl)) (.aggc (S:=[]) (T:=[]) (M:=[]) (N:=[1012582912,1012582913,1012582914,1012582915,1012582916,1012582917,1012582918,1012582919,1012582920,1012582921,1012582922,1012582923]) (.frz (Frz.pure rfl)) (.aggc (S:=[]) (T:=[]) (M:=[]) (N:=[1012582912,1012582913,1012582914,1012582915,1012582916,1012582917,1012582918,1012582919,1012582920,1012582921,1012582922,1012582923]) (.frz (Frz.pure rfl)) (.aggc (S:=[]) (T:=[]) (M:=[]) (N:=[1012582912,1012582913,1012582914,1012582915,1012582916,1012582917,1012582918,1012582919,1012582920,1012582921,1012582922,1012582923]) (.frz (Frz.pure rfl)) (.aggc (S:=[]) (T:=[]) (M:=[]) (N:=[1012582912,1012582913,1012582914,1012582915,1012582916,1012582917,1012582918,1012582919,1012582920,1012582921,1012582922,1012582923]) (.frz (Frz.pure rfl)) (.aggc (S:=[]) (T:=[]) (M:=[]) (N:=[1012582912,1012582913,1012582914,1012582915,1012582916,1012582917,1012582918,1012582919,1012582920,1012582921,1012582922,1012582923]) (.frz (Frz.pure rfl)) (.aggc (S:=[]) (T:=[]) (M:=[]) (N:=[1012582912,1012582913,1012582914,1012582915,1012582916,1012582917,1012582918,1012582919,1012582920,1012582921,1012582922,1012582923]) (.frz (Frz.pure rfl)) (.aggc (S:=[]) (T:=[]) (M:=[1012582912,1012582913]) (N:=[1012582914,1012582915,1012582916,1012582917,1012582918,1012582919,1012582920,1012582921,1012582922,1012582923]) (.ptro (M:=[1012582913]) rfl rfl rfl rfl rfl (.aggc (S:=[]) (T:=[]) (M:=[1012582913]) (N:=[]) (Yg4 rfl rfl rfl rfl rfl rfl (Y00 _ _).symm) .aggn)) (.aggc (S:=[]) (T:=[]) (M:=[1012582914,1012582915]) (N:=[1012582916,1012582917,1012582918,1012582919,1012582920,1012582921,1012582922,1012582923]) (.ptro (M:=[1012582915]) rfl rfl rfl rfl rfl (.aggc (S:=[]) (T:=[]) (M:=[1012582915]) (N:=[]) (Yg4 rfl rfl rfl rfl rfl rfl (Y00 _ _).symm) .aggn)) (.aggc (S:=[]) (T:=[]) (M:=[1012582916,1012582917]) (N:=[1012582918,1012582919,1012582920,1012582921,1012582922,1012582923]) (.ptro (M:=[1012582917]) rfl rfl rfl rfl rfl (.aggc (S:=[]) (T:=[]) (M:=[1012582917]) (N:=[]) (Yg4 rfl rfl rfl rfl rfl rfl (Y00 _ _).symm) .aggn)) (.aggc (S:=[]) (T:=[]) (M:=[]) (N:=[1012582918,1012582919,1012582920,1012582921,1012582922,1012582923]) (.frz Frz.undU) (.aggc (S:=[]) (T:=[]) (M:=[]) (N:=[1012582918,1012582919,1012582920,1012582921,1012582922,1012582923]) (.frz Frz.undU) (.aggc (S:=[]) (T:=[]) (M:=[]) (N:=[1012582918,1012582919,1012582920,1012582921,1012582922,1012582923]) (.frz Frz.undU) (.aggc (S:=[]) (T:=[]) (M:=[1012582918,1012582919]) (N:=[1012582920,1012582921,1012582922,1012582923]) (.ptro (M:=[1012582919]) rfl rfl rfl rfl rfl (.aggc (S:=[]) (T:=[]) (M:=[1012582919]) (N:=[]) (Yg4 rfl rfl rfl rfl rfl rfl (Y00 _ _).symm) .aggn)) (.aggc (S:=[]) (T:=[]) (M:=[1012582920,1012582921]) (N:=[1012582922,1012582923]) (.ptro (M:=[1012582921]) rfl rfl rfl rfl rfl (.aggc (S:=[]) (T:=[]) (M:=[1012582921]) (N:=[]) (Yg4 rfl rfl rfl rfl rfl rfl (Y00 _ _).symm) .aggn)) (.aggc (S:=[]) (T:=[]) (M:=[1012582922,1012582923]) (N:=[]) (.ptro (M:=[1012582923]) rfl rfl rfl rfl rfl (.aggc (S:=[]) (T:=[]) (M:=[1012582923]) (N:=[]) (Yg4 rfl rfl rfl rfl rfl rfl (Y00 _ _).symm) .aggn)) (.aggc (S:=[]) (T:=[]) (M:=[]) (N:=[]) (.frz Frz.undU) (.aggc (S:=[]) (T:=[]) (M:=[]) (N:=[]) (.frz Frz.undU) (.aggc (S:=[]) (T:=[]) (M:=[]) (N:=[]) (.frz Frz.undU) .aggn)))))))))))))))))))))))) (.frz (Frz.aggc (Frz.pure rfl) (Frz.aggc (Frz.pure rfl) (Frz.aggc (Frz.pure rfl) Frz.aggn))))) (by decide) (by simp) (Y9R I N hb hqI hs hcI (k*100000000) (by omega) p hp hv u0 u1 u2 r0 r1 r2 hu0 hu1 hu2 hr0 hr1 hr2 _ (Y1r hb hsd hcI hp _ _ _)) rfl rfl (fun res z hr=>?_)
    rotate_left
    have hi0:=hi _ (Y02 (l:=l) (j:=k) (by omega))
    have hi1:=hi _ (Y02 (l:=l) (j:=k+1) (by omega))
    have hi2:=hi _ (Y02 (l:=l) (j:=k+2) (by omega))
    unfold In at hi0
    refine VgD ?_
    refine Vj1 ?_
    refine Vt4 ?_
    refine VhD ?_
    rw[hss]
    refine Vx2 ?_
    refine Vc8 ?_
    refine Vg ?_
    refine Vt4 ?_
    refine Vp1 ?_
    refine Vy5 ?_
    refine Vy5 ?_
    refine ViD ?_
    refine Vp0 ?_
    refine Ygh YfX (args:=[.ptro (mcs I p u0 u1 u2 r0 r1 r2),.int .i64 1,.str (lineS I p ((l.getD k default).tdiv 3) (l.getD (k+1) default) (l.getD (k+2) default) (ByteArray.mk #[])),.bool false]) (T:=[]) (M:=[576,1012582912,1012582913,1012582914,1012582915,1012582916,1012582917,1012582918,1012582919,1012582920,1012582921,1012582922,1012582923]) (u:=.ref 576 g9 0 0) rfl (by exact .aggc (S:=[]) (T:=[]) (M:=[576,1012582912,1012582913,1012582914,1012582915,1012582916,1012582917,1012582918,1012582919,1012582920,1012582921,1012582922,1012582923]) (N:=[]) (.ptro (M:=[1012582912,1012582913,1012582914,1012582915,1012582916,1012582917,1012582918,1012582919,1012582920,1012582921,1012582922,1012582923]) rfl rfl rfl rfl rfl (.aggc (S:=[]) (T:=[]) (M:=[]) (N:=[1012582912,1012582913,1012582914,1012582915,1012582916,1012582917,1012582918,1012582919,1012582920,1012582921,1012582922,1012582923]) (.frz (Frz.pure rfl)) (.aggc (S:=[]) (T:=[]) (M:=[]) (N:=[1012582912,1012582913,1012582914,1012582915,1012582916,1012582917,1012582918,1012582919,1012582920,1012582921,1012582922,1012582923]) (.frz (Frz.pure rfl)) (.aggc (S:=[]) (T:=[]) (M:=[]) (N:=[1012582912,1012582913,1012582914,1012582915,1012582916,1012582917,1012582918,1012582919,1012582920,1012582921,1012582922,1012582923]) (.frz (Frz.pure rfl)) (.aggc (S:=[]) (T:=[]) (M:=[]) (N:=[1012582912,1012582913,1012582914,1012582915,1012582916,1012582917,1012582918,1012582919,1012582920,1012582921,1012582922,1012582923]) (.frz (Frz.pure rfl)) (.aggc (S:=[]) (T:=[]) (M:=[]) (N:=[1012582912,1012582913,1012582914,1012582915,1012582916,1012582917,1012582918,1012582919,1012582920,1012582921,1012582922,1012582923]) (.frz (Frz.pure rfl)) (.aggc (S:=[]) (T:=[]) (M:=[]) (N:=[1012582912,1012582913,1012582914,1012582915,1012582916,1012582917,1012582918,1012582919,1012582920,1012582921,1012582922,1012582923]) (.frz (Frz.pure rfl)) (.aggc (S:=[]) (T:=[]) (M:=[]) (N:=[1012582912,1012582913,1012582914,1012582915,1012582916,1012582917,1012582918,1012582919,1012582920,1012582921,1012582922,1012582923]) (.frz (Frz.pure rfl)) (.aggc (S:=[]) (T:=[]) (M:=[]) (N:=[1012582912,1012582913,1012582914,1012582915,1012582916,1012582917,1012582918,1012582919,1012582920,1012582921,1012582922,1012582923]) (.frz (Frz.pure rfl)) (.aggc (S:=[]) (T:=[]) (M:=[]) (N:=[1012582912,1012582913,1012582914,1012582915,1012582916,1012582917,1012582918,1012582919,1012582920,1012582921,1012582922,1012582923]) (.frz (Frz.pure rfl)) (.aggc (S:=[]) (T:=[]) (M:=[]) (N:=[1012582912,1012582913,1012582914,1012582915,1012582916,1012582917,1012582918,1012582919,1012582920,1012582921,1012582922,1012582923]) (.frz (Frz.pure rfl)) (.aggc (S:=[]) (T:=[]) (M:=[]) (N:=[1012582912,1012582913,1012582914,1012582915,1012582916,1012582917,1012582918,1012582919,1012582920,1012582921,1012582922,1012582923]) (.frz (Frz.pure rfl)) (.aggc (S:=[]) (T:=[]) (M:=[1012582912,1012582913]) (N:=[1012582914,1012582915,1012582916,1012582917,1012582918,1012582919,1012582920,1012582921,1012582922,1012582923]) (.ptro (M:=[1012582913]) rfl rfl rfl rfl rfl (.aggc (S:=[]) (T:=[]) (M:=[1012582913]) (N:=[]) (Yg4 rfl rfl rfl rfl rfl rfl (Y00 _ _).symm) .aggn)) (.aggc (S:=[]) (T:=[]) (M:=[1012582914,1012582915]) (N:=[1012582916,1012582917,1012582918,1012582919,1012582920,1012582921,1012582922,1012582923]) (.ptro (M:=[1012582915]) rfl rfl rfl rfl rfl (.aggc (S:=[]) (T:=[]) (M:=[1012582915]) (N:=[]) (Yg4 rfl rfl rfl rfl rfl rfl (Y00 _ _).symm) .aggn)) (.aggc (S:=[]) (T:=[]) (M:=[1012582916,1012582917]) (N:=[1012582918,1012582919,1012582920,1012582921,1012582922,1012582923]) (.ptro (M:=[1012582917]) rfl rfl rfl rfl rfl (.aggc (S:=[]) (T:=[]) (M:=[1012582917]) (N:=[]) (Yg4 rfl rfl rfl rfl rfl rfl (Y00 _ _).symm) .aggn)) (.aggc (S:=[]) (T:=[]) (M:=[]) (N:=[1012582918,1012582919,1012582920,1012582921,1012582922,1012582923]) (.frz Frz.undU) (.aggc (S:=[]) (T:=[]) (M:=[]) (N:=[1012582918,1012582919,1012582920,1012582921,1012582922,1012582923]) (.frz Frz.undU) (.aggc (S:=[]) (T:=[]) (M:=[]) (N:=[1012582918,1012582919,1012582920,1012582921,1012582922,1012582923]) (.frz Frz.undU) (.aggc (S:=[]) (T:=[]) (M:=[1012582918,1012582919]) (N:=[1012582920,1012582921,1012582922,1012582923]) (.ptro (M:=[1012582919]) rfl rfl rfl rfl rfl (.aggc (S:=[]) (T:=[]) (M:=[1012582919]) (N:=[]) (Yg4 rfl rfl rfl rfl rfl rfl (Y00 _ _).symm) .aggn)) (.aggc (S:=[]) (T:=[]) (M:=[1012582920,1012582921]) (N:=[1012582922,1012582923]) (.ptro (M:=[1012582921]) rfl rfl rfl rfl rfl (.aggc (S:=[]) (T:=[]) (M:=[1012582921]) (N:=[]) (Yg4 rfl rfl rfl rfl rfl rfl (Y00 _ _).symm) .aggn)) (.aggc (S:=[]) (T:=[]) (M:=[1012582922,1012582923]) (N:=[]) (.ptro (M:=[1012582923]) rfl rfl rfl rfl rfl (.aggc (S:=[]) (T:=[]) (M:=[1012582923]) (N:=[]) (Yg4 rfl rfl rfl rfl rfl rfl (Y00 _ _).symm) .aggn)) (.aggc (S:=[]) (T:=[]) (M:=[]) (N:=[]) (.frz Frz.undU) (.aggc (S:=[]) (T:=[]) (M:=[]) (N:=[]) (.frz Frz.undU) (.aggc (S:=[]) (T:=[]) (M:=[]) (N:=[]) (.frz Frz.undU) .aggn)))))))))))))))))))))))) (.frz (Frz.aggc (Frz.pure rfl) (Frz.aggc (Frz.pure rfl) (Frz.aggc (Frz.pure rfl) Frz.aggn))))) (by decide) (by simp) (Y9Y I N hb hqI hs hcI (k*100000000) (by omega) p hp hv u0 u1 u2 r0 r1 r2 hu0 hu1 hu2 hr0 hr1 hr2 _ (Y1r hb hsd hcI hp _ _ _)) rfl rfl (fun res z hr=>?_)
    rotate_left
    have hi0:=hi _ (Y02 (l:=l) (j:=k) (by omega))
    have hi1:=hi _ (Y02 (l:=l) (j:=k+1) (by omega))
    have hi2:=hi _ (Y02 (l:=l) (j:=k+2) (by omega))
    unfold In at hi0
    refine VgD ?_
    refine Vj1 ?_
    refine Vt4 ?_
    refine VhD ?_
    rw[hss]
    refine Vx2 ?_
    refine Vc8 ?_
    refine Vg ?_
    refine Vt4 ?_
    refine Vp1 ?_
    refine Vy5 ?_
    refine Vy5 ?_
    refine ViD ?_
    refine Vp0 ?_
    refine Ygh YfX (args:=[.ptro (mcs I p u0 u1 u2 r0 r1 r2),.int .i64 2,.str (lineS I p ((l.getD k default).tdiv 3) (l.getD (k+1) default) (l.getD (k+2) default) (ByteArray.mk #[])),.bool false]) (T:=[]) (M:=[576,1012582912,1012582913,1012582914,1012582915,1012582916,1012582917,1012582918,1012582919,1012582920,1012582921,1012582922,1012582923]) (u:=.ref 576 g9 0 0) rfl (by exact .aggc (S:=[]) (T:=[]) (M:=[576,1012582912,1012582913,1012582914,1012582915,1012582916,1012582917,1012582918,1012582919,1012582920,1012582921,1012582922,1012582923]) (N:=[]) (.ptro (M:=[1012582912,1012582913,1012582914,1012582915,1012582916,1012582917,1012582918,1012582919,1012582920,1012582921,1012582922,1012582923]) rfl rfl rfl rfl rfl (.aggc (S:=[]) (T:=[]) (M:=[]) (N:=[1012582912,1012582913,1012582914,1012582915,1012582916,1012582917,1012582918,1012582919,1012582920,1012582921,1012582922,1012582923]) (.frz (Frz.pure rfl)) (.aggc (S:=[]) (T:=[]) (M:=[]) (N:=[1012582912,1012582913,1012582914,1012582915,1012582916,1012582917,1012582918,1012582919,1012582920,1012582921,1012582922,1012582923]) (.frz (Frz.pure rfl)) (.aggc (S:=[]) (T:=[]) (M:=[]) (N:=[1012582912,1012582913,1012582914,1012582915,1012582916,1012582917,1012582918,1012582919,1012582920,1012582921,1012582922,1012582923]) (.frz (Frz.pure rfl)) (.aggc (S:=[]) (T:=[]) (M:=[]) (N:=[1012582912,1012582913,1012582914,1012582915,1012582916,1012582917,1012582918,1012582919,1012582920,1012582921,1012582922,1012582923]) (.frz (Frz.pure rfl)) (.aggc (S:=[]) (T:=[]) (M:=[]) (N:=[1012582912,1012582913,1012582914,1012582915,1012582916,1012582917,1012582918,1012582919,1012582920,1012582921,1012582922,1012582923]) (.frz (Frz.pure rfl)) (.aggc (S:=[]) (T:=[]) (M:=[]) (N:=[1012582912,1012582913,1012582914,1012582915,1012582916,1012582917,1012582918,1012582919,1012582920,1012582921,1012582922,1012582923]) (.frz (Frz.pure rfl)) (.aggc (S:=[]) (T:=[]) (M:=[]) (N:=[1012582912,1012582913,1012582914,1012582915,1012582916,1012582917,1012582918,1012582919,1012582920,1012582921,1012582922,1012582923]) (.frz (Frz.pure rfl)) (.aggc (S:=[]) (T:=[]) (M:=[]) (N:=[1012582912,1012582913,1012582914,1012582915,1012582916,1012582917,1012582918,1012582919,1012582920,1012582921,1012582922,1012582923]) (.frz (Frz.pure rfl)) (.aggc (S:=[]) (T:=[]) (M:=[]) (N:=[1012582912,1012582913,1012582914,1012582915,1012582916,1012582917,1012582918,1012582919,1012582920,1012582921,1012582922,1012582923]) (.frz (Frz.pure rfl)) (.aggc (S:=[]) (T:=[]) (M:=[]) (N:=[1012582912,1012582913,1012582914,1012582915,1012582916,1012582917,1012582918,1012582919,1012582920,1012582921,1012582922,1012582923]) (.frz (Frz.pure rfl)) (.aggc (S:=[]) (T:=[]) (M:=[]) (N:=[1012582912,1012582913,1012582914,1012582915,1012582916,1012582917,1012582918,1012582919,1012582920,1012582921,1012582922,1012582923]) (.frz (Frz.pure rfl)) (.aggc (S:=[]) (T:=[]) (M:=[1012582912,1012582913]) (N:=[1012582914,1012582915,1012582916,1012582917,1012582918,1012582919,1012582920,1012582921,1012582922,1012582923]) (.ptro (M:=[1012582913]) rfl rfl rfl rfl rfl (.aggc (S:=[]) (T:=[]) (M:=[1012582913]) (N:=[]) (Yg4 rfl rfl rfl rfl rfl rfl (Y00 _ _).symm) .aggn)) (.aggc (S:=[]) (T:=[]) (M:=[1012582914,1012582915]) (N:=[1012582916,1012582917,1012582918,1012582919,1012582920,1012582921,1012582922,1012582923]) (.ptro (M:=[1012582915]) rfl rfl rfl rfl rfl (.aggc (S:=[]) (T:=[]) (M:=[1012582915]) (N:=[]) (Yg4 rfl rfl rfl rfl rfl rfl (Y00 _ _).symm) .aggn)) (.aggc (S:=[]) (T:=[]) (M:=[1012582916,1012582917]) (N:=[1012582918,1012582919,1012582920,1012582921,1012582922,1012582923]) (.ptro (M:=[1012582917]) rfl rfl rfl rfl rfl (.aggc (S:=[]) (T:=[]) (M:=[1012582917]) (N:=[]) (Yg4 rfl rfl rfl rfl rfl rfl (Y00 _ _).symm) .aggn)) (.aggc (S:=[]) (T:=[]) (M:=[]) (N:=[1012582918,1012582919,1012582920,1012582921,1012582922,1012582923]) (.frz Frz.undU) (.aggc (S:=[]) (T:=[]) (M:=[]) (N:=[1012582918,1012582919,1012582920,1012582921,1012582922,1012582923]) (.frz Frz.undU) (.aggc (S:=[]) (T:=[]) (M:=[]) (N:=[1012582918,1012582919,1012582920,1012582921,1012582922,1012582923]) (.frz Frz.undU) (.aggc (S:=[]) (T:=[]) (M:=[1012582918,1012582919]) (N:=[1012582920,1012582921,1012582922,1012582923]) (.ptro (M:=[1012582919]) rfl rfl rfl rfl rfl (.aggc (S:=[]) (T:=[]) (M:=[1012582919]) (N:=[]) (Yg4 rfl rfl rfl rfl rfl rfl (Y00 _ _).symm) .aggn)) (.aggc (S:=[]) (T:=[]) (M:=[1012582920,1012582921]) (N:=[1012582922,1012582923]) (.ptro (M:=[1012582921]) rfl rfl rfl rfl rfl (.aggc (S:=[]) (T:=[]) (M:=[1012582921]) (N:=[]) (Yg4 rfl rfl rfl rfl rfl rfl (Y00 _ _).symm) .aggn)) (.aggc (S:=[]) (T:=[]) (M:=[1012582922,1012582923]) (N:=[]) (.ptro (M:=[1012582923]) rfl rfl rfl rfl rfl (.aggc (S:=[]) (T:=[]) (M:=[1012582923]) (N:=[]) (Yg4 rfl rfl rfl rfl rfl rfl (Y00 _ _).symm) .aggn)) (.aggc (S:=[]) (T:=[]) (M:=[]) (N:=[]) (.frz Frz.undU) (.aggc (S:=[]) (T:=[]) (M:=[]) (N:=[]) (.frz Frz.undU) (.aggc (S:=[]) (T:=[]) (M:=[]) (N:=[]) (.frz Frz.undU) .aggn)))))))))))))))))))))))) (.frz (Frz.aggc (Frz.pure rfl) (Frz.aggc (Frz.pure rfl) (Frz.aggc (Frz.pure rfl) Frz.aggn))))) (by decide) (by simp) (Yb3 I N hb hqI hs hcI (k*100000000) (by omega) p hp hv u0 u1 u2 r0 r1 r2 hu0 hu1 hu2 hr0 hr1 hr2 _ (Y1r hb hsd hcI hp _ _ _)) rfl rfl (fun res z hr=>?_)
    all_goals
     obtain⟨sx,p2,a2,b2,c2,d2,e2,f2,⟨hp2,hv2,hu02,hu12,hu22,hr02,hr12,hr22⟩,rfl,rfl⟩:=hr
     refine VzM ?_
     refine Vq0 ?_
     refine Vp0 ?_
     refine Va3 ?_
     refine⟨⟨k+3,p2,a2,b2,c2,d2,e2,f2,_,_,_,_,_,_,_,_,_,_,_,_⟩,(by dsimp only;omega),_,(YfZ (YfV (YfV (YfV (YfV (YfV (YfV (Yg0 _) rfl) rfl) rfl) rfl) rfl) rfl) _),⟨by omega,hp2,hv2.le (by omega),hu02,hu12,hu22,hr02,hr12,hr22⟩,_,(congrArg (St.mk _) (Y01 (YfW rfl (YfW rfl (YfW rfl (YfW rfl (YfW rfl (YfW rfl (YfW rfl (YfW rfl (YfW rfl (YfW rfl (YfW rfl (YfW rfl (YfW rfl (YfW rfl (YfW rfl Yg3)))))))))))))))).symm)⟩
   refine Vh3 ?_
   refine Vc8 ?_
   refine Va ?_
   refine Vi4 ?_
   refine Vb2 ?_
   refine VzF ?_
   exact⟨p,⟨hp,hv.le (by omega)⟩,rfl⟩
   rw[h15]
   replace h15:=of_decide_eq_false h15
   refine Vw0 ?_
   refine Vc2 ?_
   refine Vh3 ?_
   refine Vc8 ?_
   refine Va ?_
   refine Vi4 ?_
   refine Vb2 ?_
   refine VzF ?_
   exact⟨p,⟨hp,hv.le (by omega)⟩,rfl⟩
 refine Vh3 ?_
 refine Vc8 ?_
 refine Va ?_
 refine Vi4 ?_
 refine Vb2 ?_
 refine VzF ?_
 exact⟨p,⟨hp,hv.le (by omega)⟩,rfl⟩
 rw[h15]
 replace h15:=of_decide_eq_false h15
 refine Vw0 ?_
 refine Vc2 ?_
 refine Vh3 ?_
 refine Vc8 ?_
 refine Va ?_
 refine Vi4 ?_
 refine Vb2 ?_
 refine VzF ?_
 exact⟨p,⟨hp,hv.le (by omega)⟩,rfl⟩
theorem Y8V (i:Inst)(hs:i.Short)(p:Plan)(hp:OkP p): CallsV Try.prog 53 [ei i,.agg (kp p)] (.bool (lengthsB i p)):=by
 refine Yg2 (Yga _) mix Try.func53 rfl rfl (by simp[Try.f53]) (by kernel_rfl) (nb:=0) ?_
 unfold Try.f53
 refine Ve ?_
 have hst:=hs.stops
 have hc:=hs.cars
 unfold Short at hst hc
 have ⟨p1,p2,p3,p4,p5,p6,p7⟩:=hp
 refine Vy3 ?_
 intro g2
 refine Vo ?_
 intro g3
 refine Vj5 ?_
 refine Vo5 ?_
 refine Vj ?_
 refine Vs7 ?_
 refine VqE ?_
 refine Vc ?_
 refine Vo5 ?_
 refine Va ?_
 refine Vm ?_
 refine Yg1 19 rfl (fun h19=>?_) (fun h19=>?_)
 rw[h19]
 replace h19:=of_decide_eq_true h19
 refine Vy9 ?_
 refine Vt2 ?_
 refine Vn3 ?_
 refine Yg1 26 rfl (fun h26=>?_) (fun h26=>?_)
 rw[h26]
 replace h26:=of_decide_eq_true h26
 refine Vb ?_
 refine Ve3 ?_
 refine Vt2 ?_
 refine Vn3 ?_
 refine Yg1 33 rfl (fun h33=>?_) (fun h33=>?_)
 rw[h33]
 replace h33:=of_decide_eq_true h33
 refine Vb ?_
 refine Vx4 ?_
 refine Vt2 ?_
 refine Vn3 ?_
 refine Yg1 40 rfl (fun h40=>?_) (fun h40=>?_)
 rw[h40]
 replace h40:=of_decide_eq_true h40
 refine Vh5 ?_
 refine Vt2 ?_
 refine Vn3 ?_
 refine Yg1 47 rfl (fun h47=>?_) (fun h47=>?_)
 rw[h47]
 replace h47:=of_decide_eq_true h47
 refine Vb ?_
 refine Vq9 ?_
 refine Vt2 ?_
 refine Vl6 ?_
 refine Vh1 ?_
 refine Vd2 ?_
 show LV.bool _=LV.bool _
 congr 1
 unfold lengthsB
 rw[Yf2]
 simp only[Ye0,decide_eq_true_eq,beq_iff_eq,Yf4]
 omega
 rw[h47]
 replace h47:=of_decide_eq_false h47
 refine Vr7 ?_
 show LV.bool _=LV.bool _
 congr 1
 unfold lengthsB
 rw[Yf2]
 simp only[Ye0,decide_eq_true_eq,beq_iff_eq,Yf4]
 (constructor <;> intro hx <;> first | exact hx.elim | omega)
 rw[h40]
 replace h40:=of_decide_eq_false h40
 refine Vm7 ?_
 refine Vr7 ?_
 show LV.bool _=LV.bool _
 congr 1
 unfold lengthsB
 rw[Yf2]
 simp only[Ye0,decide_eq_true_eq,beq_iff_eq,Yf4]
 (constructor <;> intro hx <;> first | exact hx.elim | omega)
 rw[h33]
 replace h33:=of_decide_eq_false h33
 refine VhA ?_
 refine Vr7 ?_
 show LV.bool _=LV.bool _
 congr 1
 unfold lengthsB
 rw[Yf2]
 simp only[Ye0,decide_eq_true_eq,beq_iff_eq,Yf4]
 (constructor <;> intro hx <;> first | exact hx.elim | omega)
 rw[h26]
 replace h26:=of_decide_eq_false h26
 refine VhA ?_
 refine Vm7 ?_
 refine Vr7 ?_
 show LV.bool _=LV.bool _
 congr 1
 unfold lengthsB
 rw[Yf2]
 simp only[Ye0,decide_eq_true_eq,beq_iff_eq,Yf4]
 (constructor <;> intro hx <;> first | exact hx.elim | omega)
 rw[h19]
 replace h19:=of_decide_eq_false h19
 refine VhA ?_
 refine VhA ?_
 refine Vr7 ?_
 show LV.bool _=LV.bool _
 congr 1
 unfold lengthsB
 rw[Yf2]
 simp only[Ye0,decide_eq_true_eq,beq_iff_eq,Yf4]
 (constructor <;> intro hx <;> first | exact hx.elim | omega)
theorem Y98 (w:Int): CallsV Try.prog 79 [.int .i64 w] (.bool (holderX w)):=by
 refine Yg2 (Yga _) mix Try.func79 rfl rfl (by simp[Try.f79]) (by kernel_rfl) (nb:=0) ?_
 unfold Try.f79
 refine Vc ?_
 refine Vv7 ?_
 refine Yg1 5 rfl (fun h5=>?_) (fun h5=>?_)
 rw[h5]
 replace h5:=of_decide_eq_true h5
 refine Vw0 ?_
 refine Vd2 ?_
 show LV.bool _=LV.bool _
 congr 1
 unfold holderX
 (rw[decide_eq_true (by omega:w < -1)];rfl)
 rw[h5]
 replace h5:=of_decide_eq_false h5
 refine Vl6 ?_
 refine Vh1 ?_
 refine Vd2 ?_
 show LV.bool _=LV.bool _
 congr 1
 unfold holderX
 (rw[decide_eq_false (by omega:¬ w < -1)];rfl)
theorem Y7w (l:List Int)(hl:l.length≤1000000): CallsV Try.prog 54 [.sl (em ni l)] (.bool (holdersB l)):=by
 refine Yg2 (Yga _) mix Try.func54 rfl rfl (by simp[Try.f54]) (by kernel_rfl) (nb:=0) ?_
 unfold Try.f54
 refine Vc ?_
 refine Vd0 ?_
 refine Yg6 YfX rfl (Frz.aggc (by exact Frz.pure rfl) (Frz.aggc (by exact Frz.fn Frz.aggn) (Frz.aggn))) (Yby l (by omega) 79 [] rfl holderX fun w _=>Y98 w) rfl rfl (fun _=>rfl) ?_
 refine Vz6 ?_
 refine Vq1 ?_
 rfl
theorem YbI (i:Inst)(hs:i.Short)(R:List (List Int))(hR:R.length≤1000000)(he:∀ r∈R,r.length≤1000000): CallsV Try.prog 55 [ei i,.sl (em nr R)] (.bool (onceA i.stops.length R)):=by
 refine Yg2 (Yga _) mix Try.func55 rfl rfl (by simp[Try.f55]) (by kernel_rfl) (nb:=0) ?_
 unfold Try.f55
 refine Ve ?_
 have hst:=hs.stops
 unfold Short at hst
 refine Vy3 ?_
 intro g2
 refine Vn ?_
 refine Vv1 ?_
 intro g10
 refine Vp8 ?_
 refine Yg8 YfX (α:=Nat × Nat × List Int) (fun ⟨k,g,hd⟩ st=>(k≤R.length∧onceN i.stops.length R.flatten []=onceN i.stops.length (R.drop k).flatten hd)∧∃ m0,st=⟨(updS (updS (updS (updS (updS (fun _=>LV.undef) 2 (.ref 128 g2 0 0)) 5 (.mref 640 g)) 11 (.sl (em nr R))) 12 (.int .i64 (R.length:Int))) 13 (.int .i64 (k:Int))),effM m0 [(128,⟨g2,false,.var,4,[ic i]⟩),(640,⟨g,false,.mp,2,em kb hd⟩)]⟩) (fun ⟨k,g,hd⟩=>R.length - k) ⟨0,_,[]⟩ ⟨_,(YfZ (YfV (YfV (YfV (YfV (YfV (Yg0 _) rfl) rfl) rfl) rfl) rfl) _),⟨Ye1 _,rfl⟩,_,(congrArg (St.mk _) (Y01 (YfW rfl (YfW rfl Yg3))).symm)⟩ ?_
 rintro⟨k,g,hd⟩ _ ⟨⟨hi,hA⟩,m0,rfl⟩
 refine Vd ?_
 refine cD (fun h14=>?_) fun h14=>?_
 have hr:=he _ (Y02 (l:=R) (j:=k) (by omega))
 refine Vn1 ?_
 refine Vd0 ?_
 refine Vq ?_
 refine Yg8 YfX (α:=Nat × Nat × List Int) (fun ⟨j,g,hd'⟩ st=>(j≤(R.getD k default).length∧onceN i.stops.length (R.drop k).flatten hd=onceN i.stops.length ((R.getD k default).drop j++(R.drop (k+1)).flatten) hd')∧∃ m0,st=⟨(updS (updS (updS (updS (updS (updS (updS (updS (fun _=>LV.undef) 2 (.ref 128 g2 0 0)) 5 (.mref 640 g)) 11 (.sl (em nr R))) 12 (.int .i64 (R.length:Int))) 13 (.int .i64 (k:Int))) 17 (.sl (em ni (R.getD k default)))) 18 (.int .i64 ((R.getD k default).length:Int))) 19 (.int .i64 (j:Int))),effM m0 [(128,⟨g2,false,.var,4,[ic i]⟩),(640,⟨g,false,.mp,2,em kb hd'⟩)]⟩) (fun ⟨j,g,hd'⟩=>(R.getD k default).length - j) ⟨0,_,_⟩ ⟨_,(YfZ (YfV (YfV (YfV (YfV (YfV (YfV (YfV (YfV (Yg0 _) rfl) rfl) rfl) rfl) rfl) rfl) rfl) rfl) _),⟨Ye1 _,by rw[Y09 (l:=R) (by omega),YfC];rfl⟩,_,(congrArg (St.mk _) (Y01 (YfW rfl (YfW rfl Yg3))).symm)⟩ ?_
 rintro⟨j,g,hd'⟩ _ ⟨⟨hj,hB⟩,m0,rfl⟩
 refine Vd ?_
 refine cD (fun h20=>?_) fun h20=>?_
 refine Vn1 ?_
 refine VlA ?_
 refine Yg1 25 rfl (fun h25=>?_) (fun h25=>?_)
 rw[h25]
 replace h25:=of_decide_eq_true h25
 refine Vm7 ?_
 refine Vk3 ?_
 refine Vh7 ?_
 refine Vt7 ?_
 refine Ve1 ?_
 show LV.bool _=LV.bool _
 congr 1
 unfold onceA
 rw[hA]
 (rw[hB,Y09 (by omega),YdW,Y5P (by exact .inl (.inl (by omega)))])
 rw[h25]
 replace h25:=of_decide_eq_false h25
 refine Vi ?_
 refine Vb6 ?_
 refine VfA ?_
 refine Yg1 32 rfl (fun h32=>?_) (fun h32=>?_)
 rw[h32]
 replace h32:=of_decide_eq_true h32
 refine Vk3 ?_
 refine Vh7 ?_
 refine Vt7 ?_
 refine Ve1 ?_
 show LV.bool _=LV.bool _
 congr 1
 unfold onceA
 rw[hA]
 (rw[hB,Y09 (by omega),YdW,Y5P (by exact .inl (.inr (by omega)))])
 rw[h32]
 replace h32:=of_decide_eq_false h32
 refine Vg2 ?_
 refine VaF ?_
 refine Vk4 ?_
 refine cD (fun h36=>?_) fun h36=>?_
 refine Vc5 ?_
 refine Vh7 ?_
 refine Vt7 ?_
 refine Ve1 ?_
 show LV.bool _=LV.bool _
 congr 1
 unfold onceA
 rw[hA]
 (rw[hB,Y09 (by omega),YdW,Y5P (by exact .inr (by simpa using h36))])
 refine Vq8 ?_
 refine VpA ?_
 refine⟨⟨j+1,_,_⟩,(by dsimp only;omega),_,(YfZ (YfV (YfV (YfV (YfV (YfV (YfV (YfV (YfV (Yg0 _) rfl) rfl) rfl) rfl) rfl) rfl) rfl) rfl) _),⟨by omega,by rw[hB,Y09 (by omega),YdW,Y8F (by rintro ((h | h) | h) <;> first | omega | (simp_all;done))]⟩,_,(congrArg (St.mk _) (Y01 (YfW rfl (YfW rfl Yg3))).symm)⟩
 refine VcA ?_
 refine⟨⟨k+1,_,_⟩,(by dsimp only;omega),_,(YfZ (YfV (YfV (YfV (YfV (YfV (Yg0 _) rfl) rfl) rfl) rfl) rfl) _),⟨by omega,by rw[hA,hB,Y0m (by omega),YdY]⟩,_,(congrArg (St.mk _) (Y01 (YfW rfl (YfW rfl Yg3))).symm)⟩
 refine Vt1 ?_
 show LV.bool _=LV.bool _
 congr 1
 unfold onceA
 rw[hA]
 (rw[Y0m (by omega)];rfl)
theorem Y39 (i:Inst)(hs:i.Short)(p:Plan)(hp:OkP p): CallsV Try.prog 29 [ei i,.agg (kp p)] (.int .i64 (auditC i p)):=by
 refine Yg2 (Yga _) mix Try.func29 rfl rfl (by simp[Try.f29]) (by kernel_rfl) (nb:=0) ?_
 unfold Try.f29
 refine Ve ?_
 have ⟨p1,p2,p3,p4,p5,p6,p7⟩:=hp
 refine Vy3 ?_
 intro g2
 refine Vo ?_
 intro g3
 refine Vb0 ?_
 refine Vt0 ?_
 refine VsI ?_
 refine Vn8 ?_
 refine Vp ?_
 refine VgG ?_
 refine cB (fun h12=>?_) fun h12=>?_
 have hck:checkB i=false:=by
   rw[← Yfp]
   intro hc
   rw[if_pos hc] at h12
   exact h12 rfl
 refine Vp ?_
 refine Vk1 ?_
 show LV.int _ _=LV.int _ _
 congr 1
 unfold auditC
 · (rw[if_neg (show ¬ checkB i=true by rw[hck];simp),if_pos hck];done)
 have hck:checkB i=true:=by
   by_cases hc:checkB i=true
   · exact hc
   · rw[if_neg hc] at h12
     cases h12
 refine Vc ?_
 refine Vs4 ?_
 refine Yg6 YfX rfl (Frz.aggc (by exact YfY rfl) (Frz.aggc (by exact YfY rfl) (Frz.aggn))) (Y8V i hs p hp) rfl rfl (fun _=>rfl) ?_
 refine Vc3 ?_
 refine Yg1 21 rfl (fun h21=>?_) (fun h21=>?_)
 rw[h21]
 refine VeA ?_
 refine Vz ?_
 refine Vd3 ?_
 refine Vy ?_
 refine Vp2 ?_
 refine Vr6 ?_
 show LV.int _ _=LV.int _ _
 congr 1
 unfold auditC
 · (rw[if_neg (show ¬ checkB i=false by rw[hck];simp),if_pos (show (lengthsB i p && (holdersB p.lock && holdersB p.ice))=false by rw[nf h21];rfl)];done)
 rw[h21]
 refine Vq7 ?_
 refine VtJ ?_
 refine Vl3 ?_
 refine Vs1 ?_
 refine Yg1 27 rfl (fun h27=>?_) (fun h27=>?_)
 rw[h27]
 refine Vz ?_
 refine Vd3 ?_
 refine Vy ?_
 refine Vp2 ?_
 refine Vr6 ?_
 show LV.int _ _=LV.int _ _
 congr 1
 unfold auditC
 · (rw[if_neg (show ¬ checkB i=false by rw[hck];simp),if_pos (show (lengthsB i p && (holdersB p.lock && holdersB p.ice))=false by rw[nf h27,Yf5,YeJ])];done)
 rw[h27]
 refine Vn5 ?_
 refine VtJ ?_
 refine Vl3 ?_
 refine Vd3 ?_
 refine Vy ?_
 refine Ygb rfl (fun h16=>?_) (fun h16=>?_)
 refine Vr6 ?_
 show LV.int _ _=LV.int _ _
 congr 1
 unfold auditC
 · (rw[if_neg (show ¬ checkB i=false by rw[hck];simp),if_pos (show (lengthsB i p && (holdersB p.lock && holdersB p.ice))=false by rw[nf h16,YeJ,YeJ])];done)
 refine Vc ?_
 refine Vt0 ?_
 refine Vc0 ?_
 refine Yg6 YfX rfl (Frz.aggc (by exact YfY rfl) (Frz.aggc (by exact Frz.pure rfl) (Frz.aggn))) (YbI i hs _ p1 p2) rfl rfl (fun _=>rfl) ?_
 refine Vz6 ?_
 refine Vy ?_
 refine Ygb rfl (fun h33=>?_) (fun h33=>?_)
 refine Vr6 ?_
 show LV.int _ _=LV.int _ _
 congr 1
 unfold auditC
 · (rw[if_neg (show ¬ checkB i=false by rw[hck];simp),if_neg (show ¬ (lengthsB i p && (holdersB p.lock && holdersB p.ice))=false by rw[nt h21,nt h27,nt h16];simp),if_pos (nf h33)];done)
 refine VvB ?_
 refine Vd1 ?_
 refine Vx3 ?_
 refine Yg8 YfX (α:=Nat) (fun k st=>(k≤p.routes.length∧∀ j,j<k→drivenK i p.routes j=true)∧∃ m0,st=⟨(updS (updS (updS (updS (fun _=>LV.undef) 2 (.ref 128 g2 0 0)) 40 (.sl (em nr p.routes))) 41 (.int .i64 (p.routes.length:Int))) 42 (.int .i64 (k:Int))),effM m0 [(128,⟨g2,false,.var,4,[ic i]⟩)]⟩) (fun k=>p.routes.length - k) 0 ⟨_,lessA,⟨Ye1 _,fun j h=>by omega⟩,_,hasA⟩ ?_
 rintro k _ ⟨⟨hk,hD⟩,m0,rfl⟩
 refine Vd ?_
 refine cD (fun h43=>?_) fun h43=>?_
 refine Vl5 ?_
 refine Vn ?_
 refine Vt0 ?_
 refine Vg ?_
 refine Yg6 YfX rfl (Frz.aggc (by exact YfY rfl) (Frz.aggc (by exact Frz.pure rfl) (Frz.aggc (by exact Frz.pure rfl) (Frz.aggn)))) (YcI i hs _ _ (by have:=p2 _ (Y02 (l:=p.routes) (j:=k) (by omega));unfold Short;omega)) rfl rfl (fun _=>rfl) ?_
 refine VkD ?_
 refine VbB ?_
 intro g8
 refine Vq3 ?_
 refine Vd0 ?_
 refine Vb1 ?_
 refine Ygb rfl (fun h55=>?_) (fun h55=>?_)
 refine Vl2 ?_
 show LV.int _ _=LV.int _ _
 congr 1
 unfold auditC
 · (rw[if_neg (show ¬ checkB i=false by rw[hck];simp),if_neg (show ¬ (lengthsB i p && (holdersB p.lock && holdersB p.ice))=false by rw[nt h21,nt h27,nt h16];simp),if_neg (show ¬ onceA i.stops.length p.routes=false by rw[nt h33];simp),if_pos (Y9V (k:=k) (by omega) (nf h55))];done)
 refine Vs ?_
 refine⟨k+1,(by dsimp only;omega),_,lessA,⟨by omega,fun j h=>by
       by_cases hj:j=k
       · subst hj;exact nt h55
       · exact hD j (by omega)⟩,_,hasA⟩
 refine Vt1 ?_
 show LV.int _ _=LV.int _ _
 congr 1
 unfold auditC
 · (rw[if_neg (show ¬ checkB i=false by rw[hck];simp),if_neg (show ¬ (lengthsB i p && (holdersB p.lock && holdersB p.ice))=false by rw[nt h21,nt h27,nt h16];simp),if_neg (show ¬ onceA i.stops.length p.routes=false by rw[nt h33];simp),if_neg (show ¬ drivenB i p.routes=false by rw[Y8I fun j hj=>hD j (by omega)];simp)];done)
theorem intsN:Ints []:=⟨Ye1 _,by simp⟩
theorem okZ:OkP (newP (instOf [])):=Ycd (by decide +kernel)
theorem okZ0:OkP zeroP:=Ycd rfl
theorem auZ1:CallsV Try.prog 29 [ei (instOf []),.agg (kp (newP (instOf [])))] (.int .i64 0):=(show auditC (instOf []) (newP (instOf []))=0 by decide +kernel) ▸ Y39 (instOf []) (Y17 []) _ okZ
theorem auZ2:CallsV Try.prog 29 [ei (instOf []),.agg (kp zeroP)] (.int .i64 1):=(show auditC (instOf []) zeroP=1 by decide +kernel) ▸ Y39 (instOf []) (Y17 []) _ okZ0
theorem Yb5 {z:List Int}(h:Ints z): ∀ x∈z,In x:=fun x hx=>by
 obtain⟨k,hk,rfl⟩:=Y1E hx
 exact h.at k
theorem Yda {z m:List Int}(hm:Ints m): CallsR Try.prog 9 [ei (instOf z),.sl (em ni m)] fun res=>∃ p:Plan,(GoodP (instOf z) p∧VersIn 10000000000 p)∧res=.tup [.agg (kp p),.undef] :=
 YcD (instOf z) (nStops z) (YaR z) (YcJ z) (Y9E z) (Y17 z) (Y5h z) m (Ye5 hm.len (by decide)) (Yb5 hm)
theorem Y91:CallsV Try.prog 30 [] (.bool true):=by
 refine Yg2 (Yga _) mix Try.func30 rfl rfl (by simp[Try.f30]) (by kernel_rfl) (nb:=0) ?_
 unfold Try.f30
 refine Vc ?_
 refine Vn ?_
 refine Yg6 YfX rfl (Frz.aggc (by exact Frz.nils) Frz.aggn) (Y9A [] intsN) rfl rfl (fun _=>rfl) ?_
 refine VzD ?_
 intro g1
 first | refine Ygy YfX (n:=4) rfl rfl rfl rfl rfl rfl rfl (by conv=>lhs;whnf) rfl rfl rfl ?_ | refine Ygx YfX (n:=4) rfl rfl rfl rfl rfl rfl rfl rfl rfl rfl (YdK rfl) (by first | (conv=>lhs;simp only[YdR,Ye6,YdU,Ye3,YdY,YdW,Yea,YdX,Yeb,YdS,YdT,YdZ,ic]) | rfl) (by first | (conv=>lhs;simp only[YdR,Ye6,YdU,Ye3,YdY,YdW,Yea,YdX,Yeb,YdS,YdT,YdZ,ic]) | rfl) ?_
 refine Vu8 ?_
 first | refine Ygn YfX (n:=4) rfl rfl rfl rfl (by simp) rfl rfl rfl ?_ | refine Ygu YfX (n:=4) rfl rfl (Y08 (by omega)) rfl rfl ?_ | refine YgA YfX (n:=4) rfl rfl rfl rfl (by simp) rfl rfl (YdK rfl) (by first | (conv=>lhs;simp only[YdR,Ye6,YdU,Ye3,YdY,YdW,Yea,YdX,Yeb,YdS,YdT,YdZ,ic]) | rfl) ?_ | refine YgG YfX (n:=4) rfl rfl (Y08 (by omega)) rfl (YdK rfl) (by first | (conv=>lhs;simp only[YdR,Ye6,YdU,Ye3,YdY,YdW,Yea,YdX,Yeb,YdS,YdT,YdZ,ic]) | rfl) ?_
 first | refine Ygn YfX (n:=4) rfl rfl rfl rfl (by simp) rfl rfl rfl ?_ | refine Ygu YfX (n:=4) rfl rfl (Y08 (by omega)) rfl rfl ?_ | refine YgA YfX (n:=4) rfl rfl rfl rfl (by simp) rfl rfl (YdK rfl) (by first | (conv=>lhs;simp only[YdR,Ye6,YdU,Ye3,YdY,YdW,Yea,YdX,Yeb,YdS,YdT,YdZ,ic]) | rfl) ?_ | refine YgG YfX (n:=4) rfl rfl (Y08 (by omega)) rfl (YdK rfl) (by first | (conv=>lhs;simp only[YdR,Ye6,YdU,Ye3,YdY,YdW,Yea,YdX,Yeb,YdS,YdT,YdZ,ic]) | rfl) ?_
 refine Yg6 YfX rfl (Frz.aggc (by first | exact YfY rfl | exact (Frz.aggc (by first | exact Frz.pure rfl | exact Frz.nils | exact Yg5 rfl rfl rfl rfl (by first | exact Y00 _ _ | (rw[Y00];first | omega | (rw[Y04];exact YdQ) | (simp;done)))) (Frz.aggc (by first | exact Frz.pure rfl | exact Frz.nils | exact Yg5 rfl rfl rfl rfl (by first | exact Y00 _ _ | (rw[Y00];first | omega | (rw[Y04];exact YdQ) | (simp;done)))) (Frz.aggc (by first | exact Frz.pure rfl | exact Frz.nils | exact Yg5 rfl rfl rfl rfl (by first | exact Y00 _ _ | (rw[Y00];first | omega | (rw[Y04];exact YdQ) | (simp;done)))) (Frz.aggc (by first | exact Frz.pure rfl | exact Frz.nils | exact Yg5 rfl rfl rfl rfl (by first | exact Y00 _ _ | (rw[Y00];first | omega | (rw[Y04];exact YdQ) | (simp;done)))) Frz.aggn))))) Frz.aggn) (Ycb (instOf []) (Y17 [])) rfl rfl (fun _=>rfl) ?_
 refine Yg6 YfX rfl (Frz.aggc (by first | exact YfY rfl | exact (Frz.aggc (by first | exact Frz.pure rfl | exact Frz.nils | exact Yg5 rfl rfl rfl rfl (by first | exact Y00 _ _ | (rw[Y00];first | omega | (rw[Y04];exact YdQ) | (simp;done)))) (Frz.aggc (by first | exact Frz.pure rfl | exact Frz.nils | exact Yg5 rfl rfl rfl rfl (by first | exact Y00 _ _ | (rw[Y00];first | omega | (rw[Y04];exact YdQ) | (simp;done)))) (Frz.aggc (by first | exact Frz.pure rfl | exact Frz.nils | exact Yg5 rfl rfl rfl rfl (by first | exact Y00 _ _ | (rw[Y00];first | omega | (rw[Y04];exact YdQ) | (simp;done)))) (Frz.aggc (by first | exact Frz.pure rfl | exact Frz.nils | exact Yg5 rfl rfl rfl rfl (by first | exact Y00 _ _ | (rw[Y00];first | omega | (rw[Y04];exact YdQ) | (simp;done)))) Frz.aggn))))) (Frz.aggc (by first | exact YfY rfl | exact (Frz.aggc (by first | exact Frz.pure rfl | exact Frz.nils | exact Yg5 rfl rfl rfl rfl (by first | exact Y00 _ _ | (rw[Y00];first | omega | (rw[Y04];exact YdQ) | (simp;done)))) (Frz.aggc (by first | exact Frz.pure rfl | exact Frz.nils | exact Yg5 rfl rfl rfl rfl (by first | exact Y00 _ _ | (rw[Y00];first | omega | (rw[Y04];exact YdQ) | (simp;done)))) (Frz.aggc (by first | exact Frz.pure rfl | exact Frz.nils | exact Yg5 rfl rfl rfl rfl (by first | exact Y00 _ _ | (rw[Y00];first | omega | (rw[Y04];exact YdQ) | (simp;done)))) (Frz.aggc (by first | exact Frz.pure rfl | exact Frz.nils | exact Yg5 rfl rfl rfl rfl (by first | exact Y00 _ _ | (rw[Y00];first | omega | (rw[Y04];exact YdQ) | (simp;done)))) (Frz.aggc (by first | exact Frz.pure rfl | exact Frz.nils | exact Yg5 rfl rfl rfl rfl (by first | exact Y00 _ _ | (rw[Y00];first | omega | (rw[Y04];exact YdQ) | (simp;done)))) (Frz.aggc (by first | exact Frz.pure rfl | exact Frz.nils | exact Yg5 rfl rfl rfl rfl (by first | exact Y00 _ _ | (rw[Y00];first | omega | (rw[Y04];exact YdQ) | (simp;done)))) (Frz.aggc (by first | exact Frz.pure rfl | exact Frz.nils | exact Yg5 rfl rfl rfl rfl (by first | exact Y00 _ _ | (rw[Y00];first | omega | (rw[Y04];exact YdQ) | (simp;done)))) Frz.aggn)))))))) Frz.aggn)) (auZ1) rfl rfl (fun _=>rfl) ?_
 refine GL.bin YfX (v:=.bool true) (by kernel_rfl) ?_
 refine Va ?_
 refine Vb ?_
 first | refine Ygn YfX (n:=4) rfl rfl rfl rfl (by simp) rfl rfl rfl ?_ | refine Ygu YfX (n:=4) rfl rfl (Y08 (by omega)) rfl rfl ?_ | refine YgA YfX (n:=4) rfl rfl rfl rfl (by simp) rfl rfl (YdK rfl) (by first | (conv=>lhs;simp only[YdR,Ye6,YdU,Ye3,YdY,YdW,Yea,YdX,Yeb,YdS,YdT,YdZ,ic]) | rfl) ?_ | refine YgG YfX (n:=4) rfl rfl (Y08 (by omega)) rfl (YdK rfl) (by first | (conv=>lhs;simp only[YdR,Ye6,YdU,Ye3,YdY,YdW,Yea,YdX,Yeb,YdS,YdT,YdZ,ic]) | rfl) ?_
 refine Vb ?_
 refine VnN ?_
 refine Vb ?_
 refine Yg6 YfX rfl (Frz.aggc (by first | exact YfY rfl | exact (Frz.aggc (by first | exact Frz.pure rfl | exact Frz.nils | exact Yg5 rfl rfl rfl rfl (by first | exact Y00 _ _ | (rw[Y00];first | omega | (rw[Y04];exact YdQ) | (simp;done)))) (Frz.aggc (by first | exact Frz.pure rfl | exact Frz.nils | exact Yg5 rfl rfl rfl rfl (by first | exact Y00 _ _ | (rw[Y00];first | omega | (rw[Y04];exact YdQ) | (simp;done)))) (Frz.aggc (by first | exact Frz.pure rfl | exact Frz.nils | exact Yg5 rfl rfl rfl rfl (by first | exact Y00 _ _ | (rw[Y00];first | omega | (rw[Y04];exact YdQ) | (simp;done)))) (Frz.aggc (by first | exact Frz.pure rfl | exact Frz.nils | exact Yg5 rfl rfl rfl rfl (by first | exact Y00 _ _ | (rw[Y00];first | omega | (rw[Y04];exact YdQ) | (simp;done)))) Frz.aggn))))) (Frz.aggc (by first | exact YfY rfl | exact (Frz.aggc (by first | exact Frz.pure rfl | exact Frz.nils | exact Yg5 rfl rfl rfl rfl (by first | exact Y00 _ _ | (rw[Y00];first | omega | (rw[Y04];exact YdQ) | (simp;done)))) (Frz.aggc (by first | exact Frz.pure rfl | exact Frz.nils | exact Yg5 rfl rfl rfl rfl (by first | exact Y00 _ _ | (rw[Y00];first | omega | (rw[Y04];exact YdQ) | (simp;done)))) (Frz.aggc (by first | exact Frz.pure rfl | exact Frz.nils | exact Yg5 rfl rfl rfl rfl (by first | exact Y00 _ _ | (rw[Y00];first | omega | (rw[Y04];exact YdQ) | (simp;done)))) (Frz.aggc (by first | exact Frz.pure rfl | exact Frz.nils | exact Yg5 rfl rfl rfl rfl (by first | exact Y00 _ _ | (rw[Y00];first | omega | (rw[Y04];exact YdQ) | (simp;done)))) (Frz.aggc (by first | exact Frz.pure rfl | exact Frz.nils | exact Yg5 rfl rfl rfl rfl (by first | exact Y00 _ _ | (rw[Y00];first | omega | (rw[Y04];exact YdQ) | (simp;done)))) (Frz.aggc (by first | exact Frz.pure rfl | exact Frz.nils | exact Yg5 rfl rfl rfl rfl (by first | exact Y00 _ _ | (rw[Y00];first | omega | (rw[Y04];exact YdQ) | (simp;done)))) (Frz.aggc (by first | exact Frz.pure rfl | exact Frz.nils | exact Yg5 rfl rfl rfl rfl (by first | exact Y00 _ _ | (rw[Y00];first | omega | (rw[Y04];exact YdQ) | (simp;done)))) Frz.aggn)))))))) Frz.aggn)) (auZ2) rfl rfl (fun _=>rfl) ?_
 refine Vb ?_
 refine GL.bin YfX (v:=.bool true) (by kernel_rfl) ?_
 refine Vd3 ?_
 refine VwH ?_
 refine VjD ?_
 rfl
def carX:Car:=⟨60,0,1000⟩
theorem YcX (m:Mem)(d:Nat)(i:Inst): impT m d (eio i)=(.agg [.own d (genAt m d) 0 i.cars.length none,.own (d+1) (genAt m (d+1)) 0 i.stops.length none,.own (d+1+1) (genAt m (d+1+1)) 0 i.pairs.length none,.own (d+1+1+1) (genAt m (d+1+1+1)) 0 i.travel.length none],[(d,⟨genAt m d,false,.slc,3,em nc i.cars⟩),(d+1,⟨genAt m (d+1),false,.slc,4,em ns i.stops⟩),(d+1+1,⟨genAt m (d+1+1),false,.slc,2,em np i.pairs⟩),(d+1+1+1,⟨genAt m (d+1+1+1),false,.slc,1,em nr i.travel⟩)]):=by
 simp[eio,impT,impV,impCs,impC,Y00]
theorem law_AuditParts (l:List Int)(hl:Ints l)(m:List Int)(hm:Ints m)(c0:Int): CallsV Try.prog 6 [.sl (em ni l),.sl (em ni m),.int .i64 c0] (.bool true):=by
 refine Yg2 (Yga _) mix Try.func6 rfl rfl (by simp[Try.f6]) (by kernel_rfl) (nb:=0) ?_
 unfold Try.f6
 refine Ve ?_
 obtain⟨I,hI⟩:∃ I,I=instOf l:=⟨_,rfl⟩
 have hio:CallsV Try.prog 8 [.sl (em ni l)] (ei I):=hI ▸ Y9A l hl
 have hiw:CallsV Try.prog 8 [.sl (em ni l)] (eio I):=hI ▸ Y8c l hl
 have hb:Sb I (nStops l):=hI ▸ YaR l
 have hs:I.Short:=hI ▸ Y17 l
 have hcI:checkB I=true:=hI ▸ Y5h l
 have hpl:CallsR Try.prog 9 [ei I,.sl (em ni m)] fun res=>∃ p:Plan,(GoodP I p∧VersIn 10000000000 p)∧res=.tup [.agg (kp p),.undef]:=hI ▸ Yda hm
 have hst:=Y0V hcI
 have hca:=Y1b hcI
 refine Vf ?_
 refine Vd0 ?_
 refine Yg6 YfX rfl (Frz.aggc (Frz.pure rfl) Frz.aggn) (hio) rfl rfl (fun _=>rfl) ?_
 refine VzD ?_
 intro g7
 first | refine Ygy YfX (n:=4) rfl rfl rfl rfl rfl rfl rfl (by conv=>lhs;whnf) rfl rfl rfl ?_ | refine Ygx YfX (n:=4) rfl rfl rfl rfl rfl rfl rfl rfl rfl rfl (YdK rfl) (by first | (conv=>lhs;simp only[YdR,Ye6,YdU,Ye3,YdY,YdW,Yea,YdX,Yeb,YdS,YdT,YdZ,kp,ic,ei,kpo,eio]) | rfl) (by first | (conv=>lhs;simp only[YdR,Ye6,YdU,Ye3,YdY,YdW,Yea,YdX,Yeb,YdS,YdT,YdZ,kp,ic,ei,kpo,eio]) | rfl) ?_
 refine Va4 ?_
 first | refine Ygn YfX (n:=4) rfl rfl rfl rfl (by simp) rfl rfl rfl ?_ | refine Ygu YfX (n:=4) rfl rfl (Y08 (by omega)) rfl rfl ?_ | refine YgA YfX (n:=4) rfl rfl rfl rfl (by simp) rfl rfl (YdK rfl) (by first | (conv=>lhs;simp only[YdR,Ye6,YdU,Ye3,YdY,YdW,Yea,YdX,Yeb,YdS,YdT,YdZ,kp,ic,ei,kpo,eio]) | rfl) ?_ | refine YgG YfX (n:=4) rfl rfl (Y08 (by omega)) rfl (YdK rfl) (by first | (conv=>lhs;simp only[YdR,Ye6,YdU,Ye3,YdY,YdW,Yea,YdX,Yeb,YdS,YdT,YdZ,kp,ic,ei,kpo,eio]) | rfl) ?_
 refine Va ?_
 refine GL.callR YfX rfl (Frz.aggc (YfY rfl) (Frz.aggc (Frz.pure rfl) Frz.aggn)) hpl rfl (fun _=>rfl) (fun _ _=>rfl) ?_
 rintro p ⟨hp,hv⟩
 refine VkD ?_
 refine Vd6 ?_
 intro g8
 first | refine Ygy YfX (n:=7) rfl rfl rfl rfl rfl rfl rfl (by conv=>lhs;whnf) rfl rfl rfl ?_ | refine Ygx YfX (n:=7) rfl rfl rfl rfl rfl rfl rfl rfl rfl rfl (YdK rfl) (by first | (conv=>lhs;simp only[YdR,Ye6,YdU,Ye3,YdY,YdW,Yea,YdX,Yeb,YdS,YdT,YdZ,kp,ic,ei,kpo,eio]) | rfl) (by first | (conv=>lhs;simp only[YdR,Ye6,YdU,Ye3,YdY,YdW,Yea,YdX,Yeb,YdS,YdT,YdZ,kp,ic,ei,kpo,eio]) | rfl) ?_
 refine Vv9 ?_
 have hpo:=hp.okP hcI
 have hpr:=hp.wf.routes
 obtain⟨c,hcE,hc⟩:∃ c:Nat,within c0 (p.routes.length:Int)=(c:Int)∧c<p.routes.length:=by
   have:=Y03 (a:=c0) (n:=(p.routes.length:Int)) (by omega)
   exact⟨(within c0 (p.routes.length:Int)).toNat,by omega,by omega⟩
 have hpc:OkP ({ p with routes:=(p.routes.set c []) }:Plan):=⟨by show (p.routes.set c []).length≤_;rw[YdQ];exact hpo.routes,fun r hr=>(YeZ hr).elim (hpo.each r) (fun e=>by rw[e];exact Ye1 _),hpo.lock,hpo.ice,hpo.rv,hpo.sv,hpo.iv⟩
 have hau1:CallsV Try.prog 29 [ei I,.agg (kp ({ p with routes:=(p.routes.set c []) }:Plan))] (.int .i64 0):=by
   have:=Y39 I hs _ hpc
   rwa [Y7d hb hcI hp hc] at this
 have hrl:(p.routes.set c []).length=p.routes.length:=YdQ
 have hps:OkP ({ p with routes:=swapE (p.routes.set c []) }:Plan):=⟨by show (swapE (p.routes.set c [])).length≤_;rw[Y04];exact hpc.routes,fun r hr=>hpc.each r ((Y2t (R:=(p.routes.set c [])) (by omega)).mem_iff.1 hr),hpo.lock,hpo.ice,hpo.rv,hpo.sv,hpo.iv⟩
 refine Vf ?_
 first | refine Ygn YfX (n:=7) rfl rfl rfl rfl (by simp) rfl rfl rfl ?_ | refine Ygu YfX (n:=7) rfl rfl (Y08 (by omega)) rfl rfl ?_ | refine YgA YfX (n:=7) rfl rfl rfl rfl (by simp) rfl rfl (YdK rfl) (by first | (conv=>lhs;simp only[YdR,Ye6,YdU,Ye3,YdY,YdW,Yea,YdX,Yeb,YdS,YdT,YdZ,kp,ic,ei,kpo,eio]) | rfl) ?_ | refine YgG YfX (n:=7) rfl rfl (Y08 (by omega)) rfl (YdK rfl) (by first | (conv=>lhs;simp only[YdR,Ye6,YdU,Ye3,YdY,YdW,Yea,YdX,Yeb,YdS,YdT,YdZ,kp,ic,ei,kpo,eio]) | rfl) ?_
 refine GL.callN YfX rfl (Frz.aggc (YfY rfl) Frz.aggn) (Y3J p hpo) rfl rfl (Y7H _ _ _) ?_
 first | refine Ygy YfX (n:=7) rfl rfl rfl rfl rfl rfl rfl (by conv=>lhs;whnf) rfl rfl rfl ?_ | refine Ygx YfX (n:=7) rfl rfl rfl rfl rfl rfl rfl rfl rfl rfl (YdK rfl) (by first | (conv=>lhs;simp only[YdR,Ye6,YdU,Ye3,YdY,YdW,Yea,YdX,Yeb,YdS,YdT,YdZ,kp,ic,ei,kpo,eio]) | rfl) (by first | (conv=>lhs;simp only[YdR,Ye6,YdU,Ye3,YdY,YdW,Yea,YdX,Yeb,YdS,YdT,YdZ,kp,ic,ei,kpo,eio]) | rfl) ?_
 refine VlB ?_
 first | refine Ygd YfX (o:=0) rfl rfl rfl rfl (by conv=>lhs;whnf) ?_ | refine Ygf YfX (o:=0) rfl rfl (by conv=>lhs;whnf) ?_
 first | refine Ygr YfX rfl rfl rfl rfl (by simp) rfl rfl ?_ | refine Ygq YfX rfl rfl (Y08 (by omega)) rfl ?_
 first | refine GL.lenF YfX rfl rfl (Y00 _ _) ?_ | refine GL.lenO YfX rfl rfl rfl rfl ?_ | refine GL.lenN YfX rfl rfl ?_
 refine Yg6 YfX rfl (Frz.aggc (Frz.pure rfl) (Frz.aggc (Frz.pure rfl) Frz.aggn)) (Y0q _ _ (by omega)) rfl rfl (fun _=>rfl) ?_
 refine GL.assign YfX (v:=.int .i64 (c:Int)) (by rw[← hcE];rfl) ?_
 refine Va4 ?_
 first | refine Ygd YfX (o:=0) rfl rfl rfl rfl (by conv=>lhs;whnf) ?_ | refine Ygf YfX (o:=0) rfl rfl (by conv=>lhs;whnf) ?_
 first | refine Ygr YfX rfl rfl rfl rfl (by simp) rfl rfl ?_ | refine Ygq YfX rfl rfl (Y08 (by omega)) rfl ?_
 refine Va ?_
 refine Ygl YfX (sz:=1) (j:=c) rfl rfl rfl rfl rfl rfl rfl rfl (by omega) (by omega) (by omega) ?_
 refine GL.storeM (n:=1) rfl rfl rfl rfl rfl rfl (Y08 (by omega)) (Frz.aggc Frz.nils Frz.aggn) (by simp) rfl rfl (YdK rfl) rfl (Y0M nr _ _ []) rfl ?_
 refine Vi5 ?_
 first | refine Ygn YfX (n:=4) rfl rfl rfl rfl (by simp) rfl rfl rfl ?_ | refine Ygu YfX (n:=4) rfl rfl (Y08 (by omega)) rfl rfl ?_ | refine YgA YfX (n:=4) rfl rfl rfl rfl (by simp) rfl rfl (YdK rfl) (by first | (conv=>lhs;simp only[YdR,Ye6,YdU,Ye3,YdY,YdW,Yea,YdX,Yeb,YdS,YdT,YdZ,kp,ic,ei,kpo,eio]) | rfl) ?_ | refine YgG YfX (n:=4) rfl rfl (Y08 (by omega)) rfl (YdK rfl) (by first | (conv=>lhs;simp only[YdR,Ye6,YdU,Ye3,YdY,YdW,Yea,YdX,Yeb,YdS,YdT,YdZ,kp,ic,ei,kpo,eio]) | rfl) ?_
 first | refine Ygn YfX (n:=7) rfl rfl rfl rfl (by simp) rfl rfl rfl ?_ | refine Ygu YfX (n:=7) rfl rfl (Y08 (by omega)) rfl rfl ?_ | refine YgA YfX (n:=7) rfl rfl rfl rfl (by simp) rfl rfl (YdK rfl) (by first | (conv=>lhs;simp only[YdR,Ye6,YdU,Ye3,YdY,YdW,Yea,YdX,Yeb,YdS,YdT,YdZ,kp,ic,ei,kpo,eio]) | rfl) ?_ | refine YgG YfX (n:=7) rfl rfl (Y08 (by omega)) rfl (YdK rfl) (by first | (conv=>lhs;simp only[YdR,Ye6,YdU,Ye3,YdY,YdW,Yea,YdX,Yeb,YdS,YdT,YdZ,kp,ic,ei,kpo,eio]) | rfl) ?_
 refine GL.callFl YfX rfl (Frz.aggc (by first | exact YfY rfl | exact (Frz.aggc (by first | exact Frz.pure rfl | exact Frz.nils | exact Yg5 rfl rfl rfl rfl (by first | exact Y00 _ _ | (rw[Y00];first | omega | (rw[Y04];exact YdQ) | (simp;done)))) (Frz.aggc (by first | exact Frz.pure rfl | exact Frz.nils | exact Yg5 rfl rfl rfl rfl (by first | exact Y00 _ _ | (rw[Y00];first | omega | (rw[Y04];exact YdQ) | (simp;done)))) (Frz.aggc (by first | exact Frz.pure rfl | exact Frz.nils | exact Yg5 rfl rfl rfl rfl (by first | exact Y00 _ _ | (rw[Y00];first | omega | (rw[Y04];exact YdQ) | (simp;done)))) (Frz.aggc (by first | exact Frz.pure rfl | exact Frz.nils | exact Yg5 rfl rfl rfl rfl (by first | exact Y00 _ _ | (rw[Y00];first | omega | (rw[Y04];exact YdQ) | (simp;done)))) Frz.aggn))))) (Frz.aggc (by first | exact YfY rfl | exact (Frz.aggc (by first | exact Frz.pure rfl | exact Frz.nils | exact Yg5 rfl rfl rfl rfl (by first | exact Y00 _ _ | (rw[Y00];first | omega | (rw[Y04];exact YdQ) | (simp;done)))) (Frz.aggc (by first | exact Frz.pure rfl | exact Frz.nils | exact Yg5 rfl rfl rfl rfl (by first | exact Y00 _ _ | (rw[Y00];first | omega | (rw[Y04];exact YdQ) | (simp;done)))) (Frz.aggc (by first | exact Frz.pure rfl | exact Frz.nils | exact Yg5 rfl rfl rfl rfl (by first | exact Y00 _ _ | (rw[Y00];first | omega | (rw[Y04];exact YdQ) | (simp;done)))) (Frz.aggc (by first | exact Frz.pure rfl | exact Frz.nils | exact Yg5 rfl rfl rfl rfl (by first | exact Y00 _ _ | (rw[Y00];first | omega | (rw[Y04];exact YdQ) | (simp;done)))) (Frz.aggc (by first | exact Frz.pure rfl | exact Frz.nils | exact Yg5 rfl rfl rfl rfl (by first | exact Y00 _ _ | (rw[Y00];first | omega | (rw[Y04];exact YdQ) | (simp;done)))) (Frz.aggc (by first | exact Frz.pure rfl | exact Frz.nils | exact Yg5 rfl rfl rfl rfl (by first | exact Y00 _ _ | (rw[Y00];first | omega | (rw[Y04];exact YdQ) | (simp;done)))) (Frz.aggc (by first | exact Frz.pure rfl | exact Frz.nils | exact Yg5 rfl rfl rfl rfl (by first | exact Y00 _ _ | (rw[Y00];first | omega | (rw[Y04];exact YdQ) | (simp;done)))) Frz.aggn)))))))) Frz.aggn)) (hau1) (FlatI.sca rfl) rfl rfl ?_
 refine GL.bin YfX (v:=.bool false) rfl ?_
 refine Vj0 ?_
 refine Vw1 ?_
 refine Vu1 ?_
 refine GL.callN YfX rfl (Frz.aggc (Frz.pure rfl) Frz.aggn) hiw rfl rfl (YcX _ _ _) ?_
 refine VzD ?_
 intro g10
 first | refine Ygy YfX (n:=4) rfl rfl rfl rfl rfl rfl rfl (by conv=>lhs;whnf) rfl rfl rfl ?_ | refine Ygx YfX (n:=4) rfl rfl rfl rfl rfl rfl rfl rfl rfl rfl (YdK rfl) (by first | (conv=>lhs;simp only[YdR,Ye6,YdU,Ye3,YdY,YdW,Yea,YdX,Yeb,YdS,YdT,YdZ,kp,ic,ei,kpo,eio]) | rfl) (by first | (conv=>lhs;simp only[YdR,Ye6,YdU,Ye3,YdY,YdW,Yea,YdX,Yeb,YdS,YdT,YdZ,kp,ic,ei,kpo,eio]) | rfl) ?_
 refine Vi5 ?_
 first | refine Ygd YfX (o:=0) rfl rfl rfl rfl (by conv=>lhs;whnf) ?_ | refine Ygf YfX (o:=0) rfl rfl (by conv=>lhs;whnf) ?_
 first | refine Ygr YfX rfl rfl rfl rfl (by simp) rfl rfl ?_ | refine Ygq YfX rfl rfl (Y08 (by omega)) rfl ?_
 first | refine GL.lenF YfX rfl rfl (Y00 _ _) ?_ | refine GL.lenO YfX rfl rfl rfl rfl ?_ | refine GL.lenN YfX rfl rfl ?_
 refine Vj7 ?_
 refine Yg8 YfX (α:=Nat × List Car) (fun ⟨k,C⟩ st=>(k≤I.cars.length∧C.length=I.cars.length∧∀ j,j<k→C.getD j default=carX)∧∃ m0,st=⟨(updS (updS (updS (updS (updS (fun _=>LV.undef) 7 (.ref 448 g7 0 0)) 8 (.ref 512 g8 0 0)) 10 (.ref 640 g10 0 0)) 41 (.int .i64 (I.cars.length:Int))) 42 (.int .i64 (k:Int))),effM m0 [(448,⟨g7,false,.var,4,[ic I]⟩),(512,⟨g8,false,.var,7,[[.own 1472 0 0 p.routes.length none,.own 1473 0 0 p.lock.length none,.own 1474 0 0 p.ice.length none,.own 1475 0 0 p.rv.length none,.own 1476 0 0 p.sv.length none,.own 1477 0 0 p.iv.length none,.int .i64 p.pv]]⟩),(1472,⟨0,false,.slc,1,em nr (p.routes.set c [])⟩),(1473,⟨0,false,.slc,1,em ni p.lock⟩),(1474,⟨0,false,.slc,1,em ni p.ice⟩),(1475,⟨0,false,.slc,1,em ni p.rv⟩),(1476,⟨0,false,.slc,1,em ni p.sv⟩),(1477,⟨0,false,.slc,1,em ni p.iv⟩),(640,⟨g10,false,.var,4,[[.own 2432 0 0 I.cars.length none,.own 2433 0 0 I.stops.length none,.own 2434 0 0 I.pairs.length none,.own 2435 0 0 I.travel.length none]]⟩),(2432,⟨0,false,.slc,3,em nc C⟩),(2433,⟨0,false,.slc,4,em ns I.stops⟩),(2434,⟨0,false,.slc,2,em np I.pairs⟩),(2435,⟨0,false,.slc,1,em nr I.travel⟩)]⟩) (fun ⟨k,C⟩=>I.cars.length - k) ⟨0,I.cars⟩ ⟨_,lessA,⟨Ye1 _,rfl,fun j hj=>absurd hj (Yfs _)⟩,_,hasA⟩ ?_
 rintro⟨k,C⟩ _ ⟨⟨hk,hCl,hCx⟩,m0,rfl⟩
 refine Vd ?_
 refine Ygb rfl (fun h43=>?_) (fun h43=>?_)
 first | replace h43:=of_decide_eq_true h43 | replace h43:=Y0H h43 | skip
 refine Vk2 ?_
 refine Vy ?_
 refine Vf ?_
 first | refine Ygd YfX (o:=0) rfl rfl rfl rfl (by conv=>lhs;whnf) ?_ | refine Ygf YfX (o:=0) rfl rfl (by conv=>lhs;whnf) ?_
 first | refine Ygr YfX rfl rfl rfl rfl (by simp) rfl rfl ?_ | refine Ygq YfX rfl rfl (Y08 (by omega)) rfl ?_
 refine Va ?_
 refine Ygt YfX (z:=[LV.int .i64 0,LV.int .i64 0,LV.int .i64 0]) (cs:=[_,_,_]) (n:=3) rfl rfl rfl (EvS.cons (by conv=>lhs;whnf) (EvS.cons (by conv=>lhs;whnf) (EvS.nil))) rfl rfl ?_
 refine Ygl YfX (sz:=3) (j:=k) rfl rfl rfl rfl rfl rfl rfl rfl (by omega) (by omega) (by omega) ?_
 refine Ygs YfX (n:=3) rfl rfl rfl rfl rfl rfl (Y08 (by omega)) rfl rfl rfl rfl (YdK rfl) rfl (Y0M nc _ _ carX) ?_
 refine Vq0 ?_
 refine VbN ?_
 first | refine GL.addR YfX rfl rfl (by first | omega | assumption) ?_ | refine GL.bin YfX rfl ?_
 refine Vd5 ?_
 refine⟨⟨k+1,_⟩,(by dsimp only;omega),_,(YfZ (YfV (YfV (YfV (YfV (YfV (Yg0 _) rfl) rfl) rfl) rfl) rfl) _),⟨by omega,by rw[YdQ];exact hCl,fun j hj=>by rw[Y0R _ _ _ _ (by omega)];split <;> first | rfl | exact hCx j (by omega)⟩,_,(congrArg (St.mk _) (Y01 (YfW rfl (YfW rfl (YfW rfl (YfW rfl (YfW rfl (YfW rfl (YfW rfl (YfW rfl (YfW rfl (YfW rfl (YfW rfl (YfW rfl (YfW rfl Yg3)))))))))))))).symm)⟩
 first | replace h43:=of_decide_eq_false h43 | replace h43:=Y0s h43 | skip
 refine Vr1 ?_
 first | refine Ygd YfX (o:=1) rfl rfl rfl rfl (by conv=>lhs;whnf) ?_ | refine Ygf YfX (o:=1) rfl rfl (by conv=>lhs;whnf) ?_
 first | refine Ygr YfX rfl rfl rfl rfl (by simp) rfl rfl ?_ | refine Ygq YfX rfl rfl (Y08 (by omega)) rfl ?_
 first | refine GL.lenF YfX rfl rfl (Y00 _ _) ?_ | refine GL.lenO YfX rfl rfl rfl rfl ?_ | refine GL.lenN YfX rfl rfl ?_
 refine Vj7 ?_
 refine Yg8 YfX (α:=Nat × List Stop) (fun ⟨k,S⟩ st=>(S.length=I.stops.length)∧∃ m0,st=⟨(updS (updS (updS (updS (updS (fun _=>LV.undef) 7 (.ref 448 g7 0 0)) 8 (.ref 512 g8 0 0)) 10 (.ref 640 g10 0 0)) 53 (.int .i64 (I.stops.length:Int))) 54 (.int .i64 (k:Int))),effM m0 [(448,⟨g7,false,.var,4,[ic I]⟩),(512,⟨g8,false,.var,7,[[.own 1472 0 0 p.routes.length none,.own 1473 0 0 p.lock.length none,.own 1474 0 0 p.ice.length none,.own 1475 0 0 p.rv.length none,.own 1476 0 0 p.sv.length none,.own 1477 0 0 p.iv.length none,.int .i64 p.pv]]⟩),(1472,⟨0,false,.slc,1,em nr (p.routes.set c [])⟩),(1473,⟨0,false,.slc,1,em ni p.lock⟩),(1474,⟨0,false,.slc,1,em ni p.ice⟩),(1475,⟨0,false,.slc,1,em ni p.rv⟩),(1476,⟨0,false,.slc,1,em ni p.sv⟩),(1477,⟨0,false,.slc,1,em ni p.iv⟩),(640,⟨g10,false,.var,4,[[.own 2432 0 0 I.cars.length none,.own 2433 0 0 I.stops.length none,.own 2434 0 0 I.pairs.length none,.own 2435 0 0 I.travel.length none]]⟩),(2432,⟨0,false,.slc,3,em nc C⟩),(2433,⟨0,false,.slc,4,em ns S⟩),(2434,⟨0,false,.slc,2,em np I.pairs⟩),(2435,⟨0,false,.slc,1,em nr I.travel⟩)]⟩) (fun ⟨k,S⟩=>I.stops.length - k) ⟨0,I.stops⟩ ⟨_,lessA,rfl,_,hasA⟩ ?_
 rintro⟨k,S⟩ _ ⟨hSl,m0,rfl⟩
 have hCx:∀ j,j<I.cars.length→C.getD j default=carX:=fun j hj=>hCx j (by omega)
 refine Vd ?_
 refine Ygb rfl (fun h55=>?_) (fun h55=>?_)
 first | replace h55:=of_decide_eq_true h55 | replace h55:=Y0H h55 | skip
 refine Vk2 ?_
 refine Vy ?_
 refine Vf ?_
 first | refine Ygd YfX (o:=1) rfl rfl rfl rfl (by conv=>lhs;whnf) ?_ | refine Ygf YfX (o:=1) rfl rfl (by conv=>lhs;whnf) ?_
 first | refine Ygr YfX rfl rfl rfl rfl (by simp) rfl rfl ?_ | refine Ygq YfX rfl rfl (Y08 (by omega)) rfl ?_
 refine Va ?_
 refine Ygl YfX (sz:=4) (j:=k) rfl rfl rfl rfl rfl rfl rfl rfl (by omega) (by omega) (by omega) ?_
 first | refine Ygd YfX (o:=2) rfl rfl rfl rfl (by conv=>lhs;whnf) ?_ | refine Ygf YfX (o:=2) rfl rfl (by conv=>lhs;whnf) ?_
 refine Ygs YfX (n:=1) rfl rfl rfl rfl rfl rfl (Y08 (by omega)) rfl rfl rfl rfl (YdK rfl) rfl (Y0M ns _ _ { (S.getD k default) with s2:=1000 }) ?_
 refine Vq0 ?_
 refine VbN ?_
 first | refine GL.addR YfX rfl rfl (by first | omega | assumption) ?_ | refine GL.bin YfX rfl ?_
 refine Vd5 ?_
 refine⟨⟨k+1,_⟩,(by dsimp only;omega),_,(YfZ (YfV (YfV (YfV (YfV (YfV (Yg0 _) rfl) rfl) rfl) rfl) rfl) _),(by rw[YdQ];exact hSl),_,(congrArg (St.mk _) (Y01 (YfW rfl (YfW rfl (YfW rfl (YfW rfl (YfW rfl (YfW rfl (YfW rfl (YfW rfl (YfW rfl (YfW rfl (YfW rfl (YfW rfl (YfW rfl Yg3)))))))))))))).symm)⟩
 first | replace h55:=of_decide_eq_false h55 | replace h55:=Y0s h55 | skip
 refine VrA ?_
 have hJs:(⟨C,S,I.pairs,I.travel⟩:Inst).Short:=⟨by have:=hs.cars;unfold Short at this ⊢;show C.length<_;rw[hCl];exact this,by have:=hs.stops;unfold Short at this ⊢;show S.length<_;rw[hSl];exact this,hs.pairs,hs.travel,hs.rows⟩
 have hsw:auditC (⟨C,S,I.pairs,I.travel⟩:Inst) ({ p with routes:=swapE (p.routes.set c []) }:Plan)=auditC (⟨C,S,I.pairs,I.travel⟩:Inst) ({ p with routes:=(p.routes.set c []) }:Plan):=Y8Y (j:=(⟨C,S,I.pairs,I.travel⟩:Inst)) (fun a b ha hb=>by show C.getD a default=C.getD b default;rw[hCx a (by show a<I.cars.length;have:a<C.length:=ha;omega),hCx b (by have:b<C.length:=hb;omega)]) ({ p with routes:=(p.routes.set c []) }:Plan) (by show 0<(p.routes.set c []).length;omega)
 refine Vf ?_
 first | refine Ygn YfX (n:=4) rfl rfl rfl rfl (by simp) rfl rfl rfl ?_ | refine Ygu YfX (n:=4) rfl rfl (Y08 (by omega)) rfl rfl ?_ | refine YgA YfX (n:=4) rfl rfl rfl rfl (by simp) rfl rfl (YdK rfl) (by first | (conv=>lhs;simp only[YdR,Ye6,YdU,Ye3,YdY,YdW,Yea,YdX,Yeb,YdS,YdT,YdZ,kp,ic,ei,kpo,eio]) | rfl) ?_ | refine YgG YfX (n:=4) rfl rfl (Y08 (by omega)) rfl (YdK rfl) (by first | (conv=>lhs;simp only[YdR,Ye6,YdU,Ye3,YdY,YdW,Yea,YdX,Yeb,YdS,YdT,YdZ,kp,ic,ei,kpo,eio]) | rfl) ?_
 first | refine Ygn YfX (n:=7) rfl rfl rfl rfl (by simp) rfl rfl rfl ?_ | refine Ygu YfX (n:=7) rfl rfl (Y08 (by omega)) rfl rfl ?_ | refine YgA YfX (n:=7) rfl rfl rfl rfl (by simp) rfl rfl (YdK rfl) (by first | (conv=>lhs;simp only[YdR,Ye6,YdU,Ye3,YdY,YdW,Yea,YdX,Yeb,YdS,YdT,YdZ,kp,ic,ei,kpo,eio]) | rfl) ?_ | refine YgG YfX (n:=7) rfl rfl (Y08 (by omega)) rfl (YdK rfl) (by first | (conv=>lhs;simp only[YdR,Ye6,YdU,Ye3,YdY,YdW,Yea,YdX,Yeb,YdS,YdT,YdZ,kp,ic,ei,kpo,eio]) | rfl) ?_
 refine GL.callFl YfX rfl (Frz.aggc (by first | exact YfY rfl | exact (Frz.aggc (by first | exact Frz.pure rfl | exact Frz.nils | exact Yg5 rfl rfl rfl rfl (by first | exact Y00 _ _ | (rw[Y00];first | omega | (rw[Y04];exact YdQ) | (simp;done)))) (Frz.aggc (by first | exact Frz.pure rfl | exact Frz.nils | exact Yg5 rfl rfl rfl rfl (by first | exact Y00 _ _ | (rw[Y00];first | omega | (rw[Y04];exact YdQ) | (simp;done)))) (Frz.aggc (by first | exact Frz.pure rfl | exact Frz.nils | exact Yg5 rfl rfl rfl rfl (by first | exact Y00 _ _ | (rw[Y00];first | omega | (rw[Y04];exact YdQ) | (simp;done)))) (Frz.aggc (by first | exact Frz.pure rfl | exact Frz.nils | exact Yg5 rfl rfl rfl rfl (by first | exact Y00 _ _ | (rw[Y00];first | omega | (rw[Y04];exact YdQ) | (simp;done)))) Frz.aggn))))) (Frz.aggc (by first | exact YfY rfl | exact (Frz.aggc (by first | exact Frz.pure rfl | exact Frz.nils | exact Yg5 rfl rfl rfl rfl (by first | exact Y00 _ _ | (rw[Y00];first | omega | (rw[Y04];exact YdQ) | (simp;done)))) (Frz.aggc (by first | exact Frz.pure rfl | exact Frz.nils | exact Yg5 rfl rfl rfl rfl (by first | exact Y00 _ _ | (rw[Y00];first | omega | (rw[Y04];exact YdQ) | (simp;done)))) (Frz.aggc (by first | exact Frz.pure rfl | exact Frz.nils | exact Yg5 rfl rfl rfl rfl (by first | exact Y00 _ _ | (rw[Y00];first | omega | (rw[Y04];exact YdQ) | (simp;done)))) (Frz.aggc (by first | exact Frz.pure rfl | exact Frz.nils | exact Yg5 rfl rfl rfl rfl (by first | exact Y00 _ _ | (rw[Y00];first | omega | (rw[Y04];exact YdQ) | (simp;done)))) (Frz.aggc (by first | exact Frz.pure rfl | exact Frz.nils | exact Yg5 rfl rfl rfl rfl (by first | exact Y00 _ _ | (rw[Y00];first | omega | (rw[Y04];exact YdQ) | (simp;done)))) (Frz.aggc (by first | exact Frz.pure rfl | exact Frz.nils | exact Yg5 rfl rfl rfl rfl (by first | exact Y00 _ _ | (rw[Y00];first | omega | (rw[Y04];exact YdQ) | (simp;done)))) (Frz.aggc (by first | exact Frz.pure rfl | exact Frz.nils | exact Yg5 rfl rfl rfl rfl (by first | exact Y00 _ _ | (rw[Y00];first | omega | (rw[Y04];exact YdQ) | (simp;done)))) Frz.aggn)))))))) Frz.aggn)) (Y39 (⟨C,S,I.pairs,I.travel⟩:Inst) hJs ({ p with routes:=(p.routes.set c []) }:Plan) hpc) (FlatI.sca rfl) rfl rfl ?_
 refine Vv9 ?_
 ·refine Wp.regAlt 6 21 (fun k=>List.getD [0,1,2,3,4,5,8,9,10,11,12,13,14,15,16,17,18,19,20,21,6,7,22,23] k 0) (fun k=>List.getD [0,1,2,3,4,5,20,21,6,7,8,9,10,11,12,13,14,15,16,17,18,19,22,23] k 0) (by decide) (by decide) (by decide) (by kernel_rfl) (by kernel_rfl) ?_ ?_
  first | refine Ygd YfX (o:=0) rfl rfl rfl rfl (by conv=>lhs;whnf) ?_ | refine Ygf YfX (o:=0) rfl rfl (by conv=>lhs;whnf) ?_
  first | refine Ygr YfX rfl rfl rfl rfl (by simp) rfl rfl ?_ | refine Ygq YfX rfl rfl (Y08 (by omega)) rfl ?_
  first | refine Ygd YfX (o:=0) rfl rfl rfl rfl (by conv=>lhs;whnf) ?_ | refine Ygf YfX (o:=0) rfl rfl (by conv=>lhs;whnf) ?_
  first | refine Ygr YfX rfl rfl rfl rfl (by simp) rfl rfl ?_ | refine Ygq YfX rfl rfl (Y08 (by omega)) rfl ?_
  first | refine Ygd YfX (o:=0) rfl rfl rfl rfl (by conv=>lhs;whnf) ?_ | refine Ygf YfX (o:=0) rfl rfl (by conv=>lhs;whnf) ?_
  first | refine Ygr YfX rfl rfl rfl rfl (by simp) rfl rfl ?_ | refine Ygq YfX rfl rfl (Y08 (by omega)) rfl ?_
  first | refine GL.lenF YfX rfl rfl (Y00 _ _) ?_ | refine GL.lenO YfX rfl rfl rfl rfl ?_ | refine GL.lenN YfX rfl rfl ?_
  first | refine GL.subR YfX rfl rfl (by first | omega | assumption) ?_ | refine GL.bin YfX rfl ?_
  first | refine Ygd YfX (o:=0) rfl rfl rfl rfl (by conv=>lhs;whnf) ?_ | refine Ygf YfX (o:=0) rfl rfl (by conv=>lhs;whnf) ?_
  first | refine Ygr YfX rfl rfl rfl rfl (by simp) rfl rfl ?_ | refine Ygq YfX rfl rfl (Y08 (by omega)) rfl ?_
  first | refine Ygd YfX (o:=0) rfl rfl rfl rfl (by conv=>lhs;whnf) ?_ | refine Ygf YfX (o:=0) rfl rfl (by conv=>lhs;whnf) ?_
  first | refine Ygr YfX rfl rfl rfl rfl (by simp) rfl rfl ?_ | refine Ygq YfX rfl rfl (Y08 (by omega)) rfl ?_
  first | refine GL.lenF YfX rfl rfl (Y00 _ _) ?_ | refine GL.lenO YfX rfl rfl rfl rfl ?_ | refine GL.lenN YfX rfl rfl ?_
  first | refine GL.subR YfX rfl rfl (by first | omega | assumption) ?_ | refine GL.bin YfX rfl ?_
  refine VuH ?_
  refine Vf8 ?_
  first | refine Ygd YfX (o:=0) rfl rfl rfl rfl (by conv=>lhs;whnf) ?_ | refine Ygf YfX (o:=0) rfl rfl (by conv=>lhs;whnf) ?_
  first | refine Ygr YfX rfl rfl rfl rfl (by simp) rfl rfl ?_ | refine Ygq YfX rfl rfl (Y08 (by omega)) rfl ?_
  refine VaG ?_
  refine Vf8 ?_
  refine VaG ?_
  refine VaN ?_
  rotate_left
  first | refine Ygd YfX (o:=0) rfl rfl rfl rfl (by conv=>lhs;whnf) ?_ | refine Ygf YfX (o:=0) rfl rfl (by conv=>lhs;whnf) ?_
  first | refine Ygr YfX rfl rfl rfl rfl (by simp) rfl rfl ?_ | refine Ygq YfX rfl rfl (Y08 (by omega)) rfl ?_
  first | refine Ygd YfX (o:=0) rfl rfl rfl rfl (by conv=>lhs;whnf) ?_ | refine Ygf YfX (o:=0) rfl rfl (by conv=>lhs;whnf) ?_
  first | refine Ygr YfX rfl rfl rfl rfl (by simp) rfl rfl ?_ | refine Ygq YfX rfl rfl (Y08 (by omega)) rfl ?_
  first | refine Ygd YfX (o:=0) rfl rfl rfl rfl (by conv=>lhs;whnf) ?_ | refine Ygf YfX (o:=0) rfl rfl (by conv=>lhs;whnf) ?_
  first | refine Ygr YfX rfl rfl rfl rfl (by simp) rfl rfl ?_ | refine Ygq YfX rfl rfl (Y08 (by omega)) rfl ?_
  first | refine Ygd YfX (o:=0) rfl rfl rfl rfl (by conv=>lhs;whnf) ?_ | refine Ygf YfX (o:=0) rfl rfl (by conv=>lhs;whnf) ?_
  first | refine Ygr YfX rfl rfl rfl rfl (by simp) rfl rfl ?_ | refine Ygq YfX rfl rfl (Y08 (by omega)) rfl ?_
  first | refine Ygd YfX (o:=0) rfl rfl rfl rfl (by conv=>lhs;whnf) ?_ | refine Ygf YfX (o:=0) rfl rfl (by conv=>lhs;whnf) ?_
  first | refine Ygr YfX rfl rfl rfl rfl (by simp) rfl rfl ?_ | refine Ygq YfX rfl rfl (Y08 (by omega)) rfl ?_
  first | refine GL.lenF YfX rfl rfl (Y00 _ _) ?_ | refine GL.lenO YfX rfl rfl rfl rfl ?_ | refine GL.lenN YfX rfl rfl ?_
  first | refine GL.subR YfX rfl rfl (by first | omega | assumption) ?_ | refine GL.bin YfX rfl ?_
  refine VuH ?_
  refine Vf8 ?_
  first | refine Ygd YfX (o:=0) rfl rfl rfl rfl (by conv=>lhs;whnf) ?_ | refine Ygf YfX (o:=0) rfl rfl (by conv=>lhs;whnf) ?_
  first | refine Ygr YfX rfl rfl rfl rfl (by simp) rfl rfl ?_ | refine Ygq YfX rfl rfl (Y08 (by omega)) rfl ?_
  refine VaG ?_
  refine Vf8 ?_
  refine VaG ?_
  refine VaN ?_
  first | refine GL.lenF YfX rfl rfl (Y00 _ _) ?_ | refine GL.lenO YfX rfl rfl rfl rfl ?_ | refine GL.lenN YfX rfl rfl ?_
  first | refine GL.subR YfX rfl rfl (by first | omega | assumption) ?_ | refine GL.bin YfX rfl ?_
  all_goals
   refine VuH ?_
   refine Ygs YfX (n:=1) rfl rfl rfl rfl rfl rfl (Y08 (by simp only[YdQ];omega)) rfl rfl rfl rfl (YdK rfl) rfl (Y0M nr _ _ ((p.routes.set c []).getD 0 default)) ?_
   refine Vx0 ?_
   refine Vc ?_
   first | refine Ygn YfX (n:=4) rfl rfl rfl rfl (by simp) rfl rfl rfl ?_ | refine Ygu YfX (n:=4) rfl rfl (Y08 (by omega)) rfl rfl ?_ | refine YgA YfX (n:=4) rfl rfl rfl rfl (by simp) rfl rfl (YdK rfl) (by first | (conv=>lhs;simp only[YdR,Ye6,YdU,Ye3,YdY,YdW,Yea,YdX,Yeb,YdS,YdT,YdZ,kp,ic,ei,kpo,eio]) | rfl) ?_ | refine YgG YfX (n:=4) rfl rfl (Y08 (by omega)) rfl (YdK rfl) (by first | (conv=>lhs;simp only[YdR,Ye6,YdU,Ye3,YdY,YdW,Yea,YdX,Yeb,YdS,YdT,YdZ,kp,ic,ei,kpo,eio]) | rfl) ?_
   first | refine Ygn YfX (n:=7) rfl rfl rfl rfl (by simp) rfl rfl rfl ?_ | refine Ygu YfX (n:=7) rfl rfl (Y08 (by omega)) rfl rfl ?_ | refine YgA YfX (n:=7) rfl rfl rfl rfl (by simp) rfl rfl (YdK rfl) (by first | (conv=>lhs;simp only[YdR,Ye6,YdU,Ye3,YdY,YdW,Yea,YdX,Yeb,YdS,YdT,YdZ,kp,ic,ei,kpo,eio]) | rfl) ?_ | refine YgG YfX (n:=7) rfl rfl (Y08 (by omega)) rfl (YdK rfl) (by first | (conv=>lhs;simp only[YdR,Ye6,YdU,Ye3,YdY,YdW,Yea,YdX,Yeb,YdS,YdT,YdZ,kp,ic,ei,kpo,eio]) | rfl) ?_
   refine GL.callFl YfX rfl (Frz.aggc (by first | exact YfY rfl | exact (Frz.aggc (by first | exact Frz.pure rfl | exact Frz.nils | exact Yg5 rfl rfl rfl rfl (by first | exact Y00 _ _ | (rw[Y00];first | omega | (rw[Y04];exact YdQ) | (simp;done)))) (Frz.aggc (by first | exact Frz.pure rfl | exact Frz.nils | exact Yg5 rfl rfl rfl rfl (by first | exact Y00 _ _ | (rw[Y00];first | omega | (rw[Y04];exact YdQ) | (simp;done)))) (Frz.aggc (by first | exact Frz.pure rfl | exact Frz.nils | exact Yg5 rfl rfl rfl rfl (by first | exact Y00 _ _ | (rw[Y00];first | omega | (rw[Y04];exact YdQ) | (simp;done)))) (Frz.aggc (by first | exact Frz.pure rfl | exact Frz.nils | exact Yg5 rfl rfl rfl rfl (by first | exact Y00 _ _ | (rw[Y00];first | omega | (rw[Y04];exact YdQ) | (simp;done)))) Frz.aggn))))) (Frz.aggc (by first | exact YfY rfl | exact (Frz.aggc (by first | exact Frz.pure rfl | exact Frz.nils | exact Yg5 rfl rfl rfl rfl (by first | exact Y00 _ _ | (rw[Y00];first | omega | (rw[Y04];exact YdQ) | (simp;done)))) (Frz.aggc (by first | exact Frz.pure rfl | exact Frz.nils | exact Yg5 rfl rfl rfl rfl (by first | exact Y00 _ _ | (rw[Y00];first | omega | (rw[Y04];exact YdQ) | (simp;done)))) (Frz.aggc (by first | exact Frz.pure rfl | exact Frz.nils | exact Yg5 rfl rfl rfl rfl (by first | exact Y00 _ _ | (rw[Y00];first | omega | (rw[Y04];exact YdQ) | (simp;done)))) (Frz.aggc (by first | exact Frz.pure rfl | exact Frz.nils | exact Yg5 rfl rfl rfl rfl (by first | exact Y00 _ _ | (rw[Y00];first | omega | (rw[Y04];exact YdQ) | (simp;done)))) (Frz.aggc (by first | exact Frz.pure rfl | exact Frz.nils | exact Yg5 rfl rfl rfl rfl (by first | exact Y00 _ _ | (rw[Y00];first | omega | (rw[Y04];exact YdQ) | (simp;done)))) (Frz.aggc (by first | exact Frz.pure rfl | exact Frz.nils | exact Yg5 rfl rfl rfl rfl (by first | exact Y00 _ _ | (rw[Y00];first | omega | (rw[Y04];exact YdQ) | (simp;done)))) (Frz.aggc (by first | exact Frz.pure rfl | exact Frz.nils | exact Yg5 rfl rfl rfl rfl (by first | exact Y00 _ _ | (rw[Y00];first | omega | (rw[Y04];exact YdQ) | (simp;done)))) Frz.aggn)))))))) Frz.aggn)) (Y39 (⟨C,S,I.pairs,I.travel⟩:Inst) hJs ({ p with routes:=swapE (p.routes.set c []) }:Plan) hps) (FlatI.sca rfl) rfl rfl ?_
   refine Va ?_
   refine GL.bin YfX (v:=.bool true) (by rw[hsw];exact congrArg (fun b=>some (LV.bool b)) (beq_self_eq_true _)) ?_
   refine Va ?_
   refine Vb ?_
   refine Yg6 YfX rfl (Frz.aggn) (Y91) rfl rfl (fun _=>rfl) ?_
   refine Vd2 ?_
   rfl
end Go.Proofs.Ytoadnomjbibcgaa
