/- The walks of the program, part B. -/
import Derived.Test.YtoadnomjbibcgaaProg
import Derived.KernelRfl
import Derived.Test.YtoadnomjbibcgaaWA
set_option linter.all false
set_option maxRecDepth 100000
set_option maxHeartbeats 4000000
namespace Go.Proofs.Ytoadnomjbibcgaa
open Go.Proofs Mv
def lookP (p:Plan)(keys:List SKey): List (SKey × Int):=keys.foldl (fun L k=>putV k (versP p k) L) []
theorem Y8S (p:Plan){l:List SKey}{i:Nat}(h:i<l.length): lookP p (l.take (i+1))=putV (l.getD i default) (versP p (l.getD i default)) (lookP p (l.take i)):=by
 rw[Y0a h,lookP,YeG]
 rfl
def stillB (p:Plan)(L:List (SKey × Int)): Bool:=L.all fun e=>decide (versP p e.1=e.2)
theorem Y8T {p:Plan}{R:List (SKey × Int)}{j:Nat}{e:SKey × Int}(h:R[j]?=some e)(he:versP p e.1=e.2): stillB p R=stillB p (R.eraseIdx j):=by
 rw[stillB,← (Y0U h).all_eq,Yfa,decide_eq_true he,YfL]
 rfl
theorem YbE {p:Plan}{R:List (SKey × Int)}{j:Nat}{e:SKey × Int}(h:R[j]?=some e)(he:¬ versP p e.1=e.2): stillB p R=false:=by
 rw[stillB,← (Y0U h).all_eq,Yfa,decide_eq_false he,Yf5]
theorem YaY (p:Plan)(hp:OkP p)(l:List SKey)(hl:l.length≤100000000): CallsV Try.prog 100 [.agg (kp p),.sl (em kk l)] (.fmap (em kv (lookP p l))):=by
 refine Yg2 (Yga _) mix Try.func100 rfl rfl (by simp[Try.f100]) (by kernel_rfl) (nb:=0) ?_
 unfold Try.f100
 refine Vc ?_
 refine Vo ?_
 intro g2
 refine Vn ?_
 refine Vv1 ?_
 intro g8
 refine Vp8 ?_
 refine Yg8 YfX (α:=Nat) (fun i st=>(i≤l.length)∧∃ m0,st=⟨(updS (updS (updS (updS (updS (fun _=>LV.undef) 2 (.ref 128 g2 0 0)) 5 (.mref 512 g8)) 9 (.sl (em kk l))) 10 (.int .i64 (l.length:Int))) 11 (.int .i64 (i:Int))),effM m0 [(128,⟨g2,false,.var,7,[kp p]⟩),(512,⟨g8,false,.mp,2,em kv (lookP p (l.take i))⟩)]⟩) (fun i=>l.length - i) 0 ⟨_,lessA,Ye1 _,_,hasA⟩ ?_
 rintro i _ ⟨hi,m0,rfl⟩
 refine Vd ?_
 refine cD (fun h12=>?_) fun h12=>?_
 refine VdA ?_
 intro g7
 refine Vc6 ?_
 refine Vj0 ?_
 refine Vi0 ?_
 refine Va ?_
 refine VuD ?_
 refine Vg1 ?_
 refine VuD ?_
 refine VnK ?_
 refine GL.putKV YfX (k:=l.getD i default) rfl Y6n rfl rfl rfl rfl rfl rfl rfl rfl rfl ?_
 refine Vs5 ?_
 rw[← Y8S p (l:=l) (i:=i) (by omega)]
 refine⟨i+1,(by dsimp only;omega),_,lessA,(by omega),_,hasA⟩
 refine Vb4 ?_
 refine⟨_,_,_,_,.cons (.tmp rfl) .nil,.frz (.mref rfl rfl rfl rfl),Yec,by simp,?_⟩
 show LV.fmap (em kv (lookP p (l.take i)))=_
 rw[YdP (by omega)]
theorem Ybi (p:Plan)(hp:OkP p)(L:List (SKey × Int)): CallsV Try.prog 93 [.agg (kp p),.fmap (em kv L)] (.bool (stillB p L)):=by
 refine Yg2 (Yga _) mix Try.func93 rfl rfl (by simp[Try.f93]) (by kernel_rfl) (nb:=0) ?_
 unfold Try.f93
 refine Vc ?_
 refine Vo ?_
 intro g2
 refine Ve0 ?_
 refine GL.range YfX (T:=[]) rfl (.pure rfl) rfl ?_
 intro g8
 refine Vs2 ?_
 refine Yg8 YfX (α:=List LV × List (SKey × Int)) (fun ⟨h,R⟩ st=>(stillB p L=stillB p R)∧∃ m0,st=⟨(updS (updS (fun _=>LV.undef) 2 (.ref 128 g2 0 0)) 8 (.mref 512 g8)),effM m0 [(128,⟨g2,false,.var,7,[kp p]⟩),(512,⟨g8,false,.mp,3,h::em kv R⟩)]⟩) (fun ⟨h,R⟩=>R.length) ⟨_,L⟩ ⟨_,(YfZ (YfV (YfV (Yg0 _) rfl) rfl) _),rfl,_,(congrArg (St.mk _) (Y01 (YfW rfl (YfW rfl Yg3))).symm)⟩ ?_
 rintro⟨h,R⟩ _ ⟨hA,m0,rfl⟩
 refine Ve ?_
 rcases Yfm R.length with hz | hz
 refine Vf ?_
 obtain rfl:=Yeo hz
 refine GL.next YfX rfl rfl rfl rfl rfl rfl rfl (fun _=>?_) (fun jm k v hj=>absurd hj (by simp[em]))
 refine Vj4 ?_
 refine Vk6 ?_
 refine Vw1 ?_
 refine Vt1 ?_
 show LV.bool _=LV.bool _
 congr 1
 (rw[hA];rfl)
 refine Vf ?_
 refine GL.next YfX rfl rfl rfl rfl rfl rfl rfl (fun h0=>(YaB hz h0).elim) (fun jm k v hj=>?_)
 obtain⟨n,hR,rfl,rfl⟩:=Ydl hj
 rw[Y2d]
 have hel:=Y1U hR
 refine Vj4 ?_
 refine Vu6 ?_
 refine Vo0 ?_
 refine Vc ?_
 refine VcE ?_
 refine Vj8 ?_
 refine VjG ?_
 intro g5
 refine Vc6 ?_
 refine Vn ?_
 refine Vg1 ?_
 refine VuD ?_
 refine VnK ?_
 refine Vf2 ?_
 refine cB (fun h18=>?_) fun h18=>?_
 refine Vc5 ?_
 refine Vi8 ?_
 refine VyN ?_
 show LV.bool _=LV.bool _
 congr 1
 · (rw[hA,YbE hR (by simpa using h18)];done)
 refine Vw7 ?_
 refine⟨⟨_,R.eraseIdx jm⟩,(by dsimp only;omega),_,(YfZ (YfV (YfV (Yg0 _) rfl) rfl) _),(by rw[hA,Y8T hR (by simpa using h18)]),_,(congrArg (St.mk _) (Y01 (YfW rfl (YfW rfl Yg3))).symm)⟩
theorem Y3Z {α β:Type}[Inhabited α](f:α→β){l:List α}{i:Nat}(h:i<l.length): (l.take i).map f++[f (l.getD i default)]=(l.take (i+1)).map f:=by rw[Y0a h,Yfc];rfl
theorem YcW (d:Delta)(hd:OkD d): CallsV Try.prog 101 [.agg (kd d)] (.agg (kd (invD d))):=by
 refine Yg2 (Yga _) mix Try.func101 rfl rfl (by simp[Try.f101]) (by kernel_rfl) (nb:=0) ?_
 unfold Try.f101
 refine Ve ?_
 obtain⟨d1,d2,d3,d4⟩:=hd
 refine Vf ?_
 refine Vw6 ?_
 intro g1
 refine Vz0 ?_
 intro g2
 refine Va4 ?_
 refine Vz0 ?_
 intro g3
 refine Vq0 ?_
 refine goWeak (Ygm (Ygi (n:=192) (c:=0) 700001 3 rfl rfl rfl rfl rfl rfl) (Ygm (Ygi (n:=192) (c:=1) 700002 3 rfl rfl rfl rfl rfl rfl) (Ygi (n:=192) (c:=2) 700003 3 rfl rfl rfl rfl rfl rfl))) ?_
 refine Vd1 ?_
 refine Vx3 ?_
 refine Yg8 YfX (α:=Nat × Nat × Nat × Nat × List Turn) (fun ⟨i,ga,gb,gc,A⟩ st=>(i≤d.turns.length∧A=(d.turns.take i).map invT)∧∃ m0,st=⟨(updS (updS (updS (updS (updS (updS (fun _=>LV.undef) 1 (.ref 64 g1 0 0)) 2 (.ref 128 g2 0 0)) 3 (.ref 192 g3 0 0)) 11 (.sl (em kt d.turns))) 12 (.int .i64 (d.turns.length:Int))) 13 (.int .i64 (i:Int))),effM m0 [(64,⟨g1,false,.var,3,[kd d]⟩),(128,⟨g2,false,.var,3,[[.nils,.nils,.nils]]⟩),(192,⟨g3,false,.var,3,[[.own 700001 ga 0 A.length none,.own 700002 gb 0 ([]:List Hold).length none,.own 700003 gc 0 ([]:List Hold).length none]]⟩),(700001,⟨ga,false,.slc,3,em kt A⟩),(700002,⟨gb,false,.slc,3,em kh ([]:List Hold)⟩),(700003,⟨gc,false,.slc,3,em kh ([]:List Hold)⟩)]⟩) (fun ⟨i,ga,gb,gc,A⟩=>d.turns.length - i) ⟨0,_,_,_,[]⟩ ⟨_,(YfZ (YfV (YfV (YfV (YfV (YfV (YfV (Yg0 _) rfl) rfl) rfl) rfl) rfl) rfl) _),⟨Ye1 _,rfl⟩,_,(congrArg (St.mk _) (Y01 (YfW rfl (YfW rfl (YfW rfl (YfW rfl (YfW rfl (YfW rfl Yg3))))))).symm)⟩ ?_
 rintro⟨i,ga,gb,gc,A⟩ _ ⟨⟨hi0,hA⟩,m0,rfl⟩
 have hlA:A.length=i:=by rw[hA,Ye4,Yek];omega
 refine Vd ?_
 refine cD (fun h14=>?_) fun h14=>?_
 refine Vt6 ?_
 intro g5
 refine Vg3 ?_
 refine Vf ?_
 refine Vc0 ?_
 refine VxB ?_
 refine Vj ?_
 refine VuG ?_
 refine Yg9 YfX (sz:=3) (z:=[LV.int .i64 0,LV.nils,LV.nils]) (es:=em kt [invT (d.turns.getD i default)]) rfl rfl rfl rfl (by decide) (by decide) (by decide) (FrzP.cons (S:=[]) (T:=[]) (YfY rfl) rfl (by decide) rfl (FrzP.nil)) rfl ?_
 intro g26
 refine Ygj YfX (f:=kt) (v:=invT (d.turns.getD i default)) (sz:=3) (z:=[.int .i64 0,.nils,.nils]) rfl rfl rfl rfl rfl (by decide) (YdK rfl) rfl rfl rfl rfl rfl rfl rfl rfl rfl rfl rfl rfl rfl rfl rfl rfl (by omega) ?_
 refine Vs0 ?_
 refine VdF ?_
 refine Vi3 ?_
 have el:A.length+1=(A++[invT (d.turns.getD i default)]).length:=by rw[YdN];rfl
 rw[el]
 refine⟨⟨i+1,_,gb,gc,A++[invT (d.turns.getD i default)]⟩,(by dsimp only;omega),_,(YfZ (YfV (YfV (YfV (YfV (YfV (YfV (Yg0 _) rfl) rfl) rfl) rfl) rfl) rfl) _),⟨by omega,by rw[hA,Y3Z invT (by omega)]⟩,_,(congrArg (St.mk _) (Y01 (YfW rfl (YfW rfl (YfW rfl (YfW rfl (YfW rfl (YfW rfl Yg3))))))).symm)⟩
 refine Vr1 ?_
 refine Vj ?_
 refine Vq ?_
 refine Yg8 YfX (α:=Nat × Nat × List Hold) (fun ⟨i,gb,B⟩ st=>(i≤d.locks.length∧B=(d.locks.take i).map invH)∧∃ m0,st=⟨(updS (updS (updS (updS (updS (updS (fun _=>LV.undef) 1 (.ref 64 g1 0 0)) 2 (.ref 128 g2 0 0)) 3 (.ref 192 g3 0 0)) 31 (.sl (em kh d.locks))) 32 (.int .i64 (d.locks.length:Int))) 33 (.int .i64 (i:Int))),effM m0 [(64,⟨g1,false,.var,3,[kd d]⟩),(128,⟨g2,false,.var,3,[[.nils,.nils,.nils]]⟩),(192,⟨g3,false,.var,3,[[.own 700001 ga 0 A.length none,.own 700002 gb 0 B.length none,.own 700003 gc 0 ([]:List Hold).length none]]⟩),(700001,⟨ga,false,.slc,3,em kt A⟩),(700002,⟨gb,false,.slc,3,em kh B⟩),(700003,⟨gc,false,.slc,3,em kh ([]:List Hold)⟩)]⟩) (fun ⟨i,gb,B⟩=>d.locks.length - i) ⟨0,_,[]⟩ ⟨_,(YfZ (YfV (YfV (YfV (YfV (YfV (YfV (Yg0 _) rfl) rfl) rfl) rfl) rfl) rfl) _),⟨Ye1 _,rfl⟩,_,(congrArg (St.mk _) (Y01 (YfW rfl (YfW rfl (YfW rfl (YfW rfl (YfW rfl (YfW rfl Yg3))))))).symm)⟩ ?_
 rintro⟨i,gb,B⟩ _ ⟨⟨hi2,hB⟩,m0,rfl⟩
 have hlB:B.length=i:=by rw[hB,Ye4,Yek];omega
 refine Vd ?_
 refine cD (fun h34=>?_) fun h34=>?_
 refine Vj3 ?_
 intro g7
 refine Vg3 ?_
 refine Vf ?_
 refine Vj ?_
 refine VxB ?_
 refine Vj ?_
 refine Ve6 ?_
 refine Yg9 YfX (sz:=3) (z:=[LV.int .i64 0,LV.int .i64 0,LV.int .i64 0]) (es:=em kh [invH (d.locks.getD i default)]) rfl rfl rfl rfl (by decide) (by decide) (by decide) (FrzP.cons (S:=[]) (T:=[]) (YfY rfl) rfl (by decide) rfl (FrzP.nil)) rfl ?_
 intro g46
 refine Ygj YfX (f:=kh) (v:=invH (d.locks.getD i default)) (sz:=3) (z:=[.int .i64 0,.int .i64 0,.int .i64 0]) rfl rfl rfl rfl rfl (by decide) (YdK rfl) rfl rfl rfl rfl rfl rfl rfl rfl rfl rfl rfl rfl rfl rfl rfl rfl (by omega) ?_
 refine Vb6 ?_
 refine VdF ?_
 refine Vi3 ?_
 have el:B.length+1=(B++[invH (d.locks.getD i default)]).length:=by rw[YdN];rfl
 rw[el]
 refine⟨⟨i+1,_,B++[invH (d.locks.getD i default)]⟩,(by dsimp only;omega),_,(YfZ (YfV (YfV (YfV (YfV (YfV (YfV (Yg0 _) rfl) rfl) rfl) rfl) rfl) rfl) _),⟨by omega,by rw[hB,Y3Z invH (by omega)]⟩,_,(congrArg (St.mk _) (Y01 (YfW rfl (YfW rfl (YfW rfl (YfW rfl (YfW rfl (YfW rfl Yg3))))))).symm)⟩
 refine Vr1 ?_
 refine Vu7 ?_
 refine Yg8 YfX (α:=Nat × Nat × List Hold) (fun ⟨i,gc,C⟩ st=>(i≤d.ices.length∧C=(d.ices.take i).map invH)∧∃ m0,st=⟨(updS (updS (updS (updS (updS (updS (fun _=>LV.undef) 1 (.ref 64 g1 0 0)) 2 (.ref 128 g2 0 0)) 3 (.ref 192 g3 0 0)) 51 (.sl (em kh d.ices))) 52 (.int .i64 (d.ices.length:Int))) 53 (.int .i64 (i:Int))),effM m0 [(64,⟨g1,false,.var,3,[kd d]⟩),(128,⟨g2,false,.var,3,[[.nils,.nils,.nils]]⟩),(192,⟨g3,false,.var,3,[[.own 700001 ga 0 A.length none,.own 700002 gb 0 B.length none,.own 700003 gc 0 C.length none]]⟩),(700001,⟨ga,false,.slc,3,em kt A⟩),(700002,⟨gb,false,.slc,3,em kh B⟩),(700003,⟨gc,false,.slc,3,em kh C⟩)]⟩) (fun ⟨i,gc,C⟩=>d.ices.length - i) ⟨0,_,[]⟩ ⟨_,(YfZ (YfV (YfV (YfV (YfV (YfV (YfV (Yg0 _) rfl) rfl) rfl) rfl) rfl) rfl) _),⟨Ye1 _,rfl⟩,_,(congrArg (St.mk _) (Y01 (YfW rfl (YfW rfl (YfW rfl (YfW rfl (YfW rfl (YfW rfl Yg3))))))).symm)⟩ ?_
 rintro⟨i,gc,C⟩ _ ⟨⟨hi4,hC⟩,m0,rfl⟩
 have hlC:C.length=i:=by rw[hC,Ye4,Yek];omega
 refine Vd ?_
 refine cD (fun h54=>?_) fun h54=>?_
 refine Vj3 ?_
 intro g9
 refine Vg3 ?_
 refine Vf ?_
 refine Vl0 ?_
 refine VxB ?_
 refine Vj ?_
 refine Ve6 ?_
 refine Yg9 YfX (sz:=3) (z:=[LV.int .i64 0,LV.int .i64 0,LV.int .i64 0]) (es:=em kh [invH (d.ices.getD i default)]) rfl rfl rfl rfl (by decide) (by decide) (by decide) (FrzP.cons (S:=[]) (T:=[]) (YfY rfl) rfl (by decide) rfl (FrzP.nil)) rfl ?_
 intro g66
 refine Ygj YfX (f:=kh) (v:=invH (d.ices.getD i default)) (sz:=3) (z:=[.int .i64 0,.int .i64 0,.int .i64 0]) rfl rfl rfl rfl rfl (by decide) (YdK rfl) rfl rfl rfl rfl rfl rfl rfl rfl rfl rfl rfl rfl rfl rfl rfl rfl (by omega) ?_
 refine Va6 ?_
 refine VdF ?_
 refine Vi3 ?_
 have el:C.length+1=(C++[invH (d.ices.getD i default)]).length:=by rw[YdN];rfl
 rw[el]
 refine⟨⟨i+1,_,C++[invH (d.ices.getD i default)]⟩,(by dsimp only;omega),_,(YfZ (YfV (YfV (YfV (YfV (YfV (YfV (Yg0 _) rfl) rfl) rfl) rfl) rfl) rfl) _),⟨by omega,by rw[hC,Y3Z invH (by omega)]⟩,_,(congrArg (St.mk _) (Y01 (YfW rfl (YfW rfl (YfW rfl (YfW rfl (YfW rfl (YfW rfl Yg3))))))).symm)⟩
 refine Vw9 ?_
 refine VcN ?_
 refine VaB ?_
 refine Vd4 ?_
 refine⟨_,_,_,_,.cons (.cellA (n:=3) rfl rfl rfl (by simp) rfl rfl rfl (YdK rfl)) .nil,.frz (Frz.aggc (by exact Yg5 rfl rfl rfl rfl (by exact Y00 _ _)) (Frz.aggc (by exact Yg5 rfl rfl rfl rfl (by exact Y00 _ _)) (Frz.aggc (by exact Yg5 rfl rfl rfl rfl (by exact Y00 _ _)) Frz.aggn))),Yec,by simp,?_⟩
 show LV.agg [.sl (em kt A),.sl (em kh B),.sl (em kh C)]=_
 rw[hA,hB,hC,YdP (by omega),YdP (by omega),YdP (by omega)]
 rfl
theorem YcL (x:Int): CallsV Try.prog 124 [.int .u32 x] (.int .u32 (drawI x)):=by
 refine Yg2 (Yga _) mix Try.func124 rfl rfl (by simp[Try.f124]) (by kernel_rfl) (nb:=0) ?_
 unfold Try.f124
 refine Vw3 ?_
 refine Vk ?_
 refine cD (fun h4=>?_) fun h4=>?_
 refine Vw2 ?_
 show LV.int _ _=LV.int _ _
 congr 1
 · (rw[drawI,if_pos h4];done)
 refine Vu1 ?_
 refine Va ?_
 refine Vu ?_
 refine Vu ?_
 refine VmB ?_
 refine Vu ?_
 refine Vu ?_
 refine VmB ?_
 refine Vu ?_
 refine Vu ?_
 refine Vq1 ?_
 show LV.int _ _=LV.int _ _
 congr 1
 (rw[drawI,if_neg h4];rfl)
theorem Y8i {n:Int}(h0:0≤n)(h1:n<4611686018427387904): IntKind.u64.wrap n=n:=by
 simp only[IntKind.wrap]
 have:IntKind.u64.bits=64:=rfl
 simp[IntKind.signed,this]
 omega
theorem Yb4 (x:Int): 0≤IntKind.u64.wrap x:=by
 simp only[IntKind.wrap]
 have:IntKind.u64.bits=64:=rfl
 simp[IntKind.signed,this]
 omega
theorem wrap_i64 {n:Int}(h0:0≤n)(h1:n<4611686018427387904): IntKind.i64.wrap n=n:=by
 simp only[IntKind.wrap]
 have:IntKind.i64.bits=64:=rfl
 simp[IntKind.signed,this]
 omega
theorem Y4g {x n:Int}(h1:1≤n)(h2:n<4611686018427387904): 0≤pickI x n∧pickI x n<n:=by
 have a:=Yb4 x
 rw[pickI,if_neg (by omega),Y8i (by omega) h2]
 have b:=Int.tmod_nonneg n a
 have c:=Int.tmod_lt_of_pos (IntKind.u64.wrap x) (show 0<n by omega)
 rw[wrap_i64 b (by omega)]
 exact⟨b,c⟩
theorem Yds {x n:Int}(h1:n<1): pickI x n=0:=by rw[pickI,if_pos h1]
theorem Y1K (x n:Int)(hn:n<4611686018427387904): CallsV Try.prog 112 [.int .u32 x,.int .i64 n] (.int .i64 (pickI x n)):=by
 refine Yg2 (Yga _) mix Try.func112 rfl rfl (by simp[Try.f112]) (by kernel_rfl) (nb:=0) ?_
 unfold Try.f112
 refine Vw3 ?_
 refine Vk ?_
 refine cD (fun h6=>?_) fun h6=>?_
 refine Vw2 ?_
 show LV.int _ _=LV.int _ _
 congr 1
 · (rw[Yds h6];done)
 have hw:IntKind.u64.wrap n≠0:=by rw[Y8i (by omega) (by omega)];omega
 refine Vu1 ?_
 refine VdB ?_
 refine Va ?_
 refine VdB ?_
 refine GL.bin YfX (v:=.int .u64 ((IntKind.u64.wrap x).tmod (IntKind.u64.wrap n))) (by show (if _=0 then none else some _)=some _;rw[if_neg hw]) ?_
 refine VdB ?_
 refine Vq1 ?_
 show LV.int _ _=LV.int _ _
 congr 1
 (rw[pickI,if_neg h6])
def ltK (a b:SKey): Bool:=decide (a.kind<b.kind) || (decide (a.kind=b.kind) && decide (a.n<b.n))
def posU (k:SKey)(o:List SKey): Nat:=(o.takeWhile fun x=>ltK x k).length
theorem Y5T {k:SKey}: ∀ {o:List SKey}{j:Nat},j≤o.length→(∀ q,q<j→ltK (o.getD q default) k=true)→(j<o.length→ltK (o.getD j default) k=false)→posU k o=j
 | [],j,hj,_,_=>by
   have:j=0:=by simpa using hj
   subst this
   rfl
 | x::r,0,_,_,h2=>by
   have:=h2 (by simp)
   simp only[posU,List.takeWhile_cons]
   rw[show ltK x k=false from this]
   rfl
 | x::r,j+1,hj,h1,h2=>by
   have hx:ltK x k=true:=h1 0 (by omega)
   have:=Y5T (k:=k) (o:=r) (j:=j) (by simpa using hj) (fun q hq=>by simpa using h1 (q+1) (by omega)) (fun h=>by simpa using h2 (by simpa using h))
   simp only[posU,List.takeWhile_cons,hx] at this ⊢
   simp[this]
def insU (o:List SKey)(k:SKey): List SKey:=if posU k o<o.length∧o.getD (posU k o) default=k then o else putAt o (posU k o) k
theorem Ybm (o:List SKey)(k:SKey): (insU o k).length≤o.length+1:=by
 unfold insU
 split
 omega
 have:posU k o≤o.length:=by
   unfold posU
   exact (List.takeWhile_sublist _).length_le
 rw[Y2U this]
 exact Ye2 _
def keysL (T:Delta): List SKey:=T.turns.map (fun t=>⟨1,t.car⟩)++T.locks.map (fun h=>⟨2,h.n⟩)++(movedL T).map (fun s=>⟨2,s⟩)++T.ices.map fun h=>⟨3,h.n⟩
def touchR (d:Delta): List SKey:=(keysL (tidyD d)).foldl insU []
theorem Y3c {l:List SKey}{i:Nat}(h:i<l.length): (l.take (i+1)).foldl insU []=insU ((l.take i).foldl insU []) (l.getD i default):=by
 rw[Y0a h,YeG]
 rfl
theorem Ydg {a b:SKey}(h:a.kind<b.kind): ltK a b=true:=by simp[ltK,h]
theorem Ydh {a b:SKey}(h:a.kind=b.kind)(h2:a.n<b.n): ltK a b=true:=by simp[ltK,h,h2]
theorem YcE {a b:SKey}(h:¬ a.kind<b.kind)(h2:¬ a.kind=b.kind): ltK a b=false:=by simp[ltK,h,h2]
theorem YcK {a b:SKey}(h:¬ a.kind<b.kind)(h2:¬ a.n<b.n): ltK a b=false:=by simp[ltK,h,h2]
theorem Y32 {α β:Type}[Inhabited α](f:α→β)(A:List β){l:List α}{i:Nat}(h:i<l.length): (A++(l.take i).map f)++[f (l.getD i default)]=A++(l.take (i+1)).map f:=by rw[Yfk,Y3Z f h]
theorem Ybh (d:Delta)(hd:OkD d): CallsV Try.prog 99 [.agg (kd d)] (.sl (em kk (touchR d))):=by
 refine Yg2 (Yga _) mix Try.func99 rfl rfl (by simp[Try.f99]) (by kernel_rfl) (nb:=0) ?_
 unfold Try.f99
 refine Ve ?_
 have hT:=Y2c hd
 have hl:=Y3s hd
 have hml:=Y2Y hT
 refine Vf ?_
 refine Vw6 ?_
 intro g1
 refine Vn ?_
 refine Vg6 ?_
 refine VeF ?_
 refine Vz0 ?_
 intro g3
 refine Vz3 ?_
 refine Vt ?_
 refine Va0 ?_
 refine goWeak (Ygm (Ygp (j:=4) 700001 2 rfl) (Ygp (j:=5) 8832 2 rfl)) ?_
 refine Vd1 ?_
 refine Vw ?_
 refine Vq ?_
 refine Yg8 YfX (α:=Nat × Nat × Nat × List SKey) (fun ⟨i,g,g5,L⟩ st=>(i≤(tidyD d).turns.length∧L=([]:List SKey)++((tidyD d).turns.take i).map (fun t:Turn=>(⟨1,t.car⟩:SKey)))∧∃ m0,st=⟨(updS (updS (updS (updS (updS (updS (fun _=>LV.undef) 3 (.ref 192 g3 0 0)) 4 (.own 700001 g 0 L.length none)) 5 (.own 8832 g5 0 0 none)) 20 (.sl (em kt (tidyD d).turns))) 21 (.int .i64 ((tidyD d).turns.length:Int))) 22 (.int .i64 (i:Int))),effM m0 [(192,⟨g3,false,.var,3,[kd (tidyD d)]⟩),(700001,⟨g,false,.slc,2,em kk L⟩),(8832,⟨g5,false,.slc,2,[]⟩)]⟩) (fun ⟨i,g,g5,L⟩=>(tidyD d).turns.length - i) ⟨0,_,_,[]⟩ ⟨_,(YfZ (YfV (YfV (YfV (YfV (YfV (YfV (Yg0 _) rfl) rfl) rfl) rfl) rfl) rfl) _),⟨Ye1 _,by first | rfl | (rw[hL-2,YdP (by omega)];exact (YdX _).symm)⟩,_,(congrArg (St.mk _) (Y01 (YfW rfl (YfW rfl (YfW rfl Yg3)))).symm)⟩ ?_
 rintro⟨i,g,g5,L⟩ _ ⟨⟨hi0,hL0⟩,m0,rfl⟩
 have hl0:L.length=(([]:List SKey)).length+i:=by rw[hL0,YdN,Ye4,Yek];omega
 simp only[YdN,Ye4,YeM] at hl0
 refine Vd ?_
 refine cD (fun h23=>?_) fun h23=>?_
 refine Vt6 ?_
 intro g7
 refine Vg3 ?_
 refine Vl ?_
 refine Vw ?_
 refine VnC ?_
 refine Yg9 YfX (sz:=2) (z:=[LV.int .i64 0,LV.int .i64 0]) (es:=em kk [(fun t:Turn=>(⟨1,t.car⟩:SKey)) ((tidyD d).turns.getD i default)]) rfl rfl rfl rfl (by decide) (by decide) (by decide) (FrzP.cons (S:=[]) (T:=[]) (YfY rfl) rfl (by decide) rfl (FrzP.nil)) rfl ?_
 intro g30
 refine Ygj YfX (f:=kk) (v:=(fun t:Turn=>(⟨1,t.car⟩:SKey)) ((tidyD d).turns.getD i default)) (sz:=2) (z:=[.int .i64 0,.int .i64 0]) rfl rfl rfl rfl rfl (by decide) (YdK rfl) rfl rfl rfl rfl rfl rfl rfl rfl rfl rfl rfl rfl rfl rfl rfl rfl (by omega) ?_
 refine Vy2 ?_
 have el:L.length+1=(L++[(fun t:Turn=>(⟨1,t.car⟩:SKey)) ((tidyD d).turns.getD i default)]).length:=by rw[YdN];rfl
 rw[el]
 refine⟨⟨i+1,_,g5,L++[(fun t:Turn=>(⟨1,t.car⟩:SKey)) ((tidyD d).turns.getD i default)]⟩,(by dsimp only;omega),_,(YfZ (YfV (YfV (YfV (YfV (YfV (YfV (Yg0 _) rfl) rfl) rfl) rfl) rfl) rfl) _),⟨by omega,by rw[hL0,Y32 (fun t:Turn=>(⟨1,t.car⟩:SKey)) _ (by omega)]⟩,_,(congrArg (St.mk _) (Y01 (YfW rfl (YfW rfl (YfW rfl Yg3)))).symm)⟩
 refine Vr1 ?_
 refine Vo1 ?_
 refine Vq ?_
 refine Yg8 YfX (α:=Nat × Nat × List SKey) (fun ⟨i,g,L⟩ st=>(i≤(tidyD d).locks.length∧L=(([]:List SKey)++(tidyD d).turns.map (fun t:Turn=>(⟨1,t.car⟩:SKey)))++((tidyD d).locks.take i).map (fun h:Hold=>(⟨2,h.n⟩:SKey)))∧∃ m0,st=⟨(updS (updS (updS (updS (updS (updS (fun _=>LV.undef) 3 (.ref 192 g3 0 0)) 4 (.own 700001 g 0 L.length none)) 5 (.own 8832 g5 0 0 none)) 34 (.sl (em kh (tidyD d).locks))) 35 (.int .i64 ((tidyD d).locks.length:Int))) 36 (.int .i64 (i:Int))),effM m0 [(192,⟨g3,false,.var,3,[kd (tidyD d)]⟩),(700001,⟨g,false,.slc,2,em kk L⟩),(8832,⟨g5,false,.slc,2,[]⟩)]⟩) (fun ⟨i,g,L⟩=>(tidyD d).locks.length - i) ⟨0,_,_⟩ ⟨_,(YfZ (YfV (YfV (YfV (YfV (YfV (YfV (Yg0 _) rfl) rfl) rfl) rfl) rfl) rfl) _),⟨Ye1 _,by first | rfl | (rw[hL0,YdP (by omega)];exact (YdX _).symm)⟩,_,(congrArg (St.mk _) (Y01 (YfW rfl (YfW rfl (YfW rfl Yg3)))).symm)⟩ ?_
 rintro⟨i,g,L⟩ _ ⟨⟨hi2,hL2⟩,m0,rfl⟩
 have hl2:L.length=((([]:List SKey)++(tidyD d).turns.map (fun t:Turn=>(⟨1,t.car⟩:SKey)))).length+i:=by rw[hL2,YdN,Ye4,Yek];omega
 simp only[YdN,Ye4,YeM] at hl2
 refine Vd ?_
 refine cD (fun h37=>?_) fun h37=>?_
 refine Vj3 ?_
 intro g9
 refine Vg3 ?_
 refine Vl ?_
 refine Vw ?_
 refine VnC ?_
 refine Yg9 YfX (sz:=2) (z:=[LV.int .i64 0,LV.int .i64 0]) (es:=em kk [(fun h:Hold=>(⟨2,h.n⟩:SKey)) ((tidyD d).locks.getD i default)]) rfl rfl rfl rfl (by decide) (by decide) (by decide) (FrzP.cons (S:=[]) (T:=[]) (YfY rfl) rfl (by decide) rfl (FrzP.nil)) rfl ?_
 intro g44
 refine Ygj YfX (f:=kk) (v:=(fun h:Hold=>(⟨2,h.n⟩:SKey)) ((tidyD d).locks.getD i default)) (sz:=2) (z:=[.int .i64 0,.int .i64 0]) rfl rfl rfl rfl rfl (by decide) (YdK rfl) rfl rfl rfl rfl rfl rfl rfl rfl rfl rfl rfl rfl rfl rfl rfl rfl (by omega) ?_
 refine Vy2 ?_
 have el:L.length+1=(L++[(fun h:Hold=>(⟨2,h.n⟩:SKey)) ((tidyD d).locks.getD i default)]).length:=by rw[YdN];rfl
 rw[el]
 refine⟨⟨i+1,_,L++[(fun h:Hold=>(⟨2,h.n⟩:SKey)) ((tidyD d).locks.getD i default)]⟩,(by dsimp only;omega),_,(YfZ (YfV (YfV (YfV (YfV (YfV (YfV (Yg0 _) rfl) rfl) rfl) rfl) rfl) rfl) _),⟨by omega,by rw[hL2,Y32 (fun h:Hold=>(⟨2,h.n⟩:SKey)) _ (by omega)]⟩,_,(congrArg (St.mk _) (Y01 (YfW rfl (YfW rfl (YfW rfl Yg3)))).symm)⟩
 refine Vr1 ?_
 refine Vg6 ?_
 refine Yg6 YfX rfl (Frz.aggc (by exact YfY rfl) (Frz.aggn)) (Y5Y (tidyD d) hT) rfl rfl (fun _=>rfl) ?_
 refine Vq ?_
 refine Yg8 YfX (α:=Nat × Nat × List SKey) (fun ⟨i,g,L⟩ st=>(i≤(movedL (tidyD d)).length∧L=((([]:List SKey)++(tidyD d).turns.map (fun t:Turn=>(⟨1,t.car⟩:SKey)))++(tidyD d).locks.map (fun h:Hold=>(⟨2,h.n⟩:SKey)))++((movedL (tidyD d)).take i).map (fun s:Int=>(⟨2,s⟩:SKey)))∧∃ m0,st=⟨(updS (updS (updS (updS (updS (updS (fun _=>LV.undef) 3 (.ref 192 g3 0 0)) 4 (.own 700001 g 0 L.length none)) 5 (.own 8832 g5 0 0 none)) 48 (.sl (em ni (movedL (tidyD d))))) 49 (.int .i64 ((movedL (tidyD d)).length:Int))) 50 (.int .i64 (i:Int))),effM m0 [(192,⟨g3,false,.var,3,[kd (tidyD d)]⟩),(700001,⟨g,false,.slc,2,em kk L⟩),(8832,⟨g5,false,.slc,2,[]⟩)]⟩) (fun ⟨i,g,L⟩=>(movedL (tidyD d)).length - i) ⟨0,_,_⟩ ⟨_,(YfZ (YfV (YfV (YfV (YfV (YfV (YfV (Yg0 _) rfl) rfl) rfl) rfl) rfl) rfl) _),⟨Ye1 _,by first | rfl | (rw[hL2,YdP (by omega)];exact (YdX _).symm)⟩,_,(congrArg (St.mk _) (Y01 (YfW rfl (YfW rfl (YfW rfl Yg3)))).symm)⟩ ?_
 rintro⟨i,g,L⟩ _ ⟨⟨hi4,hL4⟩,m0,rfl⟩
 have hl4:L.length=(((([]:List SKey)++(tidyD d).turns.map (fun t:Turn=>(⟨1,t.car⟩:SKey)))++(tidyD d).locks.map (fun h:Hold=>(⟨2,h.n⟩:SKey)))).length+i:=by rw[hL4,YdN,Ye4,Yek];omega
 simp only[YdN,Ye4,YeM] at hl4
 refine Vd ?_
 refine cD (fun h51=>?_) fun h51=>?_
 refine Vn1 ?_
 refine Vm3 ?_
 refine VnC ?_
 refine Yg9 YfX (sz:=2) (z:=[LV.int .i64 0,LV.int .i64 0]) (es:=em kk [(fun s:Int=>(⟨2,s⟩:SKey)) ((movedL (tidyD d)).getD i default)]) rfl rfl rfl rfl (by decide) (by decide) (by decide) (FrzP.cons (S:=[]) (T:=[]) (YfY rfl) rfl (by decide) rfl (FrzP.nil)) rfl ?_
 intro g57
 refine Ygj YfX (f:=kk) (v:=(fun s:Int=>(⟨2,s⟩:SKey)) ((movedL (tidyD d)).getD i default)) (sz:=2) (z:=[.int .i64 0,.int .i64 0]) rfl rfl rfl rfl rfl (by decide) (YdK rfl) rfl rfl rfl rfl rfl rfl rfl rfl rfl rfl rfl rfl rfl rfl rfl rfl (by omega) ?_
 refine Vy2 ?_
 have el:L.length+1=(L++[(fun s:Int=>(⟨2,s⟩:SKey)) ((movedL (tidyD d)).getD i default)]).length:=by rw[YdN];rfl
 rw[el]
 refine⟨⟨i+1,_,L++[(fun s:Int=>(⟨2,s⟩:SKey)) ((movedL (tidyD d)).getD i default)]⟩,(by dsimp only;omega),_,(YfZ (YfV (YfV (YfV (YfV (YfV (YfV (Yg0 _) rfl) rfl) rfl) rfl) rfl) rfl) _),⟨by omega,by rw[hL4,Y32 (fun s:Int=>(⟨2,s⟩:SKey)) _ (by omega)]⟩,_,(congrArg (St.mk _) (Y01 (YfW rfl (YfW rfl (YfW rfl Yg3)))).symm)⟩
 refine Vr1 ?_
 refine Vm2 ?_
 refine Vq ?_
 refine Yg8 YfX (α:=Nat × Nat × List SKey) (fun ⟨i,g,L⟩ st=>(i≤(tidyD d).ices.length∧L=(((([]:List SKey)++(tidyD d).turns.map (fun t:Turn=>(⟨1,t.car⟩:SKey)))++(tidyD d).locks.map (fun h:Hold=>(⟨2,h.n⟩:SKey)))++(movedL (tidyD d)).map (fun s:Int=>(⟨2,s⟩:SKey)))++((tidyD d).ices.take i).map (fun h:Hold=>(⟨3,h.n⟩:SKey)))∧∃ m0,st=⟨(updS (updS (updS (updS (updS (updS (fun _=>LV.undef) 3 (.ref 192 g3 0 0)) 4 (.own 700001 g 0 L.length none)) 5 (.own 8832 g5 0 0 none)) 61 (.sl (em kh (tidyD d).ices))) 62 (.int .i64 ((tidyD d).ices.length:Int))) 63 (.int .i64 (i:Int))),effM m0 [(192,⟨g3,false,.var,3,[kd (tidyD d)]⟩),(700001,⟨g,false,.slc,2,em kk L⟩),(8832,⟨g5,false,.slc,2,[]⟩)]⟩) (fun ⟨i,g,L⟩=>(tidyD d).ices.length - i) ⟨0,_,_⟩ ⟨_,(YfZ (YfV (YfV (YfV (YfV (YfV (YfV (Yg0 _) rfl) rfl) rfl) rfl) rfl) rfl) _),⟨Ye1 _,by first | rfl | (rw[hL4,YdP (by omega)];exact (YdX _).symm)⟩,_,(congrArg (St.mk _) (Y01 (YfW rfl (YfW rfl (YfW rfl Yg3)))).symm)⟩ ?_
 rintro⟨i,g,L⟩ _ ⟨⟨hi6,hL6⟩,m0,rfl⟩
 have hl6:L.length=((((([]:List SKey)++(tidyD d).turns.map (fun t:Turn=>(⟨1,t.car⟩:SKey)))++(tidyD d).locks.map (fun h:Hold=>(⟨2,h.n⟩:SKey)))++(movedL (tidyD d)).map (fun s:Int=>(⟨2,s⟩:SKey)))).length+i:=by rw[hL6,YdN,Ye4,Yek];omega
 simp only[YdN,Ye4,YeM] at hl6
 refine Vd ?_
 refine cD (fun h64=>?_) fun h64=>?_
 refine Vj3 ?_
 intro g13
 refine Vg3 ?_
 refine Vl ?_
 refine Vw ?_
 refine VnC ?_
 refine Yg9 YfX (sz:=2) (z:=[LV.int .i64 0,LV.int .i64 0]) (es:=em kk [(fun h:Hold=>(⟨3,h.n⟩:SKey)) ((tidyD d).ices.getD i default)]) rfl rfl rfl rfl (by decide) (by decide) (by decide) (FrzP.cons (S:=[]) (T:=[]) (YfY rfl) rfl (by decide) rfl (FrzP.nil)) rfl ?_
 intro g71
 refine Ygj YfX (f:=kk) (v:=(fun h:Hold=>(⟨3,h.n⟩:SKey)) ((tidyD d).ices.getD i default)) (sz:=2) (z:=[.int .i64 0,.int .i64 0]) rfl rfl rfl rfl rfl (by decide) (YdK rfl) rfl rfl rfl rfl rfl rfl rfl rfl rfl rfl rfl rfl rfl rfl rfl rfl (by omega) ?_
 refine Vy2 ?_
 have el:L.length+1=(L++[(fun h:Hold=>(⟨3,h.n⟩:SKey)) ((tidyD d).ices.getD i default)]).length:=by rw[YdN];rfl
 rw[el]
 refine⟨⟨i+1,_,L++[(fun h:Hold=>(⟨3,h.n⟩:SKey)) ((tidyD d).ices.getD i default)]⟩,(by dsimp only;omega),_,(YfZ (YfV (YfV (YfV (YfV (YfV (YfV (Yg0 _) rfl) rfl) rfl) rfl) rfl) rfl) _),⟨by omega,by rw[hL6,Y32 (fun h:Hold=>(⟨3,h.n⟩:SKey)) _ (by omega)]⟩,_,(congrArg (St.mk _) (Y01 (YfW rfl (YfW rfl (YfW rfl Yg3)))).symm)⟩
 have hLL:L=keysL (tidyD d):=by rw[hL6,YdP (by omega)];rfl
 refine VqA ?_
 refine Vw4 ?_
 refine Vj7 ?_
 refine Yg8 YfX (α:=Nat × Nat × List SKey) (fun ⟨i,g5,o⟩ st=>(i≤L.length∧o=(L.take i).foldl insU []∧o.length≤i)∧∃ m0,st=⟨(updS (updS (updS (updS (updS (fun _=>LV.undef) 4 (.own 700001 g 0 L.length none)) 5 (.own 8832 g5 0 o.length none)) 74 (.own 700001 g 0 L.length none)) 75 (.int .i64 (L.length:Int))) 76 (.int .i64 (i:Int))),effM m0 [(700001,⟨g,false,.slc,2,em kk L⟩),(8832,⟨g5,false,.slc,2,em kk o⟩)]⟩) (fun ⟨i,g5,o⟩=>L.length - i) ⟨0,_,[]⟩ ⟨_,(YfZ (YfV (YfV (YfV (YfV (YfV (Yg0 _) rfl) rfl) rfl) rfl) rfl) _),⟨Ye1 _,rfl,Ye2 _⟩,_,(congrArg (St.mk _) (Y01 (YfW rfl (YfW rfl Yg3))).symm)⟩ ?_
 rintro⟨i,g5,o⟩ _ ⟨⟨hi8,ho,hol⟩,m0,rfl⟩
 refine Vd ?_
 refine cD (fun h77=>?_) fun h77=>?_
 refine Vl4 ?_
 refine VdE ?_
 refine Ygn YfX (n:=2) rfl rfl rfl rfl (by simp) (by exact Y08 (by omega)) rfl rfl ?_
 refine VjG ?_
 intro g15
 refine Vc6 ?_
 refine Va4 ?_
 refine Vy ?_
 refine Ygk YfX (fun st=>∃ j:Nat,(j≤o.length∧(∀ q,q<j→ltK (o.getD q default) (L.getD i default)=true)∧(j<o.length→ltK (o.getD j default) (L.getD i default)=false))∧∃ m0,st=⟨(updS (updS (updS (updS (updS (updS (updS (fun _=>LV.undef) 15 (.ref 960 g15 0 0)) 16 (.int .i64 (j:Int))) 4 (.own 700001 g 0 L.length none)) 5 (.own 8832 g5 0 o.length none)) 74 (.own 700001 g 0 L.length none)) 75 (.int .i64 (L.length:Int))) 76 (.int .i64 (i:Int))),effM m0 [(700001,⟨g,false,.slc,2,em kk L⟩),(8832,⟨g5,false,.slc,2,em kk o⟩),(960,⟨g15,false,.var,2,[kk (L.getD i default)]⟩)]⟩) ?_ ?_
 refine Vo0 ?_
 refine Yg8 YfX (α:=Nat) (fun j st=>(j≤o.length∧(∀ q,q<j→ltK (o.getD q default) (L.getD i default)=true))∧∃ m0,st=⟨(updS (updS (updS (updS (updS (updS (updS (fun _=>LV.undef) 15 (.ref 960 g15 0 0)) 16 (.int .i64 (j:Int))) 4 (.own 700001 g 0 L.length none)) 5 (.own 8832 g5 0 o.length none)) 74 (.own 700001 g 0 L.length none)) 75 (.int .i64 (L.length:Int))) 76 (.int .i64 (i:Int))),effM m0 [(700001,⟨g,false,.slc,2,em kk L⟩),(8832,⟨g5,false,.slc,2,em kk o⟩),(960,⟨g15,false,.var,2,[kk (L.getD i default)]⟩)]⟩) (fun j=>o.length - j) 0 ⟨_,lessA,⟨Ye1 _,fun q h=>by omega⟩,_,hasA⟩ ?_
 rintro j _ ⟨⟨hj,hle⟩,m0,rfl⟩
 refine Ve ?_
 refine Vm4 ?_
 refine Vg ?_
 refine Vw4 ?_
 refine Vm ?_
 refine Yg1 84 rfl (fun h84=>?_) (fun h84=>?_)
 rw[h84]
 replace h84:=of_decide_eq_true h84
 refine Vg2 ?_
 refine VdE ?_
 refine Vl8 ?_
 refine Vb ?_
 refine Vz4 ?_
 refine Vf4 ?_
 refine Vo8 ?_
 refine Yg1 93 rfl (fun h93=>?_) (fun h93=>?_)
 rw[h93]
 replace h93:=of_decide_eq_true h93
 refine Vk0 ?_
 refine Vk0 ?_
 refine Vw0 ?_
 refine Vf1 ?_
 refine Vz7 ?_
 refine VeO ?_
 refine Vo0 ?_
 refine Vw8 ?_
 refine Vz5 ?_
 refine⟨j+1,(by dsimp only;omega),_,lessA,⟨by omega,fun q hq=>by
       by_cases e:q=j
       · subst e;first | exact Ydg h93 | exact Ydh h102 h113
       · exact hle q (by omega)⟩,_,hasA⟩
 rw[h93]
 replace h93:=of_decide_eq_false h93
 refine Vg2 ?_
 refine VdE ?_
 refine Vl8 ?_
 refine Vb ?_
 refine Vz4 ?_
 refine Vf4 ?_
 refine Vo8 ?_
 refine Yg1 102 rfl (fun h102=>?_) (fun h102=>?_)
 rw[h102]
 replace h102:=of_decide_eq_true h102
 refine Vg2 ?_
 refine VdE ?_
 refine Vh5 ?_
 refine Vb ?_
 refine Vz4 ?_
 refine Vh5 ?_
 refine Vm8 ?_
 refine Vh1 ?_
 refine Vf1 ?_
 refine Vf1 ?_
 refine Vz7 ?_
 refine cD (fun h113=>?_) fun h113=>?_
 refine Vl1 ?_
 refine Vo0 ?_
 refine Vw8 ?_
 refine Vz5 ?_
 refine⟨j+1,(by dsimp only;omega),_,lessA,⟨by omega,fun q hq=>by
       by_cases e:q=j
       · subst e;first | exact Ydg h93 | exact Ydh h102 h113
       · exact hle q (by omega)⟩,_,hasA⟩
 refine Vi7 ?_
 refine⟨_,(YfZ (YfV (YfV (YfV (YfV (YfV (YfV (YfV (Yg0 _) rfl) rfl) rfl) rfl) rfl) rfl) rfl) _),_,⟨by omega,hle,fun _=>by first | omega | exact YcE h93 h102 | exact YcK h93 h113⟩,_,(congrArg (St.mk _) (Y01 (YfW rfl (YfW rfl (YfW rfl Yg3)))).symm)⟩
 rw[h102]
 replace h102:=of_decide_eq_false h102
 refine Vk0 ?_
 refine Vf1 ?_
 refine Vf1 ?_
 refine Vz7 ?_
 refine Vw1 ?_
 refine Vi7 ?_
 refine⟨_,(YfZ (YfV (YfV (YfV (YfV (YfV (YfV (YfV (Yg0 _) rfl) rfl) rfl) rfl) rfl) rfl) rfl) _),_,⟨by omega,hle,fun _=>by first | omega | exact YcE h93 h102 | exact YcK h93 h113⟩,_,(congrArg (St.mk _) (Y01 (YfW rfl (YfW rfl (YfW rfl Yg3)))).symm)⟩
 rw[h84]
 replace h84:=of_decide_eq_false h84
 refine Vk0 ?_
 refine Vk0 ?_
 refine Vk0 ?_
 refine Vz ?_
 refine Vz7 ?_
 refine Vw1 ?_
 refine Vi7 ?_
 refine⟨_,(YfZ (YfV (YfV (YfV (YfV (YfV (YfV (YfV (Yg0 _) rfl) rfl) rfl) rfl) rfl) rfl) rfl) _),_,⟨by omega,hle,fun _=>by first | omega | exact YcE h93 h102 | exact YcK h93 h113⟩,_,(congrArg (St.mk _) (Y01 (YfW rfl (YfW rfl (YfW rfl Yg3)))).symm)⟩
 rintro _ ⟨j,⟨hj,hle,hgt⟩,m0,rfl⟩
 refine Ve ?_
 refine Vm4 ?_
 refine Vg ?_
 refine Vw4 ?_
 refine Vm ?_
 refine Yg1 120 rfl (fun h120=>?_) (fun h120=>?_)
 rw[h120]
 replace h120:=of_decide_eq_true h120
 refine Vg2 ?_
 refine VdE ?_
 refine Vb ?_
 refine Ygn YfX (n:=2) rfl rfl rfl rfl (by simp) (by exact Y08 (by omega)) rfl rfl ?_
 refine Vb ?_
 refine Vd7 ?_
 refine Vb ?_
 refine GL.eqlA YfX (b:=decide (o.getD j default=(L.getD i default))) rfl rfl (Y6n.1 _ _) ?_
 refine Vz7 ?_
 refine cD (fun h127=>?_) fun h127=>?_
 refine Vx7 ?_
 refine Vs8 ?_
 refine⟨⟨i+1,_,o⟩,(by dsimp only;omega),_,(YfZ (YfV (YfV (YfV (YfV (YfV (Yg0 _) rfl) rfl) rfl) rfl) rfl) _),⟨by omega,by rw[Y3c (by omega),← ho,insU,Y5T hj hle hgt,if_pos ⟨by omega,by first | exact of_decide_eq_true h127 | exact h127⟩],by omega⟩,_,(congrArg (St.mk _) (Y01 (YfW rfl (YfW rfl Yg3))).symm)⟩
 refine Vl1 ?_
 ·rcases (show j<o.length∨j=o.length by omega) with hlt | hge
  refine Vv8 ?_
  refine VfF ?_
  refine Vd7 ?_
  refine VgF ?_
  intro g133
  refine Vg ?_
  refine VoK ?_
  refine VpK ?_
  refine VqK ?_
  rotate_left
  refine Vv8 ?_
  refine VfF ?_
  refine Vd7 ?_
  refine VgF ?_
  intro g133
  refine Vg ?_
  refine VrK ?_
  refine VbE ?_
  refine VsK ?_
  all_goals
   intro gc
   refine Vt ?_
   refine Vs5 ?_
   refine⟨⟨i+1,_,putAt o j (L.getD i default)⟩,(by dsimp only;omega),_,(YfZ (YfV (YfV (YfV (YfV (YfV (Yg0 _) rfl) rfl) rfl) rfl) rfl) _),⟨by omega,by rw[Y3c (by omega),← ho,insU,Y5T hj hle hgt,if_neg (fun e=>by first | exact h127 e.2 | omega)],by rw[Y2U hj];omega⟩,_,(congrArg (St.mk _) (Y01 (YfW rfl (YfW rfl Yg3))).symm)⟩
 rw[h120]
 replace h120:=of_decide_eq_false h120
 refine Vz2 ?_
 refine Vz7 ?_
 refine Vw1 ?_
 refine Vl1 ?_
 ·rcases (show j<o.length∨j=o.length by omega) with hlt | hge
  refine Vv8 ?_
  refine VfF ?_
  refine Vd7 ?_
  refine VgF ?_
  intro g133
  refine Vg ?_
  refine VoK ?_
  refine VpK ?_
  refine VqK ?_
  rotate_left
  refine Vv8 ?_
  refine VfF ?_
  refine Vd7 ?_
  refine VgF ?_
  intro g133
  refine Vg ?_
  refine VrK ?_
  refine VbE ?_
  refine VsK ?_
  all_goals
   intro gc
   refine Vt ?_
   refine Vs5 ?_
   refine⟨⟨i+1,_,putAt o j (L.getD i default)⟩,(by dsimp only;omega),_,(YfZ (YfV (YfV (YfV (YfV (YfV (Yg0 _) rfl) rfl) rfl) rfl) rfl) _),⟨by omega,by rw[Y3c (by omega),← ho,insU,Y5T hj hle hgt,if_neg (fun e=>by first | exact h127 e.2 | omega)],by rw[Y2U hj];omega⟩,_,(congrArg (St.mk _) (Y01 (YfW rfl (YfW rfl Yg3))).symm)⟩
 refine Vb4 ?_
 refine⟨_,_,_,_,.cons (.tmp rfl) .nil,.frz (by exact Yg5 rfl rfl rfl rfl (Y00 _ _)),Yec,by simp,?_⟩
 show LV.sl (em kk o)=_
 have hx:o=touchR d:=by rw[ho,YdP (by omega),hLL];rfl
 rw[hx]
theorem Y6f {l:List Int}{k:Int}(h:0≤k∧k<l.length): atL l k=(l.getD k.toNat default,true):=by rw[atL,if_pos h]
theorem YdD {l:List Int}{k:Int}(h:¬ (0≤k∧k<l.length)): atL l k=(0,false):=by rw[atL,if_neg h]
theorem Y4D {l:List Int}{k:Int}: (atL l k).2=true↔0≤k∧k<l.length:=by
 by_cases h:0≤k∧k<l.length
 rw[Y6f h];exact⟨fun _=>h,fun _=>rfl⟩
 rw[YdD h];exact⟨fun e=>(by simp at e),fun e=>absurd e h⟩
theorem YcZ (S:List Int): rkL (S.map fun n=>(n,true))=S:=by
 induction S with
 | nil=>rfl
 | cons x r ih=>exact congrArg (x::·) ih
theorem Y3r {l:List Int}: ∀ {b:List Int}{s:Int},s∈l.foldl addK b↔s∈b∨s∈l:=by
 induction l with
 | nil=>simp
 | cons x r ih =>
   intro b s
   rw[Yf7,ih,Y0I,Yep,or_assoc]
theorem Y5t (g:Turn→List Int): ∀ {ts:List Turn}{b:List Int}{s:Int},s∈ts.foldl (fun b t=>(g t).foldl addK b) b→s∈b∨∃ t∈ts,s∈g t
 | [],b,s,h=>.inl h
 | t::r,b,s,h=>by
   rw[Yf7] at h
   rcases Y5t g h with h | ⟨u,hu,hs⟩
   · rcases Y3r.1 h with h | h
     · exact .inl h
     · exact .inr ⟨t,by simp,h⟩
   · exact .inr ⟨u,by simp[hu],hs⟩
theorem Y9S {T:Delta}{s:Int}(h:s∈movedL T): ∃ t∈T.turns,s∈t.before∨s∈t.after:=by
 have h1:=(Y1d _).mem_iff.1 h
 rcases Yei.1 h1 with h1 | h1
 rcases Y5t Turn.before (YeL.1 h1).1 with h2 | ⟨t,ht,hs⟩
 cases h2
 exact⟨t,ht,.inl hs⟩
 rcases Y5t Turn.after (YeL.1 h1).1 with h2 | ⟨t,ht,hs⟩
 cases h2
 exact⟨t,ht,.inr hs⟩
theorem Y3k {d:Delta}{t:Turn}(h:t∈(tidyD d).turns): t∈d.turns:=by
 have:=(Y27 Turn.car t (d.turns.filter fun x=>!chgT x) []).1 h
 rcases this with h | h
 cases h
 exact (YeL.1 h).1
theorem Y1p {d:Delta}{t:Hold}(h:t∈(tidyD d).locks): t∈d.locks:=by
 have:=(Y27 Hold.n t (d.locks.filter fun x=>!chgH x) []).1 h
 rcases this with h | h
 cases h
 exact (YeL.1 h).1
theorem Y4s {d:Delta}{t:Hold}(h:t∈(tidyD d).ices): t∈d.ices:=by
 have:=(Y27 Hold.n t (d.ices.filter fun x=>!chgH x) []).1 h
 rcases this with h | h
 cases h
 exact (YeL.1 h).1
theorem Y1y {p:Plan}{d:Delta}(h:thereB p d=true): (∀ t∈d.turns,0≤t.car∧t.car<p.routes.length∧∀ s∈t.after,1≤s∧s<p.lock.length)∧(∀ h∈d.locks,1≤h.n∧h.n<p.lock.length)∧∀ h∈d.ices,0≤h.n∧h.n<p.routes.length:=by
 simp only[thereB,turnIn,carIn,stopIn,Ye0,Yed,decide_eq_true_eq] at h
 exact⟨fun t ht=>⟨(h.1 t ht).1.1,(h.1 t ht).1.2,(h.1 t ht).2⟩,h.2.1,h.2.2⟩
theorem Ydd {p:Plan}(hs:ShP p){d:Delta}(ht:thereB p d=true)(ha:asB p d=true): ∀ s∈movedL (tidyD d),1≤s∧s<p.sv.length:=by
 intro s h
 obtain⟨t,h1,h2⟩:=Y9S h
 have h3:=Y3k h1
 obtain⟨a,b,c⟩:=(Y1y ht).1 t h3
 rcases h2 with h2 | h2
 rw[Y69,Ye0] at ha
 have:=of_decide_eq_true (Yed.1 ha.1 t h3)
 rw[← this] at h2
 exact hs.stops _ (Y02 (l:=p.routes) (by omega)) s h2
 have:=c s h2
 have:=hs.lock
 omega
theorem YbO {p:Plan}(hs:ShP p){d:Delta}(ht:thereB p d=true)(ha:asB p d=true): ∀ s∈sorted (touchS (tidyD d)),1≤s∧s<p.sv.length:=by
 intro s h
 rcases Y3r.1 ((Y1d _).mem_iff.1 h) with h | h
 rcases Y3r.1 h with h | h
 cases h
 obtain⟨x,hx,rfl⟩:=Ye8.1 h
 have:=(Y1y ht).2.1 x (Y1p hx)
 have:=hs.lock
 omega
 exact Ydd hs ht ha s h
theorem nf' {b:Bool}(h:(!b)=true): b=false:=by simpa using h
theorem nt' {b:Bool}(h:(!b)=false): b=true:=by simpa using h
theorem Y8t {p:Plan}{t:Turn}(h:t.car<0∨t.car≥p.routes.length): turnIn p t=false:=by
 have:carIn p t.car=false:=by
   rw[carIn]
   rcases h with h | h
   · rw[decide_eq_false (by omega),Yf5]
   · rw[decide_eq_false (by omega:¬ t.car<p.routes.length),YeJ]
 rw[turnIn,this,Yf5]
theorem Y7o {p:Plan}{n:Int}(h:n<1∨n≥p.lock.length): stopIn p n=false:=by
 rw[stopIn]
 rcases h with h | h
 rw[decide_eq_false (by omega),Yf5]
 rw[decide_eq_false (by omega:¬ n<p.lock.length),YeJ]
theorem Y81 {p:Plan}{n:Int}(h:1≤n∧n<p.lock.length): stopIn p n=true:=by rw[stopIn,decide_eq_true h.1,decide_eq_true h.2];rfl
theorem Y9u {p:Plan}{n:Int}(h:0≤n∧n<p.routes.length): carIn p n=true:=by rw[carIn,decide_eq_true h.1,decide_eq_true h.2];rfl
theorem Ydw {p:Plan}{n:Int}(h:¬ (0≤n∧n<p.routes.length)): carIn p n=false:=by
 rw[carIn]
 by_cases h0:0≤n
 rw[decide_eq_false (fun e=>h ⟨h0,e⟩),YeJ]
 rw[decide_eq_false h0,Yf5]
theorem Y8b {p:Plan}{t:Turn}{j:Nat}(hj:j<t.after.length)(h:t.after.getD j default<1∨t.after.getD j default≥p.lock.length): turnIn p t=false:=by
 rw[turnIn,Y46 hj (Y7o h),YeJ]
theorem Y89 {p:Plan}{t:Turn}(h:0≤t.car∧t.car<p.routes.length)(hs:∀ q,q<t.after.length→1≤t.after.getD q default∧t.after.getD q default<p.lock.length): turnIn p t=true:=by
 rw[turnIn,Y9u h,YfL,Yed]
 intro s h
 obtain⟨q,hq,rfl⟩:=YeW h
 have:=hs q hq
 rw[Y2s hq] at this
 exact Y81 this
theorem Y64 (p:Plan)(hp:OkP p)(hs:ShP p)(d:Delta)(hd:OkD d): CallsV Try.prog 17 [.agg (kp p),.agg (kd d)] (.tup [.agg (kp (applyR p (checkD d) d (tidyD d)).1),.int .i64 (applyR p (checkD d) d (tidyD d)).2]):=by
 refine Yg2 (Yga _) mix Try.func17 rfl rfl (by simp[Try.f17]) (by kernel_rfl) (nb:=0) ?_
 unfold Try.f17
 refine Ve ?_
 have p1:=hp.routes
 have ⟨s1,s2,s3,s4,s5⟩:=hs
 have p3:=hp.lock
 have p4:=hp.ice
 have p6:=hp.sv
 have hT:=Y2c hd
 have hl:=Y3s hd
 have hml:=Y2Y hT
 obtain⟨d1,d2,d3,d4⟩:=id hd
 refine Vq6 ?_
 intro g2
 refine Vw6 ?_
 intro g3
 refine Vd6 ?_
 intro g4
 refine Vb0 ?_
 refine Vg6 ?_
 refine Yg6 YfX rfl (Frz.aggc (by exact YfY rfl) (Frz.aggn)) (Ya2 d hd) rfl rfl (fun _=>rfl) ?_
 refine Vb1 ?_
 refine Ygb rfl (fun h40=>?_) (fun h40=>?_)
 refine Vr8 ?_
 refine Vn7 ?_
 refine Ve7 ?_
 (rw[YaC (by simpa using h40)];rfl)
 have hck:checkD d=false:=by simpa using h40
 refine Vf0 ?_
 refine VeE ?_
 refine GL.callN YfX rfl (Frz.aggc (YfY rfl) Frz.aggn) (Y3J p hp) rfl rfl (Y7H _ _ _) ?_
 refine Vd6 ?_
 intro g6
 refine Vi4 ?_
 refine Va4 ?_
 refine Vb0 ?_
 refine Vw ?_
 refine Vq ?_
 refine Yg8 YfX (α:=Nat × List (List Int) × Bool) (fun ⟨i,R,sm⟩ st=>(i≤d.turns.length∧R=setR p.routes (d.turns.take i)∧sm=(d.turns.take i).all (asT p)∧(d.turns.take i).all (turnIn p)=true)∧∃ m0,st=⟨(updS (updS (updS (updS (updS (updS (updS (updS (fun _=>LV.undef) 2 (.ref 128 g2 0 0)) 3 (.ref 192 g3 0 0)) 4 (.ref 256 g4 0 0)) 6 (.ref 384 g6 0 0)) 7 (.bool sm)) 45 (.sl (em kt d.turns))) 46 (.int .i64 (d.turns.length:Int))) 47 (.int .i64 (i:Int))),effM m0 [(128,⟨g2,false,.var,7,[kp p]⟩),(192,⟨g3,false,.var,3,[kd d]⟩),(256,⟨g4,false,.var,7,[[.nils,.nils,.nils,.nils,.nils,.nils,.int .i64 0]]⟩),(384,⟨g6,false,.var,7,[[.own 2752 0 0 p.routes.length none,.own 2753 0 0 p.lock.length none,.own 2754 0 0 p.ice.length none,.own 2755 0 0 p.rv.length none,.own 2756 0 0 p.sv.length none,.own 2757 0 0 p.iv.length none,.int .i64 p.pv]]⟩),(2752,⟨0,false,.slc,1,em nr R⟩),(2753,⟨0,false,.slc,1,em ni p.lock⟩),(2754,⟨0,false,.slc,1,em ni p.ice⟩),(2755,⟨0,false,.slc,1,em ni p.rv⟩),(2756,⟨0,false,.slc,1,em ni p.sv⟩),(2757,⟨0,false,.slc,1,em ni p.iv⟩)]⟩) (fun ⟨i,R,sm⟩=>d.turns.length - i) ⟨0,p.routes,_⟩ ⟨_,(YfZ (YfV (YfV (YfV (YfV (YfV (YfV (YfV (YfV (Yg0 _) rfl) rfl) rfl) rfl) rfl) rfl) rfl) rfl) _),⟨Ye1 _,rfl,rfl,rfl⟩,_,(congrArg (St.mk _) (Y01 (YfW rfl (YfW rfl (YfW rfl (YfW rfl (YfW rfl (YfW rfl (YfW rfl (YfW rfl (YfW rfl (YfW rfl Yg3))))))))))).symm)⟩ ?_
 rintro⟨i,R,sm⟩ _ ⟨⟨hi,hR,hsm,htn⟩,m0,rfl⟩
 have hRl:R.length=p.routes.length:=by rw[hR,Y1F]
 refine Vd ?_
 refine cD (fun h48=>?_) fun h48=>?_
 have hmem:=Y02 (l:=d.turns) (j:=i) (by omega)
 have h4:=d4 _ hmem
 refine Vt6 ?_
 intro g9
 refine Vy7 ?_
 refine Vw ?_
 refine Vm ?_
 refine Yg1 54 rfl (fun h54=>?_) (fun h54=>?_)
 rw[h54]
 replace h54:=of_decide_eq_true h54
 refine Vz2 ?_
 refine Vk8 ?_
 refine VeI ?_
 refine Vp6 ?_
 refine Ve7 ?_
 (rw[Y0J (Y2q (i:=i) (by omega) (Y8t (by exact .inl (by omega))))];rfl)
 rw[h54]
 replace h54:=of_decide_eq_false h54
 refine Vf4 ?_
 refine Vf4 ?_
 refine VrB ?_
 refine cD (fun h61=>?_) fun h61=>?_
 refine Vr8 ?_
 refine Vp6 ?_
 refine Ve7 ?_
 (rw[Y0J (Y2q (i:=i) (by omega) (Y8t (by exact .inr (by omega))))];rfl)
 refine Vl1 ?_
 refine Ygk YfX (fun st=>(True)∧∃ m0,st=⟨(updS (updS (updS (updS (updS (updS (updS (updS (updS (fun _=>LV.undef) 2 (.ref 128 g2 0 0)) 3 (.ref 192 g3 0 0)) 4 (.ref 256 g4 0 0)) 6 (.ref 384 g6 0 0)) 7 (.bool ((d.turns.take (i+1)).all (asT p)))) 9 (.ref 576 g9 0 0)) 45 (.sl (em kt d.turns))) 46 (.int .i64 (d.turns.length:Int))) 47 (.int .i64 (i:Int))),effM m0 [(128,⟨g2,false,.var,7,[kp p]⟩),(192,⟨g3,false,.var,3,[kd d]⟩),(256,⟨g4,false,.var,7,[[.nils,.nils,.nils,.nils,.nils,.nils,.int .i64 0]]⟩),(384,⟨g6,false,.var,7,[[.own 2752 0 0 p.routes.length none,.own 2753 0 0 p.lock.length none,.own 2754 0 0 p.ice.length none,.own 2755 0 0 p.rv.length none,.own 2756 0 0 p.sv.length none,.own 2757 0 0 p.iv.length none,.int .i64 p.pv]]⟩),(2752,⟨0,false,.slc,1,em nr R⟩),(2753,⟨0,false,.slc,1,em ni p.lock⟩),(2754,⟨0,false,.slc,1,em ni p.ice⟩),(2755,⟨0,false,.slc,1,em ni p.rv⟩),(2756,⟨0,false,.slc,1,em ni p.sv⟩),(2757,⟨0,false,.slc,1,em ni p.iv⟩),(576,⟨g9,false,.var,3,[kt (d.turns.getD i default)]⟩)]⟩) ?_ ?_
 refine Vq4 ?_
 ·refine Yg1 64 rfl (fun h64=>?_) (fun h64=>?_)
  rw[h64]
  refine Vf4 ?_
  refine Vf4 ?_
  refine Vb ?_
  refine VwD ?_
  refine Vp4 ?_
  refine Vh5 ?_
  refine Vm8 ?_
  refine Vb ?_
  refine Yg6 YfX rfl (Frz.aggc (by exact Frz.pure rfl) (Frz.aggc (by exact Frz.pure rfl) (Frz.aggn))) (Y80 _ _ (hp.each _ (Y02 (l:=p.routes) (by omega))) (d4 _ hmem).1) rfl rfl (fun _=>rfl) ?_
  rotate_left
  rw[h64]
  refine Vz ?_
  refine Vu0 ?_
  all_goals
   refine Vd3 ?_
   refine Vt ?_
   refine Vp0 ?_
   refine⟨_,(YfZ (YfV (YfV (YfV (YfV (YfV (YfV (YfV (YfV (YfV (Yg0 _) rfl) rfl) rfl) rfl) (congrArg LV.bool (by rw[Y11 (asT p) (by omega),← hsm,h64];rfl))) rfl) rfl) rfl) rfl) _),trivial,_,hasA⟩
 rintro _ ⟨-,m0,rfl⟩
 refine Vm4 ?_
 refine Vw ?_
 refine Vw ?_
 refine Vm2 ?_
 refine YgD YfX (f:=ni) (l:=(d.turns.getD i default).after) (sz:=1) (z:=[.int .i64 0]) rfl rfl rfl rfl rfl (by decide) (YdK rfl) rfl rfl (fun _=>rfl) (fun _=>rfl) (by have:=(d4 _ hmem).2;omega) ?_
 intro g81
 refine Ygl YfX (sz:=1) (j:=(d.turns.getD i default).car.toNat) rfl rfl rfl rfl rfl rfl rfl rfl (by omega) (by omega) (by omega) ?_
 refine GL.storeMT (n:=1) (vs:=[.sl (em ni (d.turns.getD i default).after)]) rfl rfl rfl rfl rfl rfl (Y08 (by omega)) (Frz.aggc (by exact Yg5 rfl rfl rfl rfl (by exact Y00 _ _)) Frz.aggn) (by decide) rfl rfl (YdK rfl) rfl (Y0M nr _ _ (d.turns.getD i default).after) rfl rfl ?_
 refine Vx0 ?_
 refine Vc ?_
 refine Vm2 ?_
 refine Vq ?_
 refine Yg8 YfX (α:=Nat) (fun j st=>(j≤(d.turns.getD i default).after.length∧∀ q,q<j→1≤(d.turns.getD i default).after.getD q default∧(d.turns.getD i default).after.getD q default<p.sv.length)∧∃ m0,st=⟨(updS (updS (updS (updS (updS (updS (updS (updS (updS (updS (updS (fun _=>LV.undef) 2 (.ref 128 g2 0 0)) 3 (.ref 192 g3 0 0)) 4 (.ref 256 g4 0 0)) 6 (.ref 384 g6 0 0)) 7 (.bool ((d.turns.take (i+1)).all (asT p)))) 45 (.sl (em kt d.turns))) 46 (.int .i64 (d.turns.length:Int))) 47 (.int .i64 (i:Int))) 84 (.sl (em ni (d.turns.getD i default).after))) 85 (.int .i64 ((d.turns.getD i default).after.length:Int))) 86 (.int .i64 (j:Int))),effM m0 [(128,⟨g2,false,.var,7,[kp p]⟩),(192,⟨g3,false,.var,3,[kd d]⟩),(256,⟨g4,false,.var,7,[[.nils,.nils,.nils,.nils,.nils,.nils,.int .i64 0]]⟩),(384,⟨g6,false,.var,7,[[.own 2752 0 0 p.routes.length none,.own 2753 0 0 p.lock.length none,.own 2754 0 0 p.ice.length none,.own 2755 0 0 p.rv.length none,.own 2756 0 0 p.sv.length none,.own 2757 0 0 p.iv.length none,.int .i64 p.pv]]⟩),(2752,⟨0,false,.slc,1,em nr (R.set (d.turns.getD i default).car.toNat (d.turns.getD i default).after)⟩),(2753,⟨0,false,.slc,1,em ni p.lock⟩),(2754,⟨0,false,.slc,1,em ni p.ice⟩),(2755,⟨0,false,.slc,1,em ni p.rv⟩),(2756,⟨0,false,.slc,1,em ni p.sv⟩),(2757,⟨0,false,.slc,1,em ni p.iv⟩)]⟩) (fun j=>(d.turns.getD i default).after.length - j) 0 ⟨_,lessA,⟨Ye1 _,fun q h=>by omega⟩,_,hasA⟩ ?_
 rintro j _ ⟨⟨hj,hj2⟩,m0,rfl⟩
 refine Vd ?_
 refine cD (fun h87=>?_) fun h87=>?_
 refine Vn1 ?_
 refine Vv7 ?_
 refine Yg1 92 rfl (fun h92=>?_) (fun h92=>?_)
 rw[h92]
 replace h92:=of_decide_eq_true h92
 refine Vu0 ?_
 refine Vk8 ?_
 refine VeI ?_
 refine Va1 ?_
 refine Vi8 ?_
 refine Vt7 ?_
 refine Vm5 ?_
 refine Ve7 ?_
 (rw[Y0J (Y2q (i:=i) (by omega) (Y8b (j:=j) (by omega) (by exact .inl (by omega))))];rfl)
 rw[h92]
 replace h92:=of_decide_eq_false h92
 refine Vi ?_
 refine Vq9 ?_
 refine Vm8 ?_
 refine VrB ?_
 refine cD (fun h98=>?_) fun h98=>?_
 refine Vr8 ?_
 refine Va1 ?_
 refine Vi8 ?_
 refine Vt7 ?_
 refine Vm5 ?_
 refine Ve7 ?_
 (rw[Y0J (Y2q (i:=i) (by omega) (Y8b (j:=j) (by omega) (by exact .inr (by omega))))];rfl)
 refine Vs ?_
 refine⟨j+1,(by dsimp only;omega),_,lessA,⟨by omega,fun q hq=>by
       by_cases e:q=j
       · subst e;omega
       · exact hj2 q (by omega)⟩,_,hasA⟩
 refine VcA ?_
 refine⟨⟨i+1,(R.set (d.turns.getD i default).car.toNat (d.turns.getD i default).after),_⟩,(by dsimp only;omega),_,(YfZ (YfV (YfV (YfV (YfV (YfV (YfV (YfV (YfV (Yg0 _) rfl) rfl) rfl) rfl) rfl) rfl) rfl) rfl) _),⟨by omega,by rw[Y1h _ _ (by omega),← hR,setR1,if_pos (by omega)],rfl,by rw[Y11 (turnIn p) (by omega),htn,Y89 (by omega) (fun q hq=>by have:=hj2 q (by omega);omega)];rfl⟩,_,(congrArg (St.mk _) (Y01 (YfW rfl (YfW rfl (YfW rfl (YfW rfl (YfW rfl (YfW rfl (YfW rfl (YfW rfl (YfW rfl (YfW rfl Yg3))))))))))).symm)⟩
 have hRf:R=setR p.routes d.turns:=by rw[hR,YdP (by omega)]
 have hsmf:sm=d.turns.all (asT p):=by rw[hsm,YdP (by omega)]
 have htf:d.turns.all (turnIn p)=true:=by rw[← htn,YdP (by omega)]
 have hRle:∀ r∈R,r.length≤1000000:=by rw[hRf];exact Y6J hp.each d.turns fun t ht=>(d4 t ht).2
 clear hR hsm htn
 refine Ve2 ?_
 refine Vv1 ?_
 intro g102
 refine Vb0 ?_
 refine Vw ?_
 refine Vw4 ?_
 refine Vj7 ?_
 refine Yg8 YfX (α:=Nat × List Int) (fun ⟨i,hk⟩ st=>(i≤p.routes.length∧onceGo R.flatten []=onceGo (R.drop i).flatten hk)∧∃ m0,st=⟨(updS (updS (updS (updS (updS (updS (updS (updS (updS (fun _=>LV.undef) 2 (.ref 128 g2 0 0)) 3 (.ref 192 g3 0 0)) 4 (.ref 256 g4 0 0)) 6 (.ref 384 g6 0 0)) 7 (.bool sm)) 12 (.mref 6528 g102)) 104 (.own 2752 0 0 p.routes.length none)) 105 (.int .i64 (p.routes.length:Int))) 106 (.int .i64 (i:Int))),effM m0 [(128,⟨g2,false,.var,7,[kp p]⟩),(192,⟨g3,false,.var,3,[kd d]⟩),(256,⟨g4,false,.var,7,[[.nils,.nils,.nils,.nils,.nils,.nils,.int .i64 0]]⟩),(384,⟨g6,false,.var,7,[[.own 2752 0 0 p.routes.length none,.own 2753 0 0 p.lock.length none,.own 2754 0 0 p.ice.length none,.own 2755 0 0 p.rv.length none,.own 2756 0 0 p.sv.length none,.own 2757 0 0 p.iv.length none,.int .i64 p.pv]]⟩),(2752,⟨0,false,.slc,1,em nr R⟩),(2753,⟨0,false,.slc,1,em ni p.lock⟩),(2754,⟨0,false,.slc,1,em ni p.ice⟩),(2755,⟨0,false,.slc,1,em ni p.rv⟩),(2756,⟨0,false,.slc,1,em ni p.sv⟩),(2757,⟨0,false,.slc,1,em ni p.iv⟩),(6528,⟨g102,false,.mp,2,em kb hk⟩)]⟩) (fun ⟨i,hk⟩=>p.routes.length - i) ⟨0,[]⟩ ⟨_,lessA,⟨Ye1 _,rfl⟩,_,hasA⟩ ?_
 rintro⟨i,hk⟩ _ ⟨⟨hi4,hA⟩,m0,rfl⟩
 refine Vd ?_
 refine cD (fun h107=>?_) fun h107=>?_
 have hrr:=hRle _ (Y02 (l:=R) (j:=i) (by omega))
 refine Vl4 ?_
 refine VkG ?_
 refine Vz4 ?_
 refine Vd0 ?_
 refine Vq ?_
 refine Yg8 YfX (α:=Nat × List Int) (fun ⟨j,hk'⟩ st=>(j≤(R.getD i default).length∧onceGo (R.drop i).flatten hk=onceGo ((R.getD i default).drop j++(R.drop (i+1)).flatten) hk')∧∃ m0,st=⟨(updS (updS (updS (updS (updS (updS (updS (updS (updS (updS (updS (updS (fun _=>LV.undef) 2 (.ref 128 g2 0 0)) 3 (.ref 192 g3 0 0)) 4 (.ref 256 g4 0 0)) 6 (.ref 384 g6 0 0)) 7 (.bool sm)) 12 (.mref 6528 g102)) 104 (.own 2752 0 0 p.routes.length none)) 105 (.int .i64 (p.routes.length:Int))) 106 (.int .i64 (i:Int))) 110 (.sl (em ni (R.getD i default)))) 111 (.int .i64 ((R.getD i default).length:Int))) 112 (.int .i64 (j:Int))),effM m0 [(128,⟨g2,false,.var,7,[kp p]⟩),(192,⟨g3,false,.var,3,[kd d]⟩),(256,⟨g4,false,.var,7,[[.nils,.nils,.nils,.nils,.nils,.nils,.int .i64 0]]⟩),(384,⟨g6,false,.var,7,[[.own 2752 0 0 p.routes.length none,.own 2753 0 0 p.lock.length none,.own 2754 0 0 p.ice.length none,.own 2755 0 0 p.rv.length none,.own 2756 0 0 p.sv.length none,.own 2757 0 0 p.iv.length none,.int .i64 p.pv]]⟩),(2752,⟨0,false,.slc,1,em nr R⟩),(2753,⟨0,false,.slc,1,em ni p.lock⟩),(2754,⟨0,false,.slc,1,em ni p.ice⟩),(2755,⟨0,false,.slc,1,em ni p.rv⟩),(2756,⟨0,false,.slc,1,em ni p.sv⟩),(2757,⟨0,false,.slc,1,em ni p.iv⟩),(6528,⟨g102,false,.mp,2,em kb hk'⟩)]⟩) (fun ⟨j,hk'⟩=>(R.getD i default).length - j) ⟨0,_⟩ ⟨_,(YfZ (YfV (YfV (YfV (YfV (YfV (YfV (YfV (YfV (YfV (YfV (YfV (YfV (Yg0 _) rfl) rfl) rfl) rfl) rfl) rfl) rfl) rfl) rfl) rfl) rfl) rfl) _),⟨Ye1 _,by rw[Y09 (l:=R) (by omega),YfC];rfl⟩,_,(congrArg (St.mk _) (Y01 (YfW rfl (YfW rfl (YfW rfl (YfW rfl (YfW rfl (YfW rfl (YfW rfl (YfW rfl (YfW rfl (YfW rfl (YfW rfl Yg3)))))))))))).symm)⟩ ?_
 rintro⟨j,hk'⟩ _ ⟨⟨hj,hB⟩,m0,rfl⟩
 refine Vd ?_
 refine cD (fun h113=>?_) fun h113=>?_
 refine Vn1 ?_
 refine Ve0 ?_
 refine Va ?_
 refine VaF ?_
 refine Vj0 ?_
 refine cD (fun h118=>?_) fun h118=>?_
 refine Vr8 ?_
 refine Va1 ?_
 refine Vh7 ?_
 refine Vt7 ?_
 refine Vm5 ?_
 refine Ve7 ?_
 (rw[Y8R (by rw[← hRf,onceB,hA,hB,Y09 (l:=R.getD i default) (by omega),YdW,Ycw (by simpa using h118)])];rfl)
 refine Vq8 ?_
 refine VpA ?_
 refine⟨⟨j+1,_⟩,(by dsimp only;omega),_,(YfZ (YfV (YfV (YfV (YfV (YfV (YfV (YfV (YfV (YfV (YfV (YfV (YfV (Yg0 _) rfl) rfl) rfl) rfl) rfl) rfl) rfl) rfl) rfl) rfl) rfl) rfl) _),⟨by omega,by rw[hB,Y09 (by omega),YdW,YaQ (by simpa using h118)]⟩,_,(congrArg (St.mk _) (Y01 (YfW rfl (YfW rfl (YfW rfl (YfW rfl (YfW rfl (YfW rfl (YfW rfl (YfW rfl (YfW rfl (YfW rfl (YfW rfl Yg3)))))))))))).symm)⟩
 refine VcA ?_
 refine⟨⟨i+1,_⟩,(by dsimp only;omega),_,(YfZ (YfV (YfV (YfV (YfV (YfV (YfV (YfV (YfV (YfV (Yg0 _) rfl) rfl) rfl) rfl) rfl) rfl) rfl) rfl) rfl) _),⟨by omega,by rw[hA,hB,Y0m (by omega),YdY]⟩,_,(congrArg (St.mk _) (Y01 (YfW rfl (YfW rfl (YfW rfl (YfW rfl (YfW rfl (YfW rfl (YfW rfl (YfW rfl (YfW rfl (YfW rfl (YfW rfl Yg3)))))))))))).symm)⟩
 have hon:onceB (setR p.routes d.turns)=true:=by rw[← hRf,onceB,hA,Y0m (by omega)];rfl
 refine Vr1 ?_
 refine Vo1 ?_
 refine Vq ?_
 refine Yg8 YfX (α:=Nat × Bool) (fun ⟨i,sm8⟩ st=>(i≤d.locks.length∧(d.locks.take i).all (fun h=>stopIn p h.n)=true∧sm8=(sm && (d.locks.take i).all (asL p)))∧∃ m0,st=⟨(updS (updS (updS (updS (updS (updS (updS (updS (fun _=>LV.undef) 2 (.ref 128 g2 0 0)) 3 (.ref 192 g3 0 0)) 4 (.ref 256 g4 0 0)) 6 (.ref 384 g6 0 0)) 7 (.bool sm8)) 125 (.sl (em kh d.locks))) 126 (.int .i64 (d.locks.length:Int))) 127 (.int .i64 (i:Int))),effM m0 [(128,⟨g2,false,.var,7,[kp p]⟩),(192,⟨g3,false,.var,3,[kd d]⟩),(256,⟨g4,false,.var,7,[[.nils,.nils,.nils,.nils,.nils,.nils,.int .i64 0]]⟩),(384,⟨g6,false,.var,7,[[.own 2752 0 0 p.routes.length none,.own 2753 0 0 p.lock.length none,.own 2754 0 0 p.ice.length none,.own 2755 0 0 p.rv.length none,.own 2756 0 0 p.sv.length none,.own 2757 0 0 p.iv.length none,.int .i64 p.pv]]⟩),(2752,⟨0,false,.slc,1,em nr R⟩),(2753,⟨0,false,.slc,1,em ni p.lock⟩),(2754,⟨0,false,.slc,1,em ni p.ice⟩),(2755,⟨0,false,.slc,1,em ni p.rv⟩),(2756,⟨0,false,.slc,1,em ni p.sv⟩),(2757,⟨0,false,.slc,1,em ni p.iv⟩)]⟩) (fun ⟨i,sm8⟩=>d.locks.length - i) ⟨0,sm⟩ ⟨_,lessA,⟨Ye1 _,rfl,(YfF _).symm⟩,_,hasA⟩ ?_
 rintro⟨i,sm8⟩ _ ⟨⟨hi8,htl,hs8⟩,m0,rfl⟩
 refine Vd ?_
 refine cD (fun h128=>?_) fun h128=>?_
 have hmem:=Y02 (l:=d.locks) (j:=i) (by omega)
 refine Vj3 ?_
 intro g18
 refine Vz3 ?_
 refine Vo1 ?_
 refine Vw ?_
 refine VpC ?_
 refine Vu2 ?_
 refine Ve0 ?_
 refine Vc3 ?_
 refine Yg1 141 rfl (fun h141=>?_) (fun h141=>?_)
 rw[h141]
 have hlk:(d.locks.getD i default).n<1∨(d.locks.getD i default).n≥p.lock.length:=by
   have hnot:¬ (0≤(d.locks.getD i default).n∧(d.locks.getD i default).n<p.lock.length):=fun e=>Bool.false_ne_true ((nf' h141).symm.trans (Y4D.2 e))
   omega
 refine Vn0 ?_
 refine Vk8 ?_
 refine VeI ?_
 refine Vp6 ?_
 refine Ve7 ?_
 (rw[Y0J (Y5a (i:=i) (by omega) (Y7o hlk))];rfl)
 rw[h141]
 have hin8:=Y4D.1 (nt' h141)
 refine Vf4 ?_
 refine Vi1 ?_
 refine cD (fun h145=>?_) fun h145=>?_
 have hlk:(d.locks.getD i default).n<1∨(d.locks.getD i default).n≥p.lock.length:=.inl (by omega)
 refine Vr8 ?_
 refine Vp6 ?_
 refine Ve7 ?_
 (rw[Y0J (Y5a (i:=i) (by omega) (Y7o hlk))];rfl)
 have hyes:=Y6f hin8
 have hst:=Y81 (p:=p) (n:=(d.locks.getD i default).n) (by omega)
 refine Vq8 ?_
 ·refine Yg1 148 rfl (fun h148=>?_) (fun h148=>?_)
  rw[h148]
  refine Vi ?_
  refine Vb6 ?_
  refine Vm8 ?_
  refine Vh1 ?_
  rotate_left
  rw[h148]
  refine Vz ?_
  all_goals
   refine Vd3 ?_
   refine Vy2 ?_
   refine⟨⟨i+1,_⟩,(by dsimp only;omega),_,(YfZ (YfV (YfV (YfV (YfV (YfV (YfV (YfV (YfV (Yg0 _) rfl) rfl) rfl) rfl) rfl) rfl) rfl) rfl) _),⟨by omega,by rw[Y11 (fun h:Hold=>stopIn p h.n) (by omega),htl,hst];rfl,by rw[Y11 (asL p) (by omega),← YfQ,← hs8,h148];first | rfl | (rw[hyes];rfl)⟩,_,(congrArg (St.mk _) (Y01 (YfW rfl (YfW rfl (YfW rfl (YfW rfl (YfW rfl (YfW rfl (YfW rfl (YfW rfl (YfW rfl (YfW rfl Yg3))))))))))).symm)⟩
 have hlf:d.locks.all (fun h=>stopIn p h.n)=true:=by rw[← htl,YdP (by omega)]
 have hs8f:sm8=(sm && d.locks.all (asL p)):=by rw[hs8,YdP (by omega)]
 refine Vr1 ?_
 refine Vm2 ?_
 refine Vq ?_
 refine Yg8 YfX (α:=Nat × Bool) (fun ⟨i,smX⟩ st=>(i≤d.ices.length∧(d.ices.take i).all (fun h=>carIn p h.n)=true∧smX=(sm8 && (d.ices.take i).all (asI p)))∧∃ m0,st=⟨(updS (updS (updS (updS (updS (updS (updS (updS (fun _=>LV.undef) 2 (.ref 128 g2 0 0)) 3 (.ref 192 g3 0 0)) 4 (.ref 256 g4 0 0)) 6 (.ref 384 g6 0 0)) 7 (.bool smX)) 156 (.sl (em kh d.ices))) 157 (.int .i64 (d.ices.length:Int))) 158 (.int .i64 (i:Int))),effM m0 [(128,⟨g2,false,.var,7,[kp p]⟩),(192,⟨g3,false,.var,3,[kd d]⟩),(256,⟨g4,false,.var,7,[[.nils,.nils,.nils,.nils,.nils,.nils,.int .i64 0]]⟩),(384,⟨g6,false,.var,7,[[.own 2752 0 0 p.routes.length none,.own 2753 0 0 p.lock.length none,.own 2754 0 0 p.ice.length none,.own 2755 0 0 p.rv.length none,.own 2756 0 0 p.sv.length none,.own 2757 0 0 p.iv.length none,.int .i64 p.pv]]⟩),(2752,⟨0,false,.slc,1,em nr R⟩),(2753,⟨0,false,.slc,1,em ni p.lock⟩),(2754,⟨0,false,.slc,1,em ni p.ice⟩),(2755,⟨0,false,.slc,1,em ni p.rv⟩),(2756,⟨0,false,.slc,1,em ni p.sv⟩),(2757,⟨0,false,.slc,1,em ni p.iv⟩)]⟩) (fun ⟨i,smX⟩=>d.ices.length - i) ⟨0,sm8⟩ ⟨_,lessA,⟨Ye1 _,rfl,(YfF _).symm⟩,_,hasA⟩ ?_
 rintro⟨i,smX⟩ _ ⟨⟨hi10,hti,hsX⟩,m0,rfl⟩
 refine Vd ?_
 refine cD (fun h159=>?_) fun h159=>?_
 have hmem:=Y02 (l:=d.ices) (j:=i) (by omega)
 refine Vj3 ?_
 intro g22
 refine Vz3 ?_
 refine Vm2 ?_
 refine Vw ?_
 refine VpC ?_
 refine Vu2 ?_
 refine Ve0 ?_
 refine Vb1 ?_
 refine Ygb rfl (fun h171=>?_) (fun h171=>?_)
 have hic:¬ (0≤(d.ices.getD i default).n∧(d.ices.getD i default).n<p.routes.length):=fun e=>Bool.false_ne_true ((nf' h171).symm.trans (Y4D.2 (by omega)))
 refine Vr8 ?_
 refine Vp6 ?_
 refine Ve7 ?_
 (rw[Y0J (YaI (i:=i) (by omega) (Ydw hic))];rfl)
 have hin10:=Y4D.1 (nt' h171)
 have hyes:=Y6f hin10
 have hst:=Y9u (p:=p) (n:=(d.ices.getD i default).n) (by omega)
 refine Vq8 ?_
 ·refine Yg1 174 rfl (fun h174=>?_) (fun h174=>?_)
  rw[h174]
  refine Vi ?_
  refine Vb6 ?_
  refine Vm8 ?_
  refine Vh1 ?_
  rotate_left
  rw[h174]
  refine Vz ?_
  all_goals
   refine Vd3 ?_
   refine Vy2 ?_
   refine⟨⟨i+1,_⟩,(by dsimp only;omega),_,(YfZ (YfV (YfV (YfV (YfV (YfV (YfV (YfV (YfV (Yg0 _) rfl) rfl) rfl) rfl) rfl) rfl) rfl) rfl) _),⟨by omega,by rw[Y11 (fun h:Hold=>carIn p h.n) (by omega),hti,hst];rfl,by rw[Y11 (asI p) (by omega),← YfQ,← hsX,h174];first | rfl | (rw[hyes];rfl)⟩,_,(congrArg (St.mk _) (Y01 (YfW rfl (YfW rfl (YfW rfl (YfW rfl (YfW rfl (YfW rfl (YfW rfl (YfW rfl (YfW rfl (YfW rfl Yg3))))))))))).symm)⟩
 have hif:d.ices.all (fun h=>carIn p h.n)=true:=by rw[← hti,YdP (by omega)]
 have hsf:smX=(d.turns.all (asT p) && d.locks.all (asL p) && d.ices.all (asI p)):=by rw[hsX,YdP (by omega),hs8f,hsmf]
 have hth:thereB p d=true:=by rw[thereB,htf,hlf,hif];rfl
 refine VqA ?_
 refine Vb1 ?_
 refine Ygb rfl (fun h182=>?_) (fun h182=>?_)
 refine Vr8 ?_
 refine Vn7 ?_
 refine Ve7 ?_
 (rw[YbW hck hth hon (by rw[Y69,← YfQ,← hsf];exact nf' h182)];rfl)
 have has:asB p d=true:=by rw[Y69,← YfQ,← hsf];exact nt' h182
 have hin:=YbO hs hth has
 have hal:=Y1y hth
 refine Vf0 ?_
 refine Vg6 ?_
 refine VeF ?_
 refine Vz0 ?_
 intro g25
 refine Vy7 ?_
 refine Vw ?_
 refine Vq ?_
 refine Yg8 YfX (α:=Nat × List Int) (fun ⟨i,RV⟩ st=>(i≤(tidyD d).turns.length∧RV=bump p.rv (((tidyD d).turns.map Turn.car).take i))∧∃ m0,st=⟨(updS (updS (updS (updS (updS (updS (updS (updS (fun _=>LV.undef) 2 (.ref 128 g2 0 0)) 3 (.ref 192 g3 0 0)) 4 (.ref 256 g4 0 0)) 6 (.ref 384 g6 0 0)) 25 (.ref 1600 g25 0 0)) 187 (.sl (em kt (tidyD d).turns))) 188 (.int .i64 ((tidyD d).turns.length:Int))) 189 (.int .i64 (i:Int))),effM m0 [(128,⟨g2,false,.var,7,[kp p]⟩),(192,⟨g3,false,.var,3,[kd d]⟩),(256,⟨g4,false,.var,7,[[.nils,.nils,.nils,.nils,.nils,.nils,.int .i64 0]]⟩),(384,⟨g6,false,.var,7,[[.own 2752 0 0 p.routes.length none,.own 2753 0 0 p.lock.length none,.own 2754 0 0 p.ice.length none,.own 2755 0 0 p.rv.length none,.own 2756 0 0 p.sv.length none,.own 2757 0 0 p.iv.length none,.int .i64 p.pv]]⟩),(2752,⟨0,false,.slc,1,em nr R⟩),(2753,⟨0,false,.slc,1,em ni p.lock⟩),(2754,⟨0,false,.slc,1,em ni p.ice⟩),(2755,⟨0,false,.slc,1,em ni RV⟩),(2756,⟨0,false,.slc,1,em ni p.sv⟩),(2757,⟨0,false,.slc,1,em ni p.iv⟩),(1600,⟨g25,false,.var,3,[kd (tidyD d)]⟩)]⟩) (fun ⟨i,RV⟩=>(tidyD d).turns.length - i) ⟨0,p.rv⟩ ⟨_,lessA,⟨Ye1 _,rfl⟩,_,hasA⟩ ?_
 rintro⟨i,RV⟩ _ ⟨⟨hi12,hRV⟩,m0,rfl⟩
 have hRVl:RV.length=p.rv.length:=by rw[hRV,Y2b]
 refine Vd ?_
 refine cD (fun h190=>?_) fun h190=>?_
 have hc:=hal.1 _ (Y3k (Y02 (l:=(tidyD d).turns) (j:=i) (by omega)))
 refine Vt6 ?_
 intro g27
 refine Vg3 ?_
 refine Vf ?_
 refine Ve3 ?_
 refine VcB ?_
 refine Vw ?_
 refine VhF ?_
 refine Vz4 ?_
 refine Vu ?_
 refine VhF ?_
 refine Ygs YfX (n:=1) rfl rfl rfl rfl rfl rfl (Y08 (by omega)) rfl rfl rfl rfl (YdK rfl) rfl (Y0M ni _ _ (wadd (RV.getD ((tidyD d).turns.getD i default).car.toNat default) 1)) ?_
 refine Vi3 ?_
 refine⟨⟨i+1,_⟩,(by dsimp only;omega),_,(YfZ (YfV (YfV (YfV (YfV (YfV (YfV (YfV (YfV (Yg0 _) rfl) rfl) rfl) rfl) rfl) rfl) rfl) rfl) _),⟨by omega,by rw[Y4u _ _ (by rw[Ye4];omega),← hRV,bump1,Y1H _ (by omega)]⟩,_,(congrArg (St.mk _) (Y01 (YfW rfl (YfW rfl (YfW rfl (YfW rfl (YfW rfl (YfW rfl (YfW rfl (YfW rfl (YfW rfl (YfW rfl (YfW rfl Yg3)))))))))))).symm)⟩
 have hRVf:RV=bump p.rv ((tidyD d).turns.map Turn.car):=by rw[hRV,YdP (by rw[Ye4];omega)]
 refine Ve2 ?_
 refine Vv1 ?_
 intro g202
 refine Vb0 ?_
 refine Vo1 ?_
 refine Vq ?_
 refine Yg8 YfX (α:=Nat × List Int × List Int) (fun ⟨i,L,S⟩ st=>(i≤(tidyD d).locks.length∧L=setLs p.lock ((tidyD d).locks.take i)∧S=(((tidyD d).locks.map Hold.n).take i).foldl addK [])∧∃ m0,st=⟨(updS (updS (updS (updS (updS (updS (updS (updS (updS (fun _=>LV.undef) 2 (.ref 128 g2 0 0)) 3 (.ref 192 g3 0 0)) 4 (.ref 256 g4 0 0)) 6 (.ref 384 g6 0 0)) 25 (.ref 1600 g25 0 0)) 28 (.mref 12928 g202)) 204 (.sl (em kh (tidyD d).locks))) 205 (.int .i64 ((tidyD d).locks.length:Int))) 206 (.int .i64 (i:Int))),effM m0 [(128,⟨g2,false,.var,7,[kp p]⟩),(192,⟨g3,false,.var,3,[kd d]⟩),(256,⟨g4,false,.var,7,[[.nils,.nils,.nils,.nils,.nils,.nils,.int .i64 0]]⟩),(384,⟨g6,false,.var,7,[[.own 2752 0 0 p.routes.length none,.own 2753 0 0 p.lock.length none,.own 2754 0 0 p.ice.length none,.own 2755 0 0 p.rv.length none,.own 2756 0 0 p.sv.length none,.own 2757 0 0 p.iv.length none,.int .i64 p.pv]]⟩),(2752,⟨0,false,.slc,1,em nr R⟩),(2753,⟨0,false,.slc,1,em ni L⟩),(2754,⟨0,false,.slc,1,em ni p.ice⟩),(2755,⟨0,false,.slc,1,em ni RV⟩),(2756,⟨0,false,.slc,1,em ni p.sv⟩),(2757,⟨0,false,.slc,1,em ni p.iv⟩),(1600,⟨g25,false,.var,3,[kd (tidyD d)]⟩),(12928,⟨g202,false,.mp,2,em kb S⟩)]⟩) (fun ⟨i,L,S⟩=>(tidyD d).locks.length - i) ⟨0,p.lock,[]⟩ ⟨_,lessA,⟨Ye1 _,rfl,rfl⟩,_,hasA⟩ ?_
 rintro⟨i,L,S⟩ _ ⟨⟨hi14,hL,hS⟩,m0,rfl⟩
 have hLl:L.length=p.lock.length:=by rw[hL,Y2M]
 refine Vd ?_
 refine cD (fun h207=>?_) fun h207=>?_
 have hc:=hal.2.1 _ (Y1p (Y02 (l:=(tidyD d).locks) (j:=i) (by omega)))
 refine Vj3 ?_
 intro g30
 refine Vg3 ?_
 refine Vi0 ?_
 refine Vo1 ?_
 refine Vw ?_
 refine Va ?_
 refine Vw ?_
 refine Vm2 ?_
 refine Ygl YfX (sz:=1) (j:=((tidyD d).locks.getD i default).n.toNat) rfl rfl rfl rfl rfl rfl rfl rfl (by omega) (by omega) (by omega) ?_
 refine Ygs YfX (n:=1) rfl rfl rfl rfl rfl rfl (Y08 (by omega)) rfl rfl rfl rfl (YdK rfl) rfl (Y0M ni _ _ ((tidyD d).locks.getD i default).after) ?_
 refine VoN ?_
 refine Vs5 ?_
 refine⟨⟨i+1,_,_⟩,(by dsimp only;omega),_,(YfZ (YfV (YfV (YfV (YfV (YfV (YfV (YfV (YfV (YfV (Yg0 _) rfl) rfl) rfl) rfl) rfl) rfl) rfl) rfl) rfl) _),⟨by omega,by rw[Y5i _ _ (by omega),← hL,setL1],by rw[Y0a (by rw[Ye4];omega),YeG,← hS,Y1H _ (by omega)];rfl⟩,_,(congrArg (St.mk _) (Y01 (YfW rfl (YfW rfl (YfW rfl (YfW rfl (YfW rfl (YfW rfl (YfW rfl (YfW rfl (YfW rfl (YfW rfl (YfW rfl (YfW rfl Yg3))))))))))))).symm)⟩
 have hLf:L=setLs p.lock (tidyD d).locks:=by rw[hL,YdP (by omega)]
 have hSf:S=((tidyD d).locks.map Hold.n).foldl addK []:=by rw[hS,YdP (by rw[Ye4];omega)]
 clear hL hS
 refine Vr1 ?_
 refine Vm2 ?_
 refine Vq ?_
 refine Yg8 YfX (α:=Nat × List Int × List Int) (fun ⟨i,I,IV⟩ st=>(i≤(tidyD d).ices.length∧I=setLs p.ice ((tidyD d).ices.take i)∧IV=bump p.iv (((tidyD d).ices.map Hold.n).take i))∧∃ m0,st=⟨(updS (updS (updS (updS (updS (updS (updS (updS (updS (fun _=>LV.undef) 2 (.ref 128 g2 0 0)) 3 (.ref 192 g3 0 0)) 4 (.ref 256 g4 0 0)) 6 (.ref 384 g6 0 0)) 25 (.ref 1600 g25 0 0)) 28 (.mref 12928 g202)) 222 (.sl (em kh (tidyD d).ices))) 223 (.int .i64 ((tidyD d).ices.length:Int))) 224 (.int .i64 (i:Int))),effM m0 [(128,⟨g2,false,.var,7,[kp p]⟩),(192,⟨g3,false,.var,3,[kd d]⟩),(256,⟨g4,false,.var,7,[[.nils,.nils,.nils,.nils,.nils,.nils,.int .i64 0]]⟩),(384,⟨g6,false,.var,7,[[.own 2752 0 0 p.routes.length none,.own 2753 0 0 p.lock.length none,.own 2754 0 0 p.ice.length none,.own 2755 0 0 p.rv.length none,.own 2756 0 0 p.sv.length none,.own 2757 0 0 p.iv.length none,.int .i64 p.pv]]⟩),(2752,⟨0,false,.slc,1,em nr R⟩),(2753,⟨0,false,.slc,1,em ni L⟩),(2754,⟨0,false,.slc,1,em ni I⟩),(2755,⟨0,false,.slc,1,em ni RV⟩),(2756,⟨0,false,.slc,1,em ni p.sv⟩),(2757,⟨0,false,.slc,1,em ni IV⟩),(1600,⟨g25,false,.var,3,[kd (tidyD d)]⟩),(12928,⟨g202,false,.mp,2,em kb S⟩)]⟩) (fun ⟨i,I,IV⟩=>(tidyD d).ices.length - i) ⟨0,p.ice,p.iv⟩ ⟨_,lessA,⟨Ye1 _,rfl,rfl⟩,_,hasA⟩ ?_
 rintro⟨i,I,IV⟩ _ ⟨⟨hi16,hI,hIV⟩,m0,rfl⟩
 have hIl:I.length=p.ice.length:=by rw[hI,Y2M]
 have hIVl:IV.length=p.iv.length:=by rw[hIV,Y2b]
 refine Vd ?_
 refine cD (fun h225=>?_) fun h225=>?_
 have hc:=hal.2.2 _ (Y4s (Y02 (l:=(tidyD d).ices) (j:=i) (by omega)))
 refine Vj3 ?_
 intro g32
 refine Vz3 ?_
 refine Vm2 ?_
 refine Vw ?_
 refine Vm2 ?_
 refine VvG ?_
 refine Ygs YfX (n:=1) rfl rfl rfl rfl rfl rfl (Y08 (by omega)) rfl rfl rfl rfl (YdK rfl) rfl (Y0M ni _ _ ((tidyD d).ices.getD i default).after) ?_
 refine Vj0 ?_
 refine Vf ?_
 refine Vx4 ?_
 refine VcB ?_
 refine Vw ?_
 refine VvG ?_
 refine Vz4 ?_
 refine Vu ?_
 refine VvG ?_
 refine Ygs YfX (n:=1) rfl rfl rfl rfl rfl rfl (Y08 (by omega)) rfl rfl rfl rfl (YdK rfl) rfl (Y0M ni _ _ (wadd (IV.getD ((tidyD d).ices.getD i default).n.toNat default) 1)) ?_
 refine Vi3 ?_
 refine⟨⟨i+1,_,_⟩,(by dsimp only;omega),_,(YfZ (YfV (YfV (YfV (YfV (YfV (YfV (YfV (YfV (YfV (Yg0 _) rfl) rfl) rfl) rfl) rfl) rfl) rfl) rfl) rfl) _),⟨by omega,by rw[Y5i _ _ (by omega),← hI,setL1],by rw[Y4u _ _ (by rw[Ye4];omega),← hIV,bump1,Y1H _ (by omega)]⟩,_,(congrArg (St.mk _) (Y01 (YfW rfl (YfW rfl (YfW rfl (YfW rfl (YfW rfl (YfW rfl (YfW rfl (YfW rfl (YfW rfl (YfW rfl (YfW rfl (YfW rfl Yg3))))))))))))).symm)⟩
 have hIf:I=setLs p.ice (tidyD d).ices:=by rw[hI,YdP (by omega)]
 have hIVf:IV=bump p.iv ((tidyD d).ices.map Hold.n):=by rw[hIV,YdP (by rw[Ye4];omega)]
 refine Ve2 ?_
 refine Vg6 ?_
 refine Yg6 YfX rfl (Frz.aggc (by exact YfY rfl) (Frz.aggn)) (Y5Y _ hT) rfl rfl (fun _=>rfl) ?_
 refine Vp8 ?_
 refine Yg8 YfX (α:=Nat × List Int) (fun ⟨i,S2⟩ st=>(i≤(movedL (tidyD d)).length∧S2=((movedL (tidyD d)).take i).foldl addK S)∧∃ m0,st=⟨(updS (updS (updS (updS (updS (updS (updS (updS (updS (fun _=>LV.undef) 2 (.ref 128 g2 0 0)) 3 (.ref 192 g3 0 0)) 4 (.ref 256 g4 0 0)) 6 (.ref 384 g6 0 0)) 28 (.mref 12928 g202)) 33 (.sl (em ni (movedL (tidyD d))))) 246 (.sl (em ni (movedL (tidyD d))))) 247 (.int .i64 ((movedL (tidyD d)).length:Int))) 248 (.int .i64 (i:Int))),effM m0 [(128,⟨g2,false,.var,7,[kp p]⟩),(192,⟨g3,false,.var,3,[kd d]⟩),(256,⟨g4,false,.var,7,[[.nils,.nils,.nils,.nils,.nils,.nils,.int .i64 0]]⟩),(384,⟨g6,false,.var,7,[[.own 2752 0 0 p.routes.length none,.own 2753 0 0 p.lock.length none,.own 2754 0 0 p.ice.length none,.own 2755 0 0 p.rv.length none,.own 2756 0 0 p.sv.length none,.own 2757 0 0 p.iv.length none,.int .i64 p.pv]]⟩),(2752,⟨0,false,.slc,1,em nr R⟩),(2753,⟨0,false,.slc,1,em ni L⟩),(2754,⟨0,false,.slc,1,em ni I⟩),(2755,⟨0,false,.slc,1,em ni RV⟩),(2756,⟨0,false,.slc,1,em ni p.sv⟩),(2757,⟨0,false,.slc,1,em ni IV⟩),(12928,⟨g202,false,.mp,2,em kb S2⟩)]⟩) (fun ⟨i,S2⟩=>(movedL (tidyD d)).length - i) ⟨0,S⟩ ⟨_,lessA,⟨Ye1 _,rfl⟩,_,hasA⟩ ?_
 rintro⟨i,S2⟩ _ ⟨⟨hi18,hS2⟩,m0,rfl⟩
 refine Vd ?_
 refine cD (fun h249=>?_) fun h249=>?_
 refine Vn1 ?_
 refine Vm3 ?_
 refine VpA ?_
 refine⟨⟨i+1,_⟩,(by dsimp only;omega),_,(YfZ (YfV (YfV (YfV (YfV (YfV (YfV (YfV (YfV (YfV (Yg0 _) rfl) rfl) rfl) rfl) rfl) rfl) rfl) rfl) rfl) _),⟨by omega,by rw[Y0a (by omega),YeG,← hS2];rfl⟩,_,(congrArg (St.mk _) (Y01 (YfW rfl (YfW rfl (YfW rfl (YfW rfl (YfW rfl (YfW rfl (YfW rfl (YfW rfl (YfW rfl (YfW rfl (YfW rfl Yg3)))))))))))).symm)⟩
 have hSf2:S2=touchS (tidyD d):=by rw[hS2,YdP (by omega),hSf];rfl
 have hlen2:S2.length≤100000000:=by
   have h3:=Y1q ((tidyD d).locks.map Hold.n) []
   have h4:=Y1q ((movedL (tidyD d)).take i) S
   rw[← hSf] at h3
   rw[← hS2] at h4
   simp only[Yek,Ye4,YeM] at h3 h4
   omega
 have hsl:(sorted S2).length≤100000000:=by rw[Y3m];exact hlen2
 refine Vw9 ?_
 refine VfI ?_
 rw[Yak]
 refine Vl ?_
 refine GL.callM0 YfX rfl (Frz.aggc (Frz.mref rfl rfl rfl rfl) Frz.aggn) (Y6E (S2.map fun n=>(n,true)) (by rw[Ye4];omega)) rfl rfl (fun _=>rfl) ?_
 rw[YcZ]
 refine Vq ?_
 refine Yg8 YfX (α:=Nat × List Int) (fun ⟨i,SV⟩ st=>(i≤(sorted S2).length∧SV=bump p.sv ((sorted S2).take i))∧∃ m0,st=⟨(updS (updS (updS (updS (updS (updS (updS (updS (fun _=>LV.undef) 2 (.ref 128 g2 0 0)) 3 (.ref 192 g3 0 0)) 4 (.ref 256 g4 0 0)) 6 (.ref 384 g6 0 0)) 33 (.sl (em ni (movedL (tidyD d))))) 256 (.sl (em ni (sorted S2)))) 257 (.int .i64 ((sorted S2).length:Int))) 258 (.int .i64 (i:Int))),effM m0 [(128,⟨g2,false,.var,7,[kp p]⟩),(192,⟨g3,false,.var,3,[kd d]⟩),(256,⟨g4,false,.var,7,[[.nils,.nils,.nils,.nils,.nils,.nils,.int .i64 0]]⟩),(384,⟨g6,false,.var,7,[[.own 2752 0 0 p.routes.length none,.own 2753 0 0 p.lock.length none,.own 2754 0 0 p.ice.length none,.own 2755 0 0 p.rv.length none,.own 2756 0 0 p.sv.length none,.own 2757 0 0 p.iv.length none,.int .i64 p.pv]]⟩),(2752,⟨0,false,.slc,1,em nr R⟩),(2753,⟨0,false,.slc,1,em ni L⟩),(2754,⟨0,false,.slc,1,em ni I⟩),(2755,⟨0,false,.slc,1,em ni RV⟩),(2756,⟨0,false,.slc,1,em ni SV⟩),(2757,⟨0,false,.slc,1,em ni IV⟩)]⟩) (fun ⟨i,SV⟩=>(sorted S2).length - i) ⟨0,p.sv⟩ ⟨_,lessA,⟨Ye1 _,rfl⟩,_,hasA⟩ ?_
 rintro⟨i,SV⟩ _ ⟨⟨hi20,hSV⟩,m0,rfl⟩
 have hSVl:SV.length=p.sv.length:=by rw[hSV,Y2b]
 refine Vd ?_
 refine cD (fun h259=>?_) fun h259=>?_
 have hw:=hin ((sorted S2).getD i default) (by rw[← hSf2];exact Y02 (by omega))
 refine Vn1 ?_
 refine Vy ?_
 refine Vf ?_
 refine Vq9 ?_
 refine VcB ?_
 refine Va ?_
 refine VtK ?_
 refine Vz4 ?_
 refine Vu ?_
 refine VtK ?_
 refine Ygs YfX (n:=1) rfl rfl rfl rfl rfl rfl (Y08 (by omega)) rfl rfl rfl rfl (YdK rfl) rfl (Y0M ni _ _ (wadd (SV.getD ((sorted S2).getD i default).toNat default) 1)) ?_
 refine Vi3 ?_
 refine⟨⟨i+1,_⟩,(by dsimp only;omega),_,(YfZ (YfV (YfV (YfV (YfV (YfV (YfV (YfV (YfV (Yg0 _) rfl) rfl) rfl) rfl) rfl) rfl) rfl) rfl) _),⟨by omega,by rw[Y4u _ _ (by omega),← hSV,bump1]⟩,_,(congrArg (St.mk _) (Y01 (YfW rfl (YfW rfl (YfW rfl (YfW rfl (YfW rfl (YfW rfl (YfW rfl (YfW rfl (YfW rfl (YfW rfl Yg3))))))))))).symm)⟩
 have hSVf:SV=bump p.sv (sorted (touchS (tidyD d))):=by rw[hSV,YdP (by omega),hSf2]
 refine VqA ?_
 refine Vv2 ?_
 ·refine cD (fun h272=>?_) fun h272=>?_
  refine Vf ?_
  refine Va7 ?_
  refine VcB ?_
  refine Vu ?_
  refine Va7 ?_
  refine VwG ?_
  refine Vq0 ?_
  rotate_left
  refine Vh0 ?_
  all_goals
   refine VqD ?_
   refine Vc ?_
   refine VeE ?_
   refine Vi4 ?_
   refine Vb2 ?_
   refine⟨_,_,_,_,.cons (.cellA (n:=7) rfl rfl rfl (by simp) rfl rfl rfl (YdK rfl)) (.cons (.tmp rfl) .nil),.tup (.aggc (.frz (Frz.aggc (by exact Yg5 rfl rfl rfl rfl (by (rw[Y00];omega))) (Frz.aggc (by exact Yg5 rfl rfl rfl rfl (by (rw[Y00];omega))) (Frz.aggc (by exact Yg5 rfl rfl rfl rfl (by (rw[Y00];omega))) (Frz.aggc (by exact Yg5 rfl rfl rfl rfl (by (rw[Y00];omega))) (Frz.aggc (by exact Yg5 rfl rfl rfl rfl (by (rw[Y00];omega))) (Frz.aggc (by exact Yg5 rfl rfl rfl rfl (by (rw[Y00];omega))) (Frz.aggc (by exact Frz.pure rfl) Frz.aggn)))))))) (.aggc (.frz (.pure rfl)) .aggn)),Yec,by simp,?_⟩
   (rw[Y7Z hck hth hon has];show LV.tup [.agg [.sl (em nr R),.sl (em ni L),.sl (em ni I),.sl (em ni RV),.sl (em ni SV),.sl (em ni IV),.int .i64 _],.int .i64 0]=_;rw[hRf,hLf,hIf,hRVf,hSVf,hIVf];first | (rw[doneR,if_pos (by omega)];rfl) | (rw[doneR,if_neg (by omega)];rfl))
theorem Y9T (R R':List (List Int))(lock:List Int)(who:Int)(s:Nat): badS R R' lock who s=(decide ((s:Int)>0) && (other (lock.getD s default) who && (((whereR R s).1 != (whereR R' s).1) || ((whereR R s).2 != (whereR R' s).2)))):=by
 unfold badS
 have e1:decide (0<s)=decide ((s:Int)>0):=decide_eq_decide.2 (by omega)
 have e2:decide (whereR R s≠whereR R' s)=(((whereR R s).1 != (whereR R' s).1) || ((whereR R s).2 != (whereR R' s).2)):=by
   by_cases h1:(whereR R s).1=(whereR R' s).1
   · by_cases h2:(whereR R s).2=(whereR R' s).2
     · simp[h1,h2,Prod.ext_iff]
     · simp[h1,h2,Prod.ext_iff]
   · simp[h1,Prod.ext_iff]
 rw[e1,e2]
def mayC (p:Plan)(who:Int)(T:Delta): Int:=if (T.turns.any (icedB p) || T.ices.any fun h=>other h.before who)=true then 11 else if (T.locks.any (fun h=>other h.before who) || movedB p.routes (setR p.routes T.turns) p.lock who)=true then 12 else 0
theorem Y0Z {α:Type}[Inhabited α](c:α→Bool){l:List α}{i:Nat}(h:i<l.length): (l.take (i+1)).any c=((l.take i).any c || c (l.getD i default)):=by
 rw[Y0a h,List.any_append]
 simp only[List.any_cons,List.any_nil,Bool.or_false]
theorem Y7i {α:Type}[Inhabited α]{c:α→Bool}{l:List α}{i:Nat}(h:i<l.length)(hc:c (l.getD i default)=true): l.any c=true:=YfS.2 ⟨_,Y02 h,hc⟩
theorem YbX {p:Plan}{t:Turn}(h:(atL p.ice t.car).2=true)(h1:(atL p.ice t.car).1 ≠ -1): icedB p t=true:=by
 have h2:=Y4D.1 h
 rw[Y6f h2] at h1
 rw[icedB,decide_eq_true h2.1,decide_eq_true h2.2,decide_eq_true h1]
 rfl
theorem Y2i {p:Plan}{t:Turn}(h:(atL p.ice t.car).2=false): icedB p t=false:=by
 have h2:¬ (0≤t.car∧t.car<p.ice.length):=fun e=>Bool.false_ne_true (h.symm.trans (Y4D.2 e))
 rw[icedB]
 by_cases h0:0≤t.car
 rw[decide_eq_false (fun e=>h2 ⟨h0,e⟩:¬ t.car<p.ice.length),Yf5,YeJ]
 rw[decide_eq_false h0,Yf5]
theorem Y2p {p:Plan}{t:Turn}(h:(atL p.ice t.car).2=true)(h1:(atL p.ice t.car).1 = -1): icedB p t=false:=by
 have h2:=Y4D.1 h
 rw[Y6f h2] at h1
 rw[icedB,decide_eq_false (by simpa using h1:¬ p.ice.getD t.car.toNat default ≠ -1),YeJ,YeJ]
theorem Y31 {h w:Int}(h1:h ≠ -1)(h2:h≠w): other h w=true:=by rw[other,decide_eq_true h1,decide_eq_true h2];rfl
theorem Y1e {h w:Int}(h1:h = -1): other h w=false:=by rw[other,decide_eq_false (by simpa using h1),Yf5]
theorem Y1i {h w:Int}(h1:h=w): other h w=false:=by rw[other,decide_eq_false (by simpa using h1:¬ h≠w),YeJ]
theorem Y4T {R R':List (List Int)}{lock:List Int}{who:Int}{s:Nat}(h:other (lock.getD s default) who=false): badS R R' lock who s=false:=by rw[Y9T,h,Yf5,YeJ]
theorem Y5n {R R':List (List Int)}{lock:List Int}{who:Int}{s:Nat}(h1:(whereR R s).1=(whereR R' s).1)(h2:(whereR R s).2=(whereR R' s).2): badS R R' lock who s=false:=by
 rw[Y9T]
 simp[h1,h2]
theorem YaD {R R':List (List Int)}{lock:List Int}{who:Int}{s:Nat}(h0:0<s)(h:other (lock.getD s default) who=true)(h1:(whereR R s).1≠(whereR R' s).1∨(whereR R s).2≠(whereR R' s).2): badS R R' lock who s=true:=by
 rw[Y9T,h,decide_eq_true (by omega:(s:Int)>0)]
 rcases h1 with h1 | h1 <;> simp[h1]
theorem YcS {p:Plan}{who:Int}{T:Delta}(h:T.turns.any (icedB p)=true): mayC p who T=11:=by rw[mayC,h,Bool.true_or,if_pos rfl]
theorem Yd8 {p:Plan}{who:Int}{T:Delta}(h:(T.ices.any fun h=>other h.before who)=true): mayC p who T=11:=by rw[mayC,h,Bool.or_true,if_pos rfl]
theorem Yd0 {p:Plan}{who:Int}{T:Delta}(h1:T.turns.any (icedB p)=false)(h2:(T.ices.any fun h=>other h.before who)=false)(h:(T.locks.any fun h=>other h.before who)=true): mayC p who T=12:=by rw[mayC,h1,h2,if_neg (by decide),h,Bool.true_or,if_pos rfl]
theorem Y9Q {p:Plan}{who:Int}{T:Delta}(h1:T.turns.any (icedB p)=false)(h2:(T.ices.any fun h=>other h.before who)=false)(h:movedB p.routes (setR p.routes T.turns) p.lock who=true): mayC p who T=12:=by rw[mayC,h1,h2,if_neg (by decide),h,Bool.or_true,if_pos rfl]
theorem YdF {p:Plan}{who:Int}{T:Delta}(h1:T.turns.any (icedB p)=false)(h2:(T.ices.any fun h=>other h.before who)=false)(h3:(T.locks.any fun h=>other h.before who)=false)(h:movedB p.routes (setR p.routes T.turns) p.lock who=false): mayC p who T=0:=by rw[mayC,h1,h2,if_neg (by decide),h3,h,if_neg (by decide)]
theorem Y7O (p:Plan)(hp:OkP p)(who:Int)(d:Delta)(hd:OkD d): CallsV Try.prog 94 [.agg (kp p),.int .i64 who,.agg (kd d)] (.int .i64 (mayC p who (tidyD d))):=by
 refine Yg2 (Yga _) mix Try.func94 rfl rfl (by simp[Try.f94]) (by kernel_rfl) (nb:=0) ?_
 unfold Try.f94
 refine Ve ?_
 have p1:=hp.routes
 have p3:=hp.lock
 have p4:=hp.ice
 have hT:=Y2c hd
 have hl:=Y3s hd
 obtain⟨d1,d2,d3,d4⟩:=id hT
 refine Vq6 ?_
 intro g3
 refine Vw6 ?_
 intro g5
 refine Vn ?_
 refine Vg6 ?_
 refine VeF ?_
 refine Vz0 ?_
 intro g7
 refine Vz3 ?_
 refine VeE ?_
 refine GL.callN YfX rfl (Frz.aggc (YfY rfl) Frz.aggn) (Y3J p hp) rfl rfl (Y7H _ _ _) ?_
 refine Vd6 ?_
 intro g8
 refine Vi4 ?_
 refine Vi5 ?_
 refine Vw ?_
 refine Vq ?_
 refine Yg8 YfX (α:=Nat × List (List Int)) (fun ⟨i,R⟩ st=>(i≤(tidyD d).turns.length∧R=setR p.routes ((tidyD d).turns.take i)∧((tidyD d).turns.take i).any (icedB p)=false)∧∃ m0,st=⟨(updS (updS (updS (updS (updS (updS (updS (fun _=>LV.undef) 1 (.int .i64 who)) 3 (.ref 192 g3 0 0)) 7 (.ref 448 g7 0 0)) 8 (.ref 512 g8 0 0)) 27 (.sl (em kt (tidyD d).turns))) 28 (.int .i64 ((tidyD d).turns.length:Int))) 29 (.int .i64 (i:Int))),effM m0 [(192,⟨g3,false,.var,7,[kp p]⟩),(448,⟨g7,false,.var,3,[kd (tidyD d)]⟩),(512,⟨g8,false,.var,7,[[.own 1600 0 0 p.routes.length none,.own 1601 0 0 p.lock.length none,.own 1602 0 0 p.ice.length none,.own 1603 0 0 p.rv.length none,.own 1604 0 0 p.sv.length none,.own 1605 0 0 p.iv.length none,.int .i64 p.pv]]⟩),(1600,⟨0,false,.slc,1,em nr R⟩),(1601,⟨0,false,.slc,1,em ni p.lock⟩),(1602,⟨0,false,.slc,1,em ni p.ice⟩),(1603,⟨0,false,.slc,1,em ni p.rv⟩),(1604,⟨0,false,.slc,1,em ni p.sv⟩),(1605,⟨0,false,.slc,1,em ni p.iv⟩)]⟩) (fun ⟨i,R⟩=>(tidyD d).turns.length - i) ⟨0,p.routes⟩ ⟨_,lessA,⟨Ye1 _,rfl,rfl⟩,_,hasA⟩ ?_
 rintro⟨i,R⟩ _ ⟨⟨hi,hR,han⟩,m0,rfl⟩
 have hRl:R.length=p.routes.length:=by rw[hR,Y1F]
 refine Vd ?_
 refine cD (fun h30=>?_) fun h30=>?_
 refine Vt6 ?_
 intro g10
 refine Vy7 ?_
 refine Vm2 ?_
 refine Vw ?_
 refine VpC ?_
 refine Vu2 ?_
 refine VmB ?_
 refine Yg1 42 rfl (fun h42=>?_) (fun h42=>?_)
 rw[h42]
 refine Vt5 ?_
 refine cB (fun h45=>?_) fun h45=>?_
 refine VqB ?_
 show LV.int _ _=LV.int _ _
 congr 1
 exact (YcS (Y7i (i:=i) (by omega) (YbX h42 h45))).symm
 refine Vf0 ?_
 refine Vw ?_
 refine Vm ?_
 refine Yg1 49 rfl (fun h49=>?_) (fun h49=>?_)
 rw[h49]
 replace h49:=of_decide_eq_true h49
 refine Vf4 ?_
 refine Vf4 ?_
 refine Vb ?_
 refine Vw4 ?_
 refine Vi1 ?_
 refine cD (fun h56=>?_) fun h56=>?_
 refine Vf ?_
 refine Vw ?_
 refine Vw ?_
 refine Vm2 ?_
 refine VhF ?_
 refine VuK ?_
 refine Vi3 ?_
 refine⟨⟨i+1,R.set ((tidyD d).turns.getD i default).car.toNat ((tidyD d).turns.getD i default).after⟩,(by dsimp only;omega),_,lessA,⟨by omega,by rw[Y1h _ _ (by omega),← hR,setR1,if_pos (by omega)],(by rw[Y0Z (icedB p) (by omega),han];first | exact Y2i h42 | exact Y2p h42 h45)⟩,_,hasA⟩
 refine Vs ?_
 refine⟨⟨i+1,R⟩,(by dsimp only;omega),_,lessA,⟨by omega,by rw[Y1h _ _ (by omega),← hR,setR1,if_neg (by omega)],(by rw[Y0Z (icedB p) (by omega),han];first | exact Y2i h42 | exact Y2p h42 h45)⟩,_,hasA⟩
 rw[h49]
 replace h49:=of_decide_eq_false h49
 refine Vz2 ?_
 refine Vc2 ?_
 refine Vs ?_
 refine⟨⟨i+1,R⟩,(by dsimp only;omega),_,lessA,⟨by omega,by rw[Y1h _ _ (by omega),← hR,setR1,if_neg (by omega)],(by rw[Y0Z (icedB p) (by omega),han];first | exact Y2i h42 | exact Y2p h42 h45)⟩,_,hasA⟩
 rw[h42]
 refine Vw0 ?_
 refine Vc2 ?_
 refine Vf0 ?_
 refine Vw ?_
 refine Vm ?_
 refine Yg1 49 rfl (fun h49=>?_) (fun h49=>?_)
 rw[h49]
 replace h49:=of_decide_eq_true h49
 refine Vf4 ?_
 refine Vf4 ?_
 refine Vb ?_
 refine Vw4 ?_
 refine Vi1 ?_
 refine cD (fun h56=>?_) fun h56=>?_
 refine Vf ?_
 refine Vw ?_
 refine Vw ?_
 refine Vm2 ?_
 refine VhF ?_
 refine VuK ?_
 refine Vi3 ?_
 refine⟨⟨i+1,R.set ((tidyD d).turns.getD i default).car.toNat ((tidyD d).turns.getD i default).after⟩,(by dsimp only;omega),_,lessA,⟨by omega,by rw[Y1h _ _ (by omega),← hR,setR1,if_pos (by omega)],(by rw[Y0Z (icedB p) (by omega),han];first | exact Y2i h42 | exact Y2p h42 h45)⟩,_,hasA⟩
 refine Vs ?_
 refine⟨⟨i+1,R⟩,(by dsimp only;omega),_,lessA,⟨by omega,by rw[Y1h _ _ (by omega),← hR,setR1,if_neg (by omega)],(by rw[Y0Z (icedB p) (by omega),han];first | exact Y2i h42 | exact Y2p h42 h45)⟩,_,hasA⟩
 rw[h49]
 replace h49:=of_decide_eq_false h49
 refine Vz2 ?_
 refine Vc2 ?_
 refine Vs ?_
 refine⟨⟨i+1,R⟩,(by dsimp only;omega),_,lessA,⟨by omega,by rw[Y1h _ _ (by omega),← hR,setR1,if_neg (by omega)],(by rw[Y0Z (icedB p) (by omega),han];first | exact Y2i h42 | exact Y2p h42 h45)⟩,_,hasA⟩
 have hn1:(tidyD d).turns.any (icedB p)=false:=by rw[← han,YdP (by omega)]
 have hRf:R=setR p.routes (tidyD d).turns:=by rw[hR,YdP (by omega)]
 have hq:OkP ⟨R,p.lock,p.ice,p.rv,p.sv,p.iv,p.pv⟩:=⟨by show R.length≤_;omega,by show ∀ r∈R,_;rw[hRf];exact Y6J hp.each (tidyD d).turns fun t ht=>(d4 t ht).2,hp.lock,hp.ice,hp.rv,hp.sv,hp.iv⟩
 clear hR
 refine Vr1 ?_
 refine Vm2 ?_
 refine Vq ?_
 refine Yg8 YfX (α:=Nat) (fun i st=>(i≤(tidyD d).ices.length∧(((tidyD d).ices.take i).any fun h=>other h.before who)=false)∧∃ m0,st=⟨(updS (updS (updS (updS (updS (updS (updS (fun _=>LV.undef) 1 (.int .i64 who)) 3 (.ref 192 g3 0 0)) 7 (.ref 448 g7 0 0)) 8 (.ref 512 g8 0 0)) 66 (.sl (em kh (tidyD d).ices))) 67 (.int .i64 ((tidyD d).ices.length:Int))) 68 (.int .i64 (i:Int))),effM m0 [(192,⟨g3,false,.var,7,[kp p]⟩),(448,⟨g7,false,.var,3,[kd (tidyD d)]⟩),(512,⟨g8,false,.var,7,[[.own 1600 0 0 p.routes.length none,.own 1601 0 0 p.lock.length none,.own 1602 0 0 p.ice.length none,.own 1603 0 0 p.rv.length none,.own 1604 0 0 p.sv.length none,.own 1605 0 0 p.iv.length none,.int .i64 p.pv]]⟩),(1600,⟨0,false,.slc,1,em nr R⟩),(1601,⟨0,false,.slc,1,em ni p.lock⟩),(1602,⟨0,false,.slc,1,em ni p.ice⟩),(1603,⟨0,false,.slc,1,em ni p.rv⟩),(1604,⟨0,false,.slc,1,em ni p.sv⟩),(1605,⟨0,false,.slc,1,em ni p.iv⟩)]⟩) (fun i=>(tidyD d).ices.length - i) 0 ⟨_,lessA,⟨Ye1 _,rfl⟩,_,hasA⟩ ?_
 rintro i _ ⟨⟨hi2,han2⟩,m0,rfl⟩
 refine Vd ?_
 refine cD (fun h69=>?_) fun h69=>?_
 refine Vj3 ?_
 intro g14
 refine Vz3 ?_
 refine Vo1 ?_
 refine Vm ?_
 refine Yg1 75 rfl (fun h75=>?_) (fun h75=>?_)
 rw[h75]
 replace h75:=Y0H h75
 refine Vh5 ?_
 refine Vm8 ?_
 refine Vt5 ?_
 refine cB (fun h80=>?_) fun h80=>?_
 refine Vl2 ?_
 show LV.int _ _=LV.int _ _
 congr 1
 exact (Yd8 (Y7i (c:=fun h:Hold=>other h.before who) (i:=i) (by omega) (Y31 h75 h80))).symm
 refine Vs ?_
 refine⟨i+1,(by dsimp only;omega),_,lessA,⟨by omega,by rw[Y0Z (fun h:Hold=>other h.before who) (by omega),han2];first | exact Y1e (by simpa using h75) | exact Y1i (by simpa using h80)⟩,_,hasA⟩
 rw[h75]
 replace h75:=Y0s h75
 refine Vz ?_
 refine Vc2 ?_
 refine Vs ?_
 refine⟨i+1,(by dsimp only;omega),_,lessA,⟨by omega,by rw[Y0Z (fun h:Hold=>other h.before who) (by omega),han2];first | exact Y1e (by simpa using h75) | exact Y1i (by simpa using h80)⟩,_,hasA⟩
 have hn2:((tidyD d).ices.any fun h=>other h.before who)=false:=by rw[← han2,YdP (by omega)]
 refine Vr1 ?_
 refine Vo1 ?_
 refine Vq ?_
 refine Yg8 YfX (α:=Nat) (fun i st=>(i≤(tidyD d).locks.length∧(((tidyD d).locks.take i).any fun h=>other h.before who)=false)∧∃ m0,st=⟨(updS (updS (updS (updS (updS (updS (updS (fun _=>LV.undef) 1 (.int .i64 who)) 3 (.ref 192 g3 0 0)) 7 (.ref 448 g7 0 0)) 8 (.ref 512 g8 0 0)) 83 (.sl (em kh (tidyD d).locks))) 84 (.int .i64 ((tidyD d).locks.length:Int))) 85 (.int .i64 (i:Int))),effM m0 [(192,⟨g3,false,.var,7,[kp p]⟩),(448,⟨g7,false,.var,3,[kd (tidyD d)]⟩),(512,⟨g8,false,.var,7,[[.own 1600 0 0 p.routes.length none,.own 1601 0 0 p.lock.length none,.own 1602 0 0 p.ice.length none,.own 1603 0 0 p.rv.length none,.own 1604 0 0 p.sv.length none,.own 1605 0 0 p.iv.length none,.int .i64 p.pv]]⟩),(1600,⟨0,false,.slc,1,em nr R⟩),(1601,⟨0,false,.slc,1,em ni p.lock⟩),(1602,⟨0,false,.slc,1,em ni p.ice⟩),(1603,⟨0,false,.slc,1,em ni p.rv⟩),(1604,⟨0,false,.slc,1,em ni p.sv⟩),(1605,⟨0,false,.slc,1,em ni p.iv⟩)]⟩) (fun i=>(tidyD d).locks.length - i) 0 ⟨_,lessA,⟨Ye1 _,rfl⟩,_,hasA⟩ ?_
 rintro i _ ⟨⟨hi4,han4⟩,m0,rfl⟩
 refine Vd ?_
 refine cD (fun h86=>?_) fun h86=>?_
 refine Vj3 ?_
 intro g16
 refine Vz3 ?_
 refine Vo1 ?_
 refine Vm ?_
 refine Yg1 92 rfl (fun h92=>?_) (fun h92=>?_)
 rw[h92]
 replace h92:=Y0H h92
 refine Vh5 ?_
 refine Vm8 ?_
 refine Vt5 ?_
 refine cB (fun h97=>?_) fun h97=>?_
 refine Vl2 ?_
 show LV.int _ _=LV.int _ _
 congr 1
 exact (Yd0 hn1 hn2 (Y7i (c:=fun h:Hold=>other h.before who) (i:=i) (by omega) (Y31 h92 h97))).symm
 refine Vs ?_
 refine⟨i+1,(by dsimp only;omega),_,lessA,⟨by omega,by rw[Y0Z (fun h:Hold=>other h.before who) (by omega),han4];first | exact Y1e (by simpa using h92) | exact Y1i (by simpa using h97)⟩,_,hasA⟩
 rw[h92]
 replace h92:=Y0s h92
 refine Vz ?_
 refine Vc2 ?_
 refine Vs ?_
 refine⟨i+1,(by dsimp only;omega),_,lessA,⟨by omega,by rw[Y0Z (fun h:Hold=>other h.before who) (by omega),han4];first | exact Y1e (by simpa using h92) | exact Y1i (by simpa using h97)⟩,_,hasA⟩
 have hn3:((tidyD d).locks.any fun h=>other h.before who)=false:=by rw[← han4,YdP (by omega)]
 refine Vr1 ?_
 refine Va0 ?_
 refine goWeak (Weak.mark _ _ [1600,1601,1602,1603,1604,1605]) ?_
 refine Vo0 ?_
 refine Yg8 YfX (α:=Nat) (fun i st=>(1≤i∧(i≤p.lock.length∨i=1)∧∀ j,j<i→badS p.routes R p.lock who j=false)∧∃ m0,st=⟨(updS (updS (updS (updS (updS (fun _=>LV.undef) 1 (.int .i64 who)) 3 (.ref 192 g3 0 0)) 7 (.ref 448 g7 0 0)) 8 (.ref 512 g8 0 0)) 17 (.int .i64 (i:Int))),effM m0 [(192,⟨g3,false,.var,7,[kp p]⟩),(448,⟨g7,false,.var,3,[kd (tidyD d)]⟩),(512,⟨g8,false,.var,7,[[.own 1600 0 0 p.routes.length none,.own 1601 0 0 p.lock.length none,.own 1602 0 0 p.ice.length none,.own 1603 0 0 p.rv.length none,.own 1604 0 0 p.sv.length none,.own 1605 0 0 p.iv.length none,.int .i64 p.pv]]⟩),(1600,⟨0,true,.slc,1,em nr R⟩),(1601,⟨0,true,.slc,1,em ni p.lock⟩),(1602,⟨0,true,.slc,1,em ni p.ice⟩),(1603,⟨0,true,.slc,1,em ni p.rv⟩),(1604,⟨0,true,.slc,1,em ni p.sv⟩),(1605,⟨0,true,.slc,1,em ni p.iv⟩)]⟩) (fun i=>p.lock.length - i) 1 ⟨_,lessA,⟨Ye2 _,.inr rfl,fun j hj=>by (obtain rfl:j=0:=(by omega));rw[badS,decide_eq_false (by omega),Yf5]⟩,_,hasA⟩ ?_
 rintro i _ ⟨⟨hi6,hi7,hA⟩,m0,rfl⟩
 refine Vg0 ?_
 refine Vo1 ?_
 refine Vv2 ?_
 refine cD (fun h103=>?_) fun h103=>?_
 refine Vl4 ?_
 refine VeE ?_
 refine Va ?_
 refine VzJ ?_
 refine Vu2 ?_
 refine Vn ?_
 refine VeE ?_
 refine Va ?_
 refine GL.callFl YfX rfl (Frz.aggc (Frz.aggc (Yg5 rfl rfl rfl rfl (by (rw[Y00,hRl]))) (Frz.aggc (Yg5 rfl rfl rfl rfl (by exact Y00 _ _)) (Frz.aggc (Yg5 rfl rfl rfl rfl (by exact Y00 _ _)) (Frz.aggc (Yg5 rfl rfl rfl rfl (by exact Y00 _ _)) (Frz.aggc (Yg5 rfl rfl rfl rfl (by exact Y00 _ _)) (Frz.aggc (Yg5 rfl rfl rfl rfl (by exact Y00 _ _)) (Frz.aggc (Frz.pure rfl) Frz.aggn))))))) (Frz.aggc (Frz.pure rfl) Frz.aggn)) (Y4m ⟨R,p.lock,p.ice,p.rv,p.sv,p.iv,p.pv⟩ hq _) (Yae _ _) rfl rfl ?_
 refine Vu2 ?_
 refine Vn ?_
 refine Vo1 ?_
 refine Va ?_
 refine VvH ?_
 refine Vm ?_
 refine Yg1 124 rfl (fun h124=>?_) (fun h124=>?_)
 rw[h124]
 replace h124:=Y0H h124
 refine Vh5 ?_
 refine Vm8 ?_
 refine Vi ?_
 refine VtE ?_
 refine Vp4 ?_
 refine Vn3 ?_
 refine Yg1 133 rfl (fun h133=>?_) (fun h133=>?_)
 rw[h133]
 replace h133:=Y0H h133
 refine Vo7 ?_
 refine Vo8 ?_
 refine Yg1 137 rfl (fun h137=>?_) (fun h137=>?_)
 rw[h137]
 replace h137:=Y0H h137
 refine Vn0 ?_
 refine Vf1 ?_
 refine Vn6 ?_
 refine Ve1 ?_
 show LV.int _ _=LV.int _ _
 congr 1
 exact (Y9Q hn1 hn2 (by rw[← hRf];exact Y6y (j:=i) (by omega) (YaD (by omega) (Y31 h124 h133) (by exact .inl h137)))).symm
 rw[h137]
 replace h137:=Y0s h137
 refine Vo7 ?_
 refine VgA ?_
 refine cB (fun h142=>?_) fun h142=>?_
 refine Vl2 ?_
 show LV.int _ _=LV.int _ _
 congr 1
 exact (Y9Q hn1 hn2 (by rw[← hRf];exact Y6y (j:=i) (by omega) (YaD (by omega) (Y31 h124 h133) (by exact .inr h142)))).symm
 refine VpB ?_
 refine⟨i+1,(by dsimp only;omega),_,lessA,⟨by omega,.inl (by omega),fun j hj=>by
       by_cases e:j=i
       · subst e;first | exact Y4T (Y1e (by simpa using h124)) | exact Y4T (Y1i (by simpa using h133)) | exact Y5n (by simpa using h137) (by simpa using h142)
       · exact hA j (by omega)⟩,_,hasA⟩
 rw[h133]
 replace h133:=Y0s h133
 refine Vk0 ?_
 refine Ve4 ?_
 refine Va3 ?_
 refine⟨i+1,(by dsimp only;omega),_,lessA,⟨by omega,.inl (by omega),fun j hj=>by
       by_cases e:j=i
       · subst e;first | exact Y4T (Y1e (by simpa using h124)) | exact Y4T (Y1i (by simpa using h133)) | exact Y5n (by simpa using h137) (by simpa using h142)
       · exact hA j (by omega)⟩,_,hasA⟩
 rw[h124]
 replace h124:=Y0s h124
 refine Vz ?_
 refine Vm1 ?_
 refine Vk0 ?_
 refine Ve4 ?_
 refine Va3 ?_
 refine⟨i+1,(by dsimp only;omega),_,lessA,⟨by omega,.inl (by omega),fun j hj=>by
       by_cases e:j=i
       · subst e;first | exact Y4T (Y1e (by simpa using h124)) | exact Y4T (Y1i (by simpa using h133)) | exact Y5n (by simpa using h137) (by simpa using h142)
       · exact hA j (by omega)⟩,_,hasA⟩
 refine Vt1 ?_
 show LV.int _ _=LV.int _ _
 congr 1
 exact (YdF hn1 hn2 hn3 (by rw[← hRf];exact YbG fun j hj=>hA j (by omega))).symm
/-- A plan whose routes can be driven, held by sessions that there are. -/
structure GoodP (I:Inst) (p:Plan):Prop where
 wf:WfP I p
 driven:∀ k,k<p.routes.length→(eval I (k:Int) (p.routes.getD k default)).isSome=true
 lockH:∀ h∈p.lock,-1≤h∧h≤5
 iceH:∀ h∈p.ice,-1≤h∧h≤5
 lock0:p.lock.getD 0 default = -1
/-- An edit whose routes can be driven, with holders that there are. -/
structure GoodD (I:Inst) (d:Delta):Prop where
 ok:OkD d
 driven:∀ t∈d.turns,(eval I t.car t.after).isSome=true
 locks:∀ h∈d.locks,-1≤h.after∧h.after≤5
 ices:∀ h∈d.ices,-1≤h.after∧h.after≤5
/-- No version is greater than n. -/
structure VersIn (n:Nat) (p:Plan):Prop where
 rv:∀ v∈p.rv,0≤v∧v≤n
 sv:∀ v∈p.sv,0≤v∧v≤n
 iv:∀ v∈p.iv,0≤v∧v≤n
 pv:0≤p.pv∧p.pv≤n
theorem WfP.shP {I:Inst}{p:Plan}(h:WfP I p): ShP p:=by
 refine⟨by rw[h.lock,h.sv],by rw[h.rv,h.routes],by rw[h.ice,h.routes],by rw[h.iv,h.routes],fun r hr s hs=>?_⟩
 have:=h.stops r hr s hs
 rw[h.sv]
 omega
theorem Y1b {I:Inst}(h:checkB I=true): 1≤I.cars.length∧I.cars.length≤3:=by
 unfold checkB at h
 simp only[Ye0,between,decide_eq_true_eq] at h
 omega
theorem Y0V {I:Inst}(h:checkB I=true): I.stops.length≤10:=by
 unfold checkB at h
 simp only[Ye0,between,decide_eq_true_eq] at h
 omega
theorem GoodP.okP {I:Inst}{p:Plan}(h:GoodP I p)(hc:checkB I=true): OkP p:=by
 have h1:=Y1b hc
 have h2:=Y0V hc
 exact h.wf.okP (by omega) (by omega)
theorem Y7v {Q:Nat→List Int→Prop}: ∀ (ts:List Turn) {R:List (List Int)},(∀ k,k<R.length→Q k (R.getD k default))→(∀ t∈ts,0≤t.car→Q t.car.toNat t.after)→∀ k,k<R.length→Q k ((setR R ts).getD k default)
 | [],R,h,_,k,hk=>h k hk
 | t::r,R,h,hq,k,hk=>by
   have hl:(setR1 R t).length=R.length:=by
     unfold setR1
     split <;> simp
   show Q k ((setR (setR1 R t) r).getD k default)
   refine Y7v r (R:=setR1 R t) (fun j hj=>?_) (fun t ht=>hq t (YdV _ ht)) k (by omega)
   unfold setR1
   split
   · rename_i hc
     rw[Y0R _ _ _ _ (by omega)]
     split
     · rename_i e
       subst e
       exact hq t (by simp) hc.1
     · exact h j (by omega)
   · exact h j (by omega)
theorem Y1E {α:Type}[Inhabited α]{l:List α}{x:α}(h:x∈l): ∃ k,k<l.length∧l.getD k default=x:=by
 obtain⟨k,hk,rfl⟩:=YeW h
 exact⟨k,hk,by rw[Ye9,YdO hk];rfl⟩
theorem Y49:∀ (hs:List Hold) {L:List Int}{x:Int},x∈setLs L hs→x∈L∨∃ h∈hs,x=h.after
 | [],L,x,h=>.inl h
 | a::r,L,x,h=>by
   have h:x∈setLs (setL1 L a) r:=h
   rcases Y49 r h with h | ⟨b,hb,e⟩
   · unfold setL1 at h
     rcases YeZ h with h | h
     · exact .inl h
     · exact .inr ⟨a,by simp,h⟩
   · exact .inr ⟨b,YdV _ hb,e⟩
theorem Y5c:∀ (hs:List Hold) {L:List Int},(∀ h∈hs,1≤h.n)→(setLs L hs).getD 0 default=L.getD 0 default
 | [],L,_=>rfl
 | a::r,L,h=>by
   show (setLs (setL1 L a) r).getD 0 default=_
   rw[Y5c r fun x hx=>h x (YdV _ hx)]
   have:=h a (by simp)
   unfold setL1
   rw[Ye9,Ye9,YeF (by omega)]
theorem Y5A:∀ (ns:List Int) {l:List Int}{n:Nat},(∀ v∈l,0≤v∧v≤(n:Int))→n+ns.length≤4000000000000000000→∀ v∈bump l ns,0≤v∧v≤(n:Int)+ns.length
 | [],l,n,h,_,v,hv=>by
   have:=h v hv
   simp only[YeM]
   omega
 | a::r,l,n,h,hn,v,hv=>by
   have hv:v∈bump (bump1 l a) r:=hv
   simp only[Yen] at hn ⊢
   have h1:∀ v∈bump1 l a,0≤v∧v≤((n+1:Nat):Int):=by
     intro v hv
     unfold bump1 at hv
     by_cases hc:a.toNat<l.length
     · rcases YeZ hv with hv | hv
       · have:=h v hv
         omega
       · have:=h _ (Y02 (l:=l) hc)
         rw[Y0D (by omega)] at hv
         omega
     · rw[List.set_eq_of_length_le (by omega)] at hv
       have:=h v hv
       omega
   have:=Y5A r h1 (by omega) v hv
   omega
theorem Y3A:∀ {r h:List Int},onceGo r h=true→r.Nodup∧∀ x∈r,x∉h
 | [],h,_=>⟨Yec,fun x hx=>by cases hx⟩
 | x::r,h,e=>by
   rw[onceGo] at e
   split at e
   · cases e
   · rename_i hx
     obtain⟨h1,h2⟩:=Y3A e
     have hin:∀ y∈r,y≠x∧y∉h:=by
       intro y hy
       have:=h2 y hy
       unfold addK at this
       rw[if_neg hx] at this
       simp only[Yei,Yej,not_or] at this
       exact⟨this.2,this.1⟩
     refine⟨YeV.2 ⟨fun hm=>(hin x hm).1 rfl,h1⟩,fun y hy=>?_⟩
     rcases Yep.1 hy with rfl | hy
     · exact hx
     · exact (hin y hy).2
theorem Y7n {R:List (List Int)}(h:onceB R=true): R.flatten.Nodup:=(Y3A h).1
theorem Y1D {p:Plan}{c:Bool}{d T:Delta}(h:(applyR p c d T).2=0): c=false∧thereB p d=true∧onceB (setR p.routes d.turns)=true∧asB p d=true∧applyR p c d T=(doneR p (setR p.routes d.turns) T,0):=by
 unfold applyR at h ⊢
 split at h
 cases h
 rename_i h1
 split at h
 cases h
 rename_i h2
 split at h
 cases h
 rename_i h3
 rw[if_neg h1,if_neg h2,if_neg h3]
 simp only[not_or] at h1
 exact⟨by simpa using h1.1,by simpa using h1.2,by simpa using h2,by simpa using h3,rfl⟩
theorem YbJ {I:Inst}{p:Plan}{d:Delta}(hp:WfP I p)(h:(applyR p (checkD d) d (tidyD d)).2=0): WfP I (applyR p (checkD d) d (tidyD d)).1:=by
 obtain⟨-,ht,ho,-,e⟩:=Y1D h
 rw[e]
 obtain⟨a1,-,-⟩:=Y1y ht
 refine⟨?_,?_,?_,?_,?_,?_,?_,Y7n ho⟩
 show (setR _ _).length=_;rw[Y1F,hp.routes]
 show (setLs _ _).length=_;rw[Y2M,hp.lock]
 show (setLs _ _).length=_;rw[Y2M,hp.ice]
 show (bump _ _).length=_;rw[Y2b,hp.rv]
 show (bump _ _).length=_;rw[Y2b,hp.sv]
 show (bump _ _).length=_;rw[Y2b,hp.iv]
 intro r hr
 obtain⟨k,hk,rfl⟩:=Y1E (l:=setR p.routes d.turns) hr
 rw[Y1F] at hk
 refine Y7v (Q:=fun _ r=>∀ s∈r,1≤s∧s≤(I.stops.length:Int)) d.turns (fun j hj=>hp.stops _ (Y02 hj)) (fun t ht _ s hs=>?_) k hk
 have:=(a1 t ht).2.2 s hs
 rw[hp.lock] at this
 omega
theorem Y0u {I:Inst}{p:Plan}{d:Delta}(hp:GoodP I p)(hd:GoodD I d)(h:(applyR p (checkD d) d (tidyD d)).2=0): GoodP I (applyR p (checkD d) d (tidyD d)).1:=by
 refine⟨YbJ hp.wf h,?_,?_,?_,?_⟩ <;> obtain⟨-,ht,ho,-,e⟩:=Y1D h <;> rw[e]
 intro k hk
 have hk:k<(setR p.routes d.turns).length:=hk
 rw[Y1F] at hk
 refine Y7v (Q:=fun k r=>(eval I (k:Int) r).isSome=true) d.turns hp.driven (fun t ht h0=>?_) k hk
 have:=hd.driven t ht
 rwa [show ((t.car.toNat:Nat):Int)=t.car by omega]
 intro x hx
 rcases Y49 _ hx with hx | ⟨h,hh,rfl⟩
 exact hp.lockH x hx
 exact hd.locks h (Y1p hh)
 intro x hx
 rcases Y49 _ hx with hx | ⟨h,hh,rfl⟩
 exact hp.iceH x hx
 exact hd.ices h (Y4s hh)
 show (setLs p.lock (tidyD d).locks).getD 0 default = -1
 rw[Y5c _ fun x hx=>((Y1y ht).2.1 x (Y1p hx)).1]
 exact hp.lock0
theorem Y0B {n:Nat}{p:Plan}{d:Delta}(hp:VersIn n p)(hd:OkD d)(hn:n≤1000000000000000000)(h:(applyR p (checkD d) d (tidyD d)).2=0): VersIn (n+100000000) (applyR p (checkD d) d (tidyD d)).1:=by
 obtain⟨-,ht,ho,-,e⟩:=Y1D h
 have hl:=Y3s hd
 have hm:=Y2Y (Y2c hd)
 rw[e]
 refine⟨?_,?_,?_,?_⟩
 intro v hv
 have:=Y5A _ hp.rv (by rw[Ye4];omega) v hv
 rw[Ye4] at this
 omega
 intro v hv
 have h1:=Y1q ((tidyD d).locks.map Hold.n) []
 have h2:=Y1q (movedL (tidyD d)) (((tidyD d).locks.map Hold.n).foldl addK [])
 have h3:(sorted (touchS (tidyD d))).length≤50000000:=by
   rw[Y3m]
   unfold touchS
   rw[Ye4,YeM] at h1
   omega
 have:=Y5A _ hp.sv (by omega) v hv
 omega
 intro v hv
 have:=Y5A _ hp.iv (by rw[Ye4];omega) v hv
 rw[Ye4] at this
 omega
 have h1:=hp.pv
 show 0≤(if 0<(movedL (tidyD d)).length then wadd p.pv 1 else p.pv)∧(if 0<(movedL (tidyD d)).length then wadd p.pv 1 else p.pv)≤_
 split
 rw[Y0D (by omega)];omega
 omega
/-- What takes back an edit that was done. -/
theorem Y0T {I:Inst}{p:Plan}{d:Delta}(hp:GoodP I p)(hd:OkD d)(h:(applyR p (checkD d) d (tidyD d)).2=0): GoodD I (invD d):=by
 obtain⟨-,ht,ho,ha,e⟩:=Y1D h
 obtain⟨a1,a2,a3⟩:=Y1y ht
 rw[Y69] at ha
 simp only[Ye0,Yed] at ha
 obtain⟨b1,b2,b3⟩:=ha
 refine⟨?_,?_,?_,?_⟩
 obtain⟨d1,d2,d3,d4⟩:=hd
 refine⟨by simpa [invD] using d1,by simpa [invD] using d2,by simpa [invD] using d3,fun t ht=>?_⟩
 obtain⟨u,hu,rfl⟩:=Ye8.1 ht
 exact⟨(d4 u hu).2,(d4 u hu).1⟩
 intro t ht
 obtain⟨u,hu,rfl⟩:=Ye8.1 ht
 have h1:=a1 u hu
 have h2:p.routes.getD u.car.toNat default=u.before:=by simpa [asT] using b1 u hu
 have h3:=hp.driven u.car.toNat (by omega)
 rw[h2,show ((u.car.toNat:Nat):Int)=u.car by omega] at h3
 exact h3
 intro t ht
 obtain⟨u,hu,rfl⟩:=Ye8.1 ht
 have h1:=a2 u hu
 have h2:p.lock.getD u.n.toNat default=u.before:=by simpa [asL] using b2 u hu
 have h3:=hp.lockH _ (Y02 (l:=p.lock) (j:=u.n.toNat) (by omega))
 rw[h2] at h3
 exact h3
 intro t ht
 obtain⟨u,hu,rfl⟩:=Ye8.1 ht
 have h1:=a3 u hu
 have h2:p.ice.getD u.n.toNat default=u.before:=by simpa [asI] using b3 u hu
 have h3:=hp.iceH _ (Y02 (l:=p.ice) (j:=u.n.toNat) (by rw[hp.wf.ice,← hp.wf.routes];omega))
 rw[h2] at h3
 exact h3
/-- An edit that is tidied stays one. -/
theorem Y6W {I:Inst}{d:Delta}(hd:GoodD I d): GoodD I (tidyD d) :=
 ⟨Y2c hd.ok,fun t ht=>hd.driven t (Y3k ht),fun t ht=>hd.locks t (Y1p ht),fun t ht=>hd.ices t (Y4s ht)⟩
theorem Y06 {I:Inst}: GoodD I ⟨[],[],[]⟩:=⟨⟨by decide,by decide,by decide,fun t ht=>(by cases ht)⟩,fun t ht=>(by cases ht),fun t ht=>(by cases ht),fun t ht=>(by cases ht)⟩
theorem Y9H {α:Type}[Inhabited α](k:α→Int)(p:List α)(x:α): (insI k p x).Perm (x::p):=by
 unfold insI
 refine YfU.trans ?_
 rw[Yfg]
theorem Y5k {α:Type}[Inhabited α](k:α→Int): ∀ (r p:List α),(isort k p r).Perm (p++r)
 | [],p=>by rw[YdX];exact List.Perm.refl _
 | x::r,p=>by
   rw[isort]
   refine (Y5k k r _).trans ?_
   refine ((Y9H k p x).append_right r).trans ?_
   exact YfU.symm
theorem Y4Y (l:List Turn): (tidyT l).Perm (l.filter fun x=>!chgT x):=Y5k _ _ _
def turnGo (L:List (Int × List Int)): List (List Int)→Nat→List Turn
 | [],_=>[]
 | r::R,c =>
   match rlook (c:Int) L with
   | some l=>⟨c,r,l⟩::turnGo L R (c+1)
   | none=>turnGo L R (c+1)
/-- The edit to some routes. -/
def turnedD (p:Plan)(L:List (Int × List Int)): Delta:=tidyD ⟨turnGo L p.routes 0,[],[]⟩
theorem Y3i (L:List (Int × List Int)): ∀ (R:List (List Int)) (c:Nat),(turnGo L R c).length≤R.length
 | [],c=>Ye2 _
 | r::R,c=>by
   have:=Y3i L R (c+1)
   rw[turnGo]
   split <;> simp only[Yen] <;> omega
theorem Y2T {L:List (Int × List Int)}: ∀ {R:List (List Int)}{c:Nat}{t:Turn},t∈turnGo L R c→∃ k,k<R.length∧t.car=((c+k:Nat):Int)∧t.before=R.getD k default∧rlook ((c+k:Nat):Int) L=some t.after
 | r::R,c,t,h=>by
   rw[turnGo] at h
   have go:t∈turnGo L R (c+1)→∃ k,k<(r::R).length∧t.car=((c+k:Nat):Int)∧t.before=(r::R).getD k default∧rlook ((c+k:Nat):Int) L=some t.after:=by
     intro h
     obtain⟨k,h1,h2,h3,h4⟩:=Y2T h
     refine⟨k+1,by simp only[Yen];omega,by rw[h2,Yfy,Yf0],by rw[Yfr];exact h3,?_⟩
     rw[← h4,Yfy,Yf0]
   split at h
   · rename_i l hl
     rcases Yep.1 h with rfl | h
     · exact⟨0,by simp,rfl,rfl,hl⟩
     · exact go h
   · exact go h
theorem Y51 {L:List (Int × List Int)}: ∀ {R:List (List Int)}{c k:Nat}{l:List Int},k<R.length→rlook ((c+k:Nat):Int) L=some l→(⟨((c+k:Nat):Int),R.getD k default,l⟩:Turn)∈turnGo L R c
 | r::R,c,0,l,_,h=>by
   rw[turnGo]
   rw[YfE] at h
   rw[h]
   simp
 | r::R,c,k+1,l,hk,h=>by
   have h1:(⟨((c+1+k:Nat):Int),R.getD k default,l⟩:Turn)∈turnGo L R (c+1):=Y51 (by simp only[Yen] at hk;omega) (by rw[← h,Yfy,Yf0])
   rw[Yfy,Yf0] at h1
   rw[turnGo,Yfr]
   split
   · exact YdV _ h1
   · exact h1
theorem Y2D (L:List (Int × List Int)): ∀ (R:List (List Int)) (c:Nat),((turnGo L R c).map Turn.car).Nodup
 | [],c=>Yec
 | r::R,c=>by
   rw[turnGo]
   split
   · rw[Yey,YeV]
     refine⟨fun h=>?_,Y2D L R (c+1)⟩
     obtain⟨t,ht,e⟩:=Ye8.1 h
     obtain⟨k,-,h2,-,-⟩:=Y2T ht
     rw[h2] at e
     have e:((c+1+k:Nat):Int)=(c:Int):=e
     omega
   · exact Y2D L R (c+1)
theorem Y0v {p:Plan}{L:List (Int × List Int)}{t:Turn}: t∈(turnedD p L).turns↔∃ k,k<p.routes.length∧t.car=(k:Int)∧t.before=p.routes.getD k default∧rlook (k:Int) L=some t.after∧t.before≠t.after:=by
 show t∈tidyT _↔_
 rw[(Y4Y _).mem_iff,YeL]
 constructor
 rintro⟨h,hc⟩
 obtain⟨k,h1,h2,h3,h4⟩:=Y2T h
 rw[YdZ] at h2 h4
 refine⟨k,h1,h2,h3,h4,?_⟩
 simpa [chgT] using hc
 rintro⟨k,h1,h2,h3,h4,h5⟩
 refine⟨?_,by simpa [chgT] using h5⟩
 have:=Y51 (L:=L) (c:=0) h1 (by rw[YdZ];exact h4)
 rw[YdZ,← h2,← h3] at this
 exact this
theorem Y0L (p:Plan)(L:List (Int × List Int)): (turnedD p L).locks=[]:=rfl
theorem Y0W (p:Plan)(L:List (Int × List Int)): (turnedD p L).ices=[]:=rfl
theorem Y4G (p:Plan)(L:List (Int × List Int)): ((turnedD p L).turns.map Turn.car).Nodup:=by
 have h1:((turnedD p L).turns.map Turn.car).Perm (((turnGo L p.routes 0).filter fun x=>!chgT x).map Turn.car):=(Y4Y _).map _
 rw[h1.nodup_iff]
 exact List.Nodup.sublist (List.filter_sublist.map _) (Y2D L p.routes 0)
theorem Y94 (p:Plan)(L:List (Int × List Int)): (turnedD p L).turns.length≤p.routes.length:=by
 have h1:=Y6U (turnGo L p.routes 0)
 have h2:=Y3i L p.routes 0
 exact Ye5 h1 h2
theorem Y0y {p:Plan}{L:List (Int × List Int)}(h:p.routes.length<20)(hp:∀ r∈p.routes,r.length≤1000000)(hL:∀ q∈L,q.2.length≤1000000): OkD (turnedD p L):=by
 refine⟨Nat.lt_of_le_of_lt (Y94 p L) h,(by show (0:Nat)<20;decide),(by show (0:Nat)<20;decide),fun t ht=>?_⟩
 obtain⟨k,h1,-,h3,h4,-⟩:=Y0v.1 ht
 rw[h3]
 exact⟨hp _ (Y02 h1),hL _ (Y0P h4)⟩
theorem Y33 {p:Plan}{L:List (Int × List Int)}(h:p.routes.length<20)(hp:∀ r∈p.routes,r.length≤1000000)(hL:∀ q∈L,q.2.length≤1000000): OkD ⟨turnGo L p.routes 0,[],[]⟩:=by
 refine⟨Nat.lt_of_le_of_lt (Y3i L _ 0) h,(by show (0:Nat)<20;decide),(by show (0:Nat)<20;decide),fun t ht=>?_⟩
 obtain⟨k,h1,-,h3,h4⟩:=Y2T ht
 rw[h3]
 exact⟨hp _ (Y02 h1),hL _ (Y0P h4)⟩
/-- The routes that an edit makes. -/
def newR (p:Plan)(L:List (Int × List Int)): List (List Int):=(List.range p.routes.length).map fun k:Nat=>(rlook (k:Int) L).getD (p.routes.getD k default)
theorem Y1P (p:Plan)(L:List (Int × List Int)): (newR p L).length=p.routes.length:=by simp[newR]
theorem Y3l {p:Plan}{L:List (Int × List Int)}{k:Nat}(h:k<p.routes.length): (newR p L).getD k default=(rlook (k:Int) L).getD (p.routes.getD k default):=by
 unfold newR
 rw[Ye9,YeY,List.getElem?_range h]
 rfl
theorem Y2h {k:Nat}: ∀ {ts:List Turn}{R:List (List Int)},(∀ t∈ts,t.car≠(k:Int))→(setR R ts).getD k default=R.getD k default
 | [],R,_=>rfl
 | t::r,R,h=>by
   show (setR (setR1 R t) r).getD k default=_
   rw[Y2h fun t ht=>h t (YdV _ ht)]
   unfold setR1
   split
   · rename_i hc
     have:=h t (by simp)
     by_cases hk:k<R.length
     · rw[Y0R _ _ _ _ hk,if_neg (by omega)]
     · rw[Ye9,Ye9,YeS (by simp;omega),YeS (by omega)]
   · rfl
theorem Y4K (R:List (List Int))(t:Turn): (setR1 R t).length=R.length:=by
 unfold setR1
 split <;> simp
theorem Y7R {k:Nat}: ∀ {ts:List Turn}{R:List (List Int)}{t:Turn},(ts.map Turn.car).Nodup→t∈ts→t.car=(k:Int)→k<R.length→(setR R ts).getD k default=t.after
 | a::r,R,t,hn,h,hc,hk=>by
   rw[Yey,YeV] at hn
   show (setR (setR1 R a) r).getD k default=_
   rcases Yep.1 h with rfl | h
   · rw[Y2h fun u hu e=>hn.1 (by rw[hc,← e];exact Ye8.2 ⟨u,hu,rfl⟩)]
     unfold setR1
     rw[if_pos (by omega),Y0R _ _ _ _ hk,if_pos (by omega)]
   · exact Y7R hn.2 h hc (by rw[Y4K];exact hk)
theorem Y3U {α:Type}[Inhabited α]{l l':List α}(h:l.length=l'.length)(ha:∀ j,j<l.length→l.getD j default=l'.getD j default): l=l':=by
 refine List.ext_getElem h fun j h1 h2=>?_
 have:=ha j h1
 simpa [YdO h1,YdO h2] using this
theorem Y7c (p:Plan)(L:List (Int × List Int)): setR p.routes (turnedD p L).turns=newR p L:=by
 refine Y3U (by rw[Y1F,Y1P]) fun k hk=>?_
 rw[Y1F] at hk
 rw[Y3l hk]
 cases hl:rlook (k:Int) L with
 | none =>
   refine Y2h fun t ht e=>?_
   obtain⟨j,h1,h2,h3,h4,h5⟩:=Y0v.1 ht
   rw[h2] at e
   obtain rfl:j=k:=by omega
   rw[hl] at h4
   cases h4
 | some l =>
   show _=l
   by_cases e:p.routes.getD k default=l
   · rw[← e]
     refine Y2h fun t ht e'=>?_
     obtain⟨j,h1,h2,h3,h4,h5⟩:=Y0v.1 ht
     rw[h2] at e'
     obtain rfl:j=k:=by omega
     rw[hl] at h4
     injection h4 with h4
     exact h5 (by rw[h3,e,h4])
   · exact Y7R (t:=⟨(k:Int),p.routes.getD k default,l⟩) (Y4G p L) (Y0v.2 ⟨k,hk,rfl,rfl,hl,e⟩) rfl hk
theorem Y6d:∀ {l had:List Int},l.Nodup→(∀ x∈l,x∉had)→twiceI had l=false
 | [],had,_,_=>rfl
 | x::r,had,hn,h=>by
   rw[YeV] at hn
   rw[twiceI,if_neg (h x (by simp))]
   refine Y6d hn.2 fun y hy hm=>?_
   unfold addK at hm
   rw[if_neg (h x (by simp))] at hm
   rcases Yei.1 hm with hm | hm
   · exact h y (YdV _ hy) hm
   · rw[Yej] at hm
     exact hn.1 (hm ▸ hy)
theorem Y56:∀ {l had:List Int},l.Nodup→(∀ x∈l,x∉had)→onceGo l had=true
 | [],had,_,_=>rfl
 | x::r,had,hn,h=>by
   rw[YeV] at hn
   rw[onceGo,if_neg (h x (by simp))]
   refine Y56 hn.2 fun y hy hm=>?_
   unfold addK at hm
   rw[if_neg (h x (by simp))] at hm
   rcases Yei.1 hm with hm | hm
   · exact h y (YdV _ hy) hm
   · rw[Yej] at hm
     exact hn.1 (hm ▸ hy)
theorem Y6c (p:Plan)(L:List (Int × List Int)): checkD (turnedD p L)=false:=by
 unfold checkD
 rw[Y6d (Y4G p L) (fun x _ h=>by cases h),Y0L,Y0W]
 rfl
/-- An edit to routes can be done if no stop is twice on what it makes, and each is there. -/
theorem Y77 {p:Plan}{L:List (Int × List Int)}{c:Bool}{T:Delta}(hc:c=false)(hn:(newR p L).flatten.Nodup)(hs:∀ r∈newR p L,∀ s∈r,1≤s∧s<p.lock.length): applyR p c (turnedD p L) T=(doneR p (newR p L) T,0):=by
 rw[← Y7c] at hn ⊢
 refine Y7Z hc ?_ (Y56 hn fun x _ h=>by cases h) ?_
 rw[thereB,Y0L,Y0W,List.all_nil,List.all_nil,YfF,YfF,Yed]
 intro t ht
 obtain⟨k,h1,h2,h3,h4,h5⟩:=Y0v.1 ht
 refine Y89 (by omega) fun q hq=>?_
 refine hs t.after ?_ _ (Y02 hq)
 have:=Y3l (L:=L) h1
 rw[h4] at this
 have e:(newR p L).getD k default=t.after:=this
 rw[← e]
 exact Y02 (by rw[Y1P];exact h1)
 rw[Y69,Y0L,Y0W,List.all_nil,List.all_nil,YfF,YfF,Yed]
 intro t ht
 obtain⟨k,h1,h2,h3,h4,h5⟩:=Y0v.1 ht
 rw[asT,h2,h3]
 simp
theorem nodupR {R:List (List Int)}: R.flatten.Nodup↔(∀ k,k<R.length→(R.getD k default).Nodup)∧∀ j k,j<R.length→k<R.length→j≠k→∀ x,x∈R.getD j default→x∉R.getD k default:=by
 induction R with
 | nil=>simp
 | cons r R ih =>
   rw[YfC,Yff,ih]
   constructor
   · rintro⟨h1,⟨h2,h3⟩,h4⟩
     have h5:∀ x∈r,∀ k,k<R.length→x∉R.getD k default:=fun x hx k hk hm=>h4 x hx x (YfT.2 ⟨_,Y02 hk,hm⟩) rfl
     refine⟨fun k hk=>?_,fun j k hj hk hjk x hx hm=>?_⟩
     · cases k with
       | zero=>exact h1
       | succ k=>exact h2 k (by simp only[Yen] at hk;omega)
     · cases j with
       | zero =>
         cases k with
         | zero=>exact hjk rfl
         | succ k=>exact h5 x hx k (by simp only[Yen] at hk;omega) hm
       | succ j =>
         cases k with
         | zero=>exact h5 x hm j (by simp only[Yen] at hj;omega) hx
         | succ k=>exact h3 j k (by simp only[Yen] at hj;omega) (by simp only[Yen] at hk;omega) (by omega) x hx hm
   · rintro⟨h1,h2⟩
     refine⟨h1 0 (by simp),⟨fun k hk=>h1 (k+1) (by simp only[Yen];omega),fun j k hj hk hjk x hx hm=>h2 (j+1) (k+1) (by simp only[Yen];omega) (by simp only[Yen];omega) (by omega) x hx hm⟩,fun a ha b hb e=>?_⟩
     subst e
     obtain⟨q,hq,hm⟩:=YfT.1 hb
     obtain⟨k,hk,rfl⟩:=Y1E hq
     exact h2 0 (k+1) (by simp) (by simp only[Yen];omega) (by omega) a ha hm
theorem Y0j (n m:Int)(v:List Int): ∀ L:List (Int × List Int),rlook n (rput m v L)=if n=m then some v else rlook n L
 | []=>by
   simp only[rput,rlook]
 | p::r=>by
   rw[rput]
   split
   · rename_i e
     rw[rlook]
     split
     · rfl
     · rename_i h
       rw[rlook,if_neg (by rw[← e];exact h)]
   · rename_i e
     rw[rlook,Y0j n m v r,rlook]
     split
     · rename_i h
       rw[if_neg (by omega)]
     · rfl
theorem Y40:∀ {l:List Int}{n:Int},index l n≥0↔n∈l
 | [],n=>by simp[index]
 | x::r,n=>by
   have ih:=@Y40 r n
   rw[index,Yep]
   split
   · rename_i e
     exact⟨fun _=>.inl e,fun _=>by omega⟩
   · rename_i e
     split
     · rename_i h
       constructor
       · intro h';omega
       · rintro (h' | h')
         · exact absurd h' e
         · have:=ih.2 h';omega
     · rename_i h
       constructor
       · intro _;exact .inr (ih.1 (by omega))
       · intro _;omega
theorem Y41:∀ {l:List Int}{n:Int},index l n≥0→l.getD (index l n).toNat default=n
 | [],n,h=>by simp[index] at h
 | x::r,n,h=>by
   rw[index] at h ⊢
   split
   · rename_i e
     exact e.symm
   · rename_i e
     rw[if_neg e] at h
     split at h
     · omega
     · rename_i h1
       rw[if_neg h1,show (index r n+1).toNat=(index r n).toNat+1 by omega,Yfr]
       exact Y41 (by omega)
theorem Y2B (s:Int): ∀ (R:List (List Int)) (c:Nat),((whereGo s R c).1 = -1∧(whereGo s R c).2 = -1∧∀ r∈R,s∉r)∨∃ k,k<R.length∧(whereGo s R c).1=((c+k:Nat):Int)∧(whereGo s R c).2=index (R.getD k default) s∧s∈R.getD k default
 | [],c=>.inl ⟨rfl,rfl,fun r hr=>by cases hr⟩
 | r::R,c=>by
   rw[whereGo]
   split
   · rename_i h
     exact .inr ⟨0,by simp,rfl,rfl,Y40.1 h⟩
   · rename_i h
     rcases Y2B s R (c+1) with ⟨h1,h2,h3⟩ | ⟨k,h1,h2,h3,h4⟩
     · refine .inl ⟨h1,h2,fun q hq=>?_⟩
       rcases Yep.1 hq with rfl | hq
       · exact fun hm=>h (Y40.2 hm)
       · exact h3 q hq
     · refine .inr ⟨k+1,by simp only[Yen];omega,?_,by rw[Yfr];exact h3,by rw[Yfr];exact h4⟩
       have h2:(whereGo s R ((c+1:Nat):Int)).1=_:=h2
       show (whereGo s R ((c:Int)+1)).1=_
       rw[show ((c:Int)+1)=((c+1:Nat):Int) by omega,h2,Yfy,Yf0]
/-- Where a stop is: nowhere, or at its place of the one route that it is on. -/
theorem Y1A {R:List (List Int)}(hn:R.flatten.Nodup)(s:Int): ((whereR R s).1 = -1∧(whereR R s).2 = -1∧∀ k,k<R.length→s∉R.getD k default)∨∃ k j,k<R.length∧j<(R.getD k default).length∧whereR R s=((k:Int),(j:Int))∧(R.getD k default).getD j default=s∧∀ i,i<R.length→i≠k→s∉R.getD i default:=by
 rcases Y2B s R 0 with ⟨h1,h2,h3⟩ | ⟨k,h1,h2,h3,h4⟩
 exact .inl ⟨h1,h2,fun k hk=>h3 _ (Y02 hk)⟩
 rw[YdZ] at h2
 have h5:=Y40.2 h4
 have h6:=Y8m (R.getD k default) s
 refine .inr ⟨k,(index (R.getD k default) s).toNat,h1,by omega,?_,Y41 h5,fun i hi hik hm=>(nodupR.1 hn).2 k i h1 hi (Ne.symm hik) s h4 hm⟩
 show whereGo s R 0=_
 have h2:(whereGo s R 0).1=_:=h2
 have h3:(whereGo s R 0).2=_:=h3
 refine Prod.ext h2 ?_
 show (whereGo s R 0).2=_
 rw[h3]
 omega
theorem Y0p {l:List Int}{s x:Int}: x∈withoutL l s↔x∈l∧x≠s:=by simp[withoutL]
theorem Y2P {l:List Int}{s:Int}(h:s∉l): withoutL l s=l:=List.filter_eq_self.2 fun x hx=>by simpa using fun e:x=s=>h (e ▸ hx)
theorem Y1v (l ss:List Int)(k:Nat): (withL l k ss).Perm (ss++l):=by
 unfold withL
 have h:(l.take k++ss++l.drop k).Perm (ss++l.take k++l.drop k):=(List.perm_append_comm).append_right _
 refine h.trans ?_
 rw[Yfk,Yfg]
theorem Y4t {l ss:List Int}{k:Nat}{x:Int}: x∈withL l k ss↔x∈ss∨x∈l:=by rw[(Y1v l ss k).mem_iff,Yei]
/-- A stop is taken from where it is to a place of a car. -/
theorem Y9o {I:Inst}{p:Plan}(hp:WfP I p){s:Int}(hs:1≤s∧s≤I.stops.length){c k:Nat}(hc:c<p.routes.length){R':List (List Int)}(hl:R'.length=p.routes.length)
   (hr:∀ j,j<p.routes.length→R'.getD j default=if j=c then withL (withoutL (p.routes.getD c default) s) k [s] else withoutL (p.routes.getD j default) s):R'.flatten.Nodup∧∀ r∈R',∀ x∈r,1≤x∧x≤I.stops.length:=by
 have hn:=nodupR.1 hp.once
 refine⟨nodupR.2 ⟨fun j hj=>?_,fun i j hi hj hij x hx hm=>?_⟩,fun r hr' x hx=>?_⟩
 rw[hl] at hj
 rw[hr j hj]
 have h1:=(hn.1 j hj).filter (fun x=>decide (x≠s))
 split
 rename_i e
 subst e
 rw[(Y1v _ _ _).nodup_iff,List.singleton_append,YeV]
 exact⟨fun h=>(Y0p.1 h).2 rfl,h1⟩
 exact h1
 rw[hl] at hi hj
 rw[hr i hi] at hx
 rw[hr j hj] at hm
 split at hx
 rename_i e
 subst e
 rw[if_neg (Ne.symm hij),Y0p] at hm
 rw[Y4t,Yej,Y0p] at hx
 rcases hx with hx | hx
 exact hm.2 hx
 exact hn.2 i j hi hj hij x hx.1 hm.1
 rw[Y0p] at hx
 split at hm
 rename_i e
 subst e
 rw[Y4t,Yej,Y0p] at hm
 rcases hm with hm | hm
 exact hx.2 hm
 exact hn.2 i j hi hj hij x hx.1 hm.1
 rw[Y0p] at hm
 exact hn.2 i j hi hj hij x hx.1 hm.1
 obtain⟨j,hj,rfl⟩:=Y1E hr'
 rw[hl] at hj
 rw[hr j hj] at hx
 split at hx
 rw[Y4t,Yej,Y0p] at hx
 rcases hx with rfl | hx
 exact hs
 exact hp.stops _ (Y02 hc) x hx.1
 rw[Y0p] at hx
 exact hp.stops _ (Y02 hj) x hx.1
/-- Two stops change their places. -/
def swp (a b x:Int): Int:=if x=a then b else if x=b then a else x
theorem Ydb {a b x y:Int}(h:swp a b x=swp a b y): x=y:=by
 unfold swp at h
 split at h <;> split at h <;> (try split at h) <;> (try split at h) <;> omega
theorem Ya3 {I:Inst}{p:Plan}(hp:WfP I p){a b:Int}(ha:1≤a∧a≤I.stops.length)(hb:1≤b∧b≤I.stops.length){R':List (List Int)}(hR:R'=p.routes.map fun r=>r.map (swp a b)): R'.flatten.Nodup∧∀ r∈R',∀ x∈r,1≤x∧x≤I.stops.length:=by
 subst hR
 constructor
 rw[← List.map_flatten]
 exact List.Pairwise.map _ (fun x y h e=>h (Ydb e)) hp.once
 intro r hr x hx
 obtain⟨q,hq,rfl⟩:=Ye8.1 hr
 obtain⟨y,hy,rfl⟩:=Ye8.1 hx
 have:=hp.stops q hq y hy
 unfold swp
 split
 exact hb
 split
 exact ha
 exact this
/-- Two ends change their routes. -/
theorem Y9z {I:Inst}{p:Plan}(hp:WfP I p){c e k m:Nat}(hc:c<p.routes.length)(he:e<p.routes.length)(hce:c≠e){R':List (List Int)}(hl:R'.length=p.routes.length)
   (hr:∀ j,j<p.routes.length→R'.getD j default=if j=c then (p.routes.getD c default).take k++(p.routes.getD e default).drop m else if j=e then (p.routes.getD e default).take m++(p.routes.getD c default).drop k else p.routes.getD j default):R'.flatten.Nodup∧∀ r∈R',∀ x∈r,1≤x∧x≤I.stops.length:=by
 have hn:=nodupR.1 hp.once
 have hdis:∀ (r:List Int) (k:Nat),r.Nodup→∀ x,x∈r.take k→x∉r.drop k:=by
   intro r k h x h1 h2
   rw[← Yfg k r,Yff] at h
   exact h.2.2 x h1 x h2 rfl
 have mt:∀ {r:List Int}{k:Nat}{x:Int},x∈r.take k→x∈r:=fun h=>YeC h
 have md:∀ {r:List Int}{k:Nat}{x:Int},x∈r.drop k→x∈r:=fun h=>YeE h
 refine⟨nodupR.2 ⟨fun j hj=>?_,fun i j hi hj hij x hx hm=>?_⟩,fun r hr' x hx=>?_⟩
 rw[hl] at hj
 rw[hr j hj]
 split
 rw[Yff]
 exact⟨(hn.1 c hc).sublist (List.take_sublist _ _),(hn.1 e he).sublist (List.drop_sublist _ _),fun x hx y hy h=>hn.2 c e hc he hce x (mt hx) (h ▸ md hy)⟩
 split
 rw[Yff]
 exact⟨(hn.1 e he).sublist (List.take_sublist _ _),(hn.1 c hc).sublist (List.drop_sublist _ _),fun x hx y hy h=>hn.2 e c he hc (Ne.symm hce) x (mt hx) (h ▸ md hy)⟩
 exact hn.1 j hj
 rw[hl] at hi hj
 rw[hr i hi] at hx
 rw[hr j hj] at hm
 by_cases ic:i=c
 subst ic
 rw[if_pos rfl,Yei] at hx
 rw[if_neg (Ne.symm hij)] at hm
 by_cases je:j=e
 subst je
 rw[if_pos rfl,Yei] at hm
 rcases hx with hx | hx <;> rcases hm with hm | hm
 exact hn.2 _ _ hi hj hij x (mt hx) (mt hm)
 exact hdis _ _ (hn.1 _ hi) x hx hm
 exact hdis _ _ (hn.1 _ hj) x hm hx
 exact hn.2 _ _ hj hi (Ne.symm hij) x (md hx) (md hm)
 rw[if_neg je] at hm
 rcases hx with hx | hx
 exact hn.2 _ _ hi hj hij x (mt hx) hm
 exact hn.2 _ _ he hj (Ne.symm je) x (md hx) hm
 rw[if_neg ic] at hx
 by_cases ie:i=e
 subst ie
 rw[if_pos rfl,Yei] at hx
 by_cases jc:j=c
 subst jc
 rw[if_pos rfl,Yei] at hm
 rcases hx with hx | hx <;> rcases hm with hm | hm
 exact hn.2 _ _ hi hj hij x (mt hx) (mt hm)
 exact hdis _ _ (hn.1 _ hi) x hx hm
 exact hdis _ _ (hn.1 _ hj) x hm hx
 exact hn.2 _ _ hj hi (Ne.symm hij) x (md hx) (md hm)
 rw[if_neg jc,if_neg (Ne.symm hij)] at hm
 rcases hx with hx | hx
 exact hn.2 _ _ hi hj hij x (mt hx) hm
 exact hn.2 _ _ hc hj (Ne.symm jc) x (md hx) hm
 rw[if_neg ie] at hx
 by_cases jc:j=c
 subst jc
 rw[if_pos rfl,Yei] at hm
 rcases hm with hm | hm
 exact hn.2 _ _ hi hj hij x hx (mt hm)
 exact hn.2 _ _ hi he ie x hx (md hm)
 rw[if_neg jc] at hm
 by_cases je:j=e
 subst je
 rw[if_pos rfl,Yei] at hm
 rcases hm with hm | hm
 exact hn.2 _ _ hi hj hij x hx (mt hm)
 exact hn.2 _ _ hi hc ic x hx (md hm)
 rw[if_neg je] at hm
 exact hn.2 _ _ hi hj hij x hx hm
 obtain⟨j,hj,rfl⟩:=Y1E hr'
 rw[hl] at hj
 rw[hr j hj] at hx
 have h1:=hp.stops _ (Y02 hc)
 have h2:=hp.stops _ (Y02 he)
 split at hx
 rcases Yei.1 hx with hx | hx
 exact h1 x (mt hx)
 exact h2 x (md hx)
 split at hx
 rcases Yei.1 hx with hx | hx
 exact h2 x (mt hx)
 exact h1 x (md hx)
 exact hp.stops _ (Y02 hj) x hx
/-- The stops of one route change their order. -/
theorem Y9d {I:Inst}{p:Plan}(hp:WfP I p){c:Nat}(hc:c<p.routes.length){q:List Int}(hq:q.Perm (p.routes.getD c default)){R':List (List Int)}(hl:R'.length=p.routes.length)
   (hr:∀ j,j<p.routes.length→R'.getD j default=if j=c then q else p.routes.getD j default):R'.flatten.Nodup∧∀ r∈R',∀ x∈r,1≤x∧x≤I.stops.length:=by
 have hn:=nodupR.1 hp.once
 have hm:∀ j,j<p.routes.length→∀ x,x∈R'.getD j default↔x∈p.routes.getD j default:=by
   intro j hj x
   rw[hr j hj]
   split
   · rename_i e
     subst e
     exact hq.mem_iff
   · exact Iff.rfl
 refine⟨nodupR.2 ⟨fun j hj=>?_,fun i j hi hj hij x hx hx'=>?_⟩,fun r hr' x hx=>?_⟩
 rw[hl] at hj
 rw[hr j hj]
 split
 exact hq.nodup_iff.2 (hn.1 c hc)
 exact hn.1 j hj
 rw[hl] at hi hj
 exact hn.2 i j hi hj hij x ((hm i hi x).1 hx) ((hm j hj x).1 hx')
 obtain⟨j,hj,rfl⟩:=Y1E hr'
 rw[hl] at hj
 exact hp.stops _ (Y02 hj) x ((hm j hj x).1 hx)
theorem Y7D (l:List Int)(hl:l.length≤1000000)(s:Int): CallsV Try.prog 121 [.sl (em ni l),.int .i64 s] (.slo 1 (em ni (withoutL l s))):=by
 refine Yg2 (Yga _) mix Try.func121 rfl rfl (by simp[Try.f121]) (by kernel_rfl) (nb:=0) ?_
 unfold Try.f121
 refine Vc ?_
 refine ViA ?_
 refine goWeak (Ygp (j:=5) 700001 1 rfl) ?_
 refine Vg0 ?_
 refine Vq ?_
 refine Yg8 YfX (α:=Nat × Nat × List Int) (fun ⟨i,g,r⟩ st=>(i≤l.length∧r=(l.take i).filter (fun x=>decide (x≠s))∧r.length≤i)∧∃ m0,st=⟨(updS (updS (updS (updS (updS (fun _=>LV.undef) 1 (.int .i64 s)) 5 (.own 700001 g 0 r.length none)) 8 (.sl (em ni l))) 9 (.int .i64 (l.length:Int))) 10 (.int .i64 (i:Int))),effM m0 [(700001,⟨g,false,.slc,1,em ni r⟩)]⟩) (fun ⟨i,g,r⟩=>l.length - i) ⟨0,_,[]⟩ ⟨_,(YfZ (YfV (YfV (YfV (YfV (YfV (Yg0 _) rfl) rfl) rfl) rfl) rfl) _),⟨Ye1 _,rfl,Ye1 _⟩,_,(congrArg (St.mk _) (Y01 (YfW rfl Yg3)).symm)⟩ ?_
 rintro⟨i,g,r⟩ _ ⟨⟨hi,hr,hrl⟩,m0,rfl⟩
 refine Vd ?_
 refine cD (fun h11=>?_) fun h11=>?_
 refine Vn1 ?_
 refine Vd0 ?_
 refine Vf2 ?_
 refine cB (fun h16=>?_) fun h16=>?_
 refine Vv0 ?_
 refine Yg9 YfX (sz:=1) (z:=[LV.int .i64 0]) (es:=em ni [(l.getD i default)]) rfl rfl rfl rfl (by decide) (by decide) (by decide) (FrzP.cons (S:=[]) (T:=[]) (YfY rfl) rfl (by decide) rfl (FrzP.nil)) rfl ?_
 intro g19
 refine Ygj YfX (f:=ni) (v:=(l.getD i default)) (sz:=1) (z:=[.int .i64 0]) rfl rfl rfl rfl rfl (by decide) (YdK rfl) rfl rfl rfl rfl rfl rfl rfl rfl rfl rfl rfl rfl rfl rfl rfl rfl (by omega) ?_
 refine Vy2 ?_
 refine⟨⟨i+1,_,r++[(l.getD i default)]⟩,(by dsimp only;omega),_,(YfZ (YfV (YfV (YfV (YfV (YfV (Yg0 _) rfl) (by rw[YdN];rfl)) rfl) rfl) rfl) _),⟨by omega,by rw[Y18 (c:=fun x=>decide (x≠s)) (by omega) (decide_eq_true h16),← hr],by rw[YdN,Yer];omega⟩,_,(congrArg (St.mk _) (Y01 (YfW rfl Yg3)).symm)⟩
 refine Vs ?_
 refine⟨⟨i+1,_,r⟩,(by dsimp only;omega),_,(YfZ (YfV (YfV (YfV (YfV (YfV (Yg0 _) rfl) rfl) rfl) rfl) rfl) _),⟨by omega,by rw[Y1u (c:=fun x=>decide (x≠s)) (by omega) (decide_eq_false (by simpa using h16)),← hr],by omega⟩,_,(congrArg (St.mk _) (Y01 (YfW rfl Yg3)).symm)⟩
 refine Vb4 ?_
 have hx:r=withoutL l s:=by rw[hr,YdP (by omega)];rfl
 refine VmG ?_
 show LV.slo 1 (em ni r)=_
 rw[hx]
theorem Y2n (l:List Int)(hl:l.length≤1000000)(s:Int): CallsV Try.prog 121 [.sl (em ni l),.int .i64 s] (.sl (em ni (withoutL l s))):=(Y7D l hl s).freeze rfl
theorem Ybf (l:List Int)(hl:l.length≤1000000)(k:Nat)(hk:k≤l.length)(ss:List Int)(hss:ss.length≤1000000): CallsV Try.prog 123 [.sl (em ni l),.int .i64 k,.sl (em ni ss)] (.slo 1 (em ni (withL l k ss))):=by
 refine Yg2 (Yga _) mix Try.func123 rfl rfl (by simp[Try.f123]) (by kernel_rfl) (nb:=0) ?_
 unfold Try.f123
 refine Vc ?_
 refine Vv9 ?_
 rcases (show ss=[]∨0<ss.length by cases ss <;> simp) with rfl | h1
 ·rcases (show l.drop k=[]∨0<(l.drop k).length by cases l.drop k <;> simp) with h2 | h2
  have hlt:(l.take k).length=k:=by rw[Yek];omega
  refine Vq4 ?_
  refine VxD ?_
  refine ViF ?_
  intro g10
  refine Va ?_
  refine GL.appendE YfX rfl rfl rfl rfl rfl rfl rfl ?_
  refine Vg ?_
  refine VjF ?_
  refine GL.appendE YfX rfl rfl rfl rfl rfl rfl (by show LV.sl (em ni (l.drop k))=_;rw[h2];rfl) ?_
  rotate_left
  have hlt:(l.take k).length=k:=by rw[Yek];omega
  refine Vq4 ?_
  refine VxD ?_
  refine ViF ?_
  intro g10
  refine Va ?_
  refine GL.appendE YfX rfl rfl rfl rfl rfl rfl rfl ?_
  refine Vg ?_
  refine VjF ?_
  refine GL.appendO YfX (f:=ni) (l:=(l.take k)) (l2:=(l.drop k)) (sz:=1) (z:=[.int .i64 0]) rfl rfl rfl rfl rfl (by decide) (YdK rfl) rfl rfl rfl rfl rfl rfl rfl rfl rfl (fun _=>rfl) (fun _=>rfl) rfl h2 (by simp only[YdN,Yek,Yez] at *;omega) ?_
  all_goals
   refine VyB ?_
   refine VvK ?_
   exact congrArg (fun x=>LV.slo 1 (em ni x)) (by simp only[withL,h2,YdX,Ye3])
 ·rcases (show l.drop k=[]∨0<(l.drop k).length by cases l.drop k <;> simp) with h2 | h2
  have hlt:(l.take k).length=k:=by rw[Yek];omega
  refine Vq4 ?_
  refine VxD ?_
  refine ViF ?_
  intro g10
  refine Va ?_
  refine VwK ?_
  refine Vg ?_
  refine VjF ?_
  refine GL.appendE YfX rfl rfl rfl rfl rfl rfl (by show LV.sl (em ni (l.drop k))=_;rw[h2];rfl) ?_
  rotate_left
  have hlt:(l.take k).length=k:=by rw[Yek];omega
  refine Vq4 ?_
  refine VxD ?_
  refine ViF ?_
  intro g10
  refine Va ?_
  refine VwK ?_
  refine Vg ?_
  refine VjF ?_
  refine GL.appendO YfX (f:=ni) (l:=(l.take k++ss)) (l2:=(l.drop k)) (sz:=1) (z:=[.int .i64 0]) rfl rfl rfl rfl rfl (by decide) (YdK rfl) rfl rfl rfl rfl rfl rfl rfl (by (simp only[YdN,Yek];done)) rfl (fun _=>rfl) (fun _=>rfl) rfl h2 (by simp only[YdN,Yek,Yez] at *;omega) ?_
  all_goals
   refine VyB ?_
   refine VvK ?_
   exact congrArg (fun x=>LV.slo 1 (em ni x)) (by simp only[withL,h2,YdX,Ye3])
theorem Y7a (l:List Int)(hl:l.length≤1000000)(k:Nat)(hk:k≤l.length)(ss:List Int)(hss:ss.length≤1000000): CallsV Try.prog 123 [.sl (em ni l),.int .i64 k,.sl (em ni ss)] (.sl (em ni (withL l k ss))):=(Ybf l hl k hk ss hss).freeze rfl
theorem Y3h (L:List (Int × List Int))(r:List Int): ∀ (R:List (List Int)) (c:Nat),turnGo L (R++[r]) c=turnGo L R c++turnGo L [r] (c+R.length)
 | [],c=>rfl
 | x::R,c=>by
   have ih:=Y3h L r R (c+1)
   rw[show c+1+R.length=c+(R.length+1) by omega] at ih
   have e1:turnGo L (x::(R++[r])) c=match rlook (c:Int) L with | some l=>⟨(c:Int),x,l⟩::turnGo L (R++[r]) (c+1) | none=>turnGo L (R++[r]) (c+1):=rfl
   have e2:turnGo L (x::R) c=match rlook (c:Int) L with | some l=>⟨(c:Int),x,l⟩::turnGo L R (c+1) | none=>turnGo L R (c+1):=rfl
   rw[YdW,e1,e2,ih,Yen]
   split <;> rfl
theorem Y4R {L:List (Int × List Int)}{R:List (List Int)}{i:Nat}(h:i<R.length){l:List Int}(hl:rlook (i:Int) L=some l): turnGo L (R.take (i+1)) 0=turnGo L (R.take i) 0++[⟨(i:Int),R.getD i default,l⟩]:=by
 rw[Y0a h,Y3h,Yek,Nat.min_eq_left (by omega),YdZ]
 congr 1
 rw[turnGo,hl]
 rfl
theorem Y6K {L:List (Int × List Int)}{R:List (List Int)}{i:Nat}(h:i<R.length)(hl:rlook (i:Int) L=none): turnGo L (R.take (i+1)) 0=turnGo L (R.take i) 0:=by
 rw[Y0a h,Y3h,Yek,Nat.min_eq_left (by omega),YdZ,turnGo,hl]
 exact YdX _
def drvT (I:Inst)(t:Turn): Bool:=(eval I t.car t.after).isSome
def fitB (I:Inst)(d:Delta): Bool:=!emptyD d && d.turns.all (drvT I)
def checkC (I:Inst)(p:Plan)(who:Int)(d:Delta): Int:=if mayC p who (tidyD d)≠0 then mayC p who (tidyD d) else if d.turns.all (drvT I)=true then 0 else 13
def toldR (I:Inst)(p:Plan)(who:Int)(L:List (Int × List Int)): Delta × Int:=if checkC I p who (turnedD p L)≠0 then (⟨[],[],[]⟩,checkC I p who (turnedD p L)) else (turnedD p L,0)
def wsub (a b:Int): Int:=IntKind.i64.wrap (a - b)
def gain1 (I:Inst)(a:Int × Int)(t:Turn): Int × Int:=(wadd a.1 (wsub t.after.length t.before.length),wadd a.2 (wsub (cost I t.before) (cost I t.after)))
def gainR (I:Inst)(d:Delta): Int × Int:=d.turns.foldl (gain1 I) (0,0)
theorem Y1k (p:Plan)(hp:OkP p)(h20:p.routes.length<20)(L:List (Int × List Int))(hL:∀ q∈L,q.2.length≤1000000): CallsV Try.prog 117 [.agg (kp p),.fmap (em2 L)] (.agg (kd (turnedD p L))):=by
 refine Yg2 (Yga _) mix Try.func117 rfl rfl (by simp[Try.f117]) (by kernel_rfl) (nb:=0) ?_
 unfold Try.f117
 refine Vc ?_
 refine Vo ?_
 intro g2
 refine Vz0 ?_
 intro g4
 refine Va4 ?_
 refine Vz0 ?_
 intro g5
 refine Vq0 ?_
 refine goWeak (Ygi (n:=320) (c:=0) 700001 3 rfl rfl rfl rfl rfl rfl) ?_
 refine Vd1 ?_
 refine Vx3 ?_
 refine Yg8 YfX (α:=Nat × Nat × List Turn) (fun ⟨i,g,A⟩ st=>(i≤p.routes.length∧A=turnGo L (p.routes.take i) 0∧A.length≤i)∧∃ m0,st=⟨(updS (updS (updS (updS (updS (updS (fun _=>LV.undef) 1 (.fmap (em2 L))) 4 (.ref 256 g4 0 0)) 5 (.ref 320 g5 0 0)) 11 (.sl (em nr p.routes))) 12 (.int .i64 (p.routes.length:Int))) 13 (.int .i64 (i:Int))),effM m0 [(256,⟨g4,false,.var,3,[[.nils,.nils,.nils]]⟩),(320,⟨g5,false,.var,3,[[.own 700001 g 0 A.length none,.nils,.nils]]⟩),(700001,⟨g,false,.slc,3,em kt A⟩)]⟩) (fun ⟨i,g,A⟩=>p.routes.length - i) ⟨0,_,[]⟩ ⟨_,(YfZ (YfV (YfV (YfV (YfV (YfV (YfV (Yg0 _) rfl) rfl) rfl) rfl) rfl) rfl) _),⟨Ye1 _,rfl,Ye2 _⟩,_,(congrArg (St.mk _) (Y01 (YfW rfl (YfW rfl (YfW rfl Yg3)))).symm)⟩ ?_
 rintro⟨i,g,A⟩ _ ⟨⟨hi,hA,hAl⟩,m0,rfl⟩
 refine Vd ?_
 refine cD (fun h14=>?_) fun h14=>?_
 refine Vl5 ?_
 refine Vv9 ?_
 rcases (show rlook (i:Int) L=none∨∃ l,rlook (i:Int) L=some l by cases rlook (i:Int) L <;> simp) with ho | ⟨l,ho⟩
 refine Vv0 ?_
 refine GL.lookF2 YfX rfl rfl rfl rfl rfl ho ?_
 refine VjA ?_
 refine Vj0 ?_
 refine Vw1 ?_
 refine Vs ?_
 refine⟨⟨i+1,_,A⟩,(by dsimp only;omega),_,(YfZ (YfV (YfV (YfV (YfV (YfV (YfV (Yg0 _) rfl) rfl) rfl) rfl) rfl) rfl) _),⟨by omega,by rw[Y6K (by omega) ho,← hA],by omega⟩,_,(congrArg (St.mk _) (Y01 (YfW rfl (YfW rfl (YfW rfl Yg3)))).symm)⟩
 refine Vv0 ?_
 refine GL.lookF2 YfX rfl rfl rfl rfl rfl ho ?_
 refine VjA ?_
 refine Vj0 ?_
 refine Vp2 ?_
 have hle:l.length≤1000000:=hL _ (Y0P ho)
 have hrr:=hp.each _ (Y02 (l:=p.routes) (j:=i) (by omega))
 refine Vi0 ?_
 refine Vc0 ?_
 refine Vg ?_
 refine VoC ?_
 intro g29
 refine Va ?_
 refine VxK ?_
 intro g31
 refine VuG ?_
 refine VyK ?_
 intro g33
 refine VzK ?_
 refine Vs0 ?_
 refine VwG ?_
 refine Vs5 ?_
 rw[show A.length+1=(A++[(⟨(i:Int),(p.routes.getD i default),l⟩:Turn)]).length from by rw[YdN];rfl]
 refine⟨⟨i+1,_,A++[(⟨(i:Int),(p.routes.getD i default),l⟩:Turn)]⟩,(by dsimp only;omega),_,(YfZ (YfV (YfV (YfV (YfV (YfV (YfV (Yg0 _) rfl) rfl) rfl) rfl) rfl) rfl) _),⟨by omega,by rw[Y4R (by omega) ho,← hA],by rw[YdN,Yer];omega⟩,_,(congrArg (St.mk _) (Y01 (YfW rfl (YfW rfl (YfW rfl Yg3)))).symm)⟩
 refine VrA ?_
 have hAf:A=turnGo L p.routes 0:=by rw[hA,YdP (by omega)]
 refine VfN ?_
 refine GL.callM0 YfX rfl (Frz.aggc (by exact (Frz.aggc (by exact Yg5 rfl rfl rfl rfl (by exact Y00 _ _)) (Frz.aggc (by exact Frz.nils) (Frz.aggc (by exact Frz.nils) Frz.aggn)))) (Frz.aggn)) (Y3K ⟨A,[],[]⟩ (by rw[hAf];exact Y33 h20 hp.each hL)) rfl rfl (fun _=>rfl) ?_
 refine VaB ?_
 refine Vd4 ?_
 refine⟨_,_,_,_,.cons (.cellA (n:=3) rfl rfl rfl (by simp) rfl rfl rfl (YdK rfl)) .nil,.frz (Frz.aggc (by exact Frz.pure rfl) (Frz.aggc (by exact Frz.pure rfl) (Frz.aggc (by exact Frz.pure rfl) Frz.aggn))),Yec,by simp,?_⟩
 show LV.agg (kd (tidyD ⟨A,[],[]⟩))=_
 rw[hAf]
 rfl
theorem Y7q (I:Inst)(hs:I.Short)(s:Int): CallsV Try.prog 120 [ei I,.int .i64 s] (.bool (isStop I s)):=by
 refine Yg2 (Yga _) mix Try.func120 rfl rfl (by simp[Try.f120]) (by kernel_rfl) (nb:=0) ?_
 unfold Try.f120
 refine Vy0 ?_
 intro g2
 refine Vv7 ?_
 refine Yg1 7 rfl (fun h7=>?_) (fun h7=>?_)
 rw[h7]
 replace h7:=of_decide_eq_true h7
 refine Vi ?_
 refine Vb6 ?_
 refine Vt2 ?_
 refine Vh1 ?_
 refine Vd2 ?_
 show LV.bool _=LV.bool _
 congr 1
 (rw[isStop,decide_eq_true (show (1:Int)≤s by omega)];rfl)
 rw[h7]
 replace h7:=of_decide_eq_false h7
 refine Vr7 ?_
 show LV.bool _=LV.bool _
 congr 1
 (rw[isStop,decide_eq_false (show ¬ (1:Int)≤s by omega)];rfl)
theorem Y4X (I:Inst)(N:Nat)(hb:Sb I N)(hq:Sp I)(l:List Delta)(hl:l.length≤1000000)(hd:∀ d∈l,OkD d∧∀ t∈d.turns,t.after.length≤1000): CallsV Try.prog 125 [ei I,.sl (em kd l)] (.sl (em kd (l.filter (fitB I)))):=by
 refine Yg2 (Yga _) mix Try.func125 rfl rfl (by simp[Try.f125]) (by kernel_rfl) (nb:=0) ?_
 unfold Try.f125
 refine Vy0 ?_
 intro g2
 refine ViA ?_
 refine goWeak (Ygp (j:=5) 700001 3 rfl) ?_
 refine Vg0 ?_
 refine Vq ?_
 refine Yg8 YfX (α:=Nat × Nat × List Delta) (fun ⟨i,g,r⟩ st=>(i≤l.length∧r=(l.take i).filter (fitB I)∧r.length≤i)∧∃ m0,st=⟨(updS (updS (updS (updS (updS (fun _=>LV.undef) 2 (.ref 128 g2 0 0)) 5 (.own 700001 g 0 r.length none)) 13 (.sl (em kd l))) 14 (.int .i64 (l.length:Int))) 15 (.int .i64 (i:Int))),effM m0 [(128,⟨g2,false,.var,4,[ic I]⟩),(700001,⟨g,false,.slc,3,em kd r⟩)]⟩) (fun ⟨i,g,r⟩=>l.length - i) ⟨0,_,[]⟩ ⟨_,(YfZ (YfV (YfV (YfV (YfV (YfV (Yg0 _) rfl) rfl) rfl) rfl) rfl) _),⟨Ye1 _,rfl,Ye2 _⟩,_,(congrArg (St.mk _) (Y01 (YfW rfl (YfW rfl Yg3))).symm)⟩ ?_
 rintro⟨i,g,r⟩ _ ⟨⟨hi,hr,hrl⟩,m0,rfl⟩
 refine Vd ?_
 refine cD (fun h16=>?_) fun h16=>?_
 have hD:=hd _ (Y02 (l:=l) (j:=i) (by omega))
 have hDt:(l.getD i default).turns.length<20:=hD.1.1
 refine VaO ?_
 refine Vz0 ?_
 intro g7
 refine Vg3 ?_
 refine VcN ?_
 refine Yg6 YfX rfl (Frz.aggc (by exact YfY rfl) (Frz.aggn)) (Y4j _ hD.1) rfl rfl (fun _=>rfl) ?_
 refine Vz6 ?_
 refine Vb0 ?_
 refine Vx3 ?_
 refine Yg8 YfX (α:=Nat × Bool) (fun ⟨j,ok⟩ st=>(j≤(l.getD i default).turns.length∧ok=(!emptyD (l.getD i default) && ((l.getD i default).turns.take j).all (drvT I)))∧∃ m0,st=⟨(updS (updS (updS (updS (updS (updS (updS (updS (updS (updS (fun _=>LV.undef) 2 (.ref 128 g2 0 0)) 5 (.own 700001 g 0 r.length none)) 13 (.sl (em kd l))) 14 (.int .i64 (l.length:Int))) 15 (.int .i64 (i:Int))) 7 (.ref 448 g7 0 0)) 8 (.bool ok)) 23 (.sl (em kt (l.getD i default).turns))) 24 (.int .i64 ((l.getD i default).turns.length:Int))) 25 (.int .i64 (j:Int))),effM m0 [(128,⟨g2,false,.var,4,[ic I]⟩),(700001,⟨g,false,.slc,3,em kd r⟩),(448,⟨g7,false,.var,3,[kd (l.getD i default)]⟩)]⟩) (fun ⟨j,ok⟩=>(l.getD i default).turns.length - j) ⟨0,_⟩ ⟨_,(YfZ (YfV (YfV (YfV (YfV (YfV (YfV (YfV (YfV (YfV (YfV (Yg0 _) rfl) rfl) rfl) rfl) rfl) rfl) rfl) rfl) rfl) rfl) _),⟨Ye1 _,(YfF _).symm⟩,_,(congrArg (St.mk _) (Y01 (YfW rfl (YfW rfl (YfW rfl Yg3)))).symm)⟩ ?_
 rintro⟨j,ok⟩ _ ⟨⟨hj,hok⟩,m0,rfl⟩
 refine Vd ?_
 refine cD (fun h26=>?_) fun h26=>?_
 refine Vt6 ?_
 intro g10
 refine Vz3 ?_
 refine Vt0 ?_
 refine VxB ?_
 refine Yg6 YfX rfl (Frz.aggc (by exact YfY rfl) (Frz.aggc (by exact Frz.pure rfl) (Frz.aggc (by exact Frz.pure rfl) (Frz.aggn)))) (Y8r I N hb hq _ _ (hD.2 _ (Y02 (by omega)))) rfl rfl (fun _=>rfl) ?_
 refine VkD ?_
 refine VbB ?_
 intro g11
 refine Vq3 ?_
 refine Vm3 ?_
 ·refine Yg1 39 rfl (fun h39=>?_) (fun h39=>?_)
  rw[h39]
  refine Vl6 ?_
  rotate_left
  rw[h39]
  refine VuE ?_
  all_goals
   refine Vd3 ?_
   refine Vy2 ?_
   refine⟨⟨j+1,_⟩,(by dsimp only;omega),_,(YfZ (YfV (YfV (YfV (YfV (YfV (YfV (YfV (YfV (YfV (YfV (Yg0 _) rfl) rfl) rfl) rfl) rfl) rfl) rfl) rfl) rfl) rfl) _),⟨by omega,by rw[Y11 (drvT I) (by omega),← YfQ,← hok,h39];rfl⟩,_,(congrArg (St.mk _) (Y01 (YfW rfl (YfW rfl (YfW rfl Yg3)))).symm)⟩
 have hokf:ok=fitB I (l.getD i default):=by rw[hok,YdP (by omega)];rfl
 refine Vh3 ?_
 refine Vj0 ?_
 refine Ygb rfl (fun h43=>?_) (fun h43=>?_)
 refine Vl ?_
 refine Vy6 ?_
 refine Yg9 YfX (sz:=3) (z:=[LV.nils,LV.nils,LV.nils]) (es:=em kd [(l.getD i default)]) rfl rfl rfl rfl (by decide) (by decide) (by decide) (FrzP.cons (S:=[]) (T:=[]) (YfY rfl) rfl (by decide) rfl (FrzP.nil)) rfl ?_
 intro g46
 refine Ygj YfX (f:=kd) (v:=(l.getD i default)) (sz:=3) (z:=[.nils,.nils,.nils]) rfl rfl rfl rfl rfl (by decide) (YdK rfl) rfl rfl rfl rfl rfl rfl rfl rfl rfl rfl rfl rfl rfl rfl rfl rfl (by omega) ?_
 refine Vy2 ?_
 refine⟨⟨i+1,_,r++[(l.getD i default)]⟩,(by dsimp only;omega),_,(YfZ (YfV (YfV (YfV (YfV (YfV (Yg0 _) rfl) (by rw[YdN];rfl)) rfl) rfl) rfl) _),⟨by omega,by rw[Y18 (c:=fitB I) (by omega) (by rw[← hokf];exact h43),← hr],by rw[YdN,Yer];omega⟩,_,(congrArg (St.mk _) (Y01 (YfW rfl (YfW rfl Yg3))).symm)⟩
 refine Vs ?_
 refine⟨⟨i+1,_,r⟩,(by dsimp only;omega),_,(YfZ (YfV (YfV (YfV (YfV (YfV (Yg0 _) rfl) rfl) rfl) rfl) rfl) _),⟨by omega,by rw[Y1u (c:=fitB I) (by omega) (by rw[← hokf];exact h43),← hr],by omega⟩,_,(congrArg (St.mk _) (Y01 (YfW rfl (YfW rfl Yg3))).symm)⟩
 refine Vb4 ?_
 have hx:r=l.filter (fitB I):=by rw[hr,YdP (by omega)]
 refine VxG ?_
 show LV.sl (em kd r)=_
 rw[hx]
theorem Yal {I:Inst}{p:Plan}{who:Int}{d:Delta}(h:mayC p who (tidyD d)≠0): checkC I p who d=mayC p who (tidyD d):=by rw[checkC,if_pos h]
theorem YbB {I:Inst}{p:Plan}{who:Int}{d:Delta}(h:mayC p who (tidyD d)=0){i:Nat}(hi:i<d.turns.length)(hf:drvT I (d.turns.getD i default)=false): checkC I p who d=13:=by rw[checkC,if_neg (by omega),Y46 hi hf];rfl
theorem Ya1 {I:Inst}{p:Plan}{who:Int}{d:Delta}(h:mayC p who (tidyD d)=0)(hf:d.turns.all (drvT I)=true): checkC I p who d=0:=by rw[checkC,if_neg (by omega),hf];rfl
theorem YaO (I:Inst)(N:Nat)(hb:Sb I N)(hq:Sp I)(p:Plan)(hp:OkP p)(who:Int)(d:Delta)(hd:OkD d)(hl:∀ t∈d.turns,t.after.length≤1000): CallsV Try.prog 126 [ei I,.agg (kp p),.int .i64 who,.agg (kd d)] (.int .i64 (checkC I p who d)):=by
 refine Yg2 (Yga _) mix Try.func126 rfl rfl (by simp[Try.f126]) (by kernel_rfl) (nb:=0) ?_
 unfold Try.f126
 refine Vy0 ?_
 intro g4
 refine Vo ?_
 intro g5
 refine Vw6 ?_
 intro g7
 refine Vb0 ?_
 refine Vx9 ?_
 refine Vy6 ?_
 refine Yg6 YfX rfl (Frz.aggc (by exact YfY rfl) (Frz.aggc (by exact Frz.pure rfl) (Frz.aggc (by exact YfY rfl) (Frz.aggn)))) (Y7O p hp who d hd) rfl rfl (fun _=>rfl) ?_
 refine Vd0 ?_
 refine Vk ?_
 refine cB (fun h19=>?_) fun h19=>?_
 refine Vp ?_
 refine Va1 ?_
 refine Vg5 ?_
 show LV.int _ _=LV.int _ _
 congr 1
 exact (Yal h19).symm
 refine Vh ?_
 refine Ve ?_
 have hdt:d.turns.length<20:=hd.1
 refine Vf ?_
 refine Vx3 ?_
 refine Yg8 YfX (α:=Nat) (fun i st=>(i≤d.turns.length∧(d.turns.take i).all (drvT I)=true)∧∃ m0,st=⟨(updS (updS (updS (updS (fun _=>LV.undef) 4 (.ref 256 g4 0 0)) 22 (.sl (em kt d.turns))) 23 (.int .i64 (d.turns.length:Int))) 24 (.int .i64 (i:Int))),effM m0 [(256,⟨g4,false,.var,4,[ic I]⟩)]⟩) (fun i=>d.turns.length - i) 0 ⟨_,lessA,⟨Ye1 _,rfl⟩,_,hasA⟩ ?_
 rintro i _ ⟨⟨hi,hA⟩,m0,rfl⟩
 refine Vd ?_
 refine cD (fun h25=>?_) fun h25=>?_
 refine Vt6 ?_
 intro g11
 refine Vz3 ?_
 refine Vt0 ?_
 refine VxB ?_
 refine Yg6 YfX rfl (Frz.aggc (by exact YfY rfl) (Frz.aggc (by exact Frz.pure rfl) (Frz.aggc (by exact Frz.pure rfl) (Frz.aggn)))) (Y8r I N hb hq _ _ (hl _ (Y02 (by omega)))) rfl rfl (fun _=>rfl) ?_
 refine VkD ?_
 refine VbB ?_
 intro g12
 refine Vq3 ?_
 refine Vd0 ?_
 refine Vb1 ?_
 refine Ygb rfl (fun h38=>?_) (fun h38=>?_)
 refine Vl2 ?_
 show LV.int _ _=LV.int _ _
 congr 1
 exact (YbB h19 (i:=i) (by omega) (nf' h38)).symm
 refine Vs ?_
 refine⟨i+1,(by dsimp only;omega),_,lessA,⟨by omega,by rw[Y11 (drvT I) (by omega),hA];exact nt' h38⟩,_,hasA⟩
 refine Vt1 ?_
 show LV.int _ _=LV.int _ _
 congr 1
 exact (Ya1 h19 (by rw[← hA,YdP (by omega)])).symm
theorem Y0x {p:Plan}{L:List (Int × List Int)}{N:Nat}(hL:∀ q∈L,q.2.length≤N): ∀ t∈(turnedD p L).turns,t.after.length≤N:=by
 intro t ht
 obtain⟨k,-,-,-,h4,-⟩:=Y0v.1 ht
 exact hL _ (Y0P h4)
theorem YcG (I:Inst)(N:Nat)(hb:Sb I N)(hq:Sp I)(p:Plan)(hp:OkP p)(h20:p.routes.length<20)(who:Int)(L:List (Int × List Int))(hL:∀ q∈L,q.2.length≤1000): CallsV Try.prog 122 [ei I,.agg (kp p),.int .i64 who,.fmap (em2 L)] (.tup [.agg (kd (toldR I p who L).1),.int .i64 (toldR I p who L).2]):=by
 refine Yg2 (Yga _) mix Try.func122 rfl rfl (by simp[Try.f122]) (by kernel_rfl) (nb:=0) ?_
 unfold Try.f122
 refine Ve ?_
 have hL2:∀ q∈L,q.2.length≤1000000:=fun q h=>Ye5 (hL q h) (by decide)
 refine Vy3 ?_
 intro g4
 refine Vo ?_
 intro g5
 refine Vz0 ?_
 intro g8
 refine Vn ?_
 refine Vx9 ?_
 refine Yg6 YfX rfl (Frz.aggc (by exact YfY rfl) (Frz.aggc (by exact Frz.pure rfl) (Frz.aggn))) (Y1k p hp h20 L hL2) rfl rfl (fun _=>rfl) ?_
 refine Vz0 ?_
 intro g10
 refine Vy7 ?_
 refine Vt0 ?_
 refine Vx9 ?_
 refine Vy6 ?_
 refine Yg6 YfX rfl (Frz.aggc (by exact YfY rfl) (Frz.aggc (by exact YfY rfl) (Frz.aggc (by exact Frz.pure rfl) (Frz.aggc (by exact YfY rfl) (Frz.aggn))))) (YaO I N hb hq p hp who _ (Y0y h20 hp.each hL2) (Y0x hL)) rfl rfl (fun _=>rfl) ?_
 refine Vd0 ?_
 refine Vk ?_
 refine cB (fun h21=>?_) fun h21=>?_
 refine Vc ?_
 refine VfE ?_
 refine Va ?_
 refine ViB ?_
 refine VeG ?_
 (rw[toldR,if_pos h21];rfl)
 refine Vl1 ?_
 refine VnE ?_
 refine Vu4 ?_
 refine Vf7 ?_
 (rw[toldR,if_neg (by omega)];rfl)
theorem Yar (I:Inst)(N:Nat)(hq:Sq I N)(p:Plan)(d:Delta)(hd:OkD d)(hl:∀ t∈d.turns,t.before.length≤1000∧t.after.length≤1000): CallsV Try.prog 90 [ei I,.agg (kp p),.agg (kd d)] (.tup [.int .i64 (gainR I d).1,.int .i64 (gainR I d).2]):=by
 refine Yg2 (Yga _) mix Try.func90 rfl rfl (by simp[Try.f90]) (by kernel_rfl) (nb:=0) ?_
 unfold Try.f90
 refine Vy0 ?_
 intro g3
 refine Vo ?_
 intro g4
 refine Vw6 ?_
 intro g5
 refine Vt ?_
 refine Vn ?_
 refine Vt ?_
 refine Vv9 ?_
 refine Ve ?_
 have hdt:d.turns.length<20:=hd.1
 refine Vf ?_
 refine Vx3 ?_
 refine Yg8 YfX (α:=Nat × Int × Int) (fun ⟨i,s,c⟩ st=>(i≤d.turns.length∧(s,c)=(d.turns.take i).foldl (gain1 I) (0,0))∧∃ m0,st=⟨(updS (updS (updS (updS (updS (updS (fun _=>LV.undef) 3 (.ref 192 g3 0 0)) 8 (.int .i64 s)) 9 (.int .i64 c)) 13 (.sl (em kt d.turns))) 14 (.int .i64 (d.turns.length:Int))) 15 (.int .i64 (i:Int))),effM m0 [(192,⟨g3,false,.var,4,[ic I]⟩)]⟩) (fun ⟨i,s,c⟩=>d.turns.length - i) ⟨0,0,0⟩ ⟨_,lessA,⟨Ye1 _,rfl⟩,_,hasA⟩ ?_
 rintro⟨i,s,c⟩ _ ⟨⟨hi,hA⟩,m0,rfl⟩
 refine Vd ?_
 refine cD (fun h16=>?_) fun h16=>?_
 have hll:=hl _ (Y02 (l:=d.turns) (j:=i) (by omega))
 refine Vt6 ?_
 intro g11
 refine Vg3 ?_
 refine Vp ?_
 refine Vl0 ?_
 refine Vr0 ?_
 refine Vj ?_
 refine Vr0 ?_
 refine Vu ?_
 refine VgG ?_
 refine Vi0 ?_
 refine Va ?_
 refine Vt0 ?_
 refine Vj ?_
 refine Yg6 YfX rfl (Frz.aggc (by exact YfY rfl) (Frz.aggc (by exact Frz.pure rfl) (Frz.aggn))) (Y5O I N hq _ hll.1) rfl rfl (fun _=>rfl) ?_
 refine Vt0 ?_
 refine Vl0 ?_
 refine Yg6 YfX rfl (Frz.aggc (by exact YfY rfl) (Frz.aggc (by exact Frz.pure rfl) (Frz.aggn))) (Y5O I N hq _ hll.2) rfl rfl (fun _=>rfl) ?_
 refine Vu ?_
 refine Vu ?_
 refine Vt ?_
 refine Vs5 ?_
 refine⟨⟨i+1,_,_⟩,(by dsimp only;omega),_,(YfZ (YfV (YfV (YfV (YfV (YfV (YfV (Yg0 _) rfl) rfl) rfl) rfl) rfl) rfl) _),⟨by omega,by rw[Y0a (by omega),YeG,← hA];rfl⟩,_,(congrArg (St.mk _) (Y01 (YfW rfl Yg3)).symm)⟩
 refine Vh3 ?_
 refine Va ?_
 refine Vt ?_
 refine Vb2 ?_
 refine Vv4 ?_
 show LV.tup [.int .i64 s,.int .i64 c]=_
 rw[YdP (by omega)] at hA
 rw[gainR,← hA]
def mate0 (I:Inst)(s:Int): Bool:=decide (mate I.pairs s=0)
def freeC (I:Inst)(p:Plan)(c:Int): List Int:=if 0≤c∧c<p.routes.length then (p.routes.getD c.toNat default).filter (mate0 I) else []
def freeR (I:Inst)(p:Plan)(cars:List Int): List Int:=(cars.map (freeC I p)).flatten++(unassL p.routes p.sv.length).filter (mate0 I)
theorem Y43 {α β:Type}[Inhabited α](f:α→List β){l:List α}{i:Nat}(h:i<l.length): ((l.take (i+1)).map f).flatten=((l.take i).map f).flatten++f (l.getD i default):=by
 rw[Y0a h,Yfc,List.flatten_append]
 simp
theorem Y6H (l:List Int)(hl:l.length≤1000000)(k:Int)(h0:0≤k)(hk:k≤l.length)(ss:List Int)(hss:ss.length≤1000000): CallsV Try.prog 123 [.sl (em ni l),.int .i64 k,.sl (em ni ss)] (.sl (em ni (withL l k.toNat ss))):=by
 have h:=Y7a l hl k.toNat (by omega) ss hss
 rwa [Int.toNat_of_nonneg h0] at h
theorem Yd7 (I:Inst)(hs:I.Short)(p:Plan)(hp:OkP p)(hr100:∀ r∈p.routes,r.length≤100)(cars:List Int)(hc:cars.length≤1000): CallsV Try.prog 111 [ei I,.agg (kp p),.sl (em ni cars)] (.sl (em ni (freeR I p cars))):=by
 refine Yg2 (Yga _) mix Try.func111 rfl rfl (by simp[Try.f111]) (by kernel_rfl) (nb:=0) ?_
 unfold Try.f111
 refine Ve ?_
 have p1:=hp.routes
 have p6:=hp.sv
 have hul:=Y4o p.routes p.sv.length
 refine Vy3 ?_
 intro g3
 refine Vo ?_
 intro g4
 refine ViA ?_
 refine goWeak (Ygp (j:=7) 700001 1 rfl) ?_
 refine Vg0 ?_
 refine Vq ?_
 refine Yg8 YfX (α:=Nat × Nat × List Int) (fun ⟨i,g,r⟩ st=>(i≤cars.length∧r=((cars.take i).map (freeC I p)).flatten∧r.length≤i*100)∧∃ m0,st=⟨(updS (updS (updS (updS (updS (updS (fun _=>LV.undef) 3 (.ref 192 g3 0 0)) 4 (.ref 256 g4 0 0)) 7 (.own 700001 g 0 r.length none)) 14 (.sl (em ni cars))) 15 (.int .i64 (cars.length:Int))) 16 (.int .i64 (i:Int))),effM m0 [(192,⟨g3,false,.var,4,[ic I]⟩),(256,⟨g4,false,.var,7,[kp p]⟩),(700001,⟨g,false,.slc,1,em ni r⟩)]⟩) (fun ⟨i,g,r⟩=>cars.length - i) ⟨0,_,[]⟩ ⟨_,(YfZ (YfV (YfV (YfV (YfV (YfV (YfV (Yg0 _) rfl) rfl) rfl) rfl) rfl) rfl) _),⟨Ye1 _,rfl,Ye1 _⟩,_,(congrArg (St.mk _) (Y01 (YfW rfl (YfW rfl (YfW rfl Yg3)))).symm)⟩ ?_
 rintro⟨i,g,r⟩ _ ⟨⟨hi,hr,hrL⟩,m0,rfl⟩
 refine Vd ?_
 refine cD (fun h17=>?_) fun h17=>?_
 refine Vn1 ?_
 refine VlA ?_
 refine Yg1 22 rfl (fun h22=>?_) (fun h22=>?_)
 rw[h22]
 replace h22:=of_decide_eq_true h22
 refine Vu0 ?_
 refine Vf5 ?_
 refine Vx7 ?_
 refine Vs8 ?_
 refine⟨⟨i+1,_,r⟩,(by dsimp only;omega),_,(YfZ (YfV (YfV (YfV (YfV (YfV (YfV (Yg0 _) rfl) rfl) rfl) rfl) rfl) rfl) _),⟨by omega,by rw[Y43 _ (by omega),← hr,freeC,if_neg (by omega),YdX],by show r.length≤(i+1)*100;rw[YeB];omega⟩,_,(congrArg (St.mk _) (Y01 (YfW rfl (YfW rfl (YfW rfl Yg3)))).symm)⟩
 rw[h22]
 replace h22:=of_decide_eq_false h22
 refine Vc4 ?_
 refine Vt2 ?_
 refine Vi1 ?_
 refine cD (fun h28=>?_) fun h28=>?_
 refine Vx7 ?_
 refine Vs8 ?_
 refine⟨⟨i+1,_,r⟩,(by dsimp only;omega),_,(YfZ (YfV (YfV (YfV (YfV (YfV (YfV (Yg0 _) rfl) rfl) rfl) rfl) rfl) rfl) _),⟨by omega,by rw[Y43 _ (by omega),← hr,freeC,if_neg (by omega),YdX],by show r.length≤(i+1)*100;rw[YeB];omega⟩,_,(congrArg (St.mk _) (Y01 (YfW rfl (YfW rfl (YfW rfl Yg3)))).symm)⟩
 refine Vh ?_
 have hrl:=hr100 _ (Y02 (l:=p.routes) (j:=(cars.getD i default).toNat) (by omega))
 refine Vf ?_
 refine Vc0 ?_
 refine Vn4 ?_
 refine Vq ?_
 refine Yg8 YfX (α:=Nat × Nat × List Int) (fun ⟨j,g,q⟩ st=>(j≤(p.routes.getD (cars.getD i default).toNat default).length∧q=r++((p.routes.getD (cars.getD i default).toNat default).take j).filter (mate0 I)∧q.length≤i*100+j)∧∃ m0,st=⟨(updS (updS (updS (updS (updS (updS (updS (updS (updS (updS (fun _=>LV.undef) 3 (.ref 192 g3 0 0)) 4 (.ref 256 g4 0 0)) 7 (.own 700001 g 0 q.length none)) 14 (.sl (em ni cars))) 15 (.int .i64 (cars.length:Int))) 16 (.int .i64 (i:Int))) 9 (.int .i64 (cars.getD i default))) 33 (.sl (em ni (p.routes.getD (cars.getD i default).toNat default)))) 34 (.int .i64 ((p.routes.getD (cars.getD i default).toNat default).length:Int))) 35 (.int .i64 (j:Int))),effM m0 [(192,⟨g3,false,.var,4,[ic I]⟩),(256,⟨g4,false,.var,7,[kp p]⟩),(700001,⟨g,false,.slc,1,em ni q⟩)]⟩) (fun ⟨j,g,q⟩=>(p.routes.getD (cars.getD i default).toNat default).length - j) ⟨0,_,r⟩ ⟨_,(YfZ (YfV (YfV (YfV (YfV (YfV (YfV (YfV (YfV (YfV (YfV (Yg0 _) rfl) rfl) rfl) rfl) rfl) rfl) rfl) rfl) rfl) rfl) _),⟨Ye1 _,(YdX _).symm,Ye5 hrL (Nat.le_add_right _ _)⟩,_,(congrArg (St.mk _) (Y01 (YfW rfl (YfW rfl (YfW rfl Yg3)))).symm)⟩ ?_
 rintro⟨j,g,q⟩ _ ⟨⟨hj,hq,hqL⟩,m0,rfl⟩
 refine Vd ?_
 refine cD (fun h36=>?_) fun h36=>?_
 refine Vn1 ?_
 refine Vn ?_
 refine Vx2 ?_
 refine VgE ?_
 refine Vk ?_
 refine cD (fun h42=>?_) fun h42=>?_
 refine Vv0 ?_
 refine Yg9 YfX (sz:=1) (z:=[LV.int .i64 0]) (es:=em ni [((p.routes.getD (cars.getD i default).toNat default).getD j default)]) rfl rfl rfl rfl (by decide) (by decide) (by decide) (FrzP.cons (S:=[]) (T:=[]) (YfY rfl) rfl (by decide) rfl (FrzP.nil)) rfl ?_
 intro g45
 refine Ygj YfX (f:=ni) (v:=((p.routes.getD (cars.getD i default).toNat default).getD j default)) (sz:=1) (z:=[.int .i64 0]) rfl rfl rfl rfl rfl (by decide) (YdK rfl) rfl rfl rfl rfl rfl rfl rfl rfl rfl rfl rfl rfl rfl rfl rfl rfl (by omega) ?_
 refine Vy2 ?_
 refine⟨⟨j+1,_,q++[((p.routes.getD (cars.getD i default).toNat default).getD j default)]⟩,(by dsimp only;omega),_,(YfZ (YfV (YfV (YfV (YfV (YfV (YfV (YfV (YfV (YfV (YfV (Yg0 _) rfl) rfl) (by rw[YdN];rfl)) rfl) rfl) rfl) rfl) rfl) rfl) rfl) _),⟨by omega,by rw[Y18 (c:=mate0 I) (by omega) (decide_eq_true h42),← Yfk,← hq],by rw[YdN,Yer];omega⟩,_,(congrArg (St.mk _) (Y01 (YfW rfl (YfW rfl (YfW rfl Yg3)))).symm)⟩
 refine Vs ?_
 refine⟨⟨j+1,_,q⟩,(by dsimp only;omega),_,(YfZ (YfV (YfV (YfV (YfV (YfV (YfV (YfV (YfV (YfV (YfV (Yg0 _) rfl) rfl) rfl) rfl) rfl) rfl) rfl) rfl) rfl) rfl) _),⟨by omega,by rw[Y1u (c:=mate0 I) (by omega) (decide_eq_false h42),← hq],by omega⟩,_,(congrArg (St.mk _) (Y01 (YfW rfl (YfW rfl (YfW rfl Yg3)))).symm)⟩
 refine VcA ?_
 refine⟨⟨i+1,_,q⟩,(by dsimp only;omega),_,(YfZ (YfV (YfV (YfV (YfV (YfV (YfV (Yg0 _) rfl) rfl) rfl) rfl) rfl) rfl) _),⟨by omega,by rw[Y43 _ (by omega),← hr,freeC,if_pos (by omega),hq,YdP (by omega)],by show q.length≤(i+1)*100;rw[YeB];omega⟩,_,(congrArg (St.mk _) (Y01 (YfW rfl (YfW rfl (YfW rfl Yg3)))).symm)⟩
 refine Vr1 ?_
 refine Vg1 ?_
 refine Yg6 YfX rfl (Frz.aggc (by exact YfY rfl) (Frz.aggn)) (Y8v p hp) rfl rfl (fun _=>rfl) ?_
 refine Vq ?_
 refine Yg8 YfX (α:=Nat × Nat × List Int) (fun ⟨j,g,q⟩ st=>(j≤(unassL p.routes p.sv.length).length∧q=r++((unassL p.routes p.sv.length).take j).filter (mate0 I)∧q.length≤i*100+j)∧∃ m0,st=⟨(updS (updS (updS (updS (updS (fun _=>LV.undef) 3 (.ref 192 g3 0 0)) 7 (.own 700001 g 0 q.length none)) 50 (.sl (em ni (unassL p.routes p.sv.length)))) 51 (.int .i64 ((unassL p.routes p.sv.length).length:Int))) 52 (.int .i64 (j:Int))),effM m0 [(192,⟨g3,false,.var,4,[ic I]⟩),(700001,⟨g,false,.slc,1,em ni q⟩)]⟩) (fun ⟨j,g,q⟩=>(unassL p.routes p.sv.length).length - j) ⟨0,_,r⟩ ⟨_,(YfZ (YfV (YfV (YfV (YfV (YfV (Yg0 _) rfl) rfl) rfl) rfl) rfl) _),⟨Ye1 _,(YdX _).symm,Ye5 hrL (Nat.le_add_right _ _)⟩,_,(congrArg (St.mk _) (Y01 (YfW rfl (YfW rfl Yg3))).symm)⟩ ?_
 rintro⟨j,g,q⟩ _ ⟨⟨hj,hq,hqL⟩,m0,rfl⟩
 refine Vd ?_
 refine cD (fun h53=>?_) fun h53=>?_
 refine Vn1 ?_
 refine Vn ?_
 refine Vx2 ?_
 refine VgE ?_
 refine Vk ?_
 refine cD (fun h59=>?_) fun h59=>?_
 refine Vv0 ?_
 refine Yg9 YfX (sz:=1) (z:=[LV.int .i64 0]) (es:=em ni [((unassL p.routes p.sv.length).getD j default)]) rfl rfl rfl rfl (by decide) (by decide) (by decide) (FrzP.cons (S:=[]) (T:=[]) (YfY rfl) rfl (by decide) rfl (FrzP.nil)) rfl ?_
 intro g62
 refine Ygj YfX (f:=ni) (v:=((unassL p.routes p.sv.length).getD j default)) (sz:=1) (z:=[.int .i64 0]) rfl rfl rfl rfl rfl (by decide) (YdK rfl) rfl rfl rfl rfl rfl rfl rfl rfl rfl rfl rfl rfl rfl rfl rfl rfl (by omega) ?_
 refine Vy2 ?_
 refine⟨⟨j+1,_,q++[((unassL p.routes p.sv.length).getD j default)]⟩,(by dsimp only;omega),_,(YfZ (YfV (YfV (YfV (YfV (YfV (Yg0 _) rfl) (by rw[YdN];rfl)) rfl) rfl) rfl) _),⟨by omega,by rw[Y18 (c:=mate0 I) (by omega) (decide_eq_true h59),← Yfk,← hq],by rw[YdN,Yer];omega⟩,_,(congrArg (St.mk _) (Y01 (YfW rfl (YfW rfl Yg3))).symm)⟩
 refine Vs ?_
 refine⟨⟨j+1,_,q⟩,(by dsimp only;omega),_,(YfZ (YfV (YfV (YfV (YfV (YfV (Yg0 _) rfl) rfl) rfl) rfl) rfl) _),⟨by omega,by rw[Y1u (c:=mate0 I) (by omega) (decide_eq_false h59),← hq],by omega⟩,_,(congrArg (St.mk _) (Y01 (YfW rfl (YfW rfl Yg3))).symm)⟩
 refine Vb4 ?_
 have hx:q=freeR I p cars:=by rw[hq,YdP (by omega),hr,YdP (by omega)];rfl
 refine VxG ?_
 show LV.sl (em ni q)=_
 rw[hx]
theorem Y3z {p:Plan}{L L':List (Int × List Int)}(h:∀ k,rlook k L=rlook k L'): turnedD p L=turnedD p L':=by
 have:∀ (R:List (List Int)) (c:Nat),turnGo L R c=turnGo L' R c:=by
   intro R
   induction R with
   | nil=>exact fun _=>rfl
   | cons r R ih=>intro c;rw[turnGo,turnGo,h,ih]
 rw[turnedD,this,turnedD]
theorem Y8s {c e:Int}(h:c≠e)(x y:List Int)(k:Int): rlook k (rput c x (rput e y []))=rlook k (rput e y (rput c x [])):=by
 rw[Y0j,Y0j,Y0j,Y0j]
 by_cases h1:k=c
 rw[if_pos h1,if_neg (by omega),if_pos h1]
 rw[if_neg h1,if_neg h1]
def swapL (p:Plan)(c k e m:Int): List (Int × List Int):=rput e (withL ((p.routes.getD e.toNat default).take m.toNat) m.toNat ((p.routes.getD c.toNat default).drop k.toNat)) (rput c (withL ((p.routes.getD c.toNat default).take k.toNat) k.toNat ((p.routes.getD e.toNat default).drop m.toNat)) [])
def swapR (I:Inst)(p:Plan)(c k e m:Int): List Delta :=
 if c<0∨e<0∨c≥p.routes.length∨e≥p.routes.length∨c=e∨k<0∨m<0∨k>(p.routes.getD c.toNat default).length∨m>(p.routes.getD e.toNat default).length then [] else [turnedD p (swapL p c k e m)].filter (fitB I)
theorem Y0r (l ss:List Int)(k:Nat): (withL l k ss).length=l.length+ss.length:=by rw[(Y1v l ss k).length_eq,YdN];omega
theorem Y82 {p:Plan}(hp:∀ r∈p.routes,r.length≤100){c k e m:Int}(hc:0≤c∧c<p.routes.length)(he:0≤e∧e<p.routes.length): ∀ q∈swapL p c k e m,q.2.length≤200:=by
 have h1:=hp _ (Y02 (l:=p.routes) (j:=c.toNat) (by omega))
 have h2:=hp _ (Y02 (l:=p.routes) (j:=e.toNat) (by omega))
 refine Y0k (Q:=fun l=>l.length≤200) ?_ (Y0k (Q:=fun l=>l.length≤200) ?_ fun p hp=>by cases hp)
 rw[Y0r,Yek,Yez];omega
 rw[Y0r,Yek,Yez];omega
theorem Yd2 (I:Inst)(N:Nat)(hb:Sb I N)(hq:Sp I)(p:Plan)(hp:OkP p)(h20:p.routes.length<20)(hr100:∀ r∈p.routes,r.length≤100)(c k e m:Int): CallsV Try.prog 115 [ei I,.agg (kp p),.int .i64 c,.int .i64 k,.int .i64 e,.int .i64 m] (.sl (em kd (swapR I p c k e m))):=by
 refine Yg2 (Yga _) mix Try.func115 rfl rfl (by simp[Try.f115]) (by kernel_rfl) (nb:=0) ?_
 unfold Try.f115
 refine Vy0 ?_
 intro g6
 refine Vo ?_
 intro g7
 refine VlA ?_
 refine Yg1 17 rfl (fun h17=>?_) (fun h17=>?_)
 rw[h17]
 replace h17:=of_decide_eq_true h17
 refine Vk7 ?_
 refine VhA ?_
 refine Vm1 ?_
 refine VtA ?_
 refine VzB ?_
 (refine⟨_,_,_,_,.cons (.tmp rfl) .nil,.frz .nils,Yec,by simp,?_⟩;rw[swapR,if_pos (by omega)];rfl)
 rw[h17]
 replace h17:=of_decide_eq_false h17
 refine Vn3 ?_
 refine Yg1 21 rfl (fun h21=>?_) (fun h21=>?_)
 rw[h21]
 replace h21:=of_decide_eq_true h21
 refine VhA ?_
 refine Vm1 ?_
 refine VtA ?_
 refine VzB ?_
 (refine⟨_,_,_,_,.cons (.tmp rfl) .nil,.frz .nils,Yec,by simp,?_⟩;rw[swapR,if_pos (by omega)];rfl)
 rw[h21]
 replace h21:=of_decide_eq_false h21
 refine Vc4 ?_
 refine VfA ?_
 refine Yg1 28 rfl (fun h28=>?_) (fun h28=>?_)
 rw[h28]
 replace h28:=of_decide_eq_true h28
 refine Vm7 ?_
 refine Vm1 ?_
 refine VtA ?_
 refine VzB ?_
 (refine⟨_,_,_,_,.cons (.tmp rfl) .nil,.frz .nils,Yec,by simp,?_⟩;rw[swapR,if_pos (by omega)];rfl)
 rw[h28]
 replace h28:=of_decide_eq_false h28
 refine Vc4 ?_
 refine VfA ?_
 refine Yg1 35 rfl (fun h35=>?_) (fun h35=>?_)
 rw[h35]
 replace h35:=of_decide_eq_true h35
 refine Vm1 ?_
 refine VtA ?_
 refine VzB ?_
 (refine⟨_,_,_,_,.cons (.tmp rfl) .nil,.frz .nils,Yec,by simp,?_⟩;rw[swapR,if_pos (by omega)];rfl)
 rw[h35]
 replace h35:=of_decide_eq_false h35
 refine Vl6 ?_
 refine Vn3 ?_
 refine Yg1 40 rfl (fun h40=>?_) (fun h40=>?_)
 rw[h40]
 replace h40:=of_decide_eq_true h40
 refine VtA ?_
 refine VzB ?_
 (refine⟨_,_,_,_,.cons (.tmp rfl) .nil,.frz .nils,Yec,by simp,?_⟩;rw[swapR,if_pos (by omega)];rfl)
 rw[h40]
 replace h40:=of_decide_eq_false h40
 refine Vn3 ?_
 refine Yg1 44 rfl (fun h44=>?_) (fun h44=>?_)
 rw[h44]
 replace h44:=of_decide_eq_true h44
 refine VhG ?_
 refine VzB ?_
 (refine⟨_,_,_,_,.cons (.tmp rfl) .nil,.frz .nils,Yec,by simp,?_⟩;rw[swapR,if_pos (by omega)];rfl)
 rw[h44]
 replace h44:=of_decide_eq_false h44
 refine Vn3 ?_
 refine Yg1 48 rfl (fun h48=>?_) (fun h48=>?_)
 rw[h48]
 replace h48:=of_decide_eq_true h48
 refine Vk0 ?_
 refine VzB ?_
 (refine⟨_,_,_,_,.cons (.tmp rfl) .nil,.frz .nils,Yec,by simp,?_⟩;rw[swapR,if_pos (by omega)];rfl)
 rw[h48]
 replace h48:=of_decide_eq_false h48
 refine Vc4 ?_
 refine Vy1 ?_
 refine Vi ?_
 refine VwD ?_
 refine Vp4 ?_
 refine VjN ?_
 refine Vo6 ?_
 refine Yg1 58 rfl (fun h58=>?_) (fun h58=>?_)
 rw[h58]
 replace h58:=of_decide_eq_true h58
 refine ViO ?_
 (refine⟨_,_,_,_,.cons (.tmp rfl) .nil,.frz .nils,Yec,by simp,?_⟩;rw[swapR,if_pos (by omega)];rfl)
 rw[h58]
 replace h58:=of_decide_eq_false h58
 refine Vc4 ?_
 refine Vy1 ?_
 refine Vi ?_
 refine VwD ?_
 refine Vp4 ?_
 refine VrB ?_
 refine cD (fun h67=>?_) fun h67=>?_
 refine Vc5 ?_
 refine VgB ?_
 (refine⟨_,_,_,_,.cons (.tmp rfl) .nil,.frz .nils,Yec,by simp,?_⟩;rw[swapR,if_pos (by omega)];rfl)
 refine Vh ?_
 refine Vi0 ?_
 refine Vc0 ?_
 refine Vn4 ?_
 refine Vc0 ?_
 refine Vn4 ?_
 refine VqE ?_
 refine Ve ?_
 have h100:=Y82 (k:=k) (m:=m) hr100 (c:=c) (e:=e) (by omega) (by omega)
 have hLl:∀ q∈(rput e (withL ((p.routes.getD e.toNat default).take m.toNat) m.toNat ((p.routes.getD c.toNat default).drop k.toNat)) (rput c (withL ((p.routes.getD c.toNat default).take k.toNat) k.toNat ((p.routes.getD e.toNat default).drop m.toNat)) [])),q.2.length≤1000:=fun q hm=>Ye5 (h100 q hm) (by decide)
 have hLw:∀ q∈(rput e (withL ((p.routes.getD e.toNat default).take m.toNat) m.toNat ((p.routes.getD c.toNat default).drop k.toNat)) (rput c (withL ((p.routes.getD c.toNat default).take k.toNat) k.toNat ((p.routes.getD e.toNat default).drop m.toNat)) [])),q.2.length≤1000000:=fun q hm=>Ye5 (h100 q hm) (by decide)
 have hc100:=hr100 _ (Y02 (l:=p.routes) (j:=c.toNat) (by omega))
 have he100:=hr100 _ (Y02 (l:=p.routes) (j:=e.toNat) (by omega))
 have hLB:∀ q∈(rput c (withL ((p.routes.getD c.toNat default).take k.toNat) k.toNat ((p.routes.getD e.toNat default).drop m.toNat)) (rput e (withL ((p.routes.getD e.toNat default).take m.toNat) m.toNat ((p.routes.getD c.toNat default).drop k.toNat)) [])),q.2.length≤200:=Y0k (Q:=fun l=>l.length≤200) (by rw[Y0r,Yek,Yez];omega) (Y0k (Q:=fun l=>l.length≤200) (by rw[Y0r,Yek,Yez];omega) fun p hp=>by cases hp)
 have hLlB:∀ q∈(rput c (withL ((p.routes.getD c.toNat default).take k.toNat) k.toNat ((p.routes.getD e.toNat default).drop m.toNat)) (rput e (withL ((p.routes.getD e.toNat default).take m.toNat) m.toNat ((p.routes.getD c.toNat default).drop k.toNat)) [])),q.2.length≤1000:=fun q hm=>Ye5 (hLB q hm) (by decide)
 have hLwB:∀ q∈(rput c (withL ((p.routes.getD c.toNat default).take k.toNat) k.toNat ((p.routes.getD e.toNat default).drop m.toNat)) (rput e (withL ((p.routes.getD e.toNat default).take m.toNat) m.toNat ((p.routes.getD c.toNat default).drop k.toNat)) [])),q.2.length≤1000000:=fun q hm=>Ye5 (hLB q hm) (by decide)
 refine Wp.regAlt 12 22 (fun k=>bif Nat.blt k 12 then k else bif Nat.blt k 22 then k+1 else bif Nat.beq k 22 then 12 else k) (fun k=>bif Nat.blt k 12 then k else bif Nat.beq k 12 then 22 else bif Nat.ble k 22 then k - 1 else k) (by decide) (by decide) (by decide) (by kernel_rfl) (by kernel_rfl) ?_ ?_
 refine Vs4 ?_
 refine Vv1 ?_
 intro g80
 refine Vj1 ?_
 refine VhE ?_
 refine Vj1 ?_
 refine VqC ?_
 refine VaL ?_
 refine VyG ?_
 refine Vj1 ?_
 refine VhE ?_
 refine Vj1 ?_
 refine VqC ?_
 refine VbL ?_
 refine GL.insM2 YfX (L:=rput c (withL ((p.routes.getD c.toNat default).take k.toNat) k.toNat ((p.routes.getD e.toNat default).drop m.toNat)) []) rfl rfl rfl rfl rfl rfl rfl rfl rfl rfl rfl ?_
 refine Va ?_
 refine Ygv YfX rfl (Frz.aggc (YfY rfl) (Frz.aggc (Frz.mref rfl rfl rfl rfl) Frz.aggn)) (Y1k p hp h20 (rput e (withL ((p.routes.getD e.toNat default).take m.toNat) m.toNat ((p.routes.getD c.toNat default).drop k.toNat)) (rput c (withL ((p.routes.getD c.toNat default).take k.toNat) k.toNat ((p.routes.getD e.toNat default).drop m.toNat)) [])) hLw) rfl rfl rfl rfl ?_
 refine Yg9 YfX (sz:=3) (z:=[.nils,.nils,.nils]) (es:=em kd [turnedD p (rput e (withL ((p.routes.getD e.toNat default).take m.toNat) m.toNat ((p.routes.getD c.toNat default).drop k.toNat)) (rput c (withL ((p.routes.getD c.toNat default).take k.toNat) k.toNat ((p.routes.getD e.toNat default).drop m.toNat)) []))]) rfl rfl rfl rfl (by decide) (by decide) (by decide) (FrzP.cons (S:=[]) (T:=[]) (YfY rfl) rfl (by decide) rfl (FrzP.nil)) rfl ?_
 intro g101
 refine Ygv YfX rfl (Frz.aggc (YfY rfl) (Frz.aggc (Yg5 rfl rfl rfl rfl (by rw[Y00];rfl)) Frz.aggn)) (Y4X I N hb hq [turnedD p (rput e (withL ((p.routes.getD e.toNat default).take m.toNat) m.toNat ((p.routes.getD c.toNat default).drop k.toNat)) (rput c (withL ((p.routes.getD c.toNat default).take k.toNat) k.toNat ((p.routes.getD e.toNat default).drop m.toNat)) []))] (by simp) (fun d hd=>by obtain rfl:=Yej.1 hd;exact⟨Y0y h20 hp.each hLw,Y0x hLl⟩)) rfl rfl rfl rfl ?_
 refine VyB ?_
 (refine⟨_,_,_,_,.cons (.tmp rfl) .nil,.frz (.pure rfl),Yec,by simp,?_⟩;rw[swapR,if_neg (by omega)];rfl)
 refine Vs4 ?_
 refine Vv1 ?_
 intro g80
 refine Vj1 ?_
 refine VhE ?_
 refine Vj1 ?_
 refine VqC ?_
 refine VaL ?_
 refine Vj1 ?_
 refine VhE ?_
 refine Vj1 ?_
 refine VqC ?_
 refine VbL ?_
 refine VyG ?_
 refine GL.insM2 YfX (L:=rput e (withL ((p.routes.getD e.toNat default).take m.toNat) m.toNat ((p.routes.getD c.toNat default).drop k.toNat)) []) rfl rfl rfl rfl rfl rfl rfl rfl rfl rfl rfl ?_
 refine Va ?_
 refine Ygv YfX rfl (Frz.aggc (YfY rfl) (Frz.aggc (Frz.mref rfl rfl rfl rfl) Frz.aggn)) (Y1k p hp h20 (rput c (withL ((p.routes.getD c.toNat default).take k.toNat) k.toNat ((p.routes.getD e.toNat default).drop m.toNat)) (rput e (withL ((p.routes.getD e.toNat default).take m.toNat) m.toNat ((p.routes.getD c.toNat default).drop k.toNat)) [])) hLwB) rfl rfl rfl rfl ?_
 refine Yg9 YfX (sz:=3) (z:=[.nils,.nils,.nils]) (es:=em kd [turnedD p (rput c (withL ((p.routes.getD c.toNat default).take k.toNat) k.toNat ((p.routes.getD e.toNat default).drop m.toNat)) (rput e (withL ((p.routes.getD e.toNat default).take m.toNat) m.toNat ((p.routes.getD c.toNat default).drop k.toNat)) []))]) rfl rfl rfl rfl (by decide) (by decide) (by decide) (FrzP.cons (S:=[]) (T:=[]) (YfY rfl) rfl (by decide) rfl (FrzP.nil)) rfl ?_
 intro g101
 refine Ygv YfX rfl (Frz.aggc (YfY rfl) (Frz.aggc (Yg5 rfl rfl rfl rfl (by rw[Y00];rfl)) Frz.aggn)) (Y4X I N hb hq [turnedD p (rput c (withL ((p.routes.getD c.toNat default).take k.toNat) k.toNat ((p.routes.getD e.toNat default).drop m.toNat)) (rput e (withL ((p.routes.getD e.toNat default).take m.toNat) m.toNat ((p.routes.getD c.toNat default).drop k.toNat)) []))] (by simp) (fun d hd=>by obtain rfl:=Yej.1 hd;exact⟨Y0y h20 hp.each hLwB,Y0x hLlB⟩)) rfl rfl rfl rfl ?_
 refine VyB ?_
 (refine⟨_,_,_,_,.cons (.tmp rfl) .nil,.frz (.pure rfl),Yec,by simp,?_⟩;rw[swapR,if_neg (by omega)];exact congrArg (fun D=>LV.sl (em kd ([D].filter (fitB I)))) (Y3z (Y8s (by omega) _ _)))
def restS (p:Plan)(c k s:Int): List Int:=withL ((p.routes.getD c.toNat default).take k.toNat) k.toNat ((p.routes.getD c.toNat default).drop (k+s).toNat)
def midS (p:Plan)(c k s:Int): List Int:=((p.routes.getD c.toNat default).drop k.toNat).take ((k+s).toNat - k.toNat)
def shiftL (p:Plan)(c k s:Int)(m:Nat): List (Int × List Int):=rput c (withL (restS p c k s) m (midS p c k s)) []
def shiftR (I:Inst)(p:Plan)(c k s:Int): List Delta :=
 if c<0∨c≥p.routes.length∨s<1∨s>3∨k<0∨k>((p.routes.getD c.toNat default).length:Int) - s then [] else ((List.range ((restS p c k s).length+1)).map fun m=>turnedD p (shiftL p c k s m)).filter (fitB I)
theorem Y5s (p:Plan)(c k s:Int): (restS p c k s).length≤2*(p.routes.getD c.toNat default).length:=by
 rw[restS,Y0r,Yek,Yez]
 omega
theorem Yas (p:Plan)(c k s:Int): (midS p c k s).length≤(p.routes.getD c.toNat default).length:=by
 rw[midS,Yek,Yez]
 omega
theorem Y6a {p:Plan}(hp:∀ r∈p.routes,r.length≤100){c k s:Int}(hc:0≤c∧c<p.routes.length)(m:Nat): ∀ q∈shiftL p c k s m,q.2.length≤300:=by
 have h1:=hp _ (Y02 (l:=p.routes) (j:=c.toNat) (by omega))
 have h2:=Y5s p c k s
 have h3:=Yas p c k s
 refine Y0k (Q:=fun l=>l.length≤300) ?_ fun p hp=>by cases hp
 rw[Y0r]
 omega
theorem Y45 {α:Type}(f:Nat→α)(m:Nat): (List.range (m+1)).map f=(List.range m).map f++[f m]:=by rw[YfJ,Yfc];rfl
theorem Ybd (I:Inst)(N:Nat)(hb:Sb I N)(hq:Sp I)(p:Plan)(hp:OkP p)(h20:p.routes.length<20)(hr100:∀ r∈p.routes,r.length≤100)(c k s:Int): CallsV Try.prog 116 [ei I,.agg (kp p),.int .i64 c,.int .i64 k,.int .i64 s] (.sl (em kd (shiftR I p c k s))):=by
 refine Yg2 (Yga _) mix Try.func116 rfl rfl (by simp[Try.f116]) (by kernel_rfl) (nb:=0) ?_
 unfold Try.f116
 refine Vy0 ?_
 intro g5
 refine Vo ?_
 intro g6
 refine VlA ?_
 refine Yg1 17 rfl (fun h17=>?_) (fun h17=>?_)
 rw[h17]
 replace h17:=of_decide_eq_true h17
 refine Vm7 ?_
 refine Vk7 ?_
 refine VtA ?_
 refine Vw0 ?_
 refine VrE ?_
 (refine⟨_,_,_,_,.cons (.tmp rfl) .nil,.frz .nils,Yec,by simp,?_⟩;rw[shiftR,if_pos (by omega)];rfl)
 rw[h17]
 replace h17:=of_decide_eq_false h17
 refine Vc4 ?_
 refine VfA ?_
 refine Yg1 24 rfl (fun h24=>?_) (fun h24=>?_)
 rw[h24]
 replace h24:=of_decide_eq_true h24
 refine Vk7 ?_
 refine VtA ?_
 refine Vw0 ?_
 refine VrE ?_
 (refine⟨_,_,_,_,.cons (.tmp rfl) .nil,.frz .nils,Yec,by simp,?_⟩;rw[shiftR,if_pos (by omega)];rfl)
 rw[h24]
 replace h24:=of_decide_eq_false h24
 refine Vn3 ?_
 refine Yg1 28 rfl (fun h28=>?_) (fun h28=>?_)
 rw[h28]
 replace h28:=of_decide_eq_true h28
 refine VtA ?_
 refine Vw0 ?_
 refine VrE ?_
 (refine⟨_,_,_,_,.cons (.tmp rfl) .nil,.frz .nils,Yec,by simp,?_⟩;rw[shiftR,if_pos (by omega)];rfl)
 rw[h28]
 replace h28:=of_decide_eq_false h28
 refine Vn3 ?_
 refine Yg1 32 rfl (fun h32=>?_) (fun h32=>?_)
 rw[h32]
 replace h32:=of_decide_eq_true h32
 refine VhG ?_
 refine Vw0 ?_
 refine VrE ?_
 (refine⟨_,_,_,_,.cons (.tmp rfl) .nil,.frz .nils,Yec,by simp,?_⟩;rw[shiftR,if_pos (by omega)];rfl)
 rw[h32]
 replace h32:=of_decide_eq_false h32
 refine Vn3 ?_
 refine Yg1 36 rfl (fun h36=>?_) (fun h36=>?_)
 rw[h36]
 replace h36:=of_decide_eq_true h36
 refine Vk0 ?_
 refine Vw0 ?_
 refine VrE ?_
 (refine⟨_,_,_,_,.cons (.tmp rfl) .nil,.frz .nils,Yec,by simp,?_⟩;rw[shiftR,if_pos (by omega)];rfl)
 rw[h36]
 replace h36:=of_decide_eq_false h36
 refine Vc4 ?_
 refine Vy1 ?_
 refine Vi ?_
 refine VwD ?_
 refine Vp4 ?_
 refine VjN ?_
 refine Vi ?_
 refine GL.subR YfX rfl rfl (by have:=hr100 _ (Y02 (l:=p.routes) (j:=c.toNat) (by omega));omega) ?_
 refine Vi1 ?_
 refine cD (fun h47=>?_) fun h47=>?_
 refine Vc5 ?_
 refine VgB ?_
 (refine⟨_,_,_,_,.cons (.tmp rfl) .nil,.frz .nils,Yec,by simp,?_⟩;rw[shiftR,if_pos (by omega)];rfl)
 refine Vh ?_
 have hc100:=hr100 _ (Y02 (l:=p.routes) (j:=c.toNat) (by omega))
 have h2:=Y5s p c k s
 have h3:=Yas p c k s
 have hL:=fun m=>Y6a hr100 (c:=c) (k:=k) (s:=s) (by omega) m
 refine Vf ?_
 refine Vc0 ?_
 refine Vn4 ?_
 refine Vj5 ?_
 refine Vg ?_
 refine VhE ?_
 refine VeN ?_
 refine Vv ?_
 refine VqC ?_
 refine Yg6 YfX rfl (Frz.aggc (by exact Frz.pure rfl) (Frz.aggc (by exact Frz.pure rfl) (Frz.aggc (by exact Frz.pure rfl) (Frz.aggn)))) (Y6H ((p.routes.getD c.toNat default).take k.toNat) (by rw[Yek];omega) k (by omega) (by rw[Yek];omega) ((p.routes.getD c.toNat default).drop (k+s).toNat) (by rw[Yez];omega)) rfl rfl (fun _=>rfl) ?_
 refine VmE ?_
 refine Vc ?_
 refine Va0 ?_
 refine goWeak (Ygp (j:=13) 700001 3 rfl) ?_
 refine Vd1 ?_
 refine Vn8 ?_
 refine Yg8 YfX (α:=Nat × Nat × List Delta) (fun ⟨m,g,A⟩ st=>(m≤(restS p c k s).length+1∧A=(List.range m).map (fun m=>(turnedD p (shiftL p c k s m)))∧A.length=m)∧∃ m0,st=⟨(updS (updS (updS (updS (updS (updS (updS (updS (updS (fun _=>LV.undef) 2 (.int .i64 c)) 3 (.int .i64 k)) 4 (.int .i64 s)) 5 (.ref 320 g5 0 0)) 6 (.ref 384 g6 0 0)) 11 (.sl (em ni (p.routes.getD c.toNat default)))) 12 (.sl (em ni (restS p c k s)))) 13 (.own 700001 g 0 A.length none)) 14 (.int .i64 (m:Int))),effM m0 [(320,⟨g5,false,.var,4,[ic I]⟩),(384,⟨g6,false,.var,7,[kp p]⟩),(700001,⟨g,false,.slc,3,em kd A⟩)]⟩) (fun ⟨m,g,A⟩=>(restS p c k s).length+1 - m) ⟨0,_,[]⟩ ⟨_,(YfZ (YfV (YfV (YfV (YfV (YfV (YfV (YfV (YfV (YfV (Yg0 _) rfl) rfl) rfl) rfl) rfl) rfl) rfl) rfl) rfl) _),⟨Ye1 _,rfl,rfl⟩,_,(congrArg (St.mk _) (Y01 (YfW rfl (YfW rfl (YfW rfl Yg3)))).symm)⟩ ?_
 rintro⟨m,g,A⟩ _ ⟨⟨hm,hA,hAl⟩,m0,rfl⟩
 refine Vk5 ?_
 refine Vv2 ?_
 refine cD (fun h66=>?_) fun h66=>?_
 refine Ve5 ?_
 have hLm:=hL m
 have hLw:∀ q∈shiftL p c k s m,q.2.length≤1000000:=fun q hm=>Ye5 (hLm q hm) (by decide)
 refine Vi0 ?_
 refine Va ?_
 refine Vg1 ?_
 refine Vv1 ?_
 intro g71
 refine VeN ?_
 refine Vj1 ?_
 refine Vv ?_
 refine GL.sliceMid YfX rfl rfl rfl (fun _=>rfl) rfl rfl (by omega) (by omega) (by omega) rfl ?_
 refine Yg6 YfX rfl (Frz.aggc (by exact Frz.pure rfl) (Frz.aggc (by exact Frz.pure rfl) (Frz.aggc (by exact Frz.pure rfl) (Frz.aggn)))) (Y7a (restS p c k s) (by omega) m (by omega) (midS p c k s) (by omega)) rfl rfl (fun _=>rfl) ?_
 refine VyG ?_
 refine Va ?_
 refine Ygv YfX rfl (Frz.aggc (YfY rfl) (Frz.aggc (Frz.mref rfl rfl rfl rfl) Frz.aggn)) (Y1k p hp h20 (shiftL p c k s m) hLw) rfl rfl rfl rfl ?_
 refine Yg9 YfX (sz:=3) (z:=[.nils,.nils,.nils]) (es:=em kd [(turnedD p (shiftL p c k s m))]) rfl rfl rfl rfl (by decide) (by decide) (by decide) (FrzP.cons (S:=[]) (T:=[]) (YfY rfl) rfl (by decide) rfl (FrzP.nil)) rfl ?_
 intro g101
 refine Ygj YfX (f:=kd) (v:=(turnedD p (shiftL p c k s m))) (sz:=3) (z:=[.nils,.nils,.nils]) rfl rfl rfl rfl rfl (by decide) (YdK rfl) rfl rfl rfl rfl rfl rfl rfl rfl rfl rfl rfl rfl rfl rfl rfl rfl (by omega) ?_
 refine Vt ?_
 refine Vp0 ?_
 refine Va3 ?_
 refine⟨⟨m+1,_,A++[(turnedD p (shiftL p c k s m))]⟩,(by dsimp only;omega),_,(YfZ (YfV (YfV (YfV (YfV (YfV (YfV (YfV (YfV (YfV (Yg0 _) rfl) rfl) rfl) rfl) rfl) rfl) rfl) (by rw[YdN];rfl)) rfl) _),⟨by omega,by rw[Y45 (fun m=>(turnedD p (shiftL p c k s m))),← hA],by rw[YdN,hAl];rfl⟩,_,(congrArg (St.mk _) (Y01 (YfW rfl (YfW rfl (YfW rfl Yg3)))).symm)⟩
 refine Ve2 ?_
 refine Vx2 ?_
 refine GL.callM0 YfX rfl (Frz.aggc (by exact YfY rfl) (Frz.aggc (by exact Yg5 rfl rfl rfl rfl (by exact Y00 _ _)) (Frz.aggn))) (Y4X I N hb hq A (by omega) (fun d hd=>by
     rw[hA] at hd
     obtain⟨j,-,rfl⟩:=Ye8.1 hd
     exact⟨Y0y h20 hp.each fun q hm=>Ye5 (hL j q hm) (by decide),Y0x fun q hm=>Ye5 (hL j q hm) (by decide)⟩)) rfl rfl (fun _=>rfl) ?_
 refine Vb2 ?_
 · (refine⟨_,_,_,_,.cons (.tmp rfl) .nil,.frz (.pure rfl),Yec,by simp,?_⟩;rw[shiftR,if_neg (by omega)];show LV.sl (em kd (A.filter (fitB I)))=_;rw[hA,show m=(restS p c k s).length+1 by omega];done)
theorem Y6O:InlS Try.prog (I1 Try.prog 117 Try.f117 2):=I1.sound mix Try.func117 rfl rfl (by decide) (by kernel_rfl)
def rel0 (p:Plan)(s:Int): List (Int × List Int):=if (whereR p.routes s).1≥0 then rput (whereR p.routes s).1 (withoutL (p.routes.getD (whereR p.routes s).1.toNat default) s) [] else []
def relocL (p:Plan)(s c:Int)(k:Nat): List (Int × List Int):=rput c (withL (withoutL (p.routes.getD c.toNat default) s) k [s]) (rel0 p s)
def relocR (I:Inst)(p:Plan)(s c:Int): List Delta :=
 if isStop I s=false∨c<0∨c≥p.routes.length∨mate I.pairs s>0 then [] else ((List.range ((withoutL (p.routes.getD c.toNat default) s).length+1)).map fun k=>turnedD p (relocL p s c k)).filter (fitB I)
def relocM (p:Plan)(s c:Int): Nat→List (Int × List Int)
 | 0=>rel0 p s
 | k+1=>relocL p s c k
theorem Y6P (c:Int)(x y:List Int): ∀ L:List (Int × List Int),rput c x (rput c y L)=rput c x L
 | []=>by simp[rput]
 | q::r=>by
   rw[rput]
   split
   · rename_i h
     rw[rput,if_pos rfl,rput,if_pos h]
   · rename_i h
     rw[rput,if_neg h,Y6P c x y r,rput,if_neg h]
theorem Y90 (p:Plan)(s c:Int)(k:Nat): rput c (withL (withoutL (p.routes.getD c.toNat default) s) k [s]) (relocM p s c k)=relocM p s c (k+1):=by
 cases k with
 | zero=>rfl
 | succ k=>exact Y6P _ _ _ _
theorem Y0z (l:List Int)(s:Int): (withoutL l s).length≤l.length:=Yex _ _
theorem Y6D {p:Plan}(hp:∀ r∈p.routes,r.length≤100){s c:Int}(hc:0≤c∧c<p.routes.length)(hw:(whereR p.routes s).1<p.routes.length)(k:Nat): ∀ q∈relocL p s c k,q.2.length≤300:=by
 have h1:=hp _ (Y02 (l:=p.routes) (j:=c.toNat) (by omega))
 have h2:=Y0z (p.routes.getD c.toNat default) s
 refine Y0k (Q:=fun l=>l.length≤300) ?_ fun q hq=>?_
 rw[Y0r]
 simp only[Yer]
 omega
 unfold rel0 at hq
 split at hq
 have h3:=hp _ (Y02 (l:=p.routes) (j:=(whereR p.routes s).1.toNat) (by omega))
 have h4:=Y0z (p.routes.getD (whereR p.routes s).1.toNat default) s
 exact Y0k (Q:=fun l=>l.length≤300) (by omega) (fun p hp=>by cases hp) q hq
 cases hq
theorem Y5W (R:List (List Int))(s:Int): (whereR R s).1<R.length:=by
 rcases Y2B s R 0 with ⟨h1,-,-⟩ | ⟨k,h1,h2,-⟩
 have h1:(whereR R s).1 = -1:=h1
 omega
 rw[YdZ] at h2
 have h2:(whereR R s).1=(k:Int):=h2
 omega
theorem Y5N (p:Plan)(hp:OkP p)(s:Int){a b:Int}(h:whereR p.routes s=(a,b)): CallsV Try.prog 22 [.agg (kp p),.int .i64 s] (.tup [.int .i64 a,.int .i64 b]):=by
 have h1:=Y4m p hp s
 rw[h] at h1
 exact h1
theorem Yc4 (I:Inst)(N:Nat)(hb:Sb I N)(hq:Sp I)(hs:I.Short)(p:Plan)(hp:OkP p)(h20:p.routes.length<20)(hr100:∀ r∈p.routes,r.length≤100)(s c:Int): CallsV Try.prog 113 [ei I,.agg (kp p),.int .i64 s,.int .i64 c] (.sl (em kd (relocR I p s c))):=by
 refine Yg2 Y6O mix Try.func113 rfl rfl (by simp[Try.f113]) (by kernel_rfl) (nb:=0) ?_
 unfold Try.f113
 refine Ve ?_
 obtain⟨x,y,hxy⟩:∃ x y,whereR p.routes s=(x,y):=⟨_,_,rfl⟩
 have hlt:=Y5W p.routes s
 rw[hxy] at hlt
 have hlt:x<p.routes.length:=hlt
 refine Vq2 ?_
 refine GL.box Yg7 (by conv=>lhs;whnf) rfl (n:=4) rfl rfl ?_
 intro g4
 refine GL.box Yg7 (by conv=>lhs;whnf) rfl (n:=7) rfl rfl ?_
 intro g5
 refine VaA ?_
 refine Va2 ?_
 refine Vd8 ?_
 refine Vx ?_
 refine Yg6 Yg7 rfl (Frz.aggc (by exact YfY rfl) (Frz.aggc (by exact Frz.pure rfl) (Frz.aggn))) (Y7q I hs s) rfl rfl (fun _=>rfl) ?_
 refine GL.un Yg7 rfl ?_
 refine Vx ?_
 refine Yg1 19 rfl (fun h19=>?_) (fun h19=>?_)
 rw[h19]
 refine Vw0 ?_
 refine Vv3 ?_
 refine Vu0 ?_
 refine VaC ?_
 (refine⟨_,_,_,_,.cons (.tmp rfl) .nil,.frz .nils,Yec,by simp,?_⟩;rw[relocR,if_pos (by exact .inl (nf' h19))];rfl)
 rw[h19]
 refine Vv6 ?_
 refine Vv3 ?_
 refine Yg1 23 rfl (fun h23=>?_) (fun h23=>?_)
 rw[h23]
 replace h23:=of_decide_eq_true h23
 refine Vu0 ?_
 refine VaC ?_
 (refine⟨_,_,_,_,.cons (.tmp rfl) .nil,.frz .nils,Yec,by simp,?_⟩;rw[relocR,if_pos (by exact .inr (by omega))];rfl)
 rw[h23]
 replace h23:=of_decide_eq_false h23
 refine VpE ?_
 refine VpN ?_
 refine Vb ?_
 refine Vt9 ?_
 refine Vb ?_
 refine Va5 ?_
 refine Vb ?_
 refine Vf3 ?_
 refine Vv3 ?_
 refine Yg1 30 rfl (fun h30=>?_) (fun h30=>?_)
 rw[h30]
 replace h30:=of_decide_eq_true h30
 refine Vz ?_
 refine VkN ?_
 (refine⟨_,_,_,_,.cons (.tmp rfl) .nil,.frz .nils,Yec,by simp,?_⟩;rw[relocR,if_pos (by exact .inr (by omega))];rfl)
 rw[h30]
 replace h30:=of_decide_eq_false h30
 refine Vb ?_
 refine Vd8 ?_
 refine VpE ?_
 refine Yg6 Yg7 rfl (Frz.aggc (by exact YfY rfl) (Frz.aggc (by exact Frz.pure rfl) (Frz.aggn))) (Y5x I hs s) rfl rfl (fun _=>rfl) ?_
 refine Vb ?_
 refine Vf3 ?_
 refine VkB ?_
 refine cD (fun h35=>?_) fun h35=>?_
 refine VbI ?_
 refine VgB ?_
 (refine⟨_,_,_,_,.cons (.tmp rfl) .nil,.frz .nils,Yec,by simp,?_⟩;rw[relocR,if_pos (by exact .inr (by omega))];rfl)
 refine Vh ?_
 refine Vq2 ?_
 refine GL.makeMap Yg7 ?_
 intro g36
 refine Vm0 ?_
 refine Vj0 ?_
 refine Ygk Yg7 (fun st=>∃ L:List (Int × List Int),(L=rel0 p s)∧∃ m0,st=⟨(updS (updS (updS (updS (updS (fun _=>LV.undef) 2 (.int .i64 s)) 3 (.int .i64 c)) 4 (.ref 256 g4 0 0)) 5 (.ref 320 g5 0 0)) 9 (.mref 2304 g36)),effM m0 [(256,⟨g4,false,.var,4,[ic I]⟩),(320,⟨g5,false,.var,7,[kp p]⟩),(2304,⟨g36,false,.mp,2,em2 L⟩)]⟩) ?_ ?_
 refine Va2 ?_
 refine VrC ?_
 refine Vx ?_
 refine Yg6 Yg7 rfl (Frz.aggc (by exact YfY rfl) (Frz.aggc (by exact Frz.pure rfl) (Frz.aggn))) (Y5N p hp s hxy) rfl rfl (fun _=>rfl) ?_
 refine Vt3 ?_
 refine Vm0 ?_
 refine VaA ?_
 refine Vm6 ?_
 refine VcI ?_
 refine cD (fun h44=>?_) fun h44=>?_
 have hx100:=hr100 _ (Y02 (l:=p.routes) (j:=x.toNat) (by omega))
 refine Vm6 ?_
 refine VbC ?_
 refine Vu5 ?_
 refine Vx ?_
 refine Yg6 Yg7 rfl (Frz.aggc (by exact Frz.pure rfl) (Frz.aggc (by exact Frz.pure rfl) (Frz.aggn))) (Y2n (p.routes.getD x.toNat default) (by omega) s) rfl rfl (fun _=>rfl) ?_
 refine GL.putM2 Yg7 (L:=[]) rfl rfl rfl rfl rfl rfl rfl rfl rfl rfl rfl ?_
 refine Vq0 ?_
 refine⟨_,lessA,rput x (withoutL (p.routes.getD x.toNat default) s) [],by rw[rel0,hxy,if_pos (by show x≥0;omega)],_,hasA⟩
 refine Vh0 ?_
 refine⟨_,lessA,[],by rw[rel0,hxy,if_neg (by show ¬ x≥0;omega)],_,hasA⟩
 rintro _ ⟨L,hL0,m0,rfl⟩
 subst hL0
 refine Ve ?_
 have hc100:=hr100 _ (Y02 (l:=p.routes) (j:=c.toNat) (by omega))
 have h2:=Y0z (p.routes.getD c.toNat default) s
 have hL:=fun k=>Y6D hr100 (s:=s) (c:=c) (by omega) (by rw[hxy];exact hlt) k
 refine Vq2 ?_
 refine VpD ?_
 refine Vu5 ?_
 refine Vx ?_
 refine Yg6 Yg7 rfl (Frz.aggc (by exact Frz.pure rfl) (Frz.aggc (by exact Frz.pure rfl) (Frz.aggn))) (Y2n (p.routes.getD c.toNat default) (by omega) s) rfl rfl (fun _=>rfl) ?_
 refine VaA ?_
 refine Vq2 ?_
 refine Vm0 ?_
 refine Vq0 ?_
 refine goWeak (Ygp (j:=13) 700001 3 rfl) ?_
 refine Ve ?_
 refine Va2 ?_
 refine Vm0 ?_
 refine Vs2 ?_
 refine Yg8 Yg7 (α:=Nat × Nat × List Delta) (fun ⟨k,g,A⟩ st=>(k≤(withoutL (p.routes.getD c.toNat default) s).length+1∧A=(List.range k).map (fun k=>(turnedD p (relocL p s c k)))∧A.length=k)∧∃ m0,st=⟨(updS (updS (updS (updS (updS (updS (updS (updS (fun _=>LV.undef) 2 (.int .i64 s)) 3 (.int .i64 c)) 4 (.ref 256 g4 0 0)) 5 (.ref 320 g5 0 0)) 9 (.mref 2304 g36)) 12 (.sl (em ni (withoutL (p.routes.getD c.toNat default) s)))) 13 (.own 700001 g 0 A.length none)) 14 (.int .i64 (k:Int))),effM m0 [(256,⟨g4,false,.var,4,[ic I]⟩),(320,⟨g5,false,.var,7,[kp p]⟩),(700001,⟨g,false,.slc,3,em kd A⟩),(2304,⟨g36,false,.mp,2,em2 (relocM p s c k)⟩)]⟩) (fun ⟨k,g,A⟩=>(withoutL (p.routes.getD c.toNat default) s).length+1 - k) ⟨0,_,[]⟩ ⟨_,(YfZ (YfV (YfV (YfV (YfV (YfV (YfV (YfV (YfV (Yg0 _) rfl) rfl) rfl) rfl) rfl) rfl) rfl) rfl) _),⟨Ye1 _,rfl,rfl⟩,_,(congrArg (St.mk _) (Y01 (YfW rfl (YfW rfl (YfW rfl (YfW rfl Yg3))))).symm)⟩ ?_
 rintro⟨k,g,A⟩ _ ⟨⟨hm,hA,hAl⟩,m0,rfl⟩
 refine Ve ?_
 refine VjB ?_
 refine Vx ?_
 refine Va5 ?_
 refine VcI ?_
 refine cD (fun h64=>?_) fun h64=>?_
 refine Ve5 ?_
 refine Ve ?_
 have hLk:∀ q∈relocM p s c (k+1),q.2.length≤300:=hL k
 refine Vm6 ?_
 refine Vv5 ?_
 refine Vv5 ?_
 refine Yg9 Yg7 (sz:=1) (z:=[.int .i64 0]) (es:=em ni [s]) rfl rfl rfl rfl (by decide) (by decide) (by decide) (FrzP.cons (S:=[]) (T:=[]) (Frz.aggc (S:=[]) (T:=[]) (Frz.pure rfl) Frz.aggn) rfl (by decide) rfl (FrzP.nil)) rfl ?_
 intro g72
 refine GL.callM0 Yg7 rfl (Frz.aggc (by exact Frz.pure rfl) (Frz.aggc (by exact Frz.pure rfl) (Frz.aggc (by exact Yg5 rfl rfl rfl rfl (by exact Y00 _ _)) (Frz.aggn)))) (Y7a (withoutL (p.routes.getD c.toNat default) s) (by omega) k (by omega) [s] (by simp)) rfl rfl (fun _=>rfl) ?_
 refine GL.putM2 Yg7 (L:=relocM p s c k) rfl rfl rfl rfl rfl rfl rfl rfl rfl rfl rfl ?_
 rw[Y90]
 refine Vj0 ?_
 refine VcO ?_
 refine Vx ?_
 refine GL.inl Yg7 (nb':=1000000) rfl ⟨rfl,rfl,fun c hc=>?_⟩
 unfold Try.f117 at hc
 injection hc with hc
 subst hc
 refine Vc ?_
 refine Vo ?_
 intro g2
 refine YgF YfX (cs:=[.nils,.nils,.nils]) rfl rfl ?_
 intro g4_
 refine Va4 ?_
 refine YgF YfX (cs:=[.nils,.nils,.nils]) rfl rfl ?_
 intro g5_
 refine Vq0 ?_
 refine goWeak (Ygi (n:=1000320) (c:=0) 1700001 3 rfl rfl rfl rfl rfl rfl) ?_
 refine Vd1 ?_
 refine Vx3 ?_
 refine Yg8 YfX (α:=Nat × Nat × List Turn) (fun ⟨i,g1,T⟩ st=>(i≤p.routes.length∧T=turnGo (relocM p s c (k+1)) (p.routes.take i) 0∧T.length≤i)∧∃ m0,st=⟨(updS (updS (updS (updS (updS (updS (fun _=>LV.undef) 1 (.mref 2304 g36)) 4 (.ref 1000256 g4_ 0 0)) 5 (.ref 1000320 g5_ 0 0)) 11 (.sl (em nr p.routes))) 12 (.int .i64 (p.routes.length:Int))) 13 (.int .i64 (i:Int))),effM m0 [(256,⟨g4,false,.var,4,[ic I]⟩),(320,⟨g5,false,.var,7,[kp p]⟩),(700001,⟨g,false,.slc,3,em kd A⟩),(2304,⟨g36,false,.mp,2,em2 (relocM p s c (k+1))⟩),(1000256,⟨g4_,false,.var,3,[[.nils,.nils,.nils]]⟩),(1000320,⟨g5_,false,.var,3,[[.own 1700001 g1 0 T.length none,.nils,.nils]]⟩),(1700001,⟨g1,false,.slc,3,em kt T⟩)]⟩) (fun ⟨i,g1,T⟩=>p.routes.length - i) ⟨0,_,[]⟩ ⟨_,(YfZ (YfV (YfV (YfV (YfV (YfV (YfV (Yg0 _) rfl) rfl) rfl) rfl) rfl) rfl) _),⟨Ye1 _,rfl,Ye2 _⟩,_,(congrArg (St.mk _) (Y01 (YfW rfl (YfW rfl (YfW rfl (YfW rfl (YfW rfl (YfW rfl (YfW rfl Yg3)))))))).symm)⟩ ?_
 rintro⟨i,g1,T⟩ _ ⟨⟨hi,hT,hTl⟩,m0,rfl⟩
 refine Vd ?_
 refine cD (fun h14=>?_) fun h14=>?_
 refine Vl5 ?_
 refine Vv9 ?_
 rcases (show rlook (i:Int) (relocM p s c (k+1))=none∨∃ l,rlook (i:Int) (relocM p s c (k+1))=some l by cases rlook (i:Int) (relocM p s c (k+1)) <;> simp) with ho | ⟨l,ho⟩
 refine Vv0 ?_
 refine VlF ?_
 refine VjA ?_
 refine Vj0 ?_
 refine Vw1 ?_
 refine Vs ?_
 refine⟨⟨i+1,_,T⟩,(by dsimp only;omega),_,(YfZ (YfV (YfV (YfV (YfV (YfV (YfV (Yg0 _) rfl) rfl) rfl) rfl) rfl) rfl) _),⟨by omega,by rw[Y6K (by omega) ho,← hT],by omega⟩,_,(congrArg (St.mk _) (Y01 (YfW rfl (YfW rfl (YfW rfl (YfW rfl (YfW rfl (YfW rfl (YfW rfl Yg3)))))))).symm)⟩
 refine Vv0 ?_
 refine VlF ?_
 refine VjA ?_
 refine Vj0 ?_
 refine Vp2 ?_
 have hle:l.length≤300:=hLk _ (Y0P ho)
 have hrr:=hp.each _ (Y02 (l:=p.routes) (j:=i) (by omega))
 refine Vi0 ?_
 refine Vc0 ?_
 refine Vg ?_
 refine VoC ?_
 intro g29
 refine Va ?_
 refine VxK ?_
 intro g31
 refine VuG ?_
 refine VyK ?_
 intro g33
 refine VzK ?_
 refine Vs0 ?_
 refine VwG ?_
 refine Vs5 ?_
 rw[show T.length+1=(T++[(⟨(i:Int),(p.routes.getD i default),l⟩:Turn)]).length from by rw[YdN];rfl]
 refine⟨⟨i+1,_,T++[(⟨(i:Int),(p.routes.getD i default),l⟩:Turn)]⟩,(by dsimp only;omega),_,(YfZ (YfV (YfV (YfV (YfV (YfV (YfV (Yg0 _) rfl) rfl) rfl) rfl) rfl) rfl) _),⟨by omega,by rw[Y4R (by omega) ho,← hT],by rw[YdN,Yer];omega⟩,_,(congrArg (St.mk _) (Y01 (YfW rfl (YfW rfl (YfW rfl (YfW rfl (YfW rfl (YfW rfl (YfW rfl Yg3)))))))).symm)⟩
 refine VrA ?_
 have hTf:T=turnGo (relocM p s c (k+1)) p.routes 0:=by rw[hT,YdP (by omega)]
 refine VfN ?_
 refine GL.callM0 YfX rfl (Frz.aggc (by exact (Frz.aggc (by exact Yg5 rfl rfl rfl rfl (by exact Y00 _ _)) (Frz.aggc (by exact Frz.nils) (Frz.aggc (by exact Frz.nils) Frz.aggn)))) (Frz.aggn)) (Y3K ⟨T,[],[]⟩ (by rw[hTf];exact Y33 h20 hp.each fun q hm=>Ye5 (hLk q hm) (by decide))) rfl rfl (fun _=>rfl) ?_
 refine VaB ?_
 refine VbG ?_
 refine YgB ?_
 refine⟨_,.cons (.cellA (n:=3) rfl rfl rfl (by simp) rfl rfl rfl (YdK rfl)) .nil,?_⟩
 rw[hTf]
 change GL _ _ _ _ _ _ _ _ _ ⟨updS _ 77 (.agg (kd (turnedD p (relocL p s c k)))),_⟩
 refine Yg9 Yg7 (sz:=3) (z:=[.nils,.nils,.nils]) (es:=em kd [(turnedD p (relocL p s c k))]) rfl rfl rfl rfl (by decide) (by decide) (by decide) (FrzP.cons (S:=[]) (T:=[]) (YfY rfl) rfl (by decide) rfl (FrzP.nil)) rfl ?_
 intro g78
 refine Ygj Yg7 (f:=kd) (v:=(turnedD p (relocL p s c k))) (sz:=3) (z:=[.nils,.nils,.nils]) rfl rfl rfl rfl rfl (by decide) (YdK rfl) rfl rfl rfl rfl rfl rfl rfl rfl rfl rfl rfl rfl rfl rfl rfl rfl (by omega) ?_
 refine Vm0 ?_
 refine Vx8 ?_
 refine Vm6 ?_
 refine Vu9 ?_
 refine Vm0 ?_
 refine Vq0 ?_
 refine⟨⟨k+1,_,A++[(turnedD p (relocL p s c k))]⟩,(by dsimp only;omega),_,(YfZ (YfV (YfV (YfV (YfV (YfV (YfV (YfV (YfV (Yg0 _) rfl) rfl) rfl) rfl) rfl) rfl) (by rw[YdN];rfl)) rfl) _),⟨by omega,by rw[Y45 (fun k=>(turnedD p (relocL p s c k))),← hA],by rw[YdN,hAl];rfl⟩,_,(congrArg (St.mk _) (Y01 (YfW rfl (YfW rfl (YfW rfl (YfW rfl Yg3))))).symm)⟩
 refine Vw9 ?_
 refine Va2 ?_
 refine Vd8 ?_
 refine Vx ?_
 refine GL.callM0 Yg7 rfl (Frz.aggc (by exact YfY rfl) (Frz.aggc (by exact Yg5 rfl rfl rfl rfl (by exact Y00 _ _)) (Frz.aggn))) (Y4X I N hb hq A (by omega) (fun d hd=>by
     rw[hA] at hd
     obtain⟨j,-,rfl⟩:=Ye8.1 hd
     exact⟨Y0y h20 hp.each fun q hm=>Ye5 (hL j q hm) (by decide),Y0x fun q hm=>Ye5 (hL j q hm) (by decide)⟩)) rfl rfl (fun _=>rfl) ?_
 refine VhB ?_
 refine Vu4 ?_
 · (refine⟨_,_,_,_,.cons (.tmp rfl) .nil,.frz (.pure rfl),Yec,by simp,?_⟩;rw[relocR,if_neg (by rw[nt' h19];simp;omega)];show LV.sl (em kd (A.filter (fitB I)))=_;rw[hA,show k=(withoutL (p.routes.getD c.toNat default) s).length+1 by omega];done)
theorem Y9j:InlS Try.prog (I1 Try.prog 14 Try.f14 1):=I1.sound mix Try.func14 rfl rfl (by decide) (by kernel_rfl)
/-- The rows of a plan's copy: those of two cars are this call's own. -/
def cellQ (p:Plan)(c e ga gb j:Nat): List LV:=[if j=c then .own 800001 ga 0 (p.routes.getD c default).length none else if j=e then .own 800002 gb 0 (p.routes.getD e default).length none else .sl (em ni (p.routes.getD j default))]
def rowsQ (p:Plan)(c e ga gb i:Nat): List (List LV):=(List.range i).map (cellQ p c e ga gb)
theorem Y0E (p:Plan)(c e ga gb i:Nat): (rowsQ p c e ga gb i).length=i:=by simp[rowsQ]
theorem Y5I {p:Plan}{c e ga gb i j:Nat}(h:j<i): (rowsQ p c e ga gb i)[j]?=some (cellQ p c e ga gb j):=by simp[rowsQ,h]
theorem Y3t (p:Plan)(c e ga gb i:Nat): rowsQ p c e ga gb (i+1)=rowsQ p c e ga gb i++[cellQ p c e ga gb i]:=Y45 _ _
theorem Y4B (p:Plan)(c e ga gb i:Nat)(x y:List LV): (rowsQ p c e ga gb i++[x]).set i y=rowsQ p c e ga gb i++[y]:=by
 rw[List.set_append_right _ _ (by rw[Y0E];omega),Y0E,Nat.sub_self]
 rfl
theorem Y4a (p:Plan)(c e ga gb i:Nat)(x:List LV): (rowsQ p c e ga gb i++[x])[i]?=some x:=by
 rw[Yeq (by rw[Y0E];omega),Y0E,Nat.sub_self]
 rfl
theorem YbY {p:Plan}{c e ga ga' gb i:Nat}(h:i≤c): rowsQ p c e ga gb i=rowsQ p c e ga' gb i:=by
 refine Yf6 fun j hj=>?_
 have:=YeI.1 hj
 have hne:¬ j=c:=by omega
 simp only[cellQ,if_neg hne]
theorem Yc9 {p:Plan}{c e ga gb gb' i:Nat}(h:i≤e∨c=e): rowsQ p c e ga gb i=rowsQ p c e ga gb' i:=by
 refine Yf6 fun j hj=>?_
 have:=YeI.1 hj
 by_cases hc:j=c
 simp only[cellQ,if_pos hc]
 have hne:¬ j=e:=by omega
 simp only[cellQ,if_neg hc,if_neg hne]
theorem Ycn {p:Plan}{c e ga ga' gb i:Nat}(h:i=c)(x:List LV): (rowsQ p c e ga gb i++[x]).set i [.own 800001 ga' 0 (p.routes.getD i default).length none]=rowsQ p c e ga' gb (i+1):=by
 rw[Y4B,Y3t,YbY (ga':=ga') (by omega),cellQ,if_pos h,h]
theorem Yd5 {p:Plan}{c e ga gb gb' i:Nat}(h:i=e)(h2:i≠c)(x:List LV): (rowsQ p c e ga gb i++[x]).set i [.own 800002 gb' 0 (p.routes.getD i default).length none]=rowsQ p c e ga gb' (i+1):=by
 rw[Y4B,Y3t,Yc9 (gb':=gb') (.inl (by omega)),cellQ,if_neg h2,if_pos h,h]
theorem Yd6 {p:Plan}{c e ga gb i:Nat}(h1:i≠c)(h2:i≠e)(x:LV): (rowsQ p c e ga gb i++[[x]]).set i ([x].set 0 (.sl (em ni (p.routes.getD i default))))=rowsQ p c e ga gb (i+1):=by
 rw[Y4B,Y3t,cellQ,if_neg h1,if_neg h2]
 rfl
theorem Y5y {r:List Int}(h:r.Nodup){i j:Nat}(hi:i<r.length)(hj:j<r.length)(e:r.getD i default=r.getD j default): i=j:=by
 rw[Ye9,Ye9,YdO hi,YdO hj] at e
 have e:r[i]=r[j]:=e
 rcases Nat.lt_trichotomy i j with h1 | h1 | h1
 exact absurd e (YfK.1 h i j hi hj h1)
 exact h1
 exact absurd e.symm (YfK.1 h j i hj hi h1)
theorem Yci {f:Int→Int}{r:List Int}{j:Nat}(h:j<r.length): (r.map f).getD j default=f (r.getD j default):=by
 rw[Ye9,YeY,Ye9,YdO h]
 rfl
theorem Y9w {r:List Int}(hn:r.Nodup){a b:Int}{k:Nat}(hk:k<r.length)(ha:r.getD k default=a)(hb:b∉r): r.set k b=r.map (swp a b):=by
 refine Y3U (by simp) fun j hj=>?_
 rw[YdQ] at hj
 rw[Y0R _ _ _ _ hj,Yci hj]
 split
 rename_i e
 rw[← e,ha,swp,if_pos rfl]
 rename_i e
 rw[swp,if_neg (fun h=>e (Y5y hn hk hj (by rw[ha,h]))),if_neg (fun h=>hb (by rw[← h];exact Y02 hj))]
theorem Ybo {r:List Int}(hn:r.Nodup){a b:Int}{k m:Nat}(hab:a≠b)(hk:k<r.length)(ha:r.getD k default=a)(hm:m<r.length)(hb:r.getD m default=b): (r.set k b).set m a=r.map (swp a b):=by
 refine Y3U (by simp) fun j hj=>?_
 rw[YdQ,YdQ] at hj
 rw[Y0R _ _ _ _ (by rw[YdQ];exact hj),Y0R _ _ _ _ hj,Yci hj]
 split
 rename_i e
 rw[← e,hb,swp,if_neg (Ne.symm hab),if_pos rfl]
 rename_i e
 split
 rename_i e2
 rw[← e2,ha,swp,if_pos rfl]
 rename_i e2
 rw[swp,if_neg (fun h=>e2 (Y5y hn hk hj (by rw[ha,h]))),if_neg (fun h=>e (Y5y hn hm hj (by rw[hb,h])))]
theorem YbR (a b x:Int): swp a b x=swp b a x:=by
 unfold swp
 split <;> split <;> omega
def exchL (p:Plan)(a b:Int): List (Int × List Int):=rput (whereR p.routes b).1 ((p.routes.getD (whereR p.routes b).1.toNat default).map (swp a b)) (rput (whereR p.routes a).1 ((p.routes.getD (whereR p.routes a).1.toNat default).map (swp a b)) [])
def exchR (I:Inst)(p:Plan)(a b:Int): List Delta :=
 if isStop I a=false∨isStop I b=false∨(whereR p.routes a).1<0∨(whereR p.routes b).1<0∨a=b∨mate I.pairs a>0∨mate I.pairs b>0 then [] else [turnedD p (exchL p a b)].filter (fitB I)
theorem Y1V {p:Plan}{c e ga gb i:Nat}(h:c<i): (rowsQ p c e ga gb i)[c]?=some [.own 800001 ga 0 (p.routes.getD c default).length none]:=by rw[Y5I h,cellQ,if_pos rfl]
theorem Y6x {p:Plan}{c e ga gb i:Nat}(h:e<i)(h2:e≠c): (rowsQ p c e ga gb i)[e]?=some [.own 800002 gb 0 (p.routes.getD e default).length none]:=by rw[Y5I h,cellQ,if_neg h2,if_pos rfl]
theorem Y6V {p:Plan}{c e ga gb i j:Nat}(h:j<i)(h1:j≠c)(h2:j≠e): (rowsQ p c e ga gb i)[j]?=some [.sl (em ni (p.routes.getD j default))]:=by rw[Y5I h,cellQ,if_neg h1,if_neg h2]
def swpR (p:Plan)(a b:Int): List (List Int):=p.routes.map fun r=>r.map (swp a b)
theorem Y1I {p:Plan}{a b:Int}{j:Nat}(h:j<p.routes.length): (swpR p a b).getD j default=(p.routes.getD j default).map (swp a b):=Y1H _ h
theorem Y2K (p:Plan)(a b:Int): (swpR p a b).length=p.routes.length:=Ye4 _
theorem Y5D {r:List Int}{a b:Int}(ha:a∉r)(hb:b∉r): r.map (swp a b)=r:=by
 refine (Yf6 fun x hx=>?_).trans (List.map_id r)
 rw[swp,if_neg (fun e=>ha (by rw[← e];exact hx)),if_neg (fun e=>hb (by rw[← e];exact hx))]
 rfl
theorem Ydq {p:Plan}{c e ga gb i:Nat}{a b:Int}{x:List Int}(hi:i=p.routes.length)(hec:e=c)(hc:c<p.routes.length)(hx:x=(p.routes.getD c default).map (swp a b))(hn:∀ j,j<p.routes.length→j≠c→a∉p.routes.getD j default)(hm:∀ j,j<p.routes.length→j≠e→b∉p.routes.getD j default)(y:LV):
   (rowsQ p c e ga gb i).set c ([y].set 0 (.sl (em ni x)))=em nr (swpR p a b):=by
 subst hi hec hx
 refine List.ext_getElem? fun j=>?_
 by_cases hj:j<p.routes.length
 rw[Y08 (by rw[Y2K];exact hj),Y1I hj]
 by_cases h:e=j
 subst h
 rw[YeH (by rw[Y0E];exact hj)]
 rfl
 rw[YeF h,Y6V hj (Ne.symm h) (Ne.symm h),Y5D (hn j hj (Ne.symm h)) (hm j hj (Ne.symm h))]
 rfl
 rw[YeS (by rw[YdQ,Y0E];omega),YeS (by rw[Y00,Y2K];omega)]
theorem YdA {p:Plan}{c e ga gb i:Nat}{a b:Int}{x y:List Int}(hi:i=p.routes.length)(hec:e≠c)(hc:c<p.routes.length)(he:e<p.routes.length)(hx:x=(p.routes.getD c default).map (swp a b))(hy:y=(p.routes.getD e default).map (swp a b))(hn:∀ j,j<p.routes.length→j≠c→a∉p.routes.getD j default)(hm:∀ j,j<p.routes.length→j≠e→b∉p.routes.getD j default)(u v:LV):
   ((rowsQ p c e ga gb i).set c ([u].set 0 (.sl (em ni x)))).set e ([v].set 0 (.sl (em ni y)))=em nr (swpR p a b):=by
 subst hi hx hy
 refine List.ext_getElem? fun j=>?_
 by_cases hj:j<p.routes.length
 rw[Y08 (by rw[Y2K];exact hj),Y1I hj]
 by_cases h:e=j
 subst h
 rw[YeH (by rw[YdQ,Y0E];exact hj)]
 rfl
 rw[YeF h]
 by_cases h2:c=j
 subst h2
 rw[YeH (by rw[Y0E];exact hj)]
 rfl
 rw[YeF h2,Y6V hj (Ne.symm h2) (Ne.symm h),Y5D (hn j hj (Ne.symm h2)) (hm j hj (Ne.symm h))]
 rfl
 rw[YeS (by rw[YdQ,YdQ,Y0E];omega),YeS (by rw[Y00,Y2K];omega)]
def exchA (p:Plan)(a b:Int)(c e:Nat): List (Int × List Int):=rput e ((swpR p a b).getD e default) (rput c ((swpR p a b).getD c default) [])
theorem Y5V {p:Plan}{a b:Int}{c e:Nat}{k m:Int}(ha:whereR p.routes a=((c:Int),k))(hb:whereR p.routes b=((e:Int),m))(hc:c<p.routes.length)(he:e<p.routes.length): exchA p a b c e=exchL p a b:=by
 rw[exchA,exchL,ha,hb,Y1I hc,Y1I he]
 rfl
theorem Y96 (p:Plan)(a b:Int)(c e:Nat): turnedD p (exchA p a b e c)=turnedD p (exchA p a b c e):=by
 by_cases h:c=e
 rw[h]
 exact Y3z (Y8s (by omega) _ _)
theorem Y47 {p:Plan}(hp:∀ r∈p.routes,r.length≤100){a b:Int}{c e:Nat}(hc:c<p.routes.length)(he:e<p.routes.length): ∀ q∈exchA p a b c e,q.2.length≤100:=by
 refine Y0k (Q:=fun l=>l.length≤100) ?_ (Y0k (Q:=fun l=>l.length≤100) ?_ fun p hp=>by cases hp)
 rw[Y1I he,Ye4];exact hp _ (Y02 he)
 rw[Y1I hc,Ye4];exact hp _ (Y02 hc)
theorem YcV (I:Inst)(N:Nat)(hb:Sb I N)(hq:Sp I)(hs:I.Short)(p:Plan)(hp:OkP p)(h20:p.routes.length<20)(hr100:∀ r∈p.routes,r.length≤100)(hw:p.routes.flatten.Nodup)(a b:Int): CallsV Try.prog 114 [ei I,.agg (kp p),.int .i64 a,.int .i64 b] (.sl (em kd (exchR I p a b))):=by
 refine Yg2 Y9j mix Try.func114 rfl rfl (by simp[Try.f114]) (by kernel_rfl) (nb:=0) ?_
 unfold Try.f114
 refine Ve ?_
 obtain⟨x1,y1,hxa⟩:∃ x y,whereR p.routes a=(x,y):=⟨_,_,rfl⟩
 obtain⟨x2,y2,hxb⟩:∃ x y,whereR p.routes b=(x,y):=⟨_,_,rfl⟩
 have e1:(whereR p.routes a).1=x1:=by rw[hxa]
 have e2:(whereR p.routes b).1=x2:=by rw[hxb]
 have p1:=hp.routes
 have p2:=hp.lock
 have p3:=hp.ice
 have p4:=hp.rv
 have p5:=hp.sv
 have p6:=hp.iv
 refine Vq2 ?_
 refine GL.box Yg7 (by conv=>lhs;whnf) rfl (n:=4) rfl rfl ?_
 intro g4
 refine GL.box Yg7 (by conv=>lhs;whnf) rfl (n:=7) rfl rfl ?_
 intro g5
 refine VaA ?_
 refine Vq2 ?_
 refine VrC ?_
 refine Vx ?_
 refine VcL ?_
 refine Vt3 ?_
 refine Vm0 ?_
 refine VaA ?_
 refine Vq2 ?_
 refine VrC ?_
 refine Vx ?_
 refine VcL ?_
 refine Vt3 ?_
 refine Vm0 ?_
 refine VaA ?_
 refine Va2 ?_
 refine Vd8 ?_
 refine Vx ?_
 refine VdL ?_
 refine GL.un Yg7 rfl ?_
 refine Vx ?_
 refine Yg1 30 rfl (fun h30=>?_) (fun h30=>?_)
 rw[h30]
 refine Vz ?_
 refine Vv3 ?_
 refine Vw0 ?_
 refine Vv3 ?_
 refine Vw0 ?_
 refine Vv3 ?_
 refine Vn0 ?_
 refine ViG ?_
 refine VaC ?_
 (refine⟨_,_,_,_,.cons (.tmp rfl) .nil,.frz .nils,Yec,by simp,?_⟩;rw[exchR,if_pos (by exact .inl (nf' h30))];rfl)
 rw[h30]
 refine Vb ?_
 refine Vd8 ?_
 refine VpE ?_
 refine VdL ?_
 refine Vb ?_
 refine GL.un Yg7 rfl ?_
 refine Vv3 ?_
 refine Yg1 36 rfl (fun h36=>?_) (fun h36=>?_)
 rw[h36]
 refine Vw0 ?_
 refine Vv3 ?_
 refine Vw0 ?_
 refine Vv3 ?_
 refine Vn0 ?_
 refine ViG ?_
 refine VaC ?_
 (refine⟨_,_,_,_,.cons (.tmp rfl) .nil,.frz .nils,Yec,by simp,?_⟩;rw[exchR,if_pos (by exact .inr (.inl (nf' h36)))];rfl)
 rw[h36]
 refine Vv6 ?_
 refine Vv3 ?_
 refine Yg1 40 rfl (fun h40=>?_) (fun h40=>?_)
 rw[h40]
 replace h40:=of_decide_eq_true h40
 refine Vw0 ?_
 refine Vv3 ?_
 refine Vn0 ?_
 refine ViG ?_
 refine VaC ?_
 (refine⟨_,_,_,_,.cons (.tmp rfl) .nil,.frz .nils,Yec,by simp,?_⟩;rw[exchR,if_pos (by exact .inr (.inr (by omega)))];rfl)
 rw[h40]
 replace h40:=of_decide_eq_false h40
 refine Vv6 ?_
 refine Vv3 ?_
 refine Yg1 44 rfl (fun h44=>?_) (fun h44=>?_)
 rw[h44]
 replace h44:=of_decide_eq_true h44
 refine Vn0 ?_
 refine ViG ?_
 refine VaC ?_
 (refine⟨_,_,_,_,.cons (.tmp rfl) .nil,.frz .nils,Yec,by simp,?_⟩;rw[exchR,if_pos (by exact .inr (.inr (by omega)))];rfl)
 rw[h44]
 replace h44:=of_decide_eq_false h44
 refine VnD ?_
 refine Vv6 ?_
 refine Vv3 ?_
 refine Yg1 49 rfl (fun h49=>?_) (fun h49=>?_)
 rw[h49]
 replace h49:=of_decide_eq_true h49
 refine Vz ?_
 refine VaC ?_
 (refine⟨_,_,_,_,.cons (.tmp rfl) .nil,.frz .nils,Yec,by simp,?_⟩;rw[exchR,if_pos (by exact .inr (.inr (by omega)))];rfl)
 rw[h49]
 replace h49:=of_decide_eq_false h49
 refine Vb ?_
 refine Vd8 ?_
 refine VpE ?_
 refine VeL ?_
 refine Vb ?_
 refine Vf3 ?_
 refine Vv3 ?_
 refine Yg1 55 rfl (fun h55=>?_) (fun h55=>?_)
 rw[h55]
 replace h55:=of_decide_eq_true h55
 refine Vz ?_
 refine VkN ?_
 (refine⟨_,_,_,_,.cons (.tmp rfl) .nil,.frz .nils,Yec,by simp,?_⟩;rw[exchR,if_pos (by exact .inr (.inr (by omega)))];rfl)
 rw[h55]
 replace h55:=of_decide_eq_false h55
 refine Vb ?_
 refine Vd8 ?_
 refine VpE ?_
 refine VeL ?_
 refine Vb ?_
 refine Vf3 ?_
 refine VkB ?_
 refine cD (fun h60=>?_) fun h60=>?_
 refine VbI ?_
 refine VgB ?_
 (refine⟨_,_,_,_,.cons (.tmp rfl) .nil,.frz .nils,Yec,by simp,?_⟩;rw[exchR,if_pos (by exact .inr (.inr (by omega)))];rfl)
 refine Vh ?_
 obtain⟨c,k,hc,hk,hca,hck,hcn⟩:∃ k j,k<p.routes.length∧j<(p.routes.getD k default).length∧whereR p.routes a=((k:Int),(j:Int))∧(p.routes.getD k default).getD j default=a∧∀ i,i<p.routes.length→i≠k→a∉p.routes.getD i default:=by
   rcases Y1A hw a with ⟨hz,-,-⟩ | h
   · exact absurd hz (by omega)
   · exact h
 obtain⟨e,m,he,hm,hcb,hem,hen⟩:∃ k j,k<p.routes.length∧j<(p.routes.getD k default).length∧whereR p.routes b=((k:Int),(j:Int))∧(p.routes.getD k default).getD j default=b∧∀ i,i<p.routes.length→i≠k→b∉p.routes.getD i default:=by
   rcases Y1A hw b with ⟨hz,-,-⟩ | h
   · exact absurd hz (by omega)
   · exact h
 obtain⟨rfl,rfl⟩:x1=(c:Int)∧y1=(k:Int):=by rw[hxa] at hca;injection hca with q1 q2;exact⟨q1,q2⟩
 obtain⟨rfl,rfl⟩:x2=(e:Int)∧y2=(m:Int):=by rw[hxb] at hcb;injection hcb with q1 q2;exact⟨q1,q2⟩
 have hnd:=(nodupR.1 hw).1
 refine Vq2 ?_
 refine VrC ?_
 refine GL.inl Yg7 (nb':=1000000) rfl ⟨rfl,rfl,fun c hc=>?_⟩
 unfold Try.f14 at hc
 injection hc with hc
 subst hc
 refine Vc ?_
 refine Vo ?_
 intro g1
 refine Vd6 ?_
 intro g2
 refine Vu8 ?_
 refine Vj ?_
 refine VaK ?_
 intro g8
 refine Vl0 ?_
 refine VbK ?_
 intro g11
 refine Vu3 ?_
 refine VcK ?_
 intro g14
 refine Vs6 ?_
 refine VdK ?_
 intro g17
 refine Vx4 ?_
 refine Vh2 ?_
 refine VeK ?_
 intro g20
 refine Va7 ?_
 refine Vh2 ?_
 refine VwE ?_
 refine Vd6 ?_
 intro g3
 refine Vi4 ?_
 refine Vx0 ?_
 refine Vd1 ?_
 refine Vo5 ?_
 refine Vd5 ?_
 refine goWeak (Ygm (Weak.nilCellN (n:=1000192) (c:=0) 700001 1 rfl rfl rfl rfl rfl rfl) (Ygm (Weak.dummy 800001 1) (Weak.dummy 800002 1))) ?_
 refine Vo0 ?_
 refine Yg8 YfX (α:=Nat × Nat × Nat × Nat × List Int × List Int) (fun ⟨i,g,ga,gb,A,B⟩ st=>(i≤p.routes.length∧(c<i→A=(p.routes.getD c default))∧(e<i→e≠c→B=(p.routes.getD e default)))∧∃ m0,st=⟨(updS (updS (updS (updS (updS (fun _=>LV.undef) 2 (.ref 1000128 g2 0 0)) 3 (.ref 1000192 g3 0 0)) 25 (.sl (em nr p.routes))) 26 (.int .i64 (p.routes.length:Int))) 27 (.int .i64 (i:Int))),effM m0 [(256,⟨g4,false,.var,4,[ic I]⟩),(320,⟨g5,false,.var,7,[kp p]⟩),(1000128,⟨g2,false,.var,7,[[.nils,.nils,.nils,.nils,.nils,.nils,.int .i64 0]]⟩),(1000192,⟨g3,false,.var,7,[.own 700001 g 0 i none::[.own 1000512 g8 0 p.lock.length none,.own 1000704 g11 0 p.ice.length none,.own 1000896 g14 0 p.rv.length none,.own 1001088 g17 0 p.sv.length none,.own 1001280 g20 0 p.iv.length none,.int .i64 p.pv]]⟩),(700001,⟨g,false,.nst,1,rowsQ p c e ga gb i⟩),(800001,⟨ga,false,.slc,1,em ni A⟩),(800002,⟨gb,false,.slc,1,em ni B⟩),(1000512,⟨g8,false,.slc,1,em ni p.lock⟩),(1000704,⟨g11,false,.slc,1,em ni p.ice⟩),(1000896,⟨g14,false,.slc,1,em ni p.rv⟩),(1001088,⟨g17,false,.slc,1,em ni p.sv⟩),(1001280,⟨g20,false,.slc,1,em ni p.iv⟩)]⟩) (fun ⟨i,g,ga,gb,A,B⟩=>p.routes.length - i) ⟨0,_,_,_,[],[]⟩ ⟨_,(YfZ (YfV (YfV (YfV (YfV (YfV (Yg0 _) rfl) rfl) rfl) rfl) rfl) _),⟨Ye1 _,fun h=>absurd h (Yfs _),fun h=>absurd h (Yfs _)⟩,_,(congrArg (St.mk _) (Y01 (YfW rfl (YfW rfl (YfW rfl (YfW rfl (YfW rfl (YfW rfl (YfW rfl (YfW rfl (YfW rfl (YfW rfl (YfW rfl (YfW rfl Yg3))))))))))))).symm)⟩ ?_
 rintro⟨i,g,ga,gb,A,B⟩ _ ⟨⟨hi,hA,hB⟩,m0,rfl⟩
 refine Vd ?_
 refine cD (fun h28=>?_) fun h28=>?_
 have hrr:=hp.each _ (Y02 (l:=p.routes) (j:=i) (by omega))
 refine Vn1 ?_
 refine Vy ?_
 rcases (show i=c∨(i=e∧i≠c)∨(i≠c∧i≠e) by omega) with hic | hie | hio
 refine Vi0 ?_
 refine Vp5 ?_
 refine VoC ?_
 intro g34
 refine VzG ?_
 intro g35
 refine VaH ?_
 refine Vs0 ?_
 refine VbF ?_
 refine Vg4 ?_
 refine goWeak (Weak.moveRow (q:=700001) (j:=i) (n:=1002176) (n':=800001) rfl rfl rfl (Y4a _ _ _ _ _ _ _) rfl rfl rfl (by simp) rfl rfl rfl (Ycn hic _)) ?_
 refine Vs8 ?_
 refine⟨⟨i+1,_,_,gb,(p.routes.getD i default),B⟩,(by dsimp only;omega),_,(YfZ (YfV (YfV (YfV (YfV (YfV (Yg0 _) rfl) rfl) rfl) rfl) rfl) _),⟨by omega,fun _=>by rw[hic],fun h1 h2=>hB (by omega) h2⟩,_,(congrArg (St.mk _) (Y01 (YfW rfl (YfW rfl (YfW rfl (YfW rfl (YfW rfl (YfW rfl (YfW rfl (YfW rfl (YfW rfl (YfW rfl (YfW rfl (YfW rfl Yg3))))))))))))).symm)⟩
 refine Vi0 ?_
 refine Vp5 ?_
 refine VoC ?_
 intro g34
 refine VzG ?_
 intro g35
 refine VaH ?_
 refine Vs0 ?_
 refine VbF ?_
 refine Vg4 ?_
 refine goWeak (Weak.moveRow (q:=700001) (j:=i) (n:=1002176) (n':=800002) rfl rfl rfl (Y4a _ _ _ _ _ _ _) rfl rfl rfl (by simp) rfl rfl rfl (Yd5 hie.1 hie.2 _)) ?_
 refine Vs8 ?_
 refine⟨⟨i+1,_,ga,_,A,(p.routes.getD i default)⟩,(by dsimp only;omega),_,(YfZ (YfV (YfV (YfV (YfV (YfV (Yg0 _) rfl) rfl) rfl) rfl) rfl) _),⟨by omega,fun h=>hA (by omega),fun _ _=>by rw[hie.1]⟩,_,(congrArg (St.mk _) (Y01 (YfW rfl (YfW rfl (YfW rfl (YfW rfl (YfW rfl (YfW rfl (YfW rfl (YfW rfl (YfW rfl (YfW rfl (YfW rfl (YfW rfl Yg3))))))))))))).symm)⟩
 refine Vi0 ?_
 refine Vp5 ?_
 refine VoC ?_
 intro g34
 refine VzG ?_
 intro g35
 refine VaH ?_
 refine Vs0 ?_
 refine VbF ?_
 refine Vg4 ?_
 refine goWeak (Weak.cellFrz (q:=700001) (j:=i) (c:=0) (T:=[1002176]) (l':=.sl (em ni (p.routes.getD i default))) rfl rfl (by simp) (Y4a _ _ _ _ _ _ _) rfl (by exact Yg5 rfl rfl rfl rfl (Y00 _ _)) rfl rfl (Yd6 (p:=p) (ga:=ga) (gb:=gb) hio.1 hio.2 _)) ?_
 refine Vs8 ?_
 refine⟨⟨i+1,_,ga,gb,A,B⟩,(by dsimp only;omega),_,(YfZ (YfV (YfV (YfV (YfV (YfV (Yg0 _) rfl) rfl) rfl) rfl) rfl) _),⟨by omega,fun h=>hA (by omega),fun h1 h2=>hB (by omega) h2⟩,_,(congrArg (St.mk _) (Y01 (YfW rfl (YfW rfl (YfW rfl (YfW rfl (YfW rfl (YfW rfl (YfW rfl (YfW rfl (YfW rfl (YfW rfl (YfW rfl (YfW rfl Yg3))))))))))))).symm)⟩
 refine Ve2 ?_
 refine Vg1 ?_
 refine Vi4 ?_
 refine VbG ?_
 refine YgB ?_
 refine⟨_,.cons (.cellA (n:=7) rfl rfl rfl (by simp) rfl rfl rfl (YdK rfl)) .nil,?_⟩
 refine VqN ?_
 intro g13
 refine VrN ?_
 refine Vk6 ?_
 ·rcases (show e=c∨e≠c by omega) with hec | hec
  have hAf:=hA (by omega)
  subst hAf
  (have hm2:m<(p.routes.getD c default).length:=by rw[← hec];exact hm)
  refine Vi0 ?_
  refine VpD ?_
  refine VmF ?_
  refine Ygr Yg7 rfl rfl rfl rfl (by simp) (Y1V (by omega)) rfl ?_
  refine VbC ?_
  refine VnF ?_
  refine Ygr Yg7 rfl rfl rfl rfl (by simp) (by rw[hec];exact Y1V (by omega)) rfl ?_
  refine Vv5 ?_
  refine Vx ?_
  refine VfL ?_
  refine VgL ?_
  refine VhL ?_
  refine Ygs Yg7 (n:=1) rfl rfl rfl rfl rfl rfl (Y08 (by rw[YdQ];omega)) rfl rfl rfl rfl (YdK rfl) rfl (Y0M ni _ _ a) ?_
  refine Vp0 ?_
  refine goWeak (Weak.cellFrz (q:=700001) (j:=c) (c:=0) (T:=[800001]) (l':=.sl (em ni (((p.routes.getD c default).set k b).set m a))) rfl rfl (by simp) (Y1V (by omega)) rfl (by exact Yg5 rfl rfl rfl rfl (by rw[Y00,YdQ,YdQ])) rfl rfl (Ydq (by omega) hec hc (Ybo (hnd c hc) h49 hk hck hm2 (by rw[← hec];exact hem)) hcn hen _)) ?_
  rotate_left
  have hAf:=hA (by omega)
  subst hAf
  (have hBf:=hB (by omega) hec;subst hBf)
  refine Vi0 ?_
  refine VpD ?_
  refine VmF ?_
  refine Ygr Yg7 rfl rfl rfl rfl (by simp) (Y1V (by omega)) rfl ?_
  refine VbC ?_
  refine VnF ?_
  refine Ygr Yg7 rfl rfl rfl rfl (by simp) (Y6x (by omega) hec) rfl ?_
  refine Vv5 ?_
  refine Vx ?_
  refine VfL ?_
  refine VgL ?_
  refine VhL ?_
  refine Ygs Yg7 (n:=1) rfl rfl rfl rfl rfl rfl (Y08 (by omega)) rfl rfl rfl rfl (YdK rfl) rfl (Y0M ni _ _ a) ?_
  refine Vp0 ?_
  refine goWeak (Ygm (Weak.cellFrz (q:=700001) (j:=c) (c:=0) (T:=[800001]) (l':=.sl (em ni ((p.routes.getD c default).set k b))) rfl rfl (by simp) (Y1V (by omega)) rfl (by exact Yg5 rfl rfl rfl rfl (by rw[Y00,YdQ])) rfl rfl rfl) (Weak.cellFrz (q:=700001) (j:=e) (c:=0) (T:=[800002]) (l':=.sl (em ni ((p.routes.getD e default).set m a))) rfl rfl (by simp) ((YeF (Ne.symm hec)).trans (Y6x (by omega) hec)) rfl (by exact Yg5 rfl rfl rfl rfl (by rw[Y00,YdQ])) rfl rfl (YdA (by omega) hec hc he (Y9w (hnd c hc) hk hck (hen c hc (Ne.symm hec))) ((Y9w (hnd e he) hm hem (hcn e he hec)).trans (Yf6 fun x _=>YbR b a x)) hcn hen _ _))) ?_
  all_goals
   refine Ve ?_
   have hX1:=Y47 hr100 (a:=a) (b:=b) hc he
   have hX2:=Y47 hr100 (a:=a) (b:=b) he hc
   refine Wp.regAlt 9 16 (fun k=>bif Nat.blt k 9 then k else bif Nat.blt k 16 then k+1 else bif Nat.beq k 16 then 9 else k) (fun k=>bif Nat.blt k 9 then k else bif Nat.beq k 9 then 16 else bif Nat.ble k 16 then k - 1 else k) (by decide) (by decide) (by decide) (by kernel_rfl) (by kernel_rfl) ?_ ?_
   refine Vd8 ?_
   refine VrC ?_
   refine GL.makeMap Yg7 ?_
   intro g81
   refine VbC ?_
   refine VmF ?_
   refine VoF ?_
   refine GL.insM2 Yg7 (L:=[]) rfl rfl rfl rfl rfl rfl rfl rfl rfl rfl rfl ?_
   refine VbC ?_
   refine VnF ?_
   refine VoF ?_
   refine GL.insM2 Yg7 (L:=rput c ((swpR p a b).getD c default) []) rfl rfl rfl rfl rfl rfl rfl rfl rfl rfl rfl ?_
   refine Vx ?_
   refine Ygv Yg7 rfl (Frz.aggc (YfY rfl) (Frz.aggc (Frz.mref rfl rfl rfl rfl) Frz.aggn)) (Y1k p hp h20 (exchA p a b c e) (fun q hm=>Ye5 (hX1 q hm) (by decide))) rfl rfl rfl rfl ?_
   refine Yg9 Yg7 (sz:=3) (z:=[.nils,.nils,.nils]) (es:=em kd [turnedD p (exchA p a b c e)]) rfl rfl rfl rfl (by decide) (by decide) (by decide) (FrzP.cons (S:=[]) (T:=[]) (YfY rfl) rfl (by decide) rfl (FrzP.nil)) rfl ?_
   intro g101
   refine Ygv Yg7 rfl (Frz.aggc (YfY rfl) (Frz.aggc (Yg5 rfl rfl rfl rfl (by rw[Y00];rfl)) Frz.aggn)) (Y4X I N hb hq [turnedD p (exchA p a b c e)] (by simp) (fun d hd=>by obtain rfl:=Yej.1 hd;exact⟨Y0y h20 hp.each fun q hm=>Ye5 (hX1 q hm) (by decide),Y0x fun q hm=>Ye5 (hX1 q hm) (by decide)⟩)) rfl rfl rfl rfl ?_
   refine VlD ?_
   refine VrD ?_
   refine Vu4 ?_
   (refine⟨_,_,_,_,.cons (.tmp rfl) .nil,.frz (.pure rfl),Yec,by simp,?_⟩;rw[exchR,if_neg (by rw[nt' h30,nt' h36];simp;omega),← Y5V hca hcb hc he];rfl)
   refine Vd8 ?_
   refine VrC ?_
   refine GL.makeMap Yg7 ?_
   intro g81
   refine VbC ?_
   refine VmF ?_
   refine VoF ?_
   refine VbC ?_
   refine VnF ?_
   refine VoF ?_
   refine GL.insM2 Yg7 (L:=[]) rfl rfl rfl rfl rfl rfl rfl rfl rfl rfl rfl ?_
   refine GL.insM2 Yg7 (L:=rput e ((swpR p a b).getD e default) []) rfl rfl rfl rfl rfl rfl rfl rfl rfl rfl rfl ?_
   refine Vx ?_
   refine Ygv Yg7 rfl (Frz.aggc (YfY rfl) (Frz.aggc (Frz.mref rfl rfl rfl rfl) Frz.aggn)) (Y1k p hp h20 (exchA p a b e c) (fun q hm=>Ye5 (hX2 q hm) (by decide))) rfl rfl rfl rfl ?_
   refine Yg9 Yg7 (sz:=3) (z:=[.nils,.nils,.nils]) (es:=em kd [turnedD p (exchA p a b e c)]) rfl rfl rfl rfl (by decide) (by decide) (by decide) (FrzP.cons (S:=[]) (T:=[]) (YfY rfl) rfl (by decide) rfl (FrzP.nil)) rfl ?_
   intro g101
   refine Ygv Yg7 rfl (Frz.aggc (YfY rfl) (Frz.aggc (Yg5 rfl rfl rfl rfl (by rw[Y00];rfl)) Frz.aggn)) (Y4X I N hb hq [turnedD p (exchA p a b e c)] (by simp) (fun d hd=>by obtain rfl:=Yej.1 hd;exact⟨Y0y h20 hp.each fun q hm=>Ye5 (hX2 q hm) (by decide),Y0x fun q hm=>Ye5 (hX2 q hm) (by decide)⟩)) rfl rfl rfl rfl ?_
   refine VlD ?_
   refine VrD ?_
   refine Vu4 ?_
   (refine⟨_,_,_,_,.cons (.tmp rfl) .nil,.frz (.pure rfl),Yec,by simp,?_⟩;rw[exchR,if_neg (by rw[nt' h30,nt' h36];simp;omega),← Y5V hca hcb hc he,← Y96];rfl)
structure OneOK (I:Inst) (q:Plan) (d:Delta):Prop where
 good:GoodD I d
 done:(applyR q (checkD d) d (tidyD d)).2=0
 lens:∀ t∈d.turns,t.before.length≤1000∧t.after.length≤1000
structure TriesOK (I:Inst) (q:Plan) (T:List Delta):Prop where
 len:T.length≤1000
 each:∀ d∈T,OneOK I q d
theorem Y0S (I:Inst)(q:Plan): TriesOK I q []:=⟨by simp,fun d hd=>by cases hd⟩
theorem GoodP.r100 {I:Inst}{q:Plan}(hc:checkB I=true)(h:GoodP I q): ∀ r∈q.routes,r.length≤100:=fun r hr=>by
 have h1:=h.wf.row hr
 have h2:=Y0V hc
 omega
theorem GoodP.h20 {I:Inst}{q:Plan}(hc:checkB I=true)(h:GoodP I q): q.routes.length<20:=by
 have h1:=h.wf.routes
 have h2:=Y1b hc
 omega
theorem Y8u {I:Inst}{q:Plan}{L:List (Int × List Int)}(hc:checkB I=true)(hq:GoodP I q)(hL:∀ x∈L,x.2.length≤300)(hr:(newR q L).flatten.Nodup∧∀ r∈newR q L,∀ x∈r,1≤x∧x≤I.stops.length)(hf:fitB I (turnedD q L)=true): OneOK I q (turnedD q L):=by
 have h1:=hq.r100 hc
 unfold fitB at hf
 simp only[Ye0,Yed] at hf
 refine⟨⟨Y0y (hq.h20 hc) (fun r hr=>Ye5 (h1 r hr) (by decide)) (fun x hx=>Ye5 (hL x hx) (by decide)),fun t ht=>hf.2 t ht,fun h hh=>?_,fun h hh=>?_⟩,?_,fun t ht=>?_⟩
 rw[Y0L] at hh;cases hh
 rw[Y0W] at hh;cases hh
 rw[Y77 (Y6c q L) hr.1 fun r hr' s hs=>?_]
 have:=hr.2 r hr' s hs
 have h2:=hq.wf.lock
 omega
 obtain⟨k,g1,g2,g3,g4,g5⟩:=Y0v.1 ht
 refine⟨?_,Ye5 (hL _ (Y0P g4)) (by decide)⟩
 rw[g3]
 exact Ye5 (h1 _ (Y02 g1)) (by decide)
theorem Y7r {I:Inst}{q:Plan}(hc:checkB I=true)(hq:GoodP I q)(s c:Int): TriesOK I q (relocR I q s c):=by
 have h100:=hq.r100 hc
 unfold relocR
 split
 exact Y0S I q
 rename_i hn
 simp only[not_or] at hn
 obtain⟨n1,n2,n3,n4⟩:=hn
 have hst:isStop I s=true:=by simpa using n1
 simp only[isStop,Ye0,decide_eq_true_eq] at hst
 have hcl:c.toNat<q.routes.length:=by omega
 have hlen:(withoutL (q.routes.getD c.toNat default) s).length≤100:=Ye5 (Y0z _ _) (h100 _ (Y02 hcl))
 refine⟨Ye5 (Yex _ _) (by rw[Ye4,List.length_range];omega),fun d hd=>?_⟩
 obtain⟨hd,hf⟩:=YeL.1 hd
 obtain⟨k,-,rfl⟩:=Ye8.1 hd
 refine Y8u hc hq (Y6D h100 (by omega) (Y5W _ _) k) ?_ hf
 refine Y9o hq.wf hst (c:=c.toNat) (k:=k) hcl (Y1P _ _) fun j hj=>?_
 rw[Y3l hj,relocL,Y0j]
 by_cases hjc:(j:Int)=c
 rw[if_pos hjc,if_pos (by omega)]
 rfl
 rw[if_neg hjc,if_neg (by omega),rel0]
 rcases Y1A hq.wf.once s with ⟨w1,-,w2⟩ | ⟨a,m,w1,w2,w3,w4,w5⟩
 rw[if_neg (by omega)]
 show q.routes.getD j default=_
 rw[Y2P (w2 j hj)]
 rw[w3,if_pos (by show (a:Int)≥0;omega),Y0j]
 by_cases hja:(j:Int)=(a:Int)
 obtain rfl:j=a:=by omega
 rw[if_pos rfl]
 rfl
 rw[if_neg hja]
 show q.routes.getD j default=_
 rw[Y2P (w5 j hj (by omega))]
theorem Y9h {I:Inst}{q:Plan}(hc:checkB I=true)(hq:GoodP I q)(a b:Int): TriesOK I q (exchR I q a b):=by
 have h100:=hq.r100 hc
 unfold exchR
 split
 exact Y0S I q
 rename_i hn
 simp only[not_or] at hn
 obtain⟨n1,n2,n3,n4,n5,-,-⟩:=hn
 have ha:isStop I a=true:=by simpa using n1
 have hb:isStop I b=true:=by simpa using n2
 simp only[isStop,Ye0,decide_eq_true_eq] at ha hb
 refine⟨Ye5 (Yex _ _) (by simp),fun d hd=>?_⟩
 obtain⟨hd,hf⟩:=YeL.1 hd
 obtain rfl:=Yej.1 hd
 rcases Y1A hq.wf.once a with ⟨w1,-,-⟩ | ⟨c,k,c1,c2,c3,c4,c5⟩
 omega
 rcases Y1A hq.wf.once b with ⟨w1,-,-⟩ | ⟨e,m,e1,e2,e3,e4,e5⟩
 omega
 rw[← Y5V c3 e3 c1 e1] at hf ⊢
 refine Y8u hc hq (fun x hx=>Ye5 (Y47 h100 c1 e1 x hx) (by decide)) (Ya3 hq.wf ha hb ?_) hf
 refine Y3U (by rw[Y1P,Ye4]) fun j hj=>?_
 rw[Y1P] at hj
 rw[Y3l hj,exchA,Y0j,Y0j,← swpR,Y1I hj]
 by_cases h1:(j:Int)=(e:Int)
 obtain rfl:j=e:=by omega
 rw[if_pos rfl]
 exact Y1I hj
 rw[if_neg h1]
 by_cases h2:(j:Int)=(c:Int)
 obtain rfl:j=c:=by omega
 rw[if_pos rfl]
 exact Y1I hj
 rw[if_neg h2]
 show q.routes.getD j default=_
 rw[Y5D (c5 j hj (by omega)) (e5 j hj (by omega))]
theorem Y8w {l ss:List Int}{k:Nat}(h:k=l.length): withL l k ss=l++ss:=by
 rw[withL,h,YdP (Ye2 _),YfN (Ye2 _),YdX]
theorem Y9p {I:Inst}{q:Plan}(hc:checkB I=true)(hq:GoodP I q)(c k e m:Int): TriesOK I q (swapR I q c k e m):=by
 have h100:=hq.r100 hc
 unfold swapR
 split
 exact Y0S I q
 rename_i hn
 simp only[not_or] at hn
 obtain⟨n1,n2,n3,n4,n5,n6,n7,n8,n9⟩:=hn
 have hcl:c.toNat<q.routes.length:=by omega
 have hel:e.toNat<q.routes.length:=by omega
 refine⟨Ye5 (Yex _ _) (by simp),fun d hd=>?_⟩
 obtain⟨hd,hf⟩:=YeL.1 hd
 obtain rfl:=Yej.1 hd
 refine Y8u hc hq (fun x hx=>Ye5 (Y82 h100 (by omega) (by omega) x hx) (by decide)) (Y9z hq.wf (c:=c.toNat) (e:=e.toNat) (k:=k.toNat) (m:=m.toNat) hcl hel (by omega) (Y1P _ _) fun j hj=>?_) hf
 rw[Y3l hj,swapL,Y0j,Y0j,Y8w (by rw[Yek];omega),Y8w (by rw[Yek];omega)]
 by_cases h1:(j:Int)=e
 rw[if_pos h1,if_neg (by omega),if_pos (by omega)]
 rfl
 rw[if_neg h1]
 by_cases h2:(j:Int)=c
 rw[if_pos h2,if_pos (by omega)]
 rfl
 rw[if_neg h2,if_neg (by omega),if_neg (by omega)]
 rfl
theorem Y7B {I:Inst}{q:Plan}(hc:checkB I=true)(hq:GoodP I q)(c k s:Int): TriesOK I q (shiftR I q c k s):=by
 have h100:=hq.r100 hc
 unfold shiftR
 split
 exact Y0S I q
 rename_i hn
 simp only[not_or] at hn
 obtain⟨n1,n2,n3,n4,n5,n6⟩:=hn
 have hcl:c.toNat<q.routes.length:=by omega
 have hl:=Y5s q c k s
 have hl2:=h100 _ (Y02 hcl)
 refine⟨Ye5 (Yex _ _) (by rw[Ye4,List.length_range];omega),fun d hd=>?_⟩
 obtain⟨hd,hf⟩:=YeL.1 hd
 obtain⟨m,-,rfl⟩:=Ye8.1 hd
 refine Y8u hc hq (Y6a h100 (by omega) m) (Y9d hq.wf (c:=c.toNat) hcl (q:=withL (restS q c k s) m (midS q c k s)) ?_ (Y1P _ _) fun j hj=>?_) hf
 refine (Y1v _ _ _).trans ?_
 have h1:(restS q c k s).Perm ((q.routes.getD c.toNat default).drop (k+s).toNat++(q.routes.getD c.toNat default).take k.toNat):=Y1v _ _ _
 refine (h1.append_left _).trans ?_
 rw[← Yfk]
 refine List.perm_append_comm.trans ?_
 have h2:midS q c k s++(q.routes.getD c.toNat default).drop (k+s).toNat=(q.routes.getD c.toNat default).drop k.toNat:=by
   rw[midS,show (q.routes.getD c.toNat default).drop (k+s).toNat=((q.routes.getD c.toNat default).drop k.toNat).drop ((k+s).toNat - k.toNat) by rw[List.drop_drop];congr 1;omega,Yfg]
 rw[h2,Yfg]
 rw[Y3l hj,shiftL,Y0j]
 by_cases h1:(j:Int)=c
 rw[if_pos h1,if_pos (by omega)]
 rfl
 rw[if_neg h1,if_neg (by omega)]
 rfl
def bc (I:Inst)(p q:Plan)(who x:Int)(cars:List Int): List LV:=ic I++(kp p++(kp q++[.int .i64 who,.int .u32 x,.sl (em ni cars)]))
theorem Y7m:InlS Try.prog (I1 Try.prog 110 Try.f110 1):=I1.sound mix Try.func110 rfl rfl (by decide) (by kernel_rfl)
theorem YcU (p:Plan)(hp:OkP p): CallsV Try.prog 14 [.agg (kp p)] (.agg (kp p)):=(Y3J p hp).freeze rfl
theorem Yb9 {I:Inst}{p:Plan}(hp:∀ r∈p.routes,r.length≤100)(hs:p.sv.length≤1000000): ∀ {cars:List Int},cars.length≤1000→(freeR I p cars).length≤1100000:=by
 intro cars hc
 have h1:∀ l:List Int,((l.map (freeC I p)).flatten).length≤l.length*100:=by
   intro l
   induction l with
   | nil=>simp
   | cons c r ih =>
     rw[Yey,YfC,YdN,Yen,YeB]
     have:(freeC I p c).length≤100:=by
       unfold freeC
       split
       · exact Ye5 (Yex _ _) (hp _ (Y02 (by omega)))
       · simp
     omega
 have h2:=h1 cars
 have h3:=Y4o p.routes p.sv.length
 have h4:=Yex (mate0 I) (unassL p.routes p.sv.length)
 rw[freeR,YdN]
 have h5:cars.length*100≤1000*100:=YeX _ hc
 omega
theorem Yai (I:Inst)(N:Nat)(hb:Sb I N)(hqI:Sp I)(hs:I.Short)(hcI:checkB I=true)(p q:Plan)(hq:GoodP I q)(who x:Int)(cars:List Int)(hcl:cars.length≤2)(hcars:∀ c∈cars,0≤c∧c<q.routes.length): CallsM Try.prog 88 [.ptro (bc I p q who x cars)] (some 0) fun res z=>∃ r x' q',GoodP I q'∧res=.bool r∧z=.ptro (bc I p q' who x' cars):=by
 refine Ygw (ls:=[.ref 500000000 0 0 0]) (e:=[(500000000,⟨0,false,.var,21,[bc I p q who x cars]⟩)]) (ju:=some (.ref 500000000 0 0 0)) Y7m mix Try.func88 rfl rfl (by simp[Try.f88]) (by kernel_rfl) (nb:=0) rfl rfl (fun k hk=>by cases hk;exact⟨_,rfl,rfl⟩) (fun h=>by cases h) ?_
 unfold Try.f88
 refine Ve ?_
 have hqo:=hq.okP hcI
 have h100:=hq.r100 hcI
 have h20:=hq.h20 hcI
 have p6:=hqo.sv
 have hfl:=Yb9 (I:=I) h100 p6 (cars:=cars) (by omega)
 refine Vq2 ?_
 refine VaA ?_
 refine Vm6 ?_
 refine GL.inl Yg7 (nb':=1000000) rfl ⟨rfl,rfl,fun c hc=>?_⟩
 unfold Try.f110 at hc
 injection hc with hc
 subst hc
 refine VbA ?_
 refine Vy8 ?_
 refine Vh2 ?_
 refine VbH ?_
 refine Vy8 ?_
 refine VcH ?_
 refine VlB ?_
 refine Vy8 ?_
 refine Vh2 ?_
 refine Va1 ?_
 refine YgB ?_
 refine⟨_,.cons (.tmp rfl) .nil,?_⟩
 refine Vx ?_
 refine GL.inl Yg7 (nb':=2000000) rfl ⟨rfl,rfl,fun c hc=>?_⟩
 unfold Try.f110 at hc
 injection hc with hc
 subst hc
 refine VbA ?_
 refine Vy8 ?_
 refine Vh2 ?_
 refine VbH ?_
 refine Vy8 ?_
 refine VcH ?_
 refine VlB ?_
 refine Vy8 ?_
 refine Vh2 ?_
 refine Va1 ?_
 refine YgB ?_
 refine⟨_,.cons (.tmp rfl) .nil,?_⟩
 refine Vx ?_
 refine GL.inl Yg7 (nb':=3000000) rfl ⟨rfl,rfl,fun c hc=>?_⟩
 unfold Try.f110 at hc
 injection hc with hc
 subst hc
 refine VbA ?_
 refine Vy8 ?_
 refine Vh2 ?_
 refine VbH ?_
 refine Vy8 ?_
 refine VcH ?_
 refine VlB ?_
 refine Vy8 ?_
 refine Vh2 ?_
 refine Va1 ?_
 refine YgB ?_
 refine⟨_,.cons (.tmp rfl) .nil,?_⟩
 refine Vm0 ?_
 refine Vm0 ?_
 refine VaA ?_
 refine Vi0 ?_
 refine VmD ?_
 refine VsC ?_
 refine VcC ?_
 refine VfB ?_
 refine VtC ?_
 refine Vt9 ?_
 refine Yg6 Yg7 rfl (Frz.aggc (by exact YfY rfl) (Frz.aggc (by exact YfY rfl) (Frz.aggc (by exact Frz.pure rfl) (Frz.aggn)))) (Yd7 I hs q hqo h100 cars (by omega)) rfl rfl (fun _=>rfl) ?_
 refine VlD ?_
 refine Va2 ?_
 refine Vm0 ?_
 refine Vq0 ?_
 refine goWeak (Weak.nilSl (j:=7) rfl) ?_
 refine Va2 ?_
 refine VfB ?_
 refine VtC ?_
 refine Vt9 ?_
 refine Va5 ?_
 refine Vm0 ?_
 refine Vj0 ?_
 refine Ygk Yg7 (fun st=>∃ T:List Delta,(TriesOK I q T)∧∃ m0,st=⟨(updS (updS (fun _=>LV.undef) 0 (.ref 500000000 0 0 0)) 7 (.sl (em kd T))),effM m0 [(500000000,⟨0,false,.var,21,[bc I p q who (drawI (drawI (drawI x))) cars]⟩)]⟩) ?_ ?_
 refine VjB ?_
 refine Yg6 Yg7 rfl (Frz.aggc (by exact Frz.pure rfl) (Frz.aggc (by exact Frz.pure rfl) (Frz.aggn))) (Y1K (drawI x) 4 (by decide)) rfl rfl (fun _=>rfl) ?_
 refine Vs2 ?_
 refine Va2 ?_
 refine Vf3 ?_
 refine Vm0 ?_
 refine Vj0 ?_
 refine cD (fun h81=>?_) fun h81=>?_
 refine VjB ?_
 refine Va5 ?_
 refine Vf3 ?_
 refine Vx ?_
 refine Yg1 86 rfl (fun h86=>?_) (fun h86=>?_)
 rw[h86]
 replace h86:=of_decide_eq_true h86
 refine Vv6 ?_
 refine VkB ?_
 refine cD (fun h89=>?_) fun h89=>?_
 have k1:=Y4g (x:=(drawI (drawI x))) (n:=((freeR I q cars).length:Int)) (by omega) (by omega)
 have k2:=Y4g (x:=(drawI (drawI (drawI x)))) (n:=(cars.length:Int)) (by omega) (by omega)
 refine Vi0 ?_
 refine VmD ?_
 refine VsC ?_
 refine VcC ?_
 refine Vv5 ?_
 refine Vx ?_
 refine Va5 ?_
 refine ViL ?_
 refine Vu5 ?_
 refine VfB ?_
 refine VtC ?_
 refine Vt9 ?_
 refine Vv5 ?_
 refine Yg6 Yg7 rfl (Frz.aggc (by exact Frz.pure rfl) (Frz.aggc (by exact Frz.pure rfl) (Frz.aggn))) (Y1K (drawI (drawI (drawI x))) (cars.length:Int) (by omega)) rfl rfl (fun _=>rfl) ?_
 refine Vu5 ?_
 refine Yg6 Yg7 rfl (Frz.aggc (by exact YfY rfl) (Frz.aggc (by exact YfY rfl) (Frz.aggc (by exact Frz.pure rfl) (Frz.aggc (by exact Frz.pure rfl) (Frz.aggn))))) (Yc4 I N hb hqI hs q hqo h20 h100 _ _) rfl rfl (fun _=>rfl) ?_
 refine Vm0 ?_
 refine Vg4 ?_
 refine⟨_,(YfZ (YfV (YfV (Yg0 _) rfl) rfl) _),_,(by exact Y7r hcI hq _ _),_,(congrArg (St.mk _) (Y01 (YfW rfl Yg3)).symm)⟩
 refine Vw7 ?_
 refine⟨_,lessA,[],Y0S I q,_,hasA⟩
 rw[h86]
 replace h86:=of_decide_eq_false h86
 refine Vw0 ?_
 refine VkB ?_
 refine Vw1 ?_
 refine Vw7 ?_
 refine⟨_,lessA,[],Y0S I q,_,hasA⟩
 refine Va2 ?_
 refine Vf3 ?_
 refine Vm0 ?_
 refine Vj0 ?_
 refine cD (fun h115=>?_) fun h115=>?_
 refine VjB ?_
 refine Va5 ?_
 refine VcI ?_
 refine cD (fun h119=>?_) fun h119=>?_
 have k1:=Y4g (x:=(drawI (drawI x))) (n:=((freeR I q cars).length:Int)) (by omega) (by omega)
 have k2:=Y4g (x:=(drawI (drawI (drawI x)))) (n:=((freeR I q cars).length:Int)) (by omega) (by omega)
 refine Vi0 ?_
 refine VmD ?_
 refine VsC ?_
 refine VcC ?_
 refine Vv5 ?_
 refine Vx ?_
 refine Va5 ?_
 refine ViL ?_
 refine Vu5 ?_
 refine Vv5 ?_
 refine Vx ?_
 refine Va5 ?_
 refine Yg6 Yg7 rfl (Frz.aggc (by exact Frz.pure rfl) (Frz.aggc (by exact Frz.pure rfl) (Frz.aggn))) (Y1K (drawI (drawI (drawI x))) ((freeR I q cars).length:Int) (by omega)) rfl rfl (fun _=>rfl) ?_
 refine Vu5 ?_
 refine Yg6 Yg7 rfl (Frz.aggc (by exact YfY rfl) (Frz.aggc (by exact YfY rfl) (Frz.aggc (by exact Frz.pure rfl) (Frz.aggc (by exact Frz.pure rfl) (Frz.aggn))))) (YcV I N hb hqI hs q hqo h20 h100 hq.wf.once _ _) rfl rfl (fun _=>rfl) ?_
 refine Vm0 ?_
 refine Vg4 ?_
 refine⟨_,(YfZ (YfV (YfV (Yg0 _) rfl) rfl) _),_,(by exact Y9h hcI hq _ _),_,(congrArg (St.mk _) (Y01 (YfW rfl Yg3)).symm)⟩
 refine Vw7 ?_
 refine⟨_,lessA,[],Y0S I q,_,hasA⟩
 refine Va2 ?_
 refine Vf3 ?_
 refine Vm0 ?_
 refine Vj0 ?_
 refine cD (fun h143=>?_) fun h143=>?_
 refine VhI ?_
 refine cD (fun h146=>?_) fun h146=>?_
 refine Vm4 ?_
 refine VfB ?_
 refine VtC ?_
 refine Vt9 ?_
 refine Vu5 ?_
 refine VfB ?_
 refine VtC ?_
 refine Vt9 ?_
 refine Vu5 ?_
 refine Vm0 ?_
 refine VlD ?_
 have c0:0≤(cars.getD (Int.toNat 0) default)∧(cars.getD (Int.toNat 0) default)<q.routes.length:=hcars _ (Y02 (l:=cars) (j:=0) (by omega))
 have c1:0≤(cars.getD (Int.toNat 1) default)∧(cars.getD (Int.toNat 1) default)<q.routes.length:=hcars _ (Y02 (l:=cars) (j:=1) (by omega))
 have l0:=h100 _ (Y02 (l:=q.routes) (j:=(cars.getD (Int.toNat 0) default).toNat) (by omega))
 have l1:=h100 _ (Y02 (l:=q.routes) (j:=(cars.getD (Int.toNat 1) default).toNat) (by omega))
 refine Vi0 ?_
 refine VmD ?_
 refine VsC ?_
 refine VcC ?_
 refine Vx ?_
 refine VdG ?_
 refine VpD ?_
 refine Vu5 ?_
 refine Va5 ?_
 refine Vu9 ?_
 refine Yg6 Yg7 rfl (Frz.aggc (by exact Frz.pure rfl) (Frz.aggc (by exact Frz.pure rfl) (Frz.aggn))) (Y1K (drawI (drawI x)) ((q.routes.getD (cars.getD (Int.toNat 0) default).toNat default).length+1:Int) (by omega)) rfl rfl (fun _=>rfl) ?_
 refine Vx ?_
 refine VdG ?_
 refine VpD ?_
 refine Vu5 ?_
 refine Va5 ?_
 refine Vu9 ?_
 refine Yg6 Yg7 rfl (Frz.aggc (by exact Frz.pure rfl) (Frz.aggc (by exact Frz.pure rfl) (Frz.aggn))) (Y1K (drawI (drawI (drawI x))) ((q.routes.getD (cars.getD (Int.toNat 1) default).toNat default).length+1:Int) (by omega)) rfl rfl (fun _=>rfl) ?_
 refine Yg6 Yg7 rfl (Frz.aggc (by exact YfY rfl) (Frz.aggc (by exact YfY rfl) (Frz.aggc (by exact Frz.pure rfl) (Frz.aggc (by exact Frz.pure rfl) (Frz.aggc (by exact Frz.pure rfl) (Frz.aggc (by exact Frz.pure rfl) (Frz.aggn))))))) (Yd2 I N hb hqI q hqo h20 h100 _ _ _ _) rfl rfl (fun _=>rfl) ?_
 refine Vm0 ?_
 refine Vg4 ?_
 refine⟨_,(YfZ (YfV (YfV (Yg0 _) rfl) rfl) _),_,(by exact Y9p hcI hq _ _ _ _),_,(congrArg (St.mk _) (Y01 (YfW rfl Yg3)).symm)⟩
 refine Vw7 ?_
 refine⟨_,lessA,[],Y0S I q,_,hasA⟩
 refine VhI ?_
 refine cD (fun h46=>?_) fun h46=>?_
 refine Ve ?_
 have k1:=Y4g (x:=(drawI (drawI x))) (n:=(cars.length:Int)) (by omega) (by omega)
 refine Vi0 ?_
 refine VfB ?_
 refine VtC ?_
 refine Vt9 ?_
 refine Vv5 ?_
 refine Yg6 Yg7 rfl (Frz.aggc (by exact Frz.pure rfl) (Frz.aggc (by exact Frz.pure rfl) (Frz.aggn))) (Y1K (drawI (drawI x)) (cars.length:Int) (by omega)) rfl rfl (fun _=>rfl) ?_
 refine Vu5 ?_
 refine VlD ?_
 have c2:=hcars _ (Y02 (l:=cars) (j:=(pickI (drawI (drawI x)) (cars.length:Int)).toNat) (by omega))
 have l2:=h100 _ (Y02 (l:=q.routes) (j:=(cars.getD (pickI (drawI (drawI x)) (cars.length:Int)).toNat default).toNat) (by omega))
 refine Vi0 ?_
 refine VmD ?_
 refine VsC ?_
 refine VcC ?_
 refine Vx ?_
 refine VdG ?_
 refine VpD ?_
 refine Vu5 ?_
 refine Va5 ?_
 refine Yg6 Yg7 rfl (Frz.aggc (by exact Frz.pure rfl) (Frz.aggc (by exact Frz.pure rfl) (Frz.aggn))) (Y1K (drawI (drawI (drawI x))) ((q.routes.getD (cars.getD (pickI (drawI (drawI x)) (cars.length:Int)).toNat default).toNat default).length:Int) (by omega)) rfl rfl (fun _=>rfl) ?_
 refine Vx ?_
 refine Vf3 ?_
 refine Yg6 Yg7 rfl (Frz.aggc (by exact Frz.pure rfl) (Frz.aggc (by exact Frz.pure rfl) (Frz.aggn))) (Y1K _ 3 (by decide)) rfl rfl (fun _=>rfl) ?_
 refine Vf3 ?_
 refine Yg6 Yg7 rfl (Frz.aggc (by exact YfY rfl) (Frz.aggc (by exact YfY rfl) (Frz.aggc (by exact Frz.pure rfl) (Frz.aggc (by exact Frz.pure rfl) (Frz.aggc (by exact Frz.pure rfl) (Frz.aggn)))))) (Ybd I N hb hqI q hqo h20 h100 _ _ _) rfl rfl (fun _=>rfl) ?_
 refine Vm0 ?_
 refine Vg4 ?_
 refine⟨_,(YfZ (YfV (YfV (Yg0 _) rfl) rfl) _),_,(by exact Y7B hcI hq _ _ _),_,(congrArg (St.mk _) (Y01 (YfW rfl Yg3)).symm)⟩
 refine Vw7 ?_
 refine⟨_,lessA,[],Y0S I q,_,hasA⟩
 rintro _ ⟨T,hT,m0,rfl⟩
 have hTl:=hT.len
 refine Va2 ?_
 refine Vm0 ?_
 refine Vm0 ?_
 refine VdC ?_
 refine Va5 ?_
 refine Vx ?_
 refine Vs2 ?_
 refine Yg8 Yg7 (α:=Nat × Int × Int × Int) (fun ⟨i,best,s,g⟩ st=>(i≤T.length∧(best = -1∨(0≤best∧best<T.length)))∧∃ m0,st=⟨(updS (updS (updS (updS (updS (updS (updS (updS (fun _=>LV.undef) 0 (.ref 500000000 0 0 0)) 7 (.sl (em kd T))) 12 (.int .i64 best)) 13 (.int .i64 s)) 14 (.int .i64 g)) 194 (.sl (em kd T))) 195 (.int .i64 (T.length:Int))) 196 (.int .i64 (i:Int))),effM m0 [(500000000,⟨0,false,.var,21,[bc I p q who (drawI (drawI (drawI x))) cars]⟩)]⟩) (fun ⟨i,best,s,g⟩=>T.length - i) ⟨0,_,_,_⟩ ⟨_,(YfZ (YfV (YfV (YfV (YfV (YfV (YfV (YfV (YfV (Yg0 _) rfl) rfl) rfl) rfl) rfl) rfl) rfl) rfl) _),⟨Ye1 _,.inl rfl⟩,_,(congrArg (St.mk _) (Y01 (YfW rfl Yg3)).symm)⟩ ?_
 rintro⟨i,best,s,g⟩ _ ⟨⟨hi,hbest⟩,m0,rfl⟩
 refine Va2 ?_
 refine Vf3 ?_
 refine Vk6 ?_
 refine cD (fun h197=>?_) fun h197=>?_
 refine Ve5 ?_
 refine Ve ?_
 have hD:=hT.each _ (Y02 (l:=T) (j:=i) (by omega))
 refine Vm6 ?_
 refine Ygo Yg7 (sz:=3) rfl rfl rfl rfl (by omega) (by (rw[Y00];omega)) (by intro e he;obtain⟨a,-,rfl⟩:=Ye8.1 he;rfl) (by with_reducible exact YeT _) ?_
 refine Ygu Yg7 (n:=3) rfl rfl (Y08 (by omega)) rfl rfl ?_
 refine Vg7 ?_
 intro g16
 refine Vm0 ?_
 refine VvN ?_
 refine Vu8 ?_
 refine VmD ?_
 refine VsC ?_
 refine VcC ?_
 refine VjL ?_
 refine Yg6 Yg7 rfl (Frz.aggc (by exact YfY rfl) (Frz.aggc (by exact YfY rfl) (Frz.aggc (by exact YfY rfl) (Frz.aggn)))) (Yar I N hb.sq q (T.getD i default) hD.good.ok hD.lens) rfl rfl (fun _=>rfl) ?_
 refine Vt3 ?_
 refine Vm0 ?_
 refine VlD ?_
 refine Vm4 ?_
 refine VcC ?_
 refine VfB ?_
 refine Ygd Yg7 (o:=18) rfl rfl rfl rfl (by conv=>lhs;whnf) ?_
 refine Vt9 ?_
 refine VjL ?_
 refine Yg6 Yg7 rfl (Frz.aggc (by exact YfY rfl) (Frz.aggc (by exact Frz.pure rfl) (Frz.aggc (by exact YfY rfl) (Frz.aggn)))) (Y7O q hqo who (T.getD i default) hD.good.ok) rfl rfl (fun _=>rfl) ?_
 refine Vf3 ?_
 refine Vx ?_
 refine Yg1 225 rfl (fun h225=>?_) (fun h225=>?_)
 rw[h225]
 replace h225:=of_decide_eq_true h225
 refine VnD ?_
 refine Vv6 ?_
 refine VnD ?_
 refine Yg1 229 rfl (fun h229=>?_) (fun h229=>?_)
 rw[h229]
 replace h229:=of_decide_eq_true h229
 refine Vk0 ?_
 refine Vb ?_
 refine Ve8 ?_
 refine Ve8 ?_
 refine Vx0 ?_
 refine Vp2 ?_
 refine Vm6 ?_
 refine Vv5 ?_
 refine Vm0 ?_
 refine Vm0 ?_
 refine Vm0 ?_
 refine Vx8 ?_
 refine Vq2 ?_
 refine Vu9 ?_
 refine Vx ?_
 refine Vq0 ?_
 refine⟨⟨i+1,(i:Int),_,_⟩,(by dsimp only;omega),_,(YfZ (YfV (YfV (YfV (YfV (YfV (YfV (YfV (YfV (Yg0 _) rfl) rfl) rfl) rfl) rfl) rfl) rfl) rfl) _),⟨by omega,.inr ⟨by omega,by omega⟩⟩,_,(congrArg (St.mk _) (Y01 (YfW rfl Yg3)).symm)⟩
 rw[h229]
 replace h229:=of_decide_eq_false h229
 refine VnD ?_
 refine Vv6 ?_
 refine VnD ?_
 refine Yg1 233 rfl (fun h233=>?_) (fun h233=>?_)
 rw[h233]
 replace h233:=of_decide_eq_true h233
 refine VnD ?_
 refine Vv6 ?_
 refine Vb ?_
 refine Ve8 ?_
 refine Vb ?_
 refine Ve8 ?_
 refine Ve8 ?_
 refine Vx0 ?_
 refine cD (fun h239=>?_) fun h239=>?_
 refine Vm6 ?_
 refine Vv5 ?_
 refine Vm0 ?_
 refine Vm0 ?_
 refine Vm0 ?_
 refine Vx8 ?_
 refine Vq2 ?_
 refine Vu9 ?_
 refine Vx ?_
 refine Vq0 ?_
 refine⟨⟨i+1,(i:Int),_,_⟩,(by dsimp only;omega),_,(YfZ (YfV (YfV (YfV (YfV (YfV (YfV (YfV (YfV (Yg0 _) rfl) rfl) rfl) rfl) rfl) rfl) rfl) rfl) _),⟨by omega,.inr ⟨by omega,by omega⟩⟩,_,(congrArg (St.mk _) (Y01 (YfW rfl Yg3)).symm)⟩
 refine VvB ?_
 refine Vq2 ?_
 refine Vu9 ?_
 refine Vx ?_
 refine Vq0 ?_
 refine⟨⟨i+1,best,_,_⟩,(by dsimp only;omega),_,(YfZ (YfV (YfV (YfV (YfV (YfV (YfV (YfV (YfV (Yg0 _) rfl) rfl) rfl) rfl) rfl) rfl) rfl) rfl) _),⟨by omega,hbest⟩,_,(congrArg (St.mk _) (Y01 (YfW rfl Yg3)).symm)⟩
 rw[h233]
 replace h233:=of_decide_eq_false h233
 refine Vn0 ?_
 refine Vb ?_
 refine Ve8 ?_
 refine Vb ?_
 refine Ve8 ?_
 refine Ve8 ?_
 refine Vx0 ?_
 refine Vw1 ?_
 refine VvB ?_
 refine Vq2 ?_
 refine Vu9 ?_
 refine Vx ?_
 refine Vq0 ?_
 refine⟨⟨i+1,best,_,_⟩,(by dsimp only;omega),_,(YfZ (YfV (YfV (YfV (YfV (YfV (YfV (YfV (YfV (Yg0 _) rfl) rfl) rfl) rfl) rfl) rfl) rfl) rfl) _),⟨by omega,hbest⟩,_,(congrArg (St.mk _) (Y01 (YfW rfl Yg3)).symm)⟩
 rw[h225]
 replace h225:=of_decide_eq_false h225
 refine Vk0 ?_
 refine Vu0 ?_
 refine Ve8 ?_
 refine Vx0 ?_
 refine Vw1 ?_
 refine VvB ?_
 refine Vq2 ?_
 refine Vu9 ?_
 refine Vx ?_
 refine Vq0 ?_
 refine⟨⟨i+1,best,_,_⟩,(by dsimp only;omega),_,(YfZ (YfV (YfV (YfV (YfV (YfV (YfV (YfV (YfV (Yg0 _) rfl) rfl) rfl) rfl) rfl) rfl) rfl) rfl) _),⟨by omega,hbest⟩,_,(congrArg (St.mk _) (Y01 (YfW rfl Yg3)).symm)⟩
 refine VrA ?_
 refine VhI ?_
 refine cD (fun h245=>?_) fun h245=>?_
 refine VbI ?_
 refine VgN ?_
 refine VkL ?_
 exact⟨_,(drawI (drawI (drawI x))),q,hq,rfl,rfl⟩
 refine Vh ?_
 have hD:=hT.each _ (Y02 (l:=T) (j:=best.toNat) (by omega))
 have hgood:=Y0u hq hD.good hD.done
 refine Vi0 ?_
 refine VdG ?_
 refine VuN ?_
 refine Vv5 ?_
 refine Ygo Yg7 (sz:=3) rfl rfl rfl rfl (by omega) (by (rw[Y00];omega)) (by intro e he;obtain⟨a,-,rfl⟩:=Ye8.1 he;rfl) (by rfl) ?_
 refine Ygu Yg7 (n:=3) rfl rfl (Y08 (by omega)) rfl rfl ?_
 refine Yg6 Yg7 rfl (Frz.aggc (by exact YfY rfl) (Frz.aggc (by exact YfY rfl) (Frz.aggn))) (Y64 q hqo (WfP.shP hq.wf) (T.getD best.toNat default) hD.good.ok) rfl rfl (fun _=>rfl) ?_
 refine Vt3 ?_
 refine VsN ?_
 refine VtN ?_
 refine Ygx Yg7 (n:=7) rfl rfl rfl rfl rfl rfl rfl rfl rfl rfl (YdK rfl) (by (conv=>lhs;simp only[YdR,Ye6,YdU,Ye3,YdY,YdW,Yea,YdX,Yeb,YdS,YdT,YdZ,kp,ic,ei,bc,kd,kt,kh])) (by (conv=>lhs;simp only[YdR,Ye6,YdU,Ye3,YdY,YdW,Yea,YdX,Yeb,YdS,YdT,YdZ,kp,ic,ei,bc,kd,kt,kh])) ?_
 refine Vx0 ?_
 refine Va2 ?_
 refine VzN ?_
 refine VkL ?_
 exact⟨_,(drawI (drawI (drawI x))),_,hgood,rfl,rfl⟩
theorem YcM (I:Inst)(p:Plan)(hp:OkP p)(who x:Int)(cars:List Int)(hc:cars.length≤1000): CallsV Try.prog 87 [ei I,.agg (kp p),.int .i64 who,.int .u32 x,.sl (em ni cars)] (.ptro (bc I p p who x cars)):=by
 refine Yg2 (Yga _) mix Try.func87 rfl rfl (by simp[Try.f87]) (by kernel_rfl) (nb:=0) ?_
 unfold Try.f87
 refine Vy0 ?_
 intro g5
 refine Vo ?_
 intro g6
 refine Vj5 ?_
 refine Vs4 ?_
 refine Vg1 ?_
 refine Yg6 YfX rfl (Frz.aggc (by exact YfY rfl) (Frz.aggn)) (YcU p hp) rfl rfl (fun _=>rfl) ?_
 refine Vj1 ?_
 refine YgD YfX (f:=ni) (l:=cars) (sz:=1) (z:=[.int .i64 0]) rfl rfl rfl rfl rfl (by decide) (YdK rfl) rfl rfl (fun _=>rfl) (fun _=>rfl) (by omega) ?_
 intro g18
 refine GL.buildG YfX (z:=[LV.nils,LV.nils,LV.nils,LV.nils,LV.nils,LV.nils,LV.nils,LV.nils,LV.nils,LV.nils,LV.int .i64 0,LV.nils,LV.nils,LV.nils,LV.nils,LV.nils,LV.nils,LV.int .i64 0,LV.int .i64 0,LV.int .u32 0,LV.nils]) (cs:=[_,_,_,_,_,_,_,_,_,_,_,_,_,_,_,_,_,_,_,_,_]) rfl rfl (EvS.cons (by conv=>lhs;whnf) (EvS.cons (by conv=>lhs;whnf) (EvS.cons (by conv=>lhs;whnf) (EvS.cons (by conv=>lhs;whnf) (EvS.cons (by conv=>lhs;whnf) (EvS.cons (by conv=>lhs;whnf) (EvS.nil))))))) rfl rfl ?_
 refine GL.box YfX (by conv=>lhs;whnf) rfl (n:=21) rfl rfl ?_
 intro g20
 refine VyB ?_
 refine⟨_,_,_,_,.cons (.tmp rfl) .nil,.ptro rfl rfl rfl rfl rfl (.frz (Frz.aggc (Frz.pure rfl) (Frz.aggc (Frz.pure rfl) (Frz.aggc (Frz.pure rfl) (Frz.aggc (Frz.pure rfl) (Frz.aggc (Frz.pure rfl) (Frz.aggc (Frz.pure rfl) (Frz.aggc (Frz.pure rfl) (Frz.aggc (Frz.pure rfl) (Frz.aggc (Frz.pure rfl) (Frz.aggc (Frz.pure rfl) (Frz.aggc (Frz.pure rfl) (Frz.aggc (Frz.pure rfl) (Frz.aggc (Frz.pure rfl) (Frz.aggc (Frz.pure rfl) (Frz.aggc (Frz.pure rfl) (Frz.aggc (Frz.pure rfl) (Frz.aggc (Frz.pure rfl) (Frz.aggc (Frz.pure rfl) (Frz.aggc (Frz.pure rfl) (Frz.aggc (Frz.pure rfl) (Frz.aggc (Yg5 rfl rfl rfl rfl (Y00 _ _)) Frz.aggn)))))))))))))))))))))),(by decide),by simp,?_⟩
 rfl
def delL (q:Plan)(cars:List Int): List (Int × List Int):=cars.foldl (fun L c=>rput c (q.routes.getD c.toNat default) L) []
theorem Y9C (q:Plan){cars:List Int}{i:Nat}(h:i<cars.length): rput (cars.getD i default) (q.routes.getD (cars.getD i default).toNat default) (delL q (cars.take i))=delL q (cars.take (i+1)):=by
 rw[Y0a h,delL,delL,YeG]
 rfl
theorem Y6L (q:Plan): ∀ (cars:List Int) (L:List (Int × List Int)),(∀ k l,rlook k L=some l→l=q.routes.getD k.toNat default)→∀ k l,rlook k (cars.foldl (fun L c=>rput c (q.routes.getD c.toNat default) L) L)=some l→l=q.routes.getD k.toNat default
 | [],L,h=>h
 | c::r,L,h=>Y6L q r _ fun k l hl=>by
   rw[Y0j] at hl
   split at hl
   · rename_i e
     injection hl with hl
     rw[← hl,e]
   · exact h k l hl
theorem Y7Q {q:Plan}{n:Nat}(hq:∀ r∈q.routes,r.length≤n): ∀ (cars:List Int) (L:List (Int × List Int)),(∀ x∈L,x.2.length≤n)→(∀ c∈cars,0≤c∧c<q.routes.length)→∀ x∈cars.foldl (fun L c=>rput c (q.routes.getD c.toNat default) L) L,x.2.length≤n
 | [],L,h,_=>h
 | c::r,L,h,hc=>Y7Q hq r _ (Y0k (Q:=fun l=>l.length≤n) (hq _ (Y02 (by have:=hc c (by simp);omega))) h) fun d hd=>hc d (YdV _ hd)
theorem Y71 {q:Plan}{n:Nat}(hq:∀ r∈q.routes,r.length≤n){cars:List Int}(hc:∀ c∈cars,0≤c∧c<q.routes.length): ∀ x∈delL q cars,x.2.length≤n:=Y7Q hq cars [] (fun x hx=>by cases hx) hc
theorem Y3N {I:Inst}{p q:Plan}(hcI:checkB I=true)(hp:GoodP I p)(hq:GoodP I q){cars:List Int}(hc:∀ c∈cars,0≤c∧c<q.routes.length): GoodD I (turnedD p (delL q cars)):=by
 refine⟨Y0y (hp.h20 hcI) (fun r hr=>Ye5 (hp.r100 hcI r hr) (by decide)) fun x hx=>Ye5 (Y71 (hq.r100 hcI) hc x hx) (by decide),fun t ht=>?_,fun h hh=>?_,fun h hh=>?_⟩
 obtain⟨k,g1,g2,g3,g4,-⟩:=Y0v.1 ht
 have:=Y6L q cars [] (fun k l h=>by cases h) _ _ g4
 rw[g2,this]
 exact hq.driven k (by rw[hq.wf.routes,← hp.wf.routes];exact g1)
 rw[Y0L] at hh;cases hh
 rw[Y0W] at hh;cases hh
theorem Y9q (I:Inst)(p q:Plan)(hp:OkP p)(h20:p.routes.length<20)(hq:∀ r∈q.routes,r.length≤1000000)(who x:Int)(cars:List Int)(hcl:cars.length≤2)(hcars:∀ c∈cars,0≤c∧c<q.routes.length): CallsV Try.prog 89 [.fad [bc I p q who x cars] 0 0] (.agg (kd (turnedD p (delL q cars)))):=by
 refine Yg2 (Yga _) mix Try.func89 rfl rfl (by simp[Try.f89]) (by kernel_rfl) (nb:=0) ?_
 unfold Try.f89
 refine Vc ?_
 refine Vz0 ?_
 intro g2
 refine Va4 ?_
 refine Vv1 ?_
 intro g6
 refine Ve0 ?_
 refine GL.nilCheckF YfX rfl ?_
 refine Ygf YfX (o:=20) rfl rfl (by conv=>lhs;whnf) ?_
 refine Ygq YfX rfl rfl (by rfl) rfl ?_
 refine Vq ?_
 refine Yg8 YfX (α:=Nat) (fun i st=>(i≤cars.length)∧∃ m0,st=⟨(updS (updS (updS (updS (updS (updS (fun _=>LV.undef) 0 (.fad [bc I p q who x cars] 0 0)) 2 (.ref 128 g2 0 0)) 3 (.mref 384 g6)) 10 (.sl (em ni cars))) 11 (.int .i64 (cars.length:Int))) 12 (.int .i64 (i:Int))),effM m0 [(128,⟨g2,false,.var,3,[[.nils,.nils,.nils]]⟩),(384,⟨g6,false,.mp,2,em2 (delL q (cars.take i))⟩)]⟩) (fun i=>cars.length - i) 0 ⟨_,lessA,Ye1 _,_,hasA⟩ ?_
 rintro i _ ⟨hi,m0,rfl⟩
 refine Vd ?_
 refine cD (fun h13=>?_) fun h13=>?_
 have hcc:=hcars _ (Y02 (l:=cars) (j:=i) (by omega))
 refine Vl4 ?_
 refine Vt4 ?_
 refine Vm3 ?_
 refine Va ?_
 refine GL.nilCheckF YfX rfl ?_
 refine Ygf YfX (o:=11) rfl rfl (by conv=>lhs;whnf) ?_
 refine VmC ?_
 refine Ygq YfX rfl rfl (by rfl) rfl ?_
 refine Va ?_
 refine VdI ?_
 refine GL.putM2 YfX (L:=delL q (cars.take i)) rfl rfl rfl rfl rfl rfl rfl rfl rfl rfl rfl ?_
 rw[Y9C q (by omega)]
 refine Vi3 ?_
 refine⟨i+1,(by dsimp only;omega),_,lessA,(by omega),_,hasA⟩
 refine VrA ?_
 rw[show cars.take i=cars by rw[YdP (by omega)]]
 refine Vl ?_
 refine GL.nilCheckF YfX rfl ?_
 refine Ygf YfX (o:=4) rfl rfl (by conv=>lhs;whnf) ?_
 refine YgG YfX (n:=7) rfl rfl (by rfl) rfl (YdK rfl) (by (conv=>lhs;simp only[YdR,Ye6,YdU,Ye3,YdY,YdW,Yea,YdX,Yeb,YdS,YdT,YdZ,kp,ic,ei,bc,kd])) ?_
 refine Va ?_
 refine GL.callM0 YfX rfl (Frz.aggc (YfY rfl) (Frz.aggc (Frz.mref rfl rfl rfl rfl) Frz.aggn)) (Y1k p hp h20 (delL q cars) (Y71 hq hcars)) rfl rfl (fun _=>rfl) ?_
 refine VaB ?_
 refine Vd4 ?_
 refine⟨_,_,_,_,.cons (.cellA (n:=3) rfl rfl rfl (by simp) rfl rfl rfl (YdK rfl)) .nil,.frz (YfY rfl),Yec,by simp,rfl⟩
structure Cmd where
 op:Int
 stop:Int
 car:Int
 at':Int
 mate:Int
 budget:Int
 seed:Int
 other:Int
def kc (c:Cmd): List LV:=[.int .i64 c.op,.int .i64 c.stop,.int .i64 c.car,.int .i64 c.at',.int .i64 c.mate,.int .i64 c.budget,.int .i64 c.seed,.int .i64 c.other]
theorem Y1C {I:Inst}{p:Plan}(hcI:checkB I=true)(hp:GoodP I p)(who:Int){L:List (Int × List Int)}(hL:∀ q∈L,q.2.length≤1000): GoodD I (toldR I p who L).1:=by
 unfold toldR
 split
 exact Y06
 rename_i h
 have hf:(turnedD p L).turns.all (drvT I)=true:=by
   unfold checkC at h
   split at h
   · rename_i h2;exact absurd h2 (by omega)
   · split at h
     · assumption
     · exact absurd (show (13:Int)≠0 by decide) h
 rw[Yed] at hf
 refine⟨Y0y (hp.h20 hcI) (fun r hr=>Ye5 (hp.r100 hcI r hr) (by decide)) fun x hx=>Ye5 (hL x hx) (by decide),fun t ht=>hf t ht,fun h hh=>?_,fun h hh=>?_⟩
 rw[Y0L] at hh;cases hh
 rw[Y0W] at hh;cases hh
theorem Y2N {I:Inst}(n b a:Int)(h:-1≤a∧a≤5): GoodD I ⟨[],[⟨n,b,a⟩],[]⟩:=⟨⟨by show (0:Nat)<20;decide,by show (1:Nat)<20;decide,by show (0:Nat)<20;decide,fun t ht=>(by cases ht)⟩,fun t ht=>(by cases ht),fun x hx=>by obtain rfl:=Yej.1 hx;exact h,fun t ht=>(by cases ht)⟩
theorem Y3W {I:Inst}(n b a:Int)(h:-1≤a∧a≤5): GoodD I ⟨[],[],[⟨n,b,a⟩]⟩:=⟨⟨by show (0:Nat)<20;decide,by show (0:Nat)<20;decide,by show (1:Nat)<20;decide,fun t ht=>(by cases ht)⟩,fun t ht=>(by cases ht),fun t ht=>(by cases ht),fun x hx=>by obtain rfl:=Yej.1 hx;exact h⟩
theorem Yaj (p:Plan)(hp:OkP p)(k:Int): CallsV Try.prog 86 [.agg (kp p),.int .i64 k] (.bool (decide (0≤k) && decide (k<p.routes.length))):=by
 refine Yg2 (Yga _) mix Try.func86 rfl rfl (by simp[Try.f86]) (by kernel_rfl) (nb:=0) ?_
 unfold Try.f86
 refine Ve ?_
 have p1:=hp.routes
 refine Vq6 ?_
 intro g2
 refine Vv7 ?_
 ·refine Yg1 7 rfl (fun h7=>?_) (fun h7=>?_)
  rw[h7]
  replace h7:=of_decide_eq_true h7
  refine Vc4 ?_
  refine Vt2 ?_
  refine Vh1 ?_
  rotate_left
  rw[h7]
  replace h7:=of_decide_eq_false h7
  refine Vu0 ?_
  all_goals
   refine Vd2 ?_
   show LV.bool _=LV.bool _
   congr 1
   done
theorem Ydc (I:Inst)(N:Nat)(hb:Sb I N)(hqI:Sp I)(hs:I.Short)(hcI:checkB I=true)(p:Plan)(hp:GoodP I p)(who:Int)(hw:0≤who∧who≤5)(c:Cmd)(hop:1≤c.op∧c.op≤7)(hat:0≤c.at'): CallsR Try.prog 97 [ei I,.agg (kp p),.int .i64 who,.agg (kc c)] fun res=>∃ a:Delta × Int,GoodD I a.1∧res=.tup [.agg (kd a.1),.int .i64 a.2]:=by
 refine Yg2 (Yga _) mix Try.func97 rfl rfl (by simp[Try.f97]) (by kernel_rfl) (nb:=0) ?_
 unfold Try.f97
 refine Ve ?_
 have hpo:=hp.okP hcI
 have h20:=hp.h20 hcI
 have hr100:=hp.r100 hcI
 have wl:=hp.wf.lock
 have wi:=hp.wf.ice
 have wr:=hp.wf.routes
 obtain⟨x,y,hxy⟩:∃ x y,whereR p.routes c.stop=(x,y):=⟨_,_,rfl⟩
 have hlt:=Y5W p.routes c.stop
 rw[hxy] at hlt
 have hlt:x<p.routes.length:=hlt
 refine Vy3 ?_
 intro g4
 refine Vo ?_
 intro g5
 refine ViE ?_
 intro g7
 refine Vz0 ?_
 intro g8
 refine Vn ?_
 refine VfE ?_
 refine Vz0 ?_
 intro g10
 refine Vg3 ?_
 refine Ygk YfX (fun st=>(c.op=6∨c.op=7∨isStop I c.stop=true)∧∃ m0,st=⟨(updS (updS (updS (updS (updS (updS (updS (fun _=>LV.undef) 2 (.int .i64 who)) 4 (.ref 256 g4 0 0)) 5 (.ref 320 g5 0 0)) 7 (.ref 448 g7 0 0)) 8 (.ref 512 g8 0 0)) 9 (.int .i64 0)) 10 (.ref 640 g10 0 0)),effM m0 [(256,⟨g4,false,.var,4,[ic I]⟩),(320,⟨g5,false,.var,7,[kp p]⟩),(448,⟨g7,false,.var,8,[kc c]⟩),(512,⟨g8,false,.var,3,[[.nils,.nils,.nils]]⟩),(640,⟨g10,false,.var,3,[[.nils,.nils,.nils]]⟩)]⟩) ?_ ?_
 refine Vc ?_
 refine Vc0 ?_
 refine Vm ?_
 refine Yg1 21 rfl (fun h21=>?_) (fun h21=>?_)
 rw[h21]
 replace h21:=Y0H h21
 refine Vl8 ?_
 refine Vy1 ?_
 refine Vo6 ?_
 refine Yg1 26 rfl (fun h26=>?_) (fun h26=>?_)
 rw[h26]
 replace h26:=Y0H h26
 refine Vb ?_
 refine Vt0 ?_
 refine Vq7 ?_
 refine Yg6 YfX rfl (Frz.aggc (by exact YfY rfl) (Frz.aggc (by exact Frz.pure rfl) (Frz.aggn))) (Y7q I hs _) rfl rfl (fun _=>rfl) ?_
 refine Vl3 ?_
 refine Vk4 ?_
 refine Ygb rfl (fun h32=>?_) (fun h32=>?_)
 refine Vo3 ?_
 exact⟨(⟨[],[],[]⟩,_),Y06,rfl⟩
 refine Vh0 ?_
 refine⟨_,lessA,(by exact .inr (.inr (nt' h32))),_,hasA⟩
 rw[h26]
 replace h26:=Y0s h26
 refine Vu0 ?_
 refine Ve4 ?_
 refine⟨_,lessA,(by exact .inr (.inl (by omega))),_,hasA⟩
 rw[h21]
 replace h21:=Y0s h21
 refine Vm1 ?_
 refine Vu0 ?_
 refine Ve4 ?_
 refine⟨_,lessA,(by exact .inl (by omega)),_,hasA⟩
 rintro _ ⟨hst,m0,rfl⟩
 refine Ygk YfX (fun st=>((c.op=1∨c.op=3∨c.op=6∨c.op=7)→0≤c.car∧c.car<p.routes.length)∧∃ m0,st=⟨(updS (updS (updS (updS (updS (updS (updS (fun _=>LV.undef) 2 (.int .i64 who)) 4 (.ref 256 g4 0 0)) 5 (.ref 320 g5 0 0)) 7 (.ref 448 g7 0 0)) 8 (.ref 512 g8 0 0)) 9 (.int .i64 0)) 10 (.ref 640 g10 0 0)),effM m0 [(256,⟨g4,false,.var,4,[ic I]⟩),(320,⟨g5,false,.var,7,[kp p]⟩),(448,⟨g7,false,.var,8,[kc c]⟩),(512,⟨g8,false,.var,3,[[.nils,.nils,.nils]]⟩),(640,⟨g10,false,.var,3,[[.nils,.nils,.nils]]⟩)]⟩) ?_ ?_
 refine Vc ?_
 refine Vc0 ?_
 refine Vm ?_
 refine Yg1 37 rfl (fun h37=>?_) (fun h37=>?_)
 rw[h37]
 replace h37:=of_decide_eq_true h37
 refine Vm1 ?_
 refine Vm1 ?_
 refine Vm1 ?_
 refine Vy9 ?_
 refine VeC ?_
 refine Yg1 56 rfl (fun h56=>?_) (fun h56=>?_)
 rw[h56]
 replace h56:=of_decide_eq_true h56
 refine Vz2 ?_
 refine Vf1 ?_
 refine Vf5 ?_
 refine Vo3 ?_
 exact⟨(⟨[],[],[]⟩,_),Y06,rfl⟩
 rw[h56]
 replace h56:=of_decide_eq_false h56
 refine Vn5 ?_
 refine Vs0 ?_
 refine Vt2 ?_
 refine VgA ?_
 refine cD (fun h64=>?_) fun h64=>?_
 refine Vo3 ?_
 exact⟨(⟨[],[],[]⟩,_),Y06,rfl⟩
 refine Vh0 ?_
 refine⟨_,lessA,(fun h=>by omega),_,hasA⟩
 rw[h37]
 replace h37:=of_decide_eq_false h37
 refine Vl8 ?_
 refine Vy1 ?_
 refine Vo6 ?_
 refine Yg1 42 rfl (fun h42=>?_) (fun h42=>?_)
 rw[h42]
 replace h42:=of_decide_eq_true h42
 refine Vm1 ?_
 refine Vm1 ?_
 refine Vy9 ?_
 refine VeC ?_
 refine Yg1 56 rfl (fun h56=>?_) (fun h56=>?_)
 rw[h56]
 replace h56:=of_decide_eq_true h56
 refine Vz2 ?_
 refine Vf1 ?_
 refine Vf5 ?_
 refine Vo3 ?_
 exact⟨(⟨[],[],[]⟩,_),Y06,rfl⟩
 rw[h56]
 replace h56:=of_decide_eq_false h56
 refine Vn5 ?_
 refine Vs0 ?_
 refine Vt2 ?_
 refine VgA ?_
 refine cD (fun h64=>?_) fun h64=>?_
 refine Vo3 ?_
 exact⟨(⟨[],[],[]⟩,_),Y06,rfl⟩
 refine Vh0 ?_
 refine⟨_,lessA,(fun h=>by omega),_,hasA⟩
 rw[h42]
 replace h42:=of_decide_eq_false h42
 refine Vl8 ?_
 refine Vy1 ?_
 refine Vo6 ?_
 refine Yg1 47 rfl (fun h47=>?_) (fun h47=>?_)
 rw[h47]
 replace h47:=of_decide_eq_true h47
 refine Vm1 ?_
 refine Vy9 ?_
 refine VeC ?_
 refine Yg1 56 rfl (fun h56=>?_) (fun h56=>?_)
 rw[h56]
 replace h56:=of_decide_eq_true h56
 refine Vz2 ?_
 refine Vf1 ?_
 refine Vf5 ?_
 refine Vo3 ?_
 exact⟨(⟨[],[],[]⟩,_),Y06,rfl⟩
 rw[h56]
 replace h56:=of_decide_eq_false h56
 refine Vn5 ?_
 refine Vs0 ?_
 refine Vt2 ?_
 refine VgA ?_
 refine cD (fun h64=>?_) fun h64=>?_
 refine Vo3 ?_
 exact⟨(⟨[],[],[]⟩,_),Y06,rfl⟩
 refine Vh0 ?_
 refine⟨_,lessA,(fun h=>by omega),_,hasA⟩
 rw[h47]
 replace h47:=of_decide_eq_false h47
 refine Vl8 ?_
 refine Vy1 ?_
 refine Vo6 ?_
 refine Yg1 52 rfl (fun h52=>?_) (fun h52=>?_)
 rw[h52]
 replace h52:=of_decide_eq_true h52
 refine Vy9 ?_
 refine VeC ?_
 refine Yg1 56 rfl (fun h56=>?_) (fun h56=>?_)
 rw[h56]
 replace h56:=of_decide_eq_true h56
 refine Vz2 ?_
 refine Vf1 ?_
 refine Vf5 ?_
 refine Vo3 ?_
 exact⟨(⟨[],[],[]⟩,_),Y06,rfl⟩
 rw[h56]
 replace h56:=of_decide_eq_false h56
 refine Vn5 ?_
 refine Vs0 ?_
 refine Vt2 ?_
 refine VgA ?_
 refine cD (fun h64=>?_) fun h64=>?_
 refine Vo3 ?_
 exact⟨(⟨[],[],[]⟩,_),Y06,rfl⟩
 refine Vh0 ?_
 refine⟨_,lessA,(fun h=>by omega),_,hasA⟩
 rw[h52]
 replace h52:=of_decide_eq_false h52
 refine Vk0 ?_
 refine Vn0 ?_
 refine Ve4 ?_
 refine⟨_,lessA,(fun h=>by omega),_,hasA⟩
 rintro _ ⟨hcr,m0,rfl⟩
 have hst2:c.op≠6→c.op≠7→1≤c.stop∧c.stop≤I.stops.length:=fun h6 h7=>by
   rcases hst with h | h | h
   · exact absurd h h6
   · exact absurd h h7
   · simpa only[isStop,Ye0,decide_eq_true_eq] using h
 refine Vc ?_
 refine Vt0 ?_
 refine Vj ?_
 refine VgE ?_
 refine Vn ?_
 refine Vg1 ?_
 refine Vj ?_
 refine Yg6 YfX rfl (Frz.aggc (by exact YfY rfl) (Frz.aggc (by exact Frz.pure rfl) (Frz.aggn))) (Y5N p hpo _ hxy) rfl rfl (fun _=>rfl) ?_
 refine Vu2 ?_
 refine Vn ?_
 refine Vv1 ?_
 intro g77
 refine Vy ?_
 refine Ygk YfX (fun st=>∃ L:List (Int × List Int),((c.op=1∨c.op=3)∧∀ q∈L,q.2.length≤100)∧∃ m0,st=⟨(updS (updS (updS (updS (updS (updS (updS (updS (updS (fun _=>LV.undef) 2 (.int .i64 who)) 4 (.ref 256 g4 0 0)) 5 (.ref 320 g5 0 0)) 7 (.ref 448 g7 0 0)) 8 (.ref 512 g8 0 0)) 9 (.int .i64 0)) 10 (.ref 640 g10 0 0)) 11 (.int .i64 (mate I.pairs c.stop))) 14 (.mref 4928 g77)),effM m0 [(256,⟨g4,false,.var,4,[ic I]⟩),(320,⟨g5,false,.var,7,[kp p]⟩),(448,⟨g7,false,.var,8,[kc c]⟩),(512,⟨g8,false,.var,3,[[.nils,.nils,.nils]]⟩),(640,⟨g10,false,.var,3,[[.nils,.nils,.nils]]⟩),(4928,⟨g77,false,.mp,2,em2 L⟩)]⟩) ?_ ?_
 refine Vc ?_
 refine Vc0 ?_
 refine Vs2 ?_
 refine Vr ?_
 refine cD (fun h95=>?_) fun h95=>?_
 refine VfC ?_
 refine cD (fun h98=>?_) fun h98=>?_
 refine VnE ?_
 refine VoD ?_
 refine VkF ?_
 exact⟨(⟨[],[],[]⟩,_),Y06,rfl⟩
 refine Vw7 ?_
 refine⟨_,lessA,[],⟨.inl (by omega),fun q hq=>by cases hq⟩,_,hasA⟩
 refine Vz8 ?_
 refine cD (fun h100=>?_) fun h100=>?_
 refine Vl1 ?_
 refine cD (fun h100=>?_) fun h100=>?_
 refine Vg0 ?_
 refine Vk ?_
 refine cD (fun h104=>?_) fun h104=>?_
 refine Va8 ?_
 exact⟨(⟨[],[],[]⟩,_),Y06,rfl⟩
 refine Vh ?_
 have hx100:=hr100 _ (Y02 (l:=p.routes) (j:=x.toNat) (by omega))
 have hl1:=Y0z (p.routes.getD x.toNat default) c.stop
 have hl2:=Y0z (withoutL (p.routes.getD x.toNat default) c.stop) (mate I.pairs c.stop)
 have hLt:∀ q∈rput x (withoutL (withoutL (p.routes.getD x.toNat default) c.stop) (mate I.pairs c.stop)) [],q.2.length≤1000:=Y0k (Q:=fun l=>l.length≤1000) (by omega) fun p hp=>by cases hp
 refine Vq4 ?_
 refine Vc0 ?_
 refine Vn4 ?_
 refine Vj ?_
 refine VlL ?_
 refine Va ?_
 refine VmL ?_
 refine GL.putM2 YfX (L:=[]) rfl rfl rfl rfl rfl rfl rfl rfl rfl rfl rfl ?_
 refine Vx0 ?_
 refine Vc ?_
 refine Vc0 ?_
 refine Vk ?_
 refine cD (fun h120=>?_) fun h120=>?_
 refine Vc ?_
 refine Vs4 ?_
 refine Vg ?_
 refine VuC ?_
 refine Vj8 ?_
 refine VhN ?_
 refine Vf7 ?_
 exact⟨toldR I p who _,Y1C hcI hp who hLt,rfl⟩
 refine Vw7 ?_
 refine⟨_,(YfZ (YfV (YfV (YfV (YfV (YfV (YfV (YfV (YfV (YfV (Yg0 _) rfl) rfl) rfl) rfl) rfl) rfl) rfl) rfl) rfl) _),_,⟨.inr (by omega),Y0k (Q:=fun l=>l.length≤100) (by omega) fun p hp=>by cases hp⟩,_,(congrArg (St.mk _) (Y01 (YfW rfl (YfW rfl (YfW rfl (YfW rfl (YfW rfl (YfW rfl Yg3))))))).symm)⟩
 refine Vr ?_
 refine cD (fun h128=>?_) fun h128=>?_
 refine Vd1 ?_
 refine Vj ?_
 refine Vj ?_
 refine VpF ?_
 refine Vh4 ?_
 refine Vk ?_
 refine cB (fun h136=>?_) fun h136=>?_
 refine Va8 ?_
 exact⟨(⟨[],[],[]⟩,_),Y06,rfl⟩
 refine Vf0 ?_
 refine Vt8 ?_
 refine Ve6 ?_
 refine VnL ?_
 intro g142
 refine VuA ?_
 refine VqF ?_
 exact⟨(⟨[],[⟨c.stop,-1,who⟩],[]⟩,0),Y2N _ _ _ (by omega),rfl⟩
 refine Vr ?_
 refine cD (fun h144=>?_) fun h144=>?_
 refine Vd1 ?_
 refine Vj ?_
 refine Vj ?_
 refine VpF ?_
 refine Vh4 ?_
 refine Vf2 ?_
 refine cB (fun h153=>?_) fun h153=>?_
 refine Va8 ?_
 exact⟨(⟨[],[],[]⟩,_),Y06,rfl⟩
 refine Vf0 ?_
 refine Vt8 ?_
 refine Ve6 ?_
 refine VoL ?_
 intro g159
 refine VuA ?_
 refine VqF ?_
 exact⟨(⟨[],[⟨c.stop,who,-1⟩],[]⟩,0),Y2N _ _ _ (by omega),rfl⟩
 refine Vr ?_
 refine cD (fun h161=>?_) fun h161=>?_
 refine Vd1 ?_
 refine Vl0 ?_
 refine Vl0 ?_
 refine VpF ?_
 refine Vh4 ?_
 refine Vk ?_
 refine cB (fun h169=>?_) fun h169=>?_
 refine Va8 ?_
 exact⟨(⟨[],[],[]⟩,_),Y06,rfl⟩
 refine Vf0 ?_
 refine Vl0 ?_
 refine Va ?_
 refine Ve6 ?_
 refine VpL ?_
 intro g175
 refine VuA ?_
 refine VrF ?_
 exact⟨(⟨[],[],[⟨c.car,-1,who⟩]⟩,0),Y3W _ _ _ (by omega),rfl⟩
 refine Vd1 ?_
 refine Vl0 ?_
 refine Vl0 ?_
 refine VpF ?_
 refine Vh4 ?_
 refine Vf2 ?_
 refine cB (fun h87=>?_) fun h87=>?_
 refine Va8 ?_
 exact⟨(⟨[],[],[]⟩,_),Y06,rfl⟩
 refine Vf0 ?_
 refine Vl0 ?_
 refine Va ?_
 refine Ve6 ?_
 refine VqL ?_
 intro g93
 refine VuA ?_
 refine VrF ?_
 exact⟨(⟨[],[],[⟨c.car,who,-1⟩]⟩,0),Y3W _ _ _ (by omega),rfl⟩
 refine VvA ?_
 refine cD (fun h100=>?_) fun h100=>?_
 refine Vg0 ?_
 refine Vk ?_
 refine cD (fun h104=>?_) fun h104=>?_
 refine Va8 ?_
 exact⟨(⟨[],[],[]⟩,_),Y06,rfl⟩
 refine Vh ?_
 have hx100:=hr100 _ (Y02 (l:=p.routes) (j:=x.toNat) (by omega))
 have hl1:=Y0z (p.routes.getD x.toNat default) c.stop
 have hl2:=Y0z (withoutL (p.routes.getD x.toNat default) c.stop) (mate I.pairs c.stop)
 have hLt:∀ q∈rput x (withoutL (withoutL (p.routes.getD x.toNat default) c.stop) (mate I.pairs c.stop)) [],q.2.length≤1000:=Y0k (Q:=fun l=>l.length≤1000) (by omega) fun p hp=>by cases hp
 refine Vq4 ?_
 refine Vc0 ?_
 refine Vn4 ?_
 refine Vj ?_
 refine VlL ?_
 refine Va ?_
 refine VmL ?_
 refine GL.putM2 YfX (L:=[]) rfl rfl rfl rfl rfl rfl rfl rfl rfl rfl rfl ?_
 refine Vx0 ?_
 refine Vc ?_
 refine Vc0 ?_
 refine Vk ?_
 refine cD (fun h120=>?_) fun h120=>?_
 refine Vc ?_
 refine Vs4 ?_
 refine Vg ?_
 refine VuC ?_
 refine Vj8 ?_
 refine VhN ?_
 refine Vf7 ?_
 exact⟨toldR I p who _,Y1C hcI hp who hLt,rfl⟩
 refine Vw7 ?_
 refine⟨_,(YfZ (YfV (YfV (YfV (YfV (YfV (YfV (YfV (YfV (YfV (Yg0 _) rfl) rfl) rfl) rfl) rfl) rfl) rfl) rfl) rfl) _),_,⟨.inr (by omega),Y0k (Q:=fun l=>l.length≤100) (by omega) fun p hp=>by cases hp⟩,_,(congrArg (St.mk _) (Y01 (YfW rfl (YfW rfl (YfW rfl (YfW rfl (YfW rfl (YfW rfl Yg3))))))).symm)⟩
 refine Vr ?_
 refine cD (fun h128=>?_) fun h128=>?_
 refine Vd1 ?_
 refine Vj ?_
 refine Vj ?_
 refine Vl7 ?_
 refine Vk ?_
 refine cB (fun h136=>?_) fun h136=>?_
 refine Va8 ?_
 exact⟨(⟨[],[],[]⟩,_),Y06,rfl⟩
 refine Vf0 ?_
 refine Vt8 ?_
 refine Ve6 ?_
 refine VnL ?_
 intro g142
 refine VuA ?_
 refine VqF ?_
 exact⟨(⟨[],[⟨c.stop,-1,who⟩],[]⟩,0),Y2N _ _ _ (by omega),rfl⟩
 refine Vr ?_
 refine cD (fun h144=>?_) fun h144=>?_
 refine Vd1 ?_
 refine Vj ?_
 refine Vj ?_
 refine Vl7 ?_
 refine Vf2 ?_
 refine cB (fun h153=>?_) fun h153=>?_
 refine Va8 ?_
 exact⟨(⟨[],[],[]⟩,_),Y06,rfl⟩
 refine Vf0 ?_
 refine Vt8 ?_
 refine Ve6 ?_
 refine VoL ?_
 intro g159
 refine VuA ?_
 refine VqF ?_
 exact⟨(⟨[],[⟨c.stop,who,-1⟩],[]⟩,0),Y2N _ _ _ (by omega),rfl⟩
 refine Vr ?_
 refine cD (fun h161=>?_) fun h161=>?_
 refine Vd1 ?_
 refine Vl0 ?_
 refine Vl0 ?_
 refine Vl7 ?_
 refine Vk ?_
 refine cB (fun h169=>?_) fun h169=>?_
 refine Va8 ?_
 exact⟨(⟨[],[],[]⟩,_),Y06,rfl⟩
 refine Vf0 ?_
 refine Vl0 ?_
 refine Va ?_
 refine Ve6 ?_
 refine VpL ?_
 intro g175
 refine VuA ?_
 refine VrF ?_
 exact⟨(⟨[],[],[⟨c.car,-1,who⟩]⟩,0),Y3W _ _ _ (by omega),rfl⟩
 refine Vd1 ?_
 refine Vl0 ?_
 refine Vl0 ?_
 refine Vl7 ?_
 refine Vf2 ?_
 refine cB (fun h87=>?_) fun h87=>?_
 refine Va8 ?_
 exact⟨(⟨[],[],[]⟩,_),Y06,rfl⟩
 refine Vf0 ?_
 refine Vl0 ?_
 refine Va ?_
 refine Ve6 ?_
 refine VqL ?_
 intro g93
 refine VuA ?_
 refine VrF ?_
 exact⟨(⟨[],[],[⟨c.car,who,-1⟩]⟩,0),Y3W _ _ _ (by omega),rfl⟩
 rintro _ ⟨L,⟨h13,hL⟩,m0,rfl⟩
 refine Ygk YfX (fun st=>((mate I.pairs c.stop)>0→0≤c.mate)∧∃ m0,st=⟨(updS (updS (updS (updS (updS (updS (updS (updS (updS (fun _=>LV.undef) 2 (.int .i64 who)) 4 (.ref 256 g4 0 0)) 5 (.ref 320 g5 0 0)) 7 (.ref 448 g7 0 0)) 8 (.ref 512 g8 0 0)) 9 (.int .i64 0)) 10 (.ref 640 g10 0 0)) 11 (.int .i64 (mate I.pairs c.stop))) 14 (.mref 4928 g77)),effM m0 [(256,⟨g4,false,.var,4,[ic I]⟩),(320,⟨g5,false,.var,7,[kp p]⟩),(448,⟨g7,false,.var,8,[kc c]⟩),(512,⟨g8,false,.var,3,[[.nils,.nils,.nils]]⟩),(640,⟨g10,false,.var,3,[[.nils,.nils,.nils]]⟩),(4928,⟨g77,false,.mp,2,em2 L⟩)]⟩) ?_ ?_
 refine Vp ?_
 refine Vu ?_
 refine Vs6 ?_
 refine Vu ?_
 refine Vm ?_
 refine Yg1 183 rfl (fun h183=>?_) (fun h183=>?_)
 rw[h183]
 refine Vz ?_
 refine Vu0 ?_
 refine Vf5 ?_
 refine Vo3 ?_
 exact⟨(⟨[],[],[]⟩,_),Y06,rfl⟩
 rw[h183]
 refine Vl6 ?_
 refine Vo8 ?_
 refine Yg1 186 rfl (fun h186=>?_) (fun h186=>?_)
 rw[h186]
 replace h186:=of_decide_eq_true h186
 refine Vb ?_
 refine Vt0 ?_
 refine Vq7 ?_
 refine VrL ?_
 refine Vl3 ?_
 refine ViI ?_
 refine Ygb rfl (fun h193=>?_) (fun h193=>?_)
 refine Vo3 ?_
 exact⟨(⟨[],[],[]⟩,_),Y06,rfl⟩
 refine Vh0 ?_
 refine⟨_,lessA,(fun h=>by first | omega | (simp only[h183a,bne_iff_ne,ne_eq,decide_eq_true_eq] at *;omega) | (have h5:=h183;rw[decide_eq_true h] at h5;simpa using h5)),_,hasA⟩
 rw[h186]
 replace h186:=of_decide_eq_false h186
 refine Vu0 ?_
 refine Vf1 ?_
 refine Ve4 ?_
 refine⟨_,lessA,(fun h=>by first | omega | (simp only[h183a,bne_iff_ne,ne_eq,decide_eq_true_eq] at *;omega) | (have h5:=h183;rw[decide_eq_true h] at h5;simpa using h5)),_,hasA⟩
 rintro _ ⟨hpm,m0,rfl⟩
 refine Ve ?_
 rcases (show rlook c.car L=none∨∃ l,rlook c.car L=some l by cases rlook c.car L <;> simp) with ho | ⟨l,ho⟩
 refine Vl ?_
 refine Vl0 ?_
 refine VlF ?_
 refine Vu2 ?_
 refine Vy ?_
 refine Ygk YfX (fun st=>∃ r:List Int,(r.length≤100)∧∃ m0,st=⟨(updS (updS (updS (updS (updS (updS (updS (updS (updS (updS (fun _=>LV.undef) 2 (.int .i64 who)) 4 (.ref 256 g4 0 0)) 5 (.ref 320 g5 0 0)) 7 (.ref 448 g7 0 0)) 8 (.ref 512 g8 0 0)) 9 (.int .i64 0)) 10 (.ref 640 g10 0 0)) 11 (.int .i64 (mate I.pairs c.stop))) 14 (.mref 4928 g77)) 15 (.sl (em ni r))),effM m0 [(256,⟨g4,false,.var,4,[ic I]⟩),(320,⟨g5,false,.var,7,[kp p]⟩),(448,⟨g7,false,.var,8,[kc c]⟩),(512,⟨g8,false,.var,3,[[.nils,.nils,.nils]]⟩),(640,⟨g10,false,.var,3,[[.nils,.nils,.nils]]⟩),(4928,⟨g77,false,.mp,2,em2 L⟩)]⟩) ?_ ?_
 refine Vp ?_
 refine Vb1 ?_
 refine Vp2 ?_
 have hcar:=hcr (by omega)
 have hc100:=hr100 _ (Y02 (l:=p.routes) (j:=c.car.toNat) (by omega))
 refine Vf ?_
 refine VxB ?_
 refine Vl7 ?_
 refine Va0 ?_
 refine⟨_,(YfZ (YfV (YfV (YfV (YfV (YfV (YfV (YfV (YfV (YfV (YfV (Yg0 _) rfl) rfl) rfl) rfl) rfl) rfl) rfl) rfl) rfl) rfl) _),_,(by exact hc100),_,(congrArg (St.mk _) (Y01 (YfW rfl (YfW rfl (YfW rfl (YfW rfl (YfW rfl (YfW rfl Yg3))))))).symm)⟩
 rintro _ ⟨r,hr,m0,rfl⟩
 refine Vd1 ?_
 refine VwA ?_
 refine Vv2 ?_
 refine cD (fun h214=>?_) fun h214=>?_
 refine Vo3 ?_
 exact⟨(⟨[],[],[]⟩,_),Y06,rfl⟩
 refine Vu1 ?_
 refine Vu3 ?_
 refine Vj ?_
 refine VsL ?_
 intro g221
 refine VtL ?_
 refine Vy ?_
 refine Ygk YfX (fun st=>∃ r2:List Int,(r2.length≤200)∧∃ m0,st=⟨(updS (updS (updS (updS (updS (updS (updS (updS (updS (updS (fun _=>LV.undef) 2 (.int .i64 who)) 4 (.ref 256 g4 0 0)) 5 (.ref 320 g5 0 0)) 7 (.ref 448 g7 0 0)) 8 (.ref 512 g8 0 0)) 9 (.int .i64 0)) 10 (.ref 640 g10 0 0)) 11 (.int .i64 (mate I.pairs c.stop))) 14 (.mref 4928 g77)) 15 (.sl (em ni r2))),effM m0 [(256,⟨g4,false,.var,4,[ic I]⟩),(320,⟨g5,false,.var,7,[kp p]⟩),(448,⟨g7,false,.var,8,[kc c]⟩),(512,⟨g8,false,.var,3,[[.nils,.nils,.nils]]⟩),(640,⟨g10,false,.var,3,[[.nils,.nils,.nils]]⟩),(4928,⟨g77,false,.mp,2,em2 L⟩)]⟩) ?_ ?_
 refine VfC ?_
 refine cD (fun h224=>?_) fun h224=>?_
 refine Vd1 ?_
 refine Vs6 ?_
 refine Va ?_
 refine Vv2 ?_
 refine cD (fun h229=>?_) fun h229=>?_
 refine VnE ?_
 refine VlC ?_
 refine VeG ?_
 exact⟨(⟨[],[],[]⟩,_),Y06,rfl⟩
 refine VkA ?_
 refine Vs6 ?_
 refine Va ?_
 refine VuL ?_
 intro g235
 refine VvL ?_
 refine Va0 ?_
 refine⟨_,(YfZ (YfV (YfV (YfV (YfV (YfV (YfV (YfV (YfV (YfV (YfV (Yg0 _) rfl) rfl) rfl) rfl) rfl) rfl) rfl) rfl) rfl) rfl) _),_,(by simp only[Y0r,Yer];omega),_,(congrArg (St.mk _) (Y01 (YfW rfl (YfW rfl (YfW rfl (YfW rfl (YfW rfl (YfW rfl Yg3))))))).symm)⟩
 refine Vh0 ?_
 refine⟨_,(YfZ (YfV (YfV (YfV (YfV (YfV (YfV (YfV (YfV (YfV (YfV (Yg0 _) rfl) rfl) rfl) rfl) rfl) rfl) rfl) rfl) rfl) rfl) _),_,(by simp only[Y0r,Yer];omega),_,(congrArg (St.mk _) (Y01 (YfW rfl (YfW rfl (YfW rfl (YfW rfl (YfW rfl (YfW rfl Yg3))))))).symm)⟩
 rintro _ ⟨r2,hr2,m0,rfl⟩
 refine Ve ?_
 have hLt:∀ q∈rput c.car r2 L,q.2.length≤1000:=Y0k (Q:=fun l=>l.length≤1000) (by omega) fun q hq=>Ye5 (hL q hq) (by decide)
 have hLw:∀ q∈rput c.car r2 L,q.2.length≤1000000:=fun q hq=>Ye5 (hLt q hq) (by decide)
 refine Vl ?_
 refine Vl0 ?_
 refine Va ?_
 refine GL.putM2 YfX (L:=L) rfl rfl rfl rfl rfl rfl rfl rfl rfl rfl rfl ?_
 refine Vi5 ?_
 refine Vc0 ?_
 refine Vm ?_
 refine Yg1 244 rfl (fun h244=>?_) (fun h244=>?_)
 rw[h244]
 replace h244:=of_decide_eq_true h244
 refine Vb ?_
 refine Vg1 ?_
 refine Vi ?_
 refine VwL ?_
 refine Vb ?_
 refine VxL ?_
 refine Vk4 ?_
 refine cD (fun h249=>?_) fun h249=>?_
 refine Vo3 ?_
 exact⟨(⟨[],[],[]⟩,_),Y06,rfl⟩
 refine Vf0 ?_
 refine Vs4 ?_
 refine Vg ?_
 refine VuC ?_
 refine Vj8 ?_
 refine ViB ?_
 refine Vu4 ?_
 refine Vf7 ?_
 exact⟨toldR I p who _,Y1C hcI hp who hLt,rfl⟩
 rw[h244]
 replace h244:=of_decide_eq_false h244
 refine Vz ?_
 refine Vc2 ?_
 refine Vf0 ?_
 refine Vs4 ?_
 refine Vg ?_
 refine VuC ?_
 refine Vj8 ?_
 refine ViB ?_
 refine Vu4 ?_
 refine Vf7 ?_
 exact⟨toldR I p who _,Y1C hcI hp who hLt,rfl⟩
 refine Vl ?_
 refine Vl0 ?_
 refine VlF ?_
 refine Vu2 ?_
 refine Vy ?_
 refine Ygk YfX (fun st=>∃ r:List Int,(r.length≤100)∧∃ m0,st=⟨(updS (updS (updS (updS (updS (updS (updS (updS (updS (updS (fun _=>LV.undef) 2 (.int .i64 who)) 4 (.ref 256 g4 0 0)) 5 (.ref 320 g5 0 0)) 7 (.ref 448 g7 0 0)) 8 (.ref 512 g8 0 0)) 9 (.int .i64 0)) 10 (.ref 640 g10 0 0)) 11 (.int .i64 (mate I.pairs c.stop))) 14 (.mref 4928 g77)) 15 (.sl (em ni r))),effM m0 [(256,⟨g4,false,.var,4,[ic I]⟩),(320,⟨g5,false,.var,7,[kp p]⟩),(448,⟨g7,false,.var,8,[kc c]⟩),(512,⟨g8,false,.var,3,[[.nils,.nils,.nils]]⟩),(640,⟨g10,false,.var,3,[[.nils,.nils,.nils]]⟩),(4928,⟨g77,false,.mp,2,em2 L⟩)]⟩) ?_ ?_
 refine Vp ?_
 refine Vb1 ?_
 refine Vw1 ?_
 refine Vh0 ?_
 refine⟨_,(YfZ (YfV (YfV (YfV (YfV (YfV (YfV (YfV (YfV (YfV (YfV (Yg0 _) rfl) rfl) rfl) rfl) rfl) rfl) rfl) rfl) rfl) rfl) _),_,(by exact hL _ (Y0P ho)),_,(congrArg (St.mk _) (Y01 (YfW rfl (YfW rfl (YfW rfl (YfW rfl (YfW rfl (YfW rfl Yg3))))))).symm)⟩
 rintro _ ⟨r,hr,m0,rfl⟩
 refine Vd1 ?_
 refine VwA ?_
 refine Vv2 ?_
 refine cD (fun h214=>?_) fun h214=>?_
 refine Vo3 ?_
 exact⟨(⟨[],[],[]⟩,_),Y06,rfl⟩
 refine Vu1 ?_
 refine Vu3 ?_
 refine Vj ?_
 refine VsL ?_
 intro g221
 refine VtL ?_
 refine Vy ?_
 refine Ygk YfX (fun st=>∃ r2:List Int,(r2.length≤200)∧∃ m0,st=⟨(updS (updS (updS (updS (updS (updS (updS (updS (updS (updS (fun _=>LV.undef) 2 (.int .i64 who)) 4 (.ref 256 g4 0 0)) 5 (.ref 320 g5 0 0)) 7 (.ref 448 g7 0 0)) 8 (.ref 512 g8 0 0)) 9 (.int .i64 0)) 10 (.ref 640 g10 0 0)) 11 (.int .i64 (mate I.pairs c.stop))) 14 (.mref 4928 g77)) 15 (.sl (em ni r2))),effM m0 [(256,⟨g4,false,.var,4,[ic I]⟩),(320,⟨g5,false,.var,7,[kp p]⟩),(448,⟨g7,false,.var,8,[kc c]⟩),(512,⟨g8,false,.var,3,[[.nils,.nils,.nils]]⟩),(640,⟨g10,false,.var,3,[[.nils,.nils,.nils]]⟩),(4928,⟨g77,false,.mp,2,em2 L⟩)]⟩) ?_ ?_
 refine VfC ?_
 refine cD (fun h224=>?_) fun h224=>?_
 refine Vd1 ?_
 refine Vs6 ?_
 refine Va ?_
 refine Vv2 ?_
 refine cD (fun h229=>?_) fun h229=>?_
 refine VnE ?_
 refine VlC ?_
 refine VeG ?_
 exact⟨(⟨[],[],[]⟩,_),Y06,rfl⟩
 refine VkA ?_
 refine Vs6 ?_
 refine Va ?_
 refine VuL ?_
 intro g235
 refine VvL ?_
 refine Va0 ?_
 refine⟨_,(YfZ (YfV (YfV (YfV (YfV (YfV (YfV (YfV (YfV (YfV (YfV (Yg0 _) rfl) rfl) rfl) rfl) rfl) rfl) rfl) rfl) rfl) rfl) _),_,(by simp only[Y0r,Yer];omega),_,(congrArg (St.mk _) (Y01 (YfW rfl (YfW rfl (YfW rfl (YfW rfl (YfW rfl (YfW rfl Yg3))))))).symm)⟩
 refine Vh0 ?_
 refine⟨_,(YfZ (YfV (YfV (YfV (YfV (YfV (YfV (YfV (YfV (YfV (YfV (Yg0 _) rfl) rfl) rfl) rfl) rfl) rfl) rfl) rfl) rfl) rfl) _),_,(by simp only[Y0r,Yer];omega),_,(congrArg (St.mk _) (Y01 (YfW rfl (YfW rfl (YfW rfl (YfW rfl (YfW rfl (YfW rfl Yg3))))))).symm)⟩
 rintro _ ⟨r2,hr2,m0,rfl⟩
 refine Ve ?_
 have hLt:∀ q∈rput c.car r2 L,q.2.length≤1000:=Y0k (Q:=fun l=>l.length≤1000) (by omega) fun q hq=>Ye5 (hL q hq) (by decide)
 have hLw:∀ q∈rput c.car r2 L,q.2.length≤1000000:=fun q hq=>Ye5 (hLt q hq) (by decide)
 refine Vl ?_
 refine Vl0 ?_
 refine Va ?_
 refine GL.putM2 YfX (L:=L) rfl rfl rfl rfl rfl rfl rfl rfl rfl rfl rfl ?_
 refine Vi5 ?_
 refine Vc0 ?_
 refine Vm ?_
 refine Yg1 244 rfl (fun h244=>?_) (fun h244=>?_)
 rw[h244]
 replace h244:=of_decide_eq_true h244
 refine Vb ?_
 refine Vg1 ?_
 refine Vi ?_
 refine VwL ?_
 refine Vb ?_
 refine VxL ?_
 refine Vk4 ?_
 refine cD (fun h249=>?_) fun h249=>?_
 refine Vo3 ?_
 exact⟨(⟨[],[],[]⟩,_),Y06,rfl⟩
 refine Vf0 ?_
 refine Vs4 ?_
 refine Vg ?_
 refine VuC ?_
 refine Vj8 ?_
 refine ViB ?_
 refine Vu4 ?_
 refine Vf7 ?_
 exact⟨toldR I p who _,Y1C hcI hp who hLt,rfl⟩
 rw[h244]
 replace h244:=of_decide_eq_false h244
 refine Vz ?_
 refine Vc2 ?_
 refine Vf0 ?_
 refine Vs4 ?_
 refine Vg ?_
 refine VuC ?_
 refine Vj8 ?_
 refine ViB ?_
 refine Vu4 ?_
 refine Vf7 ?_
 exact⟨toldR I p who _,Y1C hcI hp who hLt,rfl⟩
theorem YaV {ρ:Operand→LV}{d:Nat}{x:Operand}{k:IntKind}{n:Int}{a:Nat}(hx:ρ x=.int k n)(h0:0≤n)(ha:n.toNat=a): bndL ρ d (some x)=some a:=by simp only[bndL,hx,h0,if_true,ha]
def nstr (s:ByteArray): List LV:=[.str s]
theorem YbA (bs:ByteArray): ∀ (n i:Nat) (r:List UInt8),bs.size - i=n→(ByteArray.toList.loop bs i r).length=r.length+n:=by
 intro n
 induction n with
 | zero =>
   intro i r h
   unfold ByteArray.toList.loop
   rw[if_neg (by omega),List.length_reverse]
   rfl
 | succ n ih =>
   intro i r h
   unfold ByteArray.toList.loop
   rw[if_pos (by omega),ih _ _ (by omega),Yen]
   omega
theorem Y59 (bs:ByteArray): bs.toList.length=bs.size:=by
 unfold ByteArray.toList
 rw[YbA bs _ 0 [] rfl]
 simp
theorem Y8n (s:ByteArray): (s.toList == (ByteArray.mk #[]).toList)=decide (s.size=0):=by
 have h0:(ByteArray.mk #[]).toList=[]:=Yeo (Y59 _)
 rw[h0,← Y59 s]
 cases s.toList with
 | nil=>rfl
 | cons x r=>rfl
def digD (m:Int): Int:=if m.tmod 10<0 then IntKind.i64.wrap (0 - m.tmod 10) else m.tmod 10
def digs:ByteArray:=ByteArray.mk #[48,49,50,51,52,53,54,55,56,57]
def digGo:Nat→Int→ByteArray→ByteArray
 | 0,_,s=>s
 | k+1,m,s=>if m≠0∨s.size=0 then digGo k (m.tdiv 10) (digs.extract (digD m).toNat (digD m+1).toNat++s) else s
def digS (n:Int): ByteArray:=if n<0 then ByteArray.mk #[45]++digGo (n.natAbs+2) n (ByteArray.mk #[]) else digGo (n.natAbs+2) n (ByteArray.mk #[])
theorem tmod10 (m:Int): -9≤m.tmod 10∧m.tmod 10≤9:=by
 rw[Int.tmod_eq_emod]
 split <;> omega
theorem Y7F (m:Int): 0≤digD m∧digD m≤9:=by
 have:=tmod10 m
 unfold digD
 split
 rw[wrap_i64 (by omega) (by omega)];omega
 omega
theorem tdiv10 (m:Int): (m.tdiv 10).natAbs=m.natAbs / 10:=by rw[Int.natAbs_tdiv];rfl
theorem Y4n (m:Int): (digs.extract (digD m).toNat (digD m+1).toNat).size=1:=by
 have:=Y7F m
 rw[ByteArray.size_extract,show digs.size=10 from rfl]
 omega
theorem Y5u {m:Int}{z:Nat}(h:m.natAbs<10 ^ (20 - z))(hz:z≤20)(hc:m≠0∨z=0): z+1≤20∧(m.tdiv 10).natAbs<10 ^ (20 - (z+1)):=by
 rw[tdiv10]
 have hz2:z<20:=by
   rcases Nat.lt_or_ge z 20 with h1 | h1
   · exact h1
   · obtain rfl:z=20:=by omega
     simp at h
     omega
 refine⟨by omega,?_⟩
 rw[show 20 - z=(20 - (z+1))+1 by omega,Nat.pow_succ] at h
 omega
theorem Y8j:∀ (k:Nat) (m:Int) (s:ByteArray),m.natAbs<10 ^ (20 - s.size)→s.size≤20→(digGo k m s).size≤20
 | 0,m,s,_,h=>h
 | k+1,m,s,h1,h2=>by
   rw[digGo]
   split
   · rename_i hc
     obtain⟨g1,g2⟩:=Y5u h1 h2 hc
     have e:(digs.extract (digD m).toNat (digD m+1).toNat++s).size=s.size+1:=by rw[ByteArray.size_append,Y4n];omega
     exact Y8j k _ _ (by rw[e];exact g2) (by rw[e];exact g1)
   · exact h2
theorem Y0F {n:Int}(h:In n): (digS n).size≤21:=by
 have h1:=Y8j (n.natAbs+2) n (ByteArray.mk #[]) (by show n.natAbs<100000000000000000000;unfold In at h;omega) (Ye1 _)
 unfold digS
 split
 rw[ByteArray.size_append]
 show 1+_≤21
 omega
 omega
theorem Y6p {k:Nat}{m:Int}{s:ByteArray}(h1:m=0)(h2:¬ s.size=0): digGo k m s=s:=by
 cases k with
 | zero=>rfl
 | succ k=>rw[digGo,if_neg (by omega)]
theorem Y9O {m:Int}(h:In m): In (m.tdiv 10):=by
 have:=tdiv10 m
 unfold In at h ⊢
 omega
theorem Y6r (n:Int)(hn:In n): CallsV Try.prog 61 [.int .i64 n] (.str (digS n)):=by
 refine Yg2 (Yga _) mix Try.func61 rfl rfl (by simp[Try.f61]) (by kernel_rfl) (nb:=0) ?_
 unfold Try.f61
 refine Vc ?_
 refine Vn ?_
 refine Ve0 ?_
 refine Vn8 ?_
 refine Yg8 YfX (α:=Int × ByteArray × Nat) (fun ⟨m,s,k⟩ st=>(digGo (n.natAbs+2) n (ByteArray.mk #[])=digGo k m s∧m.natAbs+(if s.size=0 then 1 else 0)<k∧In m∧s.size≤20∧m.natAbs<10 ^ (20 - s.size))∧∃ m0,st=⟨(updS (updS (updS (fun _=>LV.undef) 0 (.int .i64 n)) 3 (.str s)) 4 (.int .i64 m)),effM m0 []⟩) (fun ⟨m,s,k⟩=>k) ⟨n,ByteArray.mk #[],n.natAbs+2⟩ ⟨_,lessA,⟨rfl,by show n.natAbs+1<n.natAbs+2;omega,hn,Ye1 _,by show n.natAbs<100000000000000000000;unfold In at hn;omega⟩,_,hasA⟩ ?_
 rintro⟨m,s,k⟩ _ ⟨⟨hA,hk,hIn,hz,hp⟩,m0,rfl⟩
 refine Vg0 ?_
 refine Vm ?_
 refine Yg1 9 rfl (fun h9=>?_) (fun h9=>?_)
 rw[h9]
 replace h9:=Y0H h9
 refine Vw0 ?_
 refine Vf5 ?_
 refine Vk2 ?_
 refine GL.remR YfX rfl rfl (by decide) ?_
 refine Vy ?_
 refine Ygk YfX (fun st=>∃ d:Int,(d=digD m∧(m≠0∨s.size=0))∧∃ m0,st=⟨(updS (updS (updS (updS (fun _=>LV.undef) 0 (.int .i64 n)) 3 (.str s)) 4 (.int .i64 m)) 5 (.int .i64 d)),effM m0 []⟩) ?_ ?_
 refine VfC ?_
 ·refine cD (fun h18=>?_) fun h18=>?_
  refine Vl ?_
  refine Vz6 ?_
  refine Va0 ?_
  rotate_left
  refine Vh0 ?_
  all_goals
   refine⟨_,(YfZ (YfV (YfV (YfV (YfV (Yg0 _) rfl) rfl) rfl) rfl) _),_,⟨by first | (rw[digD,if_pos h18];done) | (rw[digD,if_neg h18];done),by first | exact .inl h9 | exact .inr h12⟩,_,(congrArg (St.mk _) (Y01 Yg3).symm)⟩
 rintro _ ⟨d,⟨hd,hmz⟩,m0,rfl⟩
 have hd9:=Y7F m
 rw[← hd] at hd9
 obtain⟨gz1,gz2⟩:=Y5u hp hz hmz
 have hsz:(digs.extract d.toNat (d+1).toNat++s).size=s.size+1:=by rw[ByteArray.size_append,hd,Y4n];omega
 have hdo:(digs.extract d.toNat (d+1).toNat).size=1:=by rw[hd,Y4n]
 refine Vv0 ?_
 refine Vv ?_
 refine VyL ?_
 refine Va ?_
 refine GL.addStr YfX rfl rfl (by show (digs.extract d.toNat (d+1).toNat).size+s.size≤_;omega) ?_
 refine Va0 ?_
 refine VdN ?_
 refine GL.quoR YfX rfl rfl (by unfold In at hIn;omega) ?_
 refine Va0 ?_
 refine⟨⟨m.tdiv 10,_,k - 1⟩,(by dsimp only;omega),_,(YfZ (YfV (YfV (YfV (Yg0 _) rfl) rfl) rfl) _),⟨by rw[hA,show k=(k - 1)+1 by omega,digGo,if_pos hmz,← hd];rfl,by show (m.tdiv 10).natAbs+(if (digs.extract d.toNat (d+1).toNat++s).size=0 then 1 else 0)<k - 1;rw[hsz,if_neg (by omega),tdiv10];split at hk <;> omega,Y9O hIn,by show (digs.extract d.toNat (d+1).toNat++s).size≤20;omega,by show (m.tdiv 10).natAbs<10 ^ (20 - (digs.extract d.toNat (d+1).toNat++s).size);rw[hsz];exact gz2⟩,_,(congrArg (St.mk _) (Y01 Yg3).symm)⟩
 rw[h9]
 replace h9:=Y0s h9
 refine Vt5 ?_
 refine Ygb rfl (fun h12=>?_) (fun h12=>?_)
 rw[Y8n] at h12
 replace h12:=of_decide_eq_true h12
 refine Vk2 ?_
 refine GL.remR YfX rfl rfl (by decide) ?_
 refine Vy ?_
 refine Ygk YfX (fun st=>∃ d:Int,(d=digD m∧(m≠0∨s.size=0))∧∃ m0,st=⟨(updS (updS (updS (updS (fun _=>LV.undef) 0 (.int .i64 n)) 3 (.str s)) 4 (.int .i64 m)) 5 (.int .i64 d)),effM m0 []⟩) ?_ ?_
 refine VfC ?_
 ·refine cD (fun h18=>?_) fun h18=>?_
  refine Vl ?_
  refine Vz6 ?_
  refine Va0 ?_
  rotate_left
  refine Vh0 ?_
  all_goals
   refine⟨_,(YfZ (YfV (YfV (YfV (YfV (Yg0 _) rfl) rfl) rfl) rfl) _),_,⟨by first | (rw[digD,if_pos h18];done) | (rw[digD,if_neg h18];done),by first | exact .inl h9 | exact .inr h12⟩,_,(congrArg (St.mk _) (Y01 Yg3).symm)⟩
 rintro _ ⟨d,⟨hd,hmz⟩,m0,rfl⟩
 have hd9:=Y7F m
 rw[← hd] at hd9
 obtain⟨gz1,gz2⟩:=Y5u hp hz hmz
 have hsz:(digs.extract d.toNat (d+1).toNat++s).size=s.size+1:=by rw[ByteArray.size_append,hd,Y4n];omega
 have hdo:(digs.extract d.toNat (d+1).toNat).size=1:=by rw[hd,Y4n]
 refine Vv0 ?_
 refine Vv ?_
 refine VyL ?_
 refine Va ?_
 refine GL.addStr YfX rfl rfl (by show (digs.extract d.toNat (d+1).toNat).size+s.size≤_;omega) ?_
 refine Va0 ?_
 refine VdN ?_
 refine GL.quoR YfX rfl rfl (by unfold In at hIn;omega) ?_
 refine Va0 ?_
 refine⟨⟨m.tdiv 10,_,k - 1⟩,(by dsimp only;omega),_,(YfZ (YfV (YfV (YfV (Yg0 _) rfl) rfl) rfl) _),⟨by rw[hA,show k=(k - 1)+1 by omega,digGo,if_pos hmz,← hd];rfl,by show (m.tdiv 10).natAbs+(if (digs.extract d.toNat (d+1).toNat++s).size=0 then 1 else 0)<k - 1;rw[hsz,if_neg (by omega),tdiv10];split at hk <;> omega,Y9O hIn,by show (digs.extract d.toNat (d+1).toNat++s).size≤20;omega,by show (m.tdiv 10).natAbs<10 ^ (20 - (digs.extract d.toNat (d+1).toNat++s).size);rw[hsz];exact gz2⟩,_,(congrArg (St.mk _) (Y01 Yg3).symm)⟩
 rw[Y8n] at h12
 replace h12:=of_decide_eq_false h12
 refine Vw9 ?_
 refine VfI ?_
 have hz20:=hz
 refine Vl ?_
 refine Vk ?_
 refine cD (fun h28=>?_) fun h28=>?_
 refine Vl ?_
 refine GL.addStr YfX rfl rfl (by show 1+s.size≤_;omega) ?_
 refine Vd0 ?_
 refine Vq1 ?_
 · (show LV.str _=LV.str _;rw[digS,if_pos h28,hA,Y6p h9 h12];done)
 refine Vu1 ?_
 refine Vq1 ?_
 · (show LV.str _=LV.str _;rw[digS,if_neg h28,hA,Y6p h9 h12];done)
def sp:ByteArray:=ByteArray.mk #[32]
def said1 (w:ByteArray)(x:Int): ByteArray:=w++(sp++digS x)
def saidS (w:ByteArray)(l:List Int): ByteArray:=l.foldl said1 w
def whyL:List ByteArray:=[(ByteArray.mk #[]),(ByteArray.mk #[97,114,103]),(ByteArray.mk #[102,111,114,109]),(ByteArray.mk #[108,111,110,103]),(ByteArray.mk #[115,116,111,112]),(ByteArray.mk #[99,97,114]),(ByteArray.mk #[112,108,97,99,101]),(ByteArray.mk #[112,97,105,114]),(ByteArray.mk #[116,104,101,114,101]),(ByteArray.mk #[103,111,110,101]),(ByteArray.mk #[115,97,109,101]),(ByteArray.mk #[105,99,101,100]),(ByteArray.mk #[104,101,108,100]),(ByteArray.mk #[102,105,116]),(ByteArray.mk #[110,111,110,101]),(ByteArray.mk #[99,111,110,102,108,105,99,116]),(ByteArray.mk #[98,117,115,121])]
theorem Yc2:∀ s∈whyL,s.size≤20:=fun s hs=>of_decide_eq_true (Yed.1 (show (whyL.all fun s=>decide (s.size≤20))=true by rfl) s hs)
theorem Y4k (w0:ByteArray)(hw:w0.size≤100)(l:List Int)(hl:l.length≤1000)(hi:∀ x∈l,In x): CallsV Try.prog 91 [.str w0,.sl (em ni l)] (.str (saidS w0 l)):=by
 refine Yg2 (Yga _) mix Try.func91 rfl rfl (by simp[Try.f91]) (by kernel_rfl) (nb:=0) ?_
 unfold Try.f91
 refine Vw3 ?_
 refine Vq ?_
 refine Yg8 YfX (α:=Nat × ByteArray) (fun ⟨i,w⟩ st=>(i≤l.length∧w=(l.take i).foldl said1 w0∧w.size≤100+i*22)∧∃ m0,st=⟨(updS (updS (updS (updS (fun _=>LV.undef) 0 (.str w)) 7 (.sl (em ni l))) 8 (.int .i64 (l.length:Int))) 9 (.int .i64 (i:Int))),effM m0 []⟩) (fun ⟨i,w⟩=>l.length - i) ⟨0,w0⟩ ⟨_,lessA,⟨Ye1 _,rfl,hw⟩,_,hasA⟩ ?_
 rintro⟨i,w⟩ _ ⟨⟨hi2,hA,hS⟩,m0,rfl⟩
 refine Vd ?_
 refine cD (fun h10=>?_) fun h10=>?_
 have hx:=hi _ (Y02 (l:=l) (j:=i) (by omega))
 have hxs:=Y0F hx
 have hsx:(sp++digS (l.getD i default)).size≤22:=by rw[ByteArray.size_append];show 1+_≤22;omega
 refine Vn1 ?_
 refine Vm3 ?_
 refine Yg6 YfX rfl (Frz.aggc (by exact Frz.pure rfl) (Frz.aggn)) (Y6r _ hx) rfl rfl (fun _=>rfl) ?_
 refine GL.addStr YfX rfl rfl (by show 1+(digS _).size≤_;omega) ?_
 refine GL.addStr YfX rfl rfl (by show w.size+(sp++digS (l.getD i default)).size≤_;omega) ?_
 refine Vy2 ?_
 refine⟨⟨i+1,_⟩,(by dsimp only;omega),_,(YfZ (YfV (YfV (YfV (YfV (Yg0 _) rfl) rfl) rfl) rfl) _),⟨by omega,by rw[Y0a (by omega),YeG,← hA];rfl,by show (w++(sp++digS (l.getD i default))).size≤100+(i+1)*22;rw[ByteArray.size_append];omega⟩,_,(congrArg (St.mk _) (Y01 Yg3).symm)⟩
 refine Vh3 ?_
 refine Vq1 ?_
 show LV.str w=_
 rw[hA,YdP (by omega)]
 rfl
theorem Ydi:CallsV Try.prog 80 [] (.sl (em nstr whyL)):=by
 refine Yg2 (Yga _) mix Try.func80 rfl rfl (by simp[Try.f80]) (by kernel_rfl) (nb:=0) ?_
 unfold Try.f80
 refine Vc ?_
 refine Vn ?_
 refine Yg9 YfX (sz:=1) (z:=[LV.str { data:={ toList:=[] } }]) (es:=em nstr whyL) rfl rfl rfl rfl (by decide) (by decide) (by decide) (FrzP.cons (S:=[]) (T:=[]) (YfY rfl) rfl (by decide) rfl (FrzP.cons (S:=[]) (T:=[]) (YfY rfl) rfl (by decide) rfl (FrzP.cons (S:=[]) (T:=[]) (YfY rfl) rfl (by decide) rfl (FrzP.cons (S:=[]) (T:=[]) (YfY rfl) rfl (by decide) rfl (FrzP.cons (S:=[]) (T:=[]) (YfY rfl) rfl (by decide) rfl (FrzP.cons (S:=[]) (T:=[]) (YfY rfl) rfl (by decide) rfl (FrzP.cons (S:=[]) (T:=[]) (YfY rfl) rfl (by decide) rfl (FrzP.cons (S:=[]) (T:=[]) (YfY rfl) rfl (by decide) rfl (FrzP.cons (S:=[]) (T:=[]) (YfY rfl) rfl (by decide) rfl (FrzP.cons (S:=[]) (T:=[]) (YfY rfl) rfl (by decide) rfl (FrzP.cons (S:=[]) (T:=[]) (YfY rfl) rfl (by decide) rfl (FrzP.cons (S:=[]) (T:=[]) (YfY rfl) rfl (by decide) rfl (FrzP.cons (S:=[]) (T:=[]) (YfY rfl) rfl (by decide) rfl (FrzP.cons (S:=[]) (T:=[]) (YfY rfl) rfl (by decide) rfl (FrzP.cons (S:=[]) (T:=[]) (YfY rfl) rfl (by decide) rfl (FrzP.cons (S:=[]) (T:=[]) (YfY rfl) rfl (by decide) rfl (FrzP.cons (S:=[]) (T:=[]) (YfY rfl) rfl (by decide) rfl (FrzP.nil)))))))))))))))))) rfl ?_
 intro g1
 refine Vb2 ?_
 refine⟨_,_,_,_,.cons (.tmp rfl) .nil,.frz (Yg5 rfl rfl rfl rfl rfl),Yec,by simp,rfl⟩
theorem Ybk (s:ByteArray)(hs:s.size≤1000): CallsR Try.prog 81 [.str s] fun res=>∃ l:List ByteArray,(l.length≤1002∧∀ w∈l,w.size≤1002)∧res=.sl (em nstr l):=by
 refine Yg2 (Yga _) mix Try.func81 rfl rfl (by simp[Try.f81]) (by kernel_rfl) (nb:=0) ?_
 unfold Try.f81
 refine Vc ?_
 refine ViA ?_
 refine goWeak (Ygp (j:=3) 700001 1 rfl) ?_
 refine Vc ?_
 refine VtB ?_
 refine Yg8 YfX (α:=Nat × Nat × List ByteArray × ByteArray) (fun ⟨i,g,l,w⟩ st=>(i≤s.size+1∧l.length≤i∧w.size≤i∧∀ x∈l,x.size≤i)∧∃ m0,st=⟨(updS (updS (updS (updS (fun _=>LV.undef) 0 (.str s)) 3 (.own 700001 g 0 l.length none)) 4 (.str w)) 5 (.int .i64 (i:Int))),effM m0 [(700001,⟨g,false,.slc,1,em nstr l⟩)]⟩) (fun ⟨i,g,l,w⟩=>s.size+1 - i) ⟨0,_,[],ByteArray.mk #[]⟩ ⟨_,(YfZ (YfV (YfV (YfV (YfV (Yg0 _) rfl) rfl) rfl) rfl) _),⟨Ye1 _,Ye2 _,Ye2 _,fun x hx=>by cases hx⟩,_,(congrArg (St.mk _) (Y01 (YfW rfl Yg3)).symm)⟩ ?_
 rintro⟨i,g,l,w⟩ _ ⟨⟨hi,hl,hw,hx2⟩,m0,rfl⟩
 refine Vk5 ?_
 refine Vr3 ?_
 refine Vk ?_
 refine cD (fun h9=>?_) fun h9=>?_
 refine Ve5 ?_
 refine Vk5 ?_
 refine Vr3 ?_
 refine Vm ?_
 refine Yg1 16 rfl (fun h16=>?_) (fun h16=>?_)
 rw[h16]
 replace h16:=of_decide_eq_true h16
 refine Vg2 ?_
 refine Vi6 ?_
 refine Vi1 ?_
 refine cB (fun h21=>?_) fun h21=>?_
 refine Vp ?_
 refine Vj1 ?_
 refine Vv ?_
 refine GL.sliceStr YfX (l:=i) (h:=i+1) rfl rfl (YaV rfl (by omega) (by omega)) (YaV rfl (by omega) (by omega)) (by omega) (by omega) ?_
 refine GL.addStr YfX rfl rfl (by rw[ByteArray.size_extract];omega) ?_
 refine Vy ?_
 refine Vx7 ?_
 refine Vw8 ?_
 refine⟨⟨i+1,_,l,w++s.extract i (i+1)⟩,(by dsimp only;omega),_,(YfZ (YfV (YfV (YfV (YfV (Yg0 _) rfl) rfl) rfl) rfl) _),⟨by omega,by omega,by show (w++s.extract i (i+1)).size≤i+1;rw[ByteArray.size_append,ByteArray.size_extract];omega,fun x hx=>Ye5 (hx2 x hx) (YfI _)⟩,_,(congrArg (St.mk _) (Y01 (YfW rfl Yg3)).symm)⟩
 refine Vh ?_
 refine VfC ?_
 refine Ygb rfl (fun h30=>?_) (fun h30=>?_)
 refine Vv0 ?_
 refine VzL ?_
 intro g33
 refine VaM ?_
 refine Vy ?_
 refine Vf ?_
 refine Vq5 ?_
 refine⟨⟨i+1,_,l++[w],ByteArray.mk #[]⟩,(by dsimp only;omega),_,(YfZ (YfV (YfV (YfV (YfV (Yg0 _) rfl) (by rw[YdN];rfl)) rfl) rfl) _),⟨by omega,by rw[YdN,Yer];omega,Ye1 _,fun x hx=>(Yei.1 hx).elim (fun hx=>Ye5 (hx2 x hx) (YfI _)) (fun hx=>by rw[Yej.1 hx];exact Ye5 hw (YfI _))⟩,_,(congrArg (St.mk _) (Y01 (YfW rfl Yg3)).symm)⟩
 refine Vl1 ?_
 refine Vf ?_
 refine Vq5 ?_
 refine⟨⟨i+1,_,l,ByteArray.mk #[]⟩,(by dsimp only;omega),_,(YfZ (YfV (YfV (YfV (YfV (Yg0 _) rfl) rfl) rfl) rfl) _),⟨by omega,by omega,Ye1 _,fun x hx=>Ye5 (hx2 x hx) (YfI _)⟩,_,(congrArg (St.mk _) (Y01 (YfW rfl Yg3)).symm)⟩
 rw[h16]
 replace h16:=of_decide_eq_false h16
 refine Vz ?_
 refine Vc2 ?_
 refine Vh ?_
 refine VfC ?_
 refine Ygb rfl (fun h30=>?_) (fun h30=>?_)
 refine Vv0 ?_
 refine VzL ?_
 intro g33
 refine VaM ?_
 refine Vy ?_
 refine Vf ?_
 refine Vq5 ?_
 refine⟨⟨i+1,_,l++[w],ByteArray.mk #[]⟩,(by dsimp only;omega),_,(YfZ (YfV (YfV (YfV (YfV (Yg0 _) rfl) (by rw[YdN];rfl)) rfl) rfl) _),⟨by omega,by rw[YdN,Yer];omega,Ye1 _,fun x hx=>(Yei.1 hx).elim (fun hx=>Ye5 (hx2 x hx) (YfI _)) (fun hx=>by rw[Yej.1 hx];exact Ye5 hw (YfI _))⟩,_,(congrArg (St.mk _) (Y01 (YfW rfl Yg3)).symm)⟩
 refine Vl1 ?_
 refine Vf ?_
 refine Vq5 ?_
 refine⟨⟨i+1,_,l,ByteArray.mk #[]⟩,(by dsimp only;omega),_,(YfZ (YfV (YfV (YfV (YfV (Yg0 _) rfl) rfl) rfl) rfl) _),⟨by omega,by omega,Ye1 _,fun x hx=>Ye5 (hx2 x hx) (YfI _)⟩,_,(congrArg (St.mk _) (Y01 (YfW rfl Yg3)).symm)⟩
 refine Vb4 ?_
 refine VxG ?_
 exact⟨l,⟨by omega,fun x hx=>by have:=hx2 x hx;omega⟩,rfl⟩
theorem Ydt (s:ByteArray)(hs:s.size≤2000): CallsR Try.prog 84 [.str s] fun res=>∃ a:Int × Bool,True∧res=.tup [.int .i64 a.1,.bool a.2]:=by
 refine Yg2 (Yga _) mix Try.func84 rfl rfl (by simp[Try.f84]) (by kernel_rfl) (nb:=0) ?_
 unfold Try.f84
 refine Vc ?_
 refine Vt ?_
 refine Vd0 ?_
 refine Vr3 ?_
 refine Vm ?_
 refine Yg1 10 rfl (fun h10=>?_) (fun h10=>?_)
 rw[h10]
 replace h10:=of_decide_eq_true h10
 refine Vi ?_
 refine Vi6 ?_
 refine Vh1 ?_
 refine Vd3 ?_
 refine Vy ?_
 refine Ygk YfX (fun st=>∃ z:ByteArray × Bool,(z.1.size≤2000)∧∃ m0,st=⟨(updS (updS (fun _=>LV.undef) 0 (.str z.1)) 4 (.bool z.2)),effM m0 []⟩) ?_ ?_
 refine Vp ?_
 refine Vj0 ?_
 refine cD (fun h15=>?_) fun h15=>?_
 refine Vl ?_
 refine GL.sliceStr YfX (l:=1) (h:=s.size) rfl rfl (YaV rfl (by omega) (by omega)) rfl (by omega) (Ye2 _) ?_
 refine Va0 ?_
 refine⟨_,(YfZ (YfV (YfV (Yg0 _) rfl) rfl) _),(s.extract 1 s.size,_),(by show ByteArray.size (s.extract _ _)≤_;rw[ByteArray.size_extract];omega),_,(congrArg (St.mk _) (Y01 Yg3).symm)⟩
 refine Vh0 ?_
 refine⟨_,(YfZ (YfV (YfV (Yg0 _) rfl) rfl) _),(s,_),hs,_,(congrArg (St.mk _) (Y01 Yg3).symm)⟩
 rintro _ ⟨z,hz,m0,rfl⟩
 refine Ygk YfX (fun st=>(True)∧∃ m0,st=⟨(updS (updS (fun _=>LV.undef) 0 (.str z.1)) 4 (.bool z.2)),effM m0 []⟩) ?_ ?_
 refine Vp ?_
 refine Vr3 ?_
 refine Vm ?_
 refine Yg1 21 rfl (fun h21=>?_) (fun h21=>?_)
 rw[h21]
 replace h21:=of_decide_eq_true h21
 refine Vm1 ?_
 refine Vk0 ?_
 refine Vn0 ?_
 refine VwB ?_
 exact⟨(_,_),trivial,rfl⟩
 rw[h21]
 replace h21:=of_decide_eq_false h21
 refine Vi ?_
 refine Vr3 ?_
 refine Vo6 ?_
 refine Yg1 26 rfl (fun h26=>?_) (fun h26=>?_)
 rw[h26]
 replace h26:=of_decide_eq_true h26
 refine Vk0 ?_
 refine Vn0 ?_
 refine VwB ?_
 exact⟨(_,_),trivial,rfl⟩
 rw[h26]
 replace h26:=of_decide_eq_false h26
 refine Vi ?_
 refine Vi6 ?_
 refine Vo8 ?_
 refine Yg1 30 rfl (fun h30=>?_) (fun h30=>?_)
 rw[h30]
 replace h30:=of_decide_eq_true h30
 refine Vi ?_
 refine Vr3 ?_
 refine Vo8 ?_
 refine Yg1 34 rfl (fun h34=>?_) (fun h34=>?_)
 rw[h34]
 replace h34:=of_decide_eq_true h34
 refine VuE ?_
 refine Vf1 ?_
 refine Vf1 ?_
 refine VwB ?_
 exact⟨(_,_),trivial,rfl⟩
 rw[h34]
 replace h34:=of_decide_eq_false h34
 refine Vi ?_
 refine Vd3 ?_
 refine ViI ?_
 refine Ygb rfl (fun h38=>?_) (fun h38=>?_)
 refine Vc ?_
 refine VjI ?_
 exact⟨(_,_),trivial,rfl⟩
 refine Vh0 ?_
 refine⟨_,lessA,trivial,_,hasA⟩
 rw[h30]
 replace h30:=of_decide_eq_false h30
 refine Vz2 ?_
 refine Vf1 ?_
 refine Ve4 ?_
 refine⟨_,lessA,trivial,_,hasA⟩
 rintro _ ⟨-,m0,rfl⟩
 refine Vc ?_
 refine VtB ?_
 refine VbM ?_
 rintro⟨i,n⟩ _ ⟨hi,m0,rfl⟩
 refine Vk5 ?_
 refine Vr3 ?_
 refine Vk ?_
 refine cD (fun h42=>?_) fun h42=>?_
 refine Ve5 ?_
 refine Vk5 ?_
 refine Vi6 ?_
 refine Vm ?_
 refine Yg1 49 rfl (fun h49=>?_) (fun h49=>?_)
 rw[h49]
 replace h49:=of_decide_eq_true h49
 refine Vz ?_
 refine Vk8 ?_
 refine Vt ?_
 refine Vp6 ?_
 refine Vv4 ?_
 exact⟨(_,_),trivial,rfl⟩
 rw[h49]
 replace h49:=of_decide_eq_false h49
 refine Vg2 ?_
 refine Vi6 ?_
 refine Vi1 ?_
 refine cD (fun h54=>?_) fun h54=>?_
 refine Vc ?_
 refine Vt ?_
 refine Vp6 ?_
 refine Vv4 ?_
 exact⟨(_,_),trivial,rfl⟩
 refine VkA ?_
 refine Vu ?_
 refine Vg ?_
 refine Vi6 ?_
 refine Vu ?_
 refine VdB ?_
 refine Vu ?_
 refine Vq5 ?_
 refine⟨⟨i+1,_⟩,(by dsimp only;omega),_,(YfZ (YfV (YfV (YfV (YfV (Yg0 _) rfl) rfl) rfl) rfl) _),(by omega),_,(congrArg (St.mk _) (Y01 Yg3).symm)⟩
 refine VqA ?_
 refine Vj0 ?_
 ·refine Ygb rfl (fun h63=>?_) (fun h63=>?_)
  refine Vl ?_
  refine Vz6 ?_
  refine Va0 ?_
  rotate_left
  refine Vh0 ?_
  all_goals
   refine VqD ?_
   refine Vp ?_
   refine Vt ?_
   refine Vb2 ?_
   refine Vv4 ?_
   exact⟨(_,_),trivial,rfl⟩
 rw[h10]
 refine Vn0 ?_
 refine Vd3 ?_
 refine Vy ?_
 refine Ygk YfX (fun st=>∃ z:ByteArray × Bool,(z.1.size≤2000)∧∃ m0,st=⟨(updS (updS (fun _=>LV.undef) 0 (.str z.1)) 4 (.bool z.2)),effM m0 []⟩) ?_ ?_
 refine Vp ?_
 refine Vj0 ?_
 refine Vw1 ?_
 refine Vh0 ?_
 refine⟨_,(YfZ (YfV (YfV (Yg0 _) rfl) rfl) _),(s,_),hs,_,(congrArg (St.mk _) (Y01 Yg3).symm)⟩
 rintro _ ⟨z,hz,m0,rfl⟩
 refine Ygk YfX (fun st=>(True)∧∃ m0,st=⟨(updS (updS (fun _=>LV.undef) 0 (.str z.1)) 4 (.bool z.2)),effM m0 []⟩) ?_ ?_
 refine Vp ?_
 refine Vr3 ?_
 refine Vm ?_
 refine Yg1 21 rfl (fun h21=>?_) (fun h21=>?_)
 rw[h21]
 replace h21:=of_decide_eq_true h21
 refine Vm1 ?_
 refine Vk0 ?_
 refine Vn0 ?_
 refine VwB ?_
 exact⟨(_,_),trivial,rfl⟩
 rw[h21]
 replace h21:=of_decide_eq_false h21
 refine Vi ?_
 refine Vr3 ?_
 refine Vo6 ?_
 refine Yg1 26 rfl (fun h26=>?_) (fun h26=>?_)
 rw[h26]
 replace h26:=of_decide_eq_true h26
 refine Vk0 ?_
 refine Vn0 ?_
 refine VwB ?_
 exact⟨(_,_),trivial,rfl⟩
 rw[h26]
 replace h26:=of_decide_eq_false h26
 refine Vi ?_
 refine Vi6 ?_
 refine Vo8 ?_
 refine Yg1 30 rfl (fun h30=>?_) (fun h30=>?_)
 rw[h30]
 replace h30:=of_decide_eq_true h30
 refine Vi ?_
 refine Vr3 ?_
 refine Vo8 ?_
 refine Yg1 34 rfl (fun h34=>?_) (fun h34=>?_)
 rw[h34]
 replace h34:=of_decide_eq_true h34
 refine VuE ?_
 refine Vf1 ?_
 refine Vf1 ?_
 refine VwB ?_
 exact⟨(_,_),trivial,rfl⟩
 rw[h34]
 replace h34:=of_decide_eq_false h34
 refine Vi ?_
 refine Vd3 ?_
 refine ViI ?_
 refine Ygb rfl (fun h38=>?_) (fun h38=>?_)
 refine Vc ?_
 refine VjI ?_
 exact⟨(_,_),trivial,rfl⟩
 refine Vh0 ?_
 refine⟨_,lessA,trivial,_,hasA⟩
 rw[h30]
 replace h30:=of_decide_eq_false h30
 refine Vz2 ?_
 refine Vf1 ?_
 refine Ve4 ?_
 refine⟨_,lessA,trivial,_,hasA⟩
 rintro _ ⟨-,m0,rfl⟩
 refine Vc ?_
 refine VtB ?_
 refine VbM ?_
 rintro⟨i,n⟩ _ ⟨hi,m0,rfl⟩
 refine Vk5 ?_
 refine Vr3 ?_
 refine Vk ?_
 refine cD (fun h42=>?_) fun h42=>?_
 refine Ve5 ?_
 refine Vk5 ?_
 refine Vi6 ?_
 refine Vm ?_
 refine Yg1 49 rfl (fun h49=>?_) (fun h49=>?_)
 rw[h49]
 replace h49:=of_decide_eq_true h49
 refine Vz ?_
 refine Vk8 ?_
 refine Vt ?_
 refine Vp6 ?_
 refine Vv4 ?_
 exact⟨(_,_),trivial,rfl⟩
 rw[h49]
 replace h49:=of_decide_eq_false h49
 refine Vg2 ?_
 refine Vi6 ?_
 refine Vi1 ?_
 refine cD (fun h54=>?_) fun h54=>?_
 refine Vc ?_
 refine Vt ?_
 refine Vp6 ?_
 refine Vv4 ?_
 exact⟨(_,_),trivial,rfl⟩
 refine VkA ?_
 refine Vu ?_
 refine Vg ?_
 refine Vi6 ?_
 refine Vu ?_
 refine VdB ?_
 refine Vu ?_
 refine Vq5 ?_
 refine⟨⟨i+1,_⟩,(by dsimp only;omega),_,(YfZ (YfV (YfV (YfV (YfV (Yg0 _) rfl) rfl) rfl) rfl) _),(by omega),_,(congrArg (St.mk _) (Y01 Yg3).symm)⟩
 refine VqA ?_
 refine Vj0 ?_
 ·refine Ygb rfl (fun h63=>?_) (fun h63=>?_)
  refine Vl ?_
  refine Vz6 ?_
  refine Va0 ?_
  rotate_left
  refine Vh0 ?_
  all_goals
   refine VqD ?_
   refine Vp ?_
   refine Vt ?_
   refine Vb2 ?_
   refine Vv4 ?_
   exact⟨(_,_),trivial,rfl⟩
end Go.Proofs.Ytoadnomjbibcgaa
