/- Part 19 of 50 of the proof that TopViews returns true at every input: lemmas on the way; no condition. -/
import Derived.Test.YteacbkflfafefaaGreatDoorZ14
import Derived.Test.YteacbkflfafefaaGreatDoorZ15
namespace Go.Proofs.YteacbkflfafefaaGreatDoor
set_option linter.all false
set_option maxHeartbeats 1000000
set_option maxRecDepth 100000
namespace An
open ja
theorem Vq:∀ (a b:List (ja→Nat×ja)) (d:ja),chain (a++b) d=if(chain a d).1=0 then chain b (chain a d).2 else chain a d
 |[],b,d=>by simp[chain]
 |g::a,b,d=>by
  by_cases h:(g d).1=0
  ·rw[TU,Wd h,Wd h];exact Vq a b _
  ·rw[TU,Vd h,Vd h,DT h]
theorem Qt{a:List Bs}{k:Nat}(c:k<a.length){d:ja}(b:(Ta (a.take k) d).1=0):Ta (a.take (k+1)) d=df a[k] (Ta (a.take k) d).2:=by unfold Ta at*;rw[MU,PT c,nX,tV,Vq,JT b];exact nf _ _
theorem Pt{a:List Bs}{k:Nat}{d:ja}(h:(Ta (a.take k) d).1≠0):Ta a d=Ta (a.take k) d:=by unfold Ta at*;conv=>lhs;rw[←tU k a,tV,Vq,DT h]
theorem Nv(a b:List Bs)(d:ja):Ta (a++b) d=if(Ta a d).1=0 then Ta b (Ta a d).2 else Ta a d:=by unfold Ta;rw[tV];exact Vq _ _ _
theorem fK(a b c:ja→Nat×ja)(d:ja):chain [a,b,c] d=if(a d).1=0 then(if(b (a d).2).1=0 then c (b (a d).2).2 else b (a d).2)else a d:=by
 by_cases h:(a d).1=0
 ·rw[Wd h,JT h];by_cases k:(b (a d).2).1=0
  ·rw[Wd k,JT k,nf]
  ·rw[Vd k,DT k]
 ·rw[Vd h,DT h]
theorem eK(a b:ja→Nat×ja)(d:ja):chain [a,b] d=if(a d).1=0 then b (a d).2 else a d:=by
 by_cases h:(a d).1=0
 ·rw[Wd h,JT h,nf]
 ·rw[Vd h,DT h]
theorem xQ(a b c e:ja→Nat×ja)(d:ja):chain [a,b,c,e] d=if(a d).1=0 then(if(b (a d).2).1=0 then(if(c (b (a d).2).2).1=0 then e (c (b (a d).2).2).2 else c (b (a d).2).2)else b (a d).2)else a d:=by
 by_cases h:(a d).1=0
 ·rw[Wd h,JT h,fK]
 ·rw[Vd h,DT h]
theorem lu{d:ja}(a:d.down=false)(n:Bs):d.size n=match Na n d.fa with|none=>(4,0)|some f=>(0,f.data.length):=by unfold ja.size;rw[a];rfl
theorem Ux{d:ja}(a:d.down=false){n:Bs}{f:jc}(b:Na n d.fa=some f):d.ze n 0 f.data.length=(0,f.data):=by unfold ja.ze;rw[a,b,DT (by simp)];dsimp only;rw[DT (by omega)];simp
theorem Et(d:ja)(n:Bs):(d.delete n).1=0∨(d.delete n).1=4∨(d.delete n).1=61:=by
 unfold ja.delete;split
 ·exact .inr (.inr rfl)
 ·split
  ·exact .inr (.inl rfl)
  ·split
   ·exact .inr (.inr rfl)
   ·exact .inl rfl
end An
section
open Go.RowKit An Go.ChangeShapes Go.WideShapes Go.ChangeAt Go.Proofs.Tryz
def Li:Option qa→Value
 |none=> .tuple #[.agg #[Pa 0,Z 0,Z 0],.bool false]
 |some e=> .tuple #[bj e,.bool true]
theorem fG(e:qa)(f:e.Qa<18446744073709551616∧e.Qb<9223372036854775808∧e.pos<9223372036854775808):Pu prog 182 #[bj e] (.string (mk (Nf e))):=by
 intro w;have I:=(ZZ w).new (.cells #[.int .u64 e.Qa,.int .i64 e.Qb,.int .i64 e.pos] 126);have t1:=Pg e.Qa 8 (by omega) (by omega) f.1;have t2:=Pg e.Qb 8 (by omega) (by omega) (by omega);have t3:=Pg e.pos 8 (by omega) (by omega) (by omega);have j:IntKind.u64.wrap (e.Qb:Int)=e.Qb:=by rw[pU];omega
 have k:IntKind.u64.wrap (e.pos:Int)=e.pos:=by rw[pU];omega
 have b:Nf e=put e.Qa 8++(put e.Qb 8++put e.pos 8):=by simp[Nf]
 rw[b];obtain⟨h,v,p⟩:=e;unfold bj;dsimp only at*;clear b f;have g:World.cell? _ _=some _:=YZ I w.heap.size 0;have i:World.cell? _ _=some _:=YZ I w.heap.size 1;have c2:World.cell? _ _=some _:=YZ I w.heap.size 2;have m:=IT g;have n:=IT i;have o:=IT c2;generalize l:w.alloc (.cells #[.int .u64 h,.int .i64 v,.int .i64 p] 126)=W at*;go_enter func182,ntmps182;go_wp2_with fail;refine OU (by kernel_rfl) (by kernel_rfl) ?_;repeat (quiet_step ((first|(go_at_call_of 140 (Value.int .u64 (h:Int));refine gU (t1 _))|(go_at_call_of 140 (Value.int .u64 (v:Int));refine gU (t2 _))|(go_at_call_of 140 (Value.int .u64 (p:Int));refine gU (t3 _)))))
 refine fU ?_;first|(rintro _ ⟨a,rfl⟩)|(intro a)
 have c:=jU W a.d a.os;generalize Go.Sort.grow (redrawn W a.d) a.os=q at*;clear a;go_wp2_with fail;go_ret;exact⟨rfl,(I.below c).Sc⟩
theorem eG(s:Bs)(G:s.length≤10000000):Pu prog 154 #[Ha s] (Li (vj s)):=by
 intro w;have hb:=(mU w.heap.size w).alloc (FT _) (.cells #[Pa 0,Z 0,Z 0] 126);by_cases q:s.length=24
 ·have t1:=tq (s.take 8) (by rw[OT];omega);have t2:=tq ((s.drop 8).take 8) (by rw[OT];omega);have t3:=tq (s.drop 16) (by rw[cU];omega);rw[QV,show min 8 8=8 from rfl]at t1 t2;rw[YT (by rw[cU];omega)]at t3;have j:=cm (s.take 8);have i:=cm ((s.drop 8).take 8);have t:=cm (s.drop 16);rw[OT,QU (by omega)]at j;rw[OT,cU,QU (by omega)]at i;rw[cU,show s.length-16=8 by omega]at t;have C:∀w,(Instr.slice 9 (Ha s) none (some (Z 8)) none).run prog w= .ok (Ha (s.take 8)) w:=jm (by omega) (by congr 1<;>omega);have D:∀w,(Instr.slice 9 (Ha s) (some (Z 8)) (some (Z 16)) none).run prog w= .ok (Ha ((s.drop 8).take 8)) w:=Vh (by omega) (by congr 2<;>omega);have E:∀w,(Instr.slice 9 (Ha s) (some (Z 16)) none none).run prog w= .ok (Ha (s.drop 16)) w:=qm (by omega) (by congr 1<;>omega);have e:vj s=if 9223372036854775808≤num ((s.drop 8).take 8)∨9223372036854775808≤num (s.drop 16)then none else some ⟨num (s.take 8),num ((s.drop 8).take 8),num (s.drop 16)⟩:=by unfold vj;rw[DT (by omega)]
  rw[e];have z:((s.length:Int) !=24)=false:=by rw[q];rfl
  generalize s.take 8=l at*;generalize(s.drop 8).take 8=m at*;generalize s.drop 16=o at*;generalize num l=a at*;generalize num m=b at*;generalize num o=c at*;clear e q;have f:∀x:Nat,x<18446744073709551616→9223372036854775808≤x→IntKind.i64.wrap (x:Int)<0:=by
   intro x F p;unfold IntKind.wrap;dsimp only;split
   ·show(x:Int)% 18446744073709551616-18446744073709551616<0;omega
   ·rename_i h;exfalso;apply h;have:(x:Int)% 18446744073709551616≥9223372036854775808:=by omega
    exact RU this
  by_cases g:9223372036854775808≤b∨9223372036854775808≤c
  ·rw[JT g];unfold Li;dsimp only;by_cases r:9223372036854775808≤b
   ·have A:=f b i r;generalize v:IntKind.i64.wrap (b:Int)=bi at*;generalize y:IntKind.i64.wrap (c:Int)=ci at*;clear j i t g r f;go_enter func154,ntmps154;go_wp2_with fail;refine Gb (fun _=>True) (fun a b=>∃n,b=World.drewN a n) [0,1,2,3,4,5,6,7,8,9,10,11] [12] [13] (fun w=>⟨0,rfl⟩) (fun _ _ _ ⟨n,h⟩ ⟨k,p⟩=>⟨n+k,by rw[p,h];exact drewN_drewN _ _ _⟩) (by rintro _ _ h ⟨n,rfl⟩;exact h) (by kernel_rfl) (by kernel_rfl) (fun _ _ _ _ _ h=>h) trivial ?_;simp only[QT,VT,MT,NT];iterate 12 (first|(refine db (by rfl) (fun K d=> ?_);go_simp;refine d _ ?_;clear d K)|(refine gb (by rfl) (fun K d=> ?_);apply Exists.intro;refine⟨fun w hw=> ?_,?_⟩;(next=>(first|(go_simp;rfl)|(obtain _:=hw;go_simp;rfl)|(obtain _:=hw;go_simp;done)|(go_simp;((first|(go_at_call_of 97 (Ha l);exact t1 _)|(go_at_call_of 97 (Ha m);exact t2 _)|(go_at_call_of 97 (Ha o);exact t3 _))))|(obtain _:=hw;go_simp;((first|(go_at_call_of 97 (Ha l);exact t1 _)|(go_at_call_of 97 (Ha m);exact t2 _)|(go_at_call_of 97 (Ha o);exact t3 _))))));go_simp;refine d _ ?_;clear d K))
    refine Eb ?_;rintro u ⟨j,rfl⟩;refine ic (fun K d=> ?_);go_simp;refine d _ _ trivial ?_;rintro u ⟨i,rfl⟩;clear d K;unfold Sb;go_wp2_with fail;refine ZT ?_ rfl ⟨rfl,?_⟩
    ·simp[results,results154,go_sem,Li]
    repeat (first|(with_reducible refine cW ?_ (by first|exact FT _|(simp;done)|(simp;omega)) _)|(with_reducible refine j3 ?_ _)|(with_reducible refine iW ?_ (by first|exact FT _|(simp;done)|(simp;omega)) _)|(with_reducible assumption)|(with_reducible exact mU _ _)|assumption|exact mU _ _)
   ·have B:=f c t (by omega);have v:IntKind.i64.wrap (b:Int)=b:=RT _ (by omega);generalize y:IntKind.i64.wrap (c:Int)=ci at*;clear j i t g r f;go_enter func154,ntmps154;go_wp2_with fail;refine Gb (fun _=>True) (fun a b=>∃n,b=World.drewN a n) [0,1,2,3,4,5,6,7,8,9,10,11] [12] [13] (fun w=>⟨0,rfl⟩) (fun _ _ _ ⟨n,h⟩ ⟨k,p⟩=>⟨n+k,by rw[p,h];exact drewN_drewN _ _ _⟩) (by rintro _ _ h ⟨n,rfl⟩;exact h) (by kernel_rfl) (by kernel_rfl) (fun _ _ _ _ _ h=>h) trivial ?_;simp only[QT,VT,MT,NT];iterate 12 (first|(refine db (by rfl) (fun K d=> ?_);go_simp;refine d _ ?_;clear d K)|(refine gb (by rfl) (fun K d=> ?_);apply Exists.intro;refine⟨fun w hw=> ?_,?_⟩;(next=>(first|(go_simp;rfl)|(obtain _:=hw;go_simp;rfl)|(obtain _:=hw;go_simp;done)|(go_simp;((first|(go_at_call_of 97 (Ha l);exact t1 _)|(go_at_call_of 97 (Ha m);exact t2 _)|(go_at_call_of 97 (Ha o);exact t3 _))))|(obtain _:=hw;go_simp;((first|(go_at_call_of 97 (Ha l);exact t1 _)|(go_at_call_of 97 (Ha m);exact t2 _)|(go_at_call_of 97 (Ha o);exact t3 _))))));go_simp;refine d _ ?_;clear d K))
    refine Eb ?_;rintro u ⟨j,rfl⟩;refine ic (fun K d=> ?_);go_simp;refine d _ _ trivial ?_;rintro u ⟨i,rfl⟩;clear d K;unfold Sb;go_wp2_with fail;refine ZT ?_ rfl ⟨rfl,?_⟩
    ·simp[results,results154,go_sem,Li]
    repeat (first|(with_reducible refine cW ?_ (by first|exact FT _|(simp;done)|(simp;omega)) _)|(with_reducible refine j3 ?_ _)|(with_reducible refine iW ?_ (by first|exact FT _|(simp;done)|(simp;omega)) _)|(with_reducible assumption)|(with_reducible exact mU _ _)|assumption|exact mU _ _)
  ·rw[DT g];have v:IntKind.i64.wrap (b:Int)=b:=RT _ (by omega);have y:IntKind.i64.wrap (c:Int)=c:=RT _ (by omega);unfold Li bj;dsimp only;clear j i t g f;go_enter func154,ntmps154;go_wp2_with fail;refine Gb (fun _=>True) (fun a b=>∃n,b=World.drewN a n) [0,1,2,3,4,5,6,7,8,9,10,11] [12] [13] (fun w=>⟨0,rfl⟩) (fun _ _ _ ⟨n,h⟩ ⟨k,p⟩=>⟨n+k,by rw[p,h];exact drewN_drewN _ _ _⟩) (by rintro _ _ h ⟨n,rfl⟩;exact h) (by kernel_rfl) (by kernel_rfl) (fun _ _ _ _ _ h=>h) trivial ?_;simp only[QT,VT,MT,NT];iterate 12 (first|(refine db (by rfl) (fun K d=> ?_);go_simp;refine d _ ?_;clear d K)|(refine gb (by rfl) (fun K d=> ?_);apply Exists.intro;refine⟨fun w hw=> ?_,?_⟩;(next=>(first|(go_simp;rfl)|(obtain _:=hw;go_simp;rfl)|(obtain _:=hw;go_simp;done)|(go_simp;((first|(go_at_call_of 97 (Ha l);exact t1 _)|(go_at_call_of 97 (Ha m);exact t2 _)|(go_at_call_of 97 (Ha o);exact t3 _))))|(obtain _:=hw;go_simp;((first|(go_at_call_of 97 (Ha l);exact t1 _)|(go_at_call_of 97 (Ha m);exact t2 _)|(go_at_call_of 97 (Ha o);exact t3 _))))));go_simp;refine d _ ?_;clear d K))
   refine Eb ?_;rintro u ⟨j,rfl⟩;refine ic (fun K d=> ?_);go_simp;refine d _ _ trivial ?_;rintro u ⟨i,rfl⟩;clear d K;unfold Sb;go_wp2_with fail;refine ZT ?_ rfl ⟨rfl,?_⟩
   ·simp[results,results154,go_sem,Li,bj]
   repeat (first|(with_reducible refine cW ?_ (by first|exact FT _|(simp;done)|(simp;omega)) _)|(with_reducible refine j3 ?_ _)|(with_reducible refine iW ?_ (by first|exact FT _|(simp;done)|(simp;omega)) _)|(with_reducible assumption)|(with_reducible exact mU _ _)|assumption|exact mU _ _)
 ·have e:vj s=none:=by unfold vj;rw[JT q]
  rw[e];have z:((s.length:Int) !=24)=true:=by rw[CU];omega
  unfold Li;dsimp only;clear e;go_enter func154,ntmps154;go_wp2_with fail;refine ZT ?_ rfl ⟨rfl,?_⟩
  ·simp[results,results154,go_sem,Li]
  repeat (first|(with_reducible refine cW ?_ (by first|exact FT _|(simp;done)|(simp;omega)) _)|(with_reducible refine j3 ?_ _)|(with_reducible refine iW ?_ (by first|exact FT _|(simp;done)|(simp;omega)) _)|(with_reducible assumption)|(with_reducible exact mU _ _)|assumption|exact mU _ _)
theorem RP{x:Int}(h:0≤x∧x<4611686018427387904):wrap64 x=x:=by unfold wrap64;omega
theorem dJ(n p:Nat)(l:n≤1000000)(k:1≤p∧p≤16):Pq prog 292 #[Z n,Z p] (Z (max 1 ((min n 10000*p*3/2+479)/480):Nat)):=by
 intro w;have c:min (n:Int) 10000=((min n 10000:Nat):Int):=by omega
 have d:min (max (p:Int) 1) 16=p:=by omega
 have f:((min n 10000:Nat):Int)*p=((min n 10000*p:Nat):Int):=by simp
 have b:min n 10000*p≤160000:=Nat.mul_le_mul (dX _ _) k.2;generalize min n 10000*p=q at*;have g:=V c;have h:=V d;have i:=V f;have j:=V b
 clear c d f b;go_enter func292,ntmps292;go_wp2;go_ret;refine⟨?_,0,rfl⟩;show Ending.returned (Z _)=_;have b:=j.out;rw[g.out,h.out,i.out];rw[RP (x:=(q:Int)) (by omega),RP (x:=(q:Int)*3) (by omega),PV (a:=(q:Int)*3) (by omega),RP (x:=(q:Int)*3/2) (by omega),RP (x:=(q:Int)*3/2+480) (by omega),RP (x:=(q:Int)*3/2+480-1) (by omega),PV (a:=(q:Int)*3/2+480-1) (by omega),RP (by omega)];have e:max 1 (((q:Int)*3/2+480-1)/480)=((max 1 ((q*3/2+479)/480):Nat):Int):=by omega
 rw[e]
theorem RM(n:Nat)(a:n≤80000000):Pq prog 199 #[Z n] (Z (12+24*n:Nat)):=by intro w;go_enter func199,ntmps199;go_wp2;go_ret;refine⟨?_,0,rfl⟩;show Ending.returned (Value.int _ _)=_;congr 2;omega
theorem yR(i:Nat)(hi:i≤80000000):Pq prog 152 #[Z i] (Z (8+24*i:Nat)):=by
 intro w;have t:=RM i hi;have a:((12+24*(i:Int))==0)=false:=by rw[ET];omega
 go_enter func152,ntmps152;go_wp2_with fail;refine(t _).mono ?_;rintro e w' ⟨rfl,m,rfl⟩;go_wp2;go_ret;refine⟨?_,m,rfl⟩;show Ending.returned (Value.int _ _)=_;congr 2;omega
def iv(i:Int):List Value:=[Z i]
theorem Ts(i:Int):(iv i).length=1:=rfl
def BT(l:List Int):List Value:=l.flatMap iv
theorem XF(A:Option Addr)(n c:Nat)(a:n≤c):Pq prog 270 #[O A n c] (O A n n):=by intro w;go_enter func270,ntmps270;go_wp2;go_ret;exact⟨rfl,0,rfl⟩
def idx(x:Int):List Int→Int
 |[]=> -1
 |a::r=>if a=x then 0 else if idx x r= -1 then-1 else idx x r+1
theorem TK(x:Int):∀ (l:List Int) (k:Nat) (h:k<l.length),(∀j (b:j<l.length),j<k→l[j]≠x)→l[k]=x→idx x l=k
 |a::r,0,_,_,he=>by unfold idx;rw[JT (show a=x from he)];rfl
 |a::r,k+1,h,c,he=>by have d:a≠x:=c 0 (GX _) (by omega);have:=TK x r k (rV h) (fun j b e=>c (j+1) (WY b) (by omega)) he;unfold idx;rw[DT d,this,DT (by omega)];omega
theorem mG(x:Int):∀ (l:List Int),(∀j (b:j<l.length),l[j]≠x)→idx x l= -1
 |[],_=>rfl
 |a::r,h=>by have c:a≠x:=h 0 (GX _);have:=mG x r fun j b=>h (j+1) (WY b);unfold idx;rw[DT c,this,JT rfl]
theorem WK(v:Value)(l:List Int)(x:Int)(L:l.length≤100000000):Ud prog 269 #[v,Z x] (Ba 1 v l.length (l.flatMap iv)) (Z (idx x l)) (Ba 1 v l.length (l.flatMap iv)):=by
 intro w o G m;have I:=TZ m;obtain⟨hlen,A,c,rfl,_⟩:=I.sl v;clear m hlen;go_enter func269,ntmps269;go_wp2_with fail;go_loopw [8] (fun y wr=>∃k:Nat,k≤l.length∧y=Z k∧(∀j (h:j<l.length),j<k→l[j]≠x)∧Y w o G (Ba 1 (O A l.length c) l.length (l.flatMap iv)) wr) (fun y _=>l.length-(intOf y).toNat);case atStart=>exact⟨0,WT _,rfl,fun j _ h=>by omega,I⟩
 case round=>
  obtain⟨k,K,rfl,n,J⟩:=hrel;have e:=V n;clear n;by_cases d:k<l.length
  ·obtain⟨g,off,rfl,E,b,F⟩:=J.we A c l Ts k d (by decide);have B:=b _ rfl;rw[wU]at B;have q:l[k]=x→idx x l=k:=fun h=>TK x l k d e.out h;have r:l[k]≠x→∀j (h:j<l.length),j<k+1→l[j]≠x:=by
    intro C j i H;by_cases D:j<k
    ·exact e.out j i D
    ·have:j=k:=by omega
     subst this;exact C
   have t:=V q;have u:=V r;generalize l[k]=z at*;clear F b q r I;by_cases a:z=x
   ·have f:=V (t.out a);have hb:(x==z)=true:=by simp[a]
    clear a;go_wp2;go_ret;refine⟨?_,J⟩;rw[f.out];rfl
   ·have f:=V (u.out a);have hb:(x==z)=false:=by simp;exact fun h=>a h.symm
    clear a;go_wp2;go_roundw;case rel=>exact⟨k+1,by omega,by go_num,f.out,J⟩
    case measure=>simp[intOf];omega
  ·have p:idx x l= -1:=mG x l fun j i=>e.out j i (by omega);have s:=V p;clear p;go_wp2;go_ret;refine⟨?_,J⟩;rw[s.out];rfl
theorem aC(v:Value)(l:List Int)(x:Int)(b:l.length≤100000000):Ud prog 239 #[v,Z x] (Ba 1 v l.length (l.flatMap iv)) (.bool (decide (idx x l≥0))) (Ba 1 v l.length (l.flatMap iv)):=by intro w o c a;have I:=TZ a;have t:=WK v l x b;clear a;go_enter func239,ntmps239;go_wp2_with fail;refine I.k1 t fun d J=> ?_;go_wp2;go_ret;exact⟨rfl,J.ya⟩
def Hw(s:Bs)(n:Nat):Nat:=if s.length<n then 0 else num (s.take n)
def US(s:Bs)(a:Bool)(n:Nat):Array Value:=if s.length<n then #[Ha [],.bool false]else #[Ha (s.drop n),.bool a]
theorem FP(R:Nat)(s:Bs)(a:Bool)(n:Nat)(q:s.length≤100000000)(g:n≤8):Ud prog 284 #[Da R,Z n] (ba R 328 #[Ha s,.bool a]) (Pa (Hw s n:Nat)) (ba R 328 (US s a n)):=by
 intro w o r d;have I:=TZ d;have l:w.cell? ⟨R,0,none⟩=some (Ha s):=I.cells R 0;have p:w.cell? ⟨R,1,none⟩=some (.bool a):=I.cells R 1;have f0:w.frozen? ⟨R,0,none⟩=false:=I.free R 0;have f1:w.frozen? ⟨R,1,none⟩=false:=I.free R 1;clear d;unfold Hw US;by_cases h:s.length<n
 ·rw[JT h,JT h];have c:=I.put R 0 (Ha []);have f:=c.put R 1 (.bool false);have i:(w.setCell ⟨R,0,none⟩ (Ha [])).frozen? ⟨R,1,none⟩=false:=c.free R 1;go_enter func284,ntmps284;go_wp2;go_ret;have b:Y w o r (ba R 328 #[Ha [],.bool false]*aa.emp) _:=f;exact⟨rfl,b.ya⟩
 ·rw[DT h,DT h];have t:=tq (s.take n) (by rw[OT];omega);rw[QV,VY g]at t;have j:∀w,(Instr.slice 9 (Ha s) none (some (Z n)) none).run prog w= .ok (Ha (s.take n)) w:=jm (by omega) (by congr 1<;>omega);have k:∀w,(Instr.slice 9 (Ha s) (some (Z n)) none none).run prog w= .ok (Ha (s.drop n)) w:=qm (by omega) (by congr 1<;>omega);go_enter func284,ntmps284;go_wp2_with fail;refine(t _).mono ?_;rintro e w' ⟨rfl,m,rfl⟩;go_wp2;go_ret;have b:Y w o r (ba R 328 #[Ha (s.drop n),.bool a]*aa.emp) _:=(I.drewN m).put R 0 (Ha (s.drop n));exact⟨rfl,b.ya⟩
theorem XM(R:Nat)(x y:Int)(a b c:Value):Ud prog 251 #[Z x,Da R] (ba R 66 #[Z y,a,b,c]) (.bool (decide (y≤x))) (ba R 66 #[Z y,a,b,c]):=by intro w o r d;have I:=TZ d;have e:w.cell? ⟨R,0,none⟩=some (Z y):=I.cells R 0;clear d;go_enter func251,ntmps251;go_wp2;go_ret;exact⟨rfl,I⟩
def JB(y:Int):List Int→Int
 |[]=> -1
 |a::r=>if y≤a then 0 else if JB y r= -1 then-1 else JB y r+1
theorem UK(x:Int):∀ (l:List Int) (k:Nat) (h:k<l.length),(∀j (b:j<l.length),j<k→¬x≤l[j])→x≤l[k]→JB x l=k
 |a::r,0,_,_,he=>by unfold JB;rw[JT (show x≤a from he)];rfl
 |a::r,k+1,h,c,he=>by have d:¬x≤a:=c 0 (GX _) (by omega);have:=UK x r k (rV h) (fun j b e=>c (j+1) (WY b) (by omega)) he;unfold JB;rw[DT d,this,DT (by omega)];omega
theorem oG(x:Int):∀ (l:List Int),(∀j (b:j<l.length),¬x≤l[j])→JB x l= -1
 |[],_=>rfl
 |a::r,h=>by have c:¬x≤a:=h 0 (GX _);have:=oG x r fun j b=>h (j+1) (WY b);unfold JB;rw[DT c,this,JT rfl]
theorem XK(v:Value)(l:List Int)(R:Nat)(x:Int)(a b d:Value)(S:l.length≤100000000):Ud prog 285 #[v,.func (.func 251) #[] #[Da R]] (Ba 1 v l.length (l.flatMap iv)*ba R 66 #[Z x,a,b,d]) (Z (JB x l)) (Ba 1 v l.length (l.flatMap iv)*ba R 66 #[Z x,a,b,d]):=by
 intro w o N q;have I:=TZ q;obtain⟨hlen,A,c,rfl,_⟩:=I.sl v;clear q hlen;go_enter func285,ntmps285;go_wp2_with fail;go_loopw [8] (fun y wr=>∃k:Nat,k≤l.length∧y=Z k∧(∀j (h:j<l.length),j<k→¬x≤l[j])∧Y w o N (Ba 1 (O A l.length c) l.length (l.flatMap iv)*ba R 66 #[Z x,a,b,d]) wr) (fun y _=>l.length-(intOf y).toNat);case atStart=>exact⟨0,WT _,rfl,fun j _ h=>by omega,I⟩
 case round=>
  obtain⟨k,Q,rfl,r,J⟩:=hrel;have m:=V r;clear r;by_cases i:k<l.length
  ·obtain⟨g,off,rfl,K,f,L⟩:=J.we A c l Ts k i (by decide);have F:=f _ rfl;rw[wU]at F;have t:=XM R l[k] x a b d;have u:x≤l[k]→JB x l=k:=fun h=>UK x l k i m.out h;have B:¬x≤l[k]→∀j (h:j<l.length),j<k+1→¬x≤l[j]:=by
    intro G j e P;by_cases H:j<k
    ·exact m.out j e H
    ·have:j=k:=by omega
     subst this;exact G
   have D:=V u;have E:=V B;generalize l[k]=z at*;clear L f u B I;go_wp2_with fail;refine J.k1 t fun T p=> ?_;by_cases M:x≤z
   ·have n:=V (D.out M);go_wp2;go_ret;refine⟨?_,p.ya⟩;rw[n.out];rfl
   ·have n:=V (E.out (by omega));go_wp2;go_roundw;case rel=>exact⟨k+1,by omega,by go_num,fun j h e=>by have:=n.out j h e;omega,p.ya⟩
    case measure=>simp[intOf];omega
  ·have s:JB x l= -1:=oG x l fun j e=>m.out j e (by omega);have C:=V s;clear s;go_wp2;go_ret;refine⟨?_,J⟩;rw[C.out];rfl
theorem bC(v:Value)(l:List Int)(R:Nat)(x:Int)(a b d:Value)(e:l.length≤100000000):Ud prog 250 #[v,.func (.func 251) #[] #[Da R]] (Ba 1 v l.length (l.flatMap iv)*ba R 66 #[Z x,a,b,d]) (.bool (decide (JB x l≥0))) (Ba 1 v l.length (l.flatMap iv)*ba R 66 #[Z x,a,b,d]):=by intro w o f c;have I:=TZ c;have t:=XK v l R x a b d e;clear c;go_enter func250,ntmps250;go_wp2_with fail;refine I.k1 t fun g J=> ?_;go_wp2;go_ret;exact⟨rfl,J.ya⟩
abbrev Sq:=Option Addr×Nat×Nat
def me(q:Sq):List Value:=[O q.1 q.2.1 q.2.2]
theorem vg(q:Sq):(me q).length=1:=rfl
def Xr(l:List Sq):Nat→Nat
 |0=>0
 |k+1=>if(l[k]?.map (·.2.1)).getD 0=0 then Xr l k else k+1
theorem MP(A:Option Addr)(c:Nat)(l:List Sq)(u:l.length≤1000)(j:l.length≤c):Ud prog 295 #[O A l.length c] (Ba 1 (O A l.length c) l.length (l.flatMap me)) (O A (Xr l l.length) c) (Ba 1 (O A l.length c) l.length (l.flatMap me)):=by
 intro w o r h;have I:=TZ h;clear h;go_enter func295,ntmps295;go_wp2_with fail;go_loopw [0] (fun y wr=>∃k:Nat,k≤l.length∧y=O A k c∧Xr l k=Xr l l.length∧Y w o r (Ba 1 (O A l.length c) l.length (l.flatMap me)) wr) (fun y _=>match y with|.slice _ k _=>k|_=>0);case atStart=>exact⟨l.length,FT _,rfl,rfl,I⟩
 case round=>
  obtain⟨k,t,rfl,i,J⟩:=hrel;have f:=V i;clear i;cases k with
  |zero=>go_wp2;go_ret;refine⟨?_,J⟩;rw[←f.out];rfl
  |succ k=>
   obtain⟨g,off,rfl,q,a,j⟩:=J.we A c l vg k (by omega) (by decide);have p:=a _ rfl;rw[wU]at p;have m:l[k]? =some l[k]:=PT (by omega);have e:Xr l (k+1)=if l[k].2.1=0 then Xr l k else k+1:=by show(if(l[k]?.map (·.2.1)).getD 0=0 then Xr l k else k+1)=_;rw[m];rfl
   rw[f.out]at e;have E:=V e;generalize l[k]=z at*;obtain⟨z0,n,z2⟩:=z;dsimp only at*;have s:IntKind.i64.wrap (((k+1:Nat):Int)-1)=(k:Int):=by rw[RT _ (by omega)];omega
   clear j a I e m;by_cases d:n=0
   ·have b:=V (E.out.trans (JT d));subst d;go_wp2;go_roundw;case rel=>exact⟨k,by omega,by go_num,b.out.symm,J⟩
    case measure=>simp
   ·have b:=V (E.out.trans (DT d));have hb:((n:Int)==0)=false:=by rw[ET];omega
    go_wp2;go_ret;refine⟨?_,J⟩;rw[b.out];rfl
end
end Go.Proofs.YteacbkflfafefaaGreatDoor
