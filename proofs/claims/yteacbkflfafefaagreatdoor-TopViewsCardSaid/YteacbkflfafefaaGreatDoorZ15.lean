/- Part 16 of 50 of the proof that TopViews returns true at every input: lemmas on the way; no condition. -/
import Derived.Test.YteacbkflfafefaaGreatDoorZ12
namespace Go.Proofs.YteacbkflfafefaaGreatDoor
set_option linter.all false
set_option maxRecDepth 100000
section
open Go.RowKit An Go.ChangeShapes Go.WideShapes Go.ChangeAt Go.Proofs.Tryz
@[go_sem] theorem eJ(P:Program)(w:World)(a:Addr)(m:Mode)(k:FloatKind)(b:Nat):(store a (.float k b) m).run P w=stored P w a (.float k b) m:=run_store P w a _ m rfl
@[go_sem] theorem eT:mk []=⟨#[]⟩:=rfl
theorem Below.dN{B:Nat}{a w:World}(h:Below B a w)(n:Nat):Below B a (w.drewN n):=⟨h.os,h.tape,h.output,h.size,h.block⟩
theorem GA(x:Nat)(w:World):(callFunc 194 #[.float .f64 x]).run prog w= .ok (.value (Pa (x:Int))) w:=by rw[run_callFunc_extern func194 (by kernel_rfl) (by kernel_rfl) (by kernel_rfl) (e:=Extern.MathFloatBits.float64bits) (by kernel_rfl)];rfl
theorem GK(x:Int)(w:World):(callFunc 100 #[Pa x]).run prog w= .ok (.value (.float .f64 x.toNat)) w:=by rw[run_callFunc_extern func100 (by kernel_rfl) (by kernel_rfl) (by kernel_rfl) (e:=Extern.MathFloatBits.float64frombits) (by kernel_rfl)];rfl
def EA(e:Ev):Value:=.agg #[Ha e.Xi,Ha e.data,.float .f64 e.w]
structure vJ(e:Ev):Prop where
 Xi:e.Xi.length≤65535
 data:e.data.length≤65535
 w:e.w<18446744073709551616
theorem Ks(e:Ev)(h:vJ e):Pu prog 101 #[EA e] (Z (od e)):=by
 intro w;have I:=(ZZ w).new (.cells #[Ha e.Xi,Ha e.data,.float .f64 e.w] 56);obtain⟨t,d,f⟩:=e;obtain⟨b,i,g⟩:=h;have hb:=I.Sc;unfold od EA;dsimp only at*;clear I g;cases t with
 |nil=>rw[JT (show([]:Bs).isEmpty=true from rfl)];go_enter func101,ntmps101;go_wp2;go_ret;exact⟨rfl,hb⟩
 |cons c r=>
  by_cases a:16<(c::r).length∨200<d.length
  ·rw[DT (by simp),JT a];simp only[UT]at a b;go_enter func101,ntmps101;go_wp2_with fail;all_goals go_ret;exact⟨rfl,hb⟩
  ·rw[DT (by simp),DT a];simp only[UT]at a b;go_enter func101,ntmps101;go_wp2;go_ret;exact⟨rfl,hb⟩
@[go_sem] theorem pQ(s:Bs):(text s).length=s.length+2:=by simp[text,vf];omega
theorem vE(e:Ev)(h:vJ e)(k:od e=0):Pu prog 177 #[EA e] (Ha (Xc e)):=by
 intro w;have I:=(ZZ w).new (.cells #[Ha e.Xi,Ha e.data,.float .f64 e.w] 56);have t0:=Ks e h;rw[k]at t0;have t1:=AB e.Xi h.Xi;have t2:=AB e.data h.data;have t3:=Pg e.w 8 (by omega) (by omega) h.w;have p:=fun w=>GA e.w w;have n:=h.Xi;have o:=h.data;have i:Xc e=text e.Xi++(text e.data++put e.w 8):=by simp[Xc]
 rw[i];obtain⟨t,d,f⟩:=e;unfold EA at*;dsimp only at*;clear h k i;go_enter func177,ntmps177;go_wp2_with fail;refine I.kp t0 fun b c=> ?_;have l:b.cell? ⟨w.heap.size,0,none⟩=some (Ha t):=by have:=c.obj (g:=w.heap.size) (x:=.cells #[Ha t,Ha d,.float .f64 f] 56);rw[qh this];rfl
 have m:b.cell? ⟨w.heap.size,1,none⟩=some (Ha d):=by have:=c.obj (g:=w.heap.size) (x:=.cells #[Ha t,Ha d,.float .f64 f] 56);rw[qh this];rfl
 have c2:b.cell? ⟨w.heap.size,2,none⟩=some (.float .f64 f):=by have:=c.obj (g:=w.heap.size) (x:=.cells #[Ha t,Ha d,.float .f64 f] 56);rw[qh this];rfl
 have s:=IT l;have u:=IT m;have v:=IT c2;have q:¬ (9223372036854775807<List.length t+2+(List.length d+2)):=by omega
 have r:¬ (9223372036854775807<List.length t+2+(List.length d+2)+8):=by omega
 go_wp2_with fail;refine OU (by kernel_rfl) (by kernel_rfl) ?_;repeat (quiet_step ((first|(go_at_call_of 176 (Ha t);refine gU (t1 _))|(go_at_call_of 176 (Ha d);refine gU (t2 _))|(go_at_call_of 140 (Pa (f:Int));refine gU (t3 _)))))
 refine fU ?_;first|(rintro _ ⟨a,rfl⟩)|(intro a)
 have j:=jU b a.d a.os;generalize Go.Sort.grow (redrawn b a.d) a.os=y at*;clear a;go_wp2;go_ret;exact⟨rfl,(c.below j).Sc⟩
def xi:Option (Ev×Bs)→Value
 |none=> .tuple #[.agg #[Ha [],Ha [],.float .f64 0],Ha [],.bool false]
 |some (e,r)=> .tuple #[EA e,Ha r,.bool true]
theorem zl{s k r:Bs}(h:Si s=some (k,r)):k.length≤65535∧k.length+r.length+2=s.length:=by
 unfold Si at h;split at h
 ·cases h
 ·split at h
  ·cases h
  ·have:=cm (s.take 2);rw[OT,QU (by omega)]at this;cases h;simp;omega
theorem AK(s:Bs)(F:s.length≤10000000):Pu prog 61 #[Ha s] (xi (Yg s)):=by
 intro w;have I:=(ZZ w).new (.cells #[Ha [],Ha [],.float .f64 0] 56);have t1:=qF s (by omega);have hb:=I.Sc;cases b:Si s with
 |none=>
  have e:Yg s=none:=by unfold Yg;rw[b]
  rw[e];rw[b]at t1;change Pq _ _ _ (.tuple #[Ha [],Ha [],.bool false])at t1;unfold xi;dsimp only;clear e b;go_enter func61,ntmps61;go_wp2_with fail;refine(t1 _).mono ?_;rintro e w' ⟨rfl,m,rfl⟩;go_wp2_with fail;refine ZT ?_ rfl ⟨rfl,?_⟩
  ·simp[results,results61,go_sem,xi]
  repeat (first|(with_reducible refine cW ?_ (by first|exact FT _|(simp;done)|(simp;omega)) _)|(with_reducible refine Below.dN ?_ _)|(with_reducible refine iW ?_ (by first|exact FT _|(simp;done)|(simp;omega)) _)|(with_reducible assumption)|(with_reducible exact mU _ _)|assumption|exact mU _ _)
 |some p=>
  obtain⟨k,r⟩:=p;have y:=zl b;have t2:=qF r (by omega);rw[b]at t1;change Pq _ _ _ (.tuple #[Ha k,Ha r,.bool true])at t1;cases c:Si r with
  |none=>
   have e:Yg s=none:=by unfold Yg;rw[b];dsimp only;rw[c]
   rw[e];rw[c]at t2;change Pq _ _ _ (.tuple #[Ha [],Ha [],.bool false])at t2;unfold xi;dsimp only;clear e b c;go_enter func61,ntmps61;go_wp2_with fail;refine(t1 _).mono ?_;rintro e w' ⟨rfl,m,rfl⟩;go_wp2_with fail;refine(t2 _).mono ?_;rintro e w' ⟨rfl,m2,rfl⟩;go_wp2_with fail;refine ZT ?_ rfl ⟨rfl,?_⟩
   ·simp[results,results61,go_sem,xi]
   repeat (first|(with_reducible refine cW ?_ (by first|exact FT _|(simp;done)|(simp;omega)) _)|(with_reducible refine Below.dN ?_ _)|(with_reducible refine iW ?_ (by first|exact FT _|(simp;done)|(simp;omega)) _)|(with_reducible assumption)|(with_reducible exact mU _ _)|assumption|exact mU _ _)
  |some p=>
   obtain⟨d,a⟩:=p;have v:=zl c;rw[c]at t2;change Pq _ _ _ (.tuple #[Ha d,Ha a,.bool true])at t2;by_cases t:a.length<8
   ·have e:Yg s=none:=by unfold Yg;rw[b];dsimp only;rw[c];dsimp only;rw[JT t]
    rw[e];unfold xi;dsimp only;clear e b c;go_enter func61,ntmps61;go_wp2_with fail;refine(t1 _).mono ?_;rintro e w' ⟨rfl,m,rfl⟩;go_wp2_with fail;refine(t2 _).mono ?_;rintro e w' ⟨rfl,m2,rfl⟩;go_wp2_with fail;refine ZT ?_ rfl ⟨rfl,?_⟩
    ·simp[results,results61,go_sem,xi]
    repeat (first|(with_reducible refine cW ?_ (by first|exact FT _|(simp;done)|(simp;omega)) _)|(with_reducible refine Below.dN ?_ _)|(with_reducible refine iW ?_ (by first|exact FT _|(simp;done)|(simp;omega)) _)|(with_reducible assumption)|(with_reducible exact mU _ _)|assumption|exact mU _ _)
   ·have t3:=tq (a.take 8) (by rw[OT];omega);rw[QV,show min 8 8=8 from rfl]at t3;have i:=cm (a.take 8);rw[OT,QU (by omega)]at i;have o:vJ ⟨k,d,num (a.take 8)⟩:=⟨y.1,v.1,i⟩;have e:Yg s=if od ⟨k,d,num (a.take 8)⟩=0 then some (⟨k,d,num (a.take 8)⟩,a.drop 8)else none:=by unfold Yg;rw[b];dsimp only;rw[c];dsimp only;rw[DT t]
    have C:∀w,(Instr.slice 9 (Ha a) none (some (Z 8)) none).run prog w= .ok (Ha (a.take 8)) w:=jm (by omega) (by congr 1<;>omega);have D:∀w,(Instr.slice 9 (Ha a) (some (Z 8)) none none).run prog w= .ok (Ha (a.drop 8)) w:=qm (by omega) (by congr 1<;>omega);have t4:=Ks _ o;generalize a.take 8=x at*;generalize num x=n at*;have E:=fun w=>GK n w;have q:∀m,Y w (fun _=>False) (fun _=>False) (ba w.heap.size 56 #[Ha k,Ha d,.float .f64 n]*aa.emp) (((((w.alloc (.cells #[.string ⟨#[]⟩,.string ⟨#[]⟩,.float .f64 0] 56)).drewN m).setCell ⟨w.heap.size,0,none⟩ (Ha k)).setCell ⟨w.heap.size,1,none⟩ (Ha d)).setCell ⟨w.heap.size,2,none⟩ (.float .f64 n)):=by intro m;exact((((I.drewN m).ra w.heap.size 0 (Ha k) #[Ha k,Ha [],.float .f64 0]).ra w.heap.size 1 (Ha d) #[Ha k,Ha d,.float .f64 0]).ra w.heap.size 2 (.float .f64 n) #[Ha k,Ha d,.float .f64 n])
    unfold EA at t4;dsimp only at t4;by_cases g:od ⟨k,d,n⟩=0
    ·rw[g]at t4;rw[e,JT g];unfold xi EA;dsimp only;clear e b c o g i;go_enter func61,ntmps61;go_wp2_with fail;refine(t1 _).mono ?_;rintro e w' ⟨rfl,m,rfl⟩;go_wp2_with fail;refine(t2 _).mono ?_;rintro e w' ⟨rfl,m2,rfl⟩;go_wp2_with fail;refine(t3 _).mono ?_;rintro e w' ⟨rfl,m3,rfl⟩;go_wp2_with fail;refine((q _).pu t4).mono ?_;rintro e A ⟨rfl,f⟩;obtain⟨j,l,c2⟩:=f.c3 w.heap.size;obtain⟨f0,f1,f2⟩:=f.f3 w.heap.size;have u:=f.Sc;clear q I f;go_wp2_with fail;refine Ih [1,2] [0] [3,4,5] (by kernel_rfl) (by kernel_rfl) (fun _ _ _ _ _ h=>h) ?_;simp only[QT,VT,MT,NT];repeat (refine Exists.intro _ ⟨.inl ⟨by rfl,fun w=>(by go_simp;rfl)⟩,?_⟩)
     dsimp only[ni];go_simp;repeat (quiet_step (fail))
     refine fU ?_;first|(rintro _ ⟨nq,rfl⟩)|(intro nq)
     go_wp2_with fail;refine ZT ?_ rfl ⟨rfl,?_⟩
     ·simp[results,results61,go_sem,xi,j,l,c2]
     repeat (first|(with_reducible refine cW ?_ (by first|exact FT _|(simp;done)|(simp;omega)) _)|(with_reducible refine Below.dN ?_ _)|(with_reducible refine iW ?_ (by first|exact FT _|(simp;done)|(simp;omega)) _)|(with_reducible assumption)|(with_reducible exact mU _ _)|assumption|exact mU _ _)
    ·rw[e,DT g];have G:((od ⟨k,d,n⟩:Int)==0)=false:=by simpa using g
     have B:((od ⟨k,d,n⟩:Int) !=0)=true:=by simpa using g
     generalize od ⟨k,d,n⟩=z at*;unfold xi;dsimp only;clear e b c o i;go_enter func61,ntmps61;go_wp2_with fail;refine(t1 _).mono ?_;rintro e w' ⟨rfl,m,rfl⟩;go_wp2_with fail;refine(t2 _).mono ?_;rintro e w' ⟨rfl,m2,rfl⟩;go_wp2_with fail;refine(t3 _).mono ?_;rintro e w' ⟨rfl,m3,rfl⟩;go_wp2_with fail;refine((q _).pu t4).mono ?_;rintro e A ⟨rfl,f⟩;obtain⟨j,l,c2⟩:=f.c3 w.heap.size;obtain⟨f0,f1,f2⟩:=f.f3 w.heap.size;have u:=f.Sc;go_wp2_with fail;refine ZT ?_ rfl ⟨rfl,?_⟩
     ·simp[results,results61,go_sem,xi,j,l,c2]
     repeat (first|(with_reducible refine cW ?_ (by first|exact FT _|(simp;done)|(simp;omega)) _)|(with_reducible refine Below.dN ?_ _)|(with_reducible refine iW ?_ (by first|exact FT _|(simp;done)|(simp;omega)) _)|(with_reducible assumption)|(with_reducible exact mU _ _)|assumption|exact mU _ _)
abbrev j3:=@Below.dN
end
section
open Go.RowKit An
theorem vh{α:Type}{f:α→List Value}{sz:Nat}(b:∀a,(f a).length=sz):∀ (l:List α) (i j:Nat) (hi:i<l.length),j<sz→(l.flatMap f)[i*sz+j]? =(f l[i])[j]?
 |[],i,_,hi,_=>by simp at hi
 |a::r,0,j,_,c=>by rw[AU,FZ,BU,IV (by rw[b];exact c)];rfl
 |a::r,i+1,j,hi,c=>by have:=vh b r i j (by simpa using hi) c;rw[AU,vV (by rw[b,hZ];omega),b,show(i+1)*sz+j-sz=i*sz+j by rw[hZ];omega,this];rfl
theorem zg{α:Type}{f:α→List Value}{sz:Nat}(b:∀a,(f a).length=sz)(l:List α):(l.flatMap f).length=l.length*sz:=by
 induction l with
 |nil=>simp
 |cons a r c=>rw[AU,CT,b,c,UT,hZ];omega
def dQ(e:Ev):List Value:=[Ha e.Xi,Ha e.data,.float .f64 e.w]
def vc(l:List Ev):List Value:=l.flatMap dQ
theorem wi(e:Ev):(dQ e).length=3:=rfl
section
variable {w0 w:World}{o0 r0:Td}{S R:aa}
theorem Y.we{α:Type}{f:α→List Value}{sz:Nat}(h:Y w0 o0 r0 S w)(A:Option Addr)(c:Nat)(l:List α)[k:Aj (O A l.length c) S sz l.length (l.flatMap f) R](d:∀a,(f a).length=sz)(i:Nat)(hi:i<l.length)(m:0<sz):∃b off,A=some ⟨b,off,none⟩∧b<w.heap.size∧(∀u,(f l[i])[0]? =some u→w.cell? ⟨b,off+i*sz,none⟩=some u)∧∀j u,(f l[i])[j]? =some u→w.cell? ⟨b,off+i*sz+j,none⟩=some u:=by
 obtain⟨t,n,c',q,r⟩:=h.sl (O A l.length c);have o:A=n:=by injection q
 subst o;obtain⟨b,off,rfl,hb,s⟩:=r (by intro p;have:=eU List.length p;rw[zg d]at this;exact Nat.ne_of_gt (Nat.mul_pos (WV (WT _) hi) m) this);have main:∀j u,(f l[i])[j]? =some u→w.cell? ⟨b,off+i*sz+j,none⟩=some u:=by
  intro j u e;rw[RY];refine s _ _ ?_;have g:j<sz:=by rw[←d l[i]];exact(ZU.1 e).1
  rw[vh d l i j hi g];exact e
 exact⟨b,off,rfl,hb,main 0,main⟩
end
abbrev Qc(A:Option Addr)(l:List Ev)(c:Nat):aa:=Ba 3 (.slice A l.length c) l.length (vc l)
end
section
open Go.RowKit An Go.ChangeShapes Go.WideShapes Go.ChangeAt Go.Proofs.Tryz
def bV(b:Za)(v:Value):Value:=.agg #[Ha b.stream,Z b.first,v]
structure BB(b:Za):Prop where
 stream:b.stream.length≤100000000
 first:b.first≤1073741824
 many:b.vc.length≤1000000
 vc:∀e∈b.vc,vJ e
theorem Lr:∀ (l:List Ev) (k:Nat) (h:k<l.length),Yf (l.drop k)=if od l[k]=0 then Yf (l.drop (k+1))else od l[k]:=by intro l k h;rw[FU h];rfl
theorem Qw(b:Za)(v:Value)(P:BB b):Ud prog 62 #[bV b v] (Ba 3 v b.vc.length (vc b.vc)) (Z (jd b)) (Ba 3 v b.vc.length (vc b.vc)):=by
 intro w o B F;have I:=TZ F;obtain⟨hlen,A,c,rfl,_⟩:=I.sl v;obtain⟨st,h,l⟩:=b;obtain⟨b1,b2,b3,b4⟩:=P;dsimp only at*;have C:=I.new (.cells #[Ha st,Z h,O A l.length c] 85);clear F hlen;have f:∀ (I:Y w o B (aa.obj w.heap.size (.cells #[Ha st,Z h,O A l.length c] 85)*Qc A l c) (w.alloc (.cells #[Ha st,Z h,O A l.length c] 85))),Y w o B (Qc A l c) (w.alloc (.cells #[Ha st,Z h,O A l.length c] 85)):=fun I=>I.ya;have d:=f C;clear f;unfold jd bV;dsimp only;by_cases a:st.isEmpty=true∨l.isEmpty=true
 ·rw[JT a];by_cases z:st=[]
  ·subst z;go_enter func62,ntmps62;go_wp2_with fail;go_step3;go_wp2_with fail;rw[SV];go_ret;exact⟨rfl,d⟩
  ·have Q:l=[]:=by simpa [z]using a
   subst Q;have M:(st==([]:Bs))=false:=by simpa using z
   go_enter func62,ntmps62;go_wp2_with fail;go_step3;go_wp2_with fail;rw[SV];go_ret;exact⟨rfl,d⟩
 ·rw[DT a];have M:(st==([]:Bs))=false:=by rw[lZ]at a;have:=a.1;simp at this;simpa using this
  have U:0<l.length:=by rw[lZ]at a;have:=a.2;simp at this;exact xV.2 this
  clear a;by_cases G:32<st.length∨8<l.length
  ·rw[JT G];by_cases N:32<st.length
   ·go_enter func62,ntmps62;go_wp2_with fail;go_step3;go_wp2_with fail;rw[SV];go_ret;exact⟨rfl,d⟩
   ·have N:8<l.length:=by omega
    go_enter func62,ntmps62;go_wp2_with fail;go_step3;go_wp2_with fail;rw[SV];go_ret;exact⟨rfl,d⟩
  ·rw[DT G];have hw:IntKind.i64.wrap (1073741824-(l.length:Int))=1073741824-l.length:=RT _ (by omega);by_cases H:1073741824<h+l.length
   ·rw[JT H];go_enter func62,ntmps62;go_wp2_with fail;go_step3;go_wp2_with fail;rw[SV];go_ret;exact⟨rfl,d⟩
   ·rw[DT H];have S:((l.length:Int)==0)=false:=by rw[ET];omega
    go_enter func62,ntmps62;go_wp2_with fail;go_step3;go_wp2_with fail;go_step3;go_wp2_with fail;go_loopw [2,36] (fun e i wr=>∃k:Nat,k≤l.length∧i=Z k∧e=Z 0∧Yf l=Yf (l.drop k)∧Y w o B (Qc A l c) wr) (fun _ i _=>l.length-(intOf i).toNat);case atStart=>exact⟨0,WT _,rfl,rfl,rfl,d⟩
    case round=>
     obtain⟨k,W,rfl,rfl,j,J⟩:=hrel;by_cases m:k<l.length
     ·obtain⟨b,off,rfl,R,s,y⟩:=J.we A c l wi k m (by decide);have K:=s _ rfl;have L:=y 1 _ rfl;have c2:=y 2 _ rfl;have q:=Lr l k m;have r:=b4 l[k] (XT m);generalize l[k]=x at*;have t:=Ks x r;unfold EA at t;have n:=V j;have p:=V q;have D:=J.alloc (.cells #[Ha x.Xi,Ha x.data,.float .f64 x.w] 56);clear j q y s b4 r C d I;go_wp2_with fail;refine D.kp t fun w2 E=> ?_;clear t D K L c2;by_cases g:od x=0
      ·have u:=V g;rw[g];clear g J;go_wp2;go_roundw;case rel=>exact⟨k+1,by omega,by go_num,rfl,by rw[n.out,p.out,JT u.out],E⟩
       case measure=>simp[intOf];omega
      ·have T:((od x:Int)==0)=false:=by simpa using g
       have u:=V g;clear g J;go_wp2_with fail;rw[SV];go_ret;refine⟨?_,E⟩;rw[n.out,p.out,DT u.out];rfl
     ·obtain rfl:k=l.length:=by omega
      rw[NY (FT _)]at j;have n:=V j;clear j;go_wp2_with fail;rw[SV];go_ret;refine⟨?_,J⟩;rw[n.out];rfl
def Tw(b:Za):Value:=if jd b=0 then .tuple #[Ha (Sa b),Z 0]else .tuple #[Ha [],Z (jd b)]
theorem vr{α β:Type}(f:α→List β)(l:List α)(k:Nat)(h:k<l.length):(l.take (k+1)).flatMap f=(l.take k).flatMap f++f l[k]:=by rw[rU h,XU];simp
theorem Mt{l:List Ev}(h:∀e∈l,od e=0)(i:l.length≤8)(k:Nat):((l.take k).flatMap Xc).length≤1824:=by
 have:∀l:List Ev,(∀e∈l,od e=0)→(l.flatMap Xc).length≤228*l.length:=by
  intro l;induction l with
  |nil=>intro _;simp
  |cons e r g=>intro c;have:=g fun x f=>c x (.tail _ f);obtain⟨_,a,b⟩:=Lo (c e (.head _));rw[AU,CT,iq,UT];omega
 have d:=this (l.take k) fun e he=>h e (VV he);rw[OT]at d;omega
theorem FN(b:Za)(v:Value)(B:BB b):Ud prog 129 #[bV b v] (Ba 3 v b.vc.length (vc b.vc)) (Tw b) (Ba 3 v b.vc.length (vc b.vc)):=by
 intro w o M H;have I:=TZ H;have t0:=Qw b v B;obtain⟨hlen,A,c,rfl,_⟩:=I.sl v;have u:=I.new (.cells #[.string (mk b.stream),.int .i64 b.first,.slice A b.vc.length c] 85);clear H hlen;unfold Tw;by_cases a:jd b=0
 ·rw[JT a];have r:=a;rw[a]at t0;obtain⟨z1,z2,z3,z4,z5,E⟩:=Hd a;have b4:=B.vc;have t1:=AB b.stream (by omega);have t2:=Pg b.first 8 (by omega) (by omega) (by omega);have t3:=Pg b.vc.length 1 (by omega) (by omega) (by omega);have K:Sa b=text b.stream++(put b.first 8++put b.vc.length 1)++b.vc.flatMap Xc:=by simp[Sa]
  have a7:IntKind.u64.wrap (b.first:Int)=b.first:=by rw[pU];omega
  have a8:IntKind.u64.wrap (b.vc.length:Int)=b.vc.length:=by rw[pU];omega
  rw[K];obtain⟨st,z,l⟩:=b;unfold bV at*;dsimp only at*;have T:¬ (9223372036854775807<List.length st+2+8):=by omega
  have U:¬ (9223372036854775807<List.length st+2+8+1):=by omega
  have h:=Mt E z4;clear a r K B;go_enter func129,ntmps129;go_wp2_with fail;refine u.k1 t0 fun D f=> ?_;have j:World.cell? _ _=some _:=YZ f w.heap.size 0;have m:World.cell? _ _=some _:=YZ f w.heap.size 1;have c2:World.cell? _ _=some _:=YZ f w.heap.size 2;have W:=IT j;have X:=IT m;have q2:=IT c2;clear I u t0;go_wp2_with fail;refine OU (by kernel_rfl) (by kernel_rfl) ?_;repeat (quiet_step ((first|(go_at_call_of 176 (Value.string (mk st));refine gU (t1 _))|(go_at_call_of 140 (Value.int .u64 (z:Int));refine gU (t2 _))|(go_at_call_of 140 (Value.int .u64 (l.length:Int));refine gU (t3 _)))))
  refine fU ?_;first|(rintro _ ⟨g,rfl⟩)|(intro g)
  have n:=jU D g.d g.os;generalize Go.Sort.grow (redrawn D g.d) g.os=wq at*;clear g;have y:=f.below n;clear W X q2 j m c2 t1 t2 t3 T U f n;have c2:World.cell? _ _=some _:=YZ y w.heap.size 2;have a6:(text st++(put z 8++put l.length 1)).length≤100:=by simp only[CT,xu,Jb];omega
  generalize q:text st++(put z 8++put l.length 1)=R at*;have N:=V q;clear q;have F:Y w o M (Ba 3 (.slice A l.length c) l.length (vc l)) wq:=y.ya;go_wp2_with fail;go_loopw [5,30] (fun s i wr=>∃k:Nat,k≤l.length∧i= .int .i64 k∧s= .string (mk (R++(l.take k).flatMap Xc))∧Y w o M (Ba 3 (.slice A l.length c) l.length (vc l)) wr) (fun _ i _=>l.length-(intOf i).toNat);case atStart=>exact⟨0,WT _,rfl,by simp,F⟩
  case round=>
   obtain⟨k,hk,rfl,rfl,J⟩:=hrel;by_cases e:k<l.length
   ·obtain⟨b,off,rfl,a1,p,C⟩:=J.we A c l wi k e (by decide);have j:=p _ rfl;have m:=C 1 _ rfl;have c2:=C 2 _ rfl;have t:=vE l[k] (b4 _ (XT e)) (E _ (XT e));have hS:=h k;have L:=h (k+1);have Q:=V (vr Xc l k e);rw[vr Xc l k e,CT]at L;generalize l[k]=x at*;generalize(l.take k).flatMap Xc=S at*;generalize Xc x=Yy at*;unfold EA at t;have G:=J.alloc (.cells #[.string (mk x.Xi),.string (mk x.data),.float .f64 x.w] 56);clear C p b4 y F h E;go_wp2_with fail;refine G.kp t fun w2 P=> ?_;clear t G j m c2;go_wp2_with fail;go_roundw;case rel=>exact⟨k+1,by omega,by go_num,by rw[Q.out],P⟩
    case measure=>simp[intOf];omega
   ·obtain rfl:k=l.length:=by omega
    rw[YT (FT _)];go_wp2_with fail;go_ret2;refine⟨?_,J⟩;rw[N.out];rfl
 ·rw[DT a];have aj:((jd b:Int)==0)=false:=by simpa using a
  have r:((jd b:Int) !=0)=true:=by simpa using a
  unfold bV at*;clear a;go_enter func129,ntmps129;go_wp2_with fail;refine u.k1 t0 fun D f=> ?_;go_wp2_with fail;go_ret2;exact⟨rfl,f.ya⟩
def bj(e:qa):Value:=.agg #[Pa e.Qa,Z e.Qb,Z e.pos]
def Ku(e:qa):List Value:=[Pa e.Qa,Z e.Qb,Z e.pos]
def xc(l:List qa):List Value:=l.flatMap Ku
theorem Ld(e:qa):(Ku e).length=3:=rfl
theorem Ll(l:List qa):(xc l).length=l.length*3:=zg Ld l
theorem Im(e:qa):∀u∈Ku e,u.oneCell'=true:=by intro u hu;simp only[Ku,dU,nV,SW]at hu;rcases hu with rfl|rfl|rfl<;>rfl
theorem Tt(a b:qa):Pu prog 150 #[bj a,bj b] (.bool (de a b)):=by
 intro w;have hb:=((mU w.heap.size w).alloc (FT _) (.cells #[Pa a.Qa,Z a.Qb,Z a.pos] 126)).alloc (by simp) (.cells #[Pa b.Qa,Z b.Qb,Z b.pos] 126);obtain⟨c,v1,f⟩:=a;obtain⟨d,v2,g⟩:=b;unfold bj;dsimp only at*;by_cases hh:c=d
 ·subst hh;by_cases h:v1=v2
  ·subst h;have e:de ⟨c,v1,f⟩ ⟨c,v1,g⟩=decide (f<g):=by simp[de]
   rw[e];clear e;go_enter func150,ntmps150;go_wp2;go_ret;exact⟨rfl,hb⟩
  ·have e:de ⟨c,v1,f⟩ ⟨c,v2,g⟩=decide (v1<v2):=by simp[de,h]
   have i:((v1:Int) !=v2)=true:=by rw[CU];omega
   have j:((v1:Int)==v2)=false:=by rw[ET];omega
   rw[e];clear e h;go_enter func150,ntmps150;go_wp2;go_ret;exact⟨rfl,hb⟩
 ·have e:de ⟨c,v1,f⟩ ⟨d,v2,g⟩=decide (c<d):=by simp[de,hh]
  have i:((c:Int) !=d)=true:=by rw[CU];omega
  have j:((c:Int)==d)=false:=by rw[ET];omega
  rw[e];clear e hh;go_enter func150,ntmps150;go_wp2;go_ret;exact⟨rfl,hb⟩
def Mb(h:Nat)(v:Int)(e:qa):Bool:=decide (e.Qa<h)||(decide (e.Qa=h)&&decide ((e.Qb:Int)<v))
theorem DJ(e:qa)(h:Nat)(v:Int):Pu prog 197 #[bj e,Pa h,Z v] (.bool (Mb h v e)):=by
 intro w;have hb:=(mU w.heap.size w).alloc (FT _) (.cells #[Pa e.Qa,Z e.Qb,Z e.pos] 126);obtain⟨a,v1,b⟩:=e;unfold bj;dsimp only at*;by_cases c:a<h
 ·have e:Mb h v ⟨a,v1,b⟩=true:=by simp[Mb,c]
  rw[e];clear e;go_enter func197,ntmps197;go_wp2;go_ret;exact⟨rfl,hb⟩
 ·by_cases hh:a=h
  ·subst hh;have e:Mb a v ⟨a,v1,b⟩=decide ((v1:Int)<v):=by simp[Mb]
   rw[e];clear e;go_enter func197,ntmps197;go_wp2;go_ret;exact⟨rfl,hb⟩
  ·have e:Mb h v ⟨a,v1,b⟩=false:=by simp[Mb,c,hh]
   have d:((a:Int)==h)=false:=by rw[ET];omega
   rw[e];clear e;go_enter func197,ntmps197;go_wp2;go_ret;exact⟨rfl,hb⟩
abbrev Fg(A:Option Addr)(l:List qa)(c:Nat):aa:=Ba 3 (.slice A l.length c) l.length (xc l)
abbrev Dk(A:Option Addr)(l:List qa)(c:Nat):aa:=ua 126 3 (.slice A l.length c) l.length (xc l)
end
end Go.Proofs.YteacbkflfafefaaGreatDoor
