/- Part 26 of 50 of the proof that TopViews returns true at every input: lemmas on the way; no condition. -/
import Derived.Test.YteacbkflfafefaaGreatDoorZ17
import Derived.Test.YteacbkflfafefaaGreatDoorZ21
namespace Go.Proofs.YteacbkflfafefaaGreatDoor
set_option linter.all false
set_option maxHeartbeats 2000000
set_option maxRecDepth 100000
section
open Go.RowKit An Go.ChangeShapes Go.WideShapes Go.ChangeAt Go.Proofs.Tryz
theorem nG(x:Int):∀l:List Int,(JB x l≥0↔∃a∈l,x≤a)∧ -1≤JB x l
 |[]=>by unfold JB;simp
 |a::r=>by
  have f:=nG x r;unfold JB;by_cases e:x≤a
  ·rw[JT e];exact⟨⟨fun _=>⟨a,iX,e⟩,fun _=>MY _⟩,by omega⟩
  ·rw[DT e];have d:(∃b∈a::r,x≤b)↔∃b∈r,x≤b:=by
    refine⟨fun⟨b,hb,c⟩=> ?_,fun⟨b,hb,c⟩=>⟨b,TV _ hb,c⟩⟩;rcases dU.1 hb with rfl|hb
    ·exact absurd c e
    ·exact⟨b,hb,c⟩
   rw[d];by_cases h:JB x r= -1
   ·rw[JT h];exact⟨⟨fun h=>absurd h (by omega),fun hm=>by have:=f.1.2 hm;omega⟩,by omega⟩
   ·rw[DT h];have g:JB x r≥0:=by omega
    exact⟨⟨fun _=>f.1.1 g,fun _=>by omega⟩,by omega⟩
theorem RH(v:Value)(l:List Nat)(R:Nat)(y:Nat)(a b d:Value)(i:l.length≤1000000):Ud prog 250 #[v,.func (.func 251) #[] #[Da R]] (Ba 1 v l.length (nv l)*ba R 66 #[Z y,a,b,d]) (.bool (!l.all fun n=>decide (n<y))) (Ba 1 v l.length (nv l)*ba R 66 #[Z y,a,b,d]):=by
 have t:=bC v (l.map Int.ofNat) R y a b d (by rw[zU];omega);have e:decide (JB (y:Int) (l.map Int.ofNat)≥0)= !l.all fun n=>decide (n<y):=by
  rw[RV,decide_eq_true_iff,(nG _ _).1,TW,←Bool.not_eq_true,GU];refine⟨fun⟨a,f,he⟩ h=> ?_,fun h=> ?_⟩
  ·obtain⟨n,c,rfl⟩:=nU.1 f;have:=vX (h n c);have he:(y:Int)≤(n:Int):=he;omega
  ·apply YU;intro c;refine h fun n hm=>RU ?_;apply YU;intro g;exact c ⟨Int.ofNat n,nU.2 ⟨n,hm,rfl⟩,show(y:Int)≤(n:Int) by omega⟩
 rw[e,zU]at t;exact t
def ag(m:Fa)(v:Value):Value:=.agg #[Z m.next,Z m.check,Pa m.da,v]
structure lN(m:Fa):Prop where
 next:m.next≤1000000000000
 check:m.check≤1000000000000
 da:m.da<18446744073709551616
 lv:m.ia.length≤100000
 all:m.ia.flatten.length≤100000
 num:∀n∈m.ia.flatten,n≤1000000000000
theorem Tu(m:Fa)(v:Value)(c:lN m):Ud prog 207 #[ag m v] (Ea v m.ia) (.bool (dd m)) (Ea v m.ia):=by
 intro w o K u;have t238:=yy v m.ia c.lv c.all c.num;have t67:=xv v m.ia c.lv c.all;have E:∀x a b d,Ud prog 250 #[x,.func (.func 251) #[] #[Da w.heap.size]] (Ba 1 x m.ia.flatten.length (nv m.ia.flatten)*ba w.heap.size 66 #[Z m.next,a,b,d]) (.bool (!m.ia.flatten.all fun n=>decide (n<m.next))) (Ba 1 x m.ia.flatten.length (nv m.ia.flatten)*ba w.heap.size 66 #[Z m.next,a,b,d]):=fun x a b d=>RH x _ _ _ a b d (by have:=c.all;omega);have I:=(TZ u).new (.cells #[Z m.next,Z m.check,Pa m.da,v] 66);have y:dd m=(decide (m.next≤1000000)&&decide (m.check≤2147483647)&&Rc m.ia&&m.ia.flatten.all fun n=>decide (n<m.next)):=rfl;have l:=c.next;have k:=c.check;have H:¬ ((m.next:Int)<0):=by omega
 have G:¬ ((m.check:Int)<0):=by omega
 rw[y];unfold ag;clear u y c;generalize m.ia.flatten=all at*;generalize m.ia=L at*;generalize m.next=g at*;generalize m.check=h at*;generalize m.da=sd at*;generalize all.all (fun n=>decide (n<g))=q at*;generalize Rc L=p at*;obtain⟨e,t,c2,c3⟩:=I.c4 w.heap.size;obtain⟨f0,f1,f2,f3⟩:=I.f4 w.heap.size;by_cases f:g≤1000000
 ·by_cases i:h≤2147483647
  ·rw[RU f,RU i];have j:¬ (1000000<(g:Int)):=by omega
   have z:¬ (2147483647<(h:Int)):=by omega
   clear f i l k;cases p with
   |false=>go_enter func207,ntmps207;go_wp2_with fail;refine I.k1 t238 fun F J=> ?_;go_wp2;go_ret;exact⟨rfl,J.ya⟩
   |true=>rw[show(true&&true&&true&&q)=q by cases q<;>rfl];go_enter func207,ntmps207;go_wp2_with fail;refine I.k1 t238 fun F J=> ?_;clear e t c2 c3 f0 f1 f2 f3;obtain⟨e,t,c2,c3⟩:=J.c4 w.heap.size;obtain⟨f0,f1,f2,f3⟩:=J.f4 w.heap.size;go_wp2_with fail;refine J.kc t67 fun w2 x s=> ?_;obtain⟨_,r,e,rfl⟩:=s.Cd x;go_wp2_with fail;have C:=s.via (A:=Hf r all e) c8;have B:=E (O r all.length e) (Z h) (Pa sd) v;refine C.k1 B fun M D=> ?_;go_wp2;go_ret;exact⟨by simp,D.ya⟩
  ·rw[yU i];have j:¬ (1000000<(g:Int)):=by omega
   have z:(2147483647<(h:Int)):=by omega
   clear f i l k;go_enter func207,ntmps207;go_wp2;go_ret;exact⟨by simp,I.ya⟩
 ·rw[yU f];have j:(1000000<(g:Int)):=by omega
  clear f l k;go_enter func207,ntmps207;go_wp2;go_ret;exact⟨by simp,I.ya⟩
theorem lG(x:Int):∀l:List Int,(idx x l≥0↔x∈l)∧ -1≤idx x l
 |[]=>by unfold idx;simp
 |a::r=>by
  have c:=lG x r;unfold idx;by_cases e:a=x
  ·rw[JT e];simp[e]
  ·rw[DT e];by_cases h:idx x r= -1
   ·rw[JT h];have f:x∉r:=fun hm=>by have:=c.1.2 hm;omega
    refine⟨⟨fun h=>absurd h (by omega),fun hm=> ?_⟩,by omega⟩;rcases dU.1 hm with b|b
    ·exact absurd b.symm e
    ·exact absurd b f
   ·rw[DT h];have d:idx x r≥0:=by omega
    exact⟨⟨fun _=>TV _ (c.1.1 d),fun _=>by omega⟩,by omega⟩
theorem Wq(v:Value)(l:List Nat)(n:Nat)(c:l.length≤1000000):Ud prog 239 #[v,Z n] (Ba 1 v l.length (nv l)) (.bool (l.contains n)) (Ba 1 v l.length (nv l)):=by
 have t:=aC v (l.map Int.ofNat) n (by rw[zU];omega);have e:decide (idx (n:Int) (l.map Int.ofNat)≥0)=l.contains n:=by rw[RV,decide_eq_true_iff,(lG _ _).1,pW,nU];refine⟨fun⟨a,b,he⟩=> ?_,fun h=>⟨n,h,rfl⟩⟩;have:a=n:=Int.ofNat.inj he;exact this▸b
 rw[e,zU]at t;exact t
theorem aa.le.FE{A:Option Addr}{c n:Nat}{l:List Nat}{xs:List Value}(a:n=l.length)(b:xs=nv l):aa.le (ua 3 1 (O A n c) n xs) (Ua [(A,n,c)] [l]):=by subst a b;exact KZ c8 (KZ (KZ (RZ trivial) NZ) (RZ rfl))
theorem Y.dp{c w:World}{a b:Td}{S R:aa}(qs:List Sq)(L:List (List Nat))[k:Find (jb qs L) S R](h:Y c a b S w):qs.length=L.length∧∀i (d:i<qs.length) (e:i<L.length),qs[i].2.1=L[i].length:=((h.ya (A:=jb qs L)).le (l5 _ _)).qx
def AH(p:Nat×List (List Nat))(x:Value):Value:=.tuple #[if p.1=0 then x else O none 0 0,Z p.1]
def fE(p:Nat×List (List Nat))(x:Value):aa:=if p.1=0 then Ea x p.2 else aa.emp
theorem Sj{A:Option Addr}{c n:Nat}{qs:List Sq}{L:List (List Nat)}(a:L.length≤c)(d:qs.length=L.length)(b:n=qs.length):aa.le (ua 35 1 (O A n c) n (qs.flatMap me)*Ua qs L) (Ea (O A n c) L):=by subst b;exact KZ (MZ c8 (JZ _)) (o6 a d)
theorem PC{g:Nat}{e:TypeId}{u:Value}:aa.le (ba g e #[u]) (ua e 1 (O (some ⟨g,0,none⟩) 1 1) 1 [u]):=j4 (FT _) (FT _) rfl
theorem uQ(v:Value)(L:List (List Nat))(n:Nat)(hn:n≤1000000000000)(h1:L.length≤100000)(h2:L.flatten.length≤100000)(h3:∀n∈L.flatten,n≤1000000000000):Tr prog 186 #[v,Z n] (Ea v L) (AH (og L n)) (fun x=>fE (og L n) x*Ea v L):=by
 intro w o S X;have t238:=yy v L h1 h2 h3;have t67:=xv v L h1 h2;have t240:=qH v L h1 h2;have I:=TZ X;have al:∀k (h:k<L.length),L[k].length≤100000:=fun k h=>KT (by have h:=Nh L k h;have:=Lt L (k+1);omega) h2;have b:og L n=if !Rc L||L.flatten.contains n then(2,[])else if 40≤L.flatten.length then(60,[])else(0,match Ab L with|[]=> [[n]]|a::r=>(a++[n])::r):=rfl
 clear X h3;have a1:∀ (m:Nat) (W:World),m≠0→og L n=(m,[])→Y w o S (Ea v L) W→∃x,Ending.returned (.tuple #[O none 0 0,Z (m:Int)])=Ending.returned (AH (og L n) x)∧Y w o S (fE (og L n) x*Ea v L) W:=by
  intro m W hm hp hI;refine⟨undef,?_,?_⟩
  ·rw[hp];unfold AH;simp[hm]
  ·rw[hp];unfold fE;simp only;rw[DT hm];exact hI.le (RZ trivial)
 have HB:=V a1;have b9:=V al;have bf:=Wq;have f:∀x,Ud prog 239 #[x,Z n] (Ba 1 x L.flatten.length (nv L.flatten)) (.bool (L.flatten.contains n)) (Ba 1 x L.flatten.length (nv L.flatten)):=fun x=>Wq x L.flatten n (by omega);generalize L.flatten=all at*;have ca:¬ ((n:Int)<0):=by omega
 clear a1 al bf;cases p:Rc L with
 |false=>have j:Hid (og L n=(2,[])):=V (by rw[b,p];rfl);rw[p]at t238;clear b p f;go_enter func186,ntmps186;go_wp2_with fail;refine I.kc t67 fun w1 x d=> ?_;obtain⟨_,E,G,rfl⟩:=d.Cd x;go_wp2_with fail;refine d.k1 t238 fun w2 J=> ?_;go_wp2;go_ret2;exact HB.out 2 _ (by decide) j.out J.ya
 |true=>
  rw[p]at t238;cases i:all.contains n with
  |true=>have j:Hid (og L n=(2,[])):=V (by rw[b,p,i];rfl);rw[i]at f;clear b p i;go_enter func186,ntmps186;go_wp2_with fail;refine I.kc t67 fun w1 x d=> ?_;obtain⟨_,E,G,rfl⟩:=d.Cd x;go_wp2_with fail;refine d.k1 t238 fun w2 J=> ?_;go_wp2_with fail;refine(J.Wu (wc (O E all.length G)) (j5 _ _ _ _) (f _)).mono ?_;rintro e w3 ⟨rfl,B⟩;go_wp2;go_ret2;exact HB.out 2 _ (by decide) j.out B.ya
  |false=>
   rw[i]at f;by_cases a8:40≤all.length
   ·have j:Hid (og L n=(60,[])):=V (by rw[b,p,i,DT (by simp),JT a8]);clear b p i;go_enter func186,ntmps186;go_wp2_with fail;refine I.kc t67 fun w1 x d=> ?_;obtain⟨_,E,G,rfl⟩:=d.Cd x;go_wp2_with fail;refine d.k1 t238 fun w2 J=> ?_;go_wp2_with fail;refine(J.Wu (wc (O E all.length G)) (j5 _ _ _ _) (f _)).mono ?_;rintro e w3 ⟨rfl,B⟩;go_wp2;go_ret2;exact HB.out 60 _ (by decide) j.out B.ya
   ·have C:og L n=(0,match Ab L with|[]=> [[n]]|a::r=>(a++[n])::r):=by rw[b,p,i,DT (by simp),DT a8]
    have z:tk L L.length=(Ab L).length:=by rw[Uj L,OT];have:=Vr L L.length;omega
    have av:(Ab L).length≤100000:=by rw[←z];exact KT (Vr _ _) h1
    obtain⟨i3,ak,aM,b5,b6⟩:=info_parts Mi;cases H:Ab L with
    |nil=>
     have j:Hid (og L n=(0,[[n]])):=V (by rw[C,H]);have y:∀x,Zr L x=O x.1 0 0:=fun x=>by unfold Zr;rw[z,H];rfl
     have T:=V y;clear b p i C z av H y;go_enter func186,ntmps186;go_wp2_with fail;refine I.kc t67 fun w1 x d=> ?_;obtain⟨_,E,G,rfl⟩:=d.Cd x;go_wp2_with fail;refine d.k1 t238 fun w2 J=> ?_;go_wp2_with fail;refine(J.Wu (wc (O E all.length G)) (j5 _ _ _ _) (f _)).mono ?_;rintro e w3 ⟨rfl,B⟩;go_wp2_with fail;refine(B.call t240).mono ?_;rintro e D ⟨⟨N,qo⟩,rfl,U⟩;rw[T.out];have F:Y w o S (ba D.heap.size 35 #[O none 0 0]*(ua 3 1 (O none 0 0) 0 []*Ea v L)) (D.alloc (.cells #[O none 0 0] 35)):=(((U.ya (A:=Ea v L)).le (KZ (RZ trivial) (MZ (j0 3 1) (JZ _)))).new _);have b0:(D.alloc (.cells #[O none 0 0] 35)).cell? ⟨D.heap.size,0,none⟩=some (O none 0 0):=F.cells D.heap.size 0;clear U B J d I;go_upto_region 9 with(fail);generalize D.heap.size=g at*;generalize D.alloc (.cells #[O none 0 0] 35)=W at*;go_wp2_with (at_builtin;go_loud (refine Oa (v:=O none 0 0) [Z n] 1 F rfl rfl underlying35 ak aM b5 rfl rfl rfl rfl (by intro u hu;rw[lU.1 hu];rfl) (by omega) (by rw[b6];omega) ?_);intro P c3 w6 Q;have b1:=Q.cells g 0;have b2:=Q.free g 0);go_ret2;have K5:=Q.ra g 0 (O P 1 c3) #[O P 1 c3];refine⟨O (some ⟨g,0,none⟩) 1 1,by rw[j.out];rfl,?_⟩;rw[j.out];show Y w o S (Ea (O (some ⟨g,0,none⟩) 1 1) [[n]]*Ea v L) _;refine K5.le (KZ PZ (MZ (KZ (MZ PC (aa.le.FE (l:=[n]) rfl rfl)) ?_) (JZ _)));exact Sj (qs:=[(P,1,c3)]) (L:=[[n]]) (FT _) rfl rfl
    |cons a R=>
     have j:Hid (og L n=(0,(a++[n])::R)):=V (by rw[C,H]);obtain⟨m,hm⟩:∃m,m=R.length+1:=⟨_,rfl⟩;have K:(Ab L).length=m:=by rw[H,hm];rfl
     have y:∀x,Zr L x=O x.1 m m:=fun x=>by unfold Zr;rw[z,K]
     have aj:∀x,fw L x=ua 35 1 (O x.1 m m) m (x.2.flatMap me)*jb x.2 (a::R):=fun x=>by unfold fw;rw[y,z,K,H]
     have bs:a.length≤100000:=by
      have X:0<L.length:=by have h5:=Vr L L.length;omega
      have e:=b9.out 0 X;have:L[0]=a:=by
       have e2:=H;rw[Uj]at e2;have e3:(L.take (tk L L.length))[0]? =some a:=by rw[e2];rfl
       rw[tW,JT (by omega),PT X]at e3;injection e3
      rwa [this]at e
     rw[K]at av;have HM:=V hm;have T:=V y;have bc:=V aj;have bt:((m:Int)==0)=false:=by rw[ET];omega
     have b7:a.length+1≤1000000000:=by omega
     clear b p i C z H y aj K hm;go_enter func186,ntmps186;go_wp2_with fail;refine I.kc t67 fun w1 x d=> ?_;obtain⟨_,E,G,rfl⟩:=d.Cd x;go_wp2_with fail;refine d.k1 t238 fun w2 J=> ?_;go_wp2_with fail;refine(J.Wu (wc (O E all.length G)) (j5 _ _ _ _) (f _)).mono ?_;rintro e w3 ⟨rfl,B⟩;go_wp2_with fail;refine(B.call t240).mono ?_;rintro e D ⟨⟨N,qo⟩,rfl,U⟩;rw[T.out];have F:=U.ya (A:=fw L (N,qo)*Ea v L);rw[bc.out]at F;dsimp only at F;obtain⟨a7,an⟩:=F.dp qo (a::R);clear U B J d I;cases qo with
     |nil=>cases a7
     |cons q qs=>
      obtain⟨s,q2,t⟩:=q;have bn:q2=a.length:=an 0 (GX _) (GX _);subst bn;have aq:qs.length=R.length:=by simpa using a7
      have J6:Y w o S (Hf s a t*(ua 35 1 (O N m m) m (O s a.length t::qs.flatMap me)*(jb qs R*Ea v L))) D:=by have e1:aa.le (jb ((s,a.length,t)::qs) (a::R)) (Hf s a t*jb qs R):=KZ NZ QZ;have e2:aa.le (ua 35 1 (O N m m) m (((s,a.length,t)::qs).flatMap me)*jb ((s,a.length,t)::qs) (a::R)) (Hf s a t*(ua 35 1 (O N m m) m (O s a.length t::qs.flatMap me)*jb qs R)):=KZ (MZ (JZ _) e1) (KZ PZ (KZ (MZ NZ (JZ _)) OZ));exact F.le (KZ (MZ e2 (JZ _)) (KZ OZ (MZ (JZ _) OZ)))
      have HQ:=V aq;obtain⟨g,rfl,M⟩:=J6.Mc (A:=N) (c:=m) (n:=m) (xs:=O s a.length t::qs.flatMap me) (e:=35) (sz:=1) (by simp);have b0:=M 0 _ rfl;clear M a7 an F aq;have c1:(0:Int)<m:=by have:=HM.out;omega
      have c9:0<m:=by omega
      go_upto_region 9 with(fail);go_wp2_with (at_builtin;go_loud (refine Oa (v:=O s a.length t) [Z n] 1 J6 rfl rfl underlying35 ak aM b5 rfl rfl rfl rfl (by intro u hu;rw[lU.1 hu];rfl) b7 (by rw[b6];omega) ?_);intro P c3 w6 Q;obtain⟨g2,bm,a6⟩:=Q.Mc (A:=some ⟨g,0,none⟩) (c:=m) (n:=m) (xs:=O s a.length t::qs.flatMap me) (e:=35) (sz:=1) (by simp);cases bm;have b1:=a6 0 _ rfl;have K5:=Q.Nk (g:=g) (c:=m) (n:=m) 0 (O P (a.length+1) c3);have b2:=K5.2);go_ret2;refine⟨O (some ⟨g,0,none⟩) m m,by rw[j.out];rfl,?_⟩;rw[j.out];show Y w o S (Ea (O (some ⟨g,0,none⟩) m m) ((a++[n])::R)*Ea v L) _;refine K5.1.le (KZ (MZ (JZ _) PZ) (KZ PZ (MZ ?_ (JZ _))));refine KZ (MZ (JZ _) (KZ (MZ (aa.le.FE (l:=a++[n]) (by simp) (by rw[Vj];rfl)) (l5 _ _)) (aa.le.Nu _ _ _ _))) ?_;exact Sj (qs:=(P,a.length+1,c3)::qs) (L:=(a++[n])::R) (by rw[HM.out];exact FT _) (by simp[HQ.out]) (by rw[HM.out];simp[HQ.out])
theorem PD{qs:List Sq}{L:List (List Nat)}(d:qs.length=L.length)(c:∀i (a:i<qs.length) (b:i<L.length),qs[i].2.1=L[i].length):∀k,k≤qs.length→Xr qs k=tk L k
 |0,_=>rfl
 |k+1,h=>by
  unfold Xr tk;have a:k<qs.length:=by omega
  have b:k<L.length:=by omega
  rw[PD d c k (by omega),PT a,kU,PT b];show(if(some (qs[k].2.1)).getD 0=0 then _ else _)=if((some L[k]).getD []).length=0 then _ else _
  rw[show(some (qs[k].2.1)).getD 0=qs[k].2.1 from rfl,show((some L[k]).getD [])=L[k] from rfl,c k a b]
def Aq(m:Fa):Bs:=Se++put m.next 4++put m.check 4++put m.da 8++put (Ab m.ia).length 1
theorem bB(m:Fa):Xb m=Qg (Aq m++(Ab m.ia).flatMap Sd):=rfl
def Wn(m:Fa):Value:=if dd m then .tuple #[Ha (Xb m),Z 0]else .tuple #[Ha [],Z 2]
theorem Qh{m:Fa}(h:dd m=true):m.next≤1000000∧m.check≤2147483647∧m.ia.length≤5∧m.ia.flatten.length≤40∧∀n∈m.ia.flatten,n<1000000:=by unfold dd Rc at h;simp only[aU,bU]at h;obtain⟨⟨⟨a,b⟩,⟨c,d⟩,_⟩,e⟩:=h;refine⟨a,b,c,d,fun n f=> ?_⟩;have:=GU.1 e n f;simp only[bU]at this;omega
def Jy(m:Fa)(k:Nat):Bs:=Aq m++(m.ia.take k).flatMap Sd
def Fw(m:Fa)(k:Nat)(l:List Nat)(j:Nat):Bs:=Jy m k++put l.length 1++(l.take j).flatMap fun n=>put n 4
theorem ay(m:Fa):Jy m 0=Aq m:=by unfold Jy;simp
theorem uD(m:Fa)(k:Nat)(l:List Nat):Fw m k l 0=Jy m k++put l.length 1:=by unfold Fw;simp
theorem rB(m:Fa)(k:Nat)(h:k<m.ia.length):Fw m k m.ia[k] m.ia[k].length=Jy m (k+1):=by unfold Fw Jy Sd;rw[UU,MU,PT h,XU];simp[iU]
theorem tD(m:Fa)(k:Nat)(l:List Nat)(j:Nat)(h:j<l.length):Fw m k l (j+1)=Fw m k l j++put l[j] 4:=by unfold Fw;rw[MU,PT h,XU];simp[iU]
theorem CK(l:List Nat):(l.flatMap fun n=>put n 4).length=4*l.length:=by
 induction l with
 |nil=>rfl
 |cons a r b=>rw[AU,CT,b,Jb,UT];omega
theorem sB(m:Fa)(h:∀k (h:k<m.ia.length),m.ia[k].length≤40):∀k,k≤m.ia.length→(Jy m k).length≤21+161*k
 |0,_=>by rw[ay];unfold Aq Se;simp[Jb]
 |k+1,a=>by have c:=sB m h k (by omega);have e:=rB m k (by omega);have b:=h k (by omega);rw[←e];unfold Fw;rw[CT,CT,Jb,CK,UU];omega
theorem iH(m:Fa)(k:Nat)(l:List Nat)(j:Nat)(h:l.length≤40):(Fw m k l j).length≤(Jy m k).length+161:=by unfold Fw;rw[CT,CT,Jb,CK,OT];omega
theorem KG(m:Fa)(v:Value)(Q:lN m):Ud prog 275 #[ag m v] (Ea v m.ia) (Wn m) (Ea v m.ia):=by
 intro w o r0 h0;have t207:=Tu m v Q;have C:=(TZ h0).new (.cells #[.int .i64 m.next,.int .i64 m.check,.int .u64 m.da,v] 66);unfold ag at t207;cases s:dd m with
 |false=>have HV:Hid (Wn m= .tuple #[.string (mk []),.int .i64 2]):=V (by unfold Wn;rw[s];rfl);have I:=C.ya (A:=Ea v m.ia);rw[s]at t207;have HB:=V C;unfold ag;clear h0 s Q;obtain⟨b,p,c2,c3⟩:=C.c4 w.heap.size;obtain⟨f0,f1,f2,f3⟩:=C.f4 w.heap.size;go_enter func275,ntmps275;go_wp2_with fail;refine C.k1 t207 fun w1 J=> ?_;go_wp2_with fail;go_ret2;exact⟨by rw[HV.out];rfl,J.ya⟩
 |true=>
  obtain⟨b1,b2,b3,b4,b5⟩:=Qh s;have HV:Hid (Wn m= .tuple #[.string (mk (Xb m)),.int .i64 0]):=V (by unfold Wn;rw[s];rfl);obtain⟨A,c,qs,rfl,N,G,he,I⟩:=C.dr v m.ia;rw[s]at t207;have t295:=MP A c qs (by omega) (by omega);have B:=PD N he qs.length (FT _);obtain⟨a,U⟩:∃a,Xr qs qs.length=a:=⟨_,rfl⟩;rw[U]at B t295;have ca:a≤qs.length:=by rw[B];exact Vr _ _
  have F:Ab m.ia=m.ia.take a:=by rw[Uj,B,N]
  have R:(Ab m.ia).length=a:=by rw[F,OT];omega
  have r:Jy m a=Aq m++(Ab m.ia).flatMap Sd:=by unfold Jy;rw[F]
  have L:∀k (h:k<m.ia.length),m.ia[k].length≤40:=fun k h=>KT (by have h:=Nh m.ia k h;have:=Lt m.ia (k+1);omega) b4;have f:=sB m L;have t139:=nr (Jy m a) (by have:=f a (by omega);omega);rw[r,←bB]at t139;rw[←r]at t139;have t1:=Pg m.next 4 (by omega) (by omega) (by omega);have t2:=Pg m.check 4 (by omega) (by omega) (by omega);have t3:=Pg m.da 8 (by omega) (by omega) Q.da;have t4:=Pg a 1 (by omega) (by omega) (by omega);have hH:Aq m=(((105::109::97::112::put m.next 4)++put m.check 4)++put m.da 8)++put a 1:=by unfold Aq Se;rw[R];rfl
  have c9:(⟨#[105,109,97,112]⟩:ByteArray)=mk [105,109,97,112]:=rfl;have hle:aa.le ((Ba 1 (.slice A qs.length c) qs.length (qs.flatMap me)*Ua qs m.ia)*(aa.obj w.heap.size (.cells #[.int .i64 m.next,.int .i64 m.check,.int .u64 m.da,.slice A qs.length c] 66)*aa.emp)) (Ea (.slice A qs.length c) m.ia):=KZ QZ (o6 G N);have ak:=V hle;have a6:IntKind.u64.wrap (m.next:Int)=m.next:=by rw[pU];omega
  have cc:IntKind.u64.wrap (m.check:Int)=m.check:=by rw[pU];omega
  have cf:IntKind.u64.wrap (a:Int)=a:=by rw[pU];omega
  have al:=V L;have an:=V f;have HH:=V hH;have HE:=V he;have HQ:=V N;have HC:=V G;have H5:=V b5;have bm:a≤5:=by omega
  have bn:qs.length≤5:=by omega
  unfold ag;clear h0 s r F R B U hle L f hH he N G b1 b2 b3 b4 b5 Q;generalize m.next=nx at*;generalize m.check=ck at*;generalize m.da=sd at*;obtain⟨b,p,c2,c3⟩:=I.c4 w.heap.size;obtain⟨f0,f1,f2,f3⟩:=I.f4 w.heap.size;go_enter func275,ntmps275;go_wp2_with fail;refine(I.Wu ak.out (aa.Ro.dr _ _) t207).mono ?_;rintro e w1 ⟨rfl,J⟩;clear b p c2 c3 f0 f1 f2 f3;obtain⟨b,p,c2,c3⟩:=J.c4 w.heap.size;obtain⟨f0,f1,f2,f3⟩:=J.f4 w.heap.size;go_wp2_with fail;refine J.k1 t295 fun w2 E=> ?_;clear b p c2 c3 f0 f1 f2 f3 J I;have b:w2.cell? ⟨w.heap.size,0,none⟩=some (.int .i64 nx):=E.cells w.heap.size 0;have p:w2.cell? ⟨w.heap.size,1,none⟩=some (.int .i64 ck):=E.cells w.heap.size 1;have c2:w2.cell? ⟨w.heap.size,2,none⟩=some (.int .u64 sd):=E.cells w.heap.size 2;have q0:=IT b;have q1:=IT p;have q2:=IT c2;go_wp2_with fail;refine OU (by kernel_rfl) (by kernel_rfl) ?_;repeat (quiet_step ((first|(go_at_call_of 140 (Value.int .u64 (nx:Int));refine gU (t1 _))|(go_at_call_of 140 (Value.int .u64 (ck:Int));refine gU (t2 _))|(go_at_call_of 140 (Value.int .u64 (sd:Int));refine gU (t3 _))|(go_at_call_of 140 (Value.int .u64 (a:Int));refine gU (t4 _)))))
  refine fU ?_;first|(rintro _ ⟨D,rfl⟩)|(intro D)
  have aq:=jU w2 D.d D.os;generalize Go.Sort.grow (redrawn w2 D.d) D.os=wq at*;clear D;have J3:=E.below aq;clear q0 q1 q2 b p c2 t1 t2 t3 t4;go_wp2_with fail;have J4:=J3.ya (A:=Ba 1 (.slice A qs.length c) qs.length (qs.flatMap me)*Ua qs m.ia);go_loopw [5,37] (fun x y wr=>∃k:Nat,k≤a∧y= .int .i64 k∧x= .string (mk (Jy m k))∧Y w o r0 (Ba 1 (.slice A qs.length c) qs.length (qs.flatMap me)*Ua qs m.ia) wr) (fun _ y _=>a-(intOf y).toNat);case atStart=>exact⟨0,WT _,rfl,by rw[ay,HH.out];simp,J4⟩
  case round=>
   obtain⟨k,hk,rfl,rfl,K⟩:=hrel;clear J4 J3 E;by_cases bt:k<a
   ·have H:k<qs.length:=by omega
    have i:k<m.ia.length:=by have:=HQ.out;omega
    have X:=HE.out k H i;have a7:=al.out k i;have b6:=an.out k (by omega);have W:∀n∈m.ia[k],n<1000000:=fun n hn=>H5.out n (FV.2 ⟨_,XT i,hn⟩);obtain⟨g,off,rfl,b9,S,G⟩:=K.we A c qs vg k H (by decide);have b:=S _ rfl;rw[wU]at b;have u:aa.le (Ba 1 (.slice (some ⟨g,off,none⟩) qs.length c) qs.length (qs.flatMap me)*Ua qs m.ia) (Ba 1 (zp qs[k]) m.ia[k].length (nv m.ia[k])):=KZ NZ (KZ QZ (l8 qs m.ia k H i));have HA:Hid (Fw m k m.ia[k] m.ia[k].length=Jy m (k+1)):=V (rB m k i);have HZ:Hid (∀l,Fw m k l 0=Jy m k++put l.length 1):=V fun l=>uD m k l;have cb:(Jy m k).length≤2000:=by omega
    have a8:=V W;clear G S W b6;generalize qs[k]=q at*;obtain⟨a1,a2,a3⟩:=q;dsimp only at X;subst X;unfold zp at u;dsimp only at u;generalize m.ia[k]=l at*;have aj:=V u;have t1:=Pg l.length 1 (by omega) (by omega) (by omega);have a6:IntKind.u64.wrap (l.length:Int)=l.length:=by rw[pU];omega
    clear u;go_wp2_with fail;refine K.kp t1 fun w5 P=> ?_;go_wp2_with fail;go_loopw [5,49] (fun x y wr=>∃j:Nat,j≤l.length∧y= .int .i64 j∧x= .string (mk (Fw m k l j))∧Y w o r0 (Ba 1 (.slice (some ⟨g,off,none⟩) qs.length c) qs.length (qs.flatMap me)*Ua qs m.ia) wr) (fun _ y _=>l.length-(intOf y).toNat);case atStart=>exact⟨0,WT _,rfl,by rw[HZ.out],P⟩
    case round=>
     obtain⟨j,hj,rfl,rfl,M⟩:=hrel;clear K P b t1;by_cases z:j<l.length
     ·have hb:=a8.out l[j] (XT z);have Min:=M.le aj.out;obtain⟨_,A5,c5,b7,t⟩:=Min.sl (.slice a1 l.length a3);cases b7;obtain⟨g5,bs,rfl,bc,T⟩:=t (by intro h;have:=zh l j z;rw[h]at this;cases this);have b:=T j _ (zh l j z);have t1:=Pg l[j] 4 (by omega) (by omega) (by omega);have a6:IntKind.u64.wrap (l[j]:Int)=l[j]:=by rw[pU];omega
      have av:=iH m k l j a7;have HS:Hid (Fw m k l (j+1)=Fw m k l j++put l[j] 4):=V (tD m k l j z);have bf:(Fw m k l j).length≤3000:=by omega
      clear t T Min av;generalize l[j]=x at*;generalize Fw m k l j=si at*;go_wp2_with fail;refine M.kp t1 fun w6 M2=> ?_;go_wp2_with fail;go_roundw;case rel=>exact⟨j+1,by omega,by go_num,by rw[HS.out],M2⟩
      case measure=>simp[intOf];omega
     ·have aM:j=l.length:=by omega
      subst aM;go_wp2_with fail;go_roundw;case rel=>exact⟨k+1,by omega,by go_num,by rw[HA.out],M⟩
      case measure=>simp[intOf];omega
   ·have b0:k=a:=by omega
    subst b0;go_wp2_with fail;refine K.kp t139 fun w5 P=> ?_;go_wp2_with fail;go_ret2;exact⟨by rw[HV.out];rfl,P.le (o6 HC.out HQ.out)⟩
def Hn(s:Bs)(n:Nat):Bs:=if s.length<n then []else s.drop n
def dA(s:Bs)(a:Bool)(n:Nat):Bool:=if s.length<n then false else a
theorem zR(s:Bs)(a:Bool)(n:Nat):US s a n=#[Ha (Hn s n),.bool (dA s a n)]:=by
 unfold US Hn dA;by_cases h:s.length<n
 ·rw[JT h,JT h,JT h]
 ·rw[DT h,DT h,DT h]
theorem takeN(R:Nat)(s:Bs)(a:Bool)(n:Nat)(c:s.length≤100000000)(b:n≤8):Ud prog 284 #[Da R,Z n] (ba R 328 #[Ha s,.bool a]) (Pa (Hw s n:Nat)) (ba R 328 #[Ha (Hn s n),.bool (dA s a n)]):=by
 have:=FP R s a n c b
 rwa [zR]at this
theorem ov(s:Bs)(n:Nat)(a:n≤8):Hw s n<256^n:=by
 unfold Hw;split
 ·exact Nat.pos_of_ne_zero (by simp)
 ·have:=Sh (s.take n);rw[OT]at this;exact aV this (XV (by omega) (Nat.min_le_left _ _))
theorem Ai(s:Bs)(n:Nat):(Hn s n).length≤s.length:=by
 unfold Hn;split
 ·exact WT _
 ·rw[cU];omega
structure Head(t:Bs)(v1 v2 v3 v4:Nat)(s:Bs)(ok:Bool):Prop where
 len:s.length≤t.length
 b1:v1<4294967296
 b2:v2<4294967296
 b3:v3<18446744073709551616
 b4:v4<256
 fI:21≤t.length→ok=true∧s=t.drop 21∧v1=num ((t.drop 4).take 4)∧v2=num ((t.drop 8).take 4)∧v3=num ((t.drop 12).take 8)∧v4=(t[20]?.getD 0).toNat
 bad:t.length<21→ok=false∧v4=0
theorem rS(b:UInt8):num [b]=b.toNat:=by simp[num]
theorem nO(t:Bs)(p:4≤t.length):∃v1 v2 v3 v4 s1 g s2 i a j l k,Hw (t.drop 4) 4=v1∧Hn (t.drop 4) 4=s1∧dA (t.drop 4) true 4=g∧Hw s1 4=v2∧Hn s1 4=s2∧dA s1 g 4=i∧Hw s2 8=v3∧Hn s2 8=a∧dA s2 i 8=j∧Hw a 1=v4∧Hn a 1=l∧dA a j 1=k∧s1.length≤t.length∧s2.length≤t.length∧a.length≤t.length∧Head t v1 v2 v3 v4 l k:=by
 refine⟨_,_,_,_,_,_,_,_,_,_,_,_,rfl,rfl,rfl,rfl,rfl,rfl,rfl,rfl,rfl,rfl,rfl,rfl,?_,?_,?_,?_⟩
 ·exact KT (Ai _ _) (by rw[cU];omega)
 ·exact KT (Ai _ _) (KT (Ai _ _) (by rw[cU];omega))
 ·exact KT (Ai _ _) (KT (Ai _ _) (KT (Ai _ _) (by rw[cU];omega)))
 ·refine⟨?_,ov _ 4 (by omega),ov _ 4 (by omega),ov _ 8 (by omega),ov _ 1 (by omega),fun h=> ?_,fun h=> ?_⟩
  ·exact KT (Ai _ _) (KT (Ai _ _) (KT (Ai _ _) (KT (Ai _ _) (by rw[cU];omega))))
  ·have b:¬ (t.drop 4).length<4:=by rw[cU];omega
   have c:¬ (t.drop 8).length<4:=by rw[cU];omega
   have d:¬ (t.drop 12).length<8:=by rw[cU];omega
   have e:¬ (t.drop 20).length<1:=by rw[cU];omega
   have d1:Hn (t.drop 4) 4=t.drop 8:=by unfold Hn;rw[DT b,jV]
   have d2:Hn (t.drop 8) 4=t.drop 12:=by unfold Hn;rw[DT c,jV]
   have d3:Hn (t.drop 12) 8=t.drop 20:=by unfold Hn;rw[DT d,jV]
   have d4:Hn (t.drop 20) 1=t.drop 21:=by unfold Hn;rw[DT e,jV]
   rw[d1,d2,d3,d4];refine⟨?_,rfl,?_,?_,?_,?_⟩
   ·unfold dA;rw[DT e,DT d,DT c,DT b]
   ·unfold Hw;rw[DT b]
   ·unfold Hw;rw[DT c]
   ·unfold Hw;rw[DT d]
   ·unfold Hw;rw[DT e,FU (by omega:20<t.length),PT (by omega:20<t.length)];exact rS _
  ·have m:(t.drop 4).length<17:=by rw[cU];omega
   have n:(Hn (t.drop 4) 4).length<13:=by
    unfold Hn;split
    ·simp
    ·rw[cU];omega
   have o:(Hn (Hn (t.drop 4) 4) 4).length<9:=by
    generalize Hn (t.drop 4) 4=s at*;unfold Hn;split
    ·simp
    ·rw[cU];omega
   have f:(Hn (Hn (Hn (t.drop 4) 4) 4) 8).length<1:=by
    generalize Hn (Hn (t.drop 4) 4) 4=s at*;unfold Hn;split
    ·simp
    ·rw[cU];omega
   generalize Hn (Hn (Hn (t.drop 4) 4) 4) 8=s at*;exact⟨by unfold dA;rw[JT f],by unfold Hw;rw[JT f]⟩
def uJ(c:Nat)(r:Bs)(b:Bool)(i:Nat)(a:List Nat)(e:Bs)(d:Bool):Prop:=(d=true→b=true∧Tj c r=(Tj i e).map fun p=>(a++p.1,p.2))∧(d=false→b=false∨Tj c r=none)
theorem uJ.start(c:Nat)(r:Bs)(a:Bool):uJ c r a c [] r a:=by refine⟨fun h=>⟨h,?_⟩,fun h=> .inl h⟩;cases Tj c r<;>rfl
theorem uJ.step{c i:Nat}{r b:Bs}{f:Bool}{d:List Nat}(h:uJ c r f (i+1) d b true):uJ c r f i (d++[Hw b 4]) (Hn b 4) (dA b true 4):=by
 obtain⟨g,e⟩:=h.1 rfl;unfold Hw Hn dA;by_cases a:b.length<4
 ·rw[JT a,JT a,JT a];refine⟨fun h=>(by cases h),fun _=> .inr ?_⟩;rw[e];unfold Tj;rw[JT a];rfl
 ·rw[DT a,DT a,DT a];refine⟨fun _=>⟨g,?_⟩,fun h=>(by cases h)⟩;rw[e];conv=>lhs;unfold Tj
  rw[DT a];cases Tj i (b.drop 4)with
  |none=>rfl
  |some p=>simp
theorem uJ.done{c:Nat}{r d:Bs}{b:Bool}{a:List Nat}(h:uJ c r b 0 a d true):b=true∧Tj c r=some (a,d):=by obtain⟨e,f⟩:=h.1 rfl;exact⟨e,by rw[f];simp[Tj]⟩
def Fu(n:Nat)(d:Bs)(b:Bool)(k:Nat)(a:List (List Nat))(e:Bs)(c:Bool):Prop:=(c=true→b=true∧Cg n d=(Cg (n-k) e).map fun p=>(a++p.1,p.2))∧(c=false→b=false∨Cg n d=none)
theorem Fu.start(n:Nat)(a:Bs)(b:Bool):Fu n a b 0 [] a b:=by refine⟨fun h=>⟨h,?_⟩,fun h=> .inl h⟩;rw[yY];cases Cg n a<;>rfl
theorem Fu.step{n k i:Nat}{m c d:Bs}{j a:Bool}{g:List (List Nat)}{l:List Nat}(h:Fu n m j k g c true)(u:k<n) (hi:uJ (Hw c 1) (Hn c 1) (dA c true 1) i l d a) (s:a=true→i=0):Fu n m j (k+1) (g++[l]) d a:=by
 obtain⟨q,f⟩:=h.1 rfl;rw[show n-k=(n-(k+1))+1 by omega]at f;cases c with
 |nil=>
  have e:dA [] true 1=false:=rfl;rw[e]at hi;have t:a=false:=by
   cases a with
   |false=>rfl
   |true=>have:=(hi.1 rfl).1;cases this
  subst t;exact⟨fun h=>(by cases h),fun _=> .inr (by rw[f];rfl)⟩
 |cons b r=>
  have ev:Hw (b::r) 1=b.toNat:=by unfold Hw;rw[DT (by simp)];exact rS b
  have es:Hn (b::r) 1=r:=by unfold Hn;rw[DT (by simp)];rfl
  have o:dA (b::r) true 1=true:=by unfold dA;rw[DT (by simp)]
  rw[ev,es,o]at hi;cases a with
  |false=>
   refine⟨fun h=>(by cases h),fun _=> .inr ?_⟩;have:=(hi.2 rfl).resolve_left (by simp);rw[f];conv=>lhs;unfold Cg
   dsimp only;rw[this];rfl
  |true=>
   obtain rfl:=s rfl;have:=hi.done.2;refine⟨fun _=>⟨q,?_⟩,fun h=>(by cases h)⟩;rw[f];conv=>lhs;unfold Cg
   dsimp only;rw[this];dsimp only;cases Cg (n-(k+1)) d with
   |none=>rfl
   |some p=>simp
theorem Fu.done{n:Nat}{d c:Bs}{b:Bool}{a:List (List Nat)}(h:Fu n d b n a c true):b=true∧Cg n d=some (a,c):=by obtain⟨e,f⟩:=h.1 rfl;exact⟨e,by rw[f,AW];simp[Cg]⟩
def gQ(o:Option Fa)(v:Value):Value:=match o with
 |none=> .tuple #[.agg #[Z 0,Z 0,Pa 0,O none 0 0],Z 90]
 |some m=> .tuple #[ag m v,Z 0]
def CL(o:Option Fa)(v:Value):aa:=match o with
 |none=>aa.emp
 |some m=>Ea v m.ia
theorem MO(s:Bs)(hs:s.length≤2000000):Tr prog 249 #[.string (mk s)] aa.emp (fun v:Value=>gQ (qg s) v) (fun v=>CL (qg s) v):=by
 intro w o H h0;have I:=(TZ h0).new (.cells #[.int .i64 0,.int .i64 0,.int .u64 0,.slice none 0 0] 66);have t98:=iB s (by omega);have av:∀W:World,Y w o H aa.emp W→qg s=none→∃x:Value,Ending.returned (.tuple #[.agg #[.int .i64 0,.int .i64 0,.int .u64 0,.slice none 0 0],.int .i64 90])=Ending.returned (gQ (qg s) x)∧Y w o H (CL (qg s) x) W:=fun W hW h=>⟨undef,by rw[h];rfl,by rw[h];exact hW⟩;have HF:=V av;clear h0 av;have h9:(⟨#[105,109,97,112]⟩:ByteArray)=mk [105,109,97,112]:=rfl;cases G:Eg s with
 |none=>have hg:Hid (qg s=none):=V (by unfold qg;rw[G]);rw[G]at t98;unfold Mx at t98;dsimp only at t98;clear G;go_enter func249,ntmps249;go_wp2_with fail;refine I.kp t98 fun w1 J=> ?_;obtain⟨c0,f,c2,c3⟩:=J.c4 w.heap.size;obtain⟨f0,f1,f2,f3⟩:=J.f4 w.heap.size;go_wp2_with fail;refine ZT (v:=.tuple #[.agg #[.int .i64 0,.int .i64 0,.int .u64 0,.slice none 0 0],.int .i64 90]) (by simp[results,results249,go_sem,c0,f,c2,c3]) rfl ?_;exact HF.out _ ((((((J.ra w.heap.size 0 (.int .i64 0) _ rfl).ra w.heap.size 1 (.int .i64 0) _ rfl).ra w.heap.size 2 (.int .u64 0) _ rfl).ra w.heap.size 3 (.slice none 0 0) _ rfl)).le l7) hg.out
 |some t=>
  have z:qg s=if t.length<4∨t.take 4≠Se then none else
   if t.length<21 then none else
   match Cg (t[20]?.getD 0).toNat (t.drop 21)with
   |none=>none
   |some (l,r)=>if r.isEmpty∧dd ⟨num ((t.drop 4).take 4),num ((t.drop 8).take 4),num ((t.drop 12).take 8),l⟩=true∧Xb ⟨num ((t.drop 4).take 4),num ((t.drop 8).take 4),num ((t.drop 12).take 8),l⟩=s then some ⟨num ((t.drop 4).take 4),num ((t.drop 8).take 4),num ((t.drop 12).take 8),l⟩else none:=by unfold qg;rw[G];rfl
  have ds:t.length≤2000000:=by
   unfold Eg at G;split at G
   ·cases G
   ·split at G
    ·cases G;rw[OT];omega
    ·cases G
  rw[G]at t98;unfold Mx at t98;dsimp only at t98;have T:=V z;clear G z;by_cases h4:t.length<4
  ·have hg:Hid (qg s=none):=V (by rw[T.out,JT (.inl h4)]);have eb:(t.length:Int)<4:=by omega
   clear T;go_enter func249,ntmps249;go_wp2_with fail;refine I.kp t98 fun w1 J=> ?_;obtain⟨c0,f,c2,c3⟩:=J.c4 w.heap.size;obtain⟨f0,f1,f2,f3⟩:=J.f4 w.heap.size;go_wp2_with fail;refine ZT (v:=.tuple #[.agg #[.int .i64 0,.int .i64 0,.int .u64 0,.slice none 0 0],.int .i64 90]) (by simp[results,results249,go_sem,c0,f,c2,c3]) rfl ?_;exact HF.out _ ((((((J.ra w.heap.size 0 (.int .i64 0) _ rfl).ra w.heap.size 1 (.int .i64 0) _ rfl).ra w.heap.size 2 (.int .u64 0) _ rfl).ra w.heap.size 3 (.slice none 0 0) _ rfl)).le l7) hg.out
  ·have eb:¬ ((t.length:Int)<4):=by omega
   have gl:∀w,(Instr.slice 9 (.string (mk t)) none (some (.int .i64 4)) none).run prog w= .ok (.string (mk (t.take 4))) w:=jm (by omega) (by congr 1<;>omega);by_cases hf:t.take 4=Se
   ·have ee:(t.take 4==[105,109,97,112])=true:=by rw[hf];rfl
    have z:qg s=if t.length<21 then none else
     match Cg (t[20]?.getD 0).toNat (t.drop 21)with
     |none=>none
     |some (l,r)=>if r.isEmpty∧dd ⟨num ((t.drop 4).take 4),num ((t.drop 8).take 4),num ((t.drop 12).take 8),l⟩=true∧Xb ⟨num ((t.drop 4).take 4),num ((t.drop 8).take 4),num ((t.drop 12).take 8),l⟩=s then some ⟨num ((t.drop 4).take 4),num ((t.drop 8).take 4),num ((t.drop 12).take 8),l⟩else none:=by
     rw[T.out,DT (fun h=>h.elim h4 (fun h=>h hf))]
    clear T;obtain⟨v1,v2,v3,v4,s1,o1,s2,o2,s3,o3,Q,S,e1,e2,e3,e4,e5,e6,e7,e8,e9,ca,cb,cc,l1,l2,l3,hd⟩:=nO t (by omega);have a7:∀l rs ok,Fu v4 Q S v4 l rs ok∨(ok=false∧∃k,Fu v4 Q S k l rs ok)→qg s=if ok=true∧rs=[]∧dd ⟨v1,v2,v3,l⟩=true∧Xb ⟨v1,v2,v3,l⟩=s then some ⟨v1,v2,v3,l⟩else none:=by
     intro l rs ok bm;by_cases b5:t.length<21
     ·have fe:=(hd.bad b5).1;have bf:ok=false:=by
       cases ok with
       |false=>rfl
       |true=>
        rcases bm with h|⟨h,_⟩
        ·have:=(h.1 rfl).1;rw[fe]at this;cases this
        ·cases h
      rw[z,JT b5,bf,DT (by simp)]
     ·obtain⟨g1,g2,g3,g4,g5,g6⟩:=hd.fI (by omega);rw[z,DT b5,←g6,←g2,←g3,←g4,←g5];cases ok with
      |false=>
       have hn:Cg v4 Q=none:=by
        rcases bm with h|⟨_,k,h⟩
        ·exact(h.2 rfl).resolve_left (by rw[g1];simp)
        ·exact(h.2 rfl).resolve_left (by rw[g1];simp)
       rw[hn,DT (by simp)]
      |true=>
       have hn:=(bm.resolve_right (by simp)).done.2;rw[hn];dsimp only;by_cases hr:rs=[]
       ·subst hr;simp
       ·rw[DT (fun h=>hr (BW.1 h.1)),DT (fun h=>hr h.2.1)]
    have b0:=V a7;have ch:=hd.b1;have ck:=hd.b2;have b7:=hd.b3;have cl:=hd.b4;have cF:=hd.len;clear z a7 hd h4 hf;generalize t.take 4=t4 at*;have gr:∀w,(Instr.slice 9 (.string (mk t)) (some (.int .i64 4)) none none).run prog w= .ok (.string (mk (t.drop 4))) w:=qm (by omega) (by congr 1<;>omega);have cp:(t.drop 4).length≤2000000:=by rw[cU];omega
    generalize t.drop 4=td at*;have k1:=fun R=>takeN R td true 4 (by omega) (by omega);have k2:=fun R=>takeN R s1 o1 4 (by omega) (by omega);have k3:=fun R=>takeN R s2 o2 8 (by omega) (by omega);have k4:=fun R=>takeN R s3 o3 1 (by omega) (by omega);rw[e1,e2,e3]at k1;rw[e4,e5,e6]at k2;rw[e7,e8,e9]at k3;rw[ca,cb,cc]at k4;have z1:IntKind.i64.wrap (v1:Int)=v1:=RT _ (by omega);have z2:IntKind.i64.wrap (v2:Int)=v2:=RT _ (by omega);have z4:IntKind.i64.wrap (v4:Int)=v4:=RT _ (by omega);clear e1 e2 e3 e4 e5 e6 e7 e8 e9 ca cb cc;go_enter func249,ntmps249;go_wp2_with fail;refine I.kp t98 fun w1 J=> ?_;have J1:=J.Wa (.cells #[.string (mk td),.bool true] 328) w1.heap.size rfl;generalize hR:w1.heap.size=R at*;generalize hB:w.heap.size=B at*;go_wp2_with fail;refine J1.k1 (k1 R) fun w2 J2=> ?_;go_wp2_with fail;refine J2.k1 (k2 R) fun w3 J3=> ?_;go_wp2_with fail;refine J3.k1 (k3 R) fun w4 J4=> ?_;have J5:Y w o H (aa.wm w4.heap.size 66 #[.int .i64 v1,.int .i64 v2,.int .u64 v3,.slice none 0 0]*(aa.wm R 328 #[.string (mk s3),.bool o3]*aa.wm B 66 #[.int .i64 0,.int .i64 0,.int .u64 0,.slice none 0 0])) (w4.alloc (.cells #[.int .i64 v1,.int .i64 v2,.int .u64 v3,.slice none 0 0] 66)):=(J4.ya (A:=aa.wm R 328 #[.string (mk s3),.bool o3]*aa.wm B 66 #[.int .i64 0,.int .i64 0,.int .u64 0,.slice none 0 0])).Wa (.cells #[.int .i64 v1,.int .i64 v2,.int .u64 v3,.slice none 0 0] 66) w4.heap.size rfl;generalize hC:w4.heap.size=C at*;go_wp2_with fail;refine J5.k1 (k4 R) fun w5 J6=> ?_;go_wp2_with fail;have J7:Y w o H (ua 35 1 (.slice none 0 0) 0 (([]:List Sq).flatMap me)*(jb [] []*(aa.wm R 328 #[.string (mk Q),.bool S]*(aa.wm C 66 #[.int .i64 v1,.int .i64 v2,.int .u64 v3,.slice none 0 0]*aa.wm B 66 #[.int .i64 0,.int .i64 0,.int .u64 0,.slice none 0 0])))) w5:=(J6.ya (A:=aa.wm R 328 #[.string (mk Q),.bool S]*(aa.wm C 66 #[.int .i64 v1,.int .i64 v2,.int .u64 v3,.slice none 0 0]*aa.wm B 66 #[.int .i64 0,.int .i64 0,.int .u64 0,.slice none 0 0]))).le (KZ (RZ trivial) (KZ (RZ trivial) (MZ (j0 35 1) (JZ _))));have bt:Hid (Fu v4 Q S 0 [] Q S):=V (Fu.start v4 Q S);clear J6 J5 J4 J3 J2 J1 J I k1 k2 k3 k4;go_loopw [9] (fun y wr=>∃k:Nat,k≤v4∧y= .int .i64 k∧∃acc rs ok m f p,rs.length≤2000000∧acc.length=k∧(∀l∈acc,l.length≤255∧∀n∈l,n<4294967296)∧Hid (Fu v4 Q S k acc rs ok)∧Y w o H (ua 35 1 (.slice m k f) k (p.flatMap me)*(jb p acc*(aa.wm R 328 #[.string (mk rs),.bool ok]*(aa.wm C 66 #[.int .i64 v1,.int .i64 v2,.int .u64 v3,.slice m k f]*aa.wm B 66 #[.int .i64 0,.int .i64 0,.int .u64 0,.slice none 0 0])))) wr) (fun y _=>v4-(intOf y).toNat);case atStart=>exact⟨0,WT _,rfl,[],Q,S,none,0,[],by omega,rfl,by simp,bt,J7⟩
    case round=>
     obtain⟨k,hk,rfl,acc,rs,ok,m,f,p,dj,b6,hle,hO,K⟩:=hrel;have ak:=V hle;have a6:=V b6;clear hle b6 J7 bt;by_cases D:k<v4∧ok=true
     ·obtain⟨fb,rfl⟩:=D;have k5:=takeN R rs true 1 (by omega) (by omega);have cv:uJ (Hw rs 1) (Hn rs 1) (dA rs true 1) (Hw rs 1) [] (Hn rs 1) (dA rs true 1):=uJ.start _ _ _;have Qe:∀i l g j,uJ (Hw rs 1) (Hn rs 1) (dA rs true 1) i l g j→(j=true→i=0)→Fu v4 Q S (k+1) (acc++[l]) g j:=fun i l g j h1 h2=>hO.out.step fb h1 h2;have gg:=ov rs 1 (by omega);have h6:=Ai rs 1;have bs:=V cv;have c9:=V Qe;clear cv Qe hO b0;generalize Hw rs 1=n1 at*;generalize Hn rs 1=r1 at*;generalize dA rs true 1=q1 at*;have z5:IntKind.i64.wrap (n1:Int)=n1:=RT _ (by omega);have al:wr.cell? ⟨R,1,none⟩=some (.bool true):=K.cells R 1;obtain⟨i3,en,fi,fq,fr⟩:=info_parts Mi;obtain⟨i4,ct,dt,e0,ea⟩:=info_parts Mu;go_wp2_with fail;refine K.k1 k5 fun w6 K2=> ?_;have F:Y w o H (ua 3 1 (.slice none 0 0) 0 (nv [])*(aa.wm R 328 #[.string (mk r1),.bool q1]*(ua 35 1 (.slice m k f) k (p.flatMap me)*(jb p acc*(aa.wm C 66 #[.int .i64 v1,.int .i64 v2,.int .u64 v3,.slice m k f]*aa.wm B 66 #[.int .i64 0,.int .i64 0,.int .u64 0,.slice none 0 0]))))) w6:=(K2.ya (A:=aa.wm R 328 #[.string (mk r1),.bool q1]*(ua 35 1 (.slice m k f) k (p.flatMap me)*(jb p acc*(aa.wm C 66 #[.int .i64 v1,.int .i64 v2,.int .u64 v3,.slice m k f]*aa.wm B 66 #[.int .i64 0,.int .i64 0,.int .u64 0,.slice none 0 0]))))).le (KZ (RZ trivial) (MZ (j0 3 1) (JZ _)));clear K K2 al k5;go_wp2_with fail;go_loopw [10,11] (fun x y wr=>∃i:Nat,i≤n1∧y= .int .i64 i∧∃d g j q c2,g.length≤2000000∧d.length+i=n1∧(∀n∈d,n<4294967296)∧x= .slice q d.length c2∧Hid (uJ n1 r1 q1 i d g j)∧Y w o H (ua 3 1 (.slice q d.length c2) d.length (nv d)*(aa.wm R 328 #[.string (mk g),.bool j]*(ua 35 1 (.slice m k f) k (p.flatMap me)*(jb p acc*(aa.wm C 66 #[.int .i64 v1,.int .i64 v2,.int .u64 v3,.slice m k f]*aa.wm B 66 #[.int .i64 0,.int .i64 0,.int .u64 0,.slice none 0 0]))))) wr) (fun _ y _=>(intOf y).toNat);case atStart=>exact⟨n1,FT _,rfl,[],r1,q1,none,0,by omega,by simp,by simp,rfl,bs,F⟩
      case round=>
       obtain⟨i,hi,rfl,d,g,j,q,c2,fz,h8,cT,rfl,hI,M⟩:=hrel;have aM:=V cT;have al:wr.cell? ⟨R,1,none⟩=some (.bool j):=M.cells R 1;clear cT F bs;by_cases hb:0<i∧j=true
       ·obtain⟨b9,rfl⟩:=hb;obtain⟨i',rfl⟩:∃i',i=i'+1:=⟨i-1,by omega⟩;have k6:=takeN R g true 4 (by omega) (by omega);have ec:=V hI.out.step;have ed:=ov g 4 (by omega);have h7:=Ai g 4;clear hI;generalize Hw g 4=x at*;generalize Hn g 4=r2 at*;generalize dA g true 4=q2 at*;have z6:IntKind.i64.wrap (x:Int)=x:=RT _ (by omega);have eo:(0:Int)<((i'+1:Nat):Int):=by omega
        have ew:d.length+1≤1000000000:=by omega
        go_wp2_with fail;refine M.k1 k6 fun w7 M2=> ?_;have M3:Y w o H (ua 3 1 (.slice q d.length c2) d.length (nv d)*(aa.wm R 328 #[.string (mk r2),.bool q2]*(ua 35 1 (.slice m k f) k (p.flatMap me)*(jb p acc*(aa.wm C 66 #[.int .i64 v1,.int .i64 v2,.int .u64 v3,.slice m k f]*aa.wm B 66 #[.int .i64 0,.int .i64 0,.int .u64 0,.slice none 0 0]))))) w7:=M2.ya;clear M M2 al k6;go_wp2_with (at_builtin;go_loud (refine Oa (v:=.slice q d.length c2) [.int .i64 x] 1 M3 rfl rfl underlying35 en fi fq rfl rfl rfl rfl (by intro u hu;rw[lU.1 hu];rfl) ew (by rw[fr];omega) ?_);intro E c5 w8 U);go_roundw;case rel=>
         refine⟨i',by omega,by go_num,d++[x],r2,q2,E,c5,by omega,by simp;omega,?_,by simp,ec,?_⟩
         ·intro n hn;rcases oU.1 hn with h|h
          ·exact aM.out n h
          ·rw[lU.1 h];exact ed
         ·have e1:(d++[x]).length=d.length+1:=by simp
          rw[e1,Vj];exact U
        case measure=>simp[intOf]
       ·have a1:j=true→i=0:=by intro h;apply YU;intro h2;exact hb ⟨by omega,h⟩
        have cG:d.length≤255:=by omega
        have cf:=V (c9.out i d g j hI.out a1);have fs:wr.cell? ⟨C,3,none⟩=some (.slice m k f):=M.cells C 3;have cw:k+1≤1000000000:=by omega
        have M1:Y w o H (ua 35 1 (.slice m k f) k (p.flatMap me)*(ua 3 1 (.slice q d.length c2) d.length (nv d)*(jb p acc*(aa.wm R 328 #[.string (mk g),.bool j]*(aa.wm C 66 #[.int .i64 v1,.int .i64 v2,.int .u64 v3,.slice m k f]*aa.wm B 66 #[.int .i64 0,.int .i64 0,.int .u64 0,.slice none 0 0]))))) wr:=M.ya;have aq:(decide (0<(i:Int))&&j)=false:=by
         cases j with
         |false=>simp
         |true=>rw[a1 rfl];rfl
        clear M a1 hI c9;by_cases b9:0<i
        ·have bf:j=false:=by
          cases j with
          |false=>rfl
          |true=>exact absurd ⟨b9,rfl⟩ hb
         subst bf;have eo:(0:Int)<i:=by omega
         clear hb aq;go_wp2_with (at_builtin;go_loud (refine Oa (v:=.slice m k f) [.slice q d.length c2] 1 M1 rfl rfl underlying64 ct dt e0 rfl rfl rfl rfl (by intro u hu;rw[lU.1 hu];rfl) cw (by rw[ea];omega) ?_);intro E c5 w8 U;have e3:w8.cell? ⟨C,3,none⟩=some (.slice m k f):=U.cells C 3;have f3:=U.free C 3);go_roundw;case rel=>
          refine⟨k+1,by omega,by go_num,acc++[d],g,false,E,c5,p++[(q,d.length,c2)],by omega,by rw[CT,a6.out];rfl,?_,cf,?_⟩
          ·intro l X;rcases oU.1 X with h|h
           ·exact ak.out l h
           ·rw[lU.1 h];exact⟨cG,aM.out⟩
          ·have M5:Y w o H (ua 35 1 (.slice E (k+1) c5) (k+1) (p.flatMap me++[.slice q d.length c2])*(ua 3 1 (.slice q d.length c2) d.length (nv d)*(jb p acc*(aa.wm R 328 #[.string (mk g),.bool false]*(aa.wm C 66 #[.int .i64 v1,.int .i64 v2,.int .u64 v3,.slice E (k+1) c5]*aa.wm B 66 #[.int .i64 0,.int .i64 0,.int .u64 0,.slice none 0 0]))))) _:=(U.ra C 3 (.slice E (k+1) c5) #[.int .i64 v1,.int .i64 v2,.int .u64 v3,.slice E (k+1) c5]).ya;rw[show(p++[((q,d.length,c2):Sq)]).flatMap me=p.flatMap me++[.slice q d.length c2] by rw[XU];rfl];refine M5.le (MZ (JZ _) (KZ PZ (MZ (KZ NZ (KZ (MZ (JZ _) ?_) (l9 p acc [(q,d.length,c2)] [d]))) (JZ _))));exact KZ (KZ (RZ trivial) NZ) (RZ rfl)
         case measure=>simp[intOf];omega
        ·obtain rfl:i=0:=by omega
         clear hb aq b9;go_wp2_with (at_builtin;go_loud (refine Oa (v:=.slice m k f) [.slice q d.length c2] 1 M1 rfl rfl underlying64 ct dt e0 rfl rfl rfl rfl (by intro u hu;rw[lU.1 hu];rfl) cw (by rw[ea];omega) ?_);intro E c5 w8 U;have e3:w8.cell? ⟨C,3,none⟩=some (.slice m k f):=U.cells C 3;have f3:=U.free C 3);go_roundw;case rel=>
          refine⟨k+1,by omega,by go_num,acc++[d],g,j,E,c5,p++[(q,d.length,c2)],by omega,by rw[CT,a6.out];rfl,?_,cf,?_⟩
          ·intro l X;rcases oU.1 X with h|h
           ·exact ak.out l h
           ·rw[lU.1 h];exact⟨cG,aM.out⟩
          ·have M5:Y w o H (ua 35 1 (.slice E (k+1) c5) (k+1) (p.flatMap me++[.slice q d.length c2])*(ua 3 1 (.slice q d.length c2) d.length (nv d)*(jb p acc*(aa.wm R 328 #[.string (mk g),.bool j]*(aa.wm C 66 #[.int .i64 v1,.int .i64 v2,.int .u64 v3,.slice E (k+1) c5]*aa.wm B 66 #[.int .i64 0,.int .i64 0,.int .u64 0,.slice none 0 0]))))) _:=(U.ra C 3 (.slice E (k+1) c5) #[.int .i64 v1,.int .i64 v2,.int .u64 v3,.slice E (k+1) c5]).ya;rw[show(p++[((q,d.length,c2):Sq)]).flatMap me=p.flatMap me++[.slice q d.length c2] by rw[XU];rfl];refine M5.le (MZ (JZ _) (KZ PZ (MZ (KZ NZ (KZ (MZ (JZ _) ?_) (l9 p acc [(q,d.length,c2)] [d]))) (JZ _))));exact KZ (KZ (RZ trivial) NZ) (RZ rfl)
         case measure=>simp[intOf];omega
     ·have bc:qg s=if ok=true∧rs=[]∧dd ⟨v1,v2,v3,acc⟩=true∧Xb ⟨v1,v2,v3,acc⟩=s then some ⟨v1,v2,v3,acc⟩else none:=by
       refine b0.out acc rs ok ?_;cases ok with
       |false=>exact .inr ⟨rfl,k,hO.out⟩
       |true=>
        have:k=v4:=by apply YU;intro h;exact D ⟨by omega,rfl⟩
        rw[←this]at hO⊢;exact .inl hO.out
      have HG:=V bc;have al:wr.cell? ⟨R,1,none⟩=some (.bool ok):=K.cells R 1;have ga:wr.cell? ⟨R,0,none⟩=some (.string (mk rs)):=K.cells R 0;clear bc b0 hO;cases ok with
      |false=>
       have P:Hid (qg s=none):=V (by rw[HG.out,DT (by simp)]);clear HG D;obtain⟨d0,d1,d2,d3⟩:=K.c4 B;obtain⟨g0,g1,g2,g3⟩:=K.f4 B;by_cases h5:k<v4
       ·have cx:(k:Int)<v4:=by omega
        go_wp2_with fail;refine ZT (v:=.tuple #[.agg #[.int .i64 0,.int .i64 0,.int .u64 0,.slice none 0 0],.int .i64 90]) (by simp[results,results249,go_sem,d0,d1,d2,d3]) rfl ?_;exact HF.out _ ((((((K.ra B 0 (.int .i64 0) _ rfl).ra B 1 (.int .i64 0) _ rfl).ra B 2 (.int .u64 0) _ rfl).ra B 3 (.slice none 0 0) _ rfl)).le l7) P.out
       ·have cx:¬ (k:Int)<v4:=by omega
        go_wp2_with fail;refine ZT (v:=.tuple #[.agg #[.int .i64 0,.int .i64 0,.int .u64 0,.slice none 0 0],.int .i64 90]) (by simp[results,results249,go_sem,d0,d1,d2,d3]) rfl ?_;exact HF.out _ ((((((K.ra B 0 (.int .i64 0) _ rfl).ra B 1 (.int .i64 0) _ rfl).ra B 2 (.int .u64 0) _ rfl).ra B 3 (.slice none 0 0) _ rfl)).le l7) P.out
      |true=>
       have ep:k=v4:=by apply YU;intro h;exact D ⟨by omega,rfl⟩
       subst ep;clear D;have cx:¬ (k:Int)<k:=by omega
       obtain⟨d0,d1,d2,d3⟩:=K.c4 B;obtain⟨g0,g1,g2,g3⟩:=K.f4 B;by_cases aj:rs=[]
       ·subst aj;have N:Hid (qg s=if dd ⟨v1,v2,v3,acc⟩=true∧Xb ⟨v1,v2,v3,acc⟩=s then some ⟨v1,v2,v3,acc⟩else none):=V (by rw[HG.out];simp);have bn:=(K.dp p acc).1;have cn:=K.Cn (A:=m) (n:=k) (c:=f) (xs:=p.flatMap me) (e:=35) (sz:=1);have K2:Y w o H (Ea (.slice m k f) acc*(aa.wm R 328 #[.string (mk []),.bool true]*(aa.wm C 66 #[.int .i64 v1,.int .i64 v2,.int .u64 v3,.slice m k f]*aa.wm B 66 #[.int .i64 0,.int .i64 0,.int .u64 0,.slice none 0 0]))) wr:=K.le (KZ PZ (MZ (KZ (MZ (JZ _) (l5 _ _)) (Sj (by rw[a6.out];exact cn) bn (by rw[bn,a6.out]))) (JZ _)));have a8:lN ⟨v1,v2,v3,acc⟩:=by
         have hlen:∀L:List (List Nat),(∀l∈L,l.length≤255)→L.flatten.length≤255*L.length:=by
          intro L;induction L with
          |nil=>simp
          |cons a r ih=>intro h;have h1:=h a iX;have h2:=ih fun l X=>h l (TV _ X);rw[oV,CT,UT];omega
         have h3:=hlen acc fun l X=>(ak.out l X).1;have gf:acc.length≤255:=by rw[a6.out];omega
         refine⟨by show v1≤_;omega,by show v2≤_;omega,b7,by show acc.length≤_;omega,by show acc.flatten.length≤_;omega,fun n hn=> ?_⟩;obtain⟨l,X,fc⟩:=FV.1 hn;have:=(ak.out l X).2 n fc;omega
        have t207:=Tu ⟨v1,v2,v3,acc⟩ (.slice m k f) a8;have t275:=KG ⟨v1,v2,v3,acc⟩ (.slice m k f) a8;unfold Wn at t275;unfold ag at t207 t275;dsimp only at t207 t275;obtain⟨x0,x1,x2,x3⟩:=K2.c4 C;clear K bn cn HG ch ck b7 cl dj ds cF l1 l2 l3 cp hs a8;obtain⟨back,an⟩:∃b,Xb ⟨v1,v2,v3,acc⟩=b:=⟨_,rfl⟩;rw[an]at N t275;clear an;cases hv:dd ⟨v1,v2,v3,acc⟩with
        |false=>have P:Hid (qg s=none):=V (by rw[N.out,hv,DT (by simp)]);rw[hv]at t207;clear t275 N hv;go_wp2_with fail;refine K2.k1 t207 fun w6 F=> ?_;clear d0 d1 d2 d3 g0 g1 g2 g3;obtain⟨d0,d1,d2,d3⟩:=F.c4 B;obtain⟨g0,g1,g2,g3⟩:=F.f4 B;go_wp2_with fail;refine ZT (v:=.tuple #[.agg #[.int .i64 0,.int .i64 0,.int .u64 0,.slice none 0 0],.int .i64 90]) (by simp[results,results249,go_sem,d0,d1,d2,d3]) rfl ?_;exact HF.out _ ((((((F.ra B 0 (.int .i64 0) _ rfl).ra B 1 (.int .i64 0) _ rfl).ra B 2 (.int .u64 0) _ rfl).ra B 3 (.slice none 0 0) _ rfl)).le l7) P.out
        |true=>
         rw[hv]at t207;simp only[hv,dZ]at t275;by_cases hb:back=s
         ·have P:Hid (qg s=some ⟨v1,v2,v3,acc⟩):=V (by rw[N.out,hv,JT ⟨rfl,hb⟩]);have ej:(back==s)=true:=by rw[OV];exact hb
          subst hb;clear N hv;go_wp2_with fail;refine K2.k1 t207 fun w6 F=> ?_;clear x0 x1 x2 x3;obtain⟨x0,x1,x2,x3⟩:=F.c4 C;go_wp2_with fail;refine F.k1 t275 fun w7 K4=> ?_;clear x0 x1 x2 x3 d0 d1 d2 d3 g0 g1 g2 g3;obtain⟨x0,x1,x2,x3⟩:=K4.c4 C;obtain⟨d0,d1,d2,d3⟩:=K4.c4 B;obtain⟨g0,g1,g2,g3⟩:=K4.f4 B;go_wp2_with fail;refine ZT (v:=.tuple #[.agg #[.int .i64 v1,.int .i64 v2,.int .u64 v3,.slice m k f],.int .i64 0]) (by simp[results,results249,go_sem,d0,d1,d2,d3]) rfl ?_;refine⟨.slice m k f,by rw[P.out];rfl,?_⟩;rw[P.out];exact((((K4.ra B 0 (.int .i64 v1) _ rfl).ra B 1 (.int .i64 v2) _ rfl).ra B 2 (.int .u64 v3) _ rfl).ra B 3 (.slice m k f) _ rfl).ya (A:=Ea (.slice m k f) acc)
         ·have P:Hid (qg s=none):=V (by rw[N.out,hv,DT (fun h=>hb h.2)]);have ej:(back==s)=false:=by rw[ET];exact hb
          clear N hv;go_wp2_with fail;refine K2.k1 t207 fun w6 F=> ?_;clear x0 x1 x2 x3;obtain⟨x0,x1,x2,x3⟩:=F.c4 C;go_wp2_with fail;refine F.k1 t275 fun w7 K4=> ?_;clear x0 x1 x2 x3 d0 d1 d2 d3 g0 g1 g2 g3;obtain⟨d0,d1,d2,d3⟩:=K4.c4 B;obtain⟨g0,g1,g2,g3⟩:=K4.f4 B;go_wp2_with fail;refine ZT (v:=.tuple #[.agg #[.int .i64 0,.int .i64 0,.int .u64 0,.slice none 0 0],.int .i64 90]) (by simp[results,results249,go_sem,d0,d1,d2,d3]) rfl ?_;exact HF.out _ ((((((K4.ra B 0 (.int .i64 0) _ rfl).ra B 1 (.int .i64 0) _ rfl).ra B 2 (.int .u64 0) _ rfl).ra B 3 (.slice none 0 0) _ rfl)).le l7) P.out
       ·have P:Hid (qg s=none):=V (by rw[HG.out,DT (fun h=>aj h.2.1)]);have hc:(rs==[])=false:=by rw[ET];exact aj
        clear HG ch ck b7 cl dj ds cF l1 l2 l3 cp hs;go_wp2_with fail;refine ZT (v:=.tuple #[.agg #[.int .i64 0,.int .i64 0,.int .u64 0,.slice none 0 0],.int .i64 90]) (by simp[results,results249,go_sem,d0,d1,d2,d3]) rfl ?_;exact HF.out _ ((((((K.ra B 0 (.int .i64 0) _ rfl).ra B 1 (.int .i64 0) _ rfl).ra B 2 (.int .u64 0) _ rfl).ra B 3 (.slice none 0 0) _ rfl)).le l7) P.out
   ·have hg:Hid (qg s=none):=V (by rw[T.out,JT (.inr hf)]);have ee:(t.take 4==[105,109,97,112])=false:=by rw[ET];exact hf
    have ha:¬ (t.take 4=[105,109,97,112]):=hf;clear T hf;generalize t.take 4=t4 at*;go_enter func249,ntmps249;go_wp2_with fail;refine I.kp t98 fun w1 J=> ?_;obtain⟨c0,f,c2,c3⟩:=J.c4 w.heap.size;obtain⟨f0,f1,f2,f3⟩:=J.f4 w.heap.size;go_wp2_with fail;refine ZT (v:=.tuple #[.agg #[.int .i64 0,.int .i64 0,.int .u64 0,.slice none 0 0],.int .i64 90]) (by simp[results,results249,go_sem,c0,f,c2,c3]) rfl ?_;exact HF.out _ ((((((J.ra w.heap.size 0 (.int .i64 0) _ rfl).ra w.heap.size 1 (.int .i64 0) _ rfl).ra w.heap.size 2 (.int .u64 0) _ rfl).ra w.heap.size 3 (.slice none 0 0) _ rfl)).le l7) hg.out
end
end Go.Proofs.YteacbkflfafefaaGreatDoor
