/- Part 29 of 50 of the proof that TopViews returns true at every input: lemmas on the way; no condition. -/
import Derived.Test.YteacbkflfafefaaGreatDoorZ25
namespace Go.Proofs.YteacbkflfafefaaGreatDoor
set_option linter.all false
set_option maxHeartbeats 1000000
set_option maxRecDepth 100000
section
open Go.RowKit An Go.ChangeShapes Go.WideShapes Go.ChangeAt Go.Proofs.Tryz
theorem aa.le.Fq:∀ (i:Nat) (qs:List Sq) (L:List (List Nat)) (a:i<qs.length) (b:i<L.length),aa.le (jb qs L) (ua 3 1 (zp qs[i]) L[i].length (nv L[i])*(jb (qs.take i) (L.take i)*jb (qs.drop (i+1)) (L.drop (i+1))))
 |_,[],_,a,_=>absurd a (NV _)
 |_,_::_,[],_,b=>absurd b (NV _)
 |0,q::qs,l::L,_,_=>KZ NZ (KZ QZ (MZ (JZ _) (RZ trivial)))
 |i+1,q::qs,l::L,a,b=>by have c:=aa.le.Fq i qs L (rV a) (rV b);refine KZ (MZ (JZ _) (MZ (JZ _) c)) ?_;refine KZ (MZ (JZ _) (KZ PZ (KZ (MZ NZ (JZ _)) OZ))) ?_;refine KZ PZ (KZ (MZ NZ (JZ _)) (KZ OZ (MZ (JZ _) ?_)));exact KZ (MZ (JZ _) PZ) PZ
theorem Vz{α:Type}(l:List α)(i:Nat)(x:α)(h:i<l.length):l.set i x=l.take i++(x::l.drop (i+1)):=by rw[zX,JT h]
theorem aa.le.Ox(i:Nat)(qs:List Sq)(L:List (List Nat))(a:i<qs.length)(b:i<L.length)(q:Sq)(l:List Nat)(c:q.2.1=l.length):aa.le (ua 3 1 (zp q) l.length (nv l)*(jb (qs.take i) (L.take i)*jb (qs.drop (i+1)) (L.drop (i+1)))) (jb (qs.set i q) (L.set i l)):=by rw[Vz qs i q a,Vz L i l b];refine KZ PZ (KZ (MZ NZ (JZ _)) (KZ OZ (KZ (MZ (JZ _) ?_) (l9 _ _ (q::qs.drop (i+1)) (l::L.drop (i+1))))));exact RZ c
theorem aa.le.KI(i:Nat)(qs:List Sq)(L:List (List Nat))(a:i<qs.length)(b:i<L.length):aa.le (jb qs L) (jb (qs.set i (none,0,0)) (L.set i [])):=KZ (aa.le.Fq i qs L a b) (KZ (MZ (KZ l7 (j0 3 1)) (JZ _)) (aa.le.Ox i qs L a b (none,0,0) [] rfl))
theorem sQ(L:List (List Nat))(k:Nat)(b:k<L.length)(h:L[k].length≠0):∀n,k<n→n≤L.length→k<tk L n
 |0,a,_=>absurd a (NV _)
 |n+1,a,d=>by
  unfold tk;split
  ·rename_i c;by_cases e:n=k
   ·subst e;rw[kU,PT b]at c;exact absurd c h
   ·exact sQ L k b h n (by omega) (by omega)
  ·exact a
def zq(L:List (List Nat))(k:Int)(n:Nat):Nat×List (List Nat):=if(ie L k).1≠0 then((ie L k).1,[])else if L.flatten.contains n then(2,[])else(0,Fb L k.toNat n)
theorem pI{L:List (List Nat)}{k:Int}(h:(ie L k).1=0):∃ (i:Nat) (hi:i<L.length),k=i∧i<5∧L[i].length≠0:=by
 unfold ie at h;split at h
 ·cases h
 ·rename_i d;split at h
  ·cases h
  ·rename_i a;simp at d;have b:k.toNat<L.length:=by apply YU;intro e;rw[kU,dW (by omega)]at a;exact a rfl
   refine⟨k.toNat,b,by omega,by omega,fun c=>a ?_⟩;rw[kU,PT b];show(L[k.toNat]).isEmpty=true;rw[uU c];rfl
theorem jH(qs:List Sq)(i:Nat)(q:Sq):(qs.flatMap me).set i (zp q)=(qs.set i q).flatMap me:=by
 have e:∀l:List Sq,l.flatMap me=l.map zp:=fun l=>by
  induction l with
  |nil=>rfl
  |cons a r b=>rw[AU,qU,b];rfl
 rw[e,e,List.map_set]
theorem sF(v:Value)(L:List (List Nat))(k:Int)(n:Nat)(hk: -9223372036854775808≤k∧k≤9223372036854775807)(hn:n≤1000000000000)(h1:L.length≤100000)(h2:L.flatten.length≤100000)(h3:∀n∈L.flatten,n≤1000000000000):Tr prog 192 #[v,Z k,Z n] (Ea v L) (AH (zq L k n)) (fun x=>fE (zq L k n) x*Ea v L):=by
 intro w o r0 h0;have t190:=WG v L k hk h1 h2 h3;have t67:=xv v L h1 h2;have t240:=qH v L h1 h2;have I:=TZ h0;have cT:∀k (h:k<L.length),L[k].length≤100000:=fun k h=>KT (by have h:=Nh L k h;have:=Lt L (k+1);omega) h2;have d:zq L k n=if(ie L k).1≠0 then((ie L k).1,[])else if L.flatten.contains n then(2,[])else(0,Fb L k.toNat n):=rfl
 clear h0 h3;have b6:∀ (m:Nat) (W:World),m≠0→zq L k n=(m,[])→Y w o r0 (Ea v L) W→∃x,Ending.returned (.tuple #[O none 0 0,Z (m:Int)])=Ending.returned (AH (zq L k n) x)∧Y w o r0 (fE (zq L k n) x*Ea v L) W:=by
  intro m W hm z hI;refine⟨undef,?_,?_⟩
  ·rw[z];unfold AH;simp[hm]
  ·rw[z];unfold fE;simp only;rw[DT hm];exact hI.le (RZ trivial)
 have HB:=V b6;have e6:=V cT;have t:∀x,Ud prog 239 #[x,Z n] (Ba 1 x L.flatten.length (nv L.flatten)) (.bool (L.flatten.contains n)) (Ba 1 x L.flatten.length (nv L.flatten)):=fun x=>Wq x L.flatten n (by omega);generalize L.flatten=all at*;have fi:¬ ((n:Int)<0):=by omega
 clear b6 cT;unfold YG Pz at t190;by_cases z:(ie L k).1=0
 ·rw[DT (by simp[z])]at d;obtain⟨i,hi,rfl,fb,bm⟩:=pI z;simp only[z,dZ,Int.natCast_zero]at t190;rw[gV]at d;cases K:all.contains n with
  |true=>have P:Hid (zq L i n=(2,[])):=V (by rw[d,K];rfl);rw[K]at t;clear d K bm z hi;go_enter func192,ntmps192;go_wp2_with fail;refine I.kc t190 fun w2 x J=> ?_;obtain⟨_,Ax,cx,rfl⟩:=J.Cd x;go_wp2_with fail;refine J.kc t67 fun w1 y J1=> ?_;obtain⟨_,A0,c0,rfl⟩:=J1.Cd y;go_wp2_with fail;refine(J1.Wu (wc (O A0 all.length c0)) (j5 _ _ _ _) (t _)).mono ?_;rintro e w3 ⟨rfl,J3⟩;go_wp2;go_ret2;exact HB.out 2 _ (by decide) P.out J3.ya
  |false=>
   have c9:zq L i n=(0,Fb L i n):=by rw[d,K,DT (by simp)]
   rw[K]at t;have ee:=sQ L i hi bm L.length hi (FT _);have ej:tk L L.length≤100000:=KT (Vr _ _) h1;have E:(Ab L).length=tk L L.length:=by rw[Uj L,OT];have:=Vr L L.length;omega
   have cv:∀j (h:j<(Ab L).length),(Ab L)[j].length≤100000:=by
    intro j h;have e:(Ab L)[j]? =L[j]? :=by rw[Uj L,tW,JT (by omega)]
    have hj:j<L.length:=by have:=Vr L L.length;omega
    rw[PT h,PT hj]at e;injection e with e;rw[e];exact e6.out j hj
   have aM:∀x,Zr L x=O x.1 (tk L L.length) (tk L L.length):=fun x=>rfl;have av:∀x,fw L x=ua 35 1 (O x.1 (tk L L.length) (tk L L.length)) (tk L L.length) (x.2.flatMap me)*jb x.2 (Ab L):=fun x=>rfl;have S:Fb L i n=(let out:=(Ab L).set i [];let b:=min (i+1) 4;let out:=if out.length≤b then out++[[]]else out;out.set b (out.getD b []++[n])):=rfl;generalize Ab L=T at*;obtain⟨m,hm⟩:∃m,tk L L.length=m:=⟨_,rfl⟩;rw[hm]at ee ej E aM av;have c1:(T.set i []).length=m:=by rw[sV,E]
   dsimp only at S;rw[c1]at S;have cn:=V aM;have ck:=V av;have aq:=V E;have cl:=V cv;have ed:IntKind.i64.wrap ((i:Int)+1)=(i:Int)+1:=RT _ (by omega);clear d K bm z hi aM av E cv hm;obtain⟨b,a6⟩:∃b,min (i+1) 4=b:=⟨_,rfl⟩;rw[a6]at S;have fc:min ((i:Int)+1) 4=b:=by omega
   have fe:b≤m∧b≤4:=by omega
   have P:=V c9;have a1:=V S;obtain⟨i3,cG,dt,e0,e1⟩:=info_parts Mi;obtain⟨i4,ea,en,eo,ep⟩:=info_parts Mu;clear c9 S c1 a6;go_enter func192,ntmps192;go_wp2_with fail;refine I.kc t190 fun w2 x J=> ?_;obtain⟨_,Ax,cx,rfl⟩:=J.Cd x;go_wp2_with fail;refine J.kc t67 fun w1 y J1=> ?_;obtain⟨_,A0,c0,rfl⟩:=J1.Cd y;go_wp2_with fail;refine(J1.Wu (wc (O A0 all.length c0)) (j5 _ _ _ _) (t _)).mono ?_;rintro e w3 ⟨rfl,J3⟩;go_wp2_with fail;refine(J3.call t240).mono ?_;rintro e w4 ⟨⟨A1,H⟩,rfl,J4⟩;rw[cn.out];have J5:=J4.ya (A:=fw L (A1,H)*Ea v L);rw[ck.out]at J5;dsimp only at J5;obtain⟨bn,aj⟩:=J5.dp H T;rw[aq.out]at bn;clear J4 J3 J J1 I t190 t240 t67 t;have E:=aq.out;obtain⟨g,hg,s⟩:=J5.Mc (A:=A1) (c:=m) (n:=m) (xs:=H.flatMap me) (e:=35) (sz:=1) (by intro h;have:=nu H i (by omega);rw[h]at this;cases this);subst hg;have b0:=s i _ (nu H i (by omega));generalize zp (H[i]'(by omega))=u0 at b0;have J6:=J5.Nk (g:=g) (c:=m) (n:=m) i (O none 0 0);have f0:=J6.2;have J7:Y w o r0 (ua 35 1 (O (some ⟨g,0,none⟩) m m) m ((H.set i (none,0,0)).flatMap me)*(jb (H.set i (none,0,0)) (T.set i [])*Ea v L)) (w4.setCell ⟨g,i,none⟩ (O none 0 0)):=by have h:=J6.1;rw[show(O none 0 0:Value)=zp (none,0,0) from rfl,jH]at h;exact h.le (MZ (JZ _) (KZ (MZ (aa.le.KI i H T (by omega) (by omega)) (JZ _)) (JZ _)))
   have G:(H.set i (none,0,0)).length=m:=by rw[sV,bn]
   have D:(T.set i []).length=m:=by rw[sV,E]
   have hle:∀j (h:j<(T.set i []).length),(T.set i [])[j].length≤100000:=by
    intro j h;rw[List.getElem_set];split
    ·exact WT _
    ·exact cl.out j (by rw[sV]at h;exact h)
   have an:=V hle;clear hle s aj bn E J5 J6;generalize H.set i (none,0,0)=f at*;generalize T.set i []=Q at*;clear cl aq ck cn;by_cases N:m≤b
   ·have C:Fb L i n=(Q++[[]]).set b ((Q++[[]]).getD b []++[n]):=by rw[a1.out,JT N]
    have ec:b=m:=by omega
    subst ec;have eb:b+1≤1000000000:=by omega
    have b7:(f.flatMap me).length=b:=by rw[zg vg,G,wU]
    have HX:Hid ((f.flatMap me++[(O none 0 0:Value)])[b]? =some (O none 0 0)):=V (by rw[vV (by omega),b7,AW];rfl);have al:∀u,(f.flatMap me++[(O none 0 0:Value)]).set b u=f.flatMap me++[u]:=fun u=>by rw[dY _ _ (by omega),b7,AW];rfl
    have e8:=V al;have cp:Fb L i n=Q++[[n]]:=by rw[C,kU,vV (by omega),dY _ _ (by omega),D,AW];rfl
    have e4:=V cp;have dj:(f.length=b):=G;have cb:=V dj;have ch:=V D;clear C a1 cp al b7 dj G D an N;go_upto_region 10 with(fail);generalize w4.setCell ⟨g,i,none⟩ (O none 0 0)=W at*;clear b0 f0;go_wp2_with (at_builtin;go_loud (first
     |(refine Oa (v:=O (some ⟨g,0,none⟩) b b) [O none 0 0] 1 J7 rfl rfl underlying64 ea en eo rfl rfl rfl rfl (by intro u hu;rw[lU.1 hu];rfl) eb (by rw[ep];omega) ?_;intro AA X W2 K0;have HC:=V (K0.Cn (A:=AA) (n:=b+1) (c:=X) (xs:=f.flatMap me++[O none 0 0]) (e:=35) (sz:=1));obtain⟨g2,b9,cw⟩:=K0.Mc (A:=AA) (c:=X) (n:=b+1) (xs:=f.flatMap me++[O none 0 0]) (e:=35) (sz:=1) (by simp);subst b9;have b0:=cw b _ HX.out;have K7:=K0.le (KZ (RZ trivial) (MZ (j0 3 1) (JZ _)));clear cw)
     |(refine Oa (v:=O none 0 0) [Z n] 1 K7 rfl rfl underlying35 cG dt e0 rfl rfl rfl rfl (by intro u hu;rw[lU.1 hu];rfl) (by omega) (by rw[e1];omega) ?_;intro B c3 w6 K4;obtain⟨g3,bc,F⟩:=K4.Mc (A:=some ⟨g2,0,none⟩) (c:=X) (n:=b+1) (xs:=f.flatMap me++[O none 0 0]) (e:=35) (sz:=1) (by simp);cases bc;have b1:=F b _ HX.out;have K5:=K4.Nk (g:=g2) (c:=X) (n:=b+1) b (O B 1 c3);have b2:=K5.2)));go_ret2;refine⟨O (some ⟨g2,0,none⟩) (b+1) X,by rw[P.out];rfl,?_⟩;rw[P.out];show Y w o r0 (Ea (O (some ⟨g2,0,none⟩) (b+1) X) (Fb L i n)*Ea v L) _;rw[e4.out];have K6:=K5.1;rw[e8.out,show f.flatMap me++[(O B 1 c3:Value)]=(f++[((B,1,c3):Sq)]).flatMap me by rw[XU];rfl]at K6;have a7:aa.le (ua 3 1 (O B (0+1) c3) (0+1) ([]++[Z n])*jb f Q) (Ua (f++[(B,1,c3)]) (Q++[[n]])):=KZ NZ (KZ (MZ (l5 _ _) (aa.le.FE (l:=[n]) rfl rfl)) (aa.le.Nu _ _ _ _));have bf:=KZ (MZ (JZ (ua 35 1 (O (some ⟨g2,0,none⟩) (b+1) X) (b+1) ((f++[(B,1,c3)]).flatMap me))) a7) (Sj (by rw[CT,ch.out];exact HC.out) (by rw[CT,CT,ch.out,cb.out];rfl) (by rw[CT,cb.out];rfl));exact K6.le (KZ (MZ (JZ _) PZ) (KZ PZ (MZ bf (JZ _))))
   ·have C:Fb L i n=Q.set b (Q.getD b []++[n]):=by rw[a1.out,DT N]
    have e2:=V C;have e5:=an;have fq:¬ (m:Int)≤b:=by omega
    have HC:Hid (m≤m):=V (FT m);go_upto_region 9 with(fail);generalize w4.setCell ⟨g,i,none⟩ (O none 0 0)=W at*;clear b0 f0 C a1;have aj:=G;have ct:=D;generalize f=p at*;generalize Q=R at*;clear G D;generalize(some ⟨g,0,none⟩:Option Addr)=AA at*;have M:b<R.length:=by omega
    have U:b<p.length:=by omega
    have ds:=(Y.dp p R J7).2 b U M;have ew:=e5.out b M;have cF:R.getD b []=R[b]:=by rw[kU,PT M];rfl
    have hF:=e2.out;rw[cF]at hF;have HF:=V hF;have K7:=J7.le (KZ (MZ (JZ _) (MZ (aa.le.Fq b p R U M) (JZ _))) (KZ PZ (KZ (MZ (KZ PZ (MZ NZ (JZ _))) (JZ _)) (KZ OZ OZ))));have r:=nu p b U;have a8:=aa.le.Ox b p R U M;have HJ:=V a8;have ak:=fun q=>jH p b q;have e7:=V ak;have bs:∀q,(p.set b q).length=m:=fun q=>by rw[sV,aj]
    have ca:=V bs;have b5:∀l,(R.set b l).length=m:=fun l=>by rw[sV,ct]
    have cf:=V b5;clear a8 ak bs b5 hF cF;generalize p[b]=q at*;obtain⟨q1,q2,q3⟩:=q;dsimp only at ds;subst ds;generalize R[b]=a at*;unfold zp at K7 r;dsimp only at K7 r;have e9:a.length+1≤1000000000:=by omega
    obtain⟨g2,b9,s⟩:=K7.Mc (A:=AA) (c:=m) (n:=m) (xs:=p.flatMap me) (e:=35) (sz:=1) (by intro h;rw[h]at r;cases r);subst b9;have b0:=s b _ r;have HG:=V r;clear s r J7 M U aj ct;go_upto_region 11 with(fail);go_wp2_with (at_builtin;go_loud (refine Oa (v:=O q1 a.length q3) [Z n] 1 K7 rfl rfl underlying35 cG dt e0 rfl rfl rfl rfl (by intro u hu;rw[lU.1 hu];rfl) e9 (by rw[e1];omega) ?_);intro B c3 w6 K4;obtain⟨g3,bc,F⟩:=K4.Mc (A:=some ⟨g2,0,none⟩) (c:=m) (n:=m) (xs:=p.flatMap me) (e:=35) (sz:=1) (by intro h;have:=HG.out;rw[h]at this;cases this);cases bc;have b1:=F b _ HG.out;have K5:=K4.Nk (g:=g2) (c:=m) (n:=m) b (O B (a.length+1) c3);have b2:=K5.2);go_ret2;refine⟨O (some ⟨g2,0,none⟩) m m,by rw[P.out];rfl,?_⟩;rw[P.out];show Y w o r0 (Ea (O (some ⟨g2,0,none⟩) m m) (Fb L i n)*Ea v L) _;rw[HF.out];have K6:=K5.1;have bt:=e7.out (B,a.length+1,c3);unfold zp at bt;dsimp only at bt;rw[bt]at K6;have e3:(a++[n]).length=a.length+1:=by simp
    have a7:=HJ.out (B,a.length+1,c3) (a++[n]) (by simp);rw[Vj,e3]at a7;have bf:=KZ (MZ (JZ (ua 35 1 (O (some ⟨g2,0,none⟩) m m) m ((p.set b (B,a.length+1,c3)).flatMap me))) (KZ a7 (l5 _ _))) (Sj (by rw[cf.out];exact HC.out) (by rw[cf.out,ca.out]) (by rw[ca.out]));exact K6.le (KZ (MZ (JZ _) PZ) (KZ PZ (MZ bf (JZ _))))
 ·have P:Hid (zq L k n=((ie L k).1,[])):=V (by rw[d,JT z]);simp only[z,RX]at t190;generalize(ie L k).1=m at*;have hm:((m:Int) !=0)=true:=by rw[CU];omega
  clear d t;have HP:=V z;clear z;go_enter func192,ntmps192;go_wp2_with fail;refine I.kc t190 fun w2 x J=> ?_;go_wp2;go_ret2;exact HB.out m _ HP.out P.out J.ya
end
end Go.Proofs.YteacbkflfafefaaGreatDoor
