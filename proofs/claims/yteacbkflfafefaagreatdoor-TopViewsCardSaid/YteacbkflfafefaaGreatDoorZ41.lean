/- Part 42 of 50 of the proof that TopViews returns true at every input: lemmas on the way; no condition. -/
import Derived.Test.YteacbkflfafefaaGreatDoorZ38
namespace Go.Proofs.YteacbkflfafefaaGreatDoor
set_option linter.all false
set_option maxHeartbeats 1000000
set_option maxRecDepth 100000
section
open Go.RowKit An Go.ChangeShapes Go.WideShapes Go.ChangeAt Go.Proofs.Tryz
theorem CQ{h n i pos l:Nat}(hh:h<18446744073709551616)(a:n+l≤1073741824)(hi:i<l)(b:pos≤819212):Iy ⟨h,n+i,pos⟩:=⟨hh,by show n+i<_;omega,by show pos<_;omega⟩
theorem oS{i l:Nat}(h:i<l):l-(intOf (Z ((i:Int)+1))).toNat<l-(intOf (Z (i:Int))).toNat:=by simp[intOf];omega
theorem JS{n:Nat}(h:n≤1073741824):IntKind.i64.wrap ((n:Int)-1+1)=(n:Int)∧(n:Int)-1+1=n∧wrap64 ((n:Nat):Int)=n:=⟨by rw[show(n:Int)-1+1=n by omega];exact(il ⟨by omega,by omega⟩).1,by omega,(il ⟨by omega,by omega⟩).2⟩
theorem MS{i l:Nat}(a:l≤1073741824)(hi:i<l):wrap64 ((i:Int)+1)=(i:Int)+1:=(il ⟨by omega,by omega⟩).2
theorem lT{n i l:Nat}(a:n+l≤1073741824)(hi:i<l):IntKind.i64.wrap ((n:Int)+i)=(n:Int)+i∧wrap64 ((n:Int)+i)=(n:Int)+i:=il ⟨by omega,by omega⟩
structure OB(da:Nat)(σ:RS)(s:Bs)(ex:Int)(l:List Ev)(n c:Nat)(σ':RS):Prop where
 ok:σ'.Ok da
 k:σ'.K≤σ.K+1
 cap:σ'.d.cap=σ.d.cap
 su:σ'.s=σ.s
 st:(Fe σ.MB s ex l≠0∧n=0∧c=Fe σ.MB s ex l∧σ'.MB=σ.MB∧∃x,σ'.o=some x)∨(Fe σ.MB s ex l=0∧((c=60∧n=0∧σ'.MB=σ.MB∧∃x,σ'.o=some x)∨(c=0∧n=(Qf s (Ja σ.MB)).length∧σ'.MB=σ.MB++[Ff σ.MB s l]∧∃x,σ'.o=some x)∨(c=61∧n=0∧σ'.MB=σ.MB++[Ff σ.MB s l]∧σ'.o=none∧σ'.d.down=true)))
 PS:∀u n' e f,zm σ u n' e f→σ.K≤49→Fe σ.MB s ex l=0→u+8024≤σ.d.cap→c=0∧zm σ' (u+2024) n' true f
section
variable(S L X D rate da:Nat){σ:RS}{x:OS}
theorem gJ(h:σ.Ok da)(t:da<18446744073709551616)(hK:σ.K≤89)(ho:σ.o=some x)(s:Bs)(g:Int)(v:Value)(l:List Ev)(W:BB ⟨s,0,l⟩):Tr prog 84 #[Da S,Ha s,Z g,v] (Eh S L X D rate da σ.d.za x σ.d*Ba 3 v l.length (vc l)) (fun p:(Nat×Nat)×RS=> .tuple #[Z p.1.1,Z p.1.2]) (fun p=>aa.pure (OB da σ s g l p.1.1 p.1.2 p.2)*(Zk S L X D rate da p.2*Ba 3 v l.length (vc l))):=by
 intro w o r h0;have I:=TZ h0;obtain⟨_,A,c,rfl,_⟩:=I.sl v;obtain⟨z,hS⟩:=h.live x ho;have G:=W.stream;have a8:=W.many;have t25:=Wm S L X (Pa da);have t62:=Qw ⟨s,0,l⟩ (O A l.length c) W;have t12:=tB S L X D rate da σ.d.za x z t (by omega) rfl s G;have F:=z.QG s;have same:∀c,c=Fe σ.MB s g l→c≠0→OB da σ s g l 0 c σ:=fun c h1 h2=>⟨h,fV _,rfl,rfl,.inl ⟨h1▸h2,rfl,h1,rfl,x,ho⟩,fun _ _ _ _ _ _ h3=>absurd h3 (h1▸h2)⟩;have al:=V same;have ak:∀ (σ':RS),σ'=σ→aa.le (Eh S L X D rate da σ.d.za x σ.d) (Zk S L X D rate da σ'):=fun σ' e=>by subst e;unfold Zk;rw[ho];exact JZ _
 have aq:=V (ak σ rfl);unfold bV at t62;dsimp only at t62;have a:Fe σ.MB s g l=if jd ⟨s,0,l⟩≠0 then jd ⟨s,0,l⟩else if g< -2 then 2 else if g≠ -2∧g≠((Qf s (Ja σ.MB)).length:Int)-1 then 80 else jd (Ff σ.MB s l):=rfl
 generalize a1:Fe σ.MB s g l=ac at*;obtain⟨n,M⟩:∃n,(Qf s (Ja σ.MB)).length=n:=⟨_,rfl⟩;by_cases C:jd ⟨s,0,l⟩=0
 ·obtain⟨b1,b2,b3,b4,b5,b6⟩:=Hd C;dsimp only at b1 b2 b3 b4 b5 b6;have b0:ad s=true:=by unfold ad;simp[b1,b3]
  have a7:Pr σ.MB s=(n:Int)-1∧ah s=0:=by unfold Pr ah;rw[b0,M];simp
  rw[a7.1,a7.2]at t12;rw[DT (by simpa using C)]at a;rw[C]at t62;rw[M]at a F;have j:=I.Wa (.cells #[Ha s,Z 0,O A l.length c] 85) w.heap.size rfl;have aj:Ff σ.MB s l=⟨s,n,l⟩:=by unfold Ff;rw[M]
  rw[aj]at a;have aM:BB ⟨s,n,l⟩:=⟨G,F,a8,W.vc⟩;have t129:=FN ⟨s,n,l⟩ (O A l.length c) aM;have b9:Hid (IntKind.i64.wrap ((n:Int)-1+1)=(n:Int)∧(n:Int)-1+1=n∧wrap64 ((n:Nat):Int)=n):=V (JS F);by_cases hex:g< -2
  ·rw[JT hex]at a;have HA:=V a;clear h0 h z hS a a1 C M F same ak I W G a8 aM t129 b1 b2 b3 b4 b5 b6 aj b0 a7 b9;go_enter func84,ntmps84;go_upto_region 2 with(fail);generalize w.alloc (.cells #[Ha s,Z 0,O A l.length c] 85)=W1 at*;generalize w.heap.size=b at*;obtain⟨T,U,c2⟩:=j.c3 b;obtain⟨f0,f1,f2⟩:=j.f3 b;go_wp2_with fail;refine j.k1 t62 fun w2 y=> ?_;go_wp2_with fail;refine y.ka t25 fun m=> ?_;have N:=y.drewN m;go_wp2;go_ret2;refine⟨((0,2),σ),rfl,?_⟩;exact(N.ya (A:=Eh S L X D rate da σ.d.za x σ.d*Qc A l c)).le (KZ (MZ aq.out (JZ _)) (RZ (al.out 2 (by rw[HA.out]) (by decide))))
  ·rw[DT hex]at a;by_cases hv:g≠ -2∧g≠(n:Int)-1
   ·rw[JT hv]at a;have HA:=V a;have bm:((g:Int) !=(-2))=true:=by rw[CU];exact hv.1
    have bn:((g:Int) !=(n:Int)-1)=true:=by rw[CU];exact hv.2
    clear h0 h z hS a a1 C M F same ak I W G a8 aM t129 b1 b2 b3 b4 b5 b6 aj b0 a7 b9 hv;go_enter func84,ntmps84;go_upto_region 2 with(fail);generalize w.alloc (.cells #[Ha s,Z 0,O A l.length c] 85)=W1 at*;generalize w.heap.size=b at*;obtain⟨T,U,c2⟩:=j.c3 b;obtain⟨f0,f1,f2⟩:=j.f3 b;go_wp2_with fail;refine j.k1 t62 fun w2 y=> ?_;go_wp2_with fail;refine y.ka t25 fun m=> ?_;have N:=y.drewN m;clear T U c2 f0 f1 f2 j y;go_wp2_with fail;refine N.k1 t12 fun w4 R=> ?_;go_wp2;go_ret2;refine⟨((0,80),σ),rfl,?_⟩;exact(R.ya (A:=Eh S L X D rate da σ.d.za x σ.d*Qc A l c)).le (KZ (MZ aq.out (JZ _)) (RZ (al.out 80 (by rw[HA.out]) (by decide))))
   ·rw[DT hv]at a;have H:((g:Int) !=(-2))=false∨(((g:Int) !=(-2))=true∧((g:Int) !=(n:Int)-1)=false):=by
     by_cases h2:g= -2
     ·exact .inl (by rw[h2];rfl)
     ·exact .inr ⟨by rw[CU];exact h2,by rw[kV];exact Decidable.byContradiction fun h3=>hv ⟨h2,h3⟩⟩
    by_cases E:jd ⟨s,n,l⟩=0
    ·have a6:ow ⟨s,n,l⟩:=⟨E,fun e he=>(W.vc e he).w⟩;have t129:Ud prog 129 #[.agg #[Ha s,Z n,O A l.length c]] (Qc A l c) (.tuple #[Ha (Sa ⟨s,n,l⟩),Z 0]) (Qc A l c):=by unfold Tw at t129;rw[JT E]at t129;exact t129
     have cG:=Ej a6;have cb:=h.append t hK ho a6 M.symm;have t130:=CH L D σ.d.za x.P (Sa ⟨s,n,l⟩) σ.d z.up rfl z.log.sub z.log.size cG;have t30:=PA da s t G;have cf:Vi x.P (Sa ⟨s,n,l⟩)≤819212:=by have h1:=Nj z.log.size z.log.sub;have h2:=z.log.sub;unfold Vi;split<;>omega
     have cT:=(z.JO t).1;have ch:=z.ym;have cv:=An.br da s t;have cc:n+l.length≤1073741824:=(Hd E).2.2.2.2.1;have t131:∀i,i<l.length→Ud prog 131 #[Da X,.agg #[Pa (An.Qa da s:Nat),Z ((n:Int)+i),Z (Vi x.P (Sa ⟨s,n,l⟩))]] (Xd X D rate x.m x.tl (Vc (qk da (Vi x.P (Sa ⟨s,n,l⟩)) ⟨s,n,l⟩ i) x.mem)) (Z 0) (Xd X D rate x.m x.tl (Vc (qk da (Vi x.P (Sa ⟨s,n,l⟩)) ⟨s,n,l⟩ (i+1)) x.mem)):=fun i hi=>by
      have h1:(Vc (qk da (Vi x.P (Sa ⟨s,n,l⟩)) ⟨s,n,l⟩ i) x.mem).length≤10000000:=by
       have h2:=Qo (qk da (Vi x.P (Sa ⟨s,n,l⟩)) ⟨s,n,l⟩ i) x.mem;have h3:(qk da (Vi x.P (Sa ⟨s,n,l⟩)) ⟨s,n,l⟩ i).length=i:=by unfold qk;simp
       omega
      rw[lz];have:=uH X D rate x.m x.tl (Vc (qk da (Vi x.P (Sa ⟨s,n,l⟩)) ⟨s,n,l⟩ i) x.mem) ⟨An.Qa da s,n+i,Vi x.P (Sa ⟨s,n,l⟩)⟩ (CQ cv cc hi cf) h1 (fg ch);unfold bj at this;rw[show(((n+i:Nat)):Int)=(n:Int)+i from Int.natCast_add n i]at this;exact this
     have cx:∀i,i<l.length→IntKind.i64.wrap ((n:Int)+i)=(n:Int)+i∧wrap64 ((n:Int)+i)=(n:Int)+i:=fun i hi=>lT cc hi;have an:=sh (da:=da) (pos:=Vi x.P (Sa ⟨s,n,l⟩)) a6;have an:Kl da (Vi x.P (Sa ⟨s,n,l⟩),Sa ⟨s,n,l⟩)=qk da (Vi x.P (Sa ⟨s,n,l⟩)) ⟨s,n,l⟩ l.length:=an;rw[an]at cb;have hA:Fe σ.MB s g l=0:=a1.trans (a.trans E);generalize An.Qa da s=hh at*;generalize Vi x.P (Sa ⟨s,n,l⟩)=pos at*;have ca:σ.MB++[⟨s,n,l⟩]=σ.MB++[Ff σ.MB s l]:=by rw[aj]
     have av:(OB da σ s g l 0 60 σ∧(Wb x.P (Sa ⟨s,n,l⟩) σ.d)=(60,σ.d))∨(∃σ',OB da σ s g l n 0 σ'∧(Wb x.P (Sa ⟨s,n,l⟩) σ.d).1=0∧aa.le (Eh S L X D rate da σ.d.za ⟨zk x.P (Sa ⟨s,n,l⟩),0,x.m,x.tl,Vc (qk da pos ⟨s,n,l⟩ l.length) x.mem⟩ (Wb x.P (Sa ⟨s,n,l⟩) σ.d).2) (Zk S L X D rate da σ'))∨(∃σ',OB da σ s g l 0 61 σ'∧(Wb x.P (Sa ⟨s,n,l⟩) σ.d).1=61∧aa.le (na D (Wb x.P (Sa ⟨s,n,l⟩) σ.d).2) (Zk S L X D rate da σ')):=by
      rcases cb with⟨B,e2⟩|⟨B,e2,e3,y',e4,e5⟩|⟨B,e2,e3,e4⟩
      ·exact .inl ⟨⟨h,fV _,rfl,rfl,.inr ⟨hA,.inl ⟨rfl,rfl,rfl,x,ho⟩⟩,fun u n' e f hB e0 _ hu=>absurd (e2 u n' e f hB e0 hu) (fun h=>h)⟩,B⟩
      ·have b7:(Wb x.P (Sa ⟨s,n,l⟩) σ.d).2.cap=σ.d.cap:=by
        rcases z.append t hS (by omega) a6 M.symm with⟨g1,_⟩|⟨_,k,_⟩|⟨g1,_⟩
        ·rw[g1]at B;cases B
        ·exact k.cap
        ·rw[g1]at B;cases B
       refine .inr (.inl ⟨_,⟨e4,FT _,b7,rfl,.inr ⟨hA,.inr (.inl ⟨rfl,M.symm,ca,_,rfl⟩)⟩,fun u n' e f hB _ _ _=>⟨rfl,e5 u n' e f hB⟩⟩,B,?_⟩);show aa.le _ (Eh S L X D rate da (Wb x.P (Sa ⟨s,n,l⟩) σ.d).2.za _ (Wb x.P (Sa ⟨s,n,l⟩) σ.d).2);rw[e2];exact JZ _
      ·have b7:(Wb x.P (Sa ⟨s,n,l⟩) σ.d).2.cap=σ.d.cap:=by
        rcases z.append t hS (by omega) a6 M.symm with⟨g1,_⟩|⟨g1,_⟩|⟨_,_,_,g4,_⟩
        ·rw[g1]at B;cases B
        ·rw[g1]at B;cases B
        ·exact g4
       refine .inr (.inr ⟨_,⟨e4,FT _,b7,rfl,.inr ⟨hA,.inr (.inr ⟨rfl,rfl,ca,rfl,e2⟩)⟩,fun u n' e f hB _ _ _=> ?_⟩,B,JZ _⟩);obtain⟨x2,_,g2,_⟩:=hB;rw[g2]at e3;cases e3
     have dj:Hid (l.length≤1073741824):=V (by omega);have cF:=V t131;have ds:=V cx;generalize Wb x.P (Sa ⟨s,n,l⟩) σ.d=q at*;obtain⟨q1,d1⟩:=q;generalize zk x.P (Sa ⟨s,n,l⟩)=P2 at*;generalize Sa ⟨s,n,l⟩=p at*;unfold Sx TI at t130;dsimp only at*;have HS:=V av;clear h0 h z hS a a1 C M F same ak I W G a8 aM b1 b2 b3 b4 b5 b6 aj b0 a7 hv E a6 cb cf cT ch cv cc t131 cx an hA ca av;obtain⟨cw,ck,cl⟩:=b9.out;go_enter func84,ntmps84;go_upto_region 2 with(fail);generalize w.alloc (.cells #[Ha s,Z 0,O A l.length c] 85)=W1 at*;generalize w.heap.size=b at*;obtain⟨T,U,c2⟩:=j.c3 b;obtain⟨f0,f1,f2⟩:=j.f3 b;go_wp2_with fail;refine j.k1 t62 fun w2 y=> ?_;go_wp2_with fail;refine y.ka t25 fun m=> ?_;have N:=y.drewN m;clear T U c2 f0 f1 f2 j y;go_wp2_with fail;refine N.k1 t12 fun w4 R=> ?_;obtain⟨T,U,c2⟩:=R.c3 b;obtain⟨f0,f1,f2⟩:=R.f3 b;have I5:=R.ra b 1 (Z n) #[Ha s,Z n,O A l.length c];clear N;rcases HS.out with⟨hr,he⟩|⟨σ',hr,he,hle⟩|⟨σ',hr,he,hle⟩
     ·cases he;have HR:=V hr;replace t130:Ud prog 130 #[Da L,Ha p] (Fc L D σ.d.za x.P*na D σ.d) (.tuple #[Z 0,Z 60]) (Fc L D σ.d.za x.P*na D σ.d):=t130;clear hr;rcases H with H|⟨bm,bn⟩;all_goals go_wp2_with fail;refine I5.k1 t129 fun w5 Q=> ?_;have g0:w5.cell? ⟨S,0,none⟩=some (Da L):=Q.cells S 0;go_wp2_with fail;refine Q.k1 t130 fun w6 I7=> ?_;go_wp2;go_ret2;exact⟨((0,60),σ),rfl,(I7.ya (A:=Eh S L X D rate da σ.d.za x σ.d*Qc A l c)).le (KZ (MZ aq.out (JZ _)) (RZ HR.out))⟩
     ·subst he;have HR:=V hr;have bt:=V hle;replace t130:Ud prog 130 #[Da L,Ha p] (Fc L D σ.d.za x.P*na D σ.d) (.tuple #[Z pos,Z 0]) (Fc L D σ.d.za P2*na D d1):=t130;clear hr hle;rcases H with H|⟨bm,bn⟩;all_goals
       go_wp2_with fail;refine I5.k1 t129 fun w5 Q=> ?_;have g0:w5.cell? ⟨S,0,none⟩=some (Da L):=Q.cells S 0;clear T U c2 f0 f1 f2 I5 R;go_wp2_with fail;refine Q.k1 t130 fun w6 I7=> ?_;have g2:w6.cell? ⟨S,2,none⟩=some (Pa da):=I7.cells S 2;clear g0 Q t130;go_wp2_with fail;refine I7.kp t30.pu fun w7 I8=> ?_;have K0:Y w o r (ba b 85 #[Ha s,Z n,O A l.length c]*(ba S 82 #[Da L,Da X,Pa da]*(Fc L D σ.d.za P2*(Xd X D rate x.m x.tl (Vc (qk da pos ⟨s,n,l⟩ 0) x.mem)*(na D d1*Qc A l c))))) w7:=by have hI:Y w o r (ba b 85 #[Ha s,Z n,O A l.length c]*(ba S 82 #[Da L,Da X,Pa da]*(Fc L D σ.d.za P2*(Xd X D rate x.m x.tl x.mem*(na D d1*Qc A l c))))) w7:=I8.ya;exact hI
       clear g2 I7 I8 t30 cw ck cl;go_wp2_with fail;go_loopw [83] (fun cn wr=>∃i:Nat,cn=Z i∧i≤l.length∧Y w o r (ba b 85 #[Ha s,Z n,O A l.length c]*(ba S 82 #[Da L,Da X,Pa da]*(Fc L D σ.d.za P2*(Xd X D rate x.m x.tl (Vc (qk da pos ⟨s,n,l⟩ i) x.mem)*(na D d1*Qc A l c))))) wr) (fun cn _=>l.length-(intOf cn).toNat);case atStart=>exact⟨0,rfl,WT _,K0⟩
       case round=>
        obtain⟨i,rfl,hi,J⟩:=hrel;clear K0;by_cases bf:i<l.length
        ·have e6:(i:Int)<(l.length:Int):=by omega
         have t131:=cF.out i bf;obtain⟨e7,e8⟩:=ds.out i bf;have cp:Hid (wrap64 ((i:Int)+1)=(i:Int)+1):=V (MS dj.out bf);have c9:wr.cell? ⟨b,1,none⟩=some (Z n):=J.cells b 1;have B:wr.cell? ⟨S,1,none⟩=some (Da X):=J.cells S 1;have q1:=IT c9;have q2:=IT B;go_upto_region 25 with(fail);refine Cb [0,4,7,9] [1,2,3,5,6,8,10] [11,12] (by kernel_rfl) (by kernel_rfl) (fun _ _ _ _ _ h=>h) ?_;simp only[QT,VT,MT,NT];dsimp only[Ub];go_simp;repeat (quiet_step (fail))
         refine fU ?_;first|(rintro _ ⟨pq,rfl⟩)|(intro pq)
         have ct:=jU wr pq.d pq.os;generalize Go.Sort.grow (redrawn wr pq.d) pq.os=wq at*;clear pq;have J2:=J.below ct;clear q1 q2 c9 B J ct;go_wp2_with fail;refine J2.k1 t131 fun w9 J3=> ?_;go_wp2_with fail;clear e7 e8;go_roundw;case rel=>exact⟨i+1,by rw[cp.out];rfl,by omega,J3.ya⟩
         case measure=>rw[cp.out];exact oS bf
        ·have e6:¬ ((i:Int)<(l.length:Int)):=by omega
         have dt:i=l.length:=by omega
         subst dt;have c9:wr.cell? ⟨b,1,none⟩=some (Z n):=J.cells b 1;go_wp2;go_ret2;first|refine⟨((n,0),σ'),rfl,?_⟩|refine⟨n,0,rfl,σ',?_⟩
         have J2:Y w o r (Eh S L X D rate da σ.d.za ⟨P2,0,x.m,x.tl,Vc (qk da pos ⟨s,n,l⟩ l.length) x.mem⟩ d1*Qc A l c) wr:=J.ya;exact J2.le (KZ (MZ bt.out (JZ _)) (RZ HR.out))
     ·subst he;have HR:=V hr;have bt:=V hle;replace t130:Ud prog 130 #[Da L,Ha p] (Fc L D σ.d.za x.P*na D σ.d) (.tuple #[Z 0,Z 61]) (aa.emp*na D d1):=t130;clear hr hle;rcases H with H|⟨bm,bn⟩;all_goals go_wp2_with fail;refine I5.k1 t129 fun w5 Q=> ?_;have g0:w5.cell? ⟨S,0,none⟩=some (Da L):=Q.cells S 0;go_wp2_with fail;refine Q.k1 t130 fun w6 I7=> ?_;go_wp2;go_ret2;have J2:Y w o r (na D d1*Qc A l c) w6:=I7.ya;exact⟨((0,61),σ'),rfl,J2.le (KZ (MZ bt.out (JZ _)) (RZ HR.out))⟩
    ·have t129:Ud prog 129 #[.agg #[Ha s,Z n,O A l.length c]] (Qc A l c) (.tuple #[.string ⟨#[]⟩,Z (jd ⟨s,n,l⟩)]) (Qc A l c):=by unfold Tw at t129;rw[DT E]at t129;exact t129
     generalize jd ⟨s,n,l⟩=bc at*;have n2:((bc:Int) !=0)=true:=by rw[CU];omega
     have HA:=V a;have bs:=V E;clear h0 h z hS a a1 C M F same ak I W G a8 aM b1 b2 b3 b4 b5 b6 aj b0 a7 hv E;obtain⟨cw,ck,cl⟩:=b9.out;go_enter func84,ntmps84;go_upto_region 2 with(fail);generalize w.alloc (.cells #[Ha s,Z 0,O A l.length c] 85)=W1 at*;generalize w.heap.size=b at*;obtain⟨T,U,c2⟩:=j.c3 b;obtain⟨f0,f1,f2⟩:=j.f3 b;go_wp2_with fail;refine j.k1 t62 fun w2 y=> ?_;go_wp2_with fail;refine y.ka t25 fun m=> ?_;have N:=y.drewN m;clear T U c2 f0 f1 f2 j y;go_wp2_with fail;refine N.k1 t12 fun w4 R=> ?_;obtain⟨T,U,c2⟩:=R.c3 b;obtain⟨f0,f1,f2⟩:=R.f3 b;have I5:=R.ra b 1 (Z n) #[Ha s,Z n,O A l.length c];clear N;rcases H with H|⟨bm,bn⟩;all_goals go_wp2_with fail;refine I5.k1 t129 fun w5 Q=> ?_;go_wp2;go_ret2;refine⟨((0,bc),σ),rfl,?_⟩;exact(Q.ya (A:=Eh S L X D rate da σ.d.za x σ.d*Qc A l c)).le (KZ (MZ aq.out (JZ _)) (RZ (al.out bc (by rw[HA.out]) bs.out)))
 ·rw[JT C]at a;generalize jd ⟨s,0,l⟩=bc at*;have n1:(((bc:Nat):Int)==0)=false:=by rw[ET];omega
  have n2:((bc:Int) !=0)=true:=by rw[CU];omega
  have j:=I.Wa (.cells #[Ha s,Z 0,O A l.length c] 85) w.heap.size rfl;have HA:=V a;have bs:=V C;clear h0 h z hS a a1 C M F same ak I W G a8;go_enter func84,ntmps84;go_upto_region 2 with(fail);generalize w.alloc (.cells #[Ha s,Z 0,O A l.length c] 85)=W1 at*;generalize w.heap.size=b at*;obtain⟨T,U,c2⟩:=j.c3 b;obtain⟨f0,f1,f2⟩:=j.f3 b;go_wp2_with fail;refine j.k1 t62 fun w2 y=> ?_;go_wp2_with fail;refine y.ka t25 fun m=> ?_;have N:=y.drewN m;go_wp2;go_ret2;refine⟨((0,bc),σ),rfl,?_⟩;exact(N.ya (A:=Eh S L X D rate da σ.d.za x σ.d*Qc A l c)).le (KZ (MZ aq.out (JZ _)) (RZ (al.out bc (by rw[HA.out]) bs.out)))
end
end
end Go.Proofs.YteacbkflfafefaaGreatDoor
