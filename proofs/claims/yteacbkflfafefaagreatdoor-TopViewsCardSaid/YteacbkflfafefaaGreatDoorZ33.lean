/- Part 34 of 50 of the proof that TopViews returns true at every input: lemmas on the way; no condition. -/
import Derived.Test.YteacbkflfafefaaGreatDoorZ30
namespace Go.Proofs.YteacbkflfafefaaGreatDoor
set_option linter.all false
set_option maxHeartbeats 2000000
set_option maxRecDepth 100000
namespace An
theorem WD:∀ (b:List Bs) (a:Nat),((Cc a b).zip b).Pairwise fun x y=>x.1+x.2.length+12≤y.1
 |[],a=>by simp[Cc]
 |p::r,a=>by simp only[Cc,jX,xU];exact⟨fun q c=>(Xg r _ q c).1,WD r _⟩
theorem aw:∀ (P:Ma) (i:Nat),(∀b∈P,Xa b≤4096)→(vd i P).Pairwise fun x y=>x.1+x.2.length+12≤y.1
 |[],i,_=> .nil
 |b::r,i,c=>by rw[vd,PW];refine⟨WD _ _,aw r (i+1) (fun x a=>c x (.tail _ a)),fun x a y e=> ?_⟩;have f:=Xg b _ x a;have d:=c b (.head _);have g:=yf r (i+1) (fun x a=>c x (.tail _ a)) y e;unfold Xa at d;omega
theorem PG{P:Ma}(l:∀m∈P,Xa m≤4096){fr:Nat}{F:List (Nat×Bs)}(hF:(ab P).filter (fun q=>decide (fr≤q.1))=F):Mg P fr=F[0]? ∧∀k (h:k<F.length),Mg P (F[k].1+F[k].2.length+12)=F[k+1]? :=by
 have c:F.Pairwise fun x y=>x.1+x.2.length+12≤y.1:=hF▸(aw P 0 l).filter _;have hm:∀q∈F,fr≤q.1:=fun q a=>by rw[←hF]at a;simpa using(vU.1 a).2
 constructor
 ·unfold Mg;rw[←List.head?_filter,hF,List.head?_eq_getElem?]
 ·intro k h;have g:∀pos,fr≤pos→Mg P pos=(F.filter fun q=>decide (pos≤q.1)).head? :=fun pos o=>by unfold Mg;rw[←List.head?_filter,←hF,xY];congr 1;apply lW;intro q _;rw[RV];simp only[bU,aU];omega
  have n:=hm _ (XT h);have b:F[k]? =some F[k]:=PT h;generalize F[k]=f at*;rw[g _ (by omega),←List.head?_drop];have d:F=F.take (k+1)++F.drop (k+1):=(tU _ _).symm;rw[d,PW]at c;congr 1;conv=>lhs;rw[d]
  rw[sW,WU.2,iV,wV.2]
  ·intro q a;have j:f∈F.take (k+1):=by rw[MU,b];simp
   simpa using c.2.2 _ j q a
  ·intro q a;rw[MU,b]at a;simp only[nX,oU,lU]at a;rcases a with a|rfl
   ·have i:F.take (k+1)=F.take k++[f]:=by rw[MU,b];rfl
    have e:=c.1;rw[i,PW]at e;have:=e.2.2 q a _ (lU.2 rfl);simp;omega
   ·simp;omega
end An
section
open Go.RowKit An Go.ChangeShapes Go.WideShapes Go.ChangeAt Go.Proofs.Tryz
def bu:Option (Nat×Bs)→Value
 |none=> .tuple #[Ha [],Z 0,Z 0,Z 4]
 |some q=> .tuple #[Ha q.2,Z q.1,Z (q.1+q.2.length+12:Nat),Z 0]
theorem YO{l:List Nat}{k:Nat}(h:k<l.length):(Hx l)[k]? =some (Z (l[k]:Nat)):=by simp[Hx,h]
theorem aD(l:List Nat):(Hx l).length=l.length:=by simp[Hx]
theorem zG(L D:Nat)(st:Int)(P:Ma)(d:An.ja)(y:Nat)(hd:d.down=false)(ak:d.za=st)(j:Jc d.fa P [] none y)(pos:Nat)(bs:pos≤1000000000):Ud prog 26 #[Da L,Z pos] (Fc L D st P*na D d) (bu (Mg P pos)) (Fc L D st P*na D d):=by
 intro w o r h0;have I0:=TZ h0;obtain⟨A,c,u,I⟩:=I0.log L D st P;have t1:=Cw L D st (O A P.length c) u d hd ak;have hdiv:Int.tdiv (pos:Int) 4096=((pos/4096:Nat):Int):=by rw[PV (by omega)];omega
 have bf:max (pos:Int) 0=pos:=by omega
 have hle:∀ {A:Option Addr} {c:Nat} {u:Int},aa.le (Ut L D st A P.length c u (Gn P)) (Fc L D st P):=fun {A c u}=>ig;have hP:=j.sub;have Q:Hid (pos/4096≤P.length→Mg P pos=qq pos (vd (pos/4096) (P.drop (pos/4096)))):=V fun h=>au j.size (by omega) h;have R:Hid (P.length<pos/4096→Mg P pos=none):=V fun h=>bD j.size (by omega);have HL:=V j;have HD:=V hd;generalize s:Mg P pos=res at*;clear s h0 hd j ak;generalize b6:pos/4096=n0 at*;have bm:n0≤300000:=by omega
 clear b6;go_enter func26,ntmps26;go_wp2_with fail;go_step3;go_wp2_with fail;refine Y.ka I t1 fun m=> ?_;have I1:=(I.drewN m).via (hle (A:=A) (c:=c) (u:=u));clear I I0 t1;go_wp2_with fail;go_step3;go_wp2_with fail;go_loopw [9] (fun yn wr=>∃n:Nat,yn=Z n∧n≤400000∧Hid (n≤P.length→res=qq pos (vd n (P.drop n)))∧Hid (P.length<n→res=none)∧Y w o r (Fc L D st P*na D d) wr) (fun yn _=>P.length-(intOf yn).toNat);case atStart=>exact⟨n0,rfl,by omega,Q,R,I1.ya⟩
 case round=>
  obtain⟨n,rfl,c9,C,a8,J⟩:=hrel;clear I1 Q R A c u;obtain⟨A,c,u,G⟩:=J.log L D st P;have c3:wr.cell? ⟨L,3,none⟩=some (O A P.length c):=G.cells L 3;have c0:wr.cell? ⟨L,0,none⟩=some (Da D):=G.cells L 0;by_cases l:n<P.length
  ·have j:=HL.out;have t56:=Tk n (by omega);have b0:=j.size _ (XT l);have b9:=Sz b0;have r1:=j.reads HD.out l (a:=0) (k:=Xa P[n]) (by omega);have t42:=Bn D d (Ca n) 0 (Xa P[n]:Int) (Qd _) (by omega) (by omega);rw[show((0:Nat):Int)=0 from rfl]at r1;rw[r1,FW,YT (by rw[Ze];exact FT _)]at t42;have t58:=vM (Lb n P[n]) n (by rw[Ze];omega) (by omega);have N:=cy (T:=[]) (n:=n) (by omega) (j.lF _ (XT l)) Oi;rw[EU]at N;rw[N]at t58;dsimp only at t58;have an:Hid (∀k (q:k<P[n].length),bo (Lb n P[n]) ((Cc 12 P[n])[k]'(by rw[qf];exact q))=some P[n][k]):=V fun k q=>uF (j.lF _ (XT l)) q;have M:=C.out (by omega);rw[zD l]at M;have hlen:=Ze n P[n];have W:Hid (∀k (q:k<P[n].length),(Cc 12 P[n])[k]'(by rw[qf];exact q)+P[n][k].length+12≤Xa P[n]):=V fun k q=>by
    have b5:k<((Cc 12 P[n]).zip P[n]).length:=by rw[fZ,qf];omega
    have:=Xg _ _ _ (XT b5);rw[List.getElem_zip]at this;exact this.2
   have p:Cc (n*4096+12) P[n]=(Cc 12 P[n]).map (n*4096+ ·):=bw _ _ _;have x:(Gn P)[n]? =some (Z (Xa P[n])):=by have:=vh (f:=iv) Ts (P.map CD) n 0 (by simpa using l) (by decide);rw[wU,lX]at this;unfold Gn;rw[this];simp[iv,CD]
   obtain⟨g,rfl,hc⟩:=G.Mc (A:=A) (c:=c) (n:=P.length) (xs:=Gn P) (by intro h;have:=lg P;rw[h]at this;simp at this;omega);have c4:wr.cell? ⟨g,n,none⟩=some (Z (Xa P[n])):=hc n _ x;have q0:=IT c0;have q3:=IT c3;have q4:=IT c4;have bc:(n:Int)<(P.length:Int):=by omega
   have HR:=V M;have HS:=V p;have HC:=V hlen;clear M p hlen j r1 N hc x C;generalize Lb n P[n]=cb at*;generalize P[n]=b at*;generalize Xa b=cs at*;go_wp2_with fail;refine Hc [0,4,6,10] [1,2,3,5,7,8,9,11,12] 13 [14,15,16,17,18] (by kernel_rfl) (by kernel_rfl) (by rfl) (fun _ _ _ _ _ h=>h) ?_;simp only[QT,VT,MT,NT];dsimp only[Ub];go_simp;repeat (quiet_step ((go_at_call 56;refine gU (t56 _))))
   refine fU ?_;first|(rintro _ ⟨E,rfl⟩)|(intro E)
   have aM:=jU wr E.d E.os;generalize Go.Sort.grow (redrawn wr E.d) E.os=wq at*;clear E;intro K hK;go_simp;have J1:=G.below aM;clear q0 q3 q4 c0 c3 c4 J G;refine J1.k1 t42 fun w3 J2=> ?_;go_simp;refine hK _ _ ?_;clear hK K;repeat (quiet_step (fail))
   refine fU ?_;go_wp2_with fail;refine((J2.le (Re _)).call t58).mono ?_;rintro e w4 ⟨v,rfl,J3⟩;obtain⟨_,B,cc,rfl⟩:=J3.Cd v;have J4:=(J3.via (hle (A:=some ⟨g,0,none⟩) (c:=c) (u:=u))).ya (A:=ua 3 1 (O B (Cc 12 b).length cc) (Cc 12 b).length (Hx (Cc 12 b))*(Fc L D st P*na D d));have ca:=qf b 12;clear J1 J2 J3 t42 t58 t56;go_wp2_with fail;go_loopw [72] (fun yk wr=>∃k,k≤b.length∧yk=Z k∧Hid (res=qq pos (((Cc (n*4096+12) b).zip b).drop k++vd (n+1) (P.drop (n+1))))∧Y w o r (ua 3 1 (O B (Cc 12 b).length cc) (Cc 12 b).length (Hx (Cc 12 b))*(Fc L D st P*na D d)) wr) (fun yk _=>b.length-(intOf yk).toNat);case atStart=>exact⟨0,WT _,rfl,V (by rw[FW];exact HR.out),J4⟩
   case round=>
    obtain⟨k,q,rfl,X,S⟩:=hrel;clear J4 HR;by_cases z:k<b.length
    ·have aq:k<(Cc 12 b).length:=by omega
     obtain⟨g2,rfl,a6⟩:=S.Mc (A:=B) (c:=cc) (n:=(Cc 12 b).length) (xs:=Hx (Cc 12 b)) (by intro h;have:=aD (Cc 12 b);rw[h]at this;simp at this;omega);have c5:wr.cell? ⟨g2,k,none⟩=some (Z (((Cc 12 b)[k]:Nat):Int)):=a6 k _ (YO aq);have a7:=an.out k z;have b7:=W.out k z;have i:=X.out;rw[iN z,TU]at i;have aj:(Cc (n*4096+12) b)[k]'(by rw[qf];exact z)=n*4096+(Cc 12 b)[k]:=by simp only[HS.out,List.getElem_map]
     rw[aj]at i;have av:(k:Int)<((Cc 12 b).length:Int):=by omega
     have t59:=tF cb (Cc 12 b)[k] (by rw[HC.out];omega) (by omega);rw[a7]at t59;unfold Xx at t59;dsimp only at t59;have F:=V i;clear X i a7 aj a6;generalize(Cc 12 b)[k]=pl at*;generalize b[k]=t at*;have cf:IntKind.i64.wrap ((n:Int)*4096)=(n:Int)*4096:=RT _ (by omega);by_cases c1:n*4096+pl<pos
     ·have a1:(n:Int)*4096+(pl:Int)<(pos:Int):=by omega
      go_wp2;go_roundw;case rel=>refine⟨k+1,by omega,by go_num,V ?_,S⟩;rw[F.out];show List.find? _ (_::_)=_;rw[oW,show decide (pos≤n*4096+pl)=false from yU (by omega)];rfl
      case measure=>simp[intOf];omega
     ·have a1:¬ ((n:Int)*4096+(pl:Int)<(pos:Int)):=by omega
      have al:res=some (n*4096+pl,t):=by rw[F.out];show List.find? _ (_::_)=_;rw[oW,show decide (pos≤n*4096+pl)=true from RU (by omega)]
      subst al;have bn:pl≤4096:=by omega
      obtain⟨U,H⟩:∃U,pl+t.length+12=U:=⟨_,rfl⟩;rw[H]at t59 b7;have hv:Hid (bu (some (n*4096+pl,t))= .tuple #[Ha t,Z ((n:Int)*4096+pl),Z ((n:Int)*4096+U),Z 0]):=V (by unfold bu;dsimp only;rw[←H,show((n*4096+pl:Nat):Int)=(n:Int)*4096+pl by omega,show((n*4096+pl+t.length+12:Nat):Int)=(n:Int)*4096+((pl+t.length+12:Nat):Int) by omega]);clear H F;have bt:decide ((n:Int)*4096+(pl:Int)<(pos:Int))=false:=yU a1;go_wp2_with fail;refine S.kp t59 fun w5 K1=> ?_;go_wp2_with fail;rw[SV];refine ZT (v:=.tuple #[Ha t,Z ((n:Int)*4096+pl),Z ((n:Int)*4096+U),Z 0]) (by simp[results,results26,go_sem]) rfl ⟨by rw[hv.out],K1.ya⟩
    ·have av:¬ ((k:Int)<((Cc 12 b).length:Int)):=by omega
     have i:=X.out;rw[ZV (by rw[fZ,qf];omega),iV]at i;have F:=V i;clear X i;go_wp2;go_roundw;case rel=>exact⟨n+1,by go_num,by omega,V fun _=>F.out,V fun h=>by omega,S.ya⟩
     case measure=>simp[intOf];omega
  ·have s:res=none:=by
    by_cases h:n=P.length
    ·rw[C.out (by omega),h,List.drop_length];rfl
    ·exact a8.out (by omega)
   subst s;clear C a8;go_wp2_with fail;rw[SV];refine ZT (v:=bu none) (by simp[results,results26,go_sem,bu]) rfl ⟨rfl,J⟩
theorem An.qG(e:qa):∀l:List qa,(ins e l).length≤l.length+1
 |[]=>FT _
 |a::r=>by
  unfold ins;split
  ·exact FT _
  ·split
   ·exact fV _
   ·exact aW (An.qG e r)
theorem An.Qo:∀ (es l:List qa),(Vc es l).length≤l.length+es.length
 |[],l=>FT _
 |e::r,l=>by have a:=An.Qo r (ins e l);have b:=An.qG e l;show(Vc r (ins e l)).length≤_;rw[UT];omega
theorem qC{α β:Type}(f:α→List β){a b:List α}(h:List.Sublist a b):(a.flatMap f).length≤(b.flatMap f).length:=by
 induction h with
 |slnil=>exact FT _
 |cons _ _ c=>rw[AU,CT];omega
 |cons_cons _ _ c=>rw[AU,AU,CT,CT];omega
def qk(da:Nat)(q:Nat)(b:Za)(i:Nat):List qa:=(List.range i).map fun i=>⟨Qa da b.stream,b.first+i,q⟩
theorem lz(da q:Nat)(b:Za)(i:Nat)(l:List qa):Vc (qk da q b (i+1)) l=ins ⟨Qa da b.stream,b.first+i,q⟩ (Vc (qk da q b i) l):=by unfold qk;rw[List.range_succ,tV,vx];rfl
theorem An.Holds.gT{P:Ma}{bs:List Za}(h:Holds P bs){q:Nat×Bs}(d:q∈An.ab P):∃b∈bs,q.2=Sa b∧ow b:=by
 obtain⟨k,c,rfl⟩:=dV d;have a:k<bs.length:=by rw[←h.ab];exact c
 exact⟨bs[k],XT a,h.at a,h.ok _ (XT a)⟩
theorem XI(X D L rate:Nat)(st:Int){P:Ma}{y:Nat}{bs:List Za}(d:An.ja)(hd:d.down=false)(ak:d.za=st)(l:Jc d.fa P [] none y)(hh:Holds P bs)(m:Fa)(tl:Nat→List qa)(mem:List qa) (ck:m.ia.length≤100000) (cl:m.ia.flatten.length≤100000) (aj:m.da<18446744073709551616) (hs:ub mem=true) (hn:mem.length≤1000000) (fr:Nat) (cb:fr≤1000000000):Ud prog 163 #[Da X,Da L,Z fr] (Xd X D rate m tl mem*(Fc L D st P*na D d)) (Z 0) (Xd X D rate m tl (Vc (ld m.da ((ab P).filter fun q=>decide (fr≤q.1))) mem)*(Fc L D st P*na D d)):=by
 intro w o r h0;have I:=TZ h0;obtain⟨F,hF⟩:∃F,(ab P).filter (fun q=>decide (fr≤q.1))=F:=⟨_,rfl⟩;obtain⟨a7,a8⟩:=PG l.size hF;rw[hF];have C:∀q∈F,q∈ab P:=fun q t=>by rw[←hF]at t;exact(vU.1 t).1
 have R:∀q∈F,∃b∈bs,q.2=Sa b∧ow b:=fun q t=>hh.gT (C q t);have Q:∀q∈F,q.1+q.2.length+12≤819200:=fun q t=>by have j:=(yf P 0 l.size q (C q t)).2;have:=l.sub;omega
 have W:bs.length≤68200:=by have j:=ar l.size;rw[hh.len]at j;have:=l.sub;omega
 have G:∀k,(ld m.da (F.take k)).length≤545600:=fun k=>by
  have j:(ld m.da (F.take k)).length≤(ld m.da (ab P)).length:=by unfold ld;have b7:List.Sublist (F.take k) (ab P):=(List.take_sublist k F).trans (hF▸xW);exact qC _ b7
  have:=gx (da:=m.da) hh;omega
 have t35:=jn X D rate m tl mem ck cl;have t26:=fun pos hp=>zG L D st P d y hd ak l pos hp;have bc:=V t26;have aq:=V R;have bt:=V Q;have al:=V G;have bn:=V a8;have HS:=V hs;have cp:∀k,Vc (ld m.da (F.take k)) mem=Vc (ld m.da (F.take k)) mem:=fun _=>rfl;clear h0 C R Q G a8 t26 hd ak l hh hF W cp;unfold ag at t35;have T:=V a7;clear a7;go_enter func163,ntmps163;go_wp2_with fail;refine I.kc t35 fun w2 v I2=> ?_;obtain⟨Av,cv,cx,rfl⟩:∃A c n3,v=O A n3 c:=by obtain⟨A,c,qs,h,_⟩:=I2.dr v m.ia;exact⟨A,c,qs.length,h⟩
 have I3:Y w o r (Xd X D rate m tl mem*(Fc L D st P*na D d)) w2:=I2.ya;have n:Y w o r (Xd X D rate m tl (Vc (ld m.da (F.take 0)) mem)*(Fc L D st P*na D d)) w2:=I3;clear I I2 I3 t35;have b5:(Instr.field 66 (.agg #[Z m.next,Z m.check,Pa m.da,O Av cx cv]) 2).run prog w2= .ok (Pa m.da) w2:=by kernel_rfl
 go_wp2_with fail;clear b5;go_loopw [8] (fun x8 wr=>∃k pos:Nat,x8=Z pos∧k≤F.length∧pos≤1000000000∧Hid (Mg P pos=F[k]?)∧Y w o r (Xd X D rate m tl (Vc (ld m.da (F.take k)) mem)*(Fc L D st P*na D d)) wr) (fun x8 _=>1000000001-(intOf x8).toNat);case atStart=>exact⟨0,fr,rfl,WT _,cb,T,n⟩
 case round=>
  obtain⟨k,pos,rfl,hk,b6,U,J⟩:=hrel;clear n T;have t26:=bc.out pos b6;rw[U.out]at t26;by_cases H:k<F.length
  ·have s:=PT H;rw[s]at t26;have K:=XT H;obtain⟨b,_,cn,hb⟩:=aq.out _ K;have Q:=bt.out _ K;have N:=bn.out k H;have dt:pos≤F[k].1:=by have j:=U.out;rw[s]at j;have:=eZ j;simpa using this
   have ct:F.take (k+1)=F.take k++[F[k]]:=by rw[MU,s];rfl
   have hc:=al.out k;generalize F[k]=q at*;obtain⟨a,q2⟩:=q;dsimp only at*;subst cn;have W:=Ej hb;have t27:=iE (Sa b) (by omega);rw[Hl hb]at t27;have t27:Tr prog 27 #[Ha (Sa b)] aa.emp (fun v=> .tuple #[bV b v,Z 0]) (fun v=>Ba 3 v b.vc.length (vc b.vc)):=t27;have E:=Hd hb.check;have cG:=E.2.2.1;have h8:=E.2.2.2.1;have ds:=E.2.2.2.2.1;have t30:=PA m.da b.stream aj (by omega);have aM:ld m.da (F.take (k+1))=ld m.da (F.take k)++qk m.da a b b.vc.length:=by rw[ct,Rn];congr 1;unfold ld;rw[List.flatMap_singleton,sh hb];rfl
   have hM:Vc (ld m.da (F.take (k+1))) mem=Vc (qk m.da a b b.vc.length) (Vc (ld m.da (F.take k)) mem):=by rw[aM,vx]
   have HM:=V hM;have ca:ub (Vc (ld m.da (F.take k)) mem)=true:=fg HS.out;have dj:(Vc (ld m.da (F.take k)) mem).length≤1545600:=KT (Qo _ _) (by omega);generalize Vc (ld m.da (F.take k)) mem=M at*;have cc:=An.br m.da b.stream aj;have t131:∀i,i<b.vc.length→Ud prog 131 #[Da X,.agg #[Pa (Qa m.da b.stream:Nat),Z ((b.first:Int)+i),Z a]] (Xd X D rate m tl (Vc (qk m.da a b i) M)) (Z 0) (Xd X D rate m tl (Vc (qk m.da a b (i+1)) M)):=fun i hi=>by
    have j:(Vc (qk m.da a b i) M).length≤10000000:=by
     have h2:=Qo (qk m.da a b i) M;have h3:(qk m.da a b i).length=i:=by unfold qk;simp
     omega
    rw[lz];have:=uH X D rate m tl (Vc (qk m.da a b i) M) ⟨Qa m.da b.stream,b.first+i,a⟩ ⟨cc,by show b.first+i<_;omega,by show a<_;omega⟩ j (fg ca);unfold bj at this;rw[show(((b.first+i:Nat)):Int)=(b.first:Int)+i by omega]at this;exact this
   have av:=V t131;have cw:∀i,i<b.vc.length→IntKind.i64.wrap ((b.first:Int)+i)=(b.first:Int)+i:=fun i hi=>RT _ (by omega);have c9:=V cw;have S:a+(Sa b).length+12≤1000000000:=by omega
   have N:Mg P (a+(Sa b).length+12)=F[k+1]? :=N;have an:=V N;have cF:pos<a+(Sa b).length+12:=by omega
   generalize Qa m.da b.stream=h at*;obtain⟨f,g,be⟩:=b;dsimp only at*;unfold bu at t26;dsimp only at t26;generalize e0:a+(Sa ⟨f,g,be⟩).length+12=b9 at*;generalize Sa ⟨f,g,be⟩=p at*;unfold bV at t27;dsimp only at t27;go_wp2_with fail;refine J.k1 t26 fun w5 B=> ?_;clear J t26;go_wp2_with fail;refine((B.le (Re _)).call t27).mono ?_;rintro e w6 ⟨v5,rfl,J3⟩;obtain⟨_,z,c5,rfl,_⟩:=J3.sl v5;have J4:=J3.Wa (.cells #[Ha f,Z g,O z be.length c5] 85) w6.heap.size rfl;clear B J3 t27;go_upto_region 9 with(fail);generalize w6.alloc (.cells #[Ha f,Z g,O z be.length c5] 85)=W7 at*;generalize w6.heap.size=u at*;have c0:=J4.cells u 0;go_wp2_with fail;refine J4.kp t30.pu fun w8 J5=> ?_;have n:Y w o r (ba u 85 #[Ha f,Z g,O z be.length c5]*(Xd X D rate m tl (Vc (qk m.da a ⟨f,g,be⟩ 0) M)*(Fc L D st P*na D d))) w8:=by have h:Y w o r (ba u 85 #[Ha f,Z g,O z be.length c5]*(Xd X D rate m tl M*(Fc L D st P*na D d))) w8:=J5.ya;exact h
   clear c0 J4 J5 t30;have c2:=n.cells u 2;generalize wr=wq at*;go_wp2_with fail;go_loopw [50] (fun x wr=>∃i:Nat,x=Z i∧i≤be.length∧Y w o r (ba u 85 #[Ha f,Z g,O z be.length c5]*(Xd X D rate m tl (Vc (qk m.da a ⟨f,g,be⟩ i) M)*(Fc L D st P*na D d))) wr) (fun x _=>be.length-(intOf x).toNat);case atStart=>exact⟨0,rfl,WT _,n⟩
   case round=>
    obtain⟨i,rfl,hi,J⟩:=hrel;clear n c2;by_cases a1:i<be.length
    ·have ch:(i:Int)<(be.length:Int):=by omega
     have t131:=av.out i a1;have cT:=c9.out i a1;have c1:=J.cells u 1;go_wp2_with fail;refine J.k1 t131 fun w9 J6=> ?_;clear c1 J t131;go_wp2;go_roundw;case rel=>exact⟨i+1,by go_num,by omega,J6.ya⟩
     case measure=>simp[intOf];omega
    ·have ch:¬ ((i:Int)<(be.length:Int)):=by omega
     have cf:i=be.length:=by omega
     subst cf;have b0:=HM.out;go_wp2;go_roundw;case rel=>exact⟨k+1,b9,rfl,by omega,S,an,by rw[b0];exact J.ya⟩
     case measure=>simp[intOf];omega
  ·have s:F[k]? =none:=dW (by omega);rw[s]at t26;have a6:Vc (ld m.da (F.take k)) mem=Vc (ld m.da F) mem:=by rw[YT (by omega)]
   have bm:=V a6;unfold bu at t26;dsimp only at t26;clear s a6;go_wp2_with fail;refine J.k1 t26 fun w5 B=> ?_;go_wp2;go_ret;rw[bm.out]at B;exact⟨rfl,B.ya⟩
end
end Go.Proofs.YteacbkflfafefaaGreatDoor
