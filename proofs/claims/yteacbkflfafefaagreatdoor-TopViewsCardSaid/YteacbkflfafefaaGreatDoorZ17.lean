/- Part 18 of 50 of the proof that TopViews returns true at every input: lemmas on the way; no condition. -/
import Derived.Test.YteacbkflfafefaaGreatDoorZ15
namespace Go.Proofs.YteacbkflfafefaaGreatDoor
set_option linter.all false
set_option maxHeartbeats 4000000
set_option maxRecDepth 100000
section
open Go.RowKit An Go.ChangeShapes Go.WideShapes Go.ChangeAt Go.Proofs.Tryz
def Nn(s:Bs):Option (Bs×Nat×Nat×Bs):=match Si s with
 |none=>none
 |some (st,r)=>if r.length<9∨1073741824<num (r.take 8)then none else some (st,num (r.take 8),(r[8]?.getD 0).toNat,r.drop 9)
def pn:Option (Bs×Nat×Nat×Bs)→Value
 |none=> .tuple #[.agg #[Ha [],Z 0,O none 0 0],Z 0,Ha [],.bool false]
 |some (st,a,n,r)=> .tuple #[.agg #[Ha st,Z a,O none 0 0],Z n,Ha r,.bool true]
theorem CN(s:Bs)(t:s.length≤10000000):Pu prog 60 #[Ha s] (pn (Nn s)):=by
 intro w;have I:=(ZZ w).new (.cells #[.string ⟨#[]⟩,Z 0,O none 0 0] 85);have hb:=I.Sc;have t1:=qF s (by omega);cases a:Si s with
 |none=>
  have e:Nn s=none:=by unfold Nn;rw[a]
  rw[e];rw[a]at t1;change Pq _ _ _ (.tuple #[Ha [],Ha [],.bool false])at t1;unfold pn;dsimp only;clear e a;go_enter func60,ntmps60;go_wp2_with fail;refine(t1 _).mono ?_;rintro e w' ⟨rfl,m,rfl⟩;go_wp2_with fail;refine ZT ?_ rfl ⟨rfl,?_⟩
  ·simp[results,results60,go_sem,pn]
  repeat (first|(with_reducible refine cW ?_ (by first|exact FT _|(simp;done)|(simp;omega)) _)|(with_reducible refine j3 ?_ _)|(with_reducible refine iW ?_ (by first|exact FT _|(simp;done)|(simp;omega)) _)|(with_reducible assumption)|(with_reducible exact mU _ _)|assumption|exact mU _ _)
 |some p=>
  obtain⟨k,r⟩:=p;have i:=zl a;rw[a]at t1;change Pq _ _ _ (.tuple #[Ha k,Ha r,.bool true])at t1;by_cases g:r.length<9
  ·have e:Nn s=none:=by unfold Nn;rw[a];dsimp only;rw[JT (.inl g)]
   rw[e];unfold pn;dsimp only;clear e a;go_enter func60,ntmps60;go_wp2_with fail;refine(t1 _).mono ?_;rintro e w' ⟨rfl,m,rfl⟩;go_wp2_with fail;refine ZT ?_ rfl ⟨rfl,?_⟩
   ·simp[results,results60,go_sem,pn]
   repeat (first|(with_reducible refine cW ?_ (by first|exact FT _|(simp;done)|(simp;omega)) _)|(with_reducible refine j3 ?_ _)|(with_reducible refine iW ?_ (by first|exact FT _|(simp;done)|(simp;omega)) _)|(with_reducible assumption)|(with_reducible exact mU _ _)|assumption|exact mU _ _)
  ·have t3:=tq (r.take 8) (by rw[OT];omega);rw[QV,show min 8 8=8 from rfl]at t3;have c:=cm (r.take 8);rw[OT,QU (by omega)]at c;have o:∀w,(Instr.slice 9 (Ha r) none (some (Z 8)) none).run prog w= .ok (Ha (r.take 8)) w:=jm (by omega) (by congr 1<;>omega);have q:∀w,(Instr.slice 9 (Ha r) (some (Z 9)) none none).run prog w= .ok (Ha (r.drop 9)) w:=qm (by omega) (by congr 1<;>omega);have e:Nn s=if 1073741824<num (r.take 8)then none else some (k,num (r.take 8),(r[8]?.getD 0).toNat,r.drop 9):=by
    unfold Nn;rw[a];dsimp only;by_cases b:1073741824<num (r.take 8)
    ·rw[JT (.inr b),JT b]
    ·rw[DT (by omega),DT b]
   rw[e];generalize r.take 8=x at*;generalize num x=n at*;by_cases b:1073741824<n
   ·rw[JT b];unfold pn;dsimp only;clear e a c;go_enter func60,ntmps60;go_wp2_with fail;refine(t1 _).mono ?_;rintro e w' ⟨rfl,m,rfl⟩;go_wp2_with fail;refine(t3 _).mono ?_;rintro e w' ⟨rfl,m3,rfl⟩;go_wp2_with fail;refine ZT ?_ rfl ⟨rfl,?_⟩
    ·simp[results,results60,go_sem,pn]
    repeat (first|(with_reducible refine cW ?_ (by first|exact FT _|(simp;done)|(simp;omega)) _)|(with_reducible refine j3 ?_ _)|(with_reducible refine iW ?_ (by first|exact FT _|(simp;done)|(simp;omega)) _)|(with_reducible assumption)|(with_reducible exact mU _ _)|assumption|exact mU _ _)
   ·rw[DT b];have d:r[8]? =some (r[8]'(by omega)):=PT (by omega);rw[d];have u:∀w,(Instr.index 9 (Ha r) (Z 8)).run prog w= .ok (.int .u8 ((r[8]'(by omega)).toNat:Int)) w:=by
     intro w;have f:(mk r)[8]? =some (r[8]'(by omega)):=by rw[getElem?_pos (mk r) 8 (by rw[Ph];omega),FL]
     simp[Instr.index,asIntOf,SU underlying9,f]
    generalize r[8]'(by omega)=y at*;have j:IntKind.i64.wrap (n:Int)=n:=RT _ (by omega);have v:=y.toNat_lt;have l:IntKind.i64.wrap (y.toNat:Int)=y.toNat:=RT _ (by omega);unfold pn;dsimp only[Option.getD_some];clear e a c d;go_enter func60,ntmps60;go_wp2_with fail;refine(t1 _).mono ?_;rintro e w' ⟨rfl,m,rfl⟩;go_wp2_with fail;refine(t3 _).mono ?_;rintro e w' ⟨rfl,m3,rfl⟩;go_wp2_with fail;refine Ih [4,5,6,7,8] [0,1,2,3] [9,10,11,12] (by kernel_rfl) (by kernel_rfl) (fun _ _ _ _ _ h=>h) ?_;simp only[QT,VT,MT,NT];repeat (refine Exists.intro _ ⟨.inl ⟨by rfl,fun w=>(by go_simp;rfl)⟩,?_⟩)
    dsimp only[ni];go_simp;repeat (quiet_step (fail))
    refine fU ?_;first|(rintro _ ⟨nq,rfl⟩)|(intro nq)
    go_wp2_with fail;refine ZT ?_ rfl ⟨rfl,?_⟩
    ·simp[results,results60,go_sem,pn]
    repeat (first|(with_reducible refine cW ?_ (by first|exact FT _|(simp;done)|(simp;omega)) _)|(with_reducible refine j3 ?_ _)|(with_reducible refine iW ?_ (by first|exact FT _|(simp;done)|(simp;omega)) _)|(with_reducible assumption)|(with_reducible exact mU _ _)|assumption|exact mU _ _)
def vt:Option Za→Value→Value
 |none,_=> .tuple #[.agg #[Ha [],Z 0,O none 0 0],Z 10]
 |some b,v=> .tuple #[bV b v,Z 0]
def XR:Option Za→Value→aa
 |none,_=>aa.emp
 |some b,v=>Ba 3 v b.vc.length (vc b.vc)
theorem EH(s:Bs):Gs s=match Nn s with
 |none=>none
 |some (st,a,n,r)=>match sg n r with
  |none=>none
  |some (l,b)=>if b.isEmpty∧jd ⟨st,a,l⟩=0 then some ⟨st,a,l⟩else none:=by
 unfold Gs Nn;cases Si s with
 |none=>rfl
 |some p=>obtain⟨st,r⟩:=p;dsimp only;split<;>rfl
theorem ZH{s r:Bs}{e:Ev}(h:Yg s=some (e,r)):vJ e∧r.length+12≤s.length:=by
 unfold Yg at h;cases a:Si s with
 |none=>rw[a]at h;cases h
 |some p=>
  obtain⟨k,g⟩:=p;rw[a]at h;dsimp only at h;have f:=zl a;cases b:Si g with
  |none=>rw[b]at h;cases h
  |some p=>
   obtain⟨d,i⟩:=p;rw[b]at h;dsimp only at h;have c:=zl b;split at h
   ·cases h
   ·split at h
    ·cases h;refine⟨⟨f.1,c.1,?_⟩,by simp;omega⟩;have:=cm (i.take 8);rw[OT,QU (by omega)]at this;exact this
    ·cases h
theorem FH{s:Bs}{st:Bs}{b n:Nat}{r:Bs}(h:Nn s=some (st,b,n,r)):st.length≤65535∧b≤1073741824∧n≤255∧r.length≤s.length:=by
 unfold Nn at h;cases a:Si s with
 |none=>rw[a]at h;cases h
 |some p=>
  obtain⟨k,d⟩:=p;rw[a]at h;dsimp only at h;have c:=zl a;split at h
  ·cases h
  ·rename_i e;cases h;have:=(d[8]?.getD 0).toNat_lt;refine⟨c.1,by omega,by omega,by simp;omega⟩
def Hg(n:Nat)(c:Bs)(a:List Ev)(b:Bs)(d:Bool):Prop:=if d then a.length≤n∧sg n c=(sg (n-a.length) b).map fun p=>(a++p.1,p.2)else sg n c=none
theorem Hg.start(n:Nat)(a:Bs):Hg n a [] a true:=by unfold Hg;rw[JT rfl];refine⟨WT _,?_⟩;cases h:sg n a<;>simp[h]
theorem Hg.step{n:Nat}{c b r:Bs}{a:List Ev}{e:Ev}(h:Hg n c a b true)(f:a.length<n)(d:Yg b=some (e,r)):Hg n c (a++[e]) r true:=by unfold Hg at h⊢;rw[JT rfl]at h⊢;refine⟨by simp;omega,?_⟩;rw[h.2,show n-a.length=(n-(a++[e]).length)+1 by simp;omega,sg,d];dsimp only;cases sg (n-(a++[e]).length) r<;>simp
theorem Hg.gS{n:Nat}{c b:Bs}{a acc':List Ev}{r:Bs}(h:Hg n c a b true)(e:a.length<n)(d:Yg b=none):Hg n c acc' r false:=by unfold Hg at h⊢;rw[JT rfl]at h;rw[DT (by simp),h.2,show n-a.length=(n-a.length-1)+1 by omega,sg,d];rfl
theorem Hg.done{n:Nat}{c b:Bs}{a:List Ev}(h:Hg n c a b true)(d:n≤a.length):sg n c=some (a,b):=by unfold Hg at h;rw[JT rfl]at h;rw[h.2,Nat.sub_eq_zero_of_le d];simp[sg]
theorem Hg.none{n:Nat}{c a:Bs}{b:List Ev}(h:Hg n c b a false):sg n c=none:=by
 unfold Hg at h
 rwa [DT (by simp)]at h
def gy:Value→Nat
 |.string s=>s.size
 |_=>0
def cK:Value→Nat
 |.bool true=>1
 |_=>0
theorem bO(e:Ev):∀u∈dQ e,u.oneCell'=true:=by intro u hu;simp only[dQ,dU,nV,SW]at hu;rcases hu with rfl|rfl|rfl<;>rfl
theorem PQ:(prog.info? 56).map (fun i=>(i.zero,i.size,i.bytes))=some (some (.agg #[.string ⟨#[]⟩,.string ⟨#[]⟩,.float .f64 0]),3,40):=by kernel_rfl
theorem iE(s:Bs)(hs:s.length≤10000000):Tr prog 27 #[Ha s] aa.emp (fun v=>vt (Gs s) v) (fun v=>XR (Gs s) v):=by
 intro w o rr h0;have I:=(TZ h0).new (.cells #[.string ⟨#[]⟩,Z 0,O none 0 0] 85);have t1:=CN s hs;obtain⟨i56,hi,a8,R,S⟩:=info_parts PQ;obtain⟨st,a,n,r,ok,M,aq,al,hn,hr,g,u⟩:∃st a n r ok,pn (Nn s)= .tuple #[.agg #[Ha st,Z (a:Nat),O none 0 0],Z (n:Nat),Ha r,.bool ok]∧st.length≤65535∧a≤1073741824∧n≤255∧r.length≤s.length∧(ok=true→Gs s=match sg n r with
   |none=>none
   |some (l,i)=>if i.isEmpty∧jd ⟨st,a,l⟩=0 then some ⟨st,a,l⟩else none)∧(ok=false→Gs s=none):=by
  rw[EH];cases h1:Nn s with
  |none=>exact⟨[],0,0,[],false,rfl,by simp,by omega,by omega,by simp,fun h=>(by cases h),fun _=>rfl⟩
  |some p=>obtain⟨st,a,n,r⟩:=p;obtain⟨a1,a2,a3,a4⟩:=FH h1;exact⟨st,a,n,r,true,rfl,a1,a2,a3,a4,fun _=>rfl,fun h=>(by cases h)⟩
 rw[M]at t1;have G:=V g;have P:=V u;clear M g u h0;go_enter func27,ntmps27;go_wp2_with fail;refine I.kp t1 fun w1 I1=> ?_;have I2:=I1.new (.cells #[Ha st,Z a,O none 0 0] 85);generalize hB:w.heap.size=B at*;generalize hC:w1.heap.size=C at*;go_wp2_with fail;have a6:Y w o rr (ba C 85 #[Ha st,Z a,O none 0 0]*(ua 56 3 (O none 0 0) 0 (vc [])*ba B 85 #[.string ⟨#[]⟩,Z 0,O none 0 0])) (w1.alloc (.cells #[Ha st,Z a,O none 0 0] 85)):=I2.le (MZ (JZ _) (KZ NZ (MZ (j0 56 3) (JZ _))));clear I I1 I2 t1;go_loopw [6,7] (fun x y wr=>∃ (acc:List Ev) (rest:Bs) (q:Bool) (A:Option Addr) (c:Nat),x=Ha rest∧y= .bool q∧rest.length≤s.length∧acc.length≤n+1∧(∀e∈acc,vJ e)∧(q=true→ok=true∧Hg n r acc rest true)∧(q=false→Gs s=none)∧Y w o rr (ba C 85 #[Ha st,Z a,O A acc.length c]*(ua 56 3 (O A acc.length c) acc.length (vc acc)*ba B 85 #[.string ⟨#[]⟩,Z 0,O none 0 0])) wr) (fun x y _=>(gy x+1)*cK y);case atStart=>exact⟨[],r,ok,none,0,rfl,rfl,hr,by simp,by simp,fun h=>⟨h,.start n r⟩,P.out,a6⟩
 case round=>
  obtain⟨acc,rest,q,A,c,rfl,rfl,aj,ak,H,K,L,J⟩:=hrel;obtain⟨d,f,c2⟩:=J.c3 C;obtain⟨f0,f1,f2⟩:=J.f3 C;cases q with
  |false=>have k:=V (L rfl);obtain⟨d,f,c2⟩:=J.c3 B;obtain⟨f0,f1,f2⟩:=J.f3 B;clear K L H;go_wp2_with fail;refine ZT (v:=vt none undef) (by simp[results,results27,go_sem,vt,d,f,c2]) rfl ?_;refine⟨undef,by rw[k.out],?_⟩;rw[k.out];have b:=((J.ra B 0 (.string ⟨#[]⟩) _ rfl).ra B 1 (Z 0) _ rfl).ra B 2 (O none 0 0) _ rfl;exact b.le ⟨fun h=>⟨_,_,⟨trivial,fun _ h=>h,fun _ h=>h⟩,fun _ h=>h.elim,fun _ h=>h.elim⟩⟩
  |true=>
   obtain⟨g,E⟩:=K rfl;clear K L;by_cases Q:acc.length<n
   ·have t2:=AK rest (by omega);have J0:=J.new (.cells #[.string ⟨#[]⟩,.string ⟨#[]⟩,.float .f64 0] 56);go_wp2_with fail;refine J0.kp t2 fun w2 b=> ?_;obtain⟨e,i,q,M,he,an,hq⟩:∃ (e:Ev) (i:Bs) (q:Bool),xi (Yg rest)= .tuple #[.agg #[Ha e.Xi,Ha e.data,.float .f64 e.w],Ha i,.bool q]∧vJ e∧i.length≤rest.length∧((q=true∧i.length<rest.length∧Hg n r (acc++[e]) i true)∨(q=false∧Gs s=none)):=by
     cases h:Yg rest with
     |none=>refine⟨⟨[],[],0⟩,[],false,rfl,⟨by simp,by simp,by simp⟩,by simp,.inr ⟨rfl,?_⟩⟩;have u:=(E.gS (acc':=acc) (r:=rest) Q h).none;rw[G.out g,u]
     |some p=>obtain⟨e,i⟩:=p;obtain⟨a1,a2⟩:=ZH h;exact⟨e,i,true,rfl,a1,by omega,.inl ⟨rfl,by omega,E.step Q h⟩⟩
    rw[M];have U:=V hq;have HO:=V g;clear g;generalize hD:wr.heap.size=D at*;obtain⟨d,f,c2⟩:=b.c3 D;obtain⟨f0,f1,f2⟩:=b.f3 D;have m:=(((b.ra D 0 (Ha e.Xi) #[Ha e.Xi,.string ⟨#[]⟩,.float .f64 0]).ra D 1 (Ha e.data) #[Ha e.Xi,Ha e.data,.float .f64 0]).ra D 2 (.float .f64 e.w) #[Ha e.Xi,Ha e.data,.float .f64 e.w]);clear M hq J J0 t2 hD;have a7:acc.length+1≤1000000000:=by omega
    go_upto_region 5 with(fail);generalize((w2.setCell ⟨D,0,none⟩ (Ha e.Xi)).setCell ⟨D,1,none⟩ (Ha e.data)).setCell ⟨D,2,none⟩ (.float .f64 e.w)=W at*;clear d f c2 f0 f1 f2 b;obtain⟨d,f,c2⟩:=m.c3 D;obtain⟨f0,f1,f2⟩:=m.f3 D;have d2:W.cell? ⟨C,2,none⟩=some (O A acc.length c):=m.cells C 2;go_wp2_with (at_builtin;go_loud (refine Oa (v:=O A acc.length c) (dQ e) 1 m rfl rfl underlying34 hi a8 R rfl rfl rfl rfl (bO e) a7 (by rw[S];omega) ?_);intro T c' w3 J4;have e2:w3.cell? ⟨C,2,none⟩=some (O A acc.length c):=J4.cells C 2;have e3:=J4.free C 2);go_roundw;case rel=>
     refine⟨acc++[e],i,q,T,c',rfl,rfl,by omega,by simp;omega,?_,?_,?_,?_⟩
     ·intro x F;rcases oU.1 F with F|F
      ·exact H x F
      ·simp at F;rw[F];exact he
     ·rintro rfl;rcases U.out with⟨_,_,h⟩|⟨h,_⟩
      ·exact⟨HO.out,h⟩
      ·cases h
     ·rintro rfl;rcases U.out with⟨h,_⟩|⟨_,h⟩
      ·cases h
      ·exact h
     ·have e1:(acc++[e]).length=acc.length+1:=by simp
      have e2:vc (acc++[e])=vc acc++dQ e:=by simp[vc]
      rw[e1,e2];exact(J4.ra C 2 (O T (acc.length+1) c') #[Ha st,Z a,O T (acc.length+1) c']).ya
    case measure=>
     rcases U.out with⟨rfl,h,_⟩|⟨rfl,_⟩
     ·simp[gy,cK];omega
     ·simp[gy,cK]
   ·have hd:=E.done (by omega);have N:=G.out g;rw[hd]at N;dsimp only at N;have k:=V N;clear N hd G P E;cases rest with
    |cons x y=>
     have e:Gs s=none:=by rw[k.out];simp
     have j:=V e;obtain⟨d,f,c2⟩:=J.c3 B;obtain⟨f0,f1,f2⟩:=J.f3 B;clear e;go_wp2_with fail;refine ZT (v:=vt none undef) (by simp[results,results27,go_sem,vt,d,f,c2]) rfl ?_;refine⟨undef,by rw[j.out],?_⟩;rw[j.out];have b:=((J.ra B 0 (.string ⟨#[]⟩) _ rfl).ra B 1 (Z 0) _ rfl).ra B 2 (O none 0 0) _ rfl;exact b.le ⟨fun h=>⟨_,_,⟨trivial,fun _ h=>h,fun _ h=>h⟩,fun _ h=>h.elim,fun _ h=>h.elim⟩⟩
    |nil=>
     have t3:=Qw ⟨st,a,acc⟩ (O A acc.length c) ⟨by simp;omega,by simp;omega,by simp;omega,by simpa using H⟩;have X:=J.via (A:=ua 56 3 (O A acc.length c) acc.length (vc acc)) c8;unfold bV at t3;dsimp only at t3;go_wp2_with fail;refine X.k1 t3 fun w2 b=> ?_;by_cases t:jd ⟨st,a,acc⟩=0
     ·have e:Gs s=some ⟨st,a,acc⟩:=by rw[k.out,JT ⟨rfl,t⟩]
      have j:=V e;rw[t];clear d f c2 f0 f1 f2 t3 X t e k;have b0:w2.cell? ⟨B,0,none⟩=some (.string ⟨#[]⟩):=b.cells B 0;have b1:w2.cell? ⟨B,1,none⟩=some (Z 0):=b.cells B 1;have b2:w2.cell? ⟨B,2,none⟩=some (O none 0 0):=b.cells B 2;obtain⟨g0,g1,g2⟩:=b.f3 B;obtain⟨d,f,c2⟩:=b.c3 C;obtain⟨f0,f1,f2⟩:=b.f3 C;go_wp2_with fail;refine ZT (v:=vt (some ⟨st,a,acc⟩) (O A acc.length c)) (by simp[results,results27,go_sem,vt,bV,b0,b1,b2]) rfl ?_;refine⟨O A acc.length c,by rw[j.out],?_⟩;rw[j.out];have m:=((b.ra B 0 (Ha st) _ rfl).ra B 1 (Z a) _ rfl).ra B 2 (O A acc.length c) _ rfl;exact(m.ya:Y w o rr (Qc A acc c) _)
     ·have e:Gs s=none:=by rw[k.out,DT (fun h=>t h.2)]
      have j:=V e;have R:((jd ⟨st,a,acc⟩:Int)==0)=false:=by simpa using t
      have S:((jd ⟨st,a,acc⟩:Int) !=0)=true:=by simpa using t
      clear d f c2 f0 f1 f2 t3 X t e k;generalize jd ⟨st,a,acc⟩=z at*;obtain⟨d,f,c2⟩:=b.c3 B;obtain⟨f0,f1,f2⟩:=b.f3 B;go_wp2_with fail;refine ZT (v:=vt none undef) (by simp[results,results27,go_sem,vt,d,f,c2]) rfl ?_;refine⟨undef,by rw[j.out],?_⟩;rw[j.out];have m:=((b.ra B 0 (.string ⟨#[]⟩) _ rfl).ra B 1 (Z 0) _ rfl).ra B 2 (O none 0 0) _ rfl;exact m.le ⟨fun h=>⟨_,_,⟨trivial,fun _ h=>h,fun _ h=>h⟩,fun _ h=>h.elim,fun _ h=>h.elim⟩⟩
end
end Go.Proofs.YteacbkflfafefaaGreatDoor
