/- Part 37 of 50 of the proof that TopViews returns true at every input: lemmas on the way; no condition. -/
import Derived.Test.YteacbkflfafefaaGreatDoorZ32
import Derived.Test.YteacbkflfafefaaGreatDoorZ33
namespace Go.Proofs.YteacbkflfafefaaGreatDoor
set_option linter.all false
set_option maxHeartbeats 1000000
set_option maxRecDepth 100000
namespace An
theorem cH:∀ (k a n:Nat),put (a*256^k+n) k=put n k
 |0,_,_=>rfl
 |k+1,a,n=>by
  rw[mj,mj];have e:a*256^(k+1)+n=a*256*256^k+n:=by rw[FX,Nat.mul_assoc,gY 256]
  rw[e,cH k (a*256) n];congr 1;have c:0<256^k:=Nat.pow_pos (by decide);have b:(a*256*256^k+n)/256^k=a*256+n/256^k:=by rw[fY,Nat.add_mul_div_right _ _ c,fY]
  rw[b];apply pX.1;rw[Vf,Vf];omega
theorem dH:∀s:Bs,put (num s) s.length=s
 |[]=>rfl
 |c::r=>by have hb:=Sh r;have a:0<256^r.length:=Nat.pow_pos (by decide);rw[UT,mj,cu,cH,dH r];congr 1;rw[fY,Nat.add_mul_div_right _ _ a,Nat.div_eq_of_lt hb,BU];apply pX.1;rw[Vf];have:=c.toNat_lt;omega
theorem iu{s:Bs}{n:Nat}(h:s.length=n):put (num s) n=s:=h▸dH s
theorem VH{s:Bs}{e:qa}(h:vj s=some e):Nf e=s:=by
 unfold vj at h;split at h
 ·cases h
 ·rename_i a;have a:s.length=24:=by simpa using a
  split at h
  ·cases h
  ·cases h;unfold Nf;dsimp only;rw[iu (n:=8) (by rw[OT];omega),iu (n:=8) (by rw[OT,cU];omega),iu (n:=8) (by rw[cU];omega),iU];have b:s.drop 16=(s.drop 8).drop 8:=by rw[jV]
   rw[b,tU,tU]
theorem Sr:∀ (n:Nat) (s:Bs) (l:List qa),Zd n s=some l→l.flatMap Nf=s∧l.length=n
 |0,s,l,h=>by
  unfold Zd at h;split at h
  ·rename_i b;cases h;rw[BW]at b;rw[b];exact⟨rfl,rfl⟩
  ·cases h
 |n+1,s,l,h=>by
  rw[Zd]at h;cases he:vj (s.take 24)with
  |none=>rw[he]at h;cases h
  |some e=>
   rw[he]at h;dsimp only at h;cases a:Zd n (s.drop 24)with
   |none=>rw[a]at h;cases h
   |some r=>rw[a]at h;simp only[KU,uX]at h;subst h;obtain⟨c,d⟩:=Sr n _ r a;rw[AU,c,VH he,tU];exact⟨rfl,by simp[d]⟩
theorem ey{s t:Bs}(h:Eg s=some t):Qg t=s:=by
 unfold Eg at h;split at h
 ·cases h
 ·split at h
  ·rename_i a;cases h;unfold Qg;rw[a,tU]
  ·cases h
theorem jJ{s:Bs}{l:List qa}(h:mf s=some l):Tb l=s∧ub l=true:=by
 unfold mf at h;cases a:Eg s with
 |none=>rw[a]at h;cases h
 |some t=>
  rw[a]at h;dsimp only at h;split at h
  ·cases h
  ·rename_i b;simp only[lZ,Nat.not_lt,mY,Decidable.not_not]at b;split at h
   ·cases h
   ·cases he:Zd (num ((t.drop 4).take 4)) (t.drop 8)with
    |none=>rw[he]at h;cases h
    |some l'=>
     rw[he]at h;dsimp only at h;split at h
     ·rename_i d;cases h;obtain⟨c,a2⟩:=Sr _ _ _ he;refine⟨?_,d⟩;unfold Tb;rw[c,a2,iu (n:=4) (by rw[OT,cU];omega),←b.2,iU];have e:t.drop 8=(t.drop 4).drop 4:=by rw[jV]
      rw[e,tU,tU];exact ey a
     ·cases h
theorem Dx{s:Bs}{m:Fa}(h:qg s=some m):dd m=true∧m.da<18446744073709551616∧Ab m.ia=m.ia∧∃t:Bs,t.length=4∧s=Se++(put m.next 4++(put m.check 4++(put m.da 8++(put m.ia.length 1++(m.ia.flatMap Sd++t))))):=by
 obtain⟨u,q⟩:=er h;have o:=(Dc.1 u).2.2.1;have A:=(mi.1 o).1;have key:m.ia.length=(Ab m.ia).length∧m.da<18446744073709551616:=by
  unfold qg at h;cases f:Eg s with
  |none=>rw[f]at h;cases h
  |some t=>
   have w:t=Se++put m.next 4++put m.check 4++put m.da 8++put (Ab m.ia).length 1++(Ab m.ia).flatMap Sd:=by
    have v:Xb m=Qg t:=by rw[q,ey f]
    have b:=im (Se++put m.next 4++put m.check 4++put m.da 8++put (Ab m.ia).length 1++(Ab m.ia).flatMap Sd);have e:Eg (Xb m)=some t:=by rw[v,im]
    unfold Xb at e;rw[b]at e;exact(VU e).symm
   have k:(t[20]?.getD 0).toNat=(Ab m.ia).length:=by rw[w,IV (by simp only[CT,Jb,show Se.length=4 from rfl];omega),vV (by simp[Jb,Se])];simp only[CT,Jb,show Se.length=4 from rfl,mj];have B:=Df m.ia;simp[Vf,put];omega
   rw[f]at h;dsimp only at h;split at h
   ·cases h
   ·split at h
    ·cases h
    ·rename_i z;cases j:Cg (t[20]?.getD 0).toNat (t.drop 21)with
     |none=>rw[j]at h;cases h
     |some p=>
      obtain⟨l,r⟩:=p;rw[j]at h;dsimp only at h;split at h
      ·cases h;dsimp only at*;refine⟨?_,?_⟩
       ·rw[←k];have:∀ (n:Nat) (s r:Bs) (l:List (List Nat)),Cg n s=some (l,r)→l.length=n:=by
         intro n;induction n with
         |zero=>intro s r l h;cases h;rfl
         |succ n x=>
          intro s r l h;unfold Cg at h;split at h
          ·cases h
          ·split at h
           ·cases h
           ·rename_i c F a y _;cases i:Cg n y with
            |none=>rw[i]at h;cases h
            |some p=>rw[i]at h;obtain⟨D,E⟩:=p;cases h;simp[x _ _ _ i]
        exact this _ _ _ _ j
       ·have:=Sh ((t.drop 12).take 8);rw[OT,cU]at this;have C:(256:Nat)^min 8 (t.length-12)≤256^8:=XV (by decide) (Nat.min_le_left _ _);omega
      ·cases h
 have d:Ab m.ia=m.ia:=by
  have g:Ab m.ia<+:m.ia:=by unfold Ab;have:=List.dropWhile_suffix (p:=List.isEmpty) (l:=m.ia.reverse);have b:=List.reverse_prefix.2 this;rw[QW]at b;exact b
  exact g.eq_of_length key.1.symm
 refine⟨u,key.2,d,low (Oy (Se++put m.next 4++put m.check 4++put m.da 8++put m.ia.length 1++m.ia.flatMap Sd)),rfl,?_⟩;rw[←q];unfold Xb Qg;rw[d];simp only[iU]
def rk:Nat→Nat→Nat→Nat
 |0,st,_=>st
 |k+1,st,c=>(rk k st c)/2^^^(3988292384*((rk k st c+c>>>k)% 2))
theorem fN(a b:Nat):(a^^^b)% 2=(a+b)% 2:=by
 have d:=Nat.xor_mod_two_pow (a:=a) (b:=b) (n:=1);simp only[Nat.pow_one]at d;rw[d];have c:a % 2=0∨a % 2=1:=by omega
 have hb:b % 2=0∨b % 2=1:=by omega
 rcases c with c|c<;>rcases hb with hb|hb<;>rw[c,hb]<;>simp<;>omega
theorem cN(a b:Nat):(a^^^b)/2=a/2^^^b/2:=by have:=Nat.shiftRight_xor_distrib (a:=a) (b:=b) (i:=1);simpa [Nat.shiftRight_succ]using this
theorem mz(st c:Nat):∀k,Yw k (st^^^c)=rk k st c^^^c>>>k
 |0=>by simp[Yw,rk]
 |k+1=>by
  rw[Yw,mz st c k,rk];unfold nE;generalize rk k st c=s;have a:c>>>(k+1)=c>>>k/2:=by rw[Nat.shiftRight_succ]
  rw[a];generalize c>>>k=d;rw[cN,fN,Nat.xor_assoc,Nat.xor_assoc];congr 1;exact Nat.xor_comm _ _
theorem DN(st:Nat)(c:UInt8):rk 8 st c.toNat=Ct st c:=by
 have h:=mz st c.toNat 8;have a:c.toNat>>>8=0:=by have:=c.toNat_lt;rw[Nat.shiftRight_eq_div_pow];omega
 rw[a,Nat.xor_zero]at h;exact h.symm
end An
section
open Go.RowKit An Go.ChangeShapes Go.WideShapes Go.ChangeAt Go.Proofs.Tryz
def AT(o:Option Fa)(p:Nat×Nat):Value:=match o with
 |none=> .tuple #[.pointer none,Z p.2]
 |some _=> .tuple #[Da p.1,Z 0]
def zT(o:Option Fa)(D rate:Nat)(fs:Hb)(p:Nat×Nat):aa:=match o with
 |none=>aa.pure (p.2=4∨p.2=90)
 |some m=>Xd p.1 D rate m (Wi fs) []
theorem An.zK{P:Ma}(a:P.length≤200)(b:∀c∈P,Xa c≤4096):Ad P≤819200:=Nj b a
theorem vL(D L da rate:Nat)(st:Int)(P:Ma)(d:An.ja)(U:d.down=false)(hP:P.length≤200)(hs:∀ps∈P,Xa ps≤4096)(a8:da<18446744073709551616):Tr prog 160 #[Da D,Da L,Pa da,.float .f64 rate] (Fc L D st P*na D d) (fun p:Nat×Nat=>AT (ei da d.fa (Ad P)) p) (fun p=>zT (ei da d.fa (Ad P)) D rate d.fa p*(Fc L D st P*na D d)):=by
 intro w o r h0;have I:=TZ h0;have t206:=AO D d U;have t159:=BA L D st P hP hs;have g:ei da d.fa (Ad P)=match Bq d.fa with
  |none=>none
  |some m=>if m.da=da∧m.check≤Ad P∧Uq d.fa m=true then some m else none:=by
  unfold ei Bq Uq;cases Na Va d.fa<;>rfl
 have B:Tl d.fa=4∨Tl d.fa=90:=by unfold Tl;split<;>simp
 have C:∀m,Bq d.fa=some m→dd m=true∧m.da<18446744073709551616:=by
  intro m hm;unfold Bq at hm;split at hm
  ·cases hm
  ·obtain⟨S,T,_⟩:=Dx hm;exact⟨S,T⟩
 have u:=fun m v hm G=>TD D rate d m v hm G U;generalize ei da d.fa (Ad P)=ly at*;clear h0 hP hs U;cases hm:Bq d.fa with
 |none=>
  rw[hm]at g t206;dsimp only at g;subst g;have t206:Tr prog 206 #[Da D] (na D d) (fun _:Value=> .tuple #[.agg #[Z 0,Z 0,Pa 0,O none 0 0],Z (Tl d.fa)]) (fun _=>aa.emp*na D d):=t206;generalize Tl d.fa=lc at*;have hb:((lc:Int) !=0)=true:=by rw[CU];omega
  have a1:=V B;clear hm C u B;go_enter func160,ntmps160;go_wp2_with fail;refine I.kc t206 fun w2 v J=> ?_;go_wp2;go_ret2;refine⟨(0,lc),rfl,?_⟩;have J2:Y w o r (Fc L D st P*na D d) w2:=J.ya;exact(J2.alloc _).le (RZ a1.out)
 |some m=>
  obtain⟨G,a6⟩:=C m hm;rw[hm]at g t206;dsimp only at g;have t206:Tr prog 206 #[Da D] (na D d) (fun v:Value=> .tuple #[ag m v,Z 0]) (fun v=>Ea v m.ia*na D d):=t206;have t161:=fun v=>u m v (aB G a6) G;clear u C B hm;have y:=V g;clear g;have a7:Ad P=Ad P:=rfl;generalize Ad P=R at*;unfold ag at*;go_enter func160,ntmps160;go_wp2_with fail;refine I.kc t206 fun w2 v J=> ?_;obtain⟨k,l,f,rfl⟩:∃A c n3,v=O A n3 c:=by obtain⟨A,c,qs,h,_⟩:=J.dr v m.ia;exact⟨A,c,qs.length,h⟩
  have t161:=t161 (O k f l);have K:=J.Wa (.cells #[Z m.next,Z m.check,Pa m.da,O k f l] 66) w2.heap.size rfl;clear I J t206;go_upto_region 4 with(fail);generalize w2.alloc (.cells #[Z m.next,Z m.check,Pa m.da,O k f l] 66)=W3 at*;generalize w2.heap.size=i at*;have t:W3.cell? ⟨i,1,none⟩=some (Z m.check):=K.cells i 1;have c2:W3.cell? ⟨i,2,none⟩=some (Pa m.da):=K.cells i 2;by_cases M:m.da=da
  ·subst M;have hb:((m.da:Int) !=m.da)=false:=by simp
   refine Gb (fun W=>W.cell? ⟨i,1,none⟩=some (Z m.check)∧W.cell? ⟨i,2,none⟩=some (Pa m.da)) (fun a b=>Below a.heap.size a b) [0,1,2,3,4,5,6,7] [8] [9,10] (fun w=>mU _ _) (fun _ _ _=>vb) (fun _ _ ⟨S,T⟩ hb=>⟨Bb hb S,Bb hb T⟩) (by kernel_rfl) (by kernel_rfl) (fun _ _ _ _ _ h=>h) ⟨t,c2⟩ ?_;simp only[QT,VT,MT,NT];iterate 8 (first|(refine db (by rfl) (fun K e=> ?_);go_simp;refine e _ ?_;clear e K)|(refine gb (by rfl) (fun K e=> ?_);apply Exists.intro;refine⟨fun w hw=> ?_,?_⟩;(next=>(first|(go_simp;rfl)|(obtain⟨t,c2⟩:=hw;go_simp;rfl)|(obtain⟨t,c2⟩:=hw;go_simp;done)|(go_simp;(fail))|(obtain⟨t,c2⟩:=hw;go_simp;(fail))));go_simp;refine e _ ?_;clear e K))
   refine Eb ?_;intro w1 n;have E:=K.drew.below n;clear t c2 K n;refine ic (fun Kx e=> ?_);go_simp;refine E.k1 t159 fun w4 F=> ?_;go_simp;refine e _ _ ⟨F.cells i 1,F.cells i 2⟩ (fun w5 N=> ?_);clear e Kx;unfold Sb;have z:=F.below N;clear E F N t159;by_cases H:m.check≤R
   ·have hg:¬ ((m.check:Int)>R):=by omega
    obtain⟨c0,t,c2,c3⟩:=z.c4 i;obtain⟨f0,f1,f2,f3⟩:=z.f4 i;obtain⟨q,hq⟩:∃q,Uq d.fa m=q:=⟨_,rfl⟩;rw[hq]at t161;have j:Hid (ly=if q=true then some m else none):=V (by
     rw[y.out,hq];by_cases x:q=true
     ·rw[JT ⟨rfl,H,x⟩,JT x]
     ·rw[DT (fun h=>x h.2.2),DT x]);clear hq;cases q with
    |true=>have t161:Tr prog 161 #[Da D,.agg #[Z m.next,Z m.check,Pa m.da,O k f l],.float .f64 rate] (na D d*Ea (O k f l) m.ia) (fun X:Nat=> .tuple #[Da X,Z 0]) (fun X=>Xd X D rate m (Wi d.fa) []*(na D d*Ea (O k f l) m.ia)):=t161;go_wp2_with fail;refine z.kc t161 fun w6 X Q=> ?_;go_wp2;go_ret2;refine⟨(X,0),by rw[j.out];rfl,?_⟩;rw[j.out];have s:Y w o r (Xd X D rate m (Wi d.fa) []*(Fc L D st P*na D d)) w6:=Q.ya;exact s
    |false=>have t161:Tr prog 161 #[Da D,.agg #[Z m.next,Z m.check,Pa m.da,O k f l],.float .f64 rate] (na D d*Ea (O k f l) m.ia) (fun X:Nat=> .tuple #[.pointer none,Z 90]) (fun X=>aa.emp*(na D d*Ea (O k f l) m.ia)):=t161;go_wp2_with fail;refine z.kc t161 fun w6 X Q=> ?_;go_wp2;go_ret2;refine⟨(0,90),by rw[j.out];rfl,?_⟩;rw[j.out];have s:Y w o r (Fc L D st P*na D d) w6:=Q.ya;exact s.le (RZ (.inr rfl))
   ·have hg:(m.check:Int)>R:=by omega
    have j:Hid (ly=none):=V (by rw[y.out,DT (fun h=>H h.2.1)]);go_wp2;go_ret2;refine⟨0,90,by rw[j.out];rfl,?_⟩;rw[j.out];have s:Y w o r (Fc L D st P*na D d) w5:=z.ya;exact s.le (RZ (.inr rfl))
  ·have hb:((m.da:Int) !=da)=true:=by rw[CU];omega
   have j:Hid (ly=none):=V (by rw[y.out,DT (fun h=>M h.1)]);refine Gb (fun W=>W.cell? ⟨i,2,none⟩=some (Pa m.da)) (fun a b=>Below a.heap.size a b) [0,1,2,3,4,5,6,7,8,9,10] [] [] (fun w=>mU _ _) (fun _ _ _=>vb) (fun _ _ h hb=>Bb hb h) (by kernel_rfl) (by kernel_rfl) (fun _ _ _ _ _ h=>h) (show World.cell? _ _=_ from c2) ?_;simp only[QT,VT,MT,NT];iterate 11 (first|(refine db (by rfl) (fun K e=> ?_);go_simp;refine e _ ?_;clear e K)|(refine gb (by rfl) (fun K e=> ?_);apply Exists.intro;refine⟨fun w hw=> ?_,?_⟩;(next=>(first|(go_simp;rfl)|(obtain c2:=hw;go_simp;rfl)|(obtain c2:=hw;go_simp;done)|(go_simp;(fail))|(obtain c2:=hw;go_simp;(fail))));go_simp;refine e _ ?_;clear e K))
   refine Eb ?_;intro w1 n;unfold Sb;have E:=K.drew.below n;clear t c2 K n;go_wp2;go_ret2;refine⟨(0,90),by rw[j.out];rfl,?_⟩;rw[j.out];have s:Y w o r (Fc L D st P*na D d) w1:=E.ya;exact s.le (RZ (.inr rfl))
def iT(c:Nat)(a:Bool)(X:Nat):Value:=if c=0 then .tuple #[Da X,.bool a,Z 0]else .tuple #[.pointer none,.bool false,Z c]
def qP(q:Nat×An.ja)(da:Nat)(P:Ma)(fs:Hb)(L D rate:Nat)(st:Int)(X:Nat):aa:=if q.1=0 then Xd X D rate (dm da P fs) (Wi fs) (Dg da P (dm da P fs).check)*(Fc L D st P*na D q.2)else na D q.2
theorem NQ{X D rate da:Nat}{tl a:Nat→List qa}{mem:List qa}:aa.le (Xd X D rate (m0 da) tl mem) (Xd X D rate (m0 da) a mem):=by
 unfold Xd;refine aa.le.qT fun x=> ?_;have f:AJ (m0 da) x→aa.le (ui X D rate (m0 da) tl mem x) (aa.pure (AJ (m0 da) x)*ui X D rate (m0 da) a mem x):=fun h=>by
  have i:x.g=[]:=by
   cases l:x.g with
   |nil=>rfl
   |cons p r=>exact absurd (h.lt p (by rw[l];exact .head _)) (NV _)
  unfold ui;rw[i];exact RZ h
 exact⟨fun {hh o r} j=>by obtain⟨q,t,s,u,⟨c,a2,a3⟩,b1,b2,b3,b4,d⟩:=j;have b:(ui X D rate (m0 da) tl mem x).p hh o r:=aa.eta b1 (fun k=>by rw[b4];simp[a2]) (fun k=>by rw[d];simp[a3]);obtain⟨m,n,e,c2,c3⟩:=(f c).imp b;exact⟨m,n,⟨x,e⟩,c2,c3⟩⟩
theorem OH{d:An.ja}(f:d.Wf)(b:d.down=false){m:Fa}(h:(Af m d).1=0){P:Ma}{T:Bs}{H:Option Bs}{y:Nat}(c:Jc d.fa P T H y):(Af m d).2.down=false∧(Af m d).2.za=d.za∧Jc (Af m d).2.fa P T H y:=by
 unfold Af at*;rcases xh (Uc d.fa m) f b with⟨_,k,_⟩|⟨a,_⟩
 ·exact⟨k.down,k.za,c.frame fun i hi=>k.get _ fun e=>by rw[Ah,fu m hi]at e;simp at e⟩
 ·rw[a]at h;cases h
theorem qM(D L da rate:Nat)(st:Int){P:Ma}{y:Nat}{bs:List Za}(d:An.ja)(N:d.down=false)(H:d.za=st)(E:Jc d.fa P [] none y)(hh:Holds P bs)(aq:da<18446744073709551616):Tr prog 116 #[Da D,Da L,Pa da,.float .f64 rate] (Fc L D st P*na D d) (fun X:Nat=>iT (ke da P d).1 (ei da d.fa (Ad P)).isNone X) (fun X=>qP (ke da P d) da P d.fa L D rate st X):=by
 intro w o r h0;have I:=TZ h0;have hW:=I.Zi D d;have t160:=vL D L da rate st P d N E.sub E.size aq;have rest:∀ (f:Fa) (C:An.ja) (a6:Nat→List qa),C.Wf→C.down=false→C.za=st→Jc C.fa P [] none y→f.ia.length≤100000→f.ia.flatten.length≤100000→f.da=da→f.check≤1000000000→(Af f C).1=0→∀X,Ud prog 163 #[Da X,Da L,Z f.check] (Xd X D rate f a6 []*(Fc L D st P*na D (Af f C).2)) (Z 0) (Xd X D rate f a6 (Dg da P f.check)*(Fc L D st P*na D (Af f C).2)):=by intro f C a6 h1 h2 h3 v h5 h6 h7 h8 h9 X;obtain⟨a1,a2,a3⟩:=OH h1 h2 h9 v;have:=XI X D L rate st (Af f C).2 a1 (a2.trans h3) a3 hh f a6 [] h5 h6 (by omega) rfl (WT _) f.check h8;rw[h7]at this;exact this
 have Q:=An.zK E.sub E.size;cases a:ei da d.fa (Ad P)with
 |some m=>
  have b:ke da P d=Af m d:=by unfold ke;rw[a]
  have x:dm da P d.fa=m:=by unfold dm;rw[a];rfl
  have b7:m.da=da∧m.check≤Ad P∧dd m=true:=by
   unfold ei at a;split at a
   ·cases a
   ·split at a
    ·cases a
    ·rename_i hm;split at a
     ·rename_i hc;cases a;exact⟨hc.1,hc.2.1,(er hm).1⟩
     ·cases a
  obtain⟨al,b9,an⟩:=b7;obtain⟨_,_,b3,b4,_⟩:=Qh an;have g:Hid (ke da P d=Af m d):=V b;have HB:Hid (m.ia.length≤100000∧m.ia.flatten.length≤100000):=V ⟨by omega,by omega⟩;have a7:=V N;have hk:∀X:Nat,(Af m d).1=0→Ud prog 163 #[Da X,Da L,Z m.check] (Xd X D rate m (Wi d.fa) []*(Fc L D st P*na D (Af m d).2)) (Z 0) (Xd X D rate m (Wi d.fa) (Dg da P m.check)*(Fc L D st P*na D (Af m d).2))∧∀W,Y w o r (Xd X D rate m (Wi d.fa) (Dg da P m.check)*(Fc L D st P*na D (Af m d).2)) W→Y w o r (qP (Af m d) da P d.fa L D rate st X) W:=fun X h=>⟨rest m d (Wi d.fa) hW N H E (by omega) (by omega) al (by omega) h X,fun W hI=>by unfold qP;rw[JT h,x];exact hI⟩;have HK:=V hk;rw[a]at t160;have t160:Tr prog 160 #[Da D,Da L,Pa da,.float .f64 rate] (Fc L D st P*na D d) (fun p:Nat×Nat=> .tuple #[Da p.1,Z 0]) (fun p=>Xd p.1 D rate m (Wi d.fa) []*(Fc L D st P*na D d)):=t160;clear h0 rest Q b x al b9 an b3 b4 hk E hh hW a H N;go_enter func116,ntmps116;go_wp2_with fail;refine(I.call t160).mono ?_;rintro e w2 ⟨⟨X,u⟩,rfl,t⟩;dsimp only at t;clear I t160;obtain⟨n,s⟩:=HB.out;have t35:=jn X D rate m (Wi d.fa) [] n s;unfold ag at t35;go_wp2_with fail;refine Y.kc t t35 fun T v6 K=> ?_;obtain⟨J,c6,R,rfl⟩:∃A c n3,v6=O A n3 c:=by obtain⟨A,c,qs,h,_⟩:=K.dr v6 (Fa.ia m);exact⟨A,c,qs.length,h⟩
  have t162:=YB D d m (O J R c6) a7.out n s;unfold ag at t162;have F:=HK.out X;have B:=K.Wa (.cells #[Z (Fa.next m),Z (Fa.check m),Pa (Fa.da m),O J R c6] 66) T.heap.size rfl;clear K t35;go_upto_region 15 with(fail);generalize T.alloc (.cells #[Z (Fa.next m),Z (Fa.check m),Pa (Fa.da m),O J R c6] 66)=W7 at*;generalize T.heap.size=S at*;obtain⟨c0,c1,c2,c3⟩:=B.c4 S;obtain⟨f0,f1,f2,f3⟩:=B.f4 S;generalize Af m d=q at*;obtain⟨qc,d9⟩:=q;dsimp only at*;go_wp2_with fail;refine B.k1 t162 fun w8 M=> ?_;clear c0 c1 c2 c3 f0 f1 f2 f3 B t162;by_cases z:qc=0
  ·subst z;obtain⟨t163,l⟩:=F rfl;clear F;have HF:=V l;clear l;have c1:=M.cells S 1;go_wp2_with fail;refine M.k1 t163 fun w9 K9=> ?_;go_wp2;go_ret3;refine⟨X,by rw[g.out];rfl,?_⟩;rw[g.out];exact HF.out _ K9.ya
  ·have n1:(((qc:Nat):Int)==0)=false:=by rw[ET];omega
   go_wp2;go_ret3;refine⟨X,by rw[g.out];simp[iT,z],?_⟩;rw[g.out];unfold qP;rw[DT z];exact M.ya
 |none=>
  have b:ke da P d=if(df Va d).1=0 then Af (m0 da) (df Va d).2 else df Va d:=by unfold ke;rw[a];dsimp only;rw[eK]
  have x:dm da P d.fa=m0 da:=by unfold dm;rw[a];rfl
  rw[a]at t160;have t160:Tr prog 160 #[Da D,Da L,Pa da,.float .f64 rate] (Fc L D st P*na D d) (fun p:Nat×Nat=> .tuple #[.pointer none,Z p.2]) (fun p=>aa.pure (p.2=4∨p.2=90)*(Fc L D st P*na D d)):=t160;have t156:=xl D d Va (by decide);have j:df Va d=if(d.delete Va).1=4 then(0,(d.delete Va).2)else d.delete Va:=rfl
  have aj:=Et d Va;have U:=Rt hW N Va;generalize ei da d.fa (Ad P)=ly at*;by_cases v:(d.delete Va).1=0∨(d.delete Va).1=4
  ·have G:df Va d=(0,(d.delete Va).2):=by
    rw[j];rcases v with v|v
    ·rw[DT (by omega)];exact sZ v rfl
    ·rw[JT v]
   rw[G]at b U;dsimp only at b U;rw[JT rfl]at b;rcases U with⟨_,k,_⟩|⟨h,_⟩
   ·generalize d.delete Va=q at*;obtain⟨qd,d1⟩:=q;dsimp only at*;have ak:Jc d1.fa P [] none y:=E.frame fun i hi=>k.get _ (oq (.inl rfl) hi);have t161:=TD D rate d1 (m0 da) (O none 0 0) (aB (by simp[dd,m0,Rc]) aq) (by simp[dd,m0,Rc]) k.down;have g:Hid (ke da P d=Af (m0 da) d1):=V b;have HB:Hid ((m0 da).ia.length≤100000∧(m0 da).ia.flatten.length≤100000):=V ⟨WT _,WT _⟩;have a7:=V k.down;have hk:∀X:Nat,(Af (m0 da) d1).1=0→Ud prog 163 #[Da X,Da L,Z (m0 da).check] (Xd X D rate (m0 da) (Wi d1.fa) []*(Fc L D st P*na D (Af (m0 da) d1).2)) (Z 0) (Xd X D rate (m0 da) (Wi d1.fa) (Dg da P (m0 da).check)*(Fc L D st P*na D (Af (m0 da) d1).2))∧∀W,Y w o r (Xd X D rate (m0 da) (Wi d1.fa) (Dg da P (m0 da).check)*(Fc L D st P*na D (Af (m0 da) d1).2)) W→Y w o r (qP (Af (m0 da) d1) da P d.fa L D rate st X) W:=fun X h=>⟨rest (m0 da) d1 (Wi d1.fa) k.wf k.down (k.za.trans H) ak (WT _) (WT _) rfl (WT _) h X,fun W hI=>by unfold qP;rw[JT h,x];exact hI.le (MZ NQ (JZ _))⟩;have HK:=V hk;have t161:Tr prog 161 #[Da D,.agg #[Z 0,Z 0,Pa da,O none 0 0],.float .f64 rate] (na D d1*Ea (O none 0 0) []) (fun X:Nat=> .tuple #[Da X,Z 0]) (fun X=>Xd X D rate (m0 da) (Wi d1.fa) []*(na D d1*Ea (O none 0 0) [])):=t161;have a8:aa.le (Fc L D st P*na D d1) (Fc L D st P*(na D d1*Ea (O none 0 0) [])):=by refine MZ (JZ _) (KZ (Re _) (KZ NZ (MZ (JZ _) ?_)));exact KZ (KZ (RZ trivial) NZ) (KZ (MZ (KZ (j0 35 1) c8) (JZ _)) (o6 (A:=none) (c:=0) (qs:=[]) (L:=[]) (FT _) rfl))
    have HN:=V a8;have aM:((qd:Int) !=0&&(qd:Int) !=4)=false:=by rcases v with rfl|rfl<;>rfl
    rcases v with rfl|rfl;all_goals
     clear h0 rest Q b x hk E hh hW H N ak k j aj G a8 aM;go_enter func116,ntmps116;go_wp2_with fail;refine(I.call t160).mono ?_;rintro e w2 ⟨⟨u1,u⟩,rfl,t⟩;dsimp only at t;obtain⟨hu,K2⟩:=t.pure;have b0:((u:Int)==1)=false:=by rw[ET];omega
     have b5:((u:Int)==61)=false:=by rw[ET];omega
     have b6:((u:Int) !=0)=true:=by rw[CU];omega
     clear I t160 t hu;go_wp2_with fail;refine K2.k1 t156 fun w3 K3=> ?_;have K4:=(K3.ya (A:=Fc L D st P*na D d1)).le HN.out;clear K2 K3 t156;go_wp2_with fail;refine K4.kc t161 fun w4 X K5=> ?_;clear K4 t161;obtain⟨n,s⟩:=HB.out;have t35:=jn X D rate (m0 da) (Wi d1.fa) [] n s;unfold ag at t35;go_wp2_with fail;refine Y.kc K5 t35 fun T v6 K=> ?_;obtain⟨J,c6,R,rfl⟩:∃A c n3,v6=O A n3 c:=by obtain⟨A,c,qs,h,_⟩:=K.dr v6 (Fa.ia (m0 da));exact⟨A,c,qs.length,h⟩
     have t162:=YB D d1 (m0 da) (O J R c6) a7.out n s;unfold ag at t162;have F:=HK.out X;have B:=K.Wa (.cells #[Z (Fa.next (m0 da)),Z (Fa.check (m0 da)),Pa (Fa.da (m0 da)),O J R c6] 66) T.heap.size rfl;clear K t35;go_upto_region 15 with(fail);generalize T.alloc (.cells #[Z (Fa.next (m0 da)),Z (Fa.check (m0 da)),Pa (Fa.da (m0 da)),O J R c6] 66)=W7 at*;generalize T.heap.size=S at*;obtain⟨c0,c1,c2,c3⟩:=B.c4 S;obtain⟨f0,f1,f2,f3⟩:=B.f4 S;generalize Af (m0 da) d1=q at*;obtain⟨qc,d9⟩:=q;dsimp only at*;go_wp2_with fail;refine B.k1 t162 fun w8 M=> ?_;clear c0 c1 c2 c3 f0 f1 f2 f3 B t162;by_cases z:qc=0
     ·subst z;obtain⟨t163,l⟩:=F rfl;clear F;have HF:=V l;clear l;have c1:=M.cells S 1;go_wp2_with fail;refine M.k1 t163 fun w9 K9=> ?_;go_wp2;go_ret3;refine⟨X,by rw[g.out];rfl,?_⟩;rw[g.out];exact HF.out _ K9.ya
     ·have n1:(((qc:Nat):Int)==0)=false:=by rw[ET];omega
      go_wp2;go_ret3;refine⟨X,by rw[g.out];simp[iT,z],?_⟩;rw[g.out];unfold qP;rw[DT z];exact M.ya
   ·cases h
  ·have av:(d.delete Va).1=61:=by omega
   have G:df Va d=d.delete Va:=by rw[j,DT (by omega)]
   rw[G,DT (by omega)]at b;generalize d.delete Va=q at*;obtain⟨qd,d1⟩:=q;dsimp only at*;subst av;have g:Hid (ke da P d=(61,d1)):=V b;clear h0 rest Q b x E hh hW H N j aj G U v;go_enter func116,ntmps116;go_wp2_with fail;refine(I.call t160).mono ?_;rintro e w2 ⟨⟨u1,u⟩,rfl,t⟩;dsimp only at t;obtain⟨hu,K2⟩:=t.pure;have b0:((u:Int)==1)=false:=by rw[ET];omega
   have b5:((u:Int)==61)=false:=by rw[ET];omega
   have b6:((u:Int) !=0)=true:=by rw[CU];omega
   clear I t160 t hu;go_wp2_with fail;refine K2.k1 t156 fun w3 K3=> ?_;go_wp2;go_ret3;refine⟨0,by rw[g.out];rfl,?_⟩;rw[g.out];have K4:Y w o r (na D d1) w3:=K3.ya;exact K4
end
end Go.Proofs.YteacbkflfafefaaGreatDoor
