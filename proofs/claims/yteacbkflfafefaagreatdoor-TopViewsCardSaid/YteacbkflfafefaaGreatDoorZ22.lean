/- Part 23 of 50 of the proof that TopViews returns true at every input: lemmas on the way; no condition. -/
import Derived.Test.YteacbkflfafefaaGreatDoorZ18
import Derived.Test.YteacbkflfafefaaGreatDoorRows
namespace Go.Proofs.YteacbkflfafefaaGreatDoor
set_option linter.all false
set_option maxHeartbeats 40000000
section
namespace An
open ja
structure OS where
 P:Ma
 y:Nat
 m:Fa
 tl:Nat→List qa
 mem:List qa
structure RS where
 d:ja
 MB:List Za
 s:Nat
 K:Nat
 o:Option OS
structure RS.Ok(da:Nat)(σ:RS):Prop where
 many:σ.MB.length≤σ.K
 ok:∀b∈σ.MB,ow b
 sure:σ.s≤σ.MB.length
 shut:σ.o=none→Ui da σ.K σ.d σ.MB σ.s
 live:∀x,σ.o=some x→Tc da σ.K σ.d σ.MB x.P x.y x.m x.tl x.mem∧uj x.P x.y σ.s
def zm(σ:RS)(u n:Nat)(e f:Bool):Prop:=∃x,σ.o=some x∧σ.d.Ya=false∧An.Ia σ.d.fa≤u∧x.m.next=n∧(e=true→x.mem≠[])∧(f=true→x.m.ia.getD 0 []≠[])
theorem RS.Ok.mk'{da:Nat}{d:ja}{a:List Za}{s K:Nat}{x:OS}(c:a.length≤K)(e:∀b∈a,ow b)(f:s≤a.length)(g:Tc da K d a x.P x.y x.m x.tl x.mem)(i:uj x.P x.y s):RS.Ok da ⟨d,a,s,K,some x⟩:=⟨c,e,f,fun h=>(by cases h),fun z j=>by cases j;exact⟨g,i⟩⟩
theorem RS.Ok.yI{da:Nat}{d:ja}{a:List Za}{s K:Nat}(c:a.length≤K)(e:∀b∈a,ow b)(f:s≤a.length)(g:Ui da K d a s):RS.Ok da ⟨d,a,s,K,none⟩:=⟨c,e,f,fun _=>g,fun z h=>by cases h⟩
def Fe(b:List Za)(st:Bs)(a:Int)(l:List Ev):Nat:=if jd ⟨st,0,l⟩≠0 then jd ⟨st,0,l⟩else
 if a< -2 then 2 else
 if a≠ -2∧a≠((Qf st (Ja b)).length:Int)-1 then 80 else jd (Ff b st l)
section
variable {da:Nat}{σ:RS}{x:OS}
theorem Tc.KH{K y:Nat}{d:ja}{bs:List Za}{P:Ma}{m:Fa}{tl:Nat→List qa}{mem:List qa}(h:Tc da K d bs P y m tl mem):P.length≤4*K:=by have a:=Ci (d.fa.map (·.1));rw[h.log.count h.wf.Db,zU]at a;have b:=h.many;simp at a;omega
theorem pJ{d:ja}:d.free=(d.cap:Int)-An.Ia d.fa:=rfl
theorem RS.Ok.append(h:σ.Ok da)(j:da<18446744073709551616)(U:σ.K≤89)(C:σ.o=some x){b:Za}(i:ow b)(N:b.first=(Qf b.stream (Ja σ.MB)).length):((Wb x.P (Sa b) σ.d=(60,σ.d))∧∀u n e f,zm σ u n e f→σ.K≤49→u+8024≤σ.d.cap→False)∨((Wb x.P (Sa b) σ.d).1=0∧(Wb x.P (Sa b) σ.d).2.za=σ.d.za∧(Wb x.P (Sa b) σ.d).2.down=false∧∃y',RS.Ok da ⟨(Wb x.P (Sa b) σ.d).2,σ.MB++[b],σ.s,σ.K+1,some ⟨zk x.P (Sa b),y',x.m,x.tl,Vc (Kl da (Vi x.P (Sa b),Sa b)) x.mem⟩⟩∧∀u n e f,zm σ u n e f→zm ⟨(Wb x.P (Sa b) σ.d).2,σ.MB++[b],σ.s,σ.K+1,some ⟨zk x.P (Sa b),y',x.m,x.tl,Vc (Kl da (Vi x.P (Sa b),Sa b)) x.mem⟩⟩ (u+2024) n true f)∨((Wb x.P (Sa b) σ.d).1=61∧(Wb x.P (Sa b) σ.d).2.down=true∧σ.d.Ya=true∧RS.Ok da ⟨(Wb x.P (Sa b) σ.d).2,σ.MB++[b],σ.s,σ.K+1,none⟩):=by
 obtain⟨B,L⟩:=h.live x C;have l:∀c∈σ.MB++[b],ow c:=fun c M=>by
  rcases oU.1 M with a|a
  ·exact h.ok c a
  ·rw[lU.1 a];exact i
 have hm:(σ.MB++[b]).length≤σ.K+1:=by rw[CT];exact aW h.many
 have p:σ.s≤(σ.MB++[b]).length:=by rw[CT];exact KT h.sure (UY _ _)
 rcases B.append j L (by omega) i N with⟨a,g⟩|⟨a,k,u1,y',g,t⟩|⟨a,g,t,_,_,_,J⟩
 ·refine .inl ⟨a,fun u n e f v S hu=> ?_⟩;obtain⟨R,q,_,y,_⟩:=v;have:=B.KH;rw[pJ]at g;omega
 ·refine .inr (.inl ⟨a,k.za,k.down,y',RS.Ok.mk' hm l p g t,fun u n e f v=> ?_⟩);obtain⟨R,q,D,y,E,T,F⟩:=v;rw[C]at q;cases q;refine⟨_,rfl,k.calm D,KT u1 (RW y _),E,fun _ w=> ?_,F⟩;have w:Vc (Kl da (Vi x.P (Sa b),Sa b)) x.mem=[]:=w;have G:=(Hd i.check).2.1;have H:Kl da (Vi x.P (Sa b),Sa b)≠[]:=by rw[sh i];intro I;have:=eU List.length I;rw[zU,YX]at this;exact G (uU this)
  obtain⟨z,r,Q⟩:=List.exists_cons_of_ne_nil H;have A:z∈Vc (Kl da (Vi x.P (Sa b),Sa b)) x.mem:=Rl.2 (.inl (by rw[Q];exact .head _));rw[w]at A;cases A
 ·exact .inr (.inr ⟨a,t,g,RS.Ok.yI hm l p J⟩)
theorem RS.Ok.flush(h:σ.Ok da)(a:da<18446744073709551616)(n:σ.K≤89)(l:σ.o=some x):((zc x.P σ.d).1=0∧(zc x.P σ.d).2.za=σ.d.za∧(zc x.P σ.d).2.down=false∧(zc x.P σ.d).2.cap=σ.d.cap∧(σ.d.Ya=false→(zc x.P σ.d).2.Ya=false)∧An.Ia (zc x.P σ.d).2.fa=An.Ia σ.d.fa∧∃y',Qk x.P y' x.P∧RS.Ok da ⟨(zc x.P σ.d).2,σ.MB,σ.MB.length,σ.K,some ⟨x.P,y',x.m,x.tl,x.mem⟩⟩)∨((zc x.P σ.d).1=61∧(zc x.P σ.d).2.down=true∧σ.d.Ya=true∧(zc x.P σ.d).2.cap=σ.d.cap∧RS.Ok da ⟨(zc x.P σ.d).2,σ.MB,σ.s,σ.K,none⟩):=by
 obtain⟨i,j⟩:=h.live x l;rcases i.sync a j (by omega)with⟨b,k,u1,y',c,_,e,f⟩|⟨b,c,e,f,_,_,g⟩
 ·exact .inl ⟨b,k.za,k.down,k.cap,k.calm,u1,y',e,RS.Ok.mk' h.many h.ok (FT _) c f⟩
 ·exact .inr ⟨b,e,c,f,RS.Ok.yI h.many h.ok h.sure g⟩
def yd(P:Ma)(m:Fa)(mem:List qa)(f:Bs)(d:ja):Nat×ja:=if(zc P d).1≠0 then zc P d else
 if mem=[]then(0,(zc P d).2)else
 if(og m.ia m.next).1≠0 then((og m.ia m.next).1,(zc P d).2)else
 Ec m.next (Tb mem) f (Xb (Kd m (og m.ia m.next).2 (Ad P))) (zc P d).2
def Nl(c:Nat)(P:Ma)(m:Fa)(mem:List qa):Fa:=if c=0∧mem≠[]then Kd m (og m.ia m.next).2 (Ad P)else m
def Ps(c:Nat)(m:Fa)(tl:Nat→List qa)(mem:List qa):Nat→List qa:=if c=0∧mem≠[]then sf tl m.next mem else tl
def Ol(c:Nat)(mem:List qa):List qa:=if c=0∧mem≠[]then []else mem
theorem Tc.zw{K y:Nat}{d:ja}{bs:List Za}{P:Ma}{m:Fa}{tl:Nat→List qa}{mem:List qa}(h:Tc da K d bs P y m tl mem){l:List qa}(a:ub l=true)(b:∀e∈l,e∈ld da (ab P)):l.length≤8*bs.length:=KT (Cq (yp a) b) (gx h.holds)
theorem Qv:∀ (l:List Nat),(Sd l).length=1+4*l.length
 |[]=>by simp[Sd,Jb]
 |a::r=>by have:=Qv r;unfold Sd at*;simp only[CT,Jb,AU,UT]at*;omega
theorem FG:∀ (l:List (List Nat)),(l.flatMap Sd).length=l.length+4*l.flatten.length
 |[]=>rfl
 |a::r=>by have:=FG r;simp only[AU,CT,Qv,oV,UT]at*;omega
theorem Ex{m:Fa}(h:Rc m.ia=true):(Xb m).length≤190:=by obtain⟨d,e,_⟩:=mi.1 h;have f:=Df m.ia;have a:=FG (Ab m.ia);rw[Yc]at a;have b:Se.length=4:=rfl;have c:∀n,(low n).length=4:=fun _=>rfl;unfold Xb Qg;simp only[CT,Jb,a,b,c];omega
def Wh(n f:Nat):Nat:=12+24*n+f+190
theorem aF{K y:Nat}{d:ja}{bs:List Za}{P:Ma}{m:Fa}{tl:Nat→List qa}{mem:List qa}(h:Tc da K d bs P y m tl mem):m.ia.flatten.length≤m.next:=by
 have a:=Dc.1 h.gi.valid;have:=Cq (mi.1 a.2.2.1).2.2 (m:=List.range m.next) fun j b=>GW.2 (a.2.2.2 j b)
 rwa [YX]at this
theorem WE(l:List (List Nat))(n:Nat)(h:(og l n).1=0):(og l n).2.getD 0 []≠[]:=by
 unfold og at*;split at h
 ·cases h
 ·rename_i a;rw[DT a];split at h
  ·cases h
  ·rename_i b;rw[DT b];dsimp only;split<;>simp
theorem RS.Ok.index(h:σ.Ok da)(v:da<18446744073709551616)(hK:σ.K≤89)(C:σ.o=some x)(f:Bs):((yd x.P x.m x.mem f σ.d).2.down=false∧(zc x.P σ.d).1=0∧(yd x.P x.m x.mem f σ.d).2.za=σ.d.za∧(yd x.P x.m x.mem f σ.d).2.cap=σ.d.cap∧((yd x.P x.m x.mem f σ.d).1=0∨(yd x.P x.m x.mem f σ.d).1=60)∧∃y',RS.Ok da ⟨(yd x.P x.m x.mem f σ.d).2,σ.MB,σ.MB.length,σ.K+1,some ⟨x.P,y',Nl (yd x.P x.m x.mem f σ.d).1 x.P x.m x.mem,Ps (yd x.P x.m x.mem f σ.d).1 x.m x.tl x.mem,Ol (yd x.P x.m x.mem f σ.d).1 x.mem⟩⟩∧∀u n g,zm σ u n true g→n<40→u+Wh (8*σ.MB.length) f.length+6000≤σ.d.cap→(yd x.P x.m x.mem f σ.d).1=0∧zm ⟨(yd x.P x.m x.mem f σ.d).2,σ.MB,σ.MB.length,σ.K+1,some ⟨x.P,y',Nl (yd x.P x.m x.mem f σ.d).1 x.P x.m x.mem,Ps (yd x.P x.m x.mem f σ.d).1 x.m x.tl x.mem,Ol (yd x.P x.m x.mem f σ.d).1 x.mem⟩⟩ (u+Wh (8*σ.MB.length) f.length) (n+1) false true)∨((yd x.P x.m x.mem f σ.d).2.down=true∧σ.d.Ya=true∧(yd x.P x.m x.mem f σ.d).2.cap=σ.d.cap∧((yd x.P x.m x.mem f σ.d).1=60∨(yd x.P x.m x.mem f σ.d).1=61)∧RS.Ok da ⟨(yd x.P x.m x.mem f σ.d).2,σ.MB,σ.s,σ.K+1,none⟩):=by
 have j:σ.MB.length≤σ.K+1:=KT h.many (fV _);unfold yd;rcases h.flush v hK C with⟨A,w,B,p,t,aj,y',X,W⟩|⟨A,w,B,p,U⟩
 ·obtain⟨b,i⟩:=W.live _ rfl;dsimp only at b i;generalize zc x.P σ.d=q at*;obtain⟨q1,d1⟩:=q;dsimp only at*;subst A;rw[DT (by simp)];by_cases a:x.mem=[]
  ·rw[JT a];refine .inl ⟨B,rfl,w,p,.inl rfl,y',?_,fun u n g r=> ?_⟩
   ·unfold Nl Ps Ol;rw[DT (by simp[a]),DT (by simp[a]),DT (by simp[a])];exact RS.Ok.mk' j h.ok (FT _) (b.RR (fV _)) i
   ·obtain⟨E,l,_,_,_,S,_⟩:=r;rw[C]at l;cases l;exact absurd a (S rfl)
  ·rw[DT a];have J:=b.Vg;rcases SC (n:=x.m.next) (Dc.1 b.gi.valid).2.2.1 J with⟨a6,e⟩|⟨to',e,L,hp⟩
   ·rw[e,JT (show((60,[]):Nat×List (List Nat)).1≠0 by decide)];refine .inl ⟨B,rfl,w,p,.inr rfl,y',?_,fun u n g r I=> ?_⟩
    ·unfold Nl Ps Ol;rw[DT (by simp),DT (by simp),DT (by simp)];exact RS.Ok.mk' j h.ok (FT _) (b.RR (fV _)) i
    ·obtain⟨E,l,_,_,D,_⟩:=r;rw[C]at l;cases l;have:=aF b;omega
   ·have y:=WE x.m.ia x.m.next (by rw[e]);rw[e]at y;rw[e,DT (by simp)];dsimp only at y⊢;have hlen:x.mem.length≤8*σ.MB.length:=b.zw b.ym fun z hz=>(b.xc z).1 (.inl hz);have a7:(Xb (Kd x.m to' (Ad x.P))).length≤190:=Ex L;have a8:=jo x.mem;rcases b.index v i X (by omega) L hp f with⟨c,k,u1,a2⟩|⟨c,u1,k,a2⟩|⟨c,a2,a3,a4,_,_,a5⟩
    ·refine .inl ⟨k.down,rfl,k.za.trans w,k.cap.trans p,.inl c,y',?_,fun u n g r I hu=>⟨c,?_⟩⟩
     ·unfold Nl Ps Ol;rw[JT ⟨c,a⟩,JT ⟨c,a⟩,JT ⟨c,a⟩,e];exact RS.Ok.mk' j h.ok (FT _) a2 i
     ·obtain⟨E,l,F,R,D,_⟩:=r;rw[C]at l;cases l;unfold Nl Ps Ol;rw[JT ⟨c,a⟩,JT ⟨c,a⟩,JT ⟨c,a⟩,e];refine⟨_,rfl,k.calm (t F),?_,by show x.m.next+1=_;rw[D],fun h=>(by cases h),fun _=>y⟩;dsimp only;unfold Wh;omega
    ·refine .inl ⟨k.down,rfl,k.za.trans w,k.cap.trans p,.inr c,y',?_,fun u n g r I hu=> ?_⟩
     ·unfold Nl Ps Ol;rw[DT (by rw[c];simp),DT (by rw[c];simp),DT (by rw[c];simp)];exact RS.Ok.mk' j h.ok (FT _) a2 i
     ·obtain⟨E,l,F,R,D,_⟩:=r;unfold Wh at hu;omega
    ·have G:σ.d.Ya=true:=by
      cases hq:σ.d.Ya with
      |true=>rfl
      |false=>rw[t hq]at a2;cases a2
     refine .inr ⟨a3,G,a4.trans p,c,RS.Ok.yI j h.ok h.sure ?_⟩;obtain⟨P,T,H,y2,bs,b1,b2,b3,b4,N⟩:=a5.log;obtain⟨M,Q,c2⟩:=b4;exact {a5 with log:=⟨P,T,H,y2,bs,b1,b2,b3,⟨M,Q,KT h.sure c2⟩,N⟩}
 ·rw[JT (by rw[A];decide)];exact .inr ⟨w,B,p,.inr A,RS.Ok.yI j h.ok h.sure ((U.shut rfl).up (fV _))⟩
end
end An
end
section
namespace An
open ja
def Wl(m:Fa)(k:Int):List Nat:=(ie m.ia k).2
def Rf(m:Fa)(tl:Nat→List qa)(k:Int)(f:Bs)(d:ja):Nat×ja:=if(ie m.ia k).1≠0 then((ie m.ia k).1,d)else
 Ec m.next (Tb (Zc ((Wl m k).map tl))) f (Xb (Kd m (Fb m.ia k.toNat m.next) m.check)) d
def Dd(m:Fa)(tl:Nat→List qa)(k:Int)(f:Bs)(d:ja):Nat×ja:=if(Rf m tl k f d).1≠0 then Rf m tl k f d else Ta (sc (Wl m k)) (Rf m tl k f d).2
def Vl(c:Nat)(m:Fa)(k:Int):Fa:=if c=0 then Kd m (Fb m.ia k.toNat m.next) m.check else m
def Zt(c:Nat)(m:Fa)(tl:Nat→List qa)(k:Int):Nat→List qa:=if c=0 then sf tl m.next (Zc ((Wl m k).map tl))else tl
theorem Wo{l:List (List Nat)}{k:Int}(b:Rc l=true):(ie l k=(2,[])∧(k<0∨5≤k))∨(ie l k=(4,[])∧l.getD k.toNat []=[])∨(ie l k=(0,l.getD k.toNat [])∧0≤k∧k<5∧l.getD k.toNat []≠[]):=by
 unfold ie;by_cases h:k<0∨5≤k
 ·rw[JT (by rcases h with h|h<;>simp[h])];exact .inl ⟨rfl,h⟩
 ·rw[DT (by simp[b];omega)];cases he:l.getD k.toNat []with
  |nil=>exact .inr (.inl ⟨rfl,rfl⟩)
  |cons a r=>exact .inr (.inr ⟨rfl,by omega,by omega,by simp⟩)
section
variable {da:Nat}{σ:RS}{x:OS}
theorem RS.Ok.merge(h:σ.Ok da)(i:da<18446744073709551616)(hK:σ.K≤89)(F:σ.o=some x)(k:Int)(f:Bs):((Dd x.m x.tl k f σ.d).2.down=false∧(Dd x.m x.tl k f σ.d).2.za=σ.d.za∧(Dd x.m x.tl k f σ.d).2.cap=σ.d.cap∧((Dd x.m x.tl k f σ.d).1=0∨(Dd x.m x.tl k f σ.d).1=60∨(Dd x.m x.tl k f σ.d).1=4∨(Dd x.m x.tl k f σ.d).1=2∧(k<0∨5≤k))∧RS.Ok da ⟨(Dd x.m x.tl k f σ.d).2,σ.MB,σ.s,σ.K+1,some ⟨x.P,x.y,Vl (Rf x.m x.tl k f σ.d).1 x.m k,Zt (Rf x.m x.tl k f σ.d).1 x.m x.tl k,x.mem⟩⟩∧∀u n e,zm σ u n e true→k=0→u+Wh (8*σ.MB.length) f.length+6000≤σ.d.cap→(Dd x.m x.tl k f σ.d).1=0∧zm ⟨(Dd x.m x.tl k f σ.d).2,σ.MB,σ.s,σ.K+1,some ⟨x.P,x.y,Vl (Rf x.m x.tl k f σ.d).1 x.m k,Zt (Rf x.m x.tl k f σ.d).1 x.m x.tl k,x.mem⟩⟩ (u+Wh (8*σ.MB.length) f.length) (n+1) false false)∨((Dd x.m x.tl k f σ.d).2.down=true∧σ.d.Ya=true∧(Dd x.m x.tl k f σ.d).2.cap=σ.d.cap∧((Dd x.m x.tl k f σ.d).1=60∨(Dd x.m x.tl k f σ.d).1=61)∧RS.Ok da ⟨(Dd x.m x.tl k f σ.d).2,σ.MB,σ.s,σ.K+1,none⟩):=by
 obtain⟨b,q⟩:=h.live x F;have c:σ.MB.length≤σ.K+1:=KT h.many (fV _);have w:=(Dc.1 b.gi.valid).2.2.1;unfold Dd Rf Wl;rcases Wo (k:=k) w with⟨e,r⟩|⟨e,r⟩|⟨e,a6,a7,D⟩
 ·rw[e,JT (show(2,([]:List Nat)).1≠0 by decide),JT (show(2,σ.d).1≠0 from Nat.succ_ne_zero 1)];refine .inl ⟨b.up,rfl,rfl,.inr (.inr (.inr ⟨rfl,r⟩)),?_,fun u n e _ I=> ?_⟩
  ·unfold Vl Zt;dsimp only;rw[DT (by decide),DT (by decide)];exact RS.Ok.mk' c h.ok h.sure (b.RR (fV _)) q
  ·omega
 ·rw[e,JT (show(4,([]:List Nat)).1≠0 by decide),JT (show(4,σ.d).1≠0 from Nat.succ_ne_zero 3)];refine .inl ⟨b.up,rfl,rfl,.inr (.inr (.inl rfl)),?_,fun u n e v I=> ?_⟩
  ·unfold Vl Zt;dsimp only;rw[DT (by decide),DT (by decide)];exact RS.Ok.mk' c h.ok h.sure (b.RR (fV _)) q
  ·obtain⟨R,p,_,_,_,_,U⟩:=v;rw[F]at p;cases p;subst I;exact absurd r (U rfl)
 ·rw[e,DT (show¬ (0,x.m.ia.getD k.toNat []).1≠0 by simp)];dsimp only;have r:k.toNat<5:=by omega
  obtain⟨hv,hp⟩:=Xo (n:=x.m.next) w b.Vg r D;have C:∀j∈x.m.ia.getD k.toNat [],j∈x.m.ia.flatten:=fun j a=>by
   rw[kU]at a;cases E:x.m.ia[k.toNat]? with
   |none=>rw[E]at a;cases a
   |some z=>rw[E]at a;exact FV.2 ⟨z,AV E,a⟩
  have M:=(Dc.1 b.gi.valid).2.2.2;have a8:(Xb (Kd x.m (Fb x.m.ia k.toNat x.m.next) x.m.check)).length≤190:=Ex hv;have hlen:(Zc ((x.m.ia.getD k.toNat []).map x.tl)).length≤8*σ.MB.length:=b.zw (Ef _) fun z hz=>by obtain⟨l,hl,Q⟩:=Fi.1 hz;obtain⟨j,a,rfl⟩:=nU.1 hl;exact(b.xc z).1 (.inr ⟨j,C j a,Q⟩)
  have aj:=jo (Zc ((x.m.ia.getD k.toNat []).map x.tl));rcases b.merge i q (by omega) r D f with⟨g,k1,u1,a2⟩|⟨g,u1,k1,a2⟩|⟨g,a2,a3,a4,_,_,a5⟩
  ·generalize Ec x.m.next (Tb (Zc ((x.m.ia.getD k.toNat []).map x.tl))) f (Xb (Kd x.m (Fb x.m.ia k.toNat x.m.next) x.m.check)) σ.d=t at*;obtain⟨t1,d1⟩:=t;dsimp only at*;subst g;rw[DT (by simp)];have N:(Fb x.m.ia k.toNat x.m.next).flatten.Nodup∧∀j∈x.m.ia.getD k.toNat [],j∉(Fb x.m.ia k.toNat x.m.next).flatten:=by have A:((Fb x.m.ia k.toNat x.m.next).flatten++x.m.ia.getD k.toNat []).Nodup:=hp.nodup_iff.2 (DV.2 ⟨b.Vg,(mi.1 w).2.2⟩);obtain⟨W,_,X⟩:=bW.1 A;exact⟨W,fun j a L=>X j L j a rfl⟩
   have J:d1.Ya=true→σ.d.Ya=true:=k1.fl;rcases a2.eS i q (by omega) (Ie:=x.m.ia.getD k.toNat []) (fun j a=>⟨JY (M j (C j a)),N.2 j a⟩)with⟨b1,B,u2,b2⟩|⟨b1,b2,b3,b4,_,_,S⟩
   ·refine .inl ⟨B.down,B.za.trans k1.za,B.cap.trans k1.cap,.inl b1,?_,fun u n e v _ hu=>⟨b1,?_⟩⟩
    ·unfold Vl Zt Wl;rw[JT rfl,JT rfl,e];exact RS.Ok.mk' c h.ok h.sure b2 q
    ·obtain⟨R,p,G,T,H,_⟩:=v;rw[F]at p;cases p;unfold Vl;rw[JT rfl];refine⟨_,rfl,B.calm (k1.calm G),?_,by show x.m.next+1=_;rw[H],fun h=>(by cases h),fun h=>(by cases h)⟩;dsimp only;unfold Wh;omega
   ·exact .inr ⟨b3,J b2,b4.trans k1.cap,.inr b1,RS.Ok.yI c h.ok h.sure S⟩
  ·rw[JT (by rw[g];decide)];refine .inl ⟨k1.down,k1.za,k1.cap,.inr (.inl g),?_,fun u n e v _ hu=> ?_⟩
   ·unfold Vl Zt;rw[DT (by rw[g];decide),DT (by rw[g];decide)];exact RS.Ok.mk' c h.ok h.sure a2 q
   ·obtain⟨R,p,G,T,H,_⟩:=v;unfold Wh at hu;omega
  ·rw[JT (by rcases g with A|A<;>rw[A]<;>decide)];exact .inr ⟨a3,a2,a4,g,RS.Ok.yI c h.ok h.sure a5⟩
end
end An
end
section
open Go.ChangeMaps (setBlock)
open Go.Maps (Keyed)
open Go Go.RowKit Go.Proofs.Tryz
section
variable {P:Program}{t k e:TypeId}{es:Array MapEntry}{clock:Nat}{kv:List (Value×Value)}{w:World}{b:Nat}
theorem Uf.fx(K:Keyed P k)(m:P.underlying t=some (.map k e))(h:Uf P k es clock kv)(f:w.heap[b]? =some (.map es clock)){z:Value}(n:∀w,(zeroValue e).run P w= .ok z w){a:Value}{o:Lit}(c:keyOf P k a=some o)(q:Plain a)(l:∀p∈kv,p.1≠a):(Instr.mapEntry t (.map (some b)) a).run P w= .ok (.tuple #[z,Z clock]) (setBlock w b (.map (es.push ⟨a,z,clock⟩) (clock+1))):=by
 rcases h.find K w c with⟨d,g⟩|⟨j,x,d,g,r,i⟩
 ·simp[Instr.mapEntry,SU m,BV f,K.check w false c,d,n,zW _ f,Result.andThen,setBlock,goInt]
 ·exact absurd rfl (l _ i)
theorem find_born(h:Uf P k es clock kv)(c z:Value):(es.push ⟨c,z,clock⟩).findIdx? (fun e=>(e.born:Int)==(clock:Int))=some es.size:=by
 rw[Array.findIdx?_eq_some_iff_getElem];refine⟨by simp,by simp,fun j d=> ?_⟩;have a:j<es.size:=by simpa using d
 rw[YY a];have:=h.Ie es[j] (by simp);simp;omega
theorem Uf.iC(h:Uf P k es clock kv){c z val:Value}{o:Lit}(l:keyOf P k c=some o)(n:Plain c)(s:∀p∈kv,p.1≠c)(m:w.heap[b]? =some (.map (es.push ⟨c,z,clock⟩) (clock+1))):(Instr.entryStore t (.map (some b)) (Z clock) val).run P w= .ok () (setBlock w b (.map (es.push ⟨c,val,clock⟩) (clock+1)))∧Uf P k (es.push ⟨c,val,clock⟩) (clock+1) ((c,val)::kv):=by
 constructor
 ·have hm:(es.push ⟨c,z,clock⟩).modify es.size (fun e=>{e with val:=val})=es.push ⟨c,val,clock⟩:=by
   apply Array.ext
   ·simp
   ·intro i u q;rw[Array.getElem_modify];by_cases hi:es.size=i
    ·subst hi;simp
    ·rw[DT hi];have j:i<es.size:=by simp at q;omega
     rw[YY j,YY j]
  simp[Instr.entryStore,BV m,asInt,asIntOf,find_born h c z,hm,zW _ m,Result.andThen,setBlock]
 ·refine⟨?_,?_,?_,?_,?_,?_⟩
  ·rw[rX,tV];exact(List.perm_append_singleton _ _).trans (h.perm.cons _)
  ·intro p d;rcases dU.1 d with rfl|d
   ·exact⟨o,l⟩
   ·exact h.keys p d
  ·intro p d;rcases dU.1 d with rfl|d
   ·exact n
   ·exact h.plain p d
  ·rw[qU,DV];refine⟨fun hm=> ?_,h.nodup⟩;obtain⟨p,d,he⟩:=nU.1 hm;exact s p d he
  ·rw[rX,tV];refine bW.2 ⟨h.born,by simp,fun a r b g=> ?_⟩;obtain⟨y,f,rfl⟩:=nU.1 r;simp at g;subst g;exact EZ (h.Ie y f)
  ·intro y f;rw[rX,oU]at f;rcases f with f|f
   ·exact JY (h.Ie y f)
   ·simp at f;subst f;exact Nat.lt_succ_self _
end
theorem Y.fx{s w:World}{p q:Td}{S R:aa}{l:yo}{t e:TypeId}(h:Y s p q S w)(M n:Nat)(v:Value)(y:n≤1000000000000)(A:prog.underlying t=some (.map 3 e)){z:Value}(B:∀w,(zeroValue e).run prog w= .ok z w)(i:Ql n l=none)[k:Find (Ib prog 3 M (Rk l)) S R]:∃ (c:Nat) (u w2:World),(Instr.mapEntry t (.map (some M)) (Z (n:Int))).run prog w= .ok (.tuple #[z,Z c]) u∧(Instr.entryStore t (.map (some M)) (Z c) v).run prog u= .ok () w2∧Y s p q (Ib prog 3 M (Rk ((n,v)::l))*R) w2:=by have j:=h.le k.split;obtain⟨es,c,hm,hb⟩:=j.map M;have a:=wx y;have f:Plain (Z (n:Int)):=.inr ⟨_,_,rfl⟩;have d:=ox i;have C:=hm.fx dL A hb B a f d;have g:=Um (o:=.map (es.push ⟨Z (n:Int),z,c⟩) (c+1)) hb;have m:=(hm.iC (t:=t) (val:=z) a f d g).2;have r:=hm.iC (t:=t) (val:=v) a f d g;have x:=j.fv M m;exact⟨c,_,_,C,r.1,x.fv M r.2⟩
end
namespace topViews
theorem facts:joinedFacts Tryz.pinned.checked.prog 3 Tryz.f3 Rows.topViewsSpec Rows.topViewsRow=true:=by
 unfold joinedFacts;simp only[aU];repeat' apply And.intro
 all_goals (as_aux_lemma=>kernel_rfl)
end topViews
end Go.Proofs.YteacbkflfafefaaGreatDoor
