/- Part 8 of 50 of the proof that TopViews returns true at every input: lemmas on the way; no condition. -/
import Derived.Test.YteacbkflfafefaaGreatDoorZ5
namespace Go.Proofs.YteacbkflfafefaaGreatDoor
set_option linter.all false
namespace An
theorem Nq{a b:UInt8}(h:a.toNat=b.toNat):a=b:=pX.1 h
theorem uh(k:UInt8){n:Nat}(h:n≤999999):fileName k n=[k,b8 (48+n/100000 % 10),b8 (48+n/10000 % 10),b8 (48+n/1000 % 10),b8 (48+n/100 % 10),b8 (48+n/10 % 10),b8 (48+n % 10)]:=by unfold fileName;rw[DT (by omega)];simp[List.range,List.range.loop]
theorem NR{n:Nat}:(b8 (48+n % 10)).toNat=48+n % 10:=by rw[Vf];omega
theorem Ch{k:UInt8}(c:k=99∨k=116∨k=98){n:Nat}(h:n≤999999):ji (fileName k n)=some (k,n):=by
 rw[uh k h];unfold ji;have a:([b8 (48+n/100000 % 10),b8 (48+n/10000 % 10),b8 (48+n/1000 % 10),b8 (48+n/100 % 10),b8 (48+n/10 % 10),b8 (48+n % 10)]:Bs).all isDigit=true:=by simp only[List.all_cons,List.all_nil,isDigit,NR,aU,bU];refine⟨⟨?_,?_⟩,⟨?_,?_⟩,⟨?_,?_⟩,⟨?_,?_⟩,⟨?_,?_⟩,⟨?_,?_⟩,trivial⟩<;>omega
 have b:Ei [b8 (48+n/100000 % 10),b8 (48+n/10000 % 10),b8 (48+n/1000 % 10),b8 (48+n/100 % 10),b8 (48+n/10 % 10),b8 (48+n % 10)]=n:=by simp only[Ei,fW,rZ,NR];omega
 dsimp only;rw[JT ⟨rfl,a,c⟩,b]
theorem du{s:Bs}{k:UInt8}{n:Nat}(h:ji s=some (k,n)):n≤999999∧s=fileName k n∧(k=99∨k=116∨k=98):=by
 unfold ji at h;split at h
 ·rename_i c r;split at h
  ·rename_i j;obtain⟨g,i,l⟩:=j;simp only[uX,Prod.mk.injEq]at h;obtain⟨rfl,m⟩:=h
   match r,g with
   |[a,b,c,d,e,f],_=>
    simp only[List.all_cons,List.all_nil,isDigit,aU,bU,and_true]at i;simp only[Ei,fW,rZ]at m;have hle:n≤999999:=by omega
    refine⟨hle,?_,l⟩;rw[uh _ hle];simp only[nW,and_true,true_and];refine⟨Nq ?_,Nq ?_,Nq ?_,Nq ?_,Nq ?_,Nq ?_⟩<;>rw[NR]<;>omega
  ·cases h
 ·cases h
theorem Mh{k b:UInt8}(g:k=99∨k=116∨k=98)(d:b=99∨b=116∨b=98){n c:Nat}(h:n≤999999)(h':c≤999999)(f:fileName k n=fileName b c):k=b∧n=c:=by have a:=Ch g h;rw[f,Ch d h']at a;injection a with a;injection a with a e;exact⟨a.symm,e.symm⟩
theorem Nz:ji oa=none:=by decide
theorem Vu:ji Va=none:=by decide
theorem jr:oa≠Va:=by decide
theorem Sn{k:UInt8}(a:k=99∨k=116∨k=98){n:Nat}(h:n≤999999):fileName k n≠oa:=fun e=>by have:=Ch a h;rw[e,Nz]at this;cases this
theorem oq{k:UInt8}(a:k=99∨k=116∨k=98){n:Nat}(h:n≤999999):fileName k n≠Va:=fun e=>by have:=Ch a h;rw[e,Vu]at this;cases this
theorem lq{k:UInt8}{n:Nat}(h:n≤999999):ja.Lg (fileName k n)=true:=by rw[uh k h];rfl
theorem Wk{k:UInt8}{n:Nat}:(fileName k n).length≤7:=by unfold fileName;split<;>simp
theorem aK{k:UInt8}{a b:Nat}(l:a≤999999)(m:b≤999999)(h:blt (fileName k a) (fileName k b)=true):a<b:=by
 rw[uh k l,uh k m]at h;simp only[blt,UInt8.lt_iff_toNat_lt,NR,PU,aU,bU,VW,GZ,Bool.false_or,xZ,KX,Bool.or_false,KV,and_false,SW,false_or]at h;have c:∀ {x y:Nat},b8 (48+x % 10)=b8 (48+y % 10)→x % 10=y % 10:=fun {x y} e=>by have:=eU UInt8.toNat e;rw[NR,NR]at this;omega
 rcases h with h|⟨d,h⟩
 ·omega
 have d:=c d;rcases h with h|⟨f,h⟩
 ·omega
 have f:=c f;rcases h with h|⟨g,h⟩
 ·omega
 have g:=c g;rcases h with h|⟨i,h⟩
 ·omega
 have i:=c i;rcases h with h|⟨j,h⟩
 ·omega
 have j:=c j;omega
theorem Pd(n:Nat):(Yb n).length=12:=by simp[Yb,rj,Jb]
def Lb(n:Nat)(a:List Bs):Bs:=Yb n++kg a
theorem Il(n:Nat)(a:List Bs):(Lb n a).length=12+(kg a).length:=by simp[Lb,Pd]
theorem cy{n:Nat}(e:n<200){a:List Bs}{T:Bs}(d:∀p∈a,p.length≤2000)(b:zj T=none):scan (Lb n a++T) n=(Cc 12 a,(Lb n a).length,true):=by
 unfold scan;rw[DT (by omega),JT (by rw[qX];exact⟨kg a++T,by simp[Lb]⟩)];dsimp only[gp];have c:a.length≤(Lb n a++T).length:=by rw[CT,Il];have:=Xv a;omega
 rw[By (Lb n a++T) T b a _ 12 d (by rw[Lb,iU,Nd (Pd n)]) c,Il]
theorem zF{n:Nat}(d:n<200){s:Bs}(b:s<+:Yb n)(c:s.length<12):scan s n=([],0,true):=by
 unfold scan;have a:(Yb n).isPrefixOf s=false:=by rw[uV,mY,qX];intro h;have:=h.length_le;rw[Pd]at this;omega
 rw[DT (by omega),a,DT (by simp),JT (by rw[qX];exact b)]
theorem lE(n k:Nat){a:List Bs}(h:∀p∈a,p.length≤2000):((Lb n a).take k<+:Yb n∧((Lb n a).take k).length<12∧k<12)∨∃j T,j≤a.length∧(Lb n a).take k=Lb n (a.take j)++T∧zj T=none∧(Lb n (a.take j)).length≤k∧(∀i,i≤a.length→(Lb n (a.take i)).length≤k→i≤j):=by
 by_cases f:k<12
 ·left;refine⟨?_,by rw[OT];omega,f⟩;rw[Lb,lV (by rw[Pd];omega)];exact jY _ _
 ·right;obtain⟨j,T,b,c,d,l,e,_⟩:=oD a (k-12) h;refine⟨j,T,b,?_,d,by rw[Il];omega,fun i hi g=>e i hi (by rw[Il]at g;omega)⟩;rw[Lb,Lb,TY,YT (by rw[Pd];omega),Pd,c,iU]
end An
namespace An
open ja
theorem ud{α:Type}(l:List α):l=[]∨∃A x,l=A++[x]:=by
 rcases bY l with h|⟨A,x,h⟩
 ·exact .inl h
 ·exact .inr ⟨A,x,by rw[h,aY]⟩
theorem Au{a b:Hb}(h:a.Perm b):Ia a=Ia b:=(h.map _).sum_nat
theorem eh{fs:Hb}(a:Zb fs)(n:Bs)(f:jc):Ia (Ac n f fs)=f.data.length+Ia (zb n fs):=by rw[Au (Oc a)];simp[Ia]
theorem dg{fs:Hb}(a:Zb fs){n:Bs}{f:jc}(h:Na n fs=some f):Ia fs=f.data.length+Ia (zb n fs):=by rw[Au (Wg (Pb a) h)];simp[Ia]
theorem Fx{fs:Hb}(a:Zb fs){n:Bs}{f:jc}{p:Bs×jc}(h:p∈Ac n f fs):p=(n,f)∨p∈fs:=by
 rcases dU.1 ((Oc a).mem_iff.1 h)with h|h
 ·exact .inl h
 ·exact .inr (vU.1 h).1
theorem Bg{fs:Hb}(a:Zb fs){n:Bs}{f f':jc}(h:Na n fs=some f):(Ac n f' fs).length=fs.length:=by rw[(Oc a).length_eq,(Wg (Pb a) h).length_eq];rfl
theorem oe{f:jc}(h:f.ib=f.data.length)(m:Nat):Lc f m=f:=by
 obtain⟨a,b⟩:=f;simp only at h;subst h;have:min a.length (a.length+m)=a.length:=by omega
 simp only[Lc,this,UU]
theorem Ju(f:jc)(m:Nat):(Lc f m).ib=(Lc f m).data.length:=by simp only[Lc,OT];omega
theorem Er(f:jc)(m:Nat):(Lc f m).data.length≤f.data.length:=by simp only[Lc,OT];omega
theorem Yp(Ga:List Int):∀ (i:Nat) (l:Hb) (n:Bs),∃m,Na n (cd Ga i l)=(Na n l).map (Lc · m)
 |_,[],n=>⟨0,rfl⟩
 |i,p::r,n=>by
  obtain⟨m,h⟩:=Yp Ga (i+1) r n;simp only[cd,Na];by_cases e:p.1=n
  ·exact⟨fj Ga i,by simp[e]⟩
  ·exact⟨m,by simp[e,h]⟩
theorem Jj(Ga:List Int):∀ (i:Nat) (l:Hb),(cd Ga i l).map (·.1)=l.map (·.1)
 |_,[]=>rfl
 |i,p::r=>by simp[cd,Jj Ga (i+1) r]
theorem Zp(Ga:List Int)(i:Nat)(l:Hb):(cd Ga i l).length=l.length:=by have:=eU List.length (Jj Ga i l);simpa using this
theorem xy(p:Bs×jc)(b:Hb):Ia (p::b)=p.2.data.length+Ia b:=by simp[Ia]
theorem Fp(Ga:List Int)(n:Bs):∀ (i:Nat) (l:Hb),Ia (zb n (cd Ga i l))≤Ia (zb n l)
 |_,[]=>FT _
 |i,p::r=>by
  have h:=Fp Ga n (i+1) r;have c:=Er p.2 (fj Ga i);by_cases e:p.1=n
  ·have a:zb n (cd Ga i (p::r))=zb n (cd Ga (i+1) r):=by simp[zb,cd,IU,e]
   have b:zb n (p::r)=zb n r:=by simp[zb,IU,e]
   rw[a,b];exact h
  ·have a:zb n (cd Ga i (p::r))=(p.1,Lc p.2 (fj Ga i))::zb n (cd Ga (i+1) r):=by simp[zb,cd,IU,e]
   have b:zb n (p::r)=p::zb n r:=by simp[zb,IU,e]
   rw[a,b,xy,xy];simp only;omega
theorem Qn(Ga:List Int):∀ (i:Nat) (l:Hb),Ia (cd Ga i l)≤Ia l
 |_,[]=>FT _
 |i,p::r=>by have h:=Qn Ga (i+1) r;have a:=Er p.2 (fj Ga i);simp only[cd,xy];omega
theorem bq(Ga:List Int):∀ (i:Nat) (l:Hb) (p:Bs×jc),p∈cd Ga i l→p.2.ib=p.2.data.length
 |_,[],p,h=>by cases h
 |i,q::r,p,h=>by
  simp only[cd,dU]at h;rcases h with rfl|h
  ·exact Ju _ _
  ·exact bq Ga (i+1) r p h
theorem ZC{α β:Type}{a:List (Bs×α)}{b:List (Bs×β)}(h:a.map (·.1)=b.map (·.1))(d:Zb a):Zb b:=by rw[af]at d⊢;have c:(a.map (·.1)).Pairwise fun x y=>blt x y=true:=yV.2 d;rw[h]at c;exact yV.1 c
structure Cr(d d':ja):Prop where
 down:d'.down=true
 cap:d'.cap=d.cap
 za:d'.za=d.za
 len:d'.fa.length=d.fa.length
 get:∀n,∃m,Na n d'.fa=(Na n d.fa).map (Lc · m)
 Ia:∀n,Ia (zb n d'.fa)≤Ia (zb n d.fa)
 wf:d'.Wf
 off:d'.Ya=false
theorem YM{d:ja}(h:d.Wf)(Ga:List Int):(d.Ve Ga).Wf where
 Db:=ZC (Jj Ga 0 d.fa).symm h.Db
 cap:=h.cap
 Ia:=KT (Qn Ga 0 d.fa) h.Ia
 ib p a:=vW (bq Ga 0 d.fa p a)
 left:=by show 0<9223372036854775808;omega
 many:=by show(cd Ga 0 d.fa).length≤400;rw[Zp];exact h.many
 kept:=by show 0≤1000000;omega
theorem uk{d:ja}(h:d.Wf)(Ga:List Int):Cr d (d.Ve Ga):=⟨rfl,rfl,rfl,Zp _ _ _,fun n=>Yp Ga 0 d.fa n,fun n=>Fp Ga n 0 d.fa,YM h Ga,rfl⟩
structure Up(d:ja)(fs:Hb)(d':ja):Prop where
 fa:d'.fa=fs
 down:d'.down=false
 cap:d'.cap=d.cap
 za:d'.za=d.za
 wf:d'.Wf
 calm:d.Ya=false→d'.Ya=false
def qN(d:ja)(fs:Hb)(r:Nat×ja):Prop:=(r.1=0∧Up d fs r.2)∨(r.1=61∧d.Ya=true∧(Cr d r.2∨∃d2:ja,d2.fa=fs∧d2.cap=d.cap∧d2.za=d.za∧d2.Wf∧Cr d2 r.2))
theorem Bu{d:ja}(h:d.Wf){fs:Hb}(b:Zb fs)(e:An.Ia fs≤d.cap)(c:∀p∈fs,p.2.ib≤p.2.data.length)(a:fs.length≤400):({d.tick with fa:=fs}:ja).Wf:=⟨b,h.cap,e,c,WV (BY _ _) h.left,a,h.kept⟩
theorem kq{d:ja}(h:d.Pe=true):d.Ya=true:=by unfold ja.Pe at h;simp only[aU]at h;exact h.1
theorem Hs{d:ja}(a:d.Wf)(e:d.down=false){n:Bs}(g:Lg n=true)(b:Na n d.fa=none)(i:d.fa.length<400):qN d (Ac n ⟨[],0⟩ d.fa) (d.create n):=by
 unfold ja.create;rw[e,g,b,DT (by simp),DT (by simp),DT (by simp),DT (by omega)];split
 ·rename_i f;exact .inr ⟨rfl,kq f,.inl (uk a _)⟩
 ·refine .inl ⟨rfl,rfl,e,rfl,rfl,Bu a (Oe a.Db _ _) ?_ ?_ ?_,fun h=>h⟩
  ·rw[eh a.Db,Ob b];have:=a.Ia;show 0+_≤_;omega
  ·intro p c;rcases Fx a.Db c with rfl|c
   ·exact FT 0
   ·exact a.ib p c
  ·rw[(Oc a.Db).length_eq,Ob b,UT];omega
theorem Bo{d:ja}(a:d.Wf)(c:d.down=false){n s:Bs}{f:jc}(b:Na n d.fa=some f)(e:(s.length:Int)≤d.free):qN d (Ac n ⟨f.data++s,f.ib⟩ d.fa) (d.append n s):=by
 obtain⟨cap,fs,st,dn,fl,lf,kp⟩:=d;obtain rfl:dn=false:=c;generalize j:(⟨cap,fs,st,false,fl,lf,kp⟩:ja)=d at*;have c:d.down=false:=by rw[←j]
 have m:=dg a.Db b;have o:=a.Ia;unfold ja.free at e;have hu:An.Ia (Ac n ⟨f.data++s,f.ib⟩ d.fa)≤d.cap:=by rw[eh a.Db,CT];omega
 have k:∀p∈Ac n (⟨f.data++s,f.ib⟩:jc) d.fa,p.2.ib≤p.2.data.length:=by
  intro p g;rcases Fx a.Db g with rfl|g
  ·have:=a.ib _ (Jf b);simp only[CT];show f.ib≤_;have q:f.ib≤f.data.length:=this;omega
  ·exact a.ib p g
 have hm:(Ac n (⟨f.data++s,f.ib⟩:jc) d.fa).length≤400:=by rw[Bg a.Db b];exact a.many
 have i:({d with fa:=Ac n ⟨f.data++s,f.ib⟩ d.fa}:ja).Wf:=⟨Oe a.Db _ _,a.cap,hu,k,a.left,hm,a.kept⟩;have l:d.append n s=if d.Pe then(61,({d with fa:=Ac n ⟨f.data++s,f.ib⟩ d.fa}:ja).sink)else(0,({d with fa:=Ac n ⟨f.data++s,f.ib⟩ d.fa}:ja).tick):=by unfold ja.append;rw[DT (by rw[c];simp),b];dsimp only;rw[DT (by unfold ja.free;omega)]
 rw[l];split
 ·rename_i e;exact .inr ⟨rfl,kq e,.inr ⟨{d with fa:=Ac n ⟨f.data++s,f.ib⟩ d.fa},rfl,rfl,rfl,i,uk i d.Ga⟩⟩
 ·exact .inl ⟨rfl,rfl,c,rfl,rfl,Bu a (Oe a.Db _ _) hu k hm,fun h=>h⟩
theorem iy{d:ja}(a:d.Wf)(e:d.down=false){n:Bs}{f:jc}(b:Na n d.fa=some f):qN d (Ac n ⟨f.data,f.data.length⟩ d.fa) (d.sync n):=by
 have i:=dg a.Db b;have j:=a.Ia;unfold ja.sync;rw[e,b,DT (by simp)];dsimp only;split
 ·rename_i g;exact .inr ⟨rfl,kq g,.inl (uk a _)⟩
 ·refine .inl ⟨rfl,rfl,e,rfl,rfl,Bu a (Oe a.Db _ _) ?_ ?_ ?_,fun h=>h⟩
  ·rw[eh a.Db];show f.data.length+_≤_;omega
  ·intro p c;rcases Fx a.Db c with rfl|c
   ·exact FT _
   ·exact a.ib p c
  ·rw[Bg a.Db b];exact a.many
theorem Nb(n:Bs)(fs:Hb):An.Ia (zb n fs)≤An.Ia fs:=by
 induction fs with
 |nil=>exact FT _
 |cons p r a=>unfold zb at a⊢;rw[IU];split<;>simp only[xy]<;>omega
theorem Ho{d:ja}(a:d.Wf)(b:d.down=false){n:Bs}{f:jc}(c:Na n d.fa=some f):qN d (zb n d.fa) (d.delete n):=by
 unfold ja.delete;rw[b,c,DT (by simp)];dsimp only;split
 ·rename_i e;exact .inr ⟨rfl,kq e,.inl (uk a _)⟩
 ·exact .inl ⟨rfl,rfl,b,rfl,rfl,Bu a (Me a.Db _) (KT (Nb _ _) a.Ia) (fun p g=>a.ib p (vU.1 g).1) (KT (DU _ _) a.many),fun h=>h⟩
theorem dk{fs:Hb}{a:Bs}{f:jc}(b:(fs.map (·.1)).Nodup)(h:Na a fs=some f):(zb a fs).length+1=fs.length:=by have:=(Wg b h).length_eq;simp only[UT]at this;exact this.symm
theorem Wx{d:ja}(c:d.Wf)(o:d.down=false){a b:Bs}{f:jc}(m:Na a d.fa=some f)(q:Lg b=true)(i:a≠b):qN d (Ac b f (zb a (zb b d.fa))) (d.rename a b):=by
 unfold ja.rename;rw[o,m,q,DT (by simp)];dsimp only;rw[DT (by simp),DT i];split
 ·rename_i r;exact .inr ⟨rfl,kq r,.inl (uk c _)⟩
 ·have j:=Me c.Db b;have g:=Me j a;have k:Na a (zb b d.fa)=some f:=by rw[Nc,DT i];exact m
  have l:Na b (zb a (zb b d.fa))=none:=by rw[Nc,DT (fun e=>i e.symm),Nc,JT rfl]
  have v:=dg j k;have w:=Nb b d.fa;have x:=c.Ia;have s:=dk (Pb j) k;have t:(zb b d.fa).length≤d.fa.length:=DU _ _;have u:=c.many;refine .inl ⟨rfl,rfl,o,rfl,rfl,Bu c (Oe g _ _) ?_ ?_ ?_,fun h=>h⟩
  ·rw[eh g,Ob l];omega
  ·intro p n;rcases Fx g n with rfl|n
   ·have:=c.ib _ (Jf m);exact this
   ·exact c.ib p (vU.1 (vU.1 n).1).1
  ·rw[(Oc g).length_eq,Ob l,UT];omega
end An
namespace An
open ja
abbrev Ma:=List (List Bs)
def Xa(a:List Bs):Nat:=12+(kg a).length
theorem Ze(n:Nat)(a:List Bs):(Lb n a).length=Xa a:=Il n a
def Ad(P:Ma):Nat:=match P.getLast? with
 |none=>0
 |some a=>(P.length-1)*4096+Xa a
def qt(a P:Ma):Prop:=a=[]∨∃A b j B,a=A++[b.take j]∧P=A++b::B
def Qk(P:Ma)(y:Nat)(b:Ma):Prop:=b=[]∨∃A a j B,b=A++[a.take j]∧P=A++a::B∧(B=[]→Xa (a.take j)≤y)
theorem Qk.pre{P a:Ma}{y:Nat}(h:Qk P y a):qt a P:=by
 rcases h with h|⟨A,d,j,B,b,c,_⟩
 ·exact .inl h
 ·exact .inr ⟨A,d,j,B,b,c⟩
theorem fk(a:List Bs)(j:Nat):Xa (a.take j)≤Xa a:=by
 unfold Xa;have:kg a=kg (a.take j)++kg (a.drop j):=by rw[←Ck,tU]
 rw[this,CT];omega
theorem qt.rz{P b:Ma}(h:qt b P){y:Nat}(f:∀a,P.getLast? =some a→Xa a≤y):Qk P y b:=by
 rcases h with h|⟨A,a,j,B,d,c⟩
 ·exact .inl h
 ·refine .inr ⟨A,a,j,B,d,c,fun e=> ?_⟩;subst e c;exact KT (fk a j) (f a (by simp))
theorem qt.refl(P:Ma):qt P P:=by
 rcases ud P with rfl|⟨A,a,rfl⟩
 ·exact .inl rfl
 ·exact .inr ⟨A,a,a.length,[],by simp,by simp⟩
theorem qt.flat{a P:Ma}(h:qt a P):a.flatten<+:P.flatten:=by
 rcases h with rfl|⟨A,b,j,B,rfl,rfl⟩
 ·simp
 ·refine⟨b.drop j++B.flatten,?_⟩;simp only[JX,oV,List.flatten_nil,EU,iU];rw[←iU (b.take j),tU]
structure Jc(fs:Hb)(P:Ma)(T:Bs)(H:Option Bs)(y:Nat):Prop where
 get:∀i,i≤999999→Na (Ca i) fs=if h:i<P.length then some (if i+1=P.length then⟨Lb i P[i]++T,y⟩else⟨Lb i P[i],Xa P[i]⟩)else if i=P.length then H.map fun h=>⟨h,h.length⟩else none
 lF:∀ps∈P,∀p∈ps,p.length≤2000
 size:∀ps∈P,Xa ps≤4096
 many:P.length+(if H.isSome then 1 else 0)≤200
 DS:zj T=none
 ES:T≠[]→∀ps,P.getLast? =some ps→y=Xa ps+T.length
 head:∀h,H=some h→h<+:Yb P.length∧h.length<12∧T=[]∧∀ps,P.getLast? =some ps→y=Xa ps
 VS:∀ps,P.getLast? =some ps→y≤Xa ps+T.length
theorem Jc.frame{fs a:Hb}{P:Ma}{T:Bs}{H:Option Bs}{y:Nat}(h:Jc fs P T H y)(b:∀i,i≤999999→Na (Ca i) a=Na (Ca i) fs):Jc a P T H y:={h with get:=fun i hi=>(b i hi).trans (h.get i hi)}
theorem Jc.sub{fs:Hb}{P:Ma}{T:Bs}{H:Option Bs}{y:Nat}(h:Jc fs P T H y):P.length≤200:=by have:=h.many;omega
theorem Oi:zj []=none:=Sm (by simp)
theorem Jc.sA{fs k:Hb}{P:Ma}{T:Bs}{H:Option Bs}{y:Nat}(h:Jc fs P T H y)(z:∀i,i≤999999→∃m,Na (Ca i) k=(Na (Ca i) fs).map (Lc · m)):∃e G F y',Jc k e G F y'∧qt e P∧(∀g,Qk P y g→qt g e)∧(∀a,e.getLast? =some a→Xa a≤y'):=by
 have f:(∀a,P.getLast? =some a→y=Xa a+T.length)→∃e G F y',Jc k e G F y'∧qt e P∧(∀g,Qk P y g→qt g e)∧(∀a,e.getLast? =some a→Xa a≤y'):=by
  intro W;refine⟨P,T,H,y,h.frame fun i hi=> ?_,qt.refl P,fun g w=>w.pre,fun a d=>by rw[W a d];omega⟩;obtain⟨m,hm⟩:=z i hi;rw[hm,h.get i hi];by_cases L:i<P.length
  ·rw[qW L];by_cases he:i+1=P.length
   ·rw[JT he];have C:P.getLast? =some P[i]:=by rw[sY,show P.length-1=i by omega,PT L]
    simp only[KU];rw[oe];show y=(Lb i P[i]++T).length;rw[W _ C,CT,Ze]
   ·rw[DT he];simp only[KU];rw[oe (by show Xa P[i]=(Lb i P[i]).length;rw[Ze])]
  ·rw[kW L];split
   ·cases H with
    |none=>rfl
    |some h=>simp only[KU];rw[oe rfl]
   ·rfl
 by_cases J:T=[];case neg=>exact f (h.ES J)
 cases Q:H with
 |some x=>exact f fun a d=>by have:=(h.head x Q).2.2.2 a d;subst J;simpa using this
 |none=>
  subst J Q;rcases ud P with rfl|⟨A,a,rfl⟩
  ·exact f (by simp)
  ·have hk:A.length<(A++[a]).length:=by simp
   have hm:=h.many;simp at hm;have K:=h.get A.length (by omega);rw[qW hk,JT (by simp)]at K;have hA:∀ (i:Nat) (hi:i<(A++[a]).length) (l:i<A.length),(A++[a])[i]=A[i]:=fun i hi l=>eW l;have U:(A++[a])[A.length]=a:=by simp
   rw[U,EU]at K;obtain⟨m,o⟩:=z A.length (by omega);rw[K]at o;simp only[KU]at o;have D:∀p∈a,p.length≤2000:=h.lF a (by simp);have X:=h.VS a (by simp);simp only[JU,lX]at X;generalize M:min (Lb A.length a).length (y+m)=n at*;have R:Lc ⟨Lb A.length a,y⟩ m=⟨(Lb A.length a).take n,n⟩:=by simp only[Lc,M]
   rw[R]at o;have a8:y≤n:=by rw[←M,Ze];omega
   have a7:n≤(Lb A.length a).length:=by rw[←M];omega
   have hold:∀i,i<A.length→Na (Ca i) k=some ⟨Lb i A[i]!,Xa A[i]!⟩:=by intro i hi;obtain⟨m2,u⟩:=z i (by omega);rw[u,h.get i (by omega),qW (by simp;omega),DT (by simp;omega),hA i (by simp;omega) hi];simp only[KU];rw[IZ A i hi,oe (by show Xa A[i]=(Lb i A[i]).length;rw[Ze])]
   have r:∀i,i≤999999→A.length<i→Na (Ca i) k=none:=by intro i hi l;obtain⟨m2,u⟩:=z i hi;rw[u,h.get i hi,kW (by simp;omega)];simp
   rcases lE A.length n D with⟨w,l,N⟩|⟨j,T,w,l,N,h4,h5⟩
   ·refine⟨A,[],some ((Lb A.length a).take n),(match A.getLast? with|none=>0|some x=>Xa x),⟨?_,fun x b=>h.lF x (by simp[b]),fun x b=>h.size x (by simp[b]),by simp;omega,Oi,by simp,?_,?_⟩,?_,?_,?_⟩
    ·intro i hi;rcases KY i A.length with c|rfl|c
     ·rw[qW c,hold i c,IZ A i c];split
      ·rename_i he;rw[sY,show A.length-1=i by omega,PT c];simp
      ·rfl
     ·rw[kW (VW _),JT rfl,o];simp only[KU];congr 2;rw[OT];omega
     ·rw[kW (by omega),DT (by omega),r i hi c]
    ·intro x b;cases b;exact⟨w,l,rfl,fun a d=>by rw[d]⟩
    ·intro a d;rw[d];simp
    ·rcases ud A with rfl|⟨s,qs,rfl⟩
     ·exact .inl rfl
     ·exact .inr ⟨s,qs,qs.length,[a],by simp,by simp⟩
    ·rintro g (c|⟨s,qs,j,B,c,q,I⟩)
     ·exact .inl c
     ·rcases ud B with rfl|⟨E,x,rfl⟩
      ·exfalso;obtain⟨rfl,t⟩:=gW q rfl;cases t;have:=I rfl;unfold Xa at this;omega
      ·refine .inr ⟨s,qs,j,E,c,?_⟩;rw[←TU,←iU]at q;exact(gW q rfl).1
    ·intro a d;rw[d];exact FT _
   ·have S:n=Xa (a.take j)+T.length:=by have:=eU List.length l;rw[CT,Ze,OT]at this;omega
    refine⟨A++[a.take j],T,none,n,⟨?_,?_,?_,by simp;omega,N,?_,by simp,?_⟩,?_,?_,?_⟩
    ·intro i hi;rcases KY i A.length with c|rfl|c
     ·rw[qW (by simp;omega),DT (by simp;omega),eW c,hold i c,IZ A i c]
     ·rw[qW (by simp),JT (by simp),o,l];simp
     ·rw[kW (by simp;omega),r i hi c];simp
    ·intro x b;rcases oU.1 b with b|b
     ·exact h.lF x (by simp[b])
     ·simp at b;subst b;exact fun p d=>D p (VV d)
    ·intro x b;rcases oU.1 b with b|b
     ·exact h.size x (by simp[b])
     ·simp at b;subst b;exact KT (fk _ _) (h.size a (by simp))
    ·intro _ x b;simp at b;subst b;exact S
    ·intro x b;simp at b;subst b;omega
    ·exact .inr ⟨A,a,j,[],rfl,rfl⟩
    ·rintro g (c|⟨s,qs,v,B,c,q,I⟩)
     ·exact .inl c
     ·rcases ud B with rfl|⟨E,x,rfl⟩
      ·obtain⟨rfl,t⟩:=gW q rfl;cases t;have a1:=I rfl;have a6:min v a.length≤j:=by
        refine h5 _ (dX _ _) ?_;rw[Ze];have:a.take (min v a.length)=a.take v:=by rw[eY];omega
        rw[this];omega
       refine .inr ⟨A,a.take j,v,[],?_,rfl⟩;rw[c,QV];congr 2;rw[eY];omega
      ·refine .inr ⟨s,qs,v,E++[a.take j],c,?_⟩;rw[←TU,←iU]at q;obtain⟨t,_⟩:=gW q rfl;rw[t];simp
    ·intro x b;simp at b;subst b;omega
theorem Jc.Ve{fs b:Hb}{P:Ma}{T:Bs}{H:Option Bs}{y:Nat}(h:Jc fs P T H y)(g:∀n,∃m,Na n b=(Na n fs).map (Lc · m)):∃a f e y',Jc b a f e y'∧qt a P∧(∀c,Qk P y c→qt c a)∧(∀d,a.getLast? =some d→Xa d≤y'):=h.sA fun i _=>g (Ca i)
end An
namespace An
def vd:Nat→Ma→List (Nat×Bs)
 |_,[]=> []
 |i,a::r=>(Cc (i*4096+12) a).zip a++vd (i+1) r
def ab(P:Ma):List (Nat×Bs):=vd 0 P
theorem Gi:∀ (A B:Ma) (i:Nat),vd i (A++B)=vd i A++vd (i+A.length) B
 |[],B,i=>by simp[vd]
 |a::A,B,i=>by simp only[TU,vd,Gi A B (i+1),iU,UT];rw[show i+1+A.length=i+(A.length+1) by omega]
theorem Yz:∀ (b qs:List Bs) (a:Nat),Cc a (b++qs)=Cc a b++Cc (a+(kg b).length) qs
 |[],qs,a=>by simp[Cc,pj]
 |p::r,qs,a=>by simp only[TU,Cc,Yz r qs];rw[pd,CT,Ce,show a+p.length+12+(kg r).length=a+(p.length+12+(kg r).length) by omega]
theorem xH(b qs:List Bs)(a:Nat):(Cc a (b++qs)).zip (b++qs)=(Cc a b).zip b++(Cc (a+(kg b).length) qs).zip qs:=by rw[Yz,List.zip_append (qf b a)]
theorem Xg:∀ (b:List Bs) (a:Nat) (q:Nat×Bs),q∈(Cc a b).zip b→a≤q.1∧q.1+q.2.length+12≤a+(kg b).length
 |[],a,q,h=>by simp[Cc]at h
 |p::r,a,q,h=>by
  simp only[Cc,jX,dU]at h;rw[pd,CT,Ce];rcases h with rfl|h
  ·simp only;omega
  ·have:=Xg r _ q h;omega
theorem jA:∀ (b:List Bs) (a:Nat),((Cc a b).zip b).Pairwise fun x y=>x.1<y.1
 |[],a=>by simp[Cc]
 |p::r,a=>by simp only[Cc,jX,xU];refine⟨fun q c=> ?_,jA r _⟩;have:=(Xg r _ q c).1;show a<q.1;omega
theorem yf:∀ (P:Ma) (i:Nat),(∀a∈P,Xa a≤4096)→∀q∈vd i P,i*4096≤q.1∧q.1+q.2.length+12≤(i+P.length)*4096
 |[],i,_,q,h=>by cases h
 |a::r,i,d,q,h=>by
  simp only[vd,oU]at h;rcases h with h|h
  ·have c:=Xg a _ q h;have b:=d a (.head _);unfold Xa at b;simp only[UT];constructor<;>omega
  ·obtain⟨c,b⟩:=yf r (i+1) (fun x f=>d x (.tail _ f)) q h;simp only[UT];refine⟨KT (mV _ (fV i)) c,?_⟩;have e:(i+1+r.length)*4096=(i+(r.length+1))*4096:=by rw[RY,fY 1]
   rw[←e];exact b
theorem mu:∀ (P:Ma) (i:Nat),(∀b∈P,Xa b≤4096)→(vd i P).Pairwise fun x y=>x.1<y.1
 |[],i,_=> .nil
 |b::r,i,c=>by rw[vd,PW];refine⟨jA _ _,mu r (i+1) (fun x a=>c x (.tail _ a)),fun x a y e=> ?_⟩;have f:=Xg b _ x a;have d:=c b (.head _);have g:=yf r (i+1) (fun x a=>c x (.tail _ a)) y e;unfold Xa at d;omega
theorem lB{P:Ma}(a:∀b∈P,Xa b≤4096):(ab P).Pairwise fun x y=>x.1<y.1:=mu P 0 a
theorem fy:∀ (P:Ma) (i:Nat),(vd i P).map (·.2)=P.flatten
 |[],_=>rfl
 |a::r,i=>by rw[vd,tV,fy r,oV];congr 1;exact List.map_snd_zip (by rw[qf];exact FT _)
theorem Px(P:Ma):(ab P).map (·.2)=P.flatten:=fy P 0
theorem Lh(A:Ma)(a:List Bs):Ad (A++[a])=A.length*4096+Xa a:=by simp[Ad]
theorem ZN{P:Ma}(b:∀a∈P,Xa a≤4096):Ad P≤P.length*4096:=by
 rcases ud P with rfl|⟨A,a,rfl⟩
 ·simp[Ad]
 ·rw[Lh];have:=b a (by simp);simp only[CT,UT,JU];omega
theorem qt.split{c P:Ma}(h:qt c P)(d:∀a∈P,Xa a≤4096):∃r,ab P=ab c++r∧(∀q∈ab c,q.1<Ad c)∧(∀q∈r,Ad c≤q.1)∧Ad c≤Ad P:=by
 rcases h with rfl|⟨A,a,j,B,rfl,rfl⟩
 ·exact⟨ab P,by simp[ab,vd],fun q b=>by simp[ab,vd]at b,fun _ _=>WT _,WT _⟩
 ·have k:ab (A++a::B)=vd 0 A++((Cc (A.length*4096+12) a).zip a++vd (A.length+1) B):=by unfold ab;rw[Gi,vd,BU]
  have g:ab (A++[a.take j])=vd 0 A++(Cc (A.length*4096+12) (a.take j)).zip (a.take j):=by unfold ab;rw[Gi,vd,BU];simp[vd]
  have n:a=a.take j++a.drop j:=(tU j a).symm;have i:=xH (a.take j) (a.drop j) (A.length*4096+12);rw[←n]at i;refine⟨(Cc (A.length*4096+12+(kg (a.take j)).length) (a.drop j)).zip (a.drop j)++vd (A.length+1) B,?_,?_,?_,?_⟩
  ·rw[k,g,i];simp[iU]
  ·intro q b;rw[g,oU]at b;rw[Lh];rcases b with b|b
   ·have:=yf A 0 (fun x e=>d x (by simp[e])) q b;unfold Xa;omega
   ·have:=Xg _ _ q b;unfold Xa;omega
  ·intro q b;rw[Lh];rcases oU.1 b with b|b
   ·have:=Xg _ _ q b;unfold Xa;omega
   ·have:=yf B (A.length+1) (fun x e=>d x (by simp[e])) q b;have l:=fk a j;have m:=d a (by simp);omega
  ·rw[Lh];have l:=fk a j;rcases ud B with rfl|⟨f,x,rfl⟩
   ·rw[Lh];omega
   ·rw[show A++a::(f++[x])=(A++a::f)++[x] by simp,Lh];have m:=d a (by simp);simp only[CT,UT];omega
def Kl(da:Nat)(q:Nat×Bs):List qa:=match Gs q.2 with
 |none=> []
 |some b=>(List.range b.vc.length).map fun i=>⟨Qa da b.stream,b.first+i,q.1⟩
def ld(da:Nat)(l:List (Nat×Bs)):List qa:=l.flatMap (Kl da)
theorem Rn(da:Nat)(a b:List (Nat×Bs)):ld da (a++b)=ld da a++ld da b:=by simp[ld]
theorem XH{da:Nat}{l:List (Nat×Bs)}{e:qa}:e∈ld da l↔∃q∈l,e∈Kl da q:=by simp[ld]
def ah(P:Ma):List Bs:=P.getLast?.getD []
def Gp(P:Ma)(p:Bs):Bool:= !P.isEmpty&&fits (Xa (ah P)) p
def zk(P:Ma)(p:Bs):Ma:=if Gp P p then P.dropLast++[ah P++[p]]else P++[[p]]
def Vi(P:Ma)(p:Bs):Nat:=if Gp P p then Ad P else P.length*4096+12
theorem lI(P:Ma)(p:Bs):(zk P p).flatten=P.flatten++[p]:=by
 unfold zk;split
 ·rename_i h;unfold Gp at h;rcases ud P with rfl|⟨A,a,rfl⟩
  ·simp at h
  ·simp[ah]
 ·simp
theorem EC(P:Ma)(p:Bs):ab (zk P p)=ab P++[(Vi P p,p)]:=by
 unfold zk Vi;split
 ·rename_i h;unfold Gp at h;rcases ud P with rfl|⟨A,a,rfl⟩
  ·simp at h
  ·unfold ab;have b:(A++[a]).dropLast=A:=by simp
   have c:ah (A++[a])=a:=by simp[ah]
   rw[b,c,Gi,Gi,Lh];simp only[vd,BU,EU,iU];rw[xH];simp only[Cc,jX,List.zip_nil_right,iU];rw[show A.length*4096+12+(kg a).length=A.length*4096+Xa a by unfold Xa;omega]
 ·unfold ab;rw[Gi];simp[vd,Cc]
theorem Is(a:List Bs)(p:Bs):Xa (a++[p])=Xa a+(p.length+12):=by unfold Xa;rw[Ck,CT,pd,pj,EU,Ce];omega
theorem FC(P:Ma)(p:Bs):qt P (zk P p):=by
 unfold zk;rcases ud P with rfl|⟨A,a,rfl⟩
 ·exact .inl rfl
 ·split
  ·exact .inr ⟨A,a++[p],a.length,[],by simp,by simp[ah]⟩
  ·exact .inr ⟨A,a,a.length,[[p]],by simp,by simp⟩
end An
namespace An
def Ja(bs:List Za):List yc:=bs.flatMap Kf
def Qf(st:Bs)(l:List yc):List yc:=l.filter fun t=>decide (t.stream=st)
theorem Mq(a b:List Za):Ja (a++b)=Ja a++Ja b:=by simp[Ja]
theorem Bw(st:Bs)(a b:List yc):Qf st (a++b)=Qf st a++Qf st b:=by simp[Qf]
theorem bk(b:Za):(Kf b).length=b.vc.length:=by simp[Kf]
theorem wo{b:Za}{t:yc}:t∈Kf b↔∃i,∃h:i<b.vc.length,t=⟨b.stream,b.first+i,b.vc[i]⟩:=by
 unfold Kf;rw[nU];constructor
 ·rintro⟨⟨e,i⟩,h,rfl⟩;obtain⟨a,c⟩:=List.mem_zipIdx' h;exact⟨i,a,by rw[c]⟩
 ·rintro⟨i,h,rfl⟩;exact⟨(b.vc[i],i),List.mem_zipIdx_iff_getElem?.2 (by simp[h]),rfl⟩
theorem zu{b:Za}{t:yc}(h:t∈Kf b):t.stream=b.stream:=by obtain⟨i,h,rfl⟩:=wo.1 h;rfl
theorem Jz(st:Bs)(b:Za):Qf st (Kf b)=if b.stream=st then Kf b else []:=by
 unfold Qf;split
 ·rename_i h;exact wV.2 fun t a=>by simp[zu a,h]
 ·rename_i h;exact WU.2 fun t a=>by simp[zu a,h]
theorem Jp(f:Nat):∀n k,(List.range' k n).map (f+ ·)=List.range' (f+k) n
 |0,_=>rfl
 |n+1,k=>by rw[SY,qU,Jp f n (k+1),SY];rfl
theorem GF(b:Za):(Kf b).map (·.Qb)=List.range' b.first b.vc.length:=by
 unfold Kf;rw[CX];show b.vc.zipIdx.map (fun p=>b.first+p.2)=_;have h:=List.zipIdx_map_snd 0 b.vc;have:b.vc.zipIdx.map (fun p=>b.first+p.2)=(b.vc.zipIdx.map Prod.snd).map (b.first+ ·):=by rw[CX];rfl
 rw[this,h,Jp];rfl
def nh(bs:List Za):Prop:=∀A b B,bs=A++b::B→b.first=(Qf b.stream (Ja A)).length
theorem nh.front{a b:List Za}(h:nh (a++b)):nh a:=fun A x B e=>h A x (B++b) (by rw[e];simp)
theorem nh.nil:nh []:=fun A b B e=>by simp at e
theorem nh.snoc{a:List Za}{b:Za}(h:nh a)(g:b.first=(Qf b.stream (Ja a)).length):nh (a++[b]):=by
 intro A x B e;rcases bY B with rfl|⟨c,y,rfl⟩
 ·obtain⟨rfl,f⟩:=gW e rfl;cases f;exact g
 ·rw[aY,←TU,←iU]at e;obtain⟨d,_⟩:=gW e rfl;exact h A x c d
theorem nh.pre{a b:List Za}(h:nh b)(c:a<+:b):nh a:=by obtain⟨t,rfl⟩:=c;exact h.front
theorem nh.ER{bs:List Za}(h:nh bs)(st:Bs):(Qf st (Ja bs)).map (·.Qb)=List.range (Qf st (Ja bs)).length:=by
 have key:∀n (bs:List Za),bs.length=n→nh bs→(Qf st (Ja bs)).map (·.Qb)=List.range (Qf st (Ja bs)).length:=by
  intro n;induction n with
  |zero=>intro bs a _;rw[uU a];rfl
  |succ n i=>
   intro bs a c;rcases bY bs with rfl|⟨A,b,rfl⟩
   ·simp at a
   ·rw[aY]at*;have f:=i A (by simpa using a) c.front;have g:=c A b [] rfl;have e:Ja (A++[b])=Ja A++Kf b:=by simp[Ja]
    rw[e,Bw,tV,f,Jz,CT];split
    ·rename_i d;subst d;rw[GF,bk,g,gZ,gZ];have:=List.range'_append (s:=0) (m:=(Qf b.stream (Ja A)).length) (n:=b.vc.length) (step:=1);simpa using this
    ·simp
 exact key _ bs rfl h
theorem nh.MF{bs:List Za}(h:nh bs)(st:Bs)(i:Nat)(hi:i<(Qf st (Ja bs)).length):(Qf st (Ja bs))[i].Qb=i:=by have:=eU (fun l=>l[i]?) (h.ER st);simp only[VX,PT hi,KU,List.getElem?_range hi]at this;exact VU this
theorem Rm{st:Bs}{l:List yc}{t:yc}:t∈Qf st l↔t∈l∧t.stream=st:=by simp[Qf]
theorem nh.Db{bs:List Za}(h:nh bs)(st:Bs):(Qf st (Ja bs)).Pairwise fun a b=>a.Qb<b.Qb:=by
 have c:((Qf st (Ja bs)).map (·.Qb)).Pairwise (· < ·):=by rw[h.ER];exact List.pairwise_lt_range
 exact yV.1 c
def Ff(bs:List Za)(st:Bs)(l:List Ev):Za:=⟨st,(Qf st (Ja bs)).length,l⟩
theorem nh.next{bs:List Za}(h:nh bs)(st:Bs)(l:List Ev):nh (bs++[Ff bs st l]):=h.snoc rfl
structure Holds(P:Ma)(bs:List Za):Prop where
 flat:P.flatten=bs.map Sa
 ok:∀b∈bs,ow b
theorem Holds.lF{P:Ma}{bs:List Za}(h:Holds P bs):∀a∈P,∀p∈a,p.length≤2000:=by intro a c p d;have:p∈P.flatten:=FV.2 ⟨a,c,d⟩;rw[h.flat]at this;obtain⟨b,hb,rfl⟩:=nU.1 this;exact Ej (h.ok b hb)
theorem Holds.put{P:Ma}{bs:List Za}(h:Holds P bs){b:Za}(c:ow b):Holds (zk P (Sa b)) (bs++[b]):=⟨by rw[lI,h.flat];simp,fun x a=>by
  rcases oU.1 a with a|a
  ·exact h.ok x a
  ·simp at a;subst a;exact c⟩
theorem EO{bs:List Za}{l:List Bs}(h:l<+:bs.map Sa):l=(bs.take l.length).map Sa:=by
 obtain⟨t,h⟩:=h;have:=eU (List.take l.length) h;rw[PX,←NX]at this
 ·exact this
 ·rfl
theorem Holds.pre{P a:Ma}{bs:List Za}(h:Holds P bs)(c:qt a P):Holds a (bs.take a.flatten.length):=⟨EO (by rw[←h.flat];exact c.flat),fun b hb=>h.ok b (VV hb)⟩
theorem Holds.len{P:Ma}{bs:List Za}(h:Holds P bs):P.flatten.length=bs.length:=by rw[h.flat,zU]
theorem Holds.ab{P:Ma}{bs:List Za}(h:Holds P bs):(ab P).length=bs.length:=by have:=eU List.length (Px P);rw[zU]at this;rw[this,h.len]
theorem Holds.at{P:Ma}{bs:List Za}(h:Holds P bs){k:Nat}(a:k<bs.length):((An.ab P)[k]'(by rw[h.ab];exact a)).2=Sa bs[k]:=by
 have b:((An.ab P).map (·.2))[k]? =some (Sa bs[k]):=by rw[Px,h.flat];simp[a]
 rw[VX,PT (by rw[h.ab];exact a)]at b;exact VU b
theorem sh{da pos:Nat}{b:Za}(h:ow b):Kl da (pos,Sa b)=(List.range b.vc.length).map fun i=>⟨Qa da b.stream,b.first+i,pos⟩:=by unfold Kl;rw[Hl h]
theorem Holds.BQ{P:Ma}{bs:List Za}(h:Holds P bs){da:Nat}{e:qa}:e∈ld da (An.ab P)↔∃k,∃b:k<bs.length,∃i,i<bs[k].vc.length∧e=⟨Qa da bs[k].stream,bs[k].first+i,((An.ab P)[k]'(by rw[h.ab];exact b)).1⟩:=by
 rw[XH];constructor
 ·rintro⟨q,d,he⟩;obtain⟨k,b,rfl⟩:=dV d;have a:k<bs.length:=by rw[←h.ab];exact b
  refine⟨k,a,?_⟩;have c:(An.ab P)[k]=((An.ab P)[k].1,Sa bs[k]):=sZ rfl (h.at a);rw[c,sh (h.ok _ (XT a)),nU]at he;obtain⟨i,hi,rfl⟩:=he;exact⟨i,GW.1 hi,rfl⟩
 ·rintro⟨k,b,i,hi,rfl⟩;have a:k<(An.ab P).length:=by rw[h.ab];exact b
  refine⟨_,XT a,?_⟩;have c:(An.ab P)[k]=((An.ab P)[k].1,Sa bs[k]):=sZ rfl (h.at b);rw[c,sh (h.ok _ (XT b)),nU];exact⟨i,GW.2 hi,rfl⟩
def recAt(P:Ma)(pos:Nat):Option Bs:=((ab P).find? fun q=>decide (q.1=pos)).map (·.2)
def pick(b:Za)(st:Bs)(v:Nat):Option yc:=if b.stream=st∧b.first≤v then(b.vc[v-b.first]?).map fun e=>⟨st,v,e⟩else none
def found(P:Ma)(st:Bs)(e:qa):Option yc:=match recAt P e.pos with
 |none=>none
 |some p=>match Gs p with
  |none=>none
  |some b=>pick b st e.Qb
theorem zE{l:List (Nat×Bs)}(h:l.Pairwise fun x y=>x.1<y.1){q:Nat×Bs}(b:q∈l):l.find? (fun x=>decide (x.1=q.1))=some q:=by
 induction l with
 |nil=>cases b
 |cons a r d=>
  rw[xU]at h;rw[oW];rcases dU.1 b with rfl|b
  ·simp
  ·have:=h.1 q b;have c:decide (a.1=q.1)=false:=yU (by omega);rw[c];exact d h.2 b
theorem VI{P:Ma}(b:∀c∈P,Xa c≤4096){q:Nat×Bs}(a:q∈ab P):recAt P q.1=some q.2:=by unfold recAt;rw[zE (lB b) a];rfl
theorem Holds.recAt{P:Ma}{bs:List Za}(h:Holds P bs)(b:∀c∈P,Xa c≤4096){k:Nat}(a:k<bs.length):An.recAt P ((An.ab P)[k]'(by rw[h.ab];exact a)).1=some (Sa bs[k]):=by rw[VI b (XT _),h.at a]
theorem Holds.found{P:Ma}{bs:List Za}(h:Holds P bs)(b:∀c∈P,Xa c≤4096){k:Nat}(a:k<bs.length)(st:Bs){hh i:Nat}(hi:i<bs[k].vc.length):An.found P st ⟨hh,bs[k].first+i,((An.ab P)[k]'(by rw[h.ab];exact a)).1⟩=if bs[k].stream=st then some ⟨st,bs[k].first+i,bs[k].vc[i]⟩else none:=by
 unfold An.found;dsimp only;rw[h.recAt b a];dsimp only;rw[Hl (h.ok _ (XT a))];dsimp only;unfold pick;by_cases e:bs[k].stream=st
 ·rw[JT ⟨e,by omega⟩,JT e,show bs[k].first+i-bs[k].first=i by omega,PT hi];rfl
 ·rw[DT (fun h=>e h.1),DT e]
theorem Hm{a b:qa}:de a b=true↔a.Qa<b.Qa∨a.Qa=b.Qa∧(a.Qb<b.Qb∨a.Qb=b.Qb∧a.pos<b.pos):=by simp[de]
theorem Lj{a b c:qa}(h:de a b=true)(k:de b c=true):de a c=true:=by rw[Hm]at*;omega
theorem uc:∀ {l:List qa},ub l=true↔l.Pairwise fun a b=>de a b=true
 |[]=>by simp[ub]
 |[a]=>by simp[ub]
 |a::b::r=>by
  rw[show ub (a::b::r)=(de a b&&ub (b::r)) from rfl,xU,←uc (l:=b::r),aU];constructor
  ·rintro⟨c,d⟩;refine⟨fun x e=> ?_,d⟩;rcases dU.1 e with rfl|e
   ·exact c
   ·exact Lj c ((xU.1 (uc.1 d)).1 x e)
  ·rintro⟨c,d⟩;exact⟨c b (.head _),d⟩
theorem Hv{α:Type}(c:α→Nat){a b:List α}(d:a.Pairwise fun x y=>c x<c y)(f:b.Pairwise fun x y=>c x<c y)(h:∀x,x∈a↔x∈b):a=b:=by
 have nd:∀ {l:List α},(l.Pairwise fun x y=>c x<c y)→l.Nodup:=fun h=>h.imp fun {x y} h e=>by rw[e]at h;exact VW _ h
 refine List.Perm.eq_of_pairwise (le:=fun x y=>c x<c y) ?_ d f ((oY (nd d) (nd f)).2 h);intro x y _ _ g i;omega
theorem vu{bs:List Za}{t:yc}:t∈Ja bs↔∃k,∃a:k<bs.length,∃i,∃hi:i<bs[k].vc.length,t=⟨bs[k].stream,bs[k].first+i,bs[k].vc[i]⟩:=by
 unfold Ja;rw[cX];constructor
 ·rintro⟨b,hb,c⟩;obtain⟨k,a,rfl⟩:=dV hb;obtain⟨i,hi,rfl⟩:=wo.1 c;exact⟨k,a,i,hi,rfl⟩
 ·rintro⟨k,a,i,hi,rfl⟩;exact⟨_,XT a,wo.2 ⟨i,hi,rfl⟩⟩
theorem nh.one{bs:List Za}(h:nh bs){k j:Nat}(b:k<bs.length)(c:j<bs.length)(d:bs[k].stream=bs[j].stream){i l:Nat}(hi:i<bs[k].vc.length)(o:l<bs[j].vc.length)(e:bs[k].first+i=bs[j].first+l):k=j:=by
 have main:∀ {k j:Nat} (b:k<bs.length) (c:j<bs.length),bs[k].stream=bs[j].stream→∀ {i l:Nat},i<bs[k].vc.length→bs[k].first+i=bs[j].first+l→k<j→False:=by
  intro k j b c d i l hi e p;have a:=h (bs.take j) bs[j] (bs.drop (j+1)) (by rw[←FU c,tU]);have m:=h (bs.take k) bs[k] (bs.drop (k+1)) (by rw[←FU b,tU]);have n:bs.take j=bs.take k++(bs[k]::(bs.drop (k+1)).take (j-k-1)):=by
   have g:bs=bs.take k++(bs[k]::bs.drop (k+1)):=by rw[←FU b,tU]
   have f:=eU (List.take j) g;rw[TY,OT,QU (by omega),YT (l:=bs.take k) (by rw[OT];omega),show j-k=(j-k-1)+1 by omega,yW]at f;exact f
  have q:(Qf bs[j].stream (Ja (bs.take j))).length≥(Qf bs[j].stream (Ja (bs.take k))).length+bs[k].vc.length:=by
   rw[n,Mq,Bw,CT];have:Ja (bs[k]::(bs.drop (k+1)).take (j-k-1))=Kf bs[k]++Ja ((bs.drop (k+1)).take (j-k-1)):=by simp[Ja]
   rw[this,Bw,Jz,JT d,CT,bk];omega
  rw[d]at m;omega
 rcases KY k j with a|a|a
 ·exact(main b c d hi e a).elim
 ·exact a
 ·exact(main c b d.symm o e.symm a).elim
theorem TB{P:Ma}{bs:List Za}(h:Holds P bs)(m:∀J∈P,Xa J≤4096)(D:nh bs){da:Nat}{st:Bs}{from' to':Int}{E:List qa}(G:ub E=true) (g:∀e,e∈E↔e∈ld da (ab P)∧e.Qa=Qa da st∧from'≤(e.Qb:Int)∧(e.Qb:Int)≤to'):E.filterMap (found P st)=(Qf st (Ja bs)).filter fun t=>decide (from'≤(t.Qb:Int)∧(t.Qb:Int)≤to'):=by
 have s:=uc.1 G;refine Hv (·.Qb) ?_ ((D.Db st).filter _) ?_
 ·rw[List.pairwise_filterMap];refine s.imp_of_mem ?_;intro a b H hb o t1 d t2 c;obtain⟨u,v,_,_⟩:=(g a).1 H;obtain⟨w,x,_,_⟩:=(g b).1 hb;obtain⟨k,f,i,hi,rfl⟩:=h.BQ.1 u;obtain⟨j,B,l,C,rfl⟩:=h.BQ.1 w;rw[h.found m f st hi]at d;rw[h.found m B st C]at c;split at d
  ·rename_i r;split at c
   ·rename_i F;cases d;cases c;show bs[k].first+i<bs[j].first+l;rw[Hm]at o;dsimp only at o v x;by_cases I:bs[k].first+i=bs[j].first+l
    ·have:=D.one f B (r.trans F.symm) hi C I;subst this;omega
    ·omega
   ·cases c
  ·cases d
 ·intro t;rw[List.mem_filterMap,vU,Rm,bU];constructor
  ·rintro⟨e,he,n⟩;obtain⟨y,K,z,A⟩:=(g e).1 he;obtain⟨k,f,i,hi,rfl⟩:=h.BQ.1 y;rw[h.found m f st hi]at n;split at n
   ·rename_i r;cases n;exact⟨⟨vu.2 ⟨k,f,i,hi,by rw[r]⟩,rfl⟩,z,A⟩
   ·cases n
  ·rintro⟨⟨d,c⟩,p,q⟩;obtain⟨k,f,i,hi,rfl⟩:=vu.1 d;dsimp only at c p q;refine⟨⟨Qa da bs[k].stream,bs[k].first+i,((ab P)[k]'(by rw[h.ab];exact f)).1⟩,(g _).2 ⟨h.BQ.2 ⟨k,f,i,hi,rfl⟩,by rw[c],p,q⟩,?_⟩;rw[h.found m f st hi,JT c,c]
theorem Sz{a:List Bs}(h:Xa a≤4096):a.length≤341:=by have:=Xv a;unfold Xa at h;omega
theorem ar:∀ {P:Ma},(∀a∈P,Xa a≤4096)→P.flatten.length≤341*P.length
 |[],_=>by simp
 |a::r,h=>by have c:=Sz (h a (.head _));have d:=ar (P:=r) fun x b=>h x (.tail _ b);simp only[oV,CT,UT];omega
theorem gx{da:Nat}{P:Ma}{bs:List Za}(h:Holds P bs):(ld da (ab P)).length≤8*bs.length:=by
 have f:∀l:List (Nat×Bs),(∀q∈l,(Kl da q).length≤8)→(ld da l).length≤8*l.length:=by
  intro l;induction l with
  |nil=>intro _;simp[ld]
  |cons a r j=>intro e;have m:=j fun q c=>e q (.tail _ c);have n:=e a (.head _);unfold ld at*;simp only[AU,CT,UT];omega
 rw[←h.ab];refine f _ fun q c=> ?_;obtain⟨k,i,rfl⟩:=dV c;have b:k<bs.length:=by rw[←h.ab];exact i
 have g:(ab P)[k]=((ab P)[k].1,Sa bs[k]):=sZ rfl (h.at b);have d:=h.ok _ (XT b);rw[g,sh d,zU,YX];exact(Hd d.check).2.2.2.1
theorem yp{l:List qa}(h:ub l=true):l.Nodup:=(uc.1 h).imp fun {a b} h e=>by subst e;rw[Hm]at h;omega
theorem Cq{α:Type}:∀ {l m:List α},l.Nodup→(∀x∈l,x∈m)→l.length≤m.length
 |[],_,_,_=>WT _
 |a::l,m,h,hm=>by
  obtain⟨s,t,rfl⟩:=List.append_of_mem (hm a (.head _));rw[DV]at h;have:=Cq (l:=l) (m:=s++t) h.2 fun x d=>by
   have b:=hm x (.tail _ d);have c:x≠a:=fun e=>h.1 (e▸d);simp only[oU,dU]at b⊢;rcases b with b|b|b
   ·exact .inl b
   ·exact absurd b c
   ·exact .inr b
  simp only[CT,UT]at this⊢;omega
theorem DH(b:Za):12*b.vc.length≤(Sa b).length:=by
 have:∀l:List Ev,12*l.length≤(l.flatMap Xc).length:=by
  intro l;induction l with
  |nil=>simp
  |cons e r a=>rw[AU,CT,UT,iq];omega
 have:=this b.vc;unfold Sa;simp only[CT];omega
theorem vz{da:Nat}:∀ (b:List Bs) (a:Nat),(∀q:Nat×Bs,q.2∈b→12*(Kl da q).length≤q.2.length)→12*(ld da ((Cc a b).zip b)).length≤(kg b).length
 |[],a,_=>by simp[Cc,ld]
 |p::r,a,h=>by have e:=vz r (a+p.length+12) fun q d=>h q (.tail _ d);have c:=h (a,p) (.head _);simp only[Cc,jX];unfold ld at*;rw[AU,CT,pd,CT,Ce];dsimp only at c;omega
theorem Gv{da:Nat}:∀ (P:Ma) (i:Nat),(∀a∈P,Xa a≤4096)→(∀q:Nat×Bs,q.2∈P.flatten→12*(Kl da q).length≤q.2.length)→12*(ld da (vd i P)).length≤4096*P.length
 |[],i,_,_=>by simp[vd,ld]
 |a::r,i,c,h=>by have f:=Gv r (i+1) (fun x e=>c x (.tail _ e)) fun q b=>h q (by rw[oV];exact bZ _ b);have g:=vz (da:=da) a (i*4096+12) fun q b=>h q (by rw[oV];exact xX _ b);have d:=c a (.head _);unfold Xa at d;rw[vd,Rn,CT,UT];omega
theorem Ll{da:Nat}{P:Ma}{bs:List Za}(h:Holds P bs)(g:∀i∈P,Xa i≤4096)(k:P.length≤200){l:List qa}(d:ub l=true)(f:∀e∈l,e∈ld da (ab P)):l.length≤70000:=by
 have c:=Cq (yp d) f;have j:=Gv (da:=da) P 0 g fun q a=>by rw[h.flat]at a;obtain⟨b,hb,a⟩:=nU.1 a;have e:q=(q.1,Sa b):=sZ rfl a.symm;rw[e,sh (h.ok b hb),zU,YX];exact DH b
 unfold ab at c;omega
theorem br(da:Nat)(s:Bs)(e:da<18446744073709551616):Qa da s<18446744073709551616:=by
 unfold Qa;split
 ·omega
 ·unfold gI;have f:∀a b,hmul a b<18446744073709551616:=fun a b=>kY _ (by omega);have d:=f ((s.foldl (fun h c=>hmul (h^^^c.toNat) 1099511628211) (14695981039346656037^^^da))^^^((s.foldl (fun h c=>hmul (h^^^c.toNat) 1099511628211) (14695981039346656037^^^da))/4294967296)) 11400714819323198485;dsimp only;exact mX (n:=64) d (WV (vY _ _) d)
theorem Jt{da:Nat}(a:da<18446744073709551616){P:Ma}{bs:List Za}(h:Holds P bs)(g:∀j∈P,Xa j≤4096)(o:P.length≤200){e:qa}(f:e∈ld da (ab P)):Iy e∧e.Qb<1073741824∧e.pos<819200:=by
 obtain⟨k,b,i,hi,rfl⟩:=h.BQ.1 f;have n:=(Hd (h.ok _ (XT b)).check).2.2.2.2.1;have c:=(yf P 0 g _ (XT (l:=ab P) (by rw[h.ab];exact b))).2;have m:k<(ab P).length:=by rw[h.ab];exact b
 have d:(ab P)[k].1<819200:=by
  have:(0+P.length)*4096≤819200:=by omega
  unfold ab at c⊢;omega
 refine⟨⟨br _ _ a,?_,?_⟩,?_,d⟩
 ·show bs[k].first+i<_;omega
 ·show(ab P)[k].1<_;omega
 ·show bs[k].first+i<_;omega
end An
end Go.Proofs.YteacbkflfafefaaGreatDoor
