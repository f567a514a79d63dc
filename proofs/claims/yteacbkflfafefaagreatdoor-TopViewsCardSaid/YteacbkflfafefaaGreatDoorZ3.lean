/- Part 4 of 50 of the proof that TopViews returns true at every input: lemmas on the way; no condition. -/
import Derived.Test.YteacbkflfafefaaGreatDoorZ0
namespace Go.Proofs.YteacbkflfafefaaGreatDoor
set_option linter.all false
section
open Go.RowKit
abbrev Bs:=List UInt8
def mk(l:Bs):ByteArray:=⟨l.toArray⟩
@[simp,go_sem] theorem mk_data(l:Bs):(mk l).data=l.toArray:=rfl
@[simp,go_sem] theorem Ph(l:Bs):(mk l).size=l.length:=by simp[mk,ByteArray.size]
@[simp,go_sem] theorem AI(a b:Bs):mk a++mk b=mk (a++b):=by apply ByteArray.ext;simp[mk]
@[simp,go_sem] theorem bR(l:Bs)(a b:Nat):(mk l).extract a b=mk ((l.drop a).take (b-a)):=by apply ByteArray.ext;simp[mk]
@[simp,go_sem] theorem mk_inj(a b:Bs):(mk a=mk b)=(a=b):=by
 rw[eq_iff_iff];constructor
 ·intro h;have:=eU (fun s=>s.data.toList) h;simpa [mk]using this
 ·rintro rfl;rfl
@[simp,go_sem] theorem FL(l:Bs)(i:Nat)(h:i<(mk l).size):(mk l)[i]=l[i]'(by simpa using h):=rfl
theorem KD(bs:ByteArray):∀ (n i:Nat) (r:List UInt8),bs.size-i=n→ByteArray.toList.loop bs i r=r.reverse++bs.data.toList.drop i:=by
 intro n;induction n with
 |zero=>intro i r h;unfold ByteArray.toList.loop;have:bs.data.toList.drop i=[]:=ZV (by rw[XW];exact Nat.le_of_sub_eq_zero h);rw[DT (by omega),this,EU]
 |succ n a=>
  intro i r h;unfold ByteArray.toList.loop;have hi:i<bs.data.size:=by have:bs.size=bs.data.size:=rfl;omega
  have e:bs.data.toList.drop i=bs.data[i]::bs.data.toList.drop (i+1):=by rw[FU (by rw[XW];exact hi)];simp
  rw[JT (by omega),a _ _ (by omega),e];simp[ByteArray.get!];exact IZ bs.data i hi
@[simp,go_sem] theorem BI(l:Bs):(mk l).toList=l:=by unfold ByteArray.toList;rw[KD _ _ 0 [] rfl];simp[mk]
@[simp,go_sem] theorem WQ(l:Bs):(ByteArray.mk l.toArray).toList=l:=BI l
abbrev Ha(s:Bs):Value:=.string (mk s)
end
namespace An
def b8(n:Nat):UInt8:=UInt8.ofNat n
def put(n a:Nat):Bs:=(List.range a).map fun i=>b8 (n/256^(a-1-i))
def num(s:Bs):Nat:=s.foldl (fun n c=>n*256+c.toNat) 0
def text(s:Bs):Bs:=put s.length 2++s
def Si(s:Bs):Option (Bs×Bs):=if s.length<2 then none else
 if s.length-2<num (s.take 2)then none else some ((s.drop 2).take (num (s.take 2)),s.drop (2+num (s.take 2)))
def nE(x:Nat):Nat:=(x/2)^^^(3988292384*(x % 2))
def Yw:Nat→Nat→Nat
 |0,x=>x
 |k+1,x=>nE (Yw k x)
def Ct(st:Nat)(c:UInt8):Nat:=Yw 8 (st^^^c.toNat)
def Oy(s:Bs):Nat:=4294967295^^^s.foldl Ct 4294967295
def low(n:Nat):Bs:=[b8 n,b8 (n/256),b8 (n/65536),b8 (n/16777216)]
def Qg(s:Bs):Bs:=s++low (Oy s)
def Eg(s:Bs):Option Bs:=if s.length<4 then none else
 if low (Oy (s.take (s.length-4)))=s.drop (s.length-4)then some (s.take (s.length-4))else none
def fileName(a:UInt8)(n:Nat):Bs:=if 999999<n then []else a::(List.range 6).map fun i=>b8 (48+n/10^(5-i)% 10)
def Ca(n:Nat):Bs:=fileName 99 n
def Ra(n:Nat):Bs:=fileName 116 n
def rb(n:Nat):Bs:=fileName 98 n
def Va:Bs:=[109,97,112]
def oa:Bs:=[110,101,119]
def isDigit(c:UInt8):Bool:=decide (48≤c.toNat)&&decide (c.toNat≤57)
def Ei(s:Bs):Nat:=s.foldl (fun n c=>10*n+(c.toNat-48)) 0
def ji(s:Bs):Option (UInt8×Nat):=match s with
 |k::r=>if r.length=6∧r.all isDigit=true∧(k=99∨k=116∨k=98)then some (k,Ei r)else none
 |[]=>none
def ad(s:Bs):Bool:= !s.isEmpty&&decide (s.length≤32)
def ue(p:Bs):Bs:=Qg (put p.length 4++p)++put p.length 4
def Yv(s:Bs)(n:Nat):Option Bs:=match Eg (s.take (n+8))with
 |none=>none
 |some body=>if(s.drop (n+8)).take 4=s.take 4 then some (body.drop 4)else none
def zj(s:Bs):Option Bs:=if s.length<12 then none else
 if 2000<num (s.take 4)∨s.length<num (s.take 4)+12 then none else Yv s (num (s.take 4))
def bo(s:Bs)(at':Nat):Option Bs:=zj (s.drop at')
def whole(s:Bs):Nat→Nat→List Nat×Nat
 |0,at'=>([],at')
 |fuel+1,at'=>match bo s at' with
  |none=>([],at')
  |some p=>let r:=whole s fuel (at'+p.length+12);(at'::r.1,r.2)
def gp(s:Bs)(from':Nat):List Nat×Nat:=whole s s.length from'
def Yb(n:Nat):Bs:=Qg ([99,104,110,107]++put n 4)
def scan(s:Bs)(n:Nat):List Nat×Nat×Bool:=if 200≤n then([],0,false)else
 if(Yb n).isPrefixOf s then let r:=gp s 12;(r.1,r.2,true)else
 if s.isPrefixOf (Yb n)then([],0,true)else([],0,false)
def fits(b:Nat)(a:Bs):Bool:=decide (b≤4096)&&decide (a.length≤2000)&&decide (a.length+12≤4096-b)
structure Ev where
 Xi:Bs
 data:Bs
 w:Nat
 deriving DecidableEq
structure Za where
 stream:Bs
 first:Nat
 vc:List Ev
 deriving DecidableEq
structure yc where
 stream:Bs
 Qb:Nat
 ev:Ev
 deriving DecidableEq
def od(e:Ev):Nat:=if e.Xi.isEmpty then 2 else if 16<e.Xi.length∨200<e.data.length then 3 else 0
def Yf:List Ev→Nat
 |[]=>0
 |e::r=>if od e=0 then Yf r else od e
def jd(b:Za):Nat:=if b.stream.isEmpty∨b.vc.isEmpty then 2 else
 if 32<b.stream.length∨8<b.vc.length then 3 else
 if 1073741824<b.first+b.vc.length then 2 else Yf b.vc
def Xc(e:Ev):Bs:=text e.Xi++text e.data++put e.w 8
def Sa(b:Za):Bs:=text b.stream++put b.first 8++put b.vc.length 1++b.vc.flatMap Xc
def Yg(s:Bs):Option (Ev×Bs):=match Si s with
 |none=>none
 |some (k,r)=>match Si r with
  |none=>none
  |some (d,a)=>if a.length<8 then none else
   let e:Ev:=⟨k,d,num (a.take 8)⟩
   if od e=0 then some (e,a.drop 8)else none
def sg:Nat→Bs→Option (List Ev×Bs)
 |0,s=>some ([],s)
 |n+1,s=>match Yg s with
  |none=>none
  |some (e,r)=>match sg n r with
   |none=>none
   |some (l,a)=>some (e::l,a)
def Gs(s:Bs):Option Za:=match Si s with
 |none=>none
 |some (st,r)=>if r.length<9∨1073741824<num (r.take 8)then none else
  match sg (r[8]?.getD 0).toNat (r.drop 9)with
  |none=>none
  |some (l,a)=>let b:Za:=⟨st,num (r.take 8),l⟩;if a.isEmpty∧jd b=0 then some b else none
def Kf(b:Za):List yc:=b.vc.zipIdx.map fun p=>⟨b.stream,b.first+p.2,p.1⟩
def hmul(a b:Nat):Nat:=a*b % 18446744073709551616
def gI(h:Nat):Nat:=let t:=hmul (h^^^(h/4294967296)) 11400714819323198485;t^^^(t/536870912)
def Qa(da:Nat)(s:Bs):Nat:=if da=0 then 7 else gI (s.foldl (fun h c=>hmul (h^^^c.toNat) 1099511628211) (14695981039346656037^^^da))
structure qa where
 Qa:Nat
 Qb:Nat
 pos:Nat
 deriving DecidableEq
def de(a b:qa):Bool:=decide (a.Qa<b.Qa)||decide (a.Qa=b.Qa)&&(decide (a.Qb<b.Qb)||decide (a.Qb=b.Qb)&&decide (a.pos<b.pos))
def ub:List qa→Bool
 |a::b::r=>de a b&&ub (b::r)
 |_=>true
def Nf(e:qa):Bs:=put e.Qa 8++put e.Qb 8++put e.pos 8
def vj(s:Bs):Option qa:=if s.length≠24 then none else
 if 9223372036854775808≤num ((s.drop 8).take 8)∨9223372036854775808≤num (s.drop 16)then none else some ⟨num (s.take 8),num ((s.drop 8).take 8),num (s.drop 16)⟩
def ins(e:qa):List qa→List qa
 |[]=> [e]
 |a::r=>if de e a then e::a::r else if e=a then a::r else a::ins e r
def ae(l:List qa)(h:Nat)(from' to':Int):List qa:=l.filter fun e=>decide (e.Qa=h)&&decide (from'≤(e.Qb:Int))&&decide ((e.Qb:Int)≤to')
def Rg(l:List qa)(h:Nat)(upto:Int):Option qa:=(l.filter fun e=>decide (e.Qa=h)&&decide ((e.Qb:Int)≤upto)).getLast?
def Zc(ls:List (List qa)):List qa:=ls.flatten.foldr ins []
def Hi:Bs:=[112,116,97,98]
def Tb(l:List qa):Bs:=Qg (Hi++put l.length 4++l.flatMap Nf)
def Zd:Nat→Bs→Option (List qa)
 |0,s=>if s.isEmpty then some []else none
 |n+1,s=>match vj (s.take 24)with
  |none=>none
  |some e=>(Zd n (s.drop 24)).map (e:: ·)
def mf(s:Bs):Option (List qa):=match Eg s with
 |none=>none
 |some t=>if t.length<8∨t.take 4≠Hi then none else
  if(t.drop 8).length≠num ((t.drop 4).take 4)*24 then none else
  match Zd (num ((t.drop 4).take 4)) (t.drop 8)with
  |none=>none
  |some l=>if ub l then some l else none
structure Fa where
 next:Nat
 check:Nat
 da:Nat
 ia:List (List Nat)
 deriving DecidableEq
def Rc(l:List (List Nat)):Bool:=decide (l.length≤5)&&decide (l.flatten.length≤40)&&decide l.flatten.Nodup
def Ab(l:List (List Nat)):List (List Nat):=(l.reverse.dropWhile List.isEmpty).reverse
def og(l:List (List Nat))(n:Nat):Nat×List (List Nat):=if !Rc l||l.flatten.contains n then(2,[])else
 if 40≤l.flatten.length then(60,[])else
 (0,match Ab l with|[]=> [[n]]|a::r=>(a++[n])::r)
def ie(l:List (List Nat))(k:Int):Nat×List Nat:=if !Rc l||decide (k<0)||decide (5≤k)then(2,[])else
 if(l.getD k.toNat []).isEmpty then(4,[])else(0,l.getD k.toNat [])
def Fb(l:List (List Nat))(k:Nat)(n:Nat):List (List Nat):=let out:=(Ab l).set k [];let a:=min (k+1) 4;let out:=if out.length≤a then out++[[]]else out;out.set a (out.getD a []++[n])
def dd(m:Fa):Bool:=decide (m.next≤1000000)&&decide (m.check≤2147483647)&&Rc m.ia&&m.ia.flatten.all fun n=>decide (n<m.next)
def Se:Bs:=[105,109,97,112]
def Sd(l:List Nat):Bs:=put l.length 1++l.flatMap fun n=>put n 4
def Xb(m:Fa):Bs:=Qg (Se++put m.next 4++put m.check 4++put m.da 8++put (Ab m.ia).length 1++(Ab m.ia).flatMap Sd)
def Tj:Nat→Bs→Option (List Nat×Bs)
 |0,s=>some ([],s)
 |n+1,s=>if s.length<4 then none else(Tj n (s.drop 4)).map fun p=>(num (s.take 4)::p.1,p.2)
def Cg:Nat→Bs→Option (List (List Nat)×Bs)
 |0,s=>some ([],s)
 |n+1,s=>match s with
  |[]=>none
  |c::r=>match Tj c.toNat r with
   |none=>none
   |some (l,a)=>(Cg n a).map fun p=>(l::p.1,p.2)
def qg(s:Bs):Option Fa:=match Eg s with
 |none=>none
 |some t=>if t.length<4∨t.take 4≠Se then none else
  if t.length<21 then none else
  match Cg (t[20]?.getD 0).toNat (t.drop 21)with
  |none=>none
  |some (l,r)=>
   let m:Fa:=⟨num ((t.drop 4).take 4),num ((t.drop 8).take 4),num ((t.drop 12).take 8),l⟩
   if r.isEmpty∧dd m=true∧Xb m=s then some m else none
end An
section
namespace An
def blt:Bs→Bs→Bool
 |_,[]=>false
 |[],_::_=>true
 |a::x,b::y=>decide (a<b)||(decide (a=b)&&blt x y)
section
variable {α β:Type}
def Na(n:Bs):List (Bs×α)→Option α
 |[]=>none
 |p::r=>if p.1=n then some p.2 else Na n r
def Ac(n:Bs)(v:α):List (Bs×α)→List (Bs×α)
 |[]=> [(n,v)]
 |p::r=>if p.1=n then(n,v)::r else if blt n p.1 then(n,v)::p::r else p::Ac n v r
def zb(n:Bs)(l:List (Bs×α)):List (Bs×α):=l.filter fun p=>decide (p.1≠n)
def Zb:List (Bs×α)→Prop
 |p::q::r=>blt p.1 q.1=true∧Zb (q::r)
 |_=>True
end
structure jc where
 data:Bs
 ib:Nat
 deriving DecidableEq
abbrev Hb:=List (Bs×jc)
structure ja where
 cap:Nat
 fa:Hb
 za:Int
 down:Bool
 Ya:Bool
 left:Nat
 Ga:List Int
 deriving DecidableEq
def Ia(fs:Hb):Nat:=(fs.map fun p=>p.2.data.length).sum
namespace ja
variable(d:ja)
def free:Int:=(d.cap:Int)-Ia d.fa
def Lg(n:Bs):Bool:= !n.isEmpty&&decide (n.length≤12)
def Pe:Bool:=d.Ya&&decide (d.left=0)
def tick:ja:={d with left:=d.left-1}
def Cf(f:jc)(n:Nat):jc:=⟨f.data.take n,min f.ib (min n f.data.length)⟩
def fj(Ga:List Int)(i:Nat):Nat:=(Ga.getD i 0).toNat
def Lc(f:jc)(a:Nat):jc:=let n:=min f.data.length (f.ib+a);⟨f.data.take n,n⟩
def cd(Ga:List Int):Nat→Hb→Hb
 |_,[]=> []
 |i,p::r=>(p.1,Lc p.2 (fj Ga i))::cd Ga (i+1) r
def Ve(Ga:List Int):ja:={d with fa:=cd Ga 0 d.fa,down:=true,Ya:=false,left:=0,Ga:=[]}
def sink:ja:=d.Ve d.Ga
def create(n:Bs):Nat×ja:=if d.down then(61,d)else
 if !Lg n then(2,d)else
 if(Na n d.fa).isSome then(62,d)else
 if 400≤d.fa.length then(60,d)else
 if d.Pe then(61,d.sink)else(0,{d.tick with fa:=Ac n ⟨[],0⟩ d.fa})
def append(n s:Bs):Nat×ja:=if d.down then(61,d)else
 match Na n d.fa with
 |none=>(4,d)
 |some f=>
  if d.free<s.length then(60,d)else
  let a:ja:={d with fa:=Ac n ⟨f.data++s,f.ib⟩ d.fa}
  if d.Pe then(61,a.sink)else(0,a.tick)
def ze(n:Bs)(at' k:Int):Nat×Bs:=if d.down then(61,[])else
 match Na n d.fa with
 |none=>(4,[])
 |some f=>if at'<0∨k<0∨f.data.length<at'+k then(2,[])else(0,(f.data.drop at'.toNat).take k.toNat)
def sync(n:Bs):Nat×ja:=if d.down then(61,d)else
 match Na n d.fa with
 |none=>(4,d)
 |some f=>if d.Pe then(61,d.sink)else(0,{d.tick with fa:=Ac n ⟨f.data,f.data.length⟩ d.fa})
def rename(a b:Bs):Nat×ja:=if d.down then(61,d)else
 match Na a d.fa with
 |none=>(4,d)
 |some f=>
  if !Lg b then(2,d)else
  if d.Pe then(61,d.sink)else
  if a=b then(0,d.tick)else(0,{d.tick with fa:=Ac b f (zb a (zb b d.fa))})
def delete(n:Bs):Nat×ja:=if d.down then(61,d)else
 match Na n d.fa with
 |none=>(4,d)
 |some _=>if d.Pe then(61,d.sink)else(0,{d.tick with fa:=zb n d.fa})
def size(n:Bs):Nat×Nat:=if d.down then(61,0)else
 match Na n d.fa with
 |none=>(4,0)
 |some f=>(0,f.data.length)
def names:List Bs:=d.fa.map (·.1)
def rf:Nat×ja:=if d.down then(0,{d with down:=false,za:=Go.RowKit.wrap64 (d.za+1)})else(2,d)
def fail(n:Int)(Ga:List Int):Nat×ja:=if d.down then(61,d)else if n<0 then(2,d)else(0,{d with Ya:=true,left:=n.toNat,Ga:=Ga})
def yi(a s:Bs)(at':Nat):Bs:=a.take at'++s.take (a.length-at')++a.drop (at'+s.length)
def Ek(n:Bs)(at':Int)(s:Bs):Nat×ja:=match Na n d.fa with
 |none=>(4,d)
 |some f=>if at'<0 then(2,d)else
  (0,if at'<f.data.length then {d with fa:=Ac n ⟨yi f.data s at'.toNat,f.ib⟩ d.fa}else d)
def Di(n:Bs)(k:Int):Nat×ja:=match Na n d.fa with
 |none=>(4,d)
 |some f=>if k<0 then(2,d)else(0,{d with fa:=Ac n (Cf f k.toNat) d.fa})
end ja
structure ja.Wf(d:ja):Prop where
 Db:Zb d.fa
 cap:d.cap≤1048576
 Ia:Ia d.fa≤d.cap
 ib:∀p∈d.fa,p.2.ib≤p.2.data.length
 left:d.left<9223372036854775808
 many:d.fa.length≤400
 kept:d.Ga.length≤1000000
section
variable {α β:Type}
theorem Fj(a:Bs):blt a a=false:=by
 induction a with
 |nil=>rfl
 |cons a x b=>simp[blt,b,UInt8.lt_irrefl]
theorem Gj{a b c:Bs}(h:blt a b=true)(k:blt b c=true):blt a c=true:=by
 induction a generalizing b c with
 |nil=>
  cases b with
  |nil=>simp[blt]at h
  |cons b y=>cases c with
   |nil=>simp[blt]at k
   |cons c z=>rfl
 |cons a x e=>
  cases b with
  |nil=>simp[blt]at h
  |cons b y=>cases c with
   |nil=>simp[blt]at k
   |cons c z=>
    simp only[blt,PU,bU,aU]at h k⊢;rcases h with h|⟨rfl,h⟩<;>rcases k with k|⟨rfl,k⟩
    ·exact .inl (UInt8.lt_trans h k)
    ·exact .inl h
    ·exact .inl k
    ·exact .inr ⟨rfl,e h k⟩
theorem Hu{a b:Bs}(h:blt a b=false)(c:a≠b):blt b a=true:=by
 induction a generalizing b with
 |nil=>cases b with
  |nil=>exact absurd rfl c
  |cons b y=>simp[blt]at h
 |cons a x f=>cases b with
  |nil=>rfl
  |cons b y=>
   simp only[blt,OW,pV,oX]at h;simp only[blt,PU,bU,aU];by_cases e:a=b
   ·subst e;exact .inr ⟨rfl,f (h.2.resolve_left (fun h=>h rfl)) (fun e=>c (by rw[e]))⟩
   ·exact .inl (UInt8.lt_of_le_of_ne (UInt8.not_lt.1 h.1) (fun h'=>e h'.symm))
theorem af{l:List (Bs×α)}:Zb l↔l.Pairwise fun p q=>blt p.1 q.1=true:=by
 induction l with
 |nil=>simp[Zb]
 |cons p r e=>
  cases r with
  |nil=>simp[Zb]
  |cons q r=>
   rw[xU,←e];show blt p.1 q.1=true∧Zb (q::r)↔_;constructor
   ·rintro⟨a,b⟩;refine⟨fun x c=> ?_,b⟩;rcases dU.1 c with rfl|c
    ·exact a
    ·exact Gj a ((xU.1 (e.1 b)).1 x c)
   ·rintro⟨a,b⟩;exact⟨a q (.head _),b⟩
theorem Pb{l:List (Bs×α)}(h:Zb l):(l.map (·.1)).Nodup:=by rw[af]at h;unfold List.Nodup;rw[yV];exact h.imp fun {p q} h e=>by rw[e,Fj]at h;cases h
theorem Co{l:List (Bs×α)}(f:α→β):Zb (l.map fun p=>(p.1,f p.2))↔Zb l:=by rw[af,af,yV]
theorem CJ{l:List (Bs×α)}(f:α→β)(n:Bs):Na n (l.map fun p=>(p.1,f p.2))=(Na n l).map f:=by
 induction l with
 |nil=>rfl
 |cons p r a=>simp only[qU,Na];split<;>simp[a]
theorem MJ{l:List (Bs×α)}(f:α→β)(n:Bs)(v:α):Ac n (f v) (l.map fun p=>(p.1,f p.2))=(Ac n v l).map fun p=>(p.1,f p.2):=by
 induction l with
 |nil=>rfl
 |cons p r a=>simp only[qU,Ac];split<;>(try split)<;>simp[a]
theorem BJ{l:List (Bs×α)}(f:α→β)(n:Bs):zb n (l.map fun p=>(p.1,f p.2))=(zb n l).map fun p=>(p.1,f p.2):=by simp[zb,OX,GY]
theorem Jf{l:List (Bs×α)}{n:Bs}{v:α}(h:Na n l=some v):(n,v)∈l:=by
 induction l with
 |nil=>cases h
 |cons p r a=>
  simp only[Na]at h;split at h
  ·rename_i e;cases h;rw[←e];exact .head _
  ·exact .tail _ (a h)
theorem Ji{l:List (Bs×α)}(a:(l.map (·.1)).Nodup){n:Bs}{v:α}(h:(n,v)∈l):Na n l=some v:=by
 induction l with
 |nil=>cases h
 |cons p r b=>
  simp only[qU,DV,nU,kZ,not_and]at a;simp only[Na];rcases dU.1 h with rfl|h
  ·rw[JT rfl]
  ·rw[DT (fun e=>a.1 _ h e.symm),b a.2 h]
theorem Bj{l:List (Bs×α)}{n:Bs}:Na n l=none↔∀p∈l,p.1≠n:=by
 induction l with
 |nil=>simp[Na]
 |cons p r a=>
  simp only[Na,dU,forall_eq_or_imp];split
  ·simp_all
  ·simp_all
theorem Ob{l:List (Bs×α)}{n:Bs}(h:Na n l=none):zb n l=l:=wV.2 fun p a=>by simpa using Bj.1 h p a
theorem Wg{l:List (Bs×α)}(a:(l.map (·.1)).Nodup){n:Bs}{v:α}(h:Na n l=some v):l.Perm ((n,v)::zb n l):=by
 induction l with
 |nil=>cases h
 |cons p r c=>
  simp only[qU,DV,nU,kZ,not_and]at a;simp only[Na]at h;split at h
  ·rename_i e;cases h;subst e;have:zb p.1 (p::r)=r:=by simp only[zb,IU];rw[DT (by simp)];exact wV.2 fun q b=>by simpa using a.1 q b
   rw[this]
  ·rename_i e;have:zb n (p::r)=p::zb n r:=by simp[zb,IU,e]
   rw[this];exact((c a.2 h).cons p).trans (.swap ..)
theorem Ly{l:List (Bs×α)}{n:Bs}(h:∀p∈l,p.1≠n):zb n l=l:=Ob (Bj.2 h)
theorem lM{p:Bs×α}{r:List (Bs×α)}{n:Bs}(h:(p::r).Pairwise fun p q=>blt p.1 q.1=true)(b:blt n p.1=true):∀q∈p::r,q.1≠n:=by
 intro q a e;have:blt n q.1=true:=by
  rcases dU.1 a with rfl|a
  ·exact b
  ·exact Gj b ((xU.1 h).1 q a)
 rw[e,Fj]at this;cases this
theorem Oc{l:List (Bs×α)}(h:Zb l){n:Bs}{v:α}:(Ac n v l).Perm ((n,v)::zb n l):=by
 rw[af]at h;induction l with
 |nil=>exact .refl _
 |cons p r f=>
  simp only[Ac];split
  ·rename_i e;subst e;have:zb p.1 (p::r)=r:=by
    simp only[zb,IU];rw[DT (by simp)];exact wV.2 fun q c=>by
     have:=(xU.1 h).1 q c;have a:q.1≠p.1:=fun e=>by rw[e,Fj]at this;cases this
     simpa using a
   rw[this]
  ·rename_i e;have b:zb n (p::r)=p::zb n r:=by simp[zb,IU,e]
   split
   ·rename_i hb;rw[Ly (lM h hb)]
   ·rw[b];exact((f (xU.1 h).2).cons p).trans (.swap ..)
theorem Oe{l:List (Bs×α)}(h:Zb l)(n:Bs)(v:α):Zb (Ac n v l):=by
 rw[af]at h⊢;induction l with
 |nil=>simp[Ac]
 |cons p r f=>
  simp only[Ac];split
  ·rename_i e;rw[xU]at h⊢;exact⟨fun q a=>by rw[←e];exact h.1 q a,h.2⟩
  ·rename_i e;split
   ·rename_i hb;refine xU.2 ⟨fun q a=> ?_,h⟩;rcases dU.1 a with rfl|a
    ·exact hb
    ·exact Gj hb ((xU.1 h).1 q a)
   ·rename_i hb;refine xU.2 ⟨fun q a=> ?_,f (xU.1 h).2⟩;have b:=(Oc (af.2 (xU.1 h).2) (n:=n) (v:=v)).mem_iff.1 a;rcases dU.1 b with rfl|b
    ·exact Hu (by simpa using hb) (fun c=>e c.symm)
    ·exact(xU.1 h).1 q (vU.1 b).1
theorem Me{l:List (Bs×α)}(h:Zb l)(n:Bs):Zb (zb n l):=by rw[af]at h⊢;exact h.filter _
theorem Wc{l:List (Bs×α)}(h:Zb l)(n m:Bs)(v:α):Na m (Ac n v l)=if m=n then some v else Na m l:=by
 have b:=Pb (Oe h n v);have a:=Oc h (n:=n) (v:=v);by_cases e:m=n
 ·subst e;rw[JT rfl];exact Ji b (a.mem_iff.2 (.head _))
 ·rw[DT e];cases hm:Na m l with
  |some u=>refine Ji b (a.mem_iff.2 (.tail _ ?_));exact vU.2 ⟨Jf hm,by simpa using e⟩
  |none=>
   refine Bj.2 fun p c=> ?_;rcases dU.1 (a.mem_iff.1 c)with rfl|g
   ·exact fun f=>e f.symm
   ·exact Bj.1 hm p (vU.1 g).1
theorem Nc{l:List (Bs×α)}(n m:Bs):Na m (zb n l)=if m=n then none else Na m l:=by
 induction l with
 |nil=>simp[zb,Na]
 |cons p r b=>
  unfold zb at b⊢;rw[IU];by_cases e:p.1=n
  ·simp only[e,mY,not_true_eq_false,GZ,KV,RX,b,Na];by_cases a:m=n
   ·rw[JT a,JT a]
   ·rw[DT a,DT a,DT (fun h=>a h.symm)]
  ·simp only[mY,e,not_false_eq_true,xZ,dZ,Na,b];by_cases a:p.1=m
   ·rw[JT a,DT (fun h=>e (a.trans h)),JT a]
   ·rw[DT a,DT a]
theorem EN(a b:Bs):blt a b=true↔a<b:=by
 induction a generalizing b with
 |nil=>cases b with
  |nil=>simp[blt]
  |cons b y=>simp[blt]
 |cons a x c=>cases b with
  |nil=>simp[blt]
  |cons b y=>simp[blt,List.cons_lt_cons_iff,c]
theorem pw(a b:Bs):a≤b↔blt b a=false:=by rw[uV,mY,EN];exact aX
theorem CF{l:List (Bs×α)}(h:Zb l){p:List Bs}(q:p.Perm (l.map (·.1))):p.mergeSort (fun x y=>decide (x≤y))=l.map (·.1):=by
 have r:∀a b c:Bs,decide (a≤b)=true→decide (b≤c)=true→decide (a≤c)=true:=by
  intro a b c i f;simp only[bU,pw]at i f⊢;cases g:blt c a with
  |false=>rfl
  |true=>
   by_cases e:a=b
   ·subst e;rw[g]at f;exact f
   ·have:=Gj g (Hu i (fun n=>e n.symm));rw[this]at f;exact f
 have m:∀a b:Bs,(decide (a≤b)||decide (b≤a))=true:=by
  intro a b;simp only[PU,bU,pw];cases g:blt b a with
  |false=>exact .inl rfl
  |true=>
   right;cases o:blt a b with
   |false=>rfl
   |true=>have:=Gj g o;rw[Fj]at this;cases this
 have s1:(p.mergeSort fun x y=>decide (x≤y)).Pairwise fun x y=>decide (x≤y)=true:=List.pairwise_mergeSort r m p;have s2:(l.map (·.1)).Pairwise fun x y=>decide (x≤y)=true:=by
  rw[yV];refine(af.1 h).imp fun {a b} j=> ?_;simp only[bU,pw];cases g:blt b.1 a.1 with
  |false=>rfl
  |true=>have:=Gj j g;rw[Fj]at this;cases this
 refine((List.mergeSort_perm p _).trans q).eq_of_pairwise ?_ s1 s2;intro a b _ _ i f;simp only[bU,pw]at i f;apply YU;intro k;have:=Hu i (fun e=>k e.symm);rw[this]at f;cases f
end
end An
end
namespace An
theorem Vf(n:Nat):(b8 n).toNat=n % 256:=by simp[b8]
theorem Jb(n size:Nat):(put n size).length=size:=by simp[put]
theorem mj(n k:Nat):put n (k+1)=b8 (n/256^k)::put n k:=by
 unfold put;rw[List.range_succ_eq_map,qU,CX];refine List.cons_eq_cons.2 ⟨by simp,nZ fun i hi=> ?_⟩;have:k-(i+1)=k-1-i:=by omega
 simp[GY,this]
theorem ZO(s:Bs):∀a:Nat,s.foldl (fun n c=>n*256+c.toNat) a=a*256^s.length+num s:=by
 induction s with
 |nil=>intro a;simp[num]
 |cons c r b=>intro a;have d:=b (a*256+c.toNat);have e:=b (0*256+c.toNat);simp only[num,fW]at*;rw[d,e,UT,FX,QX,FZ,BU,Nat.mul_assoc,gY (256^r.length) 256];omega
theorem cu(c:UInt8)(r:Bs):num (c::r)=c.toNat*256^r.length+num r:=by have:=ZO r (0*256+c.toNat);simp only[num,fW]at*;rw[this];simp
theorem Uv(n:Nat):∀k,num (put n k)=n % 256^k
 |0=>by simp[put,num,Nat.mod_one]
 |k+1=>by rw[mj,cu,Jb,Uv n k,Vf,FX,Nat.mod_mul];rw[gY];omega
theorem ug{n k:Nat}(h:n<256^k):num (put n k)=n:=by rw[Uv,Nat.mod_eq_of_lt h]
theorem Sh(s:Bs):num s<256^s.length:=by
 induction s with
 |nil=>simp[num]
 |cons c r b=>
  rw[cu,UT,FX];have a:c.toNat<256:=c.toNat_lt;have:c.toNat*256^r.length+256^r.length≤256^r.length*256:=by rw[←hZ,gY];exact pZ _ a
  omega
theorem xu(s:Bs):(text s).length=s.length+2:=by simp[text,Jb];omega
theorem re{α:Type}{a b:List α}{n:Nat}(h:a.length=n):(a++b).take n=a:=by rw[←h];simp
theorem Nd{α:Type}{a b:List α}{n:Nat}(h:a.length=n):(a++b).drop n=b:=by rw[←h];simp
theorem jt{s:Bs}(r:Bs)(h:s.length≤65535):Si (text s++r)=some (s,r):=by
 have a:(put s.length 2).length=2:=Jb _ _;have b:num (put s.length 2)=s.length:=ug (by simp;omega);have e:text s++r=put s.length 2++(s++r):=by simp[text]
 unfold Si;rw[e,re a,b,DT (by simp[a]),DT (by simp[a]),Nd a,PX,←jV,Nd a,List.drop_left']
 ·rfl
 ·rfl
theorem BO(n:Nat):(low n).length=4:=rfl
theorem rj(s:Bs):(Qg s).length=s.length+4:=by simp[Qg,BO]
theorem im(s:Bs):Eg (Qg s)=some s:=by
 unfold Eg;have h:(Qg s).length-4=s.length:=by rw[rj];omega
 rw[h,DT (by rw[rj];omega)];have a:(Qg s).take s.length=s:=by simp[Qg]
 have b:(Qg s).drop s.length=low (Oy s):=by simp[Qg]
 rw[a,b,JT rfl]
theorem Ce(p:Bs):(ue p).length=p.length+12:=by simp[ue,rj,Jb];omega
theorem pB(p:Bs):ue p=put p.length 4++(p++low (Oy (put p.length 4++p))++put p.length 4):=by simp[ue,Qg]
theorem Ys{p:Bs}(r:Bs)(h:p.length≤2000):zj (ue p++r)=some p:=by
 have a:(put p.length 4).length=4:=Jb _ _;have f:num (put p.length 4)=p.length:=ug (by simp;omega);have e:ue p++r=put p.length 4++((p++low (Oy (put p.length 4++p))++put p.length 4)++r):=by rw[pB,iU]
 have c:(ue p++r).take 4=put p.length 4:=by rw[e,re a]
 have d:ue p++r=Qg (put p.length 4++p)++(put p.length 4++r):=by simp[ue]
 have b:(Qg (put p.length 4++p)).length=p.length+8:=by simp[rj,Jb];omega
 unfold zj;rw[c,f,DT (by simp[Ce];omega),DT (by simp[Ce];omega)];unfold Yv;rw[c,d,re b,im,Nd b,re a];simp[Nd a]
theorem Sm{s:Bs}(h:s.length<12):zj s=none:=by simp[zj,h]
theorem bJ{p s:Bs}(h:p.length≤2000)(i:s<+:ue p)(c:s≠ue p):zj s=none:=by
 obtain⟨t,a⟩:=i;have f:s.length<p.length+12:=by
  have:=eU List.length a;rw[CT,Ce]at this;have:t≠[]:=by rintro rfl;simp at a;exact c a
  have:=xV.2 this;omega
 by_cases b:s.length<12
 ·exact Sm b
 have e:(put p.length 4).length=4:=Jb _ _;have g:num (put p.length 4)=p.length:=ug (by simp;omega);have j:s.take 4=put p.length 4:=by
  have d:(s++t).take 4=put p.length 4:=by rw[a,pB,re e]
  rwa [lV (by omega)]at d
 unfold zj;rw[j,g,DT b,JT (.inr f)]
theorem cJ{s p:Bs}(h:zj s=some p):p.length≤2000∧p.length+12≤s.length:=by
 unfold zj at h;split at h
 ·cases h
 ·rename_i b;split at h
  ·cases h
  ·rename_i hb;unfold Yv at h;split at h
   ·cases h
   ·rename_i body a;split at h
    ·cases h;unfold Eg at a;split at a
     ·cases a
     ·split at a
      ·cases a;simp only[cU,OT];omega
      ·cases a
    ·cases h
def kg(a:List Bs):Bs:=a.flatMap ue
def Cc:Nat→List Bs→List Nat
 |_,[]=> []
 |at',p::r=>at'::Cc (at'+p.length+12) r
theorem pd(p:Bs)(r:List Bs):kg (p::r)=ue p++kg r:=rfl
theorem pj:kg []=[]:=rfl
theorem Ck(a b:List Bs):kg (a++b)=kg a++kg b:=by simp[kg]
theorem Xv(a:List Bs):12*a.length≤(kg a).length:=by
 induction a with
 |nil=>simp[kg]
 |cons p r b=>rw[pd,CT,Ce,UT];omega
theorem qf:∀ (b:List Bs) (a:Nat),(Cc a b).length=b.length
 |[],_=>rfl
 |p::r,a=>by simp[Cc,qf r]
theorem By(s T:Bs)(d:zj T=none):∀ (b:List Bs) (fuel at':Nat),(∀p∈b,p.length≤2000)→s.drop at'=kg b++T→b.length≤fuel→whole s fuel at'=(Cc at' b,at'+(kg b).length)
 |[],0,at',_,_,_=>by simp[whole,Cc,kg]
 |[],fuel+1,at',_,a,_=>by rw[pj,iV]at a;simp[whole,Cc,bo,a,d,pj]
 |p::r,0,_,_,_,c=>by simp at c
 |p::r,fuel+1,at',e,a,c=>by
  have f:bo s at'=some p:=by unfold bo;rw[a,pd,iU];exact Ys _ (e p (.head _))
  have g:s.drop (at'+p.length+12)=kg r++T:=by
   have:s.drop (at'+(ue p).length)=(s.drop at').drop (ue p).length:=by rw[jV]
   rw[Ce,a,pd,iU,Nd (Ce p)]at this;rw[←this];congr 1
  simp only[whole,f,Cc];rw[By s T d r fuel _ (fun x h=>e x (.tail _ h)) g (by simpa using c)];simp only[pd,CT,Ce,Prod.mk.injEq,true_and];omega
theorem oD:∀ (a:List Bs) (n:Nat),(∀p∈a,p.length≤2000)→∃k T,k≤a.length∧(kg a).take n=kg (a.take k)++T∧zj T=none∧(kg (a.take k)).length≤n∧(∀j,j≤a.length→(kg (a.take j)).length≤n→j≤k)∧(n≥(kg a).length→T=[])
 |[],n,_=>⟨0,[],by simp,by simp[kg],Sm (by simp),by simp[kg],fun j b _=>by simpa using b,fun _=>rfl⟩
 |p::r,n,d=>by
  by_cases s:n<(ue p).length
  ·refine⟨0,(ue p).take n,WT _,?_,bJ (d p (.head _)) (jY _ _) ?_,by simp[kg],?_,?_⟩
   ·rw[pd,lV (by omega)];simp[kg]
   ·intro e;have:=eU List.length e;rw[OT]at this;omega
   ·intro j b c;cases j with
    |zero=>exact FT _
    |succ j=>rw[yW,pd,CT]at c;omega
   ·intro h;rw[pd,CT]at h;omega
  ·obtain⟨k,T,o,f,g,q,i,l⟩:=oD r (n-(ue p).length) (fun x m=>d x (.tail _ m));refine⟨k+1,T,by simp;omega,?_,g,?_,?_,?_⟩
   ·rw[pd,TY,YT (by omega),f,yW,pd,iU]
   ·rw[yW,pd,CT];omega
   ·intro j b c;cases j with
    |zero=>omega
    |succ j=>rw[yW,pd,CT]at c;have:=i j (by simpa using b) (by omega);omega
   ·intro h;rw[pd,CT]at h;exact l (by omega)
end An
end Go.Proofs.YteacbkflfafefaaGreatDoor
