/- Part 38 of 50 of the proof that TopViews returns true at every input: lemmas on the way; no condition. -/
import Derived.Test.YteacbkflfafefaaGreatDoorZ36
namespace Go.Proofs.YteacbkflfafefaaGreatDoor
set_option linter.all false
set_option maxRecDepth 100000
section
open Go.RowKit An Go.ChangeShapes Go.WideShapes Go.ChangeAt Go.Proofs.Tryz
theorem Ww(w:World)(cs:List Value)(bs:Bs)(c:cs.length=bs.length)(b:∀j (a:j<bs.length),cs[j]? =some (.int .u8 (bs[j].toNat:Int))):(convert 152 9 (O (some ⟨w.heap.size,0,none⟩) bs.length bs.length)).run prog (w.alloc (.cells cs.toArray 5))= .ok (Ha bs) (w.alloc (.cells cs.toArray 5)):=MV _ 152 9 5 ⟨w.heap.size,0,none⟩ bs.length bs underlying152 underlying5 underlying9 (fun j a=>by rw[CV,BU,jW _ _ _ _ _ _ (CY w _)];simpa using b j a)
theorem ZR(w:World)(n:Nat):(convert 152 9 (O (some ⟨w.heap.size,0,none⟩) 1 1)).run prog (w.alloc (.cells #[.int .u8 ((n:Int)% 256)] 5))= .ok (Ha [b8 n]) (w.alloc (.cells #[.int .u8 ((n:Int)% 256)] 5)):=by
 have h:=Ww w [.int .u8 ((n:Int)% 256)] [b8 n] rfl (fun j a=>by
  obtain rfl:j=0:=by simpa using a
  simp[Vf]);exact h
theorem zi(n size:Nat)(o:1≤size)(p:size≤8)(d:n<18446744073709551616):Pu prog 137 #[Pa n,Z size] (Ha (put n size)):=by
 intro w;have g:∀k,n/256^k<18446744073709551616:=fun k=>WV (vY _ _) d;have c:=V g;clear g d;go_enter func137,ntmps137;go_wp2_with fail;go_loopw [0,5,6] (fun x s i wr=>∃k:Nat,k≤size∧i=Z k∧x=Pa (n/256^k:Nat)∧s=Ha (put n k)∧Below w.heap.size w wr) (fun _ _ i _=>size-(intOf i).toNat);case atStart=>exact⟨0,WT _,rfl,by simp,rfl,mU _ _⟩
 case round=>
  obtain⟨k,r,rfl,rfl,rfl,a⟩:=hrel;by_cases l:k<size
  ·have e:=mj n k;have f:n/256^k/256=n/256^(k+1):=by rw[Nat.div_div_eq_div_mul,FX]
   have t:=vf n k;have b:=c.out k;have hw:IntKind.u64.wrap (((n/256^k:Nat):Int)/256)=((n/256^(k+1):Nat):Int):=by rw[←f];generalize n/256^k=x at b⊢;rw[pU];omega
   have h:=V e;have j:=V hw;clear e f hw c;generalize n/256^k=x at*;have q:=ZR wr x;have m:=V b;clear b;go_wp2;go_roundw;case rel=>exact⟨k+1,by omega,by go_num,by rw[j.out],by rw[h.out],a.alloc (a.size) _⟩
   case measure=>simp[intOf];omega
  ·obtain rfl:k=size:=by omega
   go_wp2;go_ret;exact⟨rfl,a⟩
theorem Dw(s:Bs)(m:s.length≤1000000000):Pq prog 168 #[Ha s] (Pa (num (s.take 8):Nat)):=by
 intro w;go_enter func168,ntmps168;go_wp2_with fail;go_loop [3,4] (fun n i=>∃k:Nat,k≤min s.length 8∧i=Z k∧n=Pa (num (s.take k):Nat)) (fun _ i=>s.length-(intOf i).toNat);case atStart=>exact⟨0,WT _,rfl,rfl⟩
 case round=>
  obtain⟨k,l,rfl,rfl⟩:=hrel;by_cases j:k<min s.length 8
  ·have a:k<s.length:=by omega
   have d:(s.take k).length=k:=by rw[OT];omega
   have e:=cm (s.take k);rw[d]at e;have g:256^k≤256^7:=XV (by decide) (by omega);have hb:=(s[k]'a).toNat_lt;have b:IntKind.u64.wrap (IntKind.u64.wrap ((num (s.take k):Int)*256)+IntKind.u64.wrap ((s[k]'a).toNat:Int))=((num (s.take k)*256+(s[k]'a).toNat:Nat):Int):=by simp only[pU];omega
   have f:=V b;clear b e g d hb;go_wp2_with fail;go_round;case rel=>refine⟨k+1,by omega,by go_num,?_⟩;rw[rU (by omega),cD,←f.out]
   case measure=>simp[intOf];omega
  ·have c:s.take k=s.take 8:=by
    rcases DZ s.length 8 with h|h
    ·rw[YT (by omega),YT h]
    ·rw[show k=8 by omega]
   rw[c];clear c;go_wp2_with fail;all_goals go_ret;exact⟨rfl,0,rfl⟩
theorem aS(w:World)(n:Nat)(b:n≤65535):(convert 152 9 (O (some ⟨w.heap.size,0,none⟩) 2 2)).run prog (w.alloc (.cells #[.int .u8 ((n:Int)/256),.int .u8 ((n:Int)% 256)] 5))= .ok (Ha (put n 2)) (w.alloc (.cells #[.int .u8 ((n:Int)/256),.int .u8 ((n:Int)% 256)] 5)):=by
 have e:put n 2=[b8 (n/256),b8 n]:=by simp[put,List.range_succ]
 rw[e];exact Ww w [.int .u8 ((n:Int)/256),.int .u8 ((n:Int)% 256)] [b8 (n/256),b8 n] rfl (fun j a=>by
  have:j=0∨j=1:=by simp at a;omega
  rcases this with rfl|rfl
  ·simp[Vf];omega
  ·simp[Vf])
theorem Zx(s:Bs)(a:s.length≤65535):Pu prog 136 #[Ha s] (Ha (text s)):=by intro w;have b:=aS w s.length a;go_enter func136,ntmps136;go_wp2;go_ret;exact⟨rfl,(mU _ w).alloc (FT _) _⟩
theorem UB{x c:Nat}(a:x<4294967296):∀k,rk k x c<4294967296
 |0=>a
 |k+1=>by rw[rk];have h:=UB a (c:=c) k;have b:(rk k x c+c>>>k)% 2<2:=kY _ (by decide);exact mX (n:=32) (by omega) (by generalize(rk k x c+c>>>k)% 2=y at*;omega)
theorem kM(x:Nat)(c:UInt8)(n:x<4294967296):Pq prog 289 #[.int .u32 x,.int .u8 (c.toNat:Int)] (.int .u32 (Ct x c:Nat)):=by
 intro w;have m:=c.toNat_lt;rw[←DN];generalize c.toNat=b at*;have d:=fun k=>UB (c:=b) n k;have l:=V d;have o:=V m;clear d m n;go_enter func289,ntmps289;go_wp2_with fail;go_loop [0,5,6] (fun y i z=>∃k:Nat,k≤8∧i=Z k∧y= .int .u32 (rk k x b:Nat)) (fun _ i _=>8-(intOf i).toNat);case atStart=>exact⟨0,WT _,rfl,rfl⟩
 case round=>
  obtain⟨k,p,rfl,rfl⟩:=hrel;by_cases d:k<8
  ·have q:=l.out k;have Qe:rk (k+1) x b=rk k x b/2^^^(3988292384*((rk k x b+b>>>k)% 2)):=rfl;have f:=V Qe;clear Qe l;generalize g:rk (k+1) x b=y' at*;generalize rk k x b=y at*;have a:((b:Int)/2^k)=((b>>>k:Nat):Int):=by rw[Nat.shiftRight_eq_div_pow];simp
   rcases Nat.mod_two_eq_zero_or_one (y+b>>>k)with e|e
   ·have j:(((y:Int)+(b:Int)/2^k)% 2==1)=false:=by rw[a,ET];omega
    have he:((y:Int)/2)=(y':Nat):=by rw[f.out,e,Nat.mul_zero,Nat.xor_zero];omega
    have h:=V he;clear a e f he;go_wp2_with fail;go_round;case rel=>exact⟨k+1,by omega,by go_num,by rw[h.out,g]⟩
    case measure=>simp[intOf];omega
   ·have j:(((y:Int)+(b:Int)/2^k)% 2==1)=true:=by rw[a,OV];omega
    have he:bits .xor .u32 ((y:Int)/2) 3988292384=((y':Nat):Int):=by rw[f.out,e,wU,show((y:Int)/2)=((y/2:Nat):Int) by omega];exact yZ _ _ (by omega) (by decide)
    have h:=V he;clear a e f he;go_wp2_with fail;go_round;case rel=>exact⟨k+1,by omega,by go_num,by rw[h.out,g]⟩
    case measure=>simp[intOf];omega
  ·obtain rfl:k=8:=by omega
   go_wp2;go_ret;exact⟨rfl,0,rfl⟩
theorem YP{x:Nat}(h:x<4294967296):4294967295^^^x=4294967295-x:=by
 have a:=Nat.eq_of_testBit_eq (x:=4294967295^^^x) (y:=4294967295-x) fun i=>by
  have e:4294967295-x=2^32-(x+1):=by omega
  rw[e,Nat.testBit_two_pow_sub_succ h,Nat.testBit_xor,show(4294967295:Nat)=2^32-1 by decide,Nat.testBit_two_pow_sub_one];by_cases hi:i<32
  ·simp[hi]
  ·have:x.testBit i=false:=Nat.testBit_lt_two_pow (aV h (show 2^32≤2^i from XV (by decide) (by omega)));simp[hi,this]
 exact a
theorem oM(s:Bs)(f:s.length≤100000000):Pq prog 259 #[.int .u32 0,Ha s] (.int .u32 (Oy s:Nat)):=by
 intro w;have hF:=Dt s (x:=4294967295) (by decide);have a:(4294967295:Int)-((s.foldl Ct 4294967295:Nat):Int)=((Oy s:Nat):Int):=by unfold Oy;rw[YP hF];omega
 have c:=V a;clear a;go_enter func259,ntmps259;go_wp2_with fail;go_loopw [5,6] (fun n i wr=>∃k m:Nat,k≤s.length∧i=Z k∧n= .int .u32 ((s.take k).foldl Ct 4294967295:Nat)∧wr=w.drewN m) (fun _ i _=>s.length-(intOf i).toNat);case atStart=>exact⟨0,0,WT _,rfl,rfl,rfl⟩
 case round=>
  obtain⟨k,m,d,rfl,rfl,rfl⟩:=hrel;by_cases b:k<s.length
  ·have t:=kM ((s.take k).foldl Ct 4294967295) s[k] (Dt _ (by decide));go_wp2_with fail;refine(t _).mono ?_;rintro e w' ⟨rfl,m2,rfl⟩;go_wp2;go_roundw;case rel=>exact⟨k+1,m+m2,by omega,by go_num,by rw[rU b,UX];rfl,rfl⟩
   case measure=>simp[intOf];omega
  ·rw[YT (by omega)];go_wp2;go_ret;refine⟨?_,m,rfl⟩;show Ending.returned (Value.int .u32 ((4294967295:Int)-((s.foldl Ct 4294967295:Nat):Int)))=_;rw[c.out]
theorem sP(s:Bs)(a:s.length≤100000000):Pq prog 216 #[Ha s] (.int .u32 (Oy s:Nat)):=by intro w;have t:=oM s a;go_enter func216,ntmps216;go_wp2_with fail;refine(t _).mono ?_;rintro e w' ⟨rfl,m,rfl⟩;go_wp2;go_ret;exact⟨rfl,m,rfl⟩
theorem bS(w:World)(n:Nat)(h:n<4294967296):(convert 152 9 (O (some ⟨w.heap.size,0,none⟩) 4 4)).run prog (w.alloc (.cells #[.int .u8 ((n:Int)% 256),.int .u8 ((n:Int)/256 % 256),.int .u8 ((n:Int)/65536 % 256),.int .u8 ((n:Int)/16777216)] 5))= .ok (Ha (low n)) (w.alloc (.cells #[.int .u8 ((n:Int)% 256),.int .u8 ((n:Int)/256 % 256),.int .u8 ((n:Int)/65536 % 256),.int .u8 ((n:Int)/16777216)] 5)):=Ww w [.int .u8 ((n:Int)% 256),.int .u8 ((n:Int)/256 % 256),.int .u8 ((n:Int)/65536 % 256),.int .u8 ((n:Int)/16777216)] (low n) rfl (fun j a=>by
  have:j=0∨j=1∨j=2∨j=3:=by simp[low]at a;omega
  rcases this with rfl|rfl|rfl|rfl<;>simp[low,Vf];omega)
theorem sD(s:Bs)(c:s.length≤10000000):Pu prog 171 #[Ha s] (Ha (Qg s)):=by intro w;have t:=sP s (by omega);have a:=fun w=>bS w (Oy s) (uA s);have b:=uA s;unfold Qg;generalize Oy s=n at*;go_enter func171,ntmps171;go_wp2_with fail;refine(t _).mono ?_;rintro e w' ⟨rfl,m,rfl⟩;have a:=a (w.drewN m);rw[show(w.drewN m).heap.size=w.heap.size from rfl]at a;go_wp2;go_ret;exact⟨rfl,(j3 (mU _ w) m).alloc (FT _) _⟩
end
section
open Go Go.RowKit
section
variable {P:Program}{ops:Array Oper}{Q:Exit→Act→World→Prop}{md:Region.Mode}{S:World→Prop}{R:World→World→Prop}
def SG(md:Region.Mode)(ops:Array Oper)(Bd:Array Bool→Bool)(tl:List Nat):List Nat→Array Bool→Bool
 |[],listed=>Bd listed
 |i::r,listed=>(Region.ready md ops listed).contains i&&Region.free md ops listed i&&((ops[i]?).map fun o=>o.dst.isSome).getD false&&tl.all (fun t=>Tx md ops 12 t i)&& !tl.contains i&&SG md ops Bd tl r (listed.setIfInBounds i true)
theorem iw(x:∀w,R w w)(y:∀a b c,R a b→R b c→R a c)(e:∀w w',S w→R w w'→S w')(k:Region.noSelect ops=true)(C:∀c (a:Act) t v w,Q (.panic c) (a.put (some t) v) w→Q (.panic c) a w) {tl:List Nat} {n:Nat} {E:Act→World→Prop} {Bd:Array Bool→Bool} (B:∀listed a w,Bd listed=true→E a w→vm P md ops Q S R tl n listed a w):∀ (d:List Nat) (q:List Oper) (listed:Array Bool) (a:Act) (w:World),cz md ops listed→d.map (ops[·]?)=q.map some→SG md ops Bd tl d listed=true→S w→fh P ops S R (fun z=>∀r,R w r→E z r) q a→vm P md ops Q S R tl (d.length+n) listed a w
 |[],[],listed,a,w,_,_,p,_,h=>by rw[JU,BU];exact B _ _ _ p (h w (x w))
 |[],_::_,_,_,_,_,he,_,_,_=>by simp at he
 |_::_,[],_,_,_,_,he,_,_,_=>by simp at he
 |i::d,o::q,listed,a,w,s,he,p,D,h=>by
  simp only[qU,nW]at he;simp only[SG,aU,GU,TW]at p;obtain⟨⟨⟨⟨⟨H,U⟩,f⟩,L⟩,G⟩,A⟩:=p;obtain⟨v,X,h⟩:=h;rw[he.1]at f;simp only[KU,CW,zY]at f;obtain⟨t,F⟩:=f;rw[UT,show d.length+1+n=(d.length+n)+1 by omega];refine Cu (v:=v) x y e he.1 (lY k) (fun c a w=>by rw[F];exact C c a t v w) (fun j W listed T I=>(Xs 12 T (L j W) I).2) (by simpa using G) _ listed a w s (XY he.1 U) (by simpa using H) X D fun r u=> ?_;refine iw x y e k C B d q _ _ r (s.set (by simpa using H) rfl) he.2 A (e _ _ D u) ?_;have mono:∀ (l:List Oper) (a:Act) {K m:Act→Prop},(∀a,K a→m a)→fh P ops S R K l a→fh P ops S R m l a:=by
   intro l;induction l with
   |nil=>intro a K m g hh;exact g a hh
   |cons o l ih=>intro a K m g ⟨v,M,N⟩;exact⟨v,M,ih _ g N⟩
  exact mono _ _ (fun z g w2 J=>g w2 (y _ _ _ u J)) h
def Eu(P:Program)(ops:Array Oper)(Q:Exit→Act→World→Prop)(o:Oper)(a:Act)(w:World)(K:Act→World→Prop):Prop:=if Region.wanted o (yielded ops a.tmps)=true then o.wp P a w K Q else K (a.put o.dst undef) w
theorem SD{i:Nat}{o:Oper}{a:Act}{w:World}{K:Act→World→Prop}(hi:ops[i]? =some o)(h:Eu P ops Q o a w K):wpOp P ops Q i K a w:=by
 unfold wpOp;simp only[hi];unfold Eu at h;split
 ·rename_i hw;rw[JT hw]at h;exact .inl h
 ·rename_i hw;rw[DT hw]at h;exact h
def EK(md:Region.Mode)(ops:Array Oper)(c m s:Nat)(a:Array Bool):Bool:=(Region.ready md ops a).all (fun i=>i==c||i==m)&& !(Region.ready md ops a).isEmpty&&vp md ops [m,s] (a.setIfInBounds c true)&&vp md ops [c,s] (a.setIfInBounds m true)
theorem FK{c m s:Nat}{d k os:Oper}(q:ops[c]? =some d)(t:ops[m]? =some k)(u:ops[s]? =some os)(j:m∉[c,s])(b:Array Bool)(a:Act)(w:World)(p:EK md ops c m s b=true) (h:Eu P ops Q d a w (Sb P ops Q S R [os] [k])∧Sb P ops Q S R [d,os] [k] a w):vm P md ops Q S R [c,s] 3 b a w:=by
 simp only[EK,aU,GU,TW]at p;obtain⟨⟨⟨y,n⟩,z⟩,A⟩:=p;have D:c≠m:=fun e=>j (by rw[e];exact .head _);refine⟨fun e=>(by rw[e]at n;cases n),fun i hi=> ?_⟩;have o:=y i hi;rw[PU,OV,OV]at o;rcases o with rfl|rfl
 ·refine SD q ?_;have mono:∀ {K l:Act→World→Prop},(∀a w,K a w→l a w)→Eu P ops Q d a w K→Eu P ops Q d a w l:=by
   intro K l r hh;unfold Eu at*;split
   ·rename_i hw;rw[JT hw]at hh;exact Oper.wp_mono r hh
   ·rename_i hw;rw[DT hw]at hh;exact r _ _ hh
  exact mono (fun f w' h'=>⟨fun B=>absurd (.head _) B,fun _=>et (tl:=[s]) (lt:=[os]) (by simp[u]) (by simp) [m] [k] _ f w' (by simp[t]) (by simpa using j) z h'⟩) h.1
 ·have g:=h.2;have hw:wpOp P ops Q i (fun f w'=>S w'∧∀x,R w' x→Sb P ops Q S R [d,os] [] f x) a w:=by
   unfold wpOp;simp only[t];unfold Sb at g;split
   ·rename_i hw;rw[JT hw]at g;exact .inl g
   ·rename_i hw;rw[DT hw]at g;exact g
  exact AZ (fun f w' h'=>⟨fun _=>⟨h'.1,fun w2 v=>dv [c,s] [d,os] _ f w2 (by simp[q,u]) (by simp) A (h'.2 w2 v)⟩,fun C=>absurd C j⟩) hw
def sS(ops:Array Oper)(a:List Nat)(c m s:Nat):Bool:=Region.noSelect ops&&decide (a.length+3=ops.size)&&(c::m::s::a).all (fun t=>decide (t<ops.size))&& ![c,s].contains m&&SG .any ops (EK .any ops c m s) [c,s] a (Array.replicate ops.size false)
theorem Ey{L:Nat}{Q:Exit→Act→World→Prop}{a:Act}{w:World}{l:List Oper}{k p os:Oper}(S:World→Prop)(R:World→World→Prop)(f:List Nat)(c m s:Nat)(y:∀w,R w w)(G:∀a b c,R a b→R b c→R a c)(z:∀w w',S w→R w w'→S w') (I:P.follows .mixedOrders=true) (q:sS l.toArray f c m s=true) (H:l[c]? =some k) (J:l[m]? =some p) (K:l[s]? =some os) (D:∀c (a:Act) t v w,Q (.panic c) (a.put (some t) v) w→Q (.panic c) a w) (F:S w.drew) (h:fh P l.toArray S R (fun e=>∀d,R w.drew d→Eu P l.toArray Q k e d (Sb P l.toArray Q S R [os] [p])∧Sb P l.toArray Q S R [k,os] [p] e d) (f.filterMap (l[·]?)) a):(Code.region L l.toArray true).wp P Q a w:=by
 simp only[sS,aU,GU,bU,TW]at q;obtain⟨⟨⟨⟨u,g⟩,B⟩,r⟩,q⟩:=q;have C:∀x,x<l.toArray.size→(l.toArray[x]?).isSome=true:=fun x i=>by rw[eV i];rfl
 have gt:∀x o,l[x]? =some o→l.toArray[x]? =some o:=fun x o i=>(by rw[List.getElem?_toArray];exact i);refine pY I ?_;rw[←g];refine ot y _ _ _ _ (iw (S:=S) (n:=3) (E:=fun e d=>Eu P l.toArray Q k e d (Sb P l.toArray Q S R [os] [p])∧Sb P l.toArray Q S R [k,os] [p] e d) y G z u D (fun listed a w hb he=>FK (gt _ _ H) (gt _ _ J) (gt _ _ K) (fun h=>by rw[pW.2 h]at r;cases r) listed a w hb he) f (f.filterMap (l.toArray[·]?)) _ a _ ⟨by rw[iY];first|exact g|rfl,fun j M _ A=>(by rw[JV]at A;cases A),fun _ _ h=>by cases h⟩ (map_filterMap _ f fun x i=>C x (B x (.tail _ (.tail _ (.tail _ i))))) (by rw[g];exact q) F ?_);simpa using h
theorem OF{o:Oper}{a:Act}{w:World}{K:Act→World→Prop}(h:∀b:Act→World→Prop,(∀c w',K c w'→b c w')→if Region.wanted o (yielded ops a.tmps)=true then o.wp P a w b Q else b (a.put o.dst undef) w):Eu P ops Q o a w K:=h K fun _ _ h=>h
end
end
end Go.Proofs.YteacbkflfafefaaGreatDoor
