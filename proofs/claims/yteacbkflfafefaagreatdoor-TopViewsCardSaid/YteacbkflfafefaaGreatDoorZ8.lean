/- Part 9 of 50 of the proof that TopViews returns true at every input: lemmas on the way; no condition. -/
import Derived.Test.YteacbkflfafefaaGreatDoorZ4
import Derived.Test.YteacbkflfafefaaGreatDoorZ6
import Derived.Test.YteacbkflfafefaaGreatDoorProg
namespace Go.Proofs.YteacbkflfafefaaGreatDoor
set_option linter.all false
set_option maxRecDepth 100000
section
open Go.RowKit An Go.Proofs.Tryz
abbrev Da(b:Nat):Value:=.pointer (some ⟨b,0,none⟩)
def dh(l:Bs):List Value:=l.map fun b=>Value.int .u8 b.toNat
def Gm(cap usd M:Nat)(rd st:Int)(dn fl:Bool)(left:Nat)(kv:Value):Array Value:=#[.bool true,Z cap,Z usd,.map (some M),Z rd,Z st,.bool dn,.bool fl,Z left,kv]
def Ml(p:Nat×jc):aa:=aa.ex fun v=>ba p.1 154 #[v,Z p.2.ib]*ua 5 1 v p.2.data.length (dh p.2.data)
def pe:List (Nat×jc)→aa
 |[]=>aa.emp
 |p::r=>Ml p*pe r
abbrev Gh:=List (Bs×(Nat×jc))
def Sk(g:Gh):List (Value×Value):=g.map fun p=>(Ha p.1,Da p.2.1)
def ma(g:Gh):Hb:=g.map fun p=>(p.1,p.2.2)
def bQ(D cap usd M:Nat)(rd st:Int)(dn fl:Bool)(left:Nat)(kv:Value)(Ga:List Int)(g:Gh):aa:=ba D 145 (Gm cap usd M rd st dn fl left kv)*(Ib prog 9 M (Sk g)*(pe (g.map (·.2))*Ba 1 kv Ga.length (xf Ga)))
structure DG where
 M:Nat
 rd:Int
 kv:Value
 g:Gh
def oT(d:ja)(x:DG):Prop:=d.Wf∧d.fa=ma x.g∧∀p∈x.g,p.1.length≤12
def na(D:Nat)(d:ja):aa:=aa.ex fun x:DG=>aa.pure (oT d x)*bQ D d.cap (Ia d.fa) x.M x.rd d.za d.down d.Ya d.left x.kv d.Ga x.g
theorem Jm{l l':List (Nat×jc)}(h:l.Perm l'):aa.le (pe l) (pe l'):=by
 induction h with
 |nil=>exact JZ _
 |cons x _ c=>exact MZ (JZ _) c
 |swap x y l=>exact KZ PZ (KZ (MZ NZ (JZ _)) OZ)
 |trans _ _ a b=>exact KZ a b
theorem str_inj{a b:Bs}(h:Ha a=Ha b):a=b:=by
 injection h with h
 rwa [mk_inj]at h
theorem UA{g:Gh}{n:Bs}{b:Nat}{f:jc}(h:Na n g=some (b,f)):(Ha n,Da b)∈Sk g:=nU.2 ⟨_,Jf h,rfl⟩
theorem rG{g:Gh}{n:Bs}(h:Na n g=none):∀p∈Sk g,p.1≠Ha n:=by intro p a e;obtain⟨q,b,rfl⟩:=nU.1 a;exact Bj.1 h q b (str_inj e)
theorem Cv(g:Gh)(n:Bs):dropKey (Ha n) (Sk g)=Sk (zb n g):=by unfold dropKey Sk zb;rw[OX];congr 1;apply lW;intro p _;show(!Tn (Ha p.1) (Ha n))=decide (p.1≠n);simp[Tn]
theorem xx:Go.Maps.Keyed prog 9:=Go.Maps.string_keyed underlying9
theorem vq{n:Bs}(h:n.length≤1000):keyOf prog 9 (Ha n)=some (.string (mk n).data.toList):=by simp[keyOf,underlying9,mapKey,Ph,maxLen];omega
theorem IB(w:World):(zeroValue 149).run prog w= .ok (.pointer none) w:=by kernel_rfl
end
section
open Go.RowKit An Go.ChangeShapes Go.WideShapes Go.ChangeAt Go.Proofs.Tryz
section
variable(D cap usd M:Nat)(rd st:Int)(dn fl:Bool)(left:Nat)(kv:Value)(g:Gh)
theorem kr:Pp prog 114 #[Da D] (ba D 145 (Gm cap usd M rd st dn fl left kv)) (.bool false):=by intro w o r a;have c:w.cell? ⟨D,0,none⟩=some (.bool true):=(TZ a).cells D 0;clear a;go_enter func114,ntmps114;go_wp2;go_ret;exact⟨rfl,0,rfl⟩
theorem mr:Pp prog 75 #[Da D] (ba D 145 (Gm cap usd M rd st dn fl left kv)) (Z (if dn then 61 else 0)):=by intro w o r a;have I:=TZ a;have c:w.cell? ⟨D,6,none⟩=some (.bool dn):=I.cells D 6;have t:=kr D cap usd M rd st dn fl left kv;clear a;cases dn;all_goals go_enter func75,ntmps75;go_wp2_with fail;refine I.ka t fun n=> ?_;go_wp2;go_ret;exact⟨rfl,n,rfl⟩
theorem IS:Pp prog 40 #[Da D] (ba D 145 (Gm cap usd M rd st dn fl left kv)) (.bool !dn):=by intro w o r a;have I:=TZ a;have t:=mr D cap usd M rd st dn fl left kv;clear a;cases dn;all_goals go_enter func40,ntmps40;go_wp2_with fail;refine I.ka t fun n=> ?_;go_wp2;go_ret;exact⟨rfl,n,rfl⟩
theorem AD:Pp prog 92 #[Da D] (ba D 145 (Gm cap usd M rd st dn fl left kv)) (Z st):=by intro w o r a;have I:=TZ a;have c:w.cell? ⟨D,5,none⟩=some (Z st):=I.cells D 5;have t:=kr D cap usd M rd st dn fl left kv;clear a;go_enter func92,ntmps92;go_wp2_with fail;refine I.ka t fun n=> ?_;go_wp2;go_ret;exact⟨rfl,n,rfl⟩
theorem iG(b:cap≤1048576)(c:usd≤1048576):Pp prog 267 #[Da D] (ba D 145 (Gm cap usd M rd st dn fl left kv)) (Z ((cap:Int)-usd)):=by intro w o r a;have I:=TZ a;have d:w.cell? ⟨D,1,none⟩=some (Z cap):=I.cells D 1;have c2:w.cell? ⟨D,2,none⟩=some (Z usd):=I.cells D 2;have t:=kr D cap usd M rd st dn fl left kv;have hw:IntKind.i64.wrap ((cap:Int)-usd)=(cap:Int)-usd:=RT _ (by omega);clear a b c;go_enter func267,ntmps267;go_wp2_with fail;refine I.ka t fun n=> ?_;go_wp2_with fail;go_quiet (fail);go_wp2;go_ret;exact⟨rfl,n+nq,by simp⟩
theorem OG(n:Bs):∀w,Calls prog 268 #[Ha n] w fun e w'=>e= .returned (.bool (ja.Lg n))∧w=w':=by
 intro w;have a:(n==([]:Bs))=n.isEmpty:=by cases n<;>rfl
 have c:decide ((n.length:Int)≤12)=decide (n.length≤12):=by rw[RV];simp;omega
 unfold ja.Lg;generalize n.isEmpty=b at a;cases b;all_goals go_enter func268,ntmps268;go_wp2;go_ret;exact⟨rfl,rfl⟩
def pC(dn:Bool)(o:Option (Nat×jc)):Value:=if dn then .tuple #[.pointer none,Z 61]else match o with
 |some (b,_)=> .tuple #[Da b,Z 0]
 |none=> .tuple #[.pointer none,Z 4]
theorem Ns(n:Bs)(l:n.length≤1000):Pp prog 76 #[Da D,Ha n] (ba D 145 (Gm cap usd M rd st dn fl left kv)*Ib prog 9 M (Sk g)) (pC dn (Na n g)):=by
 intro w o r i;have I:=TZ i;obtain⟨es,clock,d,j⟩:=I.map M;have c:w.cell? ⟨D,3,none⟩=some (.map (some M)):=I.cells D 3;have t:=mr D cap usd M rd st dn fl left kv;have L:∀k,_:=fun k=>d.lookup xx underlying143 (w:=w.drewN k) (b:=M) j (IB _) true (vq l);have H:Hid (∀k,(Instr.lookup 143 (.map (some M)) (Ha n) true).run prog (w.drewN k)= .ok (match Na n g with|some (b,_)=> .tuple #[Da b,.bool true]|none=> .tuple #[.pointer none,.bool false]) (w.drewN k)):=by
  intro k;cases h:Na n g with
  |some v=>exact(L k).1 _ (UA h)
  |none=>exact(L k).2 (rG h)
 clear L d j i l;unfold pC at*;cases dn
 ·cases a:Na n g with
  |some v=>have e:=H.out;rw[a]at e;clear a H;obtain⟨b,f⟩:=v;go_enter func76,ntmps76;go_wp2_with fail;refine I.ka t fun m=> ?_;go_wp2;go_ret2;exact⟨rfl,m,rfl⟩
  |none=>have e:=H.out;rw[a]at e;clear a H;go_enter func76,ntmps76;go_wp2_with fail;refine I.ka t fun m=> ?_;go_wp2;go_ret2;exact⟨rfl,m,rfl⟩
 ·clear H;go_enter func76,ntmps76;go_wp2_with fail;refine I.ka t fun m=> ?_;go_wp2;go_ret2;exact⟨rfl,m,rfl⟩
end
end
section
open Go.RowKit An Go.ChangeShapes Go.WideShapes Go.ChangeAt Go.Proofs.Tryz
section
variable(D cap usd M:Nat)(rd st:Int)(dn fl:Bool)(left:Nat)(kv:Value)(g:Gh)
def kL(fl:Bool)(left:Nat):Nat:=if fl&&decide (left=0)then left else left-1
theorem jq(f:left<9223372036854775808):Ud prog 201 #[Da D] (ba D 145 (Gm cap usd M rd st dn fl left kv)) (.bool (fl&&decide (left=0))) (ba D 145 (Gm cap usd M rd st dn fl (kL fl left) kv)):=by
 intro w o r b;have I:=TZ b;have c:w.cell? ⟨D,7,none⟩=some (.bool fl):=I.cells D 7;have c2:w.cell? ⟨D,8,none⟩=some (Z left):=I.cells D 8;have f2:w.frozen? ⟨D,8,none⟩=false:=I.free D 8;have d:((left:Int)==0)=decide (left=0):=by rw[RV];simp
 have hm:max ((left:Int)-1) 0=((left-1:Nat):Int):=by omega
 have a:Y w o r (ba D 145 (Gm cap usd M rd st dn fl (left-1) kv)*aa.emp) (w.setCell ⟨D,8,none⟩ (Z (max ((left:Int)-1) 0))):=by rw[hm];exact I.put D 8 (Z ((left-1:Nat):Int))
 clear b hm;cases fl
 ·go_enter func201,ntmps201;go_wp2;go_ret;exact⟨rfl,a.ya (A:=ba D 145 (Gm cap usd M rd st dn false (left-1) kv))⟩
 ·by_cases h:left=0
  ·subst h;go_enter func201,ntmps201;go_wp2;go_ret;exact⟨rfl,I⟩
  ·have e:((left:Int)==0)=false:=by rw[d];simpa using h
   clear d;go_enter func201,ntmps201;go_wp2;go_ret;simp only[kL,h,GZ,Bool.and_false,KV,RX];exact⟨rfl,a.ya⟩
theorem Yq{p:Nat×jc}{d w:World}{a b:Td}{S R:aa}[k:Find (Ml p) S R](h:Y d a b S w):∃A c,Y d a b ((ba p.1 154 #[O A p.2.data.length c,Z p.2.ib]*ua 5 1 (O A p.2.data.length c) p.2.data.length (dh p.2.data))*R) w:=by obtain⟨o,r,⟨i,l,j,m,⟨v,f⟩,a2⟩,hu⟩:=h.le k.split;have e:Y d a b ((ba p.1 154 #[v,Z p.2.ib]*ua 5 1 v p.2.data.length (dh p.2.data))*R) w:=⟨o,r,⟨i,l,j,m,f,a2⟩,hu⟩;obtain⟨_,A,c,rfl⟩:=e.Cd v;exact⟨A,c,e⟩
theorem Ov:(prog.info? 5).map (fun i=>(i.zero,i.size,i.bytes))=some (some (.int .u8 0),1,1):=by kernel_rfl
theorem aQ(b:Nat)(f:jc)(n:Nat)(J:usd≤1048576)(H:f.ib≤1048576)(G:f.data.length≤usd):Ud prog 80 #[Da D,Da b,Z n] (ba D 145 (Gm cap usd M rd st dn fl left kv)*Ml (b,f)) (.tuple #[]) (ba D 145 (Gm cap (usd-(f.data.length-n)) M rd st dn fl left kv)*Ml (b,ja.Cf f n)):=by
 intro w o r i;obtain⟨A,c,I⟩:=Yq (p:=(b,f)) (TZ i);clear i;obtain⟨i5,hi,q,s,t⟩:=info_parts Ov;have c2:w.cell? ⟨D,2,none⟩=some (Z usd):=I.cells D 2;have f2:w.frozen? ⟨D,2,none⟩=false:=I.free D 2;have g0:w.cell? ⟨b,0,none⟩=some (O A f.data.length c):=I.cells b 0;have g1:w.cell? ⟨b,1,none⟩=some (Z f.ib):=I.cells b 1;have E:w.frozen? ⟨b,0,none⟩=false:=I.free b 0;have F:w.frozen? ⟨b,1,none⟩=false:=I.free b 1;obtain⟨a,hcut,h⟩:=I.cut underlying152 hi (min n f.data.length) (dX _ _) (O A f.data.length c);have hm:min (n:Int) (f.data.length:Int)=((min n f.data.length:Nat):Int):=by omega
 have e:min (f.ib:Int) ((min n f.data.length:Nat):Int)=((min f.ib (min n f.data.length):Nat):Int):=by omega
 have hb:min n f.data.length≤f.data.length:=dX _ _;generalize m:min n f.data.length=k at hcut h hm e hb;generalize l:min f.ib k=j at e;have d:=V m;have u:=V l;clear q s t hi m l I;go_enter func80,ntmps80;go_wp2_with fail;go_still_tail 14,(by kernel_rfl);change wpList _ _ _ _ _ w.drew;go_wp2;go_end0;refine⟨rfl,?_⟩;have y:(usd:Int)-(f.data.length-k)=((usd-(f.data.length-n):Nat):Int):=by have:=d.out;omega
 rw[y];have x:Y w o r (ba D 145 (Gm cap (usd-(f.data.length-n)) M rd st dn fl left kv)*(ba b 154 #[O a k k,Z j]*ua 5 1 (O a k k) k ((dh f.data).take (k*1)))) _:=(((h.put D 2 (Z ((usd-(f.data.length-n):Nat):Int))).put b 0 (O a k k)).put b 1 (Z j)).drew.ya (A:=ba D 145 ((Gm cap usd M rd st dn fl left kv).setIfInBounds 2 (Z ((usd-(f.data.length-n):Nat):Int)))*(ba b 154 ((#[O A f.data.length c,Z f.ib].setIfInBounds 0 (O a k k)).setIfInBounds 1 (Z j))*ua 5 1 (O a k k) k ((dh f.data).take (k*1))));refine x.le (MZ (JZ _) ?_);have C:(f.data.take n).length=k:=by rw[OT];exact d.out
 have B:(dh f.data).take (k*1)=dh (f.data.take n):=by unfold dh;rw[←NX,wU,←d.out];congr 1;rw[List.take_eq_take_min,Nat.min_assoc,Nat.min_self,←List.take_eq_take_min]
 have z:ja.Cf f n=⟨f.data.take n,j⟩:=by unfold ja.Cf;rw[d.out,u.out]
 rw[B,z,←C];exact SZ (A:=fun v=>ba b 154 #[v,Z j]*ua 5 1 v (f.data.take n).length (dh (f.data.take n))) _
end
end
end Go.Proofs.YteacbkflfafefaaGreatDoor
