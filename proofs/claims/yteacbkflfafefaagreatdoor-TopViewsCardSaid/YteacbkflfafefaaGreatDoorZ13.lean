/- Part 14 of 50 of the proof that TopViews returns true at every input: lemmas on the way; no condition. -/
import Derived.Test.YteacbkflfafefaaGreatDoorZ8
import Derived.Test.YteacbkflfafefaaGreatDoorZ10
namespace Go.Proofs.YteacbkflfafefaaGreatDoor
set_option linter.all false
set_option maxHeartbeats 4000000
set_option maxRecDepth 100000
section
open Go.RowKit An Go.ChangeShapes Go.WideShapes Go.ChangeAt Go.Proofs.Tryz
theorem yL{P:Program}{k:TypeId}{M:Nat}{K e:List (Value×Value)}(h:K.Perm e):aa.le (Ib P k M K) (Ib P k M e):=⟨fun⟨es,clock,a,b⟩=>⟨_,_,⟨es,clock,⟨a.perm.trans h,fun p c=>a.keys p (h.mem_iff.2 c),fun p c=>a.plain p (h.mem_iff.2 c),(h.map _).nodup_iff.1 a.nodup,a.born,a.Ie⟩,b⟩,fun _ h=>h,fun _ h=> .inr h⟩⟩
abbrev Ir(D cap usd M:Nat)(rd st:Int)(dn fl:Bool)(left:Nat)(kv:Value)(Ga:List Int)(K:List (Value×Value))(L:aa):aa:=ba D 145 (Gm cap usd M rd st dn fl left kv)*(Ib prog 9 M K*(L*Ba 1 kv Ga.length (xf Ga)))
class kh(D:Nat)(S:aa)(d:outParam (ja))(R:outParam aa):Prop where
 split:aa.le S (na D d*R)
instance (priority:=1000) kh.here {D:Nat}{d:ja}{R:aa}:kh D (na D d*R) d R:=⟨JZ _⟩
instance (priority:=900) kh.last {D:Nat}{d:ja}:kh D (na D d) d aa.emp:=⟨KZ (RZ trivial) NZ⟩
instance (priority:=800) kh.right {D:Nat}{d:ja}{B S R:aa}[h:kh D S d R]:kh D (B*S) d (B*R):=⟨KZ (MZ (JZ _) h.split) (KZ PZ (KZ (MZ NZ (JZ _)) OZ))⟩
instance (priority:=700) kh.left {D:Nat}{d:ja}{B S R:aa}[h:kh D S d R]:kh D (S*B) d (R*B):=⟨KZ (MZ h.split (JZ _)) OZ⟩
section
variable {w0 w:World}{o0 r0:Td}{S R:aa}{D:Nat}{d:ja}
theorem Y.Be{cap:Nat}{fs:Hb}{st:Int}{dn fl:Bool}{lf:Nat}{kp:List Int}(h:Y w0 o0 r0 S w)(D:Nat)[k:kh D S ⟨cap,fs,st,dn,fl,lf,kp⟩ R]:∃M rd kv g,fs=ma g∧(⟨cap,fs,st,dn,fl,lf,kp⟩:ja).Wf∧Zb g∧(∀p∈g,p.1.length≤12)∧Y w0 o0 r0 (Ir D cap (Ia fs) M rd st dn fl lf kv kp (Sk g) (pe (g.map (·.2)))*R) w:=by have a:Y w0 o0 r0 (na D ⟨cap,fs,st,dn,fl,lf,kp⟩*R) w:=h.le k.split;unfold na at a;obtain⟨x,e⟩:=a.ex;obtain⟨⟨b,c,f⟩,i⟩:=e.pure;exact⟨x.M,x.rd,x.kv,x.g,c,b,(Co (fun v:Nat×jc=>v.2)).1 (by rw[←ma];exact c▸b.Db),f,i⟩
theorem Md{cap usd:Nat}{fs:Hb}{st:Int}{dn fl:Bool}{lf:Nat}{kp:List Int}{M:Nat}{rd:Int}{kv:Value}{g:Gh}{L:List (Nat×jc)}{K:List (Value×Value)}(h:(⟨cap,fs,st,dn,fl,lf,kp⟩:ja).Wf)(c:fs=ma g)(e:∀p∈g,p.1.length≤12)(f:usd=Ia fs)(a:K.Perm (Sk g))(b:L.Perm (g.map (·.2))):aa.le (Ir D cap usd M rd st dn fl lf kv kp K (pe L)) (na D ⟨cap,fs,st,dn,fl,lf,kp⟩):=by subst f;refine KZ ?_ (SZ (A:=fun x:DG=>aa.pure (oT ⟨cap,fs,st,dn,fl,lf,kp⟩ x)*bQ D cap (Ia fs) x.M x.rd st dn fl lf x.kv kp x.g) ⟨M,rd,kv,g⟩);refine KZ ?_ (RZ ⟨h,c,e⟩);exact MZ (JZ _) (MZ (yL a) (MZ (Jm b) (JZ _)))
theorem Jv{g:Gh}{n:Bs}{b:Nat}{f:jc}(a:(g.map (·.1)).Nodup)(h:Na n g=some (b,f)):aa.le (pe (g.map (·.2))) (Ml (b,f)*pe ((zb n g).map (·.2))):=Jm (l':=(b,f)::(zb n g).map (·.2)) ((Wg a h).map (·.2))
theorem bd(g:Gh)(n:Bs):Na n (ma g)=(Na n g).map (·.2):=CJ (fun v:Nat×jc=>v.2) n
theorem Dj(g:Gh)(n:Bs)(b:Nat)(f:jc):Ac n f (ma g)=ma (Ac n (b,f) g):=MJ (fun v:Nat×jc=>v.2) n (b,f)
theorem oh(g:Gh)(n:Bs):zb n (ma g)=ma (zb n g):=BJ (fun v:Nat×jc=>v.2) n
theorem oP{g:Gh}(h:Zb (ma g)):Zb g:=(Co (fun v:Nat×jc=>v.2)).1 h
theorem Th{g:Gh}(h:Zb g):Zb (ma g):=(Co (fun v:Nat×jc=>v.2)).2 h
theorem ir{g:Gh}(c:Zb g)(h:∀p∈g,p.1.length≤12){n:Bs}(b:n.length≤12)(v:Nat×jc):∀p∈Ac n v g,p.1.length≤12:=fun p a=>by
 rcases dU.1 ((Oc c).mem_iff.1 a)with rfl|a
 ·exact b
 ·exact h p (vU.1 a).1
theorem fA{a b:Hb}(h:a.Perm b):Ia a=Ia b:=(h.map _).sum_nat
theorem rm{fs:Hb}(a:Zb fs)(n:Bs)(f:jc):Ia (Ac n f fs)=f.data.length+Ia (zb n fs):=by rw[fA (Oc a)];simp[Ia]
theorem tj{fs:Hb}(a:Zb fs){n:Bs}{f:jc}(h:Na n fs=some f):Ia fs=f.data.length+Ia (zb n fs):=by rw[fA (Wg (Pb a) h)];simp[Ia]
theorem cB{fs:Hb}(a:Zb fs){n:Bs}{f:jc}{p:Bs×jc}(h:p∈Ac n f fs):p=(n,f)∨p∈fs:=by
 rcases dU.1 ((Oc a).mem_iff.1 h)with h|h
 ·exact .inl h
 ·exact .inr (vU.1 h).1
theorem QC{fs:Hb}(a:Zb fs){n:Bs}{f f':jc}(h:Na n fs=some f):(Ac n f' fs).length=fs.length:=by rw[(Oc a).length_eq,(Wg (Pb a) h).length_eq];rfl
theorem kA{cap:Nat}{fs:Hb}{st:Int}{dn fl:Bool}{lf:Nat}{kp:List Int}(h:(⟨cap,fs,st,dn,fl,lf,kp⟩:ja).Wf){n:Bs}{f f':jc}{lf':Nat}(b:Na n fs=some f)(c:lf'≤lf)(e:f'.ib≤f'.data.length)(i:Ia fs-f.data.length+f'.data.length≤cap):(⟨cap,Ac n f' fs,st,dn,fl,lf',kp⟩:ja).Wf:=by
 have g:Ia fs=f.data.length+Ia (zb n fs):=tj (fs:=fs) h.Db b;refine⟨Oe h.Db _ _,h.cap,?_,?_,WV c h.left,by rw[QC (fs:=fs) h.Db b];exact h.many,h.kept⟩
 ·show Ia (Ac n f' fs)≤cap;rw[rm (fs:=fs) h.Db];omega
 ·intro p a;rcases cB (fs:=fs) h.Db a with rfl|a
  ·exact e
  ·exact h.ib p a
theorem zJ{cap:Nat}{fs:Hb}{st:Int}{dn fl:Bool}{lf:Nat}{kp:List Int}(h:(⟨cap,fs,st,dn,fl,lf,kp⟩:ja).Wf)(n:Bs){lf':Nat}(b:lf'≤lf):(⟨cap,zb n fs,st,dn,fl,lf',kp⟩:ja).Wf:=by
 refine⟨Me h.Db _,h.cap,?_,fun p e=>h.ib p (vU.1 e).1,WV b h.left,KT (DU _ _) h.many,h.kept⟩;show Ia (zb n fs)≤cap;have c:Ia fs≤cap:=h.Ia;cases a:Na n fs with
 |none=>rw[Ob a];exact c
 |some f=>have:=tj (fs:=fs) h.Db a;omega
theorem sG{g:Gh}(a:Zb g){n:Bs}{b:Nat}{f f':jc}(h:Na n g=some (b,f)):(Sk g).Perm (Sk (Ac n (b,f') g)):=((Wg (Pb a) h).map fun p:Bs×(Nat×jc)=>(Ha p.1,Da p.2.1)).trans ((Oc a (n:=n) (v:=(b,f'))).map fun p:Bs×(Nat×jc)=>(Ha p.1,Da p.2.1)).symm
theorem Y.focus{cap usd M:Nat}{rd st:Int}{dn fl:Bool}{left:Nat}{kv:Value}{Ga:List Int}{K:List (Value×Value)}{g:Gh}{n:Bs}{b:Nat}{f:jc} (h:Y w0 o0 r0 (Ir D cap usd M rd st dn fl left kv Ga K (pe (g.map (·.2)))*R) w) (j:(g.map (·.1)).Nodup) (i:Na n g=some (b,f)):∃A c,Y w0 o0 r0 (ba b 154 #[O A f.data.length c,Z f.ib]*ua 5 1 (O A f.data.length c) f.data.length (dh f.data)*(ba D 145 (Gm cap usd M rd st dn fl left kv)*(Ib prog 9 M K*(pe ((zb n g).map (·.2))*Ba 1 kv Ga.length (xf Ga))))*R) w:=by have a:=h.le (MZ (MZ (JZ _) (MZ (JZ _) (MZ (Jv j i) (JZ _)))) (JZ _));obtain⟨A,c,e⟩:=Yq (p:=(b,f)) a;exact⟨A,c,e.ya⟩
theorem Ms{b:Nat}{v:Value}{s:Nat}{l:Bs}:aa.le (ba b 154 #[v,Z s]*ua 5 1 v l.length (dh l)) (Ml (b,⟨l,s⟩)):=SZ (A:=fun v=>ba b 154 #[v,Z s]*ua 5 1 v l.length (dh l)) v
theorem lr{cap usd:Nat}{st:Int}{dn fl:Bool}{lf:Nat}{kp:List Int}{M:Nat}{rd:Int}{kv:Value}(v:Value){g:Gh}{n:Bs}{b s:Nat}{f:jc}{l:Bs}(k:(⟨cap,Ac n ⟨l,s⟩ (ma g),st,dn,fl,lf,kp⟩:ja).Wf)(a:Zb g)(e:∀p∈g,p.1.length≤12)(c:Na n g=some (b,f))(j:usd=Ia (Ac n ⟨l,s⟩ (ma g))):aa.le (ba b 154 #[v,Z s]*ua 5 1 v l.length (dh l)*(ba D 145 (Gm cap usd M rd st dn fl lf kv)*(Ib prog 9 M (Sk g)*(pe ((zb n g).map (·.2))*Ba 1 kv kp.length (xf kp))))) (na D ⟨cap,Ac n ⟨l,s⟩ (ma g),st,dn,fl,lf,kp⟩):=by have i:n.length≤12:=e _ (Jf c);have h:aa.le (Ml (b,⟨l,s⟩)*(ba D 145 (Gm cap usd M rd st dn fl lf kv)*(Ib prog 9 M (Sk g)*(pe ((zb n g).map (·.2))*Ba 1 kv kp.length (xf kp))))) (Ir D cap usd M rd st dn fl lf kv kp (Sk g) (Ml (b,⟨l,s⟩)*pe ((zb n g).map (·.2)))):=KZ (Find.split (A:=Ir D cap usd M rd st dn fl lf kv kp (Sk g) (Ml (b,⟨l,s⟩)*pe ((zb n g).map (·.2))))) QZ;refine KZ (MZ Ms (JZ _)) (KZ h (Md (L:=(b,⟨l,s⟩)::(zb n g).map (·.2)) (g:=Ac n (b,⟨l,s⟩) g) k (Dj _ _ _ _) (ir a e i _) j (sG a c) ?_));exact((Oc a (v:=(b,(⟨l,s⟩:jc)))).map (·.2)).symm
end
theorem Oj(o:Option (Nat×jc)):pC true o= .tuple #[.pointer none,Z 61]:=rfl
theorem Pj:pC false none= .tuple #[.pointer none,Z 4]:=rfl
theorem Qj(b:Nat)(f:jc):pC false (some (b,f))= .tuple #[Da b,Z 0]:=rfl
theorem yq(fl:Bool)(lf:Nat):kL fl lf=if fl&&decide (lf=0)then lf else lf-1:=rfl
end
section
open Go.ChangeMaps (setBlock)
open Go.RowKit An Go.ChangeShapes Go.WideShapes Go.ChangeAt Go.Proofs.Tryz
def yG(es:Array MapEntry)(w:World)(r:Nat):Nat:=match w.heap[r]? with|some (.mapIter _ _ seen _)=>es.size-seen.size|_=>0
theorem fQ:(prog.info? 9).map (fun i=>(i.zero,i.size,i.bytes))=some (some (.string ⟨#[]⟩),1,16):=by kernel_rfl
theorem Y.DO{c w:World}{a b:Td}{S R:aa}{P:Program}{k:TypeId}{kv:List (Value×Value)}(h:Y c a b S w)(g:Nat)[f:ff g S P k kv R]:∃es clock,Uf P k es clock kv∧Y c a b (aa.obj g (.map es clock)*R) w:=by obtain⟨o,r,⟨i,l,j,m,⟨es,clock,d,e⟩,a2⟩,hu⟩:=h.le f.split;exact⟨es,clock,d,o,r,⟨i,l,j,m,e,a2⟩,hu⟩
theorem rI{P:Program}{k:TypeId}{kv:List (Value×Value)}{g:Nat}{es:Array MapEntry}{a:Nat}(h:Uf P k es a kv):aa.le (aa.obj g (.map es a)) (Ib P k g kv):=⟨fun {_ o r} b=>⟨o,r,⟨es,a,h,b⟩,fun _ h=>h,fun _ h=> .inr h⟩⟩
theorem map_inj{α β:Type}{f:α→β}{l:List α}(h:(l.map f).Nodup){x y:α}(e:x∈l)(g:y∈l)(d:f x=f y):x=y:=by
 induction l with
 |nil=>cases e
 |cons a l i=>
  simp only[qU,DV,nU,kZ,not_and]at h;rcases dU.1 e with b|b<;>rcases dU.1 g with c|c
  ·rw[b,c]
  ·exact absurd (d.symm.trans (eU f b)) (h.1 y c)
  ·exact absurd (d.trans (eU f c)) (h.1 x b)
  ·exact i h.2 b c
structure Seen(es:Array MapEntry)(seen:Array Nat)(done:List MapEntry):Prop where
 born:done.map (·.born)=seen.toList
 sub:∀e∈done,e∈es.toList
 nodup:(done.map (·.born)).Nodup
theorem Seen.step{es:Array MapEntry}{c:Array Nat}{done:List MapEntry}(h:Seen es c done){e:MapEntry}(g:e∈(leftOf es c).toList):Seen es (c.push e.born) (done++[e]):=by
 have f:e∈es.toList∧e.born∉c.toList:=by unfold leftOf at g;simp at g⊢;exact g
 refine⟨by simp[h.born],fun x d=> ?_,?_⟩
 ·rcases oU.1 d with d|d
  ·exact h.sub x d
  ·simp at d;rw[d];exact f.1
 ·rw[tV,bW];refine⟨h.nodup,by simp,fun a i b hb=> ?_⟩;simp at hb;subst hb;rintro rfl;rw[h.born]at i;exact f.2 i
theorem Seen.all{es:Array MapEntry}{a:Array Nat}{done:List MapEntry}(h:Seen es a done)(b:(es.toList.map (·.born)).Nodup)(j:(leftOf es a).size=0):done.Perm es.toList:=by
 have k:done.Nodup:=by have:=h.nodup;unfold List.Nodup at this⊢;rw[yV]at this;exact this.imp fun h e=>h (by rw[e])
 have he:es.toList.Nodup:=by unfold List.Nodup at b⊢;rw[yV]at b;exact b.imp fun h e=>h (by rw[e])
 refine(oY k he).2 fun x=>⟨h.sub x,fun c=> ?_⟩;have l:leftOf es a=#[]:=Array.eq_empty_of_size_eq_zero j;have g:x.born∈a.toList:=by
  apply YU;intro d;have:x∈(leftOf es a).toList:=by unfold leftOf;simp at c d⊢;exact⟨c,d⟩
  rw[l]at this;simp at this
 rw[←h.born]at g;obtain⟨y,i,he⟩:=nU.1 g;have:y=x:=map_inj (f:=fun e:MapEntry=>e.born) b (h.sub y i) c he;rw[←this];exact i
def WM:Value→Bs
 |.string s=>s.data.toList
 |_=> []
theorem RI{l:List Value}{m:List Bs}(h:l.Perm (jh m)):∃b,l=jh b∧b.Perm m:=by
 refine⟨l.map WM,?_,?_⟩
 ·have:∀x∈l,Ha (WM x)=x:=fun x c=>by obtain⟨n,_,rfl⟩:=nU.1 (h.mem_iff.1 c);rfl
  unfold jh;rw[CX];exact((nZ this).trans (List.map_id _)).symm
 ·have a:=h.map WM;unfold jh at a;rw[CX]at a;exact a.trans (.of_eq ((nZ (g:=id) fun n _=>rfl).trans (List.map_id _)))
theorem eB(D:Nat)(d:ja):Tr prog 79 #[Da D] (na D d) (fun v:Value=>v) (fun v=>ua 9 1 v d.names.length (jh d.names)*na D d):=by
 intro w o U F;obtain⟨cap,fs,st,dn,fl,lf,kp⟩:=d;have I0:=TZ F;obtain⟨M,rd,kv,g,rfl,hw,hr,hl,I⟩:=I0.Be D;have u:(ma g).length≤1000000:=KT hw.many (by decide);have t:=kr D cap (Ia (ma g)) M rd st dn fl lf kv;obtain⟨es,clock,Q,W⟩:=I.DO M;have hlen:es.size≤1000000:=by rw[Q.size];simpa [Sk,ma]using u
 have d3:w.cell? ⟨D,3,none⟩=some (.map (some M)):=W.cells D 3;have hM:w.heap[M]? =some (.map es clock):=W.obj;have S:∀m,(Instr.range 143 (.map (some M))).run prog (w.drewN m)= .ok (Da w.heap.size) ((w.drewN m).alloc (.mapIter (some M) clock #[] clock)):=by intro m;have ak:(w.drewN m).heap[M]? =some (.map es clock):=hM;simp[Instr.range,SU underlying143,BV ak,newObj,Sem.run,Result.andThen,World.alloc_eq];rfl
 have hc:=Md (D:=D) (M:=M) (rd:=rd) (kv:=kv) hw rfl hl rfl (.refl _) (.refl _);have j:(ja.names ⟨cap,ma g,st,dn,fl,lf,kp⟩)=g.map (·.1):=by simp[ja.names,ma]
 rw[j];clear F hw hl j u;go_enter func79,ntmps79;go_wp2_with fail;refine Y.ka I t fun m=> ?_;have J:Y w o U (aa.obj w.heap.size (.mapIter (some M) clock #[] clock)*_) ((w.drewN m).alloc (.mapIter (some M) clock #[] clock)):=(W.drewN m).new _;go_wp2_with fail;generalize av:w.heap.size=r at J⊢;have b:=V Q;have HR:=V hr;obtain⟨i9,hi,b0,b5,b6⟩:=info_parts fQ;clear av S d3 hM W I t I0 Q hr;go_loopw [3] (fun v wr=>∃seen done,Seen es seen done∧Y w o U (ua 9 1 v done.length (done.map (·.key))*(aa.obj r (.mapIter (some M) clock seen clock)*(aa.obj M (.map es clock)*(ba D 145 (Gm cap (Ia (ma g)) M rd st dn fl lf kv)*(pe (List.map (fun p:Bs×(Nat×jc)=>p.2) g)*Ba 1 kv kp.length (xf kp)))))) wr) (fun _ wr=>yG es wr r);case atStart=>refine⟨#[],[],⟨rfl,by simp,by simp⟩,?_⟩;have C:=(J.ya (A:=(aa.obj r (.mapIter (some M) clock #[] clock)*(aa.obj M (.map es clock)*(ba D 145 (Gm cap (Ia (ma g)) M rd st dn fl lf kv)*(pe (List.map (fun p:Bs×(Nat×jc)=>p.2) g)*Ba 1 kv kp.length (xf kp))))))).le (RZ trivial);exact(C.le (MZ (j0 9 1) (JZ _))).as
 case round=>
  obtain⟨seen,done,a,l⟩:=hrel;have f:wr.heap[r]? =some (.mapIter (some M) clock seen clock):=l.obj;have G:wr.heap[M]? =some (.map es clock):=l.obj;rcases run_next_at (P:=prog) wr 0 r M clock clock seen es clock f G b.out.Ie (FT _)with⟨F,q⟩|⟨e,he,w1,a7,q⟩
  ·have i:=Seen.all a b.out.born F;have a1:(done.map (·.key)).Perm (jh (g.map (·.1))):=by have C:=(b.out.perm.map (·.1));rw[CX]at C;refine(i.map (·.key)).trans (C.trans (.of_eq ?_));simp[Sk,jh,GY]
   obtain⟨ns,N,L⟩:=RI a1;have s:done.length=ns.length:=by have:=eU List.length N;simpa [jh]using this
   rw[N,s]at l;have z:=CF HR.out L;have K:ns.length=(g.map (·.1)).length:=L.length_eq;have tS:=yP u3 ns (by have:=i.length_eq;simp at this;omega);rw[z,K]at tS;rw[K]at l;clear i f G F a1 N s L z K;go_wp2_with fail;refine l.k1 tS fun w' E=> ?_;go_wp2;go_ret;exact⟨u3,rfl,E.via (KZ (MZ (JZ _) (MZ (rI b.out) (JZ _))) hc)|>.ya⟩
  ·obtain⟨p,hp,n⟩:∃p∈g,e.key=Ha p.1:=by have hm:=b.out.mem (x:=e) (by unfold leftOf at he;simp at he⊢;exact he.1);obtain⟨p,hp,h⟩:=nU.1 hm;exact⟨p,hp,(eU (·.1) h).symm⟩
   have B:=a.step he;have a8:done.length<es.size∧seen.size=done.length:=by have C:=List.Nodup.length_le_of_subset B.nodup (l₂:=es.toList.map (·.born)) (fun x hx=>by obtain⟨y,hy,rfl⟩:=nU.1 hx;exact nU.2 ⟨y,B.sub y hy,rfl⟩);have h2:=eU List.length a.born;simp at C h2;omega
   obtain⟨al,an⟩:=a8;obtain⟨w2,T⟩:∃w2,setBlock w1 r (.mapIter (some M) clock (seen.push e.born) clock)=w2:=⟨_,rfl⟩;have E:Y w o U (aa.obj r (.mapIter (some M) clock (seen.push e.born) clock)*(ua 9 1 u3 done.length (done.map (·.key))*(aa.obj M (.map es clock)*(ba D 145 (Gm cap (Ia (ma g)) M rd st dn fl lf kv)*(pe (List.map (fun p:Bs×(Nat×jc)=>p.2) g)*Ba 1 kv kp.length (xf kp)))))) w2:=by
    rw[←T];rcases a7 with rfl|rfl
    ·exact l.Ec (R:=ua 9 1 u3 done.length (done.map (·.key))*(aa.obj M (.map es clock)*(ba D 145 (Gm cap (Ia (ma g)) M rd st dn fl lf kv)*(pe (List.map (fun p:Bs×(Nat×jc)=>p.2) g)*Ba 1 kv kp.length (xf kp))))) (g:=r) (x:=.mapIter (some M) clock seen clock) (Um f) rfl rfl rfl (by simp[setBlock]) (fun k _ hk=>xp hk)
    ·exact l.drew.Ec (R:=ua 9 1 u3 done.length (done.map (·.key))*(aa.obj M (.map es clock)*(ba D 145 (Gm cap (Ia (ma g)) M rd st dn fl lf kv)*(pe (List.map (fun p:Bs×(Nat×jc)=>p.2) g)*Ba 1 kv kp.length (xf kp))))) (g:=r) (x:=.mapIter (some M) clock seen clock) (Um f) rfl rfl rfl (by simp[setBlock]) (fun k _ hk=>xp hk)
   have a6:w2.heap[r]? =some (.mapIter (some M) clock (seen.push e.born) clock):=E.obj;have X:w2.heap[M]? =some (.map es clock):=E.obj;have aj:=run_entry_at (P:=prog) _ r M clock seen es clock e a6 X (by unfold leftOf at he;simp at he⊢;exact he.1) b.out.born;rw[n]at aj q;rw[T]at q;have H:yG es wr r=es.size-seen.size:=by simp only[yG,f]
   have HD:=V H;have aq:es.size-(seen.size+1)<es.size-seen.size:=by omega
   clear H;have HS:=V B;have HK:=V n;have s:done.length+1≤1000000000:=by omega
   clear B n al an a6 X f G a he a7 T hp;go_wp2_with (refine Oa (v:=u3) [Ha p.1] 1 E rfl rfl underlying158 hi b0 b5 rfl rfl rfl rfl (by simp;rfl) s (by rw[b6];omega) ?_;intro A c w3 J3);go_roundw;case rel=>
    refine⟨seen.push e.born,done++[e],HS.out,?_⟩;have e1:(done++[e]).length=done.length+1:=by simp
    have e2:(done++[e]).map (·.key)=done.map (·.key)++[Ha p.1]:=by simp[HK.out]
    rw[e1,e2];exact J3.ya
   case measure=>have aM:w3.heap[r]? =some (.mapIter (some M) clock (seen.push e.born) clock):=J3.obj;rw[HD.out];simp only[yG,aM,Array.size_push];exact aq
end
section
open Go.RowKit An Go.ChangeShapes Go.WideShapes Go.ChangeAt Go.Proofs.Tryz
def Ge(Ga:List Int):Nat→Gh→Gh
 |_,[]=> []
 |i,p::r=>(p.1,(p.2.1,ja.Lc p.2.2 (ja.fj Ga i)))::Ge Ga (i+1) r
theorem zt(Ga:List Int):∀ (i:Nat) (g:Gh),ma (Ge Ga i g)=ja.cd Ga i (ma g)
 |_,[]=>rfl
 |i,p::r=>by have:=zt Ga (i+1) r;simp only[ma]at this⊢;simp[Ge,ja.cd,this]
theorem Xw(Ga:List Int):∀ (i:Nat) (g:Gh),Sk (Ge Ga i g)=Sk g
 |_,[]=>rfl
 |i,p::r=>by have:=Xw Ga (i+1) r;simp only[Sk]at this⊢;simp[Ge,this]
theorem Vk(Ga:List Int):∀ (i:Nat) (g:Gh),(Ge Ga i g).map (·.1)=g.map (·.1)
 |_,[]=>rfl
 |i,p::r=>by simp[Ge,Vk Ga (i+1) r]
theorem Ny(Ga:List Int)(i:Nat)(g:Gh):(Ge Ga i g).length=g.length:=by have:=eU List.length (Vk Ga i g);simpa using this
theorem zv(Ga:List Int):∀ (i:Nat) (g:Gh) (p:Bs×(Nat×jc)),Ge Ga i (g++[p])=Ge Ga i g++[(p.1,(p.2.1,ja.Lc p.2.2 (ja.fj Ga (i+g.length))))]
 |_,[],_=>rfl
 |i,q::r,p=>by simp only[TU,Ge,zv Ga (i+1) r p];simp[fY,Nat.add_left_comm]
def Zo(Ga:List Int)(g:Gh)(k:Nat):Gh:=Ge Ga 0 (g.take k)++g.drop k
theorem xI(Ga:List Int)(g:Gh):Zo Ga g 0=g:=by simp[Zo,Ge]
theorem EL(Ga:List Int)(g:Gh):Zo Ga g g.length=Ge Ga 0 g:=by simp[Zo]
theorem QO(Ga:List Int)(g:Gh)(k:Nat)(a:k<g.length):Zo Ga g k=Ge Ga 0 (g.take k)++g[k]::g.drop (k+1):=by rw[Zo,FU a]
theorem wI(Ga:List Int)(g:Gh)(k:Nat)(a:k<g.length):Zo Ga g (k+1)=Ge Ga 0 (g.take k)++(g[k].1,(g[k].2.1,ja.Lc g[k].2.2 (ja.fj Ga k)))::g.drop (k+1):=by rw[Zo,rU a,zv,iU];congr 2;simp[QU (Nat.le_of_lt a)]
theorem Km(a b:Gh):ma (a++b)=ma a++ma b:=by simp[ma]
theorem xr(a b:Hb):Ia (a++b)=Ia a+Ia b:=by simp[Ia]
theorem Oq(Ga:List Int):∀ (i:Nat) (g:Gh),Ia (ma (Ge Ga i g))≤Ia (ma g)
 |_,[]=>FT _
 |i,p::r=>by have:=Oq Ga (i+1) r;simp only[ma,Ia]at this⊢;simp only[Ge,qU,List.sum_cons,ja.Lc,OT];omega
theorem qJ(Ga:List Int)(g:Gh)(k:Nat):Ia (ma (Zo Ga g k))≤Ia (ma g):=by
 have a:=Oq Ga 0 (g.take k);have b:Ia (ma g)=Ia (ma (g.take k))+Ia (ma (g.drop k)):=by rw[←xr,←Km,tU]
 rw[Zo,Km,xr];omega
theorem xE{A B:List (Nat×jc)}{p:Nat×jc}:aa.le (pe (A++p::B)) (Ml p*pe (A++B)):=Jm (l':=p::(A++B)) List.perm_middle
theorem kC{A B:List (Nat×jc)}{p:Nat×jc}:aa.le (Ml p*pe (A++B)) (pe (A++p::B)):=Jm (l:=p::(A++B)) List.perm_middle.symm
theorem mE(f:jc)(b:f.ib≤f.data.length)(a:Int):(f.ib:Int)+min (max a 0) ((f.data.length:Int)-f.ib)=((min f.data.length (f.ib+a.toNat):Nat):Int):=by omega
theorem SH(f:jc)(a:f.ib≤f.data.length)(m:Nat):(⟨(ja.Cf f (min f.data.length (f.ib+m))).data,(ja.Cf f (min f.data.length (f.ib+m))).data.length⟩:jc)=ja.Lc f m:=by
 have:(f.data.take (min f.data.length (f.ib+m))).length=min f.data.length (f.ib+m):=by rw[OT];omega
 simp[ja.Cf,ja.Lc]
theorem oL{l w:World}{i j:Td}{S R:aa}{g:Gh}(h:Y l i j S w)(M:Nat)(n:Bs)(e:n.length≤1000){b:Nat}{f:jc}(d:Na n g=some (b,f))[k:Find (Ib prog 9 M (Sk g)) S R]:(Instr.lookup 143 (.map (some M)) (Ha n) false).run prog w= .ok (Da b) w:=by have m:ff M S prog 9 (Sk g) R:=⟨k.split⟩;obtain⟨es,clock,a,c⟩:=h.map M;exact(a.lookup xx underlying143 (w:=w) (b:=M) c (IB _) false (vq e)).1 _ (UA d)
theorem rD{α β:Type}{a:List (Bs×α)}{b:List (Bs×β)}(h:a.map (·.1)=b.map (·.1))(d:Zb a):Zb b:=by rw[af]at d⊢;have c:(a.map (·.1)).Pairwise fun x y=>blt x y=true:=yV.2 d;rw[h]at c;exact yV.1 c
theorem Gr(Ga:List Int):∀ (i:Nat) (g:Gh),∀p∈ma (Ge Ga i g),p.2.ib≤p.2.data.length
 |_,[],p,h=>by cases h
 |i,q::r,p,h=>by
  rcases dU.1 h with rfl|h
  ·simp[ja.Lc]
  ·exact Gr Ga (i+1) r p h
theorem yJ{cap:Nat}{st:Int}{dn fl:Bool}{lf:Nat}{kp:List Int}{g:Gh}(h:(⟨cap,ma g,st,dn,fl,lf,kp⟩:ja).Wf)(Ga:List Int):(⟨cap,ma (Ge Ga 0 g),st,true,false,0,[]⟩:ja).Wf:=⟨Th (rD (Vk Ga 0 g).symm (oP h.Db)),h.cap,KT (Oq Ga 0 g) h.Ia,Gr Ga 0 g,by show(0:Nat)<_;decide,by have:=h.many;simp only[ma,zU,Ny]at this⊢;exact this,WT _⟩
theorem Lx{sz:Nat}:aa.le aa.emp (Ba sz (O none 0 0) 0 []):=⟨fun {_ o r} h=>⟨o,r,⟨h.2.1,by simp,none,0,rfl,.inl ⟨rfl,h.2.2⟩⟩,fun _ h=>h,fun _ h=> .inr h⟩⟩
theorem ZF(D:Nat)(d:ja)(v:Value)(Ga:List Int)(an:Ga.length≤1000000):Ud prog 44 #[Da D,v] (na D d*Ba 1 v Ga.length (xf Ga)) (Z (if d.down then 61 else 0)) (na D (if d.down then d else d.Ve Ga)):=by
 intro w o r h0;obtain⟨cap,fs,st,dn,fl,lf,kp⟩:=d;have I0:=TZ h0;obtain⟨M,rd,kv,g,j,hw,hr,W,I⟩:=I0.Be D;have t:=mr D cap (Ia fs) M rd st dn fl lf kv;have tN:=eB D ⟨cap,fs,st,dn,fl,lf,kp⟩;have x:fs.length≤1000000:=KT hw.many (by decide);clear h0;cases dn with
 |true=>clear hw W hr x;simp only[dZ];go_enter func44,ntmps44;go_wp2_with fail;refine Y.ka I t fun m=> ?_;go_wp2;go_ret;exact⟨rfl,(I0.ya (A:=na D ⟨cap,fs,st,true,fl,lf,kp⟩)).as⟩
 |false=>
  simp only[KV,RX];obtain⟨N,hN⟩:∃N,N=(ja.names ⟨cap,fs,st,false,fl,lf,kp⟩).length:=⟨_,rfl⟩;rw[←hN]at tN;have HN:=V hN;clear hN;go_enter func44,ntmps44;go_wp2_with fail;refine Y.ka I t fun m=> ?_;go_wp2_with fail;refine((I0.drewN m).call tN).mono ?_;rintro e w1 ⟨nv,rfl,I1⟩;obtain⟨_,NA,nc,rfl⟩:=I1.Cd nv;clear W hr hw I I0 t tN j kv M rd;obtain⟨M,rd,kv,g,j,hw,hr,W,I⟩:=I1.Be D;have a1:(ja.names ⟨cap,fs,st,false,fl,lf,kp⟩)=g.map (·.1):=by rw[j];simp[ja.names,ma]
  rw[a1]at I;obtain rfl:N=g.length:=by rw[HN.out,a1];simp
  obtain⟨a6,KA,kc,rfl,C⟩:=I.sl v;go_wp2_with fail;have HW:=V hw;have HR:=V hr;have HL:=V W;have HF:=V j;have b6:g.length≤1000000:=by
   have:g.length=fs.length:=by rw[j];simp[ma]
   rw[this];exact x
  clear hw hr W a1 HN I1 x;go_loopw [18] (fun i wr=>∃k:Nat,k≤g.length∧i=Z k∧Y w o r (ba D 145 (Gm cap (Ia (ma (Zo Ga g k))) M rd st false fl lf kv)*(Ib prog 9 M (Sk g)*(pe (List.map (fun p:Bs×(Nat×jc)=>p.2) (Zo Ga g k))*(Ba 1 kv kp.length (xf kp)*(ua 9 1 (O NA g.length nc) g.length (jh (g.map (·.1)))*Xe KA Ga kc))))) wr) (fun i _=>g.length-(intOf i).toNat);case atStart=>refine⟨0,WT _,rfl,?_⟩;rw[xI,←j];exact I.ya
  case round=>
   obtain⟨k,hk,rfl,J⟩:=hrel;by_cases E:k<g.length
   ·obtain⟨⟨nk,b,f⟩,K⟩:∃p,g[k]=p:=⟨_,rfl⟩;have y:(nk,(b,f))∈g:=by rw[←K];exact XT E
    have ak:=Ji (Pb HR.out) y;have av:nk.length≤12:=HL.out _ y;have F:f.ib≤f.data.length:=HW.out.ib (nk,f) (by rw[HF.out];exact nU.2 ⟨_,y,rfl⟩);have L:=oL J M nk (by omega) ak;have d3:wr.cell? ⟨D,3,none⟩=some (.map (some M)):=J.cells D 3;obtain⟨ng,rfl,aq⟩:=J.Mc (A:=NA) (c:=nc) (n:=g.length) (uY (by simp only[jh,zU];omega));have c7:wr.cell? ⟨ng,k,none⟩=some (Ha nk):=aq k _ (by simp[jh,E,K]);have hM:=QO Ga g k E;have B:=wI Ga g k E;rw[K]at hM B;have b0:Ia (ma (Zo Ga g k))≤1048576:=KT (qJ Ga g k) (by rw[←HF.out];exact KT HW.out.Ia HW.out.cap);have hU:Ia (ma (Zo Ga g k))=Ia (ma (Ge Ga 0 (g.take k)))+(f.data.length+Ia (ma (g.drop (k+1)))):=by rw[hM,Km,xr];simp[ma,Ia]
    have Q:Ia (ma (Zo Ga g (k+1)))=Ia (ma (Zo Ga g k))-(f.data.length-min f.data.length (f.ib+ja.fj Ga k)):=by rw[hU,B,Km,xr];simp only[ma,Ia,qU,List.sum_cons,ja.Lc,OT];omega
    have tc:=aQ D cap (Ia (ma (Zo Ga g k))) M rd st false fl lf kv b f (min f.data.length (f.ib+ja.fj Ga k)) b0 (by omega) (by omega);rw[←Q]at tc;have G:Y w o r (ba D 145 (Gm cap (Ia (ma (Zo Ga g k))) M rd st false fl lf kv)*(Ib prog 9 M (Sk g)*((Ml (b,f)*pe ((Ge Ga 0 (g.take k)).map (fun p:Bs×(Nat×jc)=>p.2)++(g.drop (k+1)).map (fun p:Bs×(Nat×jc)=>p.2)))*(Ba 1 kv kp.length (xf kp)*(ua 9 1 (O (some ⟨ng,0,none⟩) g.length nc) g.length (jh (g.map (·.1)))*Xe KA Ga kc))))) wr:=by refine J.le (MZ (JZ _) (MZ (JZ _) (MZ ?_ (JZ _))));rw[hM,tV,qU];exact xE
    have R:=SH f F (ja.fj Ga k);have S:aa.le (Ml (b,ja.Lc f (ja.fj Ga k))*pe ((Ge Ga 0 (g.take k)).map (fun p:Bs×(Nat×jc)=>p.2)++(g.drop (k+1)).map (fun p:Bs×(Nat×jc)=>p.2))) (pe ((Zo Ga g (k+1)).map (fun p:Bs×(Nat×jc)=>p.2))):=by rw[B,tV,qU];exact kC
    obtain⟨FA,fc,H⟩:=Yq (p:=(b,f)) G;have g0:wr.cell? ⟨b,0,none⟩=some (O FA f.data.length fc):=H.cells b 0;have g1:wr.cell? ⟨b,1,none⟩=some (Z f.ib):=H.cells b 1;have bt:f.data.length≤1048576:=by omega
    have a:=mE f F (Ga.getD k 0);have U:(Ga.getD k 0).toNat=ja.fj Ga k:=rfl;rw[U]at a;generalize aM:min f.data.length (f.ib+ja.fj Ga k)=u at tc R a Q;have c0:u≤f.data.length:=by omega
    clear hM B b0 hU y ak K aq Q H J;have bn:=V aM;have b5:=V R;clear aM R;by_cases b7:k<Ga.length;case' pos=>
     obtain⟨kb,a7,rfl,_,T⟩:=C (uY (by simp only[xf,zU];omega));have aj:wr.cell? ⟨kb,a7+k,none⟩=some (Z (Ga.getD k 0)):=by obtain⟨_,bs,c1,P,h⟩:=G.sl (O (some ⟨kb,a7,none⟩) Ga.length kc);obtain⟨b',bm,hb,_,a8⟩:=h (uY (by simp only[xf,zU];omega));injection P with P;rw[hb]at P;injection P with P;injection P with e1 e2;rw[e1,e2];exact a8 k _ (by simp[xf,b7,kU])
     generalize Ga.getD k 0=ki at aj a;have bc:IntKind.i64.wrap ((f.data.length:Int)-f.ib)=(f.data.length:Int)-f.ib:=RT _ (by omega);have bf:IntKind.i64.wrap ((f.ib:Int)+min (max ki 0) ((f.data.length:Int)-f.ib))=u:=by rw[a];exact RT _ (by omega)
     clear C T U j a6 a F av an;go_wp2_with fail
    case' neg=>
     have al:Ga.getD k 0=0:=by rw[kU,dW (by omega)];rfl
     rw[al]at a;have bc:IntKind.i64.wrap ((f.data.length:Int)-f.ib)=(f.data.length:Int)-f.ib:=RT _ (by omega);have bf:IntKind.i64.wrap ((f.ib:Int)+min 0 ((f.data.length:Int)-f.ib))=u:=by rw[←a];exact RT _ (by omega)
     clear C U j a6 a F av al;go_wp2_with fail
    all_goals
     go_still_tail 19,(by kernel_rfl);change wpList _ _ _ _ _ wr.drew;go_wp2_with fail;refine(G.drew.Fm tc).mono ?_;rintro e w2 ⟨rfl,J3⟩;obtain⟨FB,fd,J4⟩:=Yq (p:=(b,ja.Cf f u)) J3;have q0:w2.cell? ⟨b,0,none⟩=some (O FB (ja.Cf f u).data.length fd):=J4.cells b 0;have q1:w2.cell? ⟨b,1,none⟩=some (Z (ja.Cf f u).ib):=J4.cells b 1;have q2:w2.frozen? ⟨b,1,none⟩=false:=J4.free b 1;go_wp2;go_roundw;case rel=>refine⟨k+1,by omega,by go_num,?_⟩;have J5:=(J4.ra b 1 (Z (ja.Cf f u).data.length) #[O FB (ja.Cf f u).data.length fd,Z (ja.Cf f u).data.length]).via (Ms (b:=b) (v:=O FB (ja.Cf f u).data.length fd) (s:=(ja.Cf f u).data.length) (l:=(ja.Cf f u).data));rw[b5.out]at J5;exact(J5.via S).ya
     case measure=>simp[intOf];omega
   ·obtain rfl:k=g.length:=by omega
    rw[EL]at J;obtain rfl:fs=ma g:=HF.out;have e:ja.Ve ⟨cap,ma g,st,false,fl,lf,kp⟩ Ga=⟨cap,ma (Ge Ga 0 g),st,true,false,0,[]⟩:=by simp[ja.Ve,zt]
    have z:∀p∈Ge Ga 0 g,p.1.length≤12:=fun p K=>by have h1:p.1∈(Ge Ga 0 g).map (·.1):=nU.2 ⟨p,K,rfl⟩;rw[Vk]at h1;obtain⟨q,hq,b9⟩:=nU.1 h1;rw[←b9];exact HL.out q hq
    have hc:=Md (D:=D) (M:=M) (rd:=rd) (kv:=O none 0 0) (yJ HW.out Ga) rfl z rfl (.refl _) (.refl _);rw[Xw]at hc;have f6:∀i,wr.frozen? ⟨D,i,none⟩=false:=J.free D;have d6:wr.cell? ⟨D,6,none⟩=some (.bool false):=J.cells D 6;have d7:wr.cell? ⟨D,7,none⟩=some (.bool fl):=J.cells D 7;have d8:wr.cell? ⟨D,8,none⟩=some (Z lf):=J.cells D 8;have d9:wr.cell? ⟨D,9,none⟩=some kv:=J.cells D 9;have G:=(((J.ra D 6 (.bool true) (Gm cap (Ia (ma (Ge Ga 0 g))) M rd st true fl lf kv)).ra D 7 (.bool false) (Gm cap (Ia (ma (Ge Ga 0 g))) M rd st true false lf kv)).ra D 8 (Z 0) (Gm cap (Ia (ma (Ge Ga 0 g))) M rd st true false 0 kv)).ra D 9 (O none 0 0) (Gm cap (Ia (ma (Ge Ga 0 g))) M rd st true false 0 (O none 0 0));have X:aa.le aa.emp (Ba 1 (O none 0 0) ([]:List Int).length (xf [])):=Lx;have H:=((G.le (RZ trivial)).le (MZ X (JZ _))).Qq hc;rw[←e]at H;clear e hc G J z X C a6 I HL HR b6 an;go_wp2;go_ret;exact⟨rfl,H.as⟩
theorem ku(D:Nat)(d:ja)(k:d.down=false):Ud prog 202 #[Da D] (na D d) (Z 61) (na D d.sink):=by intro w o r c;obtain⟨cap,fs,st,dn,fl,lf,kp⟩:=d;obtain rfl:dn=false:=k;have b:=TZ c;obtain⟨M,rd,kv,g,a,hw,l,f,I⟩:=b.Be D;have h:=ZF D ⟨cap,fs,st,false,fl,lf,kp⟩ kv kp hw.kept;have d9:w.cell? ⟨D,9,none⟩=some kv:=I.cells D 9;have e:=Md (D:=D) (M:=M) (rd:=rd) (kv:=kv) (L:=g.map (·.2)) hw a f rfl (.refl _) (.refl _);have i:Y w o r (na D ⟨cap,fs,st,false,fl,lf,kp⟩*Ba 1 kv kp.length (xf kp)) w:=(I.le (MZ (MZ (JZ _) (MZ (JZ _) (MZ (JZ _) j1))) (JZ _))).via (A:=Ir D cap (Ia fs) M rd st false fl lf kv kp (Sk g) (pe (g.map (·.2)))) e|>.ya;simp only[KV,RX]at h;show Calls _ _ _ _ _;rw[show ja.sink ⟨cap,fs,st,false,fl,lf,kp⟩=ja.Ve ⟨cap,fs,st,false,fl,lf,kp⟩ kp from rfl];clear hw a l f e I b c;go_enter func202,ntmps202;go_wp2_with fail;refine Y.k1 i h fun w' j=> ?_;go_wp2;go_ret;exact⟨rfl,(j.le QZ).as⟩
theorem Dn(D:Nat)(d:ja)(n:Bs)(k:n.length≤1000):Pp prog 41 #[Da D,Ha n] (na D d) (.tuple #[Z (d.size n).2,Z (d.size n).1]):=by
 intro w o r h;obtain⟨cap,fs,st,dn,fl,lf,kp⟩:=d;obtain⟨M,rd,kv,g,rfl,hw,i,j,I⟩:=(TZ h).Be D;have t:=Ns D cap (Ia (ma g)) M rd st dn fl lf kv g n k;simp only[ja.size,bd];clear hw j h;cases dn with
 |true=>rw[Oj]at t;go_enter func41,ntmps41;go_wp2_with fail;refine Y.ka I t fun m=> ?_;go_wp2;go_ret2;exact⟨rfl,m,rfl⟩
 |false=>
  cases a:Na n g with
  |none=>rw[a,Pj]at t;clear a;go_enter func41,ntmps41;go_wp2_with fail;refine Y.ka I t fun m=> ?_;go_wp2;go_ret2;exact⟨rfl,m,rfl⟩
  |some v=>obtain⟨b,f⟩:=v;rw[a,Qj]at t;obtain⟨A,c,e⟩:=I.focus (Pb i) a;have l:w.cell? ⟨b,0,none⟩=some (O A f.data.length c):=e.cells b 0;clear a i e;go_enter func41,ntmps41;go_wp2_with fail;refine Y.ka I t fun m=> ?_;go_wp2;go_ret2;exact⟨rfl,m,rfl⟩
theorem ou(D:Nat)(d:ja)(n:Bs)(E:n.length≤1000):Ud prog 237 #[Da D,Ha n] (na D d) (Z (d.sync n).1) (na D (d.sync n).2):=by
 intro w o r y;obtain⟨cap,fs,st,dn,fl,lf,kp⟩:=d;have s:=TZ y;obtain⟨M,rd,kv,g,rfl,hw,l,k,I⟩:=s.Be D;have t:=Ns D cap (Ia (ma g)) M rd st dn fl lf kv g n E;have i:=jq D cap (Ia (ma g)) M rd st dn fl lf kv hw.left;clear y;cases dn with
 |true=>
  rw[Oj]at t;have e:ja.sync ⟨cap,ma g,st,true,fl,lf,kp⟩ n=(61,⟨cap,ma g,st,true,fl,lf,kp⟩):=by simp[ja.sync]
  rw[e];clear hw k l i e;go_enter func237,ntmps237;go_wp2_with fail;refine Y.ka I t fun m=> ?_;go_wp2;go_ret;exact⟨rfl,s.drewN m⟩
 |false=>
  cases h:Na n g with
  |none=>
   rw[h,Pj]at t;have e:ja.sync ⟨cap,ma g,st,false,fl,lf,kp⟩ n=(4,⟨cap,ma g,st,false,fl,lf,kp⟩):=by simp[ja.sync,bd,h]
   rw[e];clear h hw k l i e;go_enter func237,ntmps237;go_wp2_with fail;refine Y.ka I t fun m=> ?_;go_wp2;go_ret;exact⟨rfl,s.drewN m⟩
  |some v=>
   obtain⟨b,f⟩:=v;rw[h,Qj]at t;rw[yq]at i;have a:Na n (ma g)=some f:=by rw[bd,h];rfl
   cases p:fl&&decide (lf=0)with
   |true=>
    rw[p,JT rfl]at i;have e:ja.sync ⟨cap,ma g,st,false,fl,lf,kp⟩ n=(61,ja.sink ⟨cap,ma g,st,false,fl,lf,kp⟩):=by simp[ja.sync,a,ja.Pe,p]
    rw[e];have F:=ku D ⟨cap,ma g,st,false,fl,lf,kp⟩ rfl;have x:=Md (D:=D) (M:=M) (rd:=rd) (kv:=kv) hw rfl k rfl (.refl _) (.refl _);clear h hw k l p e a;go_enter func237,ntmps237;go_wp2_with fail;refine Y.ka I t fun m=> ?_;go_wp2_with fail;refine Y.k1 (I.drewN m) i fun w' j=> ?_;go_wp2_with fail;refine((j.via x).Fm F).mono ?_;rintro e w' ⟨rfl,C⟩;go_wp2;go_ret;exact⟨rfl,C.ya⟩
   |false=>
    rw[p,DT (by simp)]at i;have q:=hw.Db;have hu:=tj q a;have B:=kA (lf':=lf-1) (f':=⟨f.data,f.data.length⟩) hw a (BY _ _) (FT _) (by have:Ia (ma g)≤cap:=hw.Ia;show Ia (ma g)-f.data.length+f.data.length≤cap;simp only at hu;omega);have z:Ia (ma g)=Ia (Ac n ⟨f.data,f.data.length⟩ (ma g)):=by rw[rm (fs:=ma g) q];exact hu
    have e:ja.sync ⟨cap,ma g,st,false,fl,lf,kp⟩ n=(0,⟨cap,Ac n ⟨f.data,f.data.length⟩ (ma g),st,false,fl,lf-1,kp⟩):=by simp[ja.sync,a,ja.Pe,p,ja.tick]
    rw[e];obtain⟨A,c,u⟩:=I.focus (Pb l) h;have x:=lr (D:=D) (M:=M) (rd:=rd) (kv:=kv) (O A f.data.length c) B l k h z;have G:w.cell? ⟨b,0,none⟩=some (O A f.data.length c):=u.cells b 0;clear hw k l p h hu B z I e a q;go_enter func237,ntmps237;go_wp2_with fail;refine Y.ka u t fun m=> ?_;go_wp2_with fail;refine Y.k1 (u.drewN m) i fun w' j=> ?_;have H:w'.cell? ⟨b,0,none⟩=some (O A f.data.length c):=j.cells b 0;have c2:w'.cell? ⟨b,1,none⟩=some (Z f.ib):=j.cells b 1;have f2:w'.frozen? ⟨b,1,none⟩=false:=j.free b 1;go_wp2;go_ret;exact⟨rfl,(j.ra b 1 (Z f.data.length) #[O A f.data.length c,Z f.data.length]).Qq x⟩
theorem xt(l:Bs):byteCells (mk l)=dh l:=by simp[byteCells,dh,mk]
theorem xo{q w:World}{o p:Td}{S R:aa}{e:Array Oper}{b:List Oper}{d:Oper}{a:Act}{Q:Exit→Act→World→Prop}{s x:Operand}{n:Nat}{xs:List Value}{v:Value}(l:Bs) (h:Y q o p S w) (g:d.guard=none) (t:d.op= .call {callee:=.builtin .append,args:=#[s,x],argTypes:=#[152,9]}) (y:a.eval s=v) [k:Gd v S 5 1 n xs R] (z:a.eval x=Ha l) (C:n+l.length≤1000000000) (r:∀A c w',Y q o p (ua 5 1 (O A (n+l.length) c) (n+l.length) (xs++dh l)*R) w'→wpList prog e Q b (a.put d.dst (O A (n+l.length) c)) w'):wpList prog e Q (d::b) a w:=by
 obtain⟨i5,hi,i,j,m⟩:=info_parts Ov;have u:Src prog 1 9 (a.eval x) l.length (dh l) w:=by
  rw[z,←xt];have:=Src.ofString (P:=prog) w underlying9 (mk l)
  rwa [Ph]at this
 refine kf h g t underlying152 hi i j rfl y u (by unfold maxLen;omega) (by rw[m];omega) fun B w' f=> ?_;obtain⟨_,A,c,rfl⟩:=f.Cd B;exact r A c w' f
theorem Ln(D:Nat)(d:ja)(n s:Bs)(hn:n.length≤1000)(hs:s.length≤100000000):Ud prog 232 #[Da D,Ha n,Ha s] (na D d) (Z (d.append n s).1) (na D (d.append n s).2):=by
 intro w o r R;obtain⟨cap,fs,st,dn,fl,lf,kp⟩:=d;have C:=TZ R;obtain⟨M,rd,kv,g,rfl,hw,p,x,I⟩:=C.Be D;have t:=Ns D cap (Ia (ma g)) M rd st dn fl lf kv g n hn;clear R;cases dn with
 |true=>
  rw[Oj]at t;have e:ja.append ⟨cap,ma g,st,true,fl,lf,kp⟩ n s=(61,⟨cap,ma g,st,true,fl,lf,kp⟩):=by simp[ja.append]
  rw[e];clear hw x p e;go_enter func232,ntmps232;go_wp2_with fail;refine Y.ka I t fun m=> ?_;go_wp2;go_ret;exact⟨rfl,C.as⟩
 |false=>
  cases j:Na n g with
  |none=>
   rw[j,Pj]at t;have e:ja.append ⟨cap,ma g,st,false,fl,lf,kp⟩ n s=(4,⟨cap,ma g,st,false,fl,lf,kp⟩):=by simp[ja.append,bd,j]
   rw[e];clear j hw x p e;go_enter func232,ntmps232;go_wp2_with fail;refine Y.ka I t fun m=> ?_;go_wp2;go_ret;exact⟨rfl,C.as⟩
  |some v=>
   obtain⟨b,f⟩:=v;rw[j,Qj]at t;have h:Na n (ma g)=some f:=by rw[bd,j];rfl
   have u:cap≤1048576:=hw.cap;have H:Ia (ma g)≤cap:=hw.Ia;have a7:w.cell? ⟨D,1,none⟩=some (Z cap):=I.cells D 1;have a8:w.cell? ⟨D,2,none⟩=some (Z (Ia (ma g))):=I.cells D 2;generalize l:Ia (ma g)=U at*;have a6:U≤1048576:=KT H u;have aj:IntKind.i64.wrap ((cap:Int)-U)=(cap:Int)-U:=RT _ (by omega);by_cases a:(cap:Int)-U<s.length
   ·have e:ja.append ⟨cap,ma g,st,false,fl,lf,kp⟩ n s=(60,⟨cap,ma g,st,false,fl,lf,kp⟩):=by simp[ja.append,h,ja.free,l,a]
    rw[e];clear j hw x p e h l;go_enter func232,ntmps232;go_wp2_with fail;refine Y.ka I t fun m=> ?_;go_wp2_with fail;go_quiet (fail);go_wp2;go_ret;exact⟨rfl,C.as⟩
   ·have W:¬ ((s.length:Int)>(cap:Int)-U):=by omega
    have J:=jq D cap (U+s.length) M rd st false fl lf kv hw.left;rw[yq]at J;have z:Zb (ma g):=hw.Db;have hu:=tj z h;have hle:f.ib≤f.data.length:=hw.ib _ (Jf h);have y:U+s.length=Ia (Ac n ⟨f.data++s,f.ib⟩ (ma g)):=by rw[rm z,←l,hu];simp;omega
    have K:=fun lf' (S:lf'≤lf)=>kA (lf':=lf') (f':=⟨f.data++s,f.ib⟩) hw h S (by simp;omega) (by rw[l];simp;omega);obtain⟨A,c,F⟩:=I.focus (Pb p) j;have g0:w.cell? ⟨b,0,none⟩=some (O A f.data.length c):=F.cells b 0;have N:f.data.length≤1048576:=by omega
    have L:f.data.length+s.length≤1000000000:=by omega
    have hlen:(f.data++s).length=f.data.length+s.length:=CT;have B:dh f.data++dh s=dh (f.data++s):=by simp[dh]
    cases E:fl&&decide (lf=0)with
    |true=>
     rw[E,JT rfl]at J;have e:ja.append ⟨cap,ma g,st,false,fl,lf,kp⟩ n s=(61,ja.sink ⟨cap,Ac n ⟨f.data++s,f.ib⟩ (ma g),st,false,fl,lf,kp⟩):=by simp[ja.append,h,ja.free,l,a,ja.Pe,E]
     rw[e];have ts:=ku D ⟨cap,Ac n ⟨f.data++s,f.ib⟩ (ma g),st,false,fl,lf,kp⟩ rfl;have G:=fun v=>lr (D:=D) (M:=M) (rd:=rd) (kv:=kv) v (K lf (FT _)) p x j y;simp only[hlen,←B]at G;clear hw x p E j hu K l y I e h z a B hlen hle H u N C;go_enter func232,ntmps232;go_wp2_with fail;refine Y.ka F t fun m=> ?_;go_wp2_with fail;go_quiet (fail);go_wp2_with (refine xo (v:=O A f.data.length c) s F.as rfl rfl rfl rfl L ?_;intro q c' k i;have a0:k.cell? ⟨b,0,none⟩=some (O A f.data.length c):=i.cells b 0;have a1:k.frozen? ⟨b,0,none⟩=false:=i.free b 0;have a2:k.cell? ⟨D,2,none⟩=some (Z U):=i.cells D 2;have a3:k.frozen? ⟨D,2,none⟩=false:=i.free D 2;have T:b≠D:=i.ne b D);have P:=(i.ra b 0 (O q (f.data.length+s.length) c') #[O q (f.data.length+s.length) c',Z f.ib]).ra D 2 (Z ((U:Int)+s.length)) (Gm cap (U+s.length) M rd st false fl lf kv);refine P.k1 J fun w' Q=> ?_;go_wp2_with fail;refine Y.k1 (Q.via (G (O q (f.data.length+s.length) c'))) ts fun w' X=> ?_;go_wp2;go_ret;exact⟨rfl,X.ya⟩
    |false=>
     rw[E,DT (by simp)]at J;have e:ja.append ⟨cap,ma g,st,false,fl,lf,kp⟩ n s=(0,⟨cap,Ac n ⟨f.data++s,f.ib⟩ (ma g),st,false,fl,lf-1,kp⟩):=by simp[ja.append,h,ja.free,l,a,ja.Pe,E,ja.tick]
     rw[e];have G:=fun v=>lr (D:=D) (M:=M) (rd:=rd) (kv:=kv) v (K (lf-1) (BY _ _)) p x j y;simp only[hlen,←B]at G;clear hw x p E j hu K l y I e h z a B hlen hle H u N C;go_enter func232,ntmps232;go_wp2_with fail;refine Y.ka F t fun m=> ?_;go_wp2_with fail;go_quiet (fail);go_wp2_with (refine xo (v:=O A f.data.length c) s F.as rfl rfl rfl rfl L ?_;intro q c' k i;have a0:k.cell? ⟨b,0,none⟩=some (O A f.data.length c):=i.cells b 0;have a1:k.frozen? ⟨b,0,none⟩=false:=i.free b 0;have a2:k.cell? ⟨D,2,none⟩=some (Z U):=i.cells D 2;have a3:k.frozen? ⟨D,2,none⟩=false:=i.free D 2;have T:b≠D:=i.ne b D);have P:=(i.ra b 0 (O q (f.data.length+s.length) c') #[O q (f.data.length+s.length) c',Z f.ib]).ra D 2 (Z ((U:Int)+s.length)) (Gm cap (U+s.length) M rd st false fl lf kv);refine P.k1 J fun w' Q=> ?_;go_wp2;go_ret;exact⟨rfl,Q.Qq (G (O q (f.data.length+s.length) c'))⟩
theorem ZA{i w:World}{e f:Td}{S R:aa}{g:Gh}(h:Y i e f S w)(M:Nat)(n:Bs)(d:n.length≤1000)[k:Find (Ib prog 9 M (Sk g)) S R]:(Instr.lookup 143 (.map (some M)) (Ha n) true).run prog w= .ok (match Na n g with|some (b,_)=> .tuple #[Da b,.bool true]|none=> .tuple #[.pointer none,.bool false]) w:=by
 have j:ff M S prog 9 (Sk g) R:=⟨k.split⟩;obtain⟨es,clock,a,c⟩:=h.map M;have L:=a.lookup xx underlying143 (w:=w) (b:=M) c (IB _) true (vq d);cases h:Na n g with
 |some v=>exact L.1 _ (UA h)
 |none=>exact L.2 (rG h)
theorem As{q w:World}{o p:Td}{S R:aa}{g:Gh}{e:Array Oper}{d:List Oper}{c:Oper}{a:Act}{Q:Exit→Act→World→Prop}{m x:Operand}(M:Nat)(n:Bs)(u:n.length≤1000) (h:Y q o p S w) (j:c.guard=none) (v:c.op= .call {callee:=.builtin .delete,args:=#[m,x],argTypes:=#[143,9]}) (t:a.eval m= .map (some M)) (y:a.eval x=Ha n) [k:Find (Ib prog 9 M (Sk g)) S R] (r:∀w',Y q o p (Ib prog 9 M (Sk (zb n g))*R) w'→wpList prog e Q d (a.put c.dst (.tuple #[])) w'):wpList prog e Q (c::d) a w:=by have A:ff M S prog 9 (Sk g) R:=⟨k.split⟩;obtain⟨es,clock,l,s⟩:=h.map M;obtain⟨z,f,b⟩:=l.delete xx underlying143 s (vq u) 9 c.type;rw[Cv]at b;refine IX j fun K i=> ?_;unfold Oper.wp execOp;simp only[v,resolve,invoke,builtin,wW,YV,GV,uW,qU,gX,t,y,f];exact i _ _ (r _ (h.fv M b))
theorem Cs{s w:World}{q r:Td}{S R:aa}{g:Gh}{f:Array Oper}{d:List Oper}{e:Oper}{a:Act}{Q:Exit→Act→World→Prop}{m x y:Operand}(M:Nat)(n:Bs)(b:Nat)(z:n.length≤1000) (h:Y s q r S w) (o:e.guard=none) (A:e.op= .mapUpdate 143 m x y) (v:a.eval m= .map (some M)) (B:a.eval x=Ha n) (C:a.eval y=Da b) [k:Find (Ib prog 9 M (Sk g)) S R] (t:∀w',Y s q r (Ib prog 9 M ((Ha n,Da b)::Sk (zb n g))*R) w'→wpList prog f Q d (a.put e.dst undef) w'):wpList prog f Q (e::d) a w:=by have E:ff M S prog 9 (Sk g) R:=⟨k.split⟩;obtain⟨es,clock,p,u⟩:=h.map M;obtain⟨D,j,i,c⟩:=p.store xx underlying143 u (Da b) (vq z) (.inl ⟨_,rfl⟩);rw[Cv]at c;refine IX o fun K l=> ?_;unfold Oper.wp execOp;simp only[A,v,B,C,wW,YV,GV,i];exact l _ _ (t _ (h.fv M c))
theorem dG(D cap U M:Nat)(rd st:Int)(dn fl:Bool)(lf:Nat)(kv:Value)(kp:List Int)(g:Gh)(n:Bs)(q:n.length≤1000)(d:Zb g)(u:U≤1048576)(e:Ia (ma g)=U):Ud prog 203 #[Da D,Ha n] (Ir D cap U M rd st dn fl lf kv kp (Sk g) (pe (g.map (·.2)))) (.tuple #[]) (Ir D cap (Ia (ma (zb n g))) M rd st dn fl lf kv kp (Sk (zb n g)) (pe ((zb n g).map (·.2)))):=by
 intro w o r p;have I:=TZ p;have d3:w.cell? ⟨D,3,none⟩=some (.map (some M)):=I.cells D 3;have l:=ZA (g:=g) I M n q;clear p;cases h:Na n g with
 |none=>rw[h]at l;rw[Ob h,e];clear h e d;go_enter func203,ntmps203;go_wp2;go_end0;exact⟨rfl,I⟩
 |some v=>
  obtain⟨b,f⟩:=v;rw[h]at l;have i:Na n (ma g)=some f:=by rw[bd,h];rfl
  have j:Zb (ma g):=(Co fun v:Nat×jc=>v.2).2 d;have k:=tj j i;rw[e,oh]at k;have x:IntKind.i64.wrap ((U:Int)-f.data.length)=(Ia (ma (zb n g)):Int):=by rw[RT _ (by omega)];omega
  obtain⟨A,c,a⟩:=I.le (KZ (RZ trivial) NZ)|>.focus (Pb d) h;have z:w.cell? ⟨b,0,none⟩=some (O A f.data.length c):=a.cells b 0;have d2:w.cell? ⟨D,2,none⟩=some (Z U):=a.cells D 2;have f2:w.frozen? ⟨D,2,none⟩=false:=a.free D 2;have y:b≠D:=a.ne b D;generalize Ia (ma (zb n g))=m at*;have s:=(a.drew.ra D 2 (Z m) (Gm cap m M rd st dn fl lf kv));clear h e d i j k I a u;go_enter func203,ntmps203;go_wp2_with fail;go_still_tail 12,(by kernel_rfl);change wpList _ _ _ _ _ w.drew;go_wp2_with (refine As (g:=g) M n q s.as rfl rfl rfl rfl ?_;intro B t);go_end0;exact⟨rfl,t.ya⟩
theorem Uu{g:Gh}(h:∀p∈g,p.1.length≤12)(n:Bs):∀p∈zb n g,p.1.length≤12:=fun p a=>h p (vU.1 a).1
theorem xl(D:Nat)(d:ja)(n:Bs)(y:n.length≤1000):Ud prog 156 #[Da D,Ha n] (na D d) (Z (d.delete n).1) (na D (d.delete n).2):=by
 intro w o r x;obtain⟨cap,fs,st,dn,fl,lf,kp⟩:=d;have p:=TZ x;obtain⟨M,rd,kv,g,rfl,hw,k,i,I⟩:=p.Be D;have t:=Ns D cap (Ia (ma g)) M rd st dn fl lf kv g n y;have c:=jq D cap (Ia (ma g)) M rd st dn fl lf kv hw.left;clear x;cases dn with
 |true=>
  rw[Oj]at t;have e:ja.delete ⟨cap,ma g,st,true,fl,lf,kp⟩ n=(61,⟨cap,ma g,st,true,fl,lf,kp⟩):=by simp[ja.delete]
  rw[e];clear hw i k c e;go_enter func156,ntmps156;go_wp2_with fail;refine Y.ka I t fun m=> ?_;go_wp2;go_ret;exact⟨rfl,p.as⟩
 |false=>
  cases a:Na n g with
  |none=>
   rw[a,Pj]at t;have e:ja.delete ⟨cap,ma g,st,false,fl,lf,kp⟩ n=(4,⟨cap,ma g,st,false,fl,lf,kp⟩):=by simp[ja.delete,bd,a]
   rw[e];clear a hw i k c e;go_enter func156,ntmps156;go_wp2_with fail;refine Y.ka I t fun m=> ?_;go_wp2;go_ret;exact⟨rfl,p.as⟩
  |some v=>
   obtain⟨b,f⟩:=v;rw[a,Qj]at t;rw[yq]at c;have h:Na n (ma g)=some f:=by rw[bd,a];rfl
   cases j:fl&&decide (lf=0)with
   |true=>
    rw[j,JT rfl]at c;have e:ja.delete ⟨cap,ma g,st,false,fl,lf,kp⟩ n=(61,ja.sink ⟨cap,ma g,st,false,fl,lf,kp⟩):=by simp[ja.delete,h,ja.Pe,j]
    rw[e];have E:=ku D ⟨cap,ma g,st,false,fl,lf,kp⟩ rfl;have u:=Md (D:=D) (M:=M) (rd:=rd) (kv:=kv) hw rfl i rfl (.refl _) (.refl _);clear a hw i k j e h;go_enter func156,ntmps156;go_wp2_with fail;refine Y.ka I t fun m=> ?_;go_wp2_with fail;refine Y.k1 (I.drewN m) c fun w' q=> ?_;go_wp2_with fail;refine((q.via u).Fm E).mono ?_;rintro e w' ⟨rfl,B⟩;go_wp2;go_ret;exact⟨rfl,B.ya⟩
   |false=>
    rw[j,DT (by simp)]at c;have z:Zb (ma g):=hw.Db;have l:Ia (ma g)≤1048576:=KT hw.Ia hw.cap;have C:=dG D cap (Ia (ma g)) M rd st false fl (lf-1) kv kp g n y k l rfl;have s:=zJ (lf':=lf-1) hw n (BY _ _);have e:ja.delete ⟨cap,ma g,st,false,fl,lf,kp⟩ n=(0,⟨cap,ma (zb n g),st,false,fl,lf-1,kp⟩):=by simp[ja.delete,h,ja.Pe,j,ja.tick,oh]
    rw[e];rw[oh]at s;have u:=Md (D:=D) (M:=M) (rd:=rd) (kv:=kv) s rfl (Uu i n) rfl (.refl _) (.refl _);clear hw i k j a s e h z l;go_enter func156,ntmps156;go_wp2_with fail;refine Y.ka I t fun m=> ?_;go_wp2_with fail;refine Y.k1 (I.drewN m) c fun w' q=> ?_;go_wp2_with fail;refine Y.k1 q C fun w' A=> ?_;go_wp2;go_ret;exact⟨rfl,A.Qq u⟩
theorem Tz(D:Nat)(d:ja)(a b:Bs)(W:a.length≤1000)(X:b.length≤1000):Ud prog 277 #[Da D,Ha a,Ha b] (na D d) (Z (d.rename a b).1) (na D (d.rename a b).2):=by
 intro w o r R;obtain⟨cap,fs,st,dn,fl,lf,kp⟩:=d;have J:=TZ R;obtain⟨M,rd,kv,g,rfl,hw,s,k,I⟩:=J.Be D;have t:=Ns D cap (Ia (ma g)) M rd st dn fl lf kv g a W;have l:=jq D cap (Ia (ma g)) M rd st dn fl lf kv hw.left;have C:=OG b;clear R;cases dn with
 |true=>
  rw[Oj]at t;have e:ja.rename ⟨cap,ma g,st,true,fl,lf,kp⟩ a b=(61,⟨cap,ma g,st,true,fl,lf,kp⟩):=by simp[ja.rename]
  rw[e];clear hw k s l e;go_enter func277,ntmps277;go_wp2_with fail;refine Y.ka I t fun m=> ?_;go_wp2;go_ret;exact⟨rfl,J.as⟩
 |false=>
  cases i:Na a g with
  |none=>
   rw[i,Pj]at t;have e:ja.rename ⟨cap,ma g,st,false,fl,lf,kp⟩ a b=(4,⟨cap,ma g,st,false,fl,lf,kp⟩):=by simp[ja.rename,bd,i]
   rw[e];clear i hw k s l e;go_enter func277,ntmps277;go_wp2_with fail;refine Y.ka I t fun m=> ?_;go_wp2;go_ret;exact⟨rfl,J.as⟩
  |some v=>
   obtain⟨p,f⟩:=v;rw[i,Qj]at t;rw[yq]at l;have h:Na a (ma g)=some f:=by rw[bd,i];rfl
   cases c:ja.Lg b with
   |false=>
    rw[c]at C;have e:ja.rename ⟨cap,ma g,st,false,fl,lf,kp⟩ a b=(2,⟨cap,ma g,st,false,fl,lf,kp⟩):=by simp[ja.rename,h,c]
    rw[e];clear i hw k s l e c h;go_enter func277,ntmps277;go_wp2_with fail;refine Y.ka I t fun m=> ?_;go_wp2_with fail;refine(C _).mono ?_;rintro e w' ⟨rfl,rfl⟩;go_wp2;go_ret;exact⟨rfl,J.as⟩
   |true=>
    rw[c]at C;cases u:fl&&decide (lf=0)with
    |true=>
     rw[u,JT rfl]at l;have e:ja.rename ⟨cap,ma g,st,false,fl,lf,kp⟩ a b=(61,ja.sink ⟨cap,ma g,st,false,fl,lf,kp⟩):=by simp[ja.rename,h,c,ja.Pe,u]
     rw[e];have ts:=ku D ⟨cap,ma g,st,false,fl,lf,kp⟩ rfl;have G:=Md (D:=D) (M:=M) (rd:=rd) (kv:=kv) hw rfl k rfl (.refl _) (.refl _);clear i hw k s u e h c;go_enter func277,ntmps277;go_wp2_with fail;refine Y.ka I t fun m=> ?_;go_wp2_with fail;refine(C _).mono ?_;rintro e w' ⟨rfl,rfl⟩;go_wp2_with fail;refine Y.k1 (I.drewN m) l fun w' E=> ?_;go_wp2_with fail;refine((E.via G).Fm ts).mono ?_;rintro e w' ⟨rfl,K⟩;go_wp2;go_ret;exact⟨rfl,K.ya⟩
    |false=>
     rw[u,DT (by simp)]at l;by_cases j:a=b
     ·subst j;have e:ja.rename ⟨cap,ma g,st,false,fl,lf,kp⟩ a a=(0,⟨cap,ma g,st,false,fl,lf-1,kp⟩):=by simp[ja.rename,h,c,ja.Pe,u,ja.tick]
      rw[e];have F:(⟨cap,ma g,st,false,fl,lf-1,kp⟩:ja).Wf:=⟨hw.Db,hw.cap,hw.Ia,hw.ib,WV (BY _ _) hw.left,hw.many,hw.kept⟩;have G:=Md (D:=D) (M:=M) (rd:=rd) (kv:=kv) F rfl k rfl (.refl _) (.refl _);clear i hw k s u e h c F;go_enter func277,ntmps277;go_wp2_with fail;refine Y.ka I t fun m=> ?_;go_wp2_with fail;refine(C _).mono ?_;rintro e w' ⟨rfl,rfl⟩;go_wp2_with fail;refine Y.k1 (I.drewN m) l fun w' E=> ?_;go_wp2;go_ret;exact⟨rfl,E.Qq G⟩
     ·have B:(a==b)=false:=by simpa using j
      have N:Ia (ma g)≤1048576:=KT hw.Ia hw.cap;have td:=dG D cap (Ia (ma g)) M rd st false fl (lf-1) kv kp g b X s N rfl;have e:ja.rename ⟨cap,ma g,st,false,fl,lf,kp⟩ a b=(0,⟨cap,ma (Ac b (p,f) (zb a (zb b g))),st,false,fl,lf-1,kp⟩):=by simp[ja.rename,h,c,ja.Pe,u,j,ja.tick,oh,Dj _ b p f]
      rw[e];have L:b.length≤12:=by unfold ja.Lg at c;simp at c;exact c.2
      have H:=Me s b;have x:=Me H a;have y:Na a (zb b g)=some (p,f):=by rw[Nc,DT j];exact i
      have z:Na b (zb a (zb b g))=none:=by rw[Nc,DT (fun e=>j e.symm),Nc,JT rfl]
      have P:Ia (ma (zb b g))=Ia (ma (Ac b (p,f) (zb a (zb b g)))):=by rw[←Dj,rm (Th x),oh,Ob z,tj (Th H) (show Na a (ma (zb b g))=some f by rw[bd,y];rfl),oh]
      have F:(⟨cap,ma (Ac b (p,f) (zb a (zb b g))),st,false,fl,lf-1,kp⟩:ja).Wf:=by
       have A:=zJ (lf':=lf-1) hw b (BY _ _);rw[oh]at A;refine⟨Th (Oe x _ _),hw.cap,by rw[←P];exact A.Ia,fun q B=> ?_,A.left,?_,A.kept⟩;case refine_2=>have h1:(ma (zb b g)).length≤400:=A.many;have S:=(Oc x (n:=b) (v:=(p,f))).length_eq;rw[Ob z]at S;have h3:=(Wg (Pb H) y).length_eq;simp only[ma,zU,UT]at h1 S h3⊢;omega
       rw[←Dj]at B;rcases cB (Th x) B with rfl|B
       ·exact(hw.ib (a,f) (Jf h):)
       ·rw[←oh]at B;exact A.ib q (vU.1 B).1
      have T:((Ha b,Da p)::Sk (zb b (zb a (zb b g)))).Perm (Sk (Ac b (p,f) (zb a (zb b g)))):=((Oc x (n:=b) (v:=(p,f))).map fun q:Bs×(Nat×jc)=>(Ha q.1,Da q.2.1)).symm;have U:((zb b g).map (·.2)).Perm ((Ac b (p,f) (zb a (zb b g))).map (·.2)):=by refine((Wg (Pb H) y).map (·.2)).trans ?_;have:=(Oc x (n:=b) (v:=(p,f))).map (·.2);rw[Ob z]at this;exact this.symm
      have G:=Md (D:=D) (M:=M) (rd:=rd) (kv:=kv) F rfl (ir x (Uu (Uu k b) a) L (p,f)) P T U;clear hw k s u i F e h N P T U y z H x L c j;go_enter func277,ntmps277;go_wp2_with fail;refine Y.ka I t fun m=> ?_;go_wp2_with fail;refine(C _).mono ?_;rintro e w' ⟨rfl,rfl⟩;go_wp2_with fail;refine Y.k1 (I.drewN m) l fun w' E=> ?_;go_wp2_with fail;refine Y.k1 E td fun w' Q=> ?_;have d3:w'.cell? ⟨D,3,none⟩=some (.map (some M)):=Q.cells D 3;go_wp2_with (first
       |(refine As (g:=zb b g) M a W Q rfl rfl rfl rfl ?_;intro w1 K;have d4:w1.cell? ⟨D,3,none⟩=some (.map (some M)):=K.cells D 3)
       |(refine Cs (g:=zb a (zb b g)) M b p X K rfl rfl rfl rfl rfl ?_;intro w2 I5));go_ret;exact⟨rfl,I5.Qq G⟩
theorem UQ{f w:World}{d e:Td}{S R:aa}{g:Gh}(h:Y f d e S w)(M:Nat)[k:Find (Ib prog 9 M (Sk g)) S R](w':World)(hh:w'.heap=w.heap):(Builtin.len_ #[143] 3 #[.map (some M)]).run prog w'= .ok (Z g.length) w':=by have i:ff M S prog 9 (Sk g) R:=⟨k.split⟩;obtain⟨es,clock,b,a⟩:=h.map M;have c:=b.size;rw[←hh]at a;simp[Builtin.len_,SU underlying143,BV a,goInt,c,Sk]
theorem tE(b:Nat):aa.le (ba b 154 #[O none 0 0,Z 0]) (Ml (b,⟨[],0⟩)):=by refine KZ ?_ (Ms (v:=O none 0 0) (s:=0) (l:=[]));refine⟨fun {h o r} a=>⟨o,r,⟨o,r,fun _=>False,fun _=>False,a,⟨fun _ h=>h,rfl,.inl ⟨rfl,rfl,fun _ h=>h⟩⟩,fun _ _ h=>h.elim id id,fun _ h=>h.elim,fun _=>by simp,fun _=>by simp⟩,fun _ h=>h,fun _ h=> .inr h⟩⟩
theorem Xq(D:Nat)(d:ja)(n:Bs)(H:n.length≤1000):Ud prog 235 #[Da D,Ha n] (na D d) (Z (d.create n).1) (na D (d.create n).2):=by
 intro w o r E;obtain⟨cap,fs,st,dn,fl,lf,kp⟩:=d;have x:=TZ E;obtain⟨M,rd,kv,g,rfl,hw,j,s,I⟩:=x.Be D;have t:=mr D cap (Ia (ma g)) M rd st dn fl lf kv;have k:=jq D cap (Ia (ma g)) M rd st dn fl lf kv hw.left;have u:=OG n;have d3:w.cell? ⟨D,3,none⟩=some (.map (some M)):=I.cells D 3;have L:=fun m=>ZA (g:=g) (I.drewN m) M n H;have N:=fun m=>UQ (g:=g) I M (w.drewN m) rfl;clear E;cases dn with
 |true=>
  have e:ja.create ⟨cap,ma g,st,true,fl,lf,kp⟩ n=(61,⟨cap,ma g,st,true,fl,lf,kp⟩):=by simp[ja.create]
  rw[e];clear hw s j k e L N u;go_enter func235,ntmps235;go_wp2_with fail;refine Y.ka I t fun m=> ?_;go_wp2;go_ret;exact⟨rfl,x.as⟩
 |false=>
  cases a:ja.Lg n with
  |false=>
   rw[a]at u;have e:ja.create ⟨cap,ma g,st,false,fl,lf,kp⟩ n=(2,⟨cap,ma g,st,false,fl,lf,kp⟩):=by simp[ja.create,a]
   rw[e];cases i:Na n g with
   |none=>simp only[i]at L;clear hw s j k e N i a;go_enter func235,ntmps235;go_wp2_with fail;refine Y.ka I t fun m=> ?_;go_wp2_with fail;refine(u _).mono ?_;rintro e w' ⟨rfl,rfl⟩;go_wp2;go_ret;exact⟨rfl,x.as⟩
   |some v=>obtain⟨b,f⟩:=v;simp only[i]at L;clear hw s j k e N i a;go_enter func235,ntmps235;go_wp2_with fail;refine Y.ka I t fun m=> ?_;go_wp2_with fail;refine(u _).mono ?_;rintro e w' ⟨rfl,rfl⟩;go_wp2;go_ret;exact⟨rfl,x.as⟩
  |true=>
   rw[a]at u;cases i:Na n g with
   |some v=>
    obtain⟨b,f⟩:=v;simp only[i]at L;have c:Na n (ma g)=some f:=by rw[bd,i];rfl
    have e:ja.create ⟨cap,ma g,st,false,fl,lf,kp⟩ n=(62,⟨cap,ma g,st,false,fl,lf,kp⟩):=by simp[ja.create,a,c]
    rw[e];clear hw s j k e N i a c;go_enter func235,ntmps235;go_wp2_with fail;refine Y.ka I t fun m=> ?_;go_wp2_with fail;refine(u _).mono ?_;rintro e w' ⟨rfl,rfl⟩;go_wp2;go_ret;exact⟨rfl,x.as⟩
   |none=>
    simp only[i]at L;have c:Na n (ma g)=none:=by rw[bd,i];rfl
    have l:(ma g).length=g.length:=by simp[ma]
    by_cases h:400≤g.length
    ·have e:ja.create ⟨cap,ma g,st,false,fl,lf,kp⟩ n=(60,⟨cap,ma g,st,false,fl,lf,kp⟩):=by simp[ja.create,a,c,l,h]
     rw[e];have hb:decide ((400:Int)≤(g.length:Int))=true:=by simp;omega
     clear hw s j k e i a c h l;go_enter func235,ntmps235;go_wp2_with fail;refine Y.ka I t fun m=> ?_;go_wp2_with fail;refine(u _).mono ?_;rintro e w' ⟨rfl,rfl⟩;go_wp2;go_ret;exact⟨rfl,x.as⟩
    ·have hb:decide ((400:Int)≤(g.length:Int))=false:=by simp;omega
     rw[yq]at k;cases y:fl&&decide (lf=0)with
     |true=>
      rw[y,JT rfl]at k;have e:ja.create ⟨cap,ma g,st,false,fl,lf,kp⟩ n=(61,ja.sink ⟨cap,ma g,st,false,fl,lf,kp⟩):=by simp[ja.create,a,c,l,h,ja.Pe,y]
      rw[e];have S:=ku D ⟨cap,ma g,st,false,fl,lf,kp⟩ rfl;have C:=Md (D:=D) (M:=M) (rd:=rd) (kv:=kv) hw rfl s rfl (.refl _) (.refl _);clear hw s j e i a c h l y;go_enter func235,ntmps235;go_wp2_with fail;refine Y.ka I t fun m=> ?_;go_wp2_with fail;refine(u _).mono ?_;rintro e w' ⟨rfl,rfl⟩;go_wp2_with fail;refine Y.k1 (I.drewN m) k fun w' z=> ?_;go_wp2_with fail;refine((z.via C).Fm S).mono ?_;rintro e w' ⟨rfl,J⟩;go_wp2;go_ret;exact⟨rfl,J.ya⟩
     |false=>
      rw[y,DT (by simp)]at k;have e:ja.create ⟨cap,ma g,st,false,fl,lf,kp⟩ n=(0,⟨cap,Ac n ⟨[],0⟩ (ma g),st,false,fl,lf-1,kp⟩):=by simp[ja.create,a,c,l,h,ja.Pe,y,ja.tick]
      rw[e];have A:n.length≤12:=by unfold ja.Lg at a;simp at a;exact a.2
      have B:Ia (ma g)=Ia (Ac n ⟨[],0⟩ (ma g)):=by rw[rm (Th j),Ob c];simp
      have G:(⟨cap,Ac n ⟨[],0⟩ (ma g),st,false,fl,lf-1,kp⟩:ja).Wf:=⟨Oe hw.Db _ _,hw.cap,by rw[←B];exact hw.Ia,fun p R=>(cB (Th j) R).elim (fun e=>by rw[e];exact FT 0) (hw.ib p),WV (BY _ _) hw.left,(by have F:=(Oc (Th j) (n:=n) (v:=(⟨[],0⟩:jc))).length_eq;rw[Ob c]at F;rw[F];simp only[UT];omega),hw.kept⟩;have C:∀b,aa.le (Ir D cap (Ia (ma g)) M rd st false fl (lf-1) kv kp ((Ha n,Da b)::Sk (zb n g)) (ba b 154 #[O none 0 0,Z 0]*pe (g.map (·.2)))) (na D ⟨cap,Ac n ⟨[],0⟩ (ma g),st,false,fl,lf-1,kp⟩):=by intro b;have Q:=Md (D:=D) (M:=M) (rd:=rd) (kv:=kv) (g:=Ac n (b,⟨[],0⟩) g) (K:=(Ha n,Da b)::Sk (zb n g)) (L:=(b,⟨[],0⟩)::g.map (·.2)) G (Dj _ _ _ _) (ir j s A _) B ((Oc j (n:=n) (v:=(b,(⟨[],0⟩:jc)))).map fun q:Bs×(Nat×jc)=>(Ha q.1,Da q.2.1)).symm (by have:=(Oc j (n:=n) (v:=(b,(⟨[],0⟩:jc)))).map (·.2);rw[Ob i]at this;exact this.symm);exact KZ (MZ (JZ _) (MZ (JZ _) (MZ (MZ (tE b) (JZ _)) (JZ _)))) Q
      clear hw s j e i a c h l y B G A;go_enter func235,ntmps235;go_wp2_with fail;refine Y.ka I t fun m=> ?_;go_wp2_with fail;refine(u _).mono ?_;rintro e w' ⟨rfl,rfl⟩;go_wp2_with fail;refine Y.k1 (I.drewN m) k fun w' z=> ?_;have d4:w'.cell? ⟨D,3,none⟩=some (.map (some M)):=z.cells D 3;clear L N;go_wp2_with (refine Cs (g:=g) M n w'.heap.size H (z.new (.cells #[O none 0 0,Z 0] 154)) rfl rfl rfl rfl rfl ?_;intro w2 P);go_ret;exact⟨rfl,P.Qq (C w'.heap.size)⟩
theorem AP(D:Nat)(d:ja):Ud prog 72 #[Da D] (na D d) (Z d.rf.1) (na D d.rf.2):=by
 intro w o r f;obtain⟨cap,fs,st,dn,fl,lf,kp⟩:=d;have b:=TZ f;obtain⟨M,rd,kv,g,rfl,hw,k,a,I⟩:=b.Be D;have t:=kr D cap (Ia (ma g)) M rd st dn fl lf kv;have d6:w.cell? ⟨D,6,none⟩=some (.bool dn):=I.cells D 6;clear f;cases dn with
 |false=>
  have e:ja.rf ⟨cap,ma g,st,false,fl,lf,kp⟩=(2,⟨cap,ma g,st,false,fl,lf,kp⟩):=by simp[ja.rf]
  rw[e];clear hw a k e;go_enter func72,ntmps72;go_wp2_with fail;refine Y.ka I t fun m=> ?_;go_wp2;go_ret;exact⟨rfl,b.as⟩
 |true=>
  have e:ja.rf ⟨cap,ma g,st,true,fl,lf,kp⟩=(0,⟨cap,ma g,wrap64 (st+1),false,fl,lf,kp⟩):=by simp[ja.rf]
  rw[e];have h:(⟨cap,ma g,wrap64 (st+1),false,fl,lf,kp⟩:ja).Wf:=⟨hw.Db,hw.cap,hw.Ia,hw.ib,hw.left,hw.many,hw.kept⟩;have j:=Md (D:=D) (M:=M) (rd:=rd) (kv:=kv) h rfl a rfl (.refl _) (.refl _);have d5:w.cell? ⟨D,5,none⟩=some (Z st):=I.cells D 5;have f6:∀i,w.frozen? ⟨D,i,none⟩=false:=I.free D;have c:=(I.ra D 6 (.bool false) (Gm cap (Ia (ma g)) M rd st false fl lf kv)).ra D 5 (Z (wrap64 (st+1))) (Gm cap (Ia (ma g)) M rd (wrap64 (st+1)) false fl lf kv);have l:=c.Qq j;clear hw a k e h j c;go_enter func72,ntmps72;go_wp2_with fail;refine Y.ka I t fun m=> ?_;go_wp2;go_ret;exact⟨rfl,l.as⟩
def Gw(o:Option (Nat×jc))(k:Int):Value:=match o with
 |none=> .tuple #[.pointer none,Z 4]
 |some (b,_)=>if k<0 then .tuple #[.pointer none,Z 2]else .tuple #[Da b,Z 0]
theorem yD(D cap usd M:Nat)(rd st:Int)(dn fl:Bool)(left:Nat)(kv:Value)(g:Gh)(n:Bs)(k:Int)(e:n.length≤1000):Pp prog 82 #[Da D,Ha n,Z k] (ba D 145 (Gm cap usd M rd st dn fl left kv)*Ib prog 9 M (Sk g)) (Gw (Na n g) k):=by
 intro w o r c;have I:=TZ c;have t:=kr D cap usd M rd st dn fl left kv;have d3:w.cell? ⟨D,3,none⟩=some (.map (some M)):=I.cells D 3;have L:=fun m=>ZA (g:=g) (I.drewN m) M n e;clear c;unfold Gw;cases a:Na n g with
 |none=>simp only[a]at L;clear a;go_enter func82,ntmps82;go_wp2_with fail;refine Y.ka I t fun m=> ?_;go_wp2;go_ret2;exact⟨rfl,m,rfl⟩
 |some v=>
  obtain⟨b,f⟩:=v;simp only[a]at L;clear a;dsimp only;by_cases d:k<0
  ·rw[JT d];go_enter func82,ntmps82;go_wp2_with fail;refine Y.ka I t fun m=> ?_;go_wp2;go_ret2;exact⟨rfl,m,rfl⟩
  ·rw[DT d];go_enter func82,ntmps82;go_wp2_with fail;refine Y.ka I t fun m=> ?_;go_wp2;go_ret2;exact⟨rfl,m,rfl⟩
theorem cS(D:Nat)(d:ja)(n:Bs)(k:Int)(H:n.length≤1000):Ud prog 47 #[Da D,Ha n,Z k] (na D d) (Z (d.Di n k).1) (na D (d.Di n k).2):=by
 intro w o r u;obtain⟨cap,fs,st,dn,fl,lf,kp⟩:=d;have q:=TZ u;obtain⟨M,rd,kv,g,rfl,hw,i,l,I⟩:=q.Be D;have t:=yD D cap (Ia (ma g)) M rd st dn fl lf kv g n k H;clear u;unfold Gw at t;cases c:Na n g with
 |none=>
  simp only[c]at t;have e:ja.Di ⟨cap,ma g,st,dn,fl,lf,kp⟩ n k=(4,⟨cap,ma g,st,dn,fl,lf,kp⟩):=by simp[ja.Di,bd,c]
  rw[e];clear hw l i e c;go_enter func47,ntmps47;go_wp2_with fail;refine Y.ka I t fun m=> ?_;go_wp2;go_ret;exact⟨rfl,q.as⟩
 |some v=>
  obtain⟨b,f⟩:=v;simp only[c]at t;by_cases h:k<0
  ·rw[JT h]at t;have e:ja.Di ⟨cap,ma g,st,dn,fl,lf,kp⟩ n k=(2,⟨cap,ma g,st,dn,fl,lf,kp⟩):=by simp[ja.Di,bd,c,h]
   rw[e];clear hw l i e c;go_enter func47,ntmps47;go_wp2_with fail;refine Y.ka I t fun m=> ?_;go_wp2;go_ret;exact⟨rfl,q.as⟩
  ·rw[DT h]at t;have j:Na n (ma g)=some f:=by rw[bd,c];rfl
   have e:ja.Di ⟨cap,ma g,st,dn,fl,lf,kp⟩ n k=(0,⟨cap,Ac n (ja.Cf f k.toNat) (ma g),st,dn,fl,lf,kp⟩):=by simp[ja.Di,j,h]
   rw[e];obtain⟨a,rfl⟩:∃a:Nat,k=a:=⟨k.toNat,by omega⟩;rw[gV];have B:Ia (ma g)≤cap:=hw.Ia;have s:cap≤1048576:=hw.cap;have hu:=tj (Th i) j;have z:f.ib≤f.data.length:=hw.ib _ (Jf j);have J:=aQ D cap (Ia (ma g)) M rd st dn fl lf kv b f a (by omega) (by omega) (by omega);have x:Ia (ma g)-(f.data.length-a)=Ia (Ac n (ja.Cf f a) (ma g)):=by rw[rm (Th i)];simp only[ja.Cf,OT];omega
   have y:=kA (lf':=lf) (f':=ja.Cf f a) hw j (FT _) (by simp[ja.Cf];omega) (by simp only[ja.Cf,OT];omega);have F:((b,ja.Cf f a)::(zb n g).map (·.2)).Perm ((Ac n (b,ja.Cf f a) g).map (·.2)):=((Oc i (n:=n) (v:=(b,ja.Cf f a))).map fun p:Bs×(Nat×jc)=>p.2).symm;have G:=Md (D:=D) (M:=M) (rd:=rd) (kv:=kv) (g:=Ac n (b,ja.Cf f a) g) (K:=Sk g) (L:=(b,ja.Cf f a)::(zb n g).map (·.2)) y (Dj _ _ _ _) (ir i l (l _ (Jf c)) _) x (sG i c) F;have C:=I.le (MZ (MZ (JZ _) (MZ (JZ _) (MZ (Jv (Pb i) c) (JZ _)))) (JZ _));clear hw l i e c j B s hu z x y h;go_enter func47,ntmps47;go_wp2_with fail;refine Y.ka I t fun m=> ?_;go_wp2_with fail;refine Y.k1 (C.drewN m) J fun w' E=> ?_;go_wp2;go_ret;exact⟨rfl,(E.Qq (A:=Ir D cap (Ia (ma g)-(f.data.length-a)) M rd st dn fl lf kv kp (Sk g) (Ml (b,ja.Cf f a)*pe ((zb n g).map (·.2)))) G)⟩
theorem Jw(l:Bs)(j:Nat)(a:j<l.length):(dh l)[j]? =some (.int .u8 (l[j].toNat:Int)):=by simp[dh,a]
theorem Y.part{u w:World}{s t:Td}{S R:aa}{l:Bs}{v:Value}(h:Y u s t S w)[k:Gd v S 5 1 l.length (dh l) R](lo hi:Nat)(p:lo≤hi)(e:hi≤l.length):∃m,(∀w',(Instr.sliceAt 152 v (some (Z lo)) (some (Z hi)) none).run prog w'= .ok m w')∧∀w',w'.heap=w.heap→(convert 152 9 m).run prog w'= .ok (Ha ((l.drop lo).take (hi-lo))) w':=by
 obtain⟨i5,a,x,i,y⟩:=info_parts Ov;obtain⟨o,r,⟨B,D,C,E,⟨z,a2,a3⟩,_⟩,hu⟩:=h.le k.split;rcases a3 with⟨rfl,n,a4⟩|⟨g,cap,cur,rfl,c2,c3,c4,c5,c6⟩
 ·have q:l=[]:=uU n;subst q;obtain rfl:hi=0:=by simpa using e
  obtain rfl:lo=0:=by omega
  refine⟨O none 0 0,fun w'=>(cg underlying152 a none 0 0 0 0 0 (FT _) (FT _) (FT _)).2.2.1,fun w' _=>by kernel_rfl⟩
 ·refine⟨_,fun w'=>(cg underlying152 a (some ⟨g,0,none⟩) l.length cap lo hi cap p (KT e c3) (FT _)).2.2.1,fun w' hh=> ?_⟩;by_cases he:hi-lo=0
  ·rw[he];have b:∀A c,(convert 152 9 (O (some A) 0 c)).run prog w'= .ok (Ha []) w':=fun A c=>MV w' 152 9 5 A c [] underlying152 underlying5 underlying9 (fun j d=>by simp at d);rw[IW];split<;>exact b _ _
  ·rw[DT (by omega)];have hlen:((l.drop lo).take (hi-lo)).length=hi-lo:=by simp;omega
   have:=MV w' 152 9 5 ⟨g,lo,none⟩ (cap-lo) ((l.drop lo).take (hi-lo)) underlying152 underlying5 underlying9 (fun j d=>by rw[hlen]at d;rw[CV,jW w' g (lo+j) cur 5 (0,0) (hh▸c2)];have f:=Jw l (lo+j) (by omega);rw[←c5,tW,JT (by omega),EW]at f;rw[f,sX,XX]);rw[hlen]at this;rw[i,wU];simp only[KU,CV,BU];exact this
theorem Bn(D:Nat)(d:ja)(n:Bs)(at' k:Int)(N:n.length≤1000)(L:at'≤1073741824∧ -1073741824≤at')(R:k≤1073741824∧ -1073741824≤k):Ud prog 42 #[Da D,Ha n,Z at',Z k] (na D d) (.tuple #[Ha (d.ze n at' k).2,Z (d.ze n at' k).1]) (na D d):=by
 intro w o r K;obtain⟨cap,fs,st,dn,fl,lf,kp⟩:=d;have j:=TZ K;obtain⟨M,rd,kv,g,rfl,hw,z,i,I⟩:=j.Be D;have q:=mr D cap (Ia (ma g)) M rd st dn fl lf kv;have t:=Ns D cap (Ia (ma g)) M (wrap64 (rd+1)) st dn fl lf kv g n N;have d4:w.cell? ⟨D,4,none⟩=some (Z rd):=I.cells D 4;have f4:w.frozen? ⟨D,4,none⟩=false:=I.free D 4;clear K;cases dn with
 |true=>
  have t:=Ns D cap (Ia (ma g)) M rd st true fl lf kv g n N;rw[Oj]at t;have e:ja.ze ⟨cap,ma g,st,true,fl,lf,kp⟩ n at' k=(61,[]):=by simp[ja.ze]
  rw[e];clear hw i z e;go_enter func42,ntmps42;go_wp2_with fail;refine Y.ka I q fun m=> ?_;go_wp2_with fail;refine Y.ka (I.drewN m) t fun m2=> ?_;go_wp2;go_ret2;exact⟨rfl,j.as⟩
 |false=>
  have p:=I.ra D 4 (Z (wrap64 (rd+1))) (Gm cap (Ia (ma g)) M (wrap64 (rd+1)) st false fl lf kv);have u:=Md (D:=D) (M:=M) (rd:=wrap64 (rd+1)) (kv:=kv) hw rfl i rfl (.refl _) (.refl _);cases h:Na n g with
  |none=>
   rw[h,Pj]at t;have e:ja.ze ⟨cap,ma g,st,false,fl,lf,kp⟩ n at' k=(4,[]):=by simp[ja.ze,bd,h]
   rw[e];clear hw i z e h;go_enter func42,ntmps42;go_wp2_with fail;refine Y.ka I q fun m=> ?_;go_wp2_with fail;refine Y.ka (p.as (w':=(w.drewN m).setCell ⟨D,4,none⟩ (Z (wrap64 (rd+1))))) t fun m2=> ?_;go_wp2;go_ret2;exact⟨rfl,(p.Qq u).as⟩
  |some v=>
   obtain⟨b,f⟩:=v;rw[h,Qj]at t;have a:Na n (ma g)=some f:=by rw[bd,h];rfl
   have Q:Ia (ma g)≤1048576:=KT hw.Ia hw.cap;have hu:=tj (Th z) a;have W:f.data.length≤1048576:=by omega
   obtain⟨A,c,G⟩:=I.focus (Pb z) h;have s:=G.ra D 4 (Z (wrap64 (rd+1))) (Gm cap (Ia (ma g)) M (wrap64 (rd+1)) st false fl lf kv);have g0:w.cell? ⟨b,0,none⟩=some (O A f.data.length c):=G.cells b 0;have a6:b≠D:=G.ne b D;have F: -1073741824≤at'→IntKind.i64.wrap ((f.data.length:Int)-at')=(f.data.length:Int)-at':=fun _=>RT _ (by omega);have HW:=F L.2;clear F Q hu z;by_cases C:at'<0
   ·have e:ja.ze ⟨cap,ma g,st,false,fl,lf,kp⟩ n at' k=(2,[]):=by simp[ja.ze,a,C]
    rw[e];have b1:decide (at'<0)=true:=by simpa using C
    clear hw i e h a j;go_enter func42,ntmps42;go_wp2_with fail;refine Y.ka I q fun m=> ?_;go_wp2_with fail;refine Y.ka (s.as (w':=(w.drewN m).setCell ⟨D,4,none⟩ (Z (wrap64 (rd+1))))) t fun m2=> ?_;go_wp2;go_ret2;exact⟨rfl,(p.Qq u).as⟩
   ·have b1:decide (at'<0)=false:=by simpa using C
    by_cases E:k<0
    ·have e:ja.ze ⟨cap,ma g,st,false,fl,lf,kp⟩ n at' k=(2,[]):=by simp[ja.ze,a,E]
     rw[e];have b2:decide (k<0)=true:=by simpa using E
     clear hw i e h a j;go_enter func42,ntmps42;go_wp2_with fail;refine Y.ka I q fun m=> ?_;go_wp2_with fail;refine Y.ka (s.as (w':=(w.drewN m).setCell ⟨D,4,none⟩ (Z (wrap64 (rd+1))))) t fun m2=> ?_;go_wp2;go_ret2;exact⟨rfl,(p.Qq u).as⟩
    ·have b2:decide (k<0)=false:=by simpa using E
     by_cases H:(f.data.length:Int)<at'
     ·have e:ja.ze ⟨cap,ma g,st,false,fl,lf,kp⟩ n at' k=(2,[]):=by simp[ja.ze,a];omega
      rw[e];have b3:decide ((f.data.length:Int)<at')=true:=by simpa using H
      clear hw i e h a j;go_enter func42,ntmps42;go_wp2_with fail;refine Y.ka I q fun m=> ?_;go_wp2_with fail;refine Y.ka (s.as (w':=(w.drewN m).setCell ⟨D,4,none⟩ (Z (wrap64 (rd+1))))) t fun m2=> ?_;go_wp2;go_ret2;exact⟨rfl,(p.Qq u).as⟩
     ·have b3:decide ((f.data.length:Int)<at')=false:=by simpa using H
      by_cases J:(f.data.length:Int)-at'<k
      ·have e:ja.ze ⟨cap,ma g,st,false,fl,lf,kp⟩ n at' k=(2,[]):=by simp[ja.ze,a];omega
       rw[e];have b4:decide ((f.data.length:Int)-at'<k)=true:=by simpa using J
       clear hw i e h a j;go_enter func42,ntmps42;go_wp2_with fail;refine Y.ka I q fun m=> ?_;go_wp2_with fail;refine Y.ka (s.as (w':=(w.drewN m).setCell ⟨D,4,none⟩ (Z (wrap64 (rd+1))))) t fun m2=> ?_;go_wp2;go_ret2;exact⟨rfl,(p.Qq u).as⟩
      ·have b4:decide ((f.data.length:Int)-at'<k)=false:=by simpa using J
       obtain⟨x,rfl⟩:∃x:Nat,at'=x:=⟨at'.toNat,by omega⟩;obtain⟨y,rfl⟩:∃y:Nat,k=y:=⟨k.toNat,by omega⟩;have e:ja.ze ⟨cap,ma g,st,false,fl,lf,kp⟩ n x y=(0,(f.data.drop x).take y):=by simp only[ja.ze,a];rw[DT (by simp),DT (by omega)];rfl
       rw[e];obtain⟨v',P,B⟩:=s.part (l:=f.data) (v:=O A f.data.length c) x (x+y) (by omega) (by omega);rw[Int.natCast_add]at P;rw[Nat.add_sub_cancel_left]at B;obtain⟨T,U⟩:=L;obtain⟨X,a1⟩:=R;have S:decide (f.data.length<x)=false:=by simp;omega
       clear hw i e h a j C E H J b3;go_enter func42,ntmps42;go_wp2_with fail;refine Y.ka I q fun m=> ?_;go_wp2_with fail;refine Y.ka (s.as (w':=(w.drewN m).setCell ⟨D,4,none⟩ (Z (wrap64 (rd+1))))) t fun m2=> ?_;have a7:=B (((w.drewN m).setCell ⟨D,4,none⟩ (Z (wrap64 (rd+1)))).drewN m2) rfl;clear B;go_wp2;go_ret2;exact⟨rfl,(p.Qq u).as⟩
theorem FQ(D:Nat)(d:ja)(n:Int)(v:Value)(Ga:List Int)(C:n<9223372036854775808)(p:Ga.length≤1000000):Ud prog 45 #[Da D,Z n,v] (na D d*Ba 1 v Ga.length (xf Ga)) (Z (d.fail n Ga).1) (na D (d.fail n Ga).2):=by
 intro w o r u;obtain⟨cap,fs,st,dn,fl,lf,kp⟩:=d;have h:=TZ u;obtain⟨M,rd,kv,g,rfl,hw,s,j,I⟩:=h.Be D;have t:=mr D cap (Ia (ma g)) M rd st dn fl lf kv;have k:=YF v Ga p;clear u;cases dn with
 |true=>
  have e:ja.fail ⟨cap,ma g,st,true,fl,lf,kp⟩ n Ga=(61,⟨cap,ma g,st,true,fl,lf,kp⟩):=by simp[ja.fail]
  rw[e];clear hw j s e k;go_enter func45,ntmps45;go_wp2_with fail;refine Y.ka I t fun m=> ?_;go_wp2;go_ret;exact⟨rfl,(h.le QZ).as⟩
 |false=>
  by_cases q:n<0
  ·have e:ja.fail ⟨cap,ma g,st,false,fl,lf,kp⟩ n Ga=(2,⟨cap,ma g,st,false,fl,lf,kp⟩):=by simp[ja.fail,q]
   rw[e];clear hw j s e k;go_enter func45,ntmps45;go_wp2_with fail;refine Y.ka I t fun m=> ?_;go_wp2;go_ret;exact⟨rfl,(h.le QZ).as⟩
  ·obtain⟨a,rfl⟩:∃a:Nat,n=a:=⟨n.toNat,by omega⟩;have e:ja.fail ⟨cap,ma g,st,false,fl,lf,kp⟩ a Ga=(0,⟨cap,ma g,st,false,true,a,Ga⟩):=by simp[ja.fail]
   rw[e];have x:=fun y=>Md (D:=D) (M:=M) (rd:=rd) (kv:=y) (st:=st) (kp:=Ga) (lf:=a) (fl:=true) (dn:=false) ⟨hw.Db,hw.cap,hw.Ia,hw.ib,by show a<_;omega,hw.many,p⟩ rfl j rfl (.refl _) (.refl _);clear hw j s e C p;go_enter func45,ntmps45;go_wp2_with fail;refine Y.ka I t fun m=> ?_;go_wp2_with fail;refine((I.drewN m).call k).mono ?_;rintro e l ⟨E,rfl,b⟩;obtain⟨_,c,c',rfl⟩:=b.Cd E;have f:∀i,l.frozen? ⟨D,i,none⟩=false:=b.free D;have d7:l.cell? ⟨D,7,none⟩=some (.bool fl):=b.cells D 7;have d8:l.cell? ⟨D,8,none⟩=some (Z lf):=b.cells D 8;have d9:l.cell? ⟨D,9,none⟩=some kv:=b.cells D 9;have z:=((b.ra D 7 (.bool true) (Gm cap (Ia (ma g)) M rd st false true lf kv)).ra D 8 (Z a) (Gm cap (Ia (ma g)) M rd st false true a kv)).ra D 9 (O c Ga.length c') (Gm cap (Ia (ma g)) M rd st false true a (O c Ga.length c'));have B:=(z.via (A:=ua 3 1 (O c Ga.length c') Ga.length (xf Ga)) c8).Qq (x (O c Ga.length c'));clear I h x k t;go_wp2;go_ret;exact⟨rfl,B.as⟩
theorem wy(a b:Bs):dh (a++b)=dh a++dh b:=by simp[dh]
theorem RD(a:Bs)(n:Nat):dh (a.take n)=(dh a).take n:=by simp[dh,NX]
theorem VM(a:Bs)(n:Nat):dh (a.drop n)=(dh a).drop n:=by simp[dh,List.map_drop]
theorem Ii(a:Bs):(dh a).length=a.length:=by simp[dh]
theorem fD(a:List Value)(l s:Bs)(lo:Nat)(d:lo≤l.length)(c:a.take l.length=dh l)(g:l.length≤a.length):(a.take lo++(dh s).take (min s.length (l.length-lo))++a.drop (lo+((dh s).take (min s.length (l.length-lo))).length)).take l.length=dh (ja.yi l s lo):=by
 have b:((dh s).take (min s.length (l.length-lo))).length=min s.length (l.length-lo):=by rw[OT,Ii];omega
 rw[b,TY,YT (by rw[CT,b,OT];omega)];have e:(a.take lo++(dh s).take (min s.length (l.length-lo))).length=lo+min s.length (l.length-lo):=by rw[CT,b,OT];omega
 rw[e,show List.take (l.length-(lo+min s.length (l.length-lo))) (List.drop (lo+min s.length (l.length-lo)) a)=List.drop (lo+min s.length (l.length-lo)) (List.take l.length a) from(List.drop_take ..).symm,c];have f:a.take lo=(dh l).take lo:=by rw[←c,QV,QU d]
 rw[f,ja.yi,wy,wy,RD,RD,VM];congr 1
 ·congr 1;rcases DZ s.length (l.length-lo)with h|h
  ·rw[QU h,YT (by rw[Ii];exact FT _),YT (by rw[Ii];exact h)]
  ·rw[VY h]
 ·rcases DZ s.length (l.length-lo)with h|h
  ·rw[QU h]
  ·rw[VY h,ZV (by rw[Ii];omega),ZV (by rw[Ii];omega)]
theorem Dq(l s:Bs)(lo:Nat)(h:lo≤l.length):(ja.yi l s lo).length=l.length:=by simp only[ja.yi,CT,OT,cU];omega
theorem Dy{H w:World}{F G:Td}{S R:aa}{n:Array Oper}{i:List Oper}{f:Oper}{a:Act}{Q:Exit→Act→World→Prop}{d x:Operand}{A:Option Addr}{c c':Nat}(l s:Bs)(lo:Nat) (h:Y H F G S w) [k:Gd (O A l.length c) S 5 1 l.length (dh l) R] (a7:lo<l.length) (z:f.guard=none) (P:f.op= .call {callee:=.builtin .copy,args:=#[d,x],argTypes:=#[152,9]}) (C:a.eval d=O (A.map (fun b=>b.add lo)) (l.length-lo) c') (T:a.eval x=Ha s) (N:∀v w',Y H F G (ua 5 1 (O A l.length c) l.length (dh (ja.yi l s lo))*R) w'→wpList prog n Q i (a.put f.dst v) w'):wpList prog n Q (f::i) a w:=by
 obtain⟨i5,hi,aj,E,ak⟩:=info_parts Ov;obtain⟨o,r,⟨U,W,o2,r2,⟨I,a2,a3⟩,b2,b3,b4,J,L⟩,hu⟩:=h.le k.split;rcases a3 with⟨_,X,_⟩|⟨g,cap,cur,D,c2,c3,c4,c5,c6⟩
 ·omega
 injection D with p _ q;subst p;subst q;rw[wU]at c4 c5;have m:((dh s).take (min s.length (l.length-lo))).length=min s.length (l.length-lo):=by rw[OT,Ii];omega
 have j:=run_storeCells_at prog g lo 5 ((dh s).take (min s.length (l.length-lo))) 0 cur w c2 (by rw[m];omega) (by intro u hu;have hu:=VV hu;simp only[dh,nU]at hu;obtain⟨b,_,rfl⟩:=hu;rfl);rw[lX]at j;have t:(Builtin.copy_ #[152,9] f.type #[O (some ⟨g,lo,none⟩) (l.length-lo) c',Ha s]).run prog w= .ok (goInt (min s.length (l.length-lo))) (w.setRow g (cur.toList.take lo++(dh s).take (min s.length (l.length-lo))++cur.toList.drop (lo+((dh s).take (min s.length (l.length-lo))).length)).toArray):=by
  have B:(mk s).size=s.length:=Ph s;have a8:List.take (min s.length (l.length-lo)) (List.map (fun b:UInt8=>Value.int IntKind.u8 (b.toNat:Int)) (mk s).data.toList)=(dh s).take (min s.length (l.length-lo)):=by simp[dh,mk]
  simp[Builtin.copy_,SU underlying152,Builtin.lenOf,Builtin.firstCells,sizeOf,typeInfo,hi,E,B];have p:List.take (s.length.min (l.length-lo)) (List.map (fun b:UInt8=>Value.int IntKind.u8 (b.toNat:Int)) s)=(dh s).take (min s.length (l.length-lo)):=rfl;have q:((s.length.min (l.length-lo):Nat):Int)=min (s.length:Int) ((l.length:Int)-lo):=by show((min s.length (l.length-lo):Nat):Int)=_;omega
  rw[p,j,q];simp[Result.andThen]
 have hh:=setRow_heap w g cur (cur.toList.take lo++(dh s).take (min s.length (l.length-lo))++cur.toList.drop (lo+((dh s).take (min s.length (l.length-lo))).length)).toArray 5 (0,0) c2;refine IX z fun K y=> ?_;unfold Oper.wp execOp;rw[KU,CV,BU]at C;simp only[P,resolve,invoke,builtin,wW,YV,GV,uW,qU,gX,C,T,t];refine y _ _ (N _ _ ?_);refine UZ hu (WZ b2 b3 b4 J L ⟨U,W,⟨I,by rw[Ii,Dq _ _ _ (by omega),wU],.inr ⟨g,c,_,rfl,hh,c3,?_,?_,c6⟩⟩,rfl,rfl,rfl,by simp,fun k _ M=> ?_,fun _ h=> .inl h,fun _ h=> .inr (.inl h)⟩)
 ·rw[wU];have a6:cur.toList.length=cur.size:=XW;simp only[zV,CT,m,OT,cU];omega
 ·rw[wU];exact fD cur.toList l s lo (by omega) c5 (by have:cur.toList.length=cur.size:=XW;omega)
 ·have:k≠g:=fun e=>M ((c6 k).2 e);simp[World.setRow,DW,Ne.symm this]
theorem zP(D:Nat)(d:ja)(n:Bs)(k:Int)(s:Bs)(hn:n.length≤1000):Ud prog 46 #[Da D,.string (mk n),.int .i64 k,.string (mk s)] (na D d) (.int .i64 (d.Ek n k s).1) (na D (d.Ek n k s).2):=by
 intro w o r E;obtain⟨cap,fs,st,dn,fl,lf,kp⟩:=d;have u:=TZ E;obtain⟨M,rd,kv,g,rfl,hw,l,q,I⟩:=u.Be D;have t:=yD D cap (Ia (ma g)) M rd st dn fl lf kv g n k hn;clear E;unfold Gw at t;cases i:Na n g with
 |none=>
  simp only[i]at t;have e:ja.Ek ⟨cap,ma g,st,dn,fl,lf,kp⟩ n k s=(4,⟨cap,ma g,st,dn,fl,lf,kp⟩):=by simp[ja.Ek,bd,i]
  rw[e];clear hw q l e i;go_enter func46,ntmps46;go_wp2_with fail;refine Y.ka I t fun m=> ?_;go_wp2_with fail;go_ret;exact⟨rfl,u.as⟩
 |some v=>
  obtain⟨b,f⟩:=v;simp only[i]at t;by_cases h:k<0
  ·rw[JT h]at t;have e:ja.Ek ⟨cap,ma g,st,dn,fl,lf,kp⟩ n k s=(2,⟨cap,ma g,st,dn,fl,lf,kp⟩):=by simp[ja.Ek,bd,i,h]
   rw[e];clear hw q l e i;go_enter func46,ntmps46;go_wp2_with fail;refine Y.ka I t fun m=> ?_;go_wp2_with fail;go_ret;exact⟨rfl,u.as⟩
  ·rw[DT h]at t;have j:Na n (ma g)=some f:=by rw[bd,i];rfl
   obtain⟨A,c,x⟩:=I.focus (Pb l) i;have g0:w.cell? ⟨b,0,none⟩=some (.slice A f.data.length c):=x.cells b 0;by_cases y:k<f.data.length
   ·have e:ja.Ek ⟨cap,ma g,st,dn,fl,lf,kp⟩ n k s=(0,⟨cap,Ac n ⟨ja.yi f.data s k.toNat,f.ib⟩ (ma g),st,dn,fl,lf,kp⟩):=by simp[ja.Ek,j,h,y]
    rw[e];obtain⟨a,rfl⟩:∃a:Nat,k=a:=⟨k.toNat,by omega⟩;rw[gV];have N:a<f.data.length:=by omega
    have p:=Dq f.data s a (by omega);have P:Ia (ma g)≤cap:=hw.Ia;have hu:=tj (Th l) j;have z:f.ib≤f.data.length:=hw.ib _ (Jf j);have H:Ia (ma g)=Ia (Ac n ⟨ja.yi f.data s a,f.ib⟩ (ma g)):=by rw[rm (Th l),p];exact hu
    have J:=kA (lf':=lf) (f':=⟨ja.yi f.data s a,f.ib⟩) hw j (FT _) (by rw[p];exact z) (by show _-_+(ja.yi f.data s a).length≤_;rw[p];omega);have K:=lr (D:=D) (M:=M) (rd:=rd) (kv:=kv) (.slice A f.data.length c) (g:=g) (b:=b) J l q i H;rw[p]at K;have B:=x.Cd (.slice A f.data.length c);obtain⟨i5,L,a6,Q,a7⟩:=info_parts Ov;obtain⟨C,c',he,hcut⟩:∃C c',(.slice A f.data.length c:Value)= .slice C f.data.length c'∧∀w',(Instr.sliceAt 152 (.slice A f.data.length c) (some (.int .i64 a)) none none).run prog w'= .ok (.slice (A.map fun b=>b.add a) (f.data.length-a) (c-a)) w':=by
     obtain⟨_,_,⟨o1,r1,o2,r2,⟨a1,a2,a3⟩,_⟩,_⟩:=x.le (Gd.split (v:=.slice A f.data.length c));rcases a3 with⟨F,U,_⟩|⟨T,S,cur,F,U,W,_⟩
     ·omega
     ·injection F with X _ h5;subst X;subst h5;refine⟨_,_,rfl,fun w'=> ?_⟩;have G:=(cg (w:=w') underlying152 L (some ⟨T,0,none⟩) f.data.length c a a a (FT _) (FT _) (by omega)).2.2.2.2 (by omega) W;rw[DT (by omega),Q,wU]at G;exact G
    clear hw q l e i j P hu z H J B h;go_enter func46,ntmps46;go_wp2_with fail;refine Y.ka I t fun m=> ?_;go_wp2_with (refine Dy (A:=A) (c:=c) f.data s a (x.drewN m) N rfl rfl rfl rfl ?_;intro v w2 R);go_ret;exact⟨rfl,R.Qq K⟩
   ·have e:ja.Ek ⟨cap,ma g,st,dn,fl,lf,kp⟩ n k s=(0,⟨cap,ma g,st,dn,fl,lf,kp⟩):=by simp[ja.Ek,j,h,y]
    rw[e];clear hw q l e i j;go_enter func46,ntmps46;go_wp2_with fail;refine Y.ka I t fun m=> ?_;go_wp2_with fail;go_ret;exact⟨rfl,u.as⟩
def An.ja.new(cap:Nat):ja:=⟨cap,[],0,false,false,0,[]⟩
theorem qS(cap:Nat)(i:cap≤1048576):Tr prog 36 #[Z cap] aa.emp (fun b:Nat=> .tuple #[Da b,Z 0]) (fun b=>na b (An.ja.new cap)):=by
 intro w o r c;have I:=TZ c;clear c;have e:=(I.new (.map #[] 0)).new (.cells (Gm cap 0 w.heap.size 0 0 false false 0 (O none 0 0)) 145);have hm:aa.le (aa.obj w.heap.size (.map #[] 0)) (Ib prog 9 w.heap.size (Sk [])):=⟨fun {h o r} j=>⟨o,r,⟨#[],0,⟨.refl _,by simp[Sk],by simp[Sk],by simp[Sk],by simp,by simp⟩,j⟩,fun _ h=>h,fun _ h=> .inr h⟩⟩;have d:=Md (D:=w.heap.size+1) (M:=w.heap.size) (rd:=0) (kv:=O none 0 0) (g:=[]) (L:=[]) (K:=Sk []) (usd:=0) (cap:=cap) (st:=0) (dn:=false) (fl:=false) (lf:=0) (kp:=[]) (fs:=[]) ⟨True.intro,i,WT _,fun _ h=>(by cases h),by show 0<_;decide,by show 0≤_;decide,WT _⟩ rfl (fun _ h=>(by cases h)) rfl (.refl _) (.refl _);have L:=fun w=>ZX (P:=prog) 143 w;go_enter func36,ntmps36;go_wp2;go_ret2;refine⟨w.heap.size+1,rfl,?_⟩;have f:Y w o r (ba (w.heap.size+1) 145 (Gm cap 0 w.heap.size 0 0 false false 0 (O none 0 0))*(aa.obj w.heap.size (.map #[] 0)*aa.emp)) ((w.alloc (.map #[] 0)).alloc (.cells (Gm cap 0 w.heap.size 0 0 false false 0 (O none 0 0)) 145)):=by have:=e;rw[show(w.alloc (.map #[] 0)).heap.size=w.heap.size+1 by simp]at this;exact this
 have a:aa.le aa.emp (Ba 1 (O none 0 0) ([]:List Int).length (xf [])):=Lx;exact(f.le (KZ (MZ (JZ _) (MZ hm (KZ a (KZ (RZ trivial) (MZ (JZ _) (JZ _)))))) d)).as
end
end Go.Proofs.YteacbkflfafefaaGreatDoor
