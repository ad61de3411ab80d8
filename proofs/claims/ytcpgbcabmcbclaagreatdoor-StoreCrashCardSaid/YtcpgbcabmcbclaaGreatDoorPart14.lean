/- Part 14 of the proof. -/
import Derived.Test.YtcpgbcabmcbclaaGreatDoorPart13
set_option maxRecDepth 20000
set_option maxHeartbeats 8000000
namespace Go.Proofs.YtcpgbcabmcbclaaGreatDoor
open Go.GV Go.Proofs.Tryz
attribute [local irreducible] AB W Wq Wt
section
variable {w0 w w':World}{p:Sp}{N b bd m:Nat}{A A':Dev}{M L:List Pr}{F F':Mut}{R:Rj}{V:Nat->Byt}{gen:Nat}{root:Int}{S:List Nat}{Ws:List (List Wr)}
theorem YP(hn:442<=N/\N<=841)(hl:A.B.length=N)(ho:A.on=true):KB A=0:=by
 unfold KB;rw[if_neg (by rw[ho];decide),hl,if_neg (by rw[QO hn,MA hn];omega)]
theorem Dsk.load(d:Dsk N V R gen root M S Ws L)(g:SG N A R V):EK A=0/\F6 A=gen/\DU A=tpB root R.first R.seq:=by
 have lo:=d.lo;have r0:=d.r0;have r1:=d.r1;have rl:=d.rl
 rcases Nat.mod_two_eq_zero_or_one gen with hp|hp
 .have hp1:(gen+1) % 2=1:=by omega
  rw[hp]at r1 rl;rw[hp1]at r0;obtain⟨e1,e2,e3⟩:=g.load (g0:=gen) (g1:=Cy 1 (V 1)) (l0:=tpB root R.first R.seq) (l1:=DI 1 (V 1)) r1 rfl (fun _=>rl) (fun _ _=>rfl);have r0':Cy 1 (V 1)<gen:=r0;rw[if_neg (by omega)]at e1;rw[if_pos r0']at e2 e3;exact⟨e1,e2,e3⟩
 .have hp1:(gen+1) % 2=0:=by omega
  rw[hp]at r1 rl;rw[hp1]at r0;obtain⟨e1,e2,e3⟩:=g.load (g0:=Cy 0 (V 0)) (g1:=gen) (l0:=DI 0 (V 0)) (l1:=tpB root R.first R.seq) rfl r1 (fun _=>rfl) (fun _ _=>rl);have r0':Cy 0 (V 0)<gen:=r0;rw[if_neg (by omega)]at e1;rw[if_neg (by omega)]at e2;rw[if_neg (by omega),if_neg (by omega)]at e3;exact⟨e1,e2,e3⟩
theorem YQ(S:List Nat)(y:Nat):((y:Int)∈(Jd (S.map fun x:Nat=>(x:Int))).map (fun k=>((k.toNat:Nat):Int)))↔y∈S:=by
 have hp:(Jd (S.map fun x:Nat=>(x:Int))).Perm (S.map fun x:Nat=>(x:Int)):=qce _ _;rw[(hp.map _).mem_iff,qbi];simp only[qah,qcr,qbo];refine⟨fun⟨a,h1,h2⟩=>?_,fun h=>⟨y,h,rfl⟩⟩;obtain rfl:a=y:=by omega
 exact h1
theorem Ana(m:Nat)(S:List Nat)(y:Nat):(pgU m S)[y]?=if y∈S then(if y<m then some 1 else none)else if y<m then some 0 else none:=by
 unfold pgU;rw[TO,qeh]
 by_cases h:y∈S
 .rw[if_pos ((YQ S y).2 h),if_pos h]
  split <;> rfl
 .rw[if_neg (fun h5=>h ((YQ S y).1 h5)),if_neg h]
theorem PJ(O:Own w0 w bd A F)(h:Bs N b L A)(hb:b<=5000) :
  Ret prog 19 #[ptr bd] w fun v w'=>∃p,v=.tuple #[ptr p.bs,.int .i64 0]/\p.bd=bd/\Lv w0 w' p A F N b L/\Ext [] w w'/\(∀y,Ms F p y->F y\/w.heap.size<=y)/\∀y,y<w.heap.size->p.z y:=by
 obtain⟨R,V,gen,root,M,S,Ws,g,d,h1,h2,h3⟩:=h;have hn:=d.n;obtain⟨m,rfl⟩:∃m,N=m+362:=⟨N - 362,by omega⟩;obtain⟨e1,e2,e3⟩:=d.load g;have hlow:∀x∈S,x<m:=fun x hx=>by have:=d.low x hx;omega
 have hlen:=g.len;have hmx:=d.mx
 have td:=told (fr:=362) (A:=A) (P:=List.replicate m 0) (root:=root) (L:=M) (S:=S) (d.tr.frame fun y hy=>by
  unfold RD RV;rw[IC g.pend (by have:=d.low y hy;omega)]
  rfl) g.on (by rw[hlen,qba];omega) (by rw[qba];omega) d.nd (fun x hx=>by rw[qba];exact hlow x hx) d.rise
 have hr1:=td.rlo;have hr2:=td.rhi;rw[qba]at hr2;obtain⟨n1,n2⟩:=d.num2 g.ok;refine(YJ (m:=m) (gen:=gen) (root:=root) (L0:=M) (S:=S) (Ws:=Ws) O g (YP hn hlen g.on) (by omega) e1 e3 e2 ⟨hr1,by omega⟩ ⟨d.z,h2,by omega⟩ td hlow d.nd d.rise d.ok (by omega) d.ws (fun W hW=>⟨(d.few W hW).1,fun x hx=>((d.few W hW).2 x hx).1⟩) (by omega)).mono fun v w' ⟨p,hv,hp,O',hx,hms,hz⟩=>?_;have k0:=V1 M d.rise;have k1:=k0.sets (W:=Ws.flatten);rw[<-d.l]at k1;have hget:=Ana m S;refine⟨p,hv,hp,⟨R,_,M,S,Ws,O',⟨g,d,k1,?_,rfl,?_,fun s hs=>?_,fun y=>?_,h1,h2,h3⟩,?_⟩,hx,hms,hz⟩
 .show Ek (kv1 M) (Ek [] 0 (M.map toW)) Ws.flatten=B0 L;rw[Jh k0.nd,Jh (kv:=[]) qcb,GQ k1.perm];show(0:Int) - ((B0 []:Nat):Int)+(B0 (kv1 M):Int) - (B0 (kv1 M):Int)+(B0 L:Int)=_
  have:B0 []=0:=rfl
  omega
 .show(pgU m S).length=_;rw[Ka,qba];omega
 .obtain⟨y,hy⟩:=qcg.1 hs;rw[hget]at hy
  split at hy <;> split at hy <;> simp at hy <;> omega
 .show y∈S↔(pgU m S)[y]?=some 1\/(pgU m S)[y]?=some 2;rw[hget]
  by_cases h:y∈S
  .rw[if_pos h,if_pos (hlow y h)];simp[h]
  .rw[if_neg h];constructor
   .exact fun h5=>absurd h5 h
   .intro h5
    split at h5 <;> simp at h5
 .show((M.length:Nat):Int)+((Ws.flatten.length:Nat):Int)<=_;omega
theorem Akw(O:Own w0 w bd A F)(hn:442<=m+362/\m+362<=841){pq qq:Nat}(g:SG (m+362) A ⟨[],360,pq,qq⟩ V)(hl:A.left = -1)(hqq:1<=qq/\qq<=b)(hgn:F6 A+1<=b)(h0:Cy (((F6 A+1+1) % 2:Nat):Int) (V ((F6 A+1+1) % 2))<F6 A+1)(hT:(EK A=4/\DU A=[]/\pq=0/\qq=1)\/(EK A=0/\∃r0 R0,DU A=tpB r0 R0.first R0.seq/\(-1<=r0/\r0<=4294967294)/\SG (m+362) A R0 V/\R0.size=360/\(1<=R0.seq/\R0.seq<=4611686018427387904)/\pq=R0.at'/\qq=R0.seq+R0.L.length+1))(hpq:pq<360:=by decide)(hb:b<=5000:=by decide):
  Ret prog 10 #[ptr bd] w fun v w'=>∃p A' F',v=.tuple #[ptr p.bs,.int .i64 0]/\p.bd=bd/\Lv w0 w' p A' F' (m+362) b []/\A'.left = -1/\Grown F (Ms F' p) w w'/\(∀y,y<w.heap.size->p.z y):=by
 refine(Ac3 (pq:=pq) (qq:=qq) O g hl ⟨rfl,rfl,rfl,rfl⟩ hpq ⟨hqq.1,by omega⟩ (by omega) (by omega) (YP hn g.len g.on) hT).mono fun v w' ⟨p,F',hv,hp,O',G,hz⟩=>?_;obtain⟨-,s2,s3⟩:=g.save0 hl (F6 A+1) (tpB (-1) pq qq) (by omega) (by omega) (by rw[Eg];decide);generalize F6 A=gl at *;have p2:=par2 gl;refine⟨p,_,F',hv,hp,⟨_,_,[],[],[],O',⟨s3,⟨hn,rfl,?_,?_,?_,.inl ⟨rfl,rfl,rfl⟩,qcb,(fun x hx=>by cases hx),qak _,List.Pairwise.nil,(fun x hx=>by cases hx),qak _,rfl,(fun x hx=>by cases hx),rfl,?_⟩,KL.nil,rfl,rfl,?_,fun s hs => .inl (List.eq_of_mem_replicate hs),fun y=>?_,hgn,hqq.1,hqq.2⟩,?_⟩,s2,G,hz⟩
 .show Cy (((gl+1) % 2:Nat):Int) (if(gl+1) % 2=(gl+1) % 2 then _ else _)=gl+1;rw[if_pos rfl];exact Nr (gen:=gl+1) (by rw[Eg];decide)
 .show DI (((gl+1) % 2:Nat):Int) (if(gl+1) % 2=(gl+1) % 2 then _ else _)=tpB (-1) pq qq;rw[if_pos rfl];exact Ns (gen:=gl+1) (by rw[Eg];decide)
 .show Cy (((gl+1+1) % 2:Nat):Int) (if(gl+1+1) % 2=(gl+1) % 2 then _ else V ((gl+1+1) % 2))<gl+1;rw[if_neg (by omega)];exact h0
 .show((0:Nat):Int)<=_;rw[QO hn,MA hn];omega
 .show(List.replicate m 0).length=_;rw[qba];omega
 .show y∈[]↔(List.replicate m 0)[y]?=some 1\/(List.replicate m 0)[y]?=some 2;rw[qeh]
  split <;> simp
 .show(0:Int)<=_;omega
theorem YR(hn:442<=N/\N<=841)(O:Own w0 w bd (Fu N) F) :
  Ret prog 10 #[ptr bd] w fun v w'=>∃p A' F',v=.tuple #[ptr p.bs,.int .i64 0]/\p.bd=bd/\Lv w0 w' p A' F' N 1 []/\A'.left = -1/\Grown F (Ms F' p) w w'/\(∀y,y<w.heap.size->p.z y):=by
 obtain⟨m,rfl⟩:∃m,N=m+362:=⟨N - 362,by omega⟩;have g0:SG (m+362) (Fu (m+362)) ⟨[],360,0,1⟩ (fun _=>zeros):=SG.new ⟨by decide,by decide,by decide,by decide,by decide⟩ rfl (by show 2+360<=_;omega) (by omega);obtain⟨e1,e2,e3⟩:=g0.load (g0:=0) (g1:=0) (l0:=[]) (l1:=[]) (GO _) (GO _) (fun h=>absurd h (by decide)) (fun _ h=>absurd h (by decide));rw[if_pos ⟨rfl,rfl⟩]at e1;rw[if_neg (by decide)]at e2 e3;rw[if_pos rfl]at e3;exact Akw O hn g0 U ⟨qae _,qae _⟩ (by rw[e2];decide) (by rw[GO];omega) (.inl ⟨e1,e3,rfl,rfl⟩)
end
section
variable {w0 w w':World}{p:Sp}{N b:Nat}{A:Dev}{R:Rj}{x:Sx}{M:Mut}{L:List Pr}{F F':Mut}
def Sp.zone(p:Sp)(w w':World):Sp:={ p with z:=fun y=>p.z y\/(w.heap.size<=y/\y<w'.heap.size) }
theorem Sok.zone(O:Sok w0 w p A R x F)(hx:Ext [] w w'):Sok w0 w' (p.zone w w') A R x F:=by
 obtain⟨l,o1,o2,hF,K,hk,hM⟩:=O.ex;refine⟨O.jone.call hx,O.good,⟨l,o1,o2,(hF.call (Grown.call hx)).1,⟨K.m,fun q hq=>⟨⟨(K.ok q hq).1.1.ext0 hx,?_⟩,(K.ok q hq).2⟩,K.few⟩,hk,hM⟩,O.ge,O.nn,O.tt,O.tT,fun y hy=>hy.elim (fun h=>qas (O.zl y h) hx.size) fun h=>h.2⟩
 rcases Rd.lt8 (K.ok q hq).1.1 with h|h
 .exact .inl h
 .exact(K.ok q hq).1.2.imp id fun h2 h3=>h3.elim (fun h4=>h2 (.inl h4)) fun h4=>h4.elim (fun h5=>h2 (.inr h5)) fun h5=>by have:=h5.1;omega
theorem Sok.turned{S:List Nat}(O:Sok w0 w p A R x F)(hx:Ext S w w')(hS:∀y∈S,p.z y/\¬Ms F p y/\w0.heap.size<=y):Sok w0 w' p A R x F:=by
 obtain⟨l,o1,o2,hF,K,hk,hM⟩:=O.ex;refine⟨O.jone.over hx (fun y hy h=>(hS y hy).2.1 (.inl h)) fun y hy=>(hS y hy).2.2,O.good,⟨l,o1,o2,MB hF hx rfl fun y hy => .inr ⟨hy,fun h=>(hS _ h).2.1 (.inr ?_)⟩,⟨K.m,fun q hq=>⟨⟨Rdx.read (K.ok q hq).1 hx fun y hy => .inr (hS y hy).1,(K.ok q hq).1.2⟩,(K.ok q hq).2⟩,K.few⟩,hk,hM⟩,O.ge,O.nn,O.tt,O.tT,fun y hy=>qas (O.zl y hy) hx.size⟩;have h5:y.1∈(p.blk x o1 o2).map (·.1):=qah.2 ⟨y,hy,rfl⟩;exact h5
theorem Lv.zone(O:Lv w0 w p A F N b L)(hx:Ext [] w w'):Lv w0 w' (p.zone w w') A F N b L :=
 let ⟨R,x,M,S,Ws,h1,h2,h3⟩:=O;⟨R,x,M,S,Ws,h1.zone hx,h2,h3⟩
theorem Lv.turned{S:List Nat}(O:Lv w0 w p A F N b L)(hx:Ext S w w')(hS:∀y∈S,p.z y/\¬Ms F p y/\w0.heap.size<=y):Lv w0 w' p A F N b L :=
 let ⟨R,x,M,S,Ws,h1,h2,h3⟩:=O;⟨R,x,M,S,Ws,h1.turned hx hS,h2,h3⟩
theorem Lv.lt(O:Lv w0 w p A F N b L):∀q,Ms F p q->q<w.heap.size:=by
 obtain⟨R,x,M,S,Ws,O,-⟩:=O;exact O.lt
theorem Lv.ge(O:Lv w0 w p A F N b L):∀q,Ms F p q->w0.heap.size<=q:=by
 obtain⟨R,x,M,S,Ws,O,-⟩:=O;rintro q ((h|rfl)|h)
 .exact(O.jone.own.own q h).1
 .exact O.jone.ge
 .exact O.ge q h
theorem Prs.more{a:Option Addr}{n c:Nat}{K:List Pr}(h:Prs w M a n c K)(hx:Ext [] w w'):Prs w' (fun y=>M y\/w.heap.size<=y) a n c K:=by
 obtain⟨ps,R,hs,hl,hm⟩:=h.ex
 have hlt:∀{a:Option Addr} {l:Byt},Rdx w M a l->Rdx w' (fun y=>M y\/w.heap.size<=y) a l:=fun{a l} ⟨q1,q2⟩=>⟨q1.ext0 hx,by
  rcases Rd.lt8 q1 with h|h
  .exact .inl h
  .exact q2.imp id fun h2 h3=>h3.elim h2 fun h4=>by omega⟩
 refine⟨⟨ps,R.ext0 hx,?_,hl,fun m hm'=>⟨hlt (hm m hm').k,hlt (hm m hm').v,(hm m hm').kc,(hm m hm').vc⟩⟩,h.num,h.le⟩
 rcases ps with _|⟨m,ps⟩
 .exact .inl U
 .have h9:=World.block_lt_of_cell? w ⟨(adr a).block,_,none⟩ (R.cell 0 m rfl 0 _ rfl (by decide));exact hs.imp id fun h2 h3=>h3.elim h2 fun h4=>by dsimp only at h9;omega
theorem TU{M M':Mut}{k:Nat}(h:Grown M M' w w')(hk:k<=w.heap.size):Grown (fun y=>M y\/k<=y) (fun y=>M' y\/k<=y) w w':=by
 obtain⟨⟨S,hS,hx⟩,g⟩:=h;exact⟨⟨S,fun y hy => .inl (hS y hy),hx⟩,fun y hy => .inl (hy.elim (fun h=>(g y h).imp id fun h=>by omega) .inr)⟩
end
section
variable {w0 w w':World}{p:Sp}{N b:Nat}{A:Dev}{R:Rj}{x:Sx}{V:Nat->Byt}{L:List Pr}{F:Mut}
theorem Dd9.call(O:Dd9 w0 w p A F)(hx:Ext [] w w'):Dd9 w0 w' p A F:=by
 obtain⟨vj,vp,vt,gen,root,n,h⟩:=O.bs;exact⟨O.own.call hx,⟨vj,vp,vt,gen,root,n,hx.to h (by simp)⟩,O.nF,O.ge,O.off,O.few⟩
theorem Af1(O:Dd9 w0 w p A F)(a a2:Option Addr)(n c n2 c2:Nat):Ret prog 20 #[ptr p.bs,.slice a n c,.slice a2 n2 c2] w fun v w'=>v=.tuple #[.slice none 0 0,.int .i64 8]/\w=w':=by
 obtain⟨wI,rfl⟩:=qD w;obtain⟨vj,vp,vt,gen,root,m,h⟩:=O.bs;refine A6 (fn:=f20) func20 U [ptr p.bs,.slice a n c,.slice a2 n2 c2] U (Ad (Ak U (Ac U (qA (Aq (Ad (Am U (Ai qB (GP h) U ?_))))))));rintro v w ⟨rfl,rfl⟩;rw[show Acr true=8 from rfl];refine Ac U (qA (Ad (Ae U (Ba U U (qA (Au _ U ?_ ?_))))))
 .intro h1;replace h1:=Bu h1;refine Ad (Ae U (Ak U (Ac U (qA (Ax (Ao (Ce (v1:=(.slice _ _ _)) (v2:=(.int _ _)) U U U U ?_)))))));exact⟨rfl,rfl⟩
 .intro h1;replace h1:=Bv h1;cases h1
theorem YS(O:Dd9 w0 w p A F)(a:Option Addr)(n c:Nat):Ret prog 13 #[ptr p.bs,.slice a n c] w fun v w'=>v=.int .i64 8/\w=w':=by
 obtain⟨wI,rfl⟩:=qD w;obtain⟨vj,vp,vt,gen,root,m,h⟩:=O.bs;refine A6 (fn:=Tryz.f13) func13 U [ptr p.bs,.slice a n c] U (Ad (Ac U (qA (Aq (Ad (Am U (Ai qB (GP h) U ?_)))))));rintro v w ⟨rfl,rfl⟩;rw[show Acr true=8 from rfl];refine Ac U (qA (Ad (Ae U (Ba U U (qA (Au _ U ?_ ?_))))))
 .intro h1;replace h1:=Bu h1;refine Ad (Ae U (Ac U (qA (Ax (Ao (AG (v:=(.int _ _)) U U U ?_))))));exact⟨rfl,rfl⟩
 .intro h1;replace h1:=Bv h1;cases h1
theorem Aa2(O:Dd9 w0 w p A F):Ret prog 16 #[ptr p.bs] w fun v w'=>v=.int .i64 8/\Ext [] w w':=by
 obtain⟨wI,rfl⟩:=qD w;obtain⟨vj,vp,vt,gen,root,m,h⟩:=O.bs;have H:=Ctx.start wI [];refine A6 (fn:=f16) func16 U [ptr p.bs] U (Ad (Cn _ (.pointer _) U U H ?_));rintro b1 w - H;refine Ac U (qA (Aq (Ad (AH Fc U H at0 U (Ai qB (GP (H.ext.to h (by simp))) U ?_)))));rintro v w ⟨rfl,rfl⟩;rw[show Acr true=8 from rfl];refine Ac U (qA (Ad (Ae U (Ba U U (qA (Au _ U ?_ ?_))))))
 .intro h1;replace h1:=Bu h1;refine Ad (Ae U (Ac U (qA (Ax (Ao (AG (v:=(.int _ _)) U U U ?_))))));exact⟨rfl,H.ext⟩
 .intro h1;replace h1:=Bv h1;cases h1
theorem Aa3(O:Dd9 w0 w p A F):Ret prog 25 #[ptr p.bs] w fun v w'=>v=.int .i64 0/\w=w':=by
 obtain⟨vj,vp,vt,gen,root,m,h⟩:=O.bs;exact Vp h
theorem PM{bd:Nat}(O:Own w0 w bd A F):Ret prog 28 #[ptr bd] w fun v w'=>v=.bool A.on/\w=w':=by
 obtain⟨_,_,h⟩:=O.dev.hd;exact Pn h
theorem SG.arm(g:SG N A R V)(n:Int):SG N (IU A n) R V:=by
 have h:IU A n={ A with left:=max n (-1) }:=by unfold IU;rw[g.on];rfl
 rw[h];exact⟨g.ok,g.fit,g.lim,g.on,by show(-1:Int)<=max n (-1);omega,⟨g.pend.len,g.pend.get⟩,g.held⟩
theorem Sok.arm(O:Sok w0 w p A R x F)(n:Int)(O':Own w0 w' p.bd (IU A n) F)(G:Grown F F w w'):Sok w0 w' p (IU A n) R x F:=by
 obtain⟨l,o1,o2,hF,K,hk,hM⟩:=O.ex
 have gj:Grown (Fj F p.bj) (Fj F p.bj) w w':=by
  obtain⟨⟨S,hS,hx⟩,g⟩:=G;exact⟨⟨S,fun y hy => .inl (hS y hy),hx⟩,fun y hy => .inl hy⟩
 have hB:(IU A n).B=A.B:=by unfold IU;cases A.on <;> rfl
 refine⟨⟨O',G.keep O.jone.jr O.jone.nF,O.jone.nF,O.jone.ge⟩,by rw[hB];exact O.good.arm n,⟨l,o1,o2,(hF.call gj).1,⟨K.m,fun q hq=>⟨(K.ok q hq).1.turn (TH (Y5 gj)),(K.ok q hq).2⟩,K.few⟩,hk,hM⟩,O.ge,O.nn,O.tt,O.tT,fun y hy=>qas (O.zl y hy) G.1.size⟩
theorem Lv.arm(O:Lv w0 w p A F N b L)(n:Int)(O':Own w0 w' p.bd (IU A n) F)(G:Grown F F w w'):Lv w0 w' p (IU A n) F N b L:=by
 obtain⟨R,x,M,S,Ws,h1,a,h3⟩:=O;exact⟨R,x,M,S,Ws,h1.arm n O' G,⟨a.sg.arm n,a.d,a.kl,a.n,a.t,a.len,a.p01,a.mem,a.gen,a.seq⟩,h3⟩
theorem Bs.arm(h:Bs N b L A)(n:Int):Bs N b L (IU A n):=by
 obtain⟨R,V,gen,root,M,S,Ws,g,d,h1,h2,h3⟩:=h;exact⟨R,V,gen,root,M,S,Ws,g.arm n,d,h1,h2,h3⟩
end
theorem Adc{A:Dev}{n:Int}(h:A.on=true):(IU A n).on=true:=by unfold IU;rw[h];rfl
theorem YT{w0 w:World}{bd N b k pc ac:Nat}{A:Dev}{F:Mut}{L:List Pr}{P:List Int}{pa aa:Option Addr}{ar:Byt}(O:Own w0 w bd A F)(hoff:A.on=false)(hfew:Few A 10000000)(hB:Bk N b L (onD A P))(Rp:Rd w pa 1 (fun x:Int=>[.int .i64 x]) P)(hP:P.length<=9000000000000000000/\P.length<=pc)(hFa:P=[]\/¬F (adr pa).block)(hi64:∀x∈P,-9223372036854775808<=x/\x<=9223372036854775807)(tw:Bool)(Xa:Rdx w F aa ar)(hk:tw=true->k<ar.length)(hb:b<=5000:=by omega)(_:ar.length<=1000:=by omega):
  Ret prog 29 #[ptr bd,.slice pa P.length pc,.bool tw,.slice aa ar.length ac,.int .i64 (k:Int)] w fun v w'=>∃p A',v=.tuple #[ptr p.bs,.bool true]/\p.bd=bd/\Lv w0 w' p A' F N b L/\Grown F F w w'/\(∀y,Ms F p y->F y\/w.heap.size<=y)/\∀y,y<w.heap.size->p.z y:=by
 obtain⟨wI,rfl⟩:=qD w
 have hon:(onD A P).on=true:=by
  obtain⟨-,R,V,gen,root,M,S,Ws,g,-⟩:=hB;exact g.on
 have hE0:onE A=0:=by unfold onE;rw[hoff];rfl
 refine A6 (fn:=Tryz.f29) func29 U [ptr bd,.slice pa P.length pc,.bool tw,.slice aa ar.length ac,.int .i64 (k:Int)] U (Ad (Bx U (An U (qA (Aq (Ad (Am U (Aj U (Ai qB (Ai1 O pa pc _ P Rp U (by omega) hP.2 hFa hi64 hfew) U ?_)))))))));rw[hE0];rintro v w18 ⟨rfl,D1,G1⟩;have X1:=Xa.turn G1;refine Ba U U (qA (Bz U (Ap (Aa (Aq (Ad (AA U (qA (Au _ U ?_ ?_)))))))))
 .intro h1;obtain⟨u,hu⟩:=AO (l:=ar) (i:=k) (h:=hk h1);have hkl:=hk h1;have hul:=u.toNat_lt;refine Aq (Ad (Am U (Aj U (Ae U (AY X1.1 AX CT U U (hn:=by rfl) ?_)))));refine Be QA U ((X1.1.one (f:=bv) hu)) (Ej U GR Ge ?_);refine Ro U U U (Ai qB (Wi D1 _) U ?_);rw[show Ni (onD A P)=0 from by unfold Ni;rw[hon];rfl];rintro v w28 ⟨rfl,D2,G2⟩;refine Ba U U (qA (Bz U (Ap (Aa (Ad (Am U (Ai qB (PJ D2 (hB.2.arm _) hb) U ?_)))))));rintro v w32 ⟨p,rfl,hp,O3,hx3,hms,hz⟩;refine AQ U (Ah U U (Ah U U (Bx U (Ac U (qA (Aq (Ad (Am U (Ai qB (PM (hp ▸ O3.bs.1)) U ?_)))))))));rw[show(IU (onD A P) ((u.toNat:Int) % 4)).on=true from Adc hon];rintro v w36 ⟨rfl,h36⟩;rw[h36]at O3 hx3;refine qA (EA U (Ad (Am U (Ae U (B6 U U (AA U (Am U (LZ U Ss U ?_))))))))
  refine AN U (.bool _) U (AA U (Am U (Ai qB (Wi (hp ▸ O3.bs.1) (-1) (hn:=by decide)) U ?_)));rw[show Ni (IU (onD A P) ((u.toNat:Int) % 4))=0 from by unfold Ni;rw[Adc hon];rfl];rintro v w46 ⟨rfl,D4,G4⟩;refine B6 U U (AN U (.bool _) U (Bx U (An U (qA (Ax (Ao (Ao (Ce (v1:=(.pointer _)) (v2:=(.bool _)) U U U U ?_))))))));have G12:=Grown.trans G1 G2;have G13:Grown F F wI w36:=Grown.trans G12 (Grown.call hx3);refine⟨p,_,rfl,hp,O3.arm (-1) (by rw[hp];exact D4) G4,Grown.trans G13 G4,fun y hy=>(hms y hy).imp id fun h=>qav G12.1.size h,fun y hy=>hz y (qas hy G12.1.size)⟩
 .intro h1;refine Ap (Aa (Ad (Am U (Ai qB (PJ D1 hB.2 hb) U ?_))));rintro v w63 ⟨p,rfl,hp,O3,hx3,hms,hz⟩;refine AQ U (Ah U U (Ah U U (Bx U (Ac U (qA (Ad (Am U (Ae U (B6 U U ?_)))))))));refine AA U (Am U (LZ U Ss U ?_));refine AN U (.bool _) U (Bx U (An U (qA (Ax (Ce (v1:=(.pointer _)) (v2:=(.bool _)) U U U U ?_)))));exact⟨p,_,rfl,hp,O3,Grown.trans G1 (Grown.call hx3),fun y hy=>(hms y hy).imp id fun h=>qav G1.1.size h,fun y hy=>hz y (qas hy G1.1.size)⟩
theorem QP{l:Byt}{i:Nat}{p:UInt8}(h:l[i]?=some p):l.drop i=p::l.drop (i+1):=by
 obtain⟨h1,h2⟩:=qaq.1 h;rw[qd0 h1,h2]
theorem YU:∀(a:Byt) {x y:Byt},DX (a++x) (a++y)=DX x y
 | [],x,y=>rfl
 |p::a,x,y=>by
  rw[qbx,qbx,GH,if_neg (UInt8.lt_irrefl p),if_neg (UInt8.lt_irrefl p),YU a]
theorem MC{x y:Byt}{i:Nat}(h:x.take i=y.take i):DX x y=DX (x.drop i) (y.drop i):=by
 have h1:=YU (x.take i) (x:=x.drop i) (y:=y.drop i);rw[qbj,h,qbj]at h1;exact h1
theorem V8(a a2:Option Addr)(c c2:Nat)(x y:Byt)(w:World)(Rx:Rd w a 1 B8 x)(Ry:Rd w a2 1 B8 y)(hx:x.length<=1000000000)(_:y.length<=1000000000) :
  Ret prog 69 #[.slice a x.length c,.slice a2 y.length c2] w fun v w'=>v=.int .i64 (DX x y)/\Ext [] w w':=by
 obtain⟨w0,rfl⟩:=qD w;refine A6 (fn:=f69) func69 U [.slice a x.length c,.slice a2 y.length c2] U ?_;refine Ad (Ac U (qA (Aq (Ad (Ac U (qA (AE (B7 68719476720 (α:=Nat) (fun i=>[(5,.int .i64 (i:Int))]) (fun i w'=>i<=x.length/\i<=y.length/\x.take i=y.take i/\Ext [] w0 w') (fun i=>x.length - i) 0 U ?_ ?_ ?_))))))))
 .exact⟨rfl,trivial⟩
 .exact⟨qak _,qak _,rfl,Ext.refl _ _⟩
 .rintro i j w1 ⟨hi,hi2,ht,hE⟩;have H:=Ctx.start w1 [];refine Aq (Ad (BE (α:=Unit) 65472 (fun _=>[(15,.bool ((decide (i<x.length) && decide (i<y.length))))]) (fun _ w'=>w1=w') U ?_ ?_))
  .refine Ae U (Aj U (AP AX U (Bn U U (AA U (AR 10 U ?_ ?_)))))
   .intro h1;replace h1:=AV h1;refine Ae U (Aj U (AP AX U (Bn U U (AN U (.bool _) U (Ab ?_)))));exact⟨rfl,(),rfl,⟨qab Value.bool (by simp_all;try omega),trivial⟩,rfl⟩
   .intro h2;replace h2:=AW h2;refine Ag U (Ag U (Ag U (Ag U (AK U (.bool _) U (Ab ?_)))));exact⟨rfl,(),rfl,⟨qab Value.bool (by simp_all;try omega),trivial⟩,rfl⟩
  rintro - j15 w rfl;refine Au _ U ?_ ?_
  .intro h1;simp only[qao,qap]at h1;obtain⟨p,hp⟩:=AO (l:=x) (i:=i) (h:=h1.1);obtain⟨q,hq⟩:=AO (l:=y) (i:=i) (h:=h1.2);have hcm:=MC ht;rw[QP hp,QP hq,GH]at hcm;have hEd:=hE.trans (Ext.drew [] w1);have hEdd:=hEd.trans (Ext.drew [] w1.drew);refine Ap (Aa (Aq (AE (Aq (J7 (fun x=>x=_) mixed U ?_)))));refine Gm U (DM U (Em Rx AX CT U U (hn:=by rfl) ?_));refine HZ QA U (by rintro _ rfl;exact(((Rx.ext0 hEd).one (f:=bv) hp))) ?_;refine Gm U (DM U (Em Ry AX CT U U (hn:=by rfl) ?_));refine HZ QA U (by rintro _ rfl;exact(((Ry.ext0 hEd).one (f:=bv) hq))) ?_;refine q_lss U U U (Jo ?_);rintro _ rfl;replace H:=H.drew;refine Au _ U ?_ ?_
   .intro h2;replace h2:=AV h2;refine Ad (Ac U (qA (Ax (Ao (AL (Ao (Ao (AL (Ao (AG (v:=(.int _ _)) U U U ?_))))))))));exact⟨by rw[hcm,if_pos (UInt8.lt_iff_toNat_lt.2 (by omega))],hEd⟩
   .intro h2;replace h2:=AW h2;refine Ap (Aa (J7 (fun x=>x=_) mixed U ?_));refine Gm U (DM U (Em Rx AX CT U U (hn:=by rfl) ?_));refine HZ QA U (by rintro _ rfl;exact(((Rx.ext0 hEd).one (f:=bv) hp))) ?_;refine Gm U (DM U (Em Ry AX CT U U (hn:=by rfl) ?_));refine HZ QA U (by rintro _ rfl;exact(((Ry.ext0 hEd).one (f:=bv) hq))) ?_;refine q_gtr U U U (Jo ?_);rintro _ rfl;replace H:=H.drew;refine Au _ U ?_ ?_
    .intro h3;replace h3:=AV h3;refine Ad (Ac U (qA (Ax (AL (Ao (Ao (AL (Ao (AG (v:=(.int _ _)) U U U ?_)))))))));exact⟨by rw[hcm,if_neg (fun h=>by have:=UInt8.lt_iff_toNat_lt.1 h;omega),if_pos (UInt8.lt_iff_toNat_lt.2 (by omega))],hEdd⟩
    .intro h3;replace h3:=AW h3;refine Ap (AF (Aa (Av (Ae U (A7 U U ?_)))));refine Ac U (qA ?_);have he:p=q:=UInt8.toNat_inj.1 (by omega);exact⟨i+1,rfl,⟨rfl,trivial⟩,⟨by omega,by omega,by rw[Bp hp,Bp hq,ht,he],hEdd⟩,by omega⟩
  .intro h1;simp only[qe4,qct]at h1;refine B3 (Ay (Ay (Bb (Aa (Aq (Ad (Aj U (AP AX U (Aj U (AP AX U (Bn U U (qA (Au _ U ?_ ?_)))))))))))))
   .intro h2;replace h2:=AV h2;refine Ad (Ac U (qA (Ax (Ao (AG (v:=(.int _ _)) U U U ?_)))));obtain⟨q,hq⟩:=AO (l:=y) (i:=i);exact⟨by rw[MC ht,qd3 (by omega),QP hq];rfl,hE⟩
   .intro h2;replace h2:=AW h2;refine Ap (Aa (Aq (Ad (Aj U (AP AX U (Aj U (AP AX U (BZ U U (qA (Au _ U ?_ ?_))))))))))
    .intro h3;replace h3:=AV h3;refine Ad (Ac U (qA (Ax (Ao (AG (v:=(.int _ _)) U U U ?_)))));obtain⟨q,hq⟩:=AO (l:=x) (i:=i);exact⟨by rw[MC ht,qd3 (show y.length<=i by omega),QP hq];rfl,hE⟩
    .intro h3;replace h3:=AW h3;refine Ap (Aa (Ad (Ac U (qA (Ax (AG (v:=(.int _ _)) U U U ?_))))));exact⟨by rw[MC ht,qd3 (by omega),qd3 (by omega)];rfl,hE⟩
theorem OM(a a2:Option Addr)(c c2:Nat)(x y:Byt)(w:World)(Rx:Rd w a 1 B8 x)(Ry:Rd w a2 1 B8 y)(hx:x.length<=1000000000:=by omega)(hy:y.length<=1000000000:=by omega):
  Ret prog 68 #[.slice a x.length c,.slice a2 y.length c2] w fun v w'=>v=.bool (decide (x=y))/\Ext [] w w':=by
 obtain⟨w0,rfl⟩:=qD w;refine A6 (fn:=f68) func68 U [.slice a x.length c,.slice a2 y.length c2] U (Ad (An U (qA (Ad (Aj U (Aj U (Ai qB (V8 a a2 c c2 x y _ Rx Ry hx hy) U ?_)))))));rintro v w ⟨rfl,hx7⟩;refine B6 U U (An U (qA (Ax (AG (v:=(.bool _)) U U U ?_))));exact⟨qab Value.bool (decide_eq_decide.2 ⟨NS,fun h=>by rw[h];exact Mi _⟩),hx7⟩
theorem YV{w:World}{M M2:Mut}{a b:Option Addr}{n c m d:Nat}{L K:List Pr}(PL:Prs w M a n c L)(PK:Prs w M2 b m d K)(hn:n<=100000000)(_:m<=100000000)(hL:∀p∈L,p.1.length<=1000/\p.2.length<=1000)(hK:∀p∈K,p.1.length<=1000/\p.2.length<=1000) :
  Ret prog 21 #[.slice a n c,.slice b m d] w fun v w'=>v=.bool (decide (L=K))/\Ext [] w w':=by
 obtain⟨w0,rfl⟩:=qD w;obtain⟨ps,Rp,-,hl,hp⟩:=PL.ex;obtain⟨qs,Rq,-,hk,hq⟩:=PK.ex;have hnL:=PL.num;have hmK:=PK.num;have hpn:ps.length=n:=by rw[hnL,<-hl,qaj]
 have hqm:qs.length=m:=by rw[hmK,<-hk,qaj]
 refine A6 (fn:=f21) func21 U [.slice a n c,.slice b m d] U (Ad (An U (qA (Aq (Ad (Aj U (AP Cv U (Aj U (AP Cv U (Ba U U ?_))))))))));refine qA (Au _ U ?_ ?_)
 .intro hA;replace hA:=Bu hA;refine Ad (An U (qA (Ax (Ao (AG (v:=(.bool _)) U U U ?_)))));exact⟨qab Value.bool (qag fun h=>hA (by rw[h]at hnL;omega)).symm,.refl _ _⟩
 .intro hA;replace hA:=Bv hA;have hnm:n=m:=by omega
  refine Ap (Aa (Aq (Ad (Ac U (qA (AE (B7 8796093020208 (α:=Nat) (fun i=>[(5,.int .i64 (i:Int))]) (fun i w'=>i<=n/\Ext [] w0 w'/\L.take i=K.take i) (fun i=>n - i) 0 U ?_ ?_ ?_)))))))
  .exact⟨rfl,trivial⟩
  .exact⟨qak _,.refl _ _,rfl⟩
  .rintro i j w ⟨hi,hE,he⟩;have H:=(Ctx.start w []);refine Aq (Ad (Ae U (Aj U (AP Cv U (Bn U U (qA (Au _ U ?_ ?_)))))))
   .intro hB;replace hB:=AV hB;obtain⟨x,hx1⟩:=AO (l:=ps) (i:=i);obtain⟨y,hy1⟩:=AO (l:=qs) (i:=i);have hxo:=hp x (qad hx1);have hyo:=hq y (qad hy1);have hxL:L[i]?=some (prI x.it):=by rw[<-hl,qat,hx1];rfl
    have hyK:K[i]?=some (prI y.it):=by rw[<-hk,qat,hy1];rfl
    have hxf:x.it.key.length<=1000/\x.it.val.length<=1000:=hL _ (qad hxL);have hyf:y.it.key.length<=1000/\y.it.val.length<=1000:=hK _ (qad hyK);have hne:prI x.it≠prI y.it->¬L=K:=fun h e=>h (by rw[e]at hxL;exact qbw (hxL.symm.trans hyK));refine Ap (Aa (Aq (AE (BR [([0,1,2,3,4,5,6,7,8,9],10),([11,12,13,14,15,16,17,18,19,20,21,22],23),([24],25)] (fun z=>Ext [] w0 z) [] mixed (hE.trans (Ext.drew [] w)) ?_))));refine AC U U (BF U (B9 U (Cr Rp Cv Dq U U ?_)));refine AD FV U (BG B4 U (fun _ hx=>(Rp.ext0 hx).fld hx1 rfl (j:=0) rfl) ?_);refine BF U (B9 U (Cr Rq Cv Dq U U ?_));refine AD FV U (BG B4 U (fun _ hx=>(Rq.ext0 hx).fld hy1 rfl (j:=0) rfl) ?_);refine AU ?_;replace H:=H.drew
    refine Ai qB (OM _ _ _ _ x.it.key y.it.key _ (hxo.k.1.ext0 (hE.trans H.ext)) (hyo.k.1.ext0 (hE.trans H.ext))) U ?_;rintro v w ⟨rfl,hx27⟩;replace H:=H.call hx27;refine Ab (Bc (hE.trans H.ext) (AC U U ?_));refine Agp U U (LX U U (KS 29 U ?_ ?_))
    .intro hC;replace hC:=Cz hC;have hC':¬x.it.key=y.it.key:=by simpa using hC
     refine Co U (Co U (Co U (Co U (Co U (Co U (Co U (Co U (Co U (Co U ?_)))))))));refine AU (Ag U (Ab (Bc (hE.trans H.ext) (AC U U ?_))));refine Co U (AU (AN U (.bool _) U (Ab (Bc (hE.trans H.ext) (B1 (EA U (Ad (An U (qA (Ax (AL (Ao (Ao (AL (Ao (AG (v:=(.bool _)) U U U ?_))))))))))))))));exact⟨qab Value.bool (qag (hne fun e=>hC' (qab Prod.fst e))).symm,hE.trans H.ext⟩
    .intro hC;replace hC:=C0 hC;have hC':x.it.key=y.it.key:=by simpa using hC
     refine BF U (B9 U (Cr Rp Cv Dq U U ?_));refine AD Jq U (BG B4 U (fun _ hx=>(Rp.ext0 hx).fld hx1 rfl (j:=1) rfl) ?_);refine BF U (B9 U (Cr Rq Cv Dq U U ?_));refine AD Jq U (BG B4 U (fun _ hx=>(Rq.ext0 hx).fld hy1 rfl (j:=1) rfl) ?_);refine AU (Ai qB (OM _ _ _ _ x.it.val y.it.val _ (hxo.v.1.ext0 (hE.trans H.ext)) (hyo.v.1.ext0 (hE.trans H.ext))) U ?_);rintro v w ⟨rfl,hx40⟩;replace H:=H.call hx40;refine Ab (Bc (hE.trans H.ext) (AC U U ?_));refine Agp U U (AU (AK U (.bool _) U (Ab (Bc (hE.trans H.ext) (B1 (Au _ U ?_ ?_))))))
     .intro hD;replace hD:=Cz hD;have hD':¬x.it.val=y.it.val:=by simpa using hD
      refine Ad (An U (qA (Ax (AL (Ao (Ao (AL (Ao (AG (v:=(.bool _)) U U U ?_)))))))));exact⟨qab Value.bool (qag (hne fun e=>hD' (qab Prod.snd e))).symm,hE.trans H.ext⟩
     .intro hD;replace hD:=C0 hD;have hD':x.it.val=y.it.val:=by simpa using hD
      refine Ap (AF (Aa (Av (Ae U (A7 U U ?_)))));refine Ac U (qA ?_);exact⟨i+1,rfl,⟨rfl,trivial⟩,⟨by omega,hE.trans H.ext,by rw[Bp hxL,Bp hyK,he,show prI x.it=prI y.it by unfold prI;rw[hC',hD']]⟩,by omega⟩
   .intro hB;replace hB:=AW hB;refine B3 (Ay (Ay (Bb (Aa (Ad (An U (qA (Ax (AG (v:=(.bool _)) U U U ?_)))))))));rw[qa6 (by omega),qa6 (by omega)]at he;exact⟨qab Value.bool (qal he).symm,hE⟩
section
variable {w0 w w':World}{p:Sp}{A:Dev}{R:Rj}{x:Sx}{F:Mut}
theorem TV(O:Sok w0 w p A R x F)(hl:A.left = -1)(a:Option Addr)(nn c:Nat)(L:List Wr)(X:Wrs w (Ms F p) a nn c L)(hT:x.T<=3000000)(hr:Eh x.kv x.n (Cu A.B.length) L=0)(hfit:BD R.L+blk (opB L).length<=R.size)(hnn:nn<=1000000000:=by decide)(hne:L≠[]:=by decide):
  Ret prog 13 #[ptr p.bs,.slice a nn c] w fun v w'=>v=.int .i64 0/\∃A' F' x',Sok w0 w' p A' (R.more (opB L)) x' F'/\x'.gen=x.gen/\x'.root=x.root/\x'.n=Ek x.kv x.n L/\x'.kv=Gb x.kv L/\x'.t=Ex x.t L/\x'.P=x.P/\x'.T=x.T+L.length/\A'.B.length=A.B.length/\A'.left = -1/\(∀q,(q<2\/2+R.size<=q)->q<A.B.length->x'.V q=x.V q)/\Grown (Ms F p) (Ms F' p) w w':=by
 refine(Nx (C:=fun A1 R1 x1=>A1=A/\R1=R/\x1=x) (Z:=fun _=>False) O a nn c L X hnn hT (fun⟨h1,h2,h3⟩=>by subst h1 h2 h3;exact⟨rfl,rfl,rfl,rfl,hfit⟩) (fun _ _ _=>⟨rfl,rfl,rfl⟩) (fun _ _ _ _ h=>absurd hfit h)).mono fun v w' h=>?_
 rcases h with⟨-,h,-⟩|⟨-,-,hv,A1,R1,x1,A',F',V',⟨h1,h2,h3⟩,O',hln,hle,hV,G⟩|⟨-,-,-,A',F',-,-,h|⟨A1,R1,x1,⟨h1,-⟩,h2,-⟩⟩
 .rcases h with h|h
  .exact absurd hr h
  .exact absurd h hne
 .subst h1 h2 h3;exact⟨hv,A',F',_,O',rfl,rfl,rfl,rfl,rfl,rfl,rfl,hln,hle hl,hV,G⟩
 .cases h
 .rw[h1]at h2;exact absurd hl h2
theorem Aa4(O:Sok w0 w p A R x F)(a:Option Addr)(nn c:Nat)(L:List Wr)(X:Wrs w (Ms F p) a nn c L)(hT:x.T<=3000000)(hr:Eh x.kv x.n (Cu A.B.length) L≠0)(hnn:nn<=1000000000:=by decide):
  Ret prog 13 #[ptr p.bs,.slice a nn c] w fun v w'=>v=.int .i64 (Eh x.kv x.n (Cu A.B.length) L)/\Sok w0 w' p A R x F/\Ext [] w w':=by
 refine(Nx (C:=fun _ _ _=>False) (Z:=fun _=>False) O a nn c L X hnn hT (fun h=>h.elim) (fun h=>absurd h hr) (fun _ _ h=>absurd h hr)).mono fun v w' h=>?_
 rcases h with⟨hv,-,O',hx⟩|⟨h,-⟩|⟨h,-⟩
 .exact⟨hv,O',hx⟩
 .exact absurd h hr
 .exact absurd h hr
theorem W9{M:Mut}{b t:Nat}{m1 m2:Wm}(h:w.heap[b]?=some (Bl t (CO m1++CO m2)))(hb:¬M b)(h1:m1.Ok w M)(h2:m2.Ok w M):Wrs w M (some ⟨b,0,none⟩) 2 2 [m1.x,m2.x] :=
 ⟨⟨[m1,m2],Rd.of_bl (r:=[]) h (by simp) (fun _ _=>rfl),.inr hb,rfl,fun m hm=>by
  simp only[qac,qam,or_false]at hm
  rcases hm with rfl|rfl
  .exact h1
  .exact h2⟩,rfl,qae _⟩
theorem J3{wb:World}{M:Mut}{a:Option Addr}{l:Byt}(R:Rd w a 1 B8 l)(hn:l=[]\/wb.heap.size<=(adr a).block)(hM:∀y,M y->y<wb.heap.size):Rdx w M a l:=⟨R,hn.imp id fun h h5=>by have:=hM _ h5;omega⟩
end
def wrA:Wr:=⟨[97],[49],false⟩
def wrBb:Wr:=⟨[98],[50],false⟩
def wrG:Wr:=⟨[97],[],true⟩
def wrA3:Wr:=⟨[97],[51],false⟩
def wrC3:Wr:=⟨[99],[51],false⟩
def R09:Rj:=⟨[],360,0,1⟩
def W91:List (List Wr):=[[wrA,wrBb],[wrG,wrC3]]
theorem few91:∀W∈W91,W.length<=1000/\∀y∈W,y.Few:=by
 unfold W91 Wr.Few;simp only[qac,qam,or_false,forall_eq_or_imp,forall_eq];decide
theorem kl91:KL (Gb (kv1 []) W91.flatten) [([98],[50]),([99],[51])]:=KL.nil.sets (W:=W91.flatten)
theorem Kc{w w':World}{M:Mut}{a:Option Addr}{n c:Nat}{L:List Pr}(h:Prs w M a n c L)(hx:Ext [] w w'):Prs w' M a n c L:=by
 obtain⟨ps,R,hs,hl,hm⟩:=h.ex;exact⟨⟨ps,R.ext0 hx,hs,hl,fun m hm'=>⟨(hm m hm').k.call hx,(hm m hm').v.call hx,(hm m hm').kc,(hm m hm').vc⟩⟩,h.num,h.le⟩
theorem Anb{w:World}{b t:Nat}{m:Im}(h:w.heap[b]?=some (Bl t (Hh m)))(hk:Rd w m.ka 1 B8 m.it.key)(hv:Rd w m.va 1 B8 m.it.val)(h1:m.it.key.length<=m.kc)(h2:m.it.val.length<=m.vc):Prs w (fun _=>False) (some ⟨b,0,none⟩) 1 1 [prI m.it] :=
 ⟨⟨[m],Rd.of_bl (r:=[]) h (by simp) (fun _ _=>rfl),.inr id,rfl,fun y hy=>by rw[qaa.1 hy];exact⟨⟨hk,.inr id⟩,⟨hv,.inr id⟩,h1,h2⟩⟩,rfl,qae _⟩
theorem Aqh:R09.Ok:=⟨by decide,by decide,by decide,by decide,by decide⟩
set_option maxRecDepth 100000 in
theorem PN(w:World):Ret prog 8 #[] w fun v w'=>v=.bool true/\Ext [] w w':=by
 obtain⟨w0,rfl⟩:=qD w;have g0:SG (80+362) (Fu 442) R09 (fun _=>zeros):=SG.new Aqh rfl (by decide) (by decide);have l0:(Fu 442).left = -1:=rfl;obtain⟨e1,e2,e3⟩:=g0.load (g0:=0) (g1:=0) (l0:=[]) (l1:=[]) (GO _) (GO _) (fun h=>absurd h (by decide)) (fun _ h=>absurd h (by decide));rw[if_pos ⟨rfl,rfl⟩]at e1;rw[if_neg (by decide)]at e2 e3;rw[if_pos rfl]at e3;have em:KB (Fu 442)=0:=by decide
 refine A6 (fn:=Tryz.f8) func8 U [] U (Ad (An U (qA (Ad (Ai qB (Ab6 (by decide) (by decide) _) U ?_)))));rintro v w ⟨bd,F,rfl,O⟩;replace O:Own w0 w bd (Fu 442) F:=O;refine AQ U (Ah U U (Ah U U (Bx U (Ac U (qA (Aq (Ad (Ae U (Ba U U ?_)))))))));refine AA U (Am U (BW MM U ?_));refine AK U (.bool _) U (qA (Bz U (Ap (Aa (Ad (Am U (Ai qB (Aat O.dev em (by rw[e1];decide) g0.good.few) U ?_)))))));rw[e1];rintro v w ⟨rfl,hx28⟩;replace O:=O.call hx28;refine AQ U (Ah U U (Ah U U (Bx U (Ac U (qA (Ad (Am U (Ai qB (Ac3 (pq:=0) (qq:=1) O g0 l0 ⟨rfl,rfl,rfl,rfl⟩ (by decide) (by decide) (by rw[e2];decide) (by decide) em (.inl ⟨e1,e3,rfl,rfl⟩)) U ?_))))))));rw[e2];have hs1:=g0.save0 l0 (0+1) (tpB (-1) 0 1) (by decide) (by decide) (by rw[Eg];decide)
 generalize EG (Fu 442) (0+1) (tpB (-1) 0 1)=A1 at hs1 |-;clear O;rintro v w ⟨p,F1,rfl,hpb,O,-⟩;have hl1:=hs1.2.1;have hn1:=hs1.2.2.len;subst hpb;refine AQ U (Ah U U (Ah U U (Bx U (Ac U (qA (Aq (Ad (Ae U (Ba U U ?_)))))))));refine AA U (Ae U (Ba U U (AK U (.bool _) U (AA U (Am U (BW Ss U ?_))))));refine AK U (.bool _) U (AA U (Am U ?_));have lt48:=O.lt;refine Ai qB (Ac4 [97] [49] _) U ?_;rintro v w48 ⟨hx48,m48,rfl,hm48,Rk48,Rv48,kc48,vc48,nk48,nv48⟩;replace O:=O.call hx48;refine Ai qB (Ac4 [98] [50] _) U ?_;rintro v w49 ⟨hx49,m49,rfl,hm49,Rk49,Rv49,kc49,vc49,nk49,nv49⟩;have lt49:=O.lt;replace O:=O.call hx49;have lt50:=O.lt;have H:=Ctx.start w49 [];refine Cb (CO m48++CO m49) CD CQ Fy H ?_;rintro b50 w hb50 H;have hx50:=H.ext
 have X51:=W9 (M:=Ms F1 p) (H.get at0) (fun h=>by have:=lt50 _ h;omega) ⟨J3 (by rw[hm48];exact(Rk48.ext0 hx49).ext0 hx50) (by rw[hm48];exact nk48) lt48,J3 (by rw[hm48];exact(Rv48.ext0 hx49).ext0 hx50) (by rw[hm48];exact nv48) lt48,by rw[hm48];exact kc48,by rw[hm48];exact vc48⟩ ⟨J3 (by rw[hm49];exact Rk49.ext0 hx50) (by rw[hm49];exact nk49) lt49,J3 (by rw[hm49];exact Rv49.ext0 hx50) (by rw[hm49];exact nv49) lt49,by rw[hm49];exact kc49,by rw[hm49];exact vc49⟩;rw[hm48,hm49]at X51;refine Ai qB (TV (O.call hx50) hl1 (some ⟨b50,0,none⟩) 2 2 [wrA,wrBb] X51 (by decide) (by rw[hn1];decide +kernel) (by decide +kernel)) U ?_;rintro v w51 ⟨rfl,A2,F2,x2,O,hgen2,hroot2,hbn2,hkv2,-,hP2,hT2,hn2,hl2,hV2,-⟩;replace hkv2:x2.kv=[([97],[49]),([98],[50])]:=hkv2;replace hbn2:x2.n=12:=hbn2
 refine Ba U U (AK U (.bool _) U (AA U (Am U (Ai qB (Vw O) U ?_))));rintro v w ⟨rfl,rfl⟩;rw[hbn2];refine Ba U U (AK U (.bool _) U (qA (Bz U (Ap (Aa (Ad (Am U ?_)))))));have lt60:=O.lt;have H:=Ctx.start w51 [];refine Cb [bv 97] AX CT IP H ?_;rintro b60 w hb60 H;refine FA (l:=[97]) AX GR U H at0 ?_;rintro w61 H Rk61;have hx61:=H.ext;replace O:=O.call hx61;clear H;refine B2 (CO ⟨some ⟨b60,0,none⟩,1,none,0,wrG⟩) Qk Fy ?_;have lt63:=O.lt;refine Ai qB (Ac4 [97] [51] _) U ?_;rintro v w63 ⟨hx63,m63,rfl,hm63,Rk63,Rv63,kc63,vc63,nk63,nv63⟩;replace O:=O.call hx63;have lt64:=O.lt;have H:=Ctx.start w63 [];refine Cb (CO ⟨some ⟨b60,0,none⟩,1,none,0,wrG⟩++CO m63) CD CQ Fy H ?_;rintro b64 w hb64 H;have hx64:=H.ext
 have X65:=W9 (M:=Ms F2 p) (H.get at0) (fun h=>by have:=lt64 _ h;omega) ⟨⟨(Rk61.ext0 hx63).ext0 hx64,.inr fun h=>by have:=lt60 _ h;dsimp only[adr]at this;omega⟩,⟨Rd.nil,.inl rfl⟩,qae _,qae _⟩ ⟨J3 (by rw[hm63];exact Rk63.ext0 hx64) (by rw[hm63];exact nk63) lt63,J3 (by rw[hm63];exact Rv63.ext0 hx64) (by rw[hm63];exact nv63) lt63,by rw[hm63];exact kc63,by rw[hm63];exact vc63⟩;rw[hm63]at X65;have hr65:Eh x2.kv x2.n (Cu A2.B.length) [wrG,wrA3]=1:=(by rw[hkv2,hbn2,hn2,hn1];decide +kernel);refine Ai qB (Aa4 (O.call hx64) (some ⟨b64,0,none⟩) 2 2 [wrG,wrA3] X65 (by rw[hT2];decide) (by rw[hr65];decide)) U ?_;rw[hr65];rintro v w65 ⟨rfl,O,-⟩;refine Ac U (qA (Ad (Am U ?_)));have lt67:=O.lt;have H:=Ctx.start w65 [];refine Cb [bv 97] AX CT IP H ?_;rintro b67 w hb67 H
 refine FA (l:=[97]) AX GR U H at0 ?_;rintro w68 H Rk68;have hx68:=H.ext;replace O:=O.call hx68;clear H;refine B2 (CO ⟨some ⟨b67,0,none⟩,1,none,0,wrG⟩) Qk Fy ?_;have lt70:=O.lt;refine Ai qB (Ac4 [99] [51] _) U ?_;rintro v w70 ⟨hx70,m70,rfl,hm70,Rk70,Rv70,kc70,vc70,nk70,nv70⟩;replace O:=O.call hx70;have lt71:=O.lt;have H:=Ctx.start w70 [];refine Cb (CO ⟨some ⟨b67,0,none⟩,1,none,0,wrG⟩++CO m70) CD CQ Fy H ?_;rintro b71 w hb71 H;have hx71:=H.ext
 have X72:=W9 (M:=Ms F2 p) (H.get at0) (fun h=>by have:=lt71 _ h;omega) ⟨⟨(Rk68.ext0 hx70).ext0 hx71,.inr fun h=>by have:=lt67 _ h;dsimp only[adr]at this;omega⟩,⟨Rd.nil,.inl rfl⟩,qae _,qae _⟩ ⟨J3 (by rw[hm70];exact Rk70.ext0 hx71) (by rw[hm70];exact nk70) lt70,J3 (by rw[hm70];exact Rv70.ext0 hx71) (by rw[hm70];exact nv70) lt70,by rw[hm70];exact kc70,by rw[hm70];exact vc70⟩;rw[hm70]at X72;refine Ai qB (TV (O.call hx71) hl2 (some ⟨b71,0,none⟩) 2 2 [wrG,wrC3] X72 (by rw[hT2];decide) (by rw[hkv2,hbn2,hn2,hn1];decide +kernel) (by decide +kernel)) U ?_;rintro v w72 ⟨rfl,A3,F3,x3,O,hgen3,hroot3,hbn3,hkv3,-,hP3,hT3,hn3,hl3,hV3,-⟩;replace hkv3:x3.kv=[([98],[50]),([99],[51])]:=(by rw[hkv3,hkv2];rfl);refine Ac U (qA (Ad (Am U ?_)));have H:=Ctx.start w72 []
 refine Cb [bv 97] AX CT IP H ?_;rintro b75 w - H;refine FA (l:=[97]) AX GR U H at0 ?_;rintro w76 H Rk76;replace O:=O.call H.ext;clear H;refine Ai qB (W5 O (some ⟨b75,0,none⟩) 1 [97] Rk76) U ?_;rw[hkv3,show BI ([([98],[50]),([99],[51])]:Kvl) [97]=none from rfl];rintro v w77 ⟨a77,c77,rfl,-,O,-⟩;refine AQ U (Ah U U (Ah U U (Ah U U (Ak U (An U (Ac U (qA (Ad (Am U ?_)))))))));have H:=Ctx.start w77 [];refine Cb [bv 99] AX CT IP H ?_;rintro b83 w - H;refine FA (l:=[99]) AX GR U H at0 ?_;rintro w84 H Rk84;replace O:=O.call H.ext;clear H;refine Ai qB (W5 O (some ⟨b83,0,none⟩) 1 [99] Rk84) U ?_;rw[hkv3,show BI ([([98],[50]),([99],[51])]:Kvl) [99]=some [51]from rfl];rintro v w85 ⟨a85,c85,rfl,R85,O,-⟩
 refine AQ U (Ah U U (Ah U U (Ah U U (Ak U (An U (Ac U (qA (Aq (Ad ?_)))))))));refine Ae U (Ba U U (AA U (Ae U (Ba U U (AK U (.bool _) U (AA U (AA U (AK U (.bool _) U (AA U ?_)))))))));refine AA U (BX U (AK U (.bool _) U (AA U (Aj U (Kk (l:=[51]) AX GR F7 U R85 ?_)))));refine Agq (l:=[51]) (m:=[51]) U U U (AK U (.bool _) U (AA U (Am U ?_)));have hd9:=Aav O;refine Ai qB (Al7 hd9.1) U ?_;rw[hd9.2.on];rintro v w109 ⟨rfl,D109,-⟩;refine Ba U U (AK U (.bool _) U (AA U (Am U (Ai qB (Ai1 D109 none 0 0 [] Rd.nil U (by decide) (by decide) (.inl U) (fun _ h=>by cases h) hd9.2.good.few) U ?_))));rintro v w114 ⟨rfl,D114,-⟩;refine Ba U U (AK U (.bool _) U (qA (Bz U (Ap (Aa ?_)))))
 have g4:SG (80+362) (onD (MF A3) []) ((R09.more (opB [wrA,wrBb])).more (opB [wrG,wrC3])) x3.V:=(by have h:=hd9.2.off [];rw[hn3,hn2,hn1]at h;exact h);have v0:x3.V 0=zeros:=by rw[hV3 0 (by decide) (by rw[hn2,hn1];decide),hV2 0 (by decide) (by rw[hn1];decide)];rfl
 have v1:x3.V 1=DJ 1 (tpB (-1) 0 1):=by rw[hV3 1 (by decide) (by rw[hn2,hn1];decide),hV2 1 (by decide) (by rw[hn1];decide)];rfl
 obtain⟨f1,f2,f3⟩:=g4.load (g0:=0) (g1:=1) (l0:=[]) (l1:=tpB (-1) 0 1) (by rw[v0];exact GO _) (by rw[v1];exact Nr (gen:=1) (by rw[Eg];decide) (h1:=by decide) (hg:=by decide)) (fun h=>absurd h (by decide)) (fun _ _=>by rw[v1];exact Ns (gen:=1) (by rw[Eg];decide) (h1:=by decide) (hg:=by decide));rw[if_neg (by decide)]at f1 f2 f3;rw[if_neg (by decide)]at f3;have l4:=g4.len;have em4:KB (onD (MF A3) [])=0:=by unfold KB;rw[g4.on,l4];decide
 have td4:=told (fr:=362) (A:=onD (MF A3) []) (P:=List.replicate 80 0) (root := -1) (L:=[]) (S:=[]) (.inl ⟨rfl,rfl,rfl⟩) g4.on (by rw[l4];decide) (by decide) qcb (fun _ h=>by cases h) List.Pairwise.nil;refine Ad (Am U (Ai qB (YJ (m:=80) (gen:=1) (root := -1) (L0:=[]) (S:=[]) (Ws:=W91) D114 g4 em4 (by decide) f1 f3 f2 (by decide) ⟨rfl,by decide,by decide⟩ td4 (fun _ h=>by cases h) qcb List.Pairwise.nil (fun _ h=>by cases h) (by decide) U few91 (by decide)) U ?_));clear O;rintro v w119 ⟨p4,rfl,hb4,O,hx119,-,-⟩;refine AQ U (Ah U U (Ah U U (Bx U (Ac U (qA (Aq (Ad (Ae U (Ba U U ?_)))))))));refine AA U (Am U (BW Ss U ?_));refine AK U (.bool _) U (qA (Bz U (Ap (Aa (Ad (Am U ?_))))));have H:=Ctx.start w119 [];refine Cb [bv 98] AX CT IP H ?_;rintro b130 w - H
 refine FA (l:=[98]) AX GR U H at0 ?_;rintro w131 H Rk131;replace O:=O.call H.ext;clear H;have H:=Ctx.start w131 [];refine Cb [bv 99] AX CT IP H ?_;rintro b132 w - H;refine FA (l:=[99]) AX GR U H at0 ?_;rintro w133 H Rk133;replace O:=O.call H.ext;replace Rk131:=Rk131.ext0 H.ext;clear H;refine Ai qB (YA O kl91.nd (by rw[kl91.len];decide) (some ⟨b130,0,none⟩) (some ⟨b132,0,none⟩) 1 1 [98] [99] Rk131 Rk133) U ?_;rw[show LK (Gb (kv1 []) W91.flatten) [98] [99]=[([98],[50])]from(kl91.scan [98] [99]).trans rfl];rintro v w134 ⟨a134,c134,rfl,P134,O,-⟩;refine AQ U (Ah U U (Ah U U (Ak U (Ac U (qA (Ad (Ae U (B6 U U (AA U ?_)))))))));refine Aj U ?_;have H:=Ctx.start w134 [];refine Cb [bv 98] AX CT IP H ?_;rintro b141 w - H;refine FA (l:=[98]) AX GR U H at0 ?_;rintro w142 H Rk142
 replace O:=O.call H.ext;have hx142:=H.ext;clear H;have H:=Ctx.start w142 [];refine Cb [bv 50] AX CT IP H ?_;rintro b143 w - H;refine FA (l:=[50]) AX GR U H at0 ?_;rintro w144 H Rk144;replace O:=O.call H.ext;have hx144:=H.ext;replace Rk142:=Rk142.ext0 hx144;clear H;have H:=Ctx.start w144 [];refine B2 (Hh ⟨some ⟨b141,0,none⟩,1,some ⟨b143,0,none⟩,1,⟨[98],[50],0⟩⟩) UD FD ?_;refine BJ (Hh ⟨some ⟨b141,0,none⟩,1,some ⟨b143,0,none⟩,1,⟨[98],[50],0⟩⟩) (.agg _) Cv Dq FD U U U U H ?_;rintro b146 w - H;refine Ai qB (YV (Kc P134 ((hx142.trans hx144).trans H.ext)) (Anb (H.get at0) (Rk142.ext0 H.ext) (Rk144.ext0 H.ext) (qae _) (qae _)) (by decide) (by decide) (by decide) (fun q hq=>by rw[qaa.1 hq];exact(show([98]:Byt).length<=1000/\([50]:Byt).length<=1000 from by decide))) U ?_
 rintro v w147 ⟨rfl,hx147⟩;refine AN U (.bool _) U (AA U (Ai qB (L6 441 _) U ?_));rintro v w ⟨rfl,rfl⟩;refine B6 U U (AN U (.bool _) U (AA U (Ai qB (L6 442 _) U ?_)));rintro v w ⟨rfl,rfl⟩;refine B6 U U (AN U (.bool _) U (AA U (Ai qB (L6 3000 _) U ?_)));rintro v w ⟨rfl,rfl⟩;refine B6 U U (AN U (.bool _) U (An U (qA (Ax (AG (v:=(.bool _)) U U U ?_)))));exact⟨rfl,(O.call (H.ext.trans hx147)).jone.own.ext⟩
def EI(L:List Pr)(key:Byt):Nat:=(L.filter fun p=>decide (ltB p.1 key)).length
theorem Af2{L:List Pr}(hL:Rising L){key:Byt}{i:Nat}(h:∀p∈L.take i,ltB p.1 key)(he:i=L.length\/∃p,L[i]?=some p/\¬ltB p.1 key)(hi:i<=L.length:=by omega):EI L key=i:=by
 have h1:(L.drop i).filter (fun p=>decide (ltB p.1 key))=[]:=by
  refine FG fun q hq=>qag fun h5=>?_
  rcases he with rfl|⟨p,hp,hn⟩
  .rw[qe3]at hq;cases hq
  .have hd:=qca.1 (show(L.take i++L.drop i).Pairwise _ by rw[qbj];exact hL);rw[Ey hp]at hq hd
   rcases qac.1 hq with rfl|hq
   .exact hn h5
   .exact hn (ER ((qbh.1 hd.2.1).1 q hq) h5)
 have h2:L.filter (fun p=>decide (ltB p.1 key))=L.take i:=by
  conv=>lhs;rw[<-qbj i L]
  rw[qbq,h1,qa3,Er fun p hp=>qal (h p hp)]
 unfold EI;rw[h2,qa0];omega
theorem Akx(L:List Pr)(key:Byt):EI L key<=L.length:=qev ..
theorem Aky{w:World}{M:Mut}{a ka:Option Addr}{n c kc:Nat}{L:List Pr}{key:Byt}(PL:Prs w M a n c L)(Rk:Rd w ka 1 B8 key)(hL:Rising L)(hl:∀p∈L,p.1.length<=1000)(hn:n<=100000000:=by omega)(hk:key.length<=1000000:=by omega):
  Ret prog 88 #[.slice a n c,.slice ka key.length kc] w fun v w'=>v=.int .i64 (EI L key:Int)/\Ext [] w w':=by
 obtain⟨w0,rfl⟩:=qD w;obtain⟨ps,Rp,-,hps,hp⟩:=PL.ex;have hnL:=PL.num;have hpn:ps.length=n:=by rw[hnL,<-hps,qaj]
 refine A6 (fn:=f88) func88 U [.slice a n c,.slice ka key.length kc] U ?_;refine Ad (Ac U (qA (Ad (Ac U (qA (Aq (AE (B7 4194272 (α:=Nat) (fun i=>[(5,.int .i64 (i:Int))]) (fun i w'=>i<=n/\Ext [] w0 w'/\∀p∈L.take i,ltB p.1 key) (fun i=>n - i) 0 U ?_ ?_ ?_))))))))
 .exact⟨rfl,trivial⟩
 .exact⟨qak _,.refl _ _,fun p h=>by cases h⟩
 .rintro i j w ⟨hi,hx,he⟩;have H:=Ctx.start w [];refine Aq (OU 1048512 (α:=Unit) (fun _=>[(19,.bool (match L[i]? with|some p=>decide (ltB p.1 key)|none=>false))]) (fun _ w'=>Ext [] w0 w') U ?_ ?_)
  .skip
   refine Av (Ae U (Aj U (AP Cv U (Bn U U (AA U (AR 10 U ?_ ?_))))))
   .intro hB;replace hB:=AV hB;obtain⟨x,hx1⟩:=AO (l:=ps) (i:=i);have hxo:=hp x (qad hx1);have hxL:L[i]?=some (prI x.it):=by rw[<-hps,qat,hx1];rfl
    have hxl:=hl _ (qad hxL);refine Aj U (Ae U (AY Rp Cv Dq U U ?_));refine Af FV U (Be B4 U ((Rp.ext0 hx).fld hx1 U (j:=0) U) ?_);refine Aj U (Ai qB (V8 x.ka ka x.kc kc x.it.key key _ (hxo.k.1.ext0 hx) (Rk.ext0 hx) (by dsimp only[prI]at hxl;omega) (by omega)) U ?_);rintro v w17 ⟨rfl,hx17⟩;refine Bn U U (AN U (.bool _) U (qA ?_));refine⟨(),rfl,⟨qab Value.bool ?_,trivial⟩,hx.trans hx17⟩;rw[hxL];exact decide_eq_decide.2 Ju
   .intro hB;replace hB:=AW hB;refine Ag U (Ag U (Ag U (Ag U (Ag U (Ag U (Ag U (Ag U (AK U (.bool _) U (qA ?_)))))))));refine⟨(),rfl,⟨qab Value.bool ?_,trivial⟩,hx⟩;rw[qbz (by omega)]
  .rintro - j19 w1 hx1;refine Au _ U ?_ ?_
   .intro hC
    obtain⟨p,hp1,hp2⟩:∃p,L[i]?=some p/\ltB p.1 key:=by
     cases h5:L[i]? with
     |none=>rw[h5]at hC;cases hC
     |some p=>rw[h5]at hC;exact⟨p,rfl,qb5 hC⟩
    have hin:=(qaq.1 hp1).1;refine Ap (Aa (AE (Av (Ae U (A7 U U ?_)))));refine Ac U (Ab (AF (Aa ?_)));refine⟨i+1,rfl,⟨rfl,trivial⟩,⟨by omega,hx1,fun q hq=>?_⟩,by omega⟩;rw[Bp hp1]at hq
    rcases qau.1 hq with hq|hq
    .exact he q hq
    .rw[qaa.1 hq];exact hp2
   .intro hC;refine B3 (Ay (Ay (Bb (Aa (Ad (Ae U (Ac U (qA (Ax (AG (v:=(.int _ _)) U U U ?_))))))))));refine⟨qab (fun z:Nat=>Value.int .i64 (z:Int)) (Af2 hL he ?_).symm,hx1⟩
    cases h5:L[i]? with
    |none=>exact .inl (by have:=List.getElem?_eq_none_iff.1 h5;omega)
    |some p=>rw[h5]at hC;exact .inr ⟨p,rfl,qcx hC⟩
theorem V9{w:World}{M:Mut}{a:Option Addr}{n c:Nat}{L:List Pr}(PL:Prs w M a n c L)(hl:∀p∈L,p.1.length<=1000/\p.2.length<=1000)(hn:n<=1000000:=by omega):
  Ret prog 52 #[.slice a n c] w fun v w'=>v=.int .i64 (B0 L:Int)/\Ext [] w w':=by
 obtain⟨w0,rfl⟩:=qD w;obtain⟨ps,Rp,-,hps,hp⟩:=PL.ex;have hnL:=PL.num;have hpn:ps.length=n:=by rw[hnL,<-hps,qaj]
 refine A6 (fn:=Tryz.f52) func52 U [.slice a n c] U (Ad (Ac U (qA (Ad (Ac U (qA (Aq (Ad (Ac U (qA ?_))))))))));refine AE (B7 134217720 (α:=Nat) (fun i=>[(4,.int .i64 (i:Int)),(3,.int .i64 (B0 (L.take i):Int))]) (fun i w'=>i<=n/\Ext [] w0 w'/\B0 (L.take i)<=2004*i) (fun i=>n - i) 0 U ?_ ?_ ?_)
 .exact⟨rfl,rfl,trivial⟩
 .exact⟨qak _,.refl _ _,qae _⟩
 .rintro i j w ⟨hi,hx,hb⟩;have H:=Ctx.start w [];refine Aq (Ad (Ae U (Aj U (AP Cv U (Bn U U (qA (Au _ U ?_ ?_)))))))
  .intro hB;replace hB:=AV hB;obtain⟨x,hx1⟩:=AO (l:=ps) (i:=i);have hxL:L[i]?=some (prI x.it):=by rw[<-hps,qat,hx1];rfl
   have hxl:=hl _ (qad hxL);dsimp only[prI]at hxl;have hxd:=hx.trans (Ext.drew [] w)
   have hst:B0 (L.take (i+1))=B0 (L.take i)+(4+x.it.key.length+x.it.val.length):=by
    rw[Bp hxL,TI,FM];rfl
   refine Ap (Aa (Aq (AE (Abb (fun x=>x=_) mixed U ?_))));refine DM U (Gm U (DM U (Em Rp Cv Dq U U ?_)));refine BP FV U (HZ B4 U (by rintro _ rfl;exact((Rp.ext0 hxd).fld hx1 rfl (j:=0) rfl)) ?_);refine Uu U AX U (Fi U U ?_);refine Gm U (DM U (Em Rp Cv Dq U U ?_));refine BP Jq U (HZ B4 U (by rintro _ rfl;exact((Rp.ext0 hxd).fld hx1 rfl (j:=1) rfl)) ?_);refine Uu U AX U (Fi U U ?_);refine Fi U U (EO U (Jo ?_));rintro _ rfl;replace H:=H.drew;refine AF (Aa (Av (Ae U (A7 U U ?_))));refine Ac U (qA ?_);exact⟨i+1,rfl,⟨rfl,qab (Value.int .i64) (by rw[hst];omega),trivial⟩,⟨by omega,hxd,by omega⟩,by omega⟩
  .intro hB;replace hB:=AW hB;refine B3 (Ay (Ay (Bb (Aa (Ad (Ae U (Ac U (qA (Ax (AG (v:=(.int _ _)) U U U ?_))))))))));exact⟨by rw[qa6 (by omega)],hx⟩
theorem MD{x:Wr}{W:List Wr}{seen:List Byt}:Hl seen (x::W)=(!HB (decide (x.k∈seen)) x && Hl (seen++[x.k]) W):=by
 rw[Hl]
theorem TW:∀(A:List Wr) {B:List Wr} {seen:List Byt},Hl seen (A++B)=(Hl seen A && Hl (seen++A.map (·.k)) B)
 | [],B,seen=>by simp[Hl]
 |x::A,B,seen=>by
  rw[qbx,MD,MD,TW A (seen:=seen++[x.k]),qay,Bool.and_assoc,qa1];rfl
theorem YW{W:List Wr}{i:Nat}{x:Wr}(h:W[i]?=some x)(hb:HB (decide (x.k∈(W.take i).map (·.k))) x=true):Hl [] W=false:=by
 have h1:W=W.take i++x::W.drop (i+1):=by rw[<-Ey h,qbj]
 rw[h1,TW,MD,qa7,hb];simp
theorem Af3{W:List Wr}{i:Nat}{x:Wr}(h:W[i]?=some x)(hm:Hl [] (W.take i)=true)(hb:HB (decide (x.k∈(W.take i).map (·.k))) x=false):Hl [] (W.take (i+1))=true:=by
 rw[Bp h,TW,hm,MD,qa7,hb];rfl
theorem Anc{w:World}{M:Mut}{a:Option Addr}{n c:Nat}{W:List Wr}(X:Wrs w M a n c W)(hl:∀y∈W,y.k.length<=1000000)(hn:n<=1000000:=by omega):
  Ret prog 50 #[.slice a n c] w fun v w'=>v=.bool (Hl [] W)/\Ext [] w w':=by
 obtain⟨w0,rfl⟩:=qD w;obtain⟨ps,Rp,-,hps,hp⟩:=X.ex;have hnL:=X.num;have hpn:ps.length=n:=by rw[hnL,<-hps,qaj]
 refine A6 (fn:=f50) func50 U [.slice a n c] U ?_;refine Ad (An U (qA (Aq (Ad (Ac U (qA (AE (B7 295147905179352825852 (α:=Nat) (fun i=>[(3,.int .i64 (i:Int))]) (fun i w'=>i<=n/\Ext [] w0 w'/\Hl [] (W.take i)=true) (fun i=>n - i) 0 U ?_ ?_ ?_))))))))
 .exact⟨rfl,trivial⟩
 .exact⟨qak _,.refl _ _,rfl⟩
 .rintro i j w ⟨hi,hE,hm⟩;have hx:=hE;have H:=Ctx.start w [];refine Aq (Ad (Ae U (Aj U (AP CD U (Bn U U (qA (Au _ U ?_ ?_)))))))
  .intro hB;replace hB:=AV hB;obtain⟨x,hx1⟩:=AO (l:=ps) (i:=i);have hxo:=hp x (qad hx1);have hxL:W[i]?=some x.x:=by rw[<-hps,qat,hx1];rfl
   have hxl:=hl _ (qad hxL);obtain⟨wB,hwB⟩:=qD w;refine Ap (Aa (Aq (AE (Aq (Ad (BE (α:=Unit) 4503599627368448 (fun _=>[(51,.bool (HB false x.x))]) (fun _ w'=>w'=wB) U ?_ ?_))))))
   .refine Aj U (Ae U (AY Rp CD CQ U U ?_));refine Af FT U (Be B4 U ((Rp.ext0 hx).fld hx1 U (j:=0) U) ?_);refine AP AX U (Bn U U (AA U (AR 18 U ?_ ?_)))
    .intro h1;replace h1:=AV h1;refine Ag U (Ag U (Ag U (Ag U (Ag U (Ag U (Ag U (AN U (.bool _) U (AA U (Ag U ?_)))))))));refine Ag U (Ag U (Ag U (Ag U (Ag U (Ag U (AN U (.bool _) U (AA U (Ag U (Ag U ?_)))))))));refine Ag U (Ag U (Ag U (Ag U (Ag U (Ag U (Ag U (Ag U (Ag U (Ag U ?_)))))))));refine Ag U (Ag U (AN U (.bool _) U (Ab ?_)));exact⟨rfl,(),rfl,⟨qab Value.bool (by unfold HB;rw[show decide (x.x.k=[])=decide (x.x.k.length<1)from decide_eq_decide.2 ⟨fun h=>by rw[h];decide,fun h=>qa4 (by omega)⟩];clear hxl;generalize x.x.k.length=ka at *;generalize x.x.v.length=va at *;rw[qar];simp_all;try omega),trivial⟩,hwB.symm⟩
    .intro h2;replace h2:=AW h2;refine Aj U (Ae U (AY Rp CD CQ U U ?_));refine Af FT U (Be B4 U ((Rp.ext0 hx).fld hx1 U (j:=0) U) ?_);refine AP AX U (BZ U U (AK U (.bool _) U (AA U (AR 27 U ?_ ?_))))
     .intro h3;replace h3:=AV h3;refine Ag U (Ag U (Ag U (Ag U (Ag U (Ag U (Ag U (AN U (.bool _) U (AA U (Ag U ?_)))))))));refine Ag U (Ag U (Ag U (Ag U (Ag U (Ag U (Ag U (Ag U (Ag U (Ag U ?_)))))))));refine Ag U (Ag U (Ag U (AN U (.bool _) U (Ab ?_))));exact⟨rfl,(),rfl,⟨qab Value.bool (by unfold HB;rw[show decide (x.x.k=[])=decide (x.x.k.length<1)from decide_eq_decide.2 ⟨fun h=>by rw[h];decide,fun h=>qa4 (by omega)⟩];clear hxl;generalize x.x.k.length=ka at *;generalize x.x.v.length=va at *;rw[qar];simp_all;try omega),trivial⟩,hwB.symm⟩
     .intro h4;replace h4:=AW h4;refine Aj U (Ae U (AY Rp CD CQ U U ?_));refine Af FU U (Be B4 U ((Rp.ext0 hx).fld hx1 U (j:=1) U) ?_);refine AP AX U (BZ U U (AK U (.bool _) U (AA U (AR 36 U ?_ ?_))))
      .intro h5;replace h5:=AV h5;refine Ag U (Ag U (Ag U (Ag U (Ag U (Ag U (Ag U (Ag U (Ag U (Ag U ?_)))))))));refine Ag U (Ag U (Ag U (Ag U (AN U (.bool _) U (Ab ?_)))));exact⟨rfl,(),rfl,⟨qab Value.bool (by unfold HB;rw[show decide (x.x.k=[])=decide (x.x.k.length<1)from decide_eq_decide.2 ⟨fun h=>by rw[h];decide,fun h=>qa4 (by omega)⟩];clear hxl;generalize x.x.k.length=ka at *;generalize x.x.v.length=va at *;rw[qar];simp_all;try omega),trivial⟩,hwB.symm⟩
      .intro h6;replace h6:=AW h6;refine Aj U (Ae U (AY Rp CD CQ U U ?_));refine Af Jp U (Be Gf U ((Rp.ext0 hx).fld hx1 U (j:=2) U) ?_);refine AA U (AR 42 U ?_ ?_)
       .intro h7;refine Aj U (Ae U (AY Rp CD CQ U U ?_));refine Af FU U (Be B4 U ((Rp.ext0 hx).fld hx1 U (j:=1) U) ?_);refine AP AX U (BZ U U (AN U (.bool _) U (AK U (.bool _) U (Ab ?_))));exact⟨rfl,(),rfl,⟨qab Value.bool (by unfold HB;rw[show decide (x.x.k=[])=decide (x.x.k.length<1)from decide_eq_decide.2 ⟨fun h=>by rw[h];decide,fun h=>qa4 (by omega)⟩];clear hxl;generalize x.x.k.length=ka at *;generalize x.x.v.length=va at *;rw[qar];simp_all;try omega),trivial⟩,hwB.symm⟩
       .intro h8;refine Ag U (Ag U (Ag U (Ag U (Ag U (Ag U (Ag U (AK U (.bool _) U (AK U (.bool _) U (Ab ?_)))))))));exact⟨rfl,(),rfl,⟨qab Value.bool (by unfold HB;rw[show decide (x.x.k=[])=decide (x.x.k.length<1)from decide_eq_decide.2 ⟨fun h=>by rw[h];decide,fun h=>qa4 (by omega)⟩];clear hxl;generalize x.x.k.length=ka at *;generalize x.x.v.length=va at *;rw[qar];simp_all;try omega),trivial⟩,hwB.symm⟩
   rintro - j51 w hw51;rw[hw51];rw[hwB]at hw51;clear hw51;rw[<-hwB]at hE hx H;clear hwB;refine Au _ U ?_ ?_
   .intro hC;refine Ad (An U (qA (Ax (Ao (AL (Ao (Ao (AL (Ao (AG (v:=(.bool _)) U U U ?_))))))))));refine⟨qab Value.bool (YW hxL ?_).symm,hE⟩;unfold HB at hC |-;rw[Bool.false_or]at hC;rw[hC,Bool.or_true]
   .intro hC;refine Ap (Aa (Ad (Ac U (qA (AE (B7 295143401579725455380 (α:=Nat) (fun k=>[(4,.int .i64 (k:Int))]) (fun k w'=>k<=i/\Ext [] w0 w'/\∀y∈W.take k,y.k≠x.x.k) (fun k=>i - k) 0 U ?_ ?_ ?_))))))
    .exact⟨rfl,trivial⟩
    .exact⟨qak _,hE,fun y h=>by cases h⟩
    .rintro k j2 w ⟨hk,hE2,hne⟩;have H:=Ctx.start w [];refine Aq (Ad (Ae U (Ae U (Bn U U (qA (Au _ U ?_ ?_))))))
     .intro hD;replace hD:=AV hD;obtain⟨y,hy1⟩:=AO (l:=ps) (i:=k);have hyo:=hp y (qad hy1);have hyL:W[k]?=some y.x:=by rw[<-hps,qat,hy1];rfl
      have hyl:=hl _ (qad hyL);refine Ap (Aa (Aq (AE (BR [([0,1,2,3,4,5,6,7,8,9],10)] (fun z=>Ext [] w0 z) [] mixed (hE2.trans (Ext.drew [] w)) ?_))));refine AC U U (BF U (B9 U (Cr Rp CD CQ U U ?_)));refine AD FT U (BG B4 U (fun _ hx=>(Rp.ext0 hx).fld hx1 rfl (j:=0) rfl) ?_);refine BF U (B9 U (Cr Rp CD CQ U U ?_));refine AD FT U (BG B4 U (fun _ hx=>(Rp.ext0 hx).fld hy1 rfl (j:=0) rfl) ?_);refine AU ?_;replace H:=H.drew;refine Ai qB (OM _ _ _ _ x.x.k y.x.k _ (hxo.k.1.ext0 (hE2.trans H.ext)) (hyo.k.1.ext0 (hE2.trans H.ext))) U ?_;rintro v w ⟨rfl,hx67⟩;replace H:=H.call hx67;refine Ab (Bc (hE2.trans H.ext) (B1 (Au _ U ?_ ?_)))
      .intro hF;have hF':x.x.k=y.x.k:=by simpa using hF
       refine Ad (An U (qA (Ax (AL (Ao (Ao (AL (AL (Ao (Ao (AL (Ao (AG (v:=(.bool _)) U U U ?_)))))))))))));refine⟨qab Value.bool (YW hxL ?_).symm,hE2.trans H.ext⟩;unfold HB;have hin:x.x.k∈(W.take i).map (·.k):=qah.2 ⟨y.x,qad (i:=k) (by rw[qdt,if_pos (by omega)];exact hyL),hF'.symm⟩;rw[qal hin];rfl
      .intro hF;have hF':¬x.x.k=y.x.k:=by simpa using hF
       refine Ap (AF (Aa (Av (Ae U (A7 U U ?_)))));refine Ac U (qA ?_);refine⟨k+1,rfl,⟨rfl,trivial⟩,⟨by omega,hE2.trans H.ext,fun q hq=>?_⟩,by omega⟩;rw[Bp hyL]at hq
       rcases qau.1 hq with hq|hq
       .exact hne q hq
       .rw[qaa.1 hq];exact fun e=>hF' e.symm
     .intro hD;replace hD:=AW hD;have hki:k=i:=by omega
      rw[hki]at hne;refine B3 (Ay (Ay (Bb (AF (Aa (Av (Ae U (A7 U U ?_))))))));refine Ac U (qA ?_);refine⟨i+1,rfl,⟨rfl,trivial⟩,⟨by omega,hE2,Af3 hxL hm ?_⟩,by omega⟩;rw[qag fun h=>?_]
      .exact hC
      .obtain⟨q,hq,he⟩:=qah.1 h;exact hne q hq he
  .intro hB;replace hB:=AW hB;refine B3 (Ay (Ay (Bb (Aa (Ad (An U (qA (Ax (AG (v:=(.bool _)) U U U ?_)))))))));rw[qa6 (by omega)]at hm;exact⟨by rw[hm],hE⟩
theorem LM{w0 w2:World}{e:List (Nat × Obj)}{l:Byt}{a:Option Addr}(H:Ctx w0 [] w2 e)(hf:l=[]\/w2.heap.size<=(adr a).block):l=[]\/¬Mk w0 e (adr a).block:=hf.imp id fun h h5=>by
 rcases h5 with h5|h5
 .have:=H.ext.size;omega
 .obtain⟨y,hy,he⟩:=qah.1 h5;have:=Al (H.blk y hy);omega
theorem N0{w0 w1 w:World}{e1 e:List (Nat × Obj)}(H1:Ctx w0 [] w1 e1)(H:Ctx w1 (e1.map (·.1)) w e):Ctx w0 [] w e:=by
 have h1:∀x∈e1.map (·.1),w0.heap.size<=x:=fun x hx=>by
  obtain⟨y,hy,rfl⟩:=qah.1 hx;exact(H1.own y hy).resolve_left (by simp)
 exact⟨H1.ext.then H.ext fun x hx => .inr (h1 x hx),H.blk,H.nd,fun y hy => .inr ((H.own y hy).elim (h1 _) fun h=>qav H1.ext.size h)⟩
theorem WA{wi wd w:World}{e:List (Nat × Obj)}{b:Nat}{o:Obj}{m:Im}(h:m.Ok wd (Mk wi e))(Hb:Ctx wd [] w [(b,o)]):m.Ok w (Mk wi ((b,o)::e)):=by
 have hb:wd.heap.size<=b:=(Hb.own _ (qaa.2 rfl)).resolve_left (by simp)
 have key:∀{a:Option Addr} {l:Byt},Rdx wd (Mk wi e) a l->Rdx w (Mk wi ((b,o)::e)) a l:=fun{a l} ⟨R,hn⟩=>⟨R.ext0 Hb.ext,by
  rcases Rd.lt8 R with h5|h5
  .exact .inl h5
  .refine hn.imp id fun h6 h7=>?_
   rcases h7 with h7|h7
   .exact h6 (.inl h7)
   .rw[qay,qac]at h7
    rcases h7 with h7|h7
    .omega
    .exact h6 (.inr h7)⟩
 exact⟨key h.k,key h.v,h.kc,h.vc⟩
theorem Add{w0 w:World}{M:Mut}(hM:∀x,M x->x<w0.heap.size){a:Option Addr}{n c:Nat}{full:List Value}{ps:List Im}(H:Ctx w0 [] w (ent a 68 full))(O:OS a n c 2 full (ps.flatMap Hh))(hok:∀m∈ps,m.Ok w M){L:List Pr}(hl:ps.map (fun m=>prI m.it)=L):Prs w M a L.length c L:=by
 have hn:n=ps.length:=O.numN (fun _ _=>rfl) (by decide);have hL:L.length=n:=by rw[<-hl,qaj,hn]
 refine⟨⟨ps,OS.rd O H.blk (fun _ _=>rfl) (by decide),?_,hl,hok⟩,rfl,by rw[hL];exact O.le⟩
 cases ha:a with
 |none =>
  left;have h8:=O.none' ha;have h9:=O.le;exact qa4 (by omega)
 |some q =>
  right;have h8:=(H.own (q.block,Bl 68 full) (by rw[ha];exact qaa.2 rfl)).elim (fun h=>by cases h) id;obtain⟨qb,qo,qs⟩:=q;exact fun h=>by have:=hM _ h;dsimp only[adr]at this h8;omega
theorem Af4{p:Pr}{D:List Pr}(h:Rising (p::D))(key:Byt):EI (p::D) key=if ltB p.1 key then EI D key+1 else 0:=by
 unfold EI;rw[qbm]
 by_cases hp:ltB p.1 key
 .rw[qal hp,if_pos hp];rfl
 .rw[qag hp,if_neg hp,FG fun q hq=>qag fun h5=>hp (ER ((qbh.1 h).1 q hq) h5)];rfl
def isP(D:List Pr)(key:Byt):Bool:=match D[EI D key]? with|some p=>decide (p.1=key)|none=>false
def Jj(D:List Pr)(key:Byt):Nat:=if isP D key=true then EI D key+1 else EI D key
theorem YX:∀{D:List Pr} (_:Rising D) (key:Byt),(∀q∈D.take (EI D key),ltB q.1 key)/\(∀q∈D.drop (Jj D key),ltB key q.1)/\(D=D.take (EI D key)++D.drop (Jj D key)\/∃u,D=D.take (EI D key)++(key,u)::D.drop (Jj D key))
 | [],_,key=>⟨fun q h=>(by cases h),fun q h=>(by cases h),.inl rfl⟩
 |p::D,h,key=>by
  have hc:=Af4 h key;obtain⟨h1,h2⟩:=qbh.1 h
  by_cases hp:ltB p.1 key
  .obtain⟨i1,i2,i3⟩:=YX h2 key;rw[if_pos hp]at hc;have hi:isP (p::D) key=isP D key:=by unfold isP;rw[hc,qez]
   have hn:Jj (p::D) key=Jj D key+1:=by unfold Jj;rw[hi,hc];split <;> rfl
   rw[hc,hn,qek,List.drop_succ_cons];refine⟨fun q hq=>?_,i2,i3.imp (fun h5=>by rw[qbx,<-h5]) fun⟨u,h5⟩=>⟨u,by rw[qbx,<-h5]⟩⟩
   rcases qac.1 hq with rfl|hq
   .exact hp
   .exact i1 q hq
  .rw[if_neg hp]at hc;have hi:isP (p::D) key=decide (p.1=key):=by unfold isP;rw[hc];rfl
   by_cases he:p.1=key
   .have hn:Jj (p::D) key=1:=by unfold Jj;rw[hi,qal he,hc];rfl
    rw[hc,hn];exact⟨fun q hq=>(by cases hq),fun q hq=>he ▸ h1 q hq,.inr ⟨p.2,by rw[<-he];rfl⟩⟩
   .have hn:Jj (p::D) key=0:=by unfold Jj;rw[hi,qag he,hc];rfl
    have hgt:ltB key p.1:=by
     rcases Mj key p.1 with h5|h5|h5
     .exact h5
     .exact absurd h5.symm he
     .exact absurd h5 hp
    rw[hc,hn];refine⟨fun q hq=>(by cases hq),fun q hq=>?_,.inl rfl⟩
    rcases qac.1 hq with rfl|hq
    .exact hgt
    .exact ER hgt (h1 q hq)
theorem Af5{D:List Pr}(h:Rising D)(x:Wr):doP D x=D.take (EI D x.k)++(if x.d=true then[]else[(x.k,x.v)])++D.drop (Jj D x.k):=by
 obtain⟨h1,h2,h3⟩:=YX h x.k;unfold doP
 split
 .rw[Wp h1 h2 h3,qa3]
 .rw[QM h1 h2 h3,qa1];rfl
theorem PO{q:List Im}:∀v∈q.flatMap Hh,Bi v=true:=fun v hv=>by
 obtain⟨m,-,hv⟩:=List.mem_flatMap.1 hv;exact Hi m v hv
theorem Akz{w:World}{M M2:Mut}{a a2:Option Addr}{n c m c2:Nat}{L:List Pr}{W:List Wr}(PL:Prs w M a n c L)(X:Wrs w M2 a2 m c2 W)(hM:∀x,M x->x<w.heap.size)(hL:Rising L)(ho:OkP L)(hW:∀y∈W,y.Few/\1<=y.k.length)(hn:n<=1000000:=by omega)(hm:m<=1000000:=by omega):
  Ret prog 51 #[.slice a n c,.slice a2 m c2] w fun v w'=>∃a' c',v=.slice a' (DO L W).length c'/\Prs w' M a' (DO L W).length c' (DO L W)/\Ext [] w w':=by
 obtain⟨w0,rfl⟩:=qD w;obtain⟨qs0,R0,hs0,hq0,hok0⟩:=PL.ex;obtain⟨ps,Rp,-,hps,hp⟩:=X.ex;have hnL:=PL.num;have hmW:=X.num;have hqn:qs0.length=n:=by rw[hnL,<-hq0,qaj]
 have hpn:ps.length=m:=by rw[hmW,<-hps,qaj]
 have H:=Ctx.start w0 [];refine A6 (fn:=f51) func51 U [.slice a n c,.slice a2 m c2] U (Ad (Ak U (qA (Ad (JF U Cv Dq H ?_)))));rintro b9 w H O;refine Aj U (DS U Cv Cv Dq Qh FD U (qs0.flatMap Hh) U U H O (by rw[JX];omega) PO (Rd.app (R0.ext0 H.ext) (fun _ _=>rfl) (by decide)) ?_);clear H O;rintro a11 c11 f11 w H O;rw[qa7]at O H;rw[qa2]at O |-;have P11:=Add hM H O (fun x hx=>(hok0 x hx).call H.ext) hq0;rw[hnL];have hE:=H.ext;clear H O
 refine Ak U (qA (Aq (Ad (Ac U (qA (AE (B7 302231454903657293672928 (α:=Nat × Option Addr × Nat) (fun s=>[(6,.int .i64 (s.1:Int)),(5,.slice s.2.1 (DO L (W.take s.1)).length s.2.2)]) (fun s w'=>s.1<=m/\Ext [] w0 w'/\Prs w' M s.2.1 (DO L (W.take s.1)).length s.2.2 (DO L (W.take s.1))/\(DO L (W.take s.1)).length<=n+s.1) (fun s=>m - s.1) (0,a11,c11) U ?_ ?_ ?_)))))))
 .exact⟨rfl,rfl,trivial⟩
 .exact⟨qak _,hE,P11,by show L.length<=_;omega⟩
 .clear hE P11;rintro⟨i,a5,c5⟩ j w ⟨hi,hE,P5,hl5⟩;dsimp only at hi P5 hl5;dsimp only;have hx:=hE;obtain⟨D,hD⟩:=qD (DO L (W.take i));refine Aq (Ad (Ae U (Aj U (AP CD U (Bn U U (qA (Au _ U ?_ ?_)))))))
  .intro hB;replace hB:=AV hB;obtain⟨x,hx1⟩:=AO (l:=ps) (i:=i);have hxo:=hp x (qad hx1);have hxL:W[i]?=some x.x:=by rw[<-hps,qat,hx1];rfl
   have hxf:=hW _ (qad hxL);have hWi:∀y∈W.take i,y.Few/\1<=y.k.length:=fun y hy=>hW y (qbp hy);have hDr:Rising D:=by rw[hD];exact LL hL
   have hDo:OkP D:=by rw[hD];exact OI ho hWi
   have hnext:DO L (W.take (i+1))=doP D x.x:=by rw[Bp hxL,YG,<-hD];rfl
   have hdone:=Af5 hDr x.x;rw[<-hnext]at hdone;rw[<-hD]at P5 hl5 |-;obtain⟨qs,R5,hs5,hq5,hok5⟩:=P5.ex;have hqD:qs.length=D.length:=by rw[<-hq5,qaj]
   have hkl:=Akx D x.x.k
   have hnl:Jj D x.x.k<=D.length:=by
    unfold Jj
    split
    .rename_i h5
     unfold isP at h5
     cases h6:D[EI D x.x.k]? with
     |none=>rw[h6]at h5;cases h5
     |some p=>have:=(qaq.1 h6).1;omega
    .exact hkl
   have hP5:=P5.le;have hxk:x.x.k.length<=32/\x.x.v.length<=128:=hxf.1
   have hfull:(DO L (W.take (i+1))).length<=n+(i+1):=by
    rw[hdone];simp only[qan,qa0,qbg]
    have:EI D x.x.k<=Jj D x.x.k:=by unfold Jj;split <;> omega
    split <;> simp <;> omega
   have hMi:∀y,M y->y<w.heap.size:=fun y hy=>qas (hM y hy) hE.size;obtain⟨wi,rfl,H⟩:=qE w;refine Ap (Aa (Aq (AE (Ad (Aj U (Aj U (Ae U (AY Rp CD CQ U U ?_))))))));refine Af FT U (Be B4 U ((Rp.ext0 (hx.trans H.ext)).fld hx1 U (j:=0) U) ?_);refine Ai qB (Aky P5 (hxo.k.1.ext0 hE) hDr (fun q hq=>by have:=hDo q hq;omega)) U ?_;rintro v w ⟨rfl,hx24⟩;have H:=(Ctx.start wi []).call hx24;refine Ac U (qA (Ad (Ak U (qA (Ad (Aj U (Aj U (Ae U (Ei Cv Dq U U ?_)))))))));refine DS (L:=[]) U Cv Cv Dq Qh FD U ((qs.take (EI D x.x.k)).flatMap Hh) U U H OS.nil (by rw[JX,qa0];omega) PO (Rd.app ((R5.ext0 H.ext).take _) (fun _ _=>rfl) (by decide)) ?_;clear H;rintro a29 c29 f29 w H O;rw[qa7]at O H
   rw[qa2]at O |-;refine Ak U (qA (Aq ?_));have hE2:=hx.trans H.ext;refine Ad (Aj U (Ae U (AY Rp CD CQ U U ?_)));refine Af Jp U (Be Gf U ((Rp.ext0 (hx.trans H.ext)).fld hx1 U (j:=2) U) ?_);refine BX U (qA (EZ 18014329790005504 (α:=Option Addr × Nat × Nat × List Value × List Im) (fun s=>[(8,.slice s.1 s.2.1 s.2.2.1)]) (fun s w'=>Ctx wi [] w' (ent s.1 68 s.2.2.2.1)/\OS s.1 s.2.1 s.2.2.1 2 s.2.2.2.1 ((qs.take (EI D x.x.k)++s.2.2.2.2).flatMap Hh)/\s.2.2.2.2.map (fun m=>prI m.it)=(if x.x.d=true then[]else[(x.x.k,x.x.v)])/\(∀m∈s.2.2.2.2,m.Ok w' (Mk wi (ent s.1 68 s.2.2.2.1)))/\s.2.1<=D.length+1) U ?_ ?_))
   .skip
    refine Au _ U ?_ ?_
    .intro hG;replace hG:=Cz hG;have hG':x.x.d=false:=by simpa using hG
     obtain⟨w2,rfl⟩:=qD w;have fin:∀(z:World) (a1:Option Addr) (c1:Nat) (a4:Option Addr) (c4:Nat),Ext [] w2 z->Rd z a1 1 B8 x.x.k->x.x.k.length<=c1->(x.x.k=[]\/w2.heap.size<=(adr a1).block)->Rd z a4 1 B8 x.x.v->x.x.v.length<=c4->(x.x.v=[]\/w2.heap.size<=(adr a4).block)->(⟨a1,c1,a4,c4,⟨x.x.k,x.x.v,0⟩⟩:Im).Ok z (Mk wi (ent a29 68 f29)):=fun z a1 c1 a4 c4 _ q1 q2 q3 q4 q5 q6=>⟨⟨q1,LM H q3⟩,⟨q4,LM H q6⟩,q2,q5⟩;refine Anm (.two [0,2,3,4,5,6,9,10,11,12,13] 1 (.two [] 7 (.one [] 8 (.one [] 14 (.one [15] 16 (.one [] 17 (.one [] 18 .stop))))) 8 (.one [] 7 (.one [] 14 (.one [15] 16 (.one [] 17 (.one [] 18 .stop)))))) 8 (.one [] 1 (.one [] 7 (.one [] 14 (.one [15] 16 (.one [] 17 (.one [] 18 .stop))))))) (fun z=>Ext [] w0 z) mixed (hE2.trans (Ext.drew [] w2)) (VI U U U ?_);refine BF U (BF U (B9 U (Cr Rp CD CQ U U ?_)))
     refine AD FT U (BG B4 U (fun _ hx=>(Rp.ext0 hx).fld hx1 rfl (j:=0) rfl) ?_);refine BF U (B9 U (Cr Rp CD CQ U U ?_));refine AD FU U (BG B4 U (fun _ hx=>(Rp.ext0 hx).fld hx1 rfl (j:=1) rfl) ?_);refine AU ?_;have E:=Ext.drew [] w2;refine⟨?_,?_⟩
     .skip
      refine HI ?_;rintro b1 wa Ea hn1 hb1;have hs1a:=E.size;replace E:=E.trans Ea;have E0:=hE2.trans E;refine Ab (Di (E0) (VI U U U ?_));refine AU ?_;refine⟨?_,?_⟩
      .skip
       refine Mw U U U hb1 (hxo.k.1.ext0 (hE2.trans E)) ?_;rintro a1 c1 wc Ec R1 hc1 hs1;have hs3:=E.size;have hf1:=Ez (w2:=w2) hs1 hs3;replace E:=E.then Ec (fun x h => .inr (by rw[qaa.1 h];omega));have E0:=hE2.trans E;refine Ab (Di (E0) (CS U U ?_));refine AU (HI ?_);rintro b2 wb Eb hn2 hb2;have hs2a:=E.size;replace E:=E.trans Eb;have hne:=Aj1 R1 hn2;replace R1:=R1.ext0 Eb;have E0:=hE2.trans E;refine Ab (Di (E0) (CS U U ?_));refine AU (Mw U U U hb2 (hxo.v.1.ext0 (hE2.trans E)) ?_);rintro a2' c2' wd Ed R2 hc2 hs2;have hs4:=E.size;have hf2:=Ez (w2:=w2) hs2 hs4;replace R1:=JS R1 hne Ed;replace E:=E.then Ed (fun x h => .inr (by rw[qaa.1 h];omega));have E0:=hE2.trans E;refine Ab (Di (E0) (CS U U ?_));refine ED (Hh ⟨a1,c1,a2',c2',⟨x.x.k,x.x.v,0⟩⟩) UD FD ?_;refine AU ?_
       have hz:=fin _ _ _ _ _ E R1 hc1 hf1 R2 hc2 hf2;have HE:=H.call E;have Hs:=Ctx.start wd [];refine BJ (Hh ⟨a1,c1,a2',c2',⟨x.x.k,x.x.v,0⟩⟩) (.agg _) Cv Dq FD U U U U Hs ?_;rintro b52 w52 - Hb;have HE2:=Ctx.comm (HE.callEnt Hb.ext (fun x hx=>⟨Hb.blk x hx,(Hb.own x hx).resolve_left (by simp)⟩) Hb.nd);replace hz:=WA hz Hb;have E0:=hE.trans HE2.ext;refine Ab (Di (E0) (CS U U ?_));refine AU ?_;have Hs:=Ctx.startL HE2.blk HE2.nd;refine BO (L:=[]) Cv Cv Dq Qh FD U U U Hs O U (Hi ⟨a1,c1,a2',c2',⟨x.x.k,x.x.v,0⟩⟩) ?_;rintro a53 c53 f53 w53 H53 O53;have H54:=N0 HE2 H53;have E0:=hE.trans H54.ext;refine Ab (Di (E0) (CS U U ?_));refine AU (Ak U (Ab (Di (E0) (LV ?_))));refine Aa ?_
       exact⟨(a53,_,c53,f53,[⟨a1,c1,a2',c2',⟨x.x.k,x.x.v,0⟩⟩]),rfl,⟨rfl,trivial⟩,H54,by dsimp only;rw[qbf,qb8];exact O53,by rw[if_neg (by rw[hG'];decide)];rfl,fun q hq=>by rw[qaa.1 hq];exact M8 hz (.refl _ _) H53,by dsimp only;omega⟩
      .skip
       refine HI ?_;rintro b2 wb Eb hn2 hb2;have hs2a:=E.size;replace E:=E.trans Eb;have h12:b1≠b2:=(by have:=Al hb1;omega);replace hb1:wb.heap[b1]?=some (Bl 5 []):=(by rw[Eb.block b1 (Al hb1) (by simp)];exact hb1);have E0:=hE2.trans E;refine Ab (Di (E0) (CS U U ?_));refine AU (Mw U U U hb1 (hxo.k.1.ext0 (hE2.trans E)) ?_);rintro a1 c1 wc Ec R1 hc1 hs1;have hs3:=E.size;have hf1:=Ez (w2:=w2) hs1 hs3;replace E:=E.then Ec (fun x h => .inr (by rw[qaa.1 h];omega));have hne:x.x.k=[]\/(adr a1).block≠b2:=hs1.imp id (fun h=>h.elim (fun h=>by omega) fun h=>by have:=Al hb2;omega);replace hb2:wc.heap[b2]?=some (Bl 5 []):=(by rw[Ec.block b2 (Al hb2) (by simpa using Ne.symm h12)];exact hb2);have E0:=hE2.trans E;refine Ab (Di (E0) (CS U U ?_));refine AU (Mw U U U hb2 (hxo.v.1.ext0 (hE2.trans E)) ?_);rintro a2' c2' wd Ed R2 hc2 hs2
       have hs4:=E.size;have hf2:=Ez (w2:=w2) hs2 hs4;replace R1:=JS R1 hne Ed;replace E:=E.then Ed (fun x h => .inr (by rw[qaa.1 h];omega));have E0:=hE2.trans E;refine Ab (Di (E0) (CS U U ?_));refine ED (Hh ⟨a1,c1,a2',c2',⟨x.x.k,x.x.v,0⟩⟩) UD FD ?_;refine AU ?_;have hz:=fin _ _ _ _ _ E R1 hc1 hf1 R2 hc2 hf2;have HE:=H.call E;have Hs:=Ctx.start wd [];refine BJ (Hh ⟨a1,c1,a2',c2',⟨x.x.k,x.x.v,0⟩⟩) (.agg _) Cv Dq FD U U U U Hs ?_;rintro b52 w52 - Hb;have HE2:=Ctx.comm (HE.callEnt Hb.ext (fun x hx=>⟨Hb.blk x hx,(Hb.own x hx).resolve_left (by simp)⟩) Hb.nd);replace hz:=WA hz Hb;have E0:=hE.trans HE2.ext;refine Ab (Di (E0) (CS U U ?_));refine AU ?_;have Hs:=Ctx.startL HE2.blk HE2.nd;refine BO (L:=[]) Cv Cv Dq Qh FD U U U Hs O U (Hi ⟨a1,c1,a2',c2',⟨x.x.k,x.x.v,0⟩⟩) ?_;rintro a53 c53 f53 w53 H53 O53
       have H54:=N0 HE2 H53;have E0:=hE.trans H54.ext;refine Ab (Di (E0) (CS U U ?_));refine AU (Ak U (Ab (Di (E0) (LV ?_))));refine Aa ?_;exact⟨(a53,_,c53,f53,[⟨a1,c1,a2',c2',⟨x.x.k,x.x.v,0⟩⟩]),rfl,⟨rfl,trivial⟩,H54,by dsimp only;rw[qbf,qb8];exact O53,by rw[if_neg (by rw[hG'];decide)];rfl,fun q hq=>by rw[qaa.1 hq];exact M8 hz (.refl _ _) H53,by dsimp only;omega⟩
     .skip
      refine HI ?_;rintro b2 wb Eb hn2 hb2;have hs2a:=E.size;replace E:=E.trans Eb;have E0:=hE2.trans E;refine Ab (Di (E0) (CS U U ?_));refine AU (HI ?_);rintro b1 wa Ea hn1 hb1;have hs1a:=E.size;replace E:=E.trans Ea;have h12:b1≠b2:=(by have:=Al hb2;omega);replace hb2:wa.heap[b2]?=some (Bl 5 []):=(by rw[Ea.block b2 (Al hb2) (by simp)];exact hb2);have E0:=hE2.trans E;refine Ab (Di (E0) (CS U U ?_));refine AU (Mw U U U hb1 (hxo.k.1.ext0 (hE2.trans E)) ?_);rintro a1 c1 wc Ec R1 hc1 hs1;have hs3:=E.size;have hf1:=Ez (w2:=w2) hs1 hs3;replace E:=E.then Ec (fun x h => .inr (by rw[qaa.1 h];omega));have hne:x.x.k=[]\/(adr a1).block≠b2:=hs1.imp id (fun h=>h.elim (fun h=>by omega) fun h=>by have:=Al hb2;omega);replace hb2:wc.heap[b2]?=some (Bl 5 []):=(by rw[Ec.block b2 (Al hb2) (by simpa using Ne.symm h12)];exact hb2);have E0:=hE2.trans E
      refine Ab (Di (E0) (CS U U ?_));refine AU (Mw U U U hb2 (hxo.v.1.ext0 (hE2.trans E)) ?_);rintro a2' c2' wd Ed R2 hc2 hs2;have hs4:=E.size;have hf2:=Ez (w2:=w2) hs2 hs4;replace R1:=JS R1 hne Ed;replace E:=E.then Ed (fun x h => .inr (by rw[qaa.1 h];omega));have E0:=hE2.trans E;refine Ab (Di (E0) (CS U U ?_));refine ED (Hh ⟨a1,c1,a2',c2',⟨x.x.k,x.x.v,0⟩⟩) UD FD ?_;refine AU ?_;have hz:=fin _ _ _ _ _ E R1 hc1 hf1 R2 hc2 hf2;have HE:=H.call E;have Hs:=Ctx.start wd [];refine BJ (Hh ⟨a1,c1,a2',c2',⟨x.x.k,x.x.v,0⟩⟩) (.agg _) Cv Dq FD U U U U Hs ?_;rintro b52 w52 - Hb;have HE2:=Ctx.comm (HE.callEnt Hb.ext (fun x hx=>⟨Hb.blk x hx,(Hb.own x hx).resolve_left (by simp)⟩) Hb.nd);replace hz:=WA hz Hb;have E0:=hE.trans HE2.ext;refine Ab (Di (E0) (CS U U ?_));refine AU ?_;have Hs:=Ctx.startL HE2.blk HE2.nd
      refine BO (L:=[]) Cv Cv Dq Qh FD U U U Hs O U (Hi ⟨a1,c1,a2',c2',⟨x.x.k,x.x.v,0⟩⟩) ?_;rintro a53 c53 f53 w53 H53 O53;have H54:=N0 HE2 H53;have E0:=hE.trans H54.ext;refine Ab (Di (E0) (CS U U ?_));refine AU (Ak U (Ab (Di (E0) (LV ?_))));refine Aa ?_;exact⟨(a53,_,c53,f53,[⟨a1,c1,a2',c2',⟨x.x.k,x.x.v,0⟩⟩]),rfl,⟨rfl,trivial⟩,H54,by dsimp only;rw[qbf,qb8];exact O53,by rw[if_neg (by rw[hG'];decide)];rfl,fun q hq=>by rw[qaa.1 hq];exact M8 hz (.refl _ _) H53,by dsimp only;omega⟩
    .intro hG;replace hG:=C0 hG;have hG':x.x.d=true:=by simpa using hG
     refine Ap (Aa ?_);exact⟨(a29,EI D x.x.k,c29,f29,[]),rfl,⟨rfl,trivial⟩,H,by dsimp only;rw[qa3];exact O,by rw[if_pos hG'];rfl,fun q hq=>(by cases hq),by dsimp only;omega⟩
   .clear O;rintro⟨a8,n8,c8,f8,zs⟩ j35 w ⟨H8,O8,hz8,hok8,hn8⟩;dsimp only at H8 O8 hz8 hok8 hn8;dsimp only;have hE8:=hx.trans H8.ext;obtain⟨w8,rfl,H⟩:=qE w
    obtain⟨y,hy⟩:∃y:Im,EI D x.x.k<D.length->qs[EI D x.x.k]?=some y:=by
     by_cases h5:EI D x.x.k<D.length
     .obtain⟨y,hy1⟩:=AO (l:=qs) (i:=EI D x.x.k);exact⟨y,fun _=>hy1⟩
     .exact⟨⟨none,0,none,0,⟨[],[],0⟩⟩,fun h=>absurd h h5⟩
    have hyD:EI D x.x.k<D.length->D[EI D x.x.k]?=some (prI y.it):=fun h=>by
     have h5:=qab (fun l=>l[EI D x.x.k]?) hq5;rw[<-h5,qat,hy h];rfl
    have hyo:EI D x.x.k<D.length->Rd wi y.ka 1 B8 y.it.key/\y.it.key.length<=32:=fun h=>⟨(hok5 y (qad (hy h))).k.1,(hDo _ (qad (hyD h))).2.1⟩;refine Aq (OU 2361165227036313124864 (α:=Unit) (fun _=>[(70,.bool (isP D x.x.k))]) (fun _ w'=>Ext [] w8 w') U ?_ ?_)
    .skip
     refine Kg [([0,1,2,3,4,5,6,7,8,9,10,11,12,13,14],15),([],16)] (fun z=>Ext [] w8 z) [] mixed (Ext.drew [] w8) (AC U U ?_);refine B9 U (BF U (Qb Cv U (t_lss U U U (LX U U (KS 58 U ?_ ?_)))))
     .intro hI;replace hI:=AV hI;refine BF U (B9 U (Cr R5 Cv Dq U U ?_));refine AD FV U (BG B4 U (fun _ hx=>(R5.ext0 (H8.ext.trans hx)).fld (hy (by omega)) rfl (j:=0) rfl) ?_);refine BF U (B9 U (Cr Rp CD CQ U U ?_));refine AD FT U (BG B4 U (fun _ hx=>(Rp.ext0 (hE8.trans hx)).fld hx1 rfl (j:=0) rfl) ?_);refine AU ?_;replace H:=H.drew;refine Ai qB (OM _ _ _ _ y.it.key x.x.k _ ((hyo (by omega)).1.ext0 (H8.ext.trans H.ext)) (hxo.k.1.ext0 (hE8.trans H.ext)) (hx:=by have:=(hyo (by omega)).2;omega)) U ?_;rintro v w ⟨rfl,hx69⟩;replace H:=H.call hx69;refine Ab (Bc (H.ext) (AC U U ?_));refine AU (AN U (.bool _) U (Ab (Bc (H.ext) (B1 (Aa ?_)))));exact⟨(),rfl,⟨qab Value.bool (by unfold isP;rw[hyD (by omega)];rfl),trivial⟩,H.ext⟩
     .intro hI;replace hI:=AW hI;refine Co U (Co U (Co U (Co U (Co U (Co U (Co U (Co U (Co U (Co U ?_)))))))));refine AU ?_;replace H:=H.drew;refine Ag U (Ab (Bc (H.ext) (AC U U ?_)));refine AU (AK U (.bool _) U (Ab (Bc (H.ext) (B1 (Aa ?_)))));exact⟨(),rfl,⟨qab Value.bool (by unfold isP;rw[qbz (by omega)]),trivial⟩,H.ext⟩
    .rintro - j70 w hx70;obtain⟨w9,rfl⟩:=qD w;refine EZ 7083549724304467820672 (α:=Unit) (fun _=>[(7,.int .i64 (Jj D x.x.k:Int))]) (fun _ w'=>w'=w9) U ?_ ?_
     .skip
      refine Au _ U ?_ ?_
      .intro hJ;refine Av (Ae U (A7 U U ?_));refine Ac U (qA ?_);exact⟨(),rfl,⟨qab (Value.int .i64) (by unfold Jj;rw[if_pos hJ];omega),trivial⟩,rfl⟩
      .intro hJ;refine Ap (Aa ?_);exact⟨(),rfl,⟨qab (Value.int .i64) (by unfold Jj;rw[if_neg (by rw[hJ];decide)]),trivial⟩,rfl⟩
     .rintro - j7 w hw7;rw[hw7];clear hw7;have H9:=H8.call hx70;have Hs:=Ctx.startL H9.blk H9.nd;refine Av (Aj U (Aj U (Ae U (F8 Cv Dq U U ?_))));refine DS (L:=[]) U Cv Cv Dq Qh FD U ((qs.drop (Jj D x.x.k)).flatMap Hh) U U Hs O8 (by rw[JX,qbg];omega) PO (Rd.app ((R5.ext0 H9.ext).cut _ _ (by omega)) (fun _ _=>rfl) (by decide)) ?_;rintro a77 c77 f77 w77 H77 O77;refine Ak U (Ab (AF (Aa (Av (Ae U (A7 U U ?_))))));refine Ac U (qA ?_);have H10:=N0 H9 H77;have O10:OS a77 (n8+(D.length - Jj D x.x.k)) c77 2 f77 ((qs.take (EI D x.x.k)++zs++qs.drop (Jj D x.x.k)).flatMap Hh):=by rw[qbf];exact O77
      have hmap:(qs.take (EI D x.x.k)++zs++qs.drop (Jj D x.x.k)).map (fun m=>prI m.it)=DO L (W.take (i+1)):=by rw[qaz,qaz,List.map_take,qd1,hq5,hz8,hdone]
      have hnum:n8+(D.length - Jj D x.x.k)=(DO L (W.take (i+1))).length:=by rw[<-hmap,qaj];exact O10.numN (fun _ _=>rfl) (by decide)
      refine⟨(i+1,a77,c77),rfl,⟨rfl,by dsimp only;rw[<-hnum];rfl,trivial⟩,⟨by dsimp only;omega,hE.trans H10.ext,Add hMi H10 O10 (fun q hq=>?_) hmap,hfull⟩,by dsimp only;omega⟩
      rcases qau.1 hq with hq|hq
      .rcases qau.1 hq with hq|hq
       .exact(hok5 q (qbp hq)).call H10.ext
       .exact(M8 (hok8 q hq) hx70 H77).weak fun y hy => .inl (hMi y hy)
      .exact(hok5 q (qcy hq)).call H10.ext
  .intro hB;replace hB:=AW hB;have hiW:W.take i=W:=qa6 (by omega);rw[hiW]at P5;refine B3 (Ay (Ay (Bb (Aa (Ad (Aj U (Ak U (qA (Ax (AG (v:=(.slice _ _ _)) U U U ?_))))))))));rw[hiW];exact⟨a5,c5,rfl,P5,hE⟩
theorem Ade{k:Byt}:∀K:List Pr,(K.filter fun p=>decide (ltB p.1 k)).length+(K.filter fun p=>decide (ltB k p.1)).length<=K.length
 | []=>qae _
 |p::K=>by
  have ih:=Ade (k:=k) K;rw[qbm,qbm,qaw]
  by_cases h8:ltB p.1 k
  .rw[qal h8,qag (Fl h8),if_pos rfl,if_neg (by decide),qaw];omega
  .rw[qag h8,if_neg (by decide)]
   split
   .rw[qaw];omega
   .omega
theorem Ane(K:List Pr)(x:Wr):(doP K x).length<=K.length+1:=by
 unfold doP
 split
 .exact Nat.le_succ_of_le (qev ..)
 .unfold HO;rw[qan,qaw];exact Nat.succ_le_succ (Ade (k:=x.k) K)
theorem TX:∀(V:List Wr) (K:List Pr),(DO K V).length<=K.length+V.length
 | [],K=>qae _
 |x::V,K=>by
  have h5:=TX V (doP K x);have h6:=Ane K x;rw[qaw];show(DO (doP K x) V).length<=_;omega
abbrev TRf:TypeId:=38
theorem Aa5{w:World}{M M2:Mut}{br:Nat}{a a2:Option Addr}{n c m c2 N:Nat}{L:List Pr}{W:List Wr}(hb:w.heap[br]?=some (Bl TRf [.slice a n c,.int .i64 (Cu N)]))(hbr:M br)(PL:Prs w M a n c L)(X:Wrs w M2 a2 m c2 W)(hM:∀x,M x->x<w.heap.size)(hL:Rising L)(ho:OkP L)(hl:∀y∈W,y.k.length<=1000000)(hn:n<=100000)(hm:m<=1000000:=by omega):
  Ret prog 15 #[ptr br,.slice a2 m c2] w fun v w'=>v=.int .i64 (C8 N L W)/\∃a' c',Prs w' M a' (if C8 N L W=0 then DO L W else L).length c' (if C8 N L W=0 then DO L W else L)/\w'.heap[br]?=some (Bl TRf [.slice a' (if C8 N L W=0 then DO L W else L).length c',.int .i64 (Cu N)])/\Ext [br] w w':=by
 obtain⟨w0,rfl⟩:=qD w;have hmW:=X.num;have hnL:=PL.num
 have keep:∀{z:World} {e:Int},Ext [] w0 z->e≠0->C8 N L W=e->∃a' c',Prs z M a' (if C8 N L W=0 then DO L W else L).length c' (if C8 N L W=0 then DO L W else L)/\z.heap[br]?=some (Bl TRf [.slice a' (if C8 N L W=0 then DO L W else L).length c',.int .i64 (Cu N)])/\Ext [br] w0 z:=fun{z e} hz h1 h2=>by
  rw[h2,if_neg h1,<-hnL];exact⟨a,c,PL.turn (Grown.call hz),hz.to hb (by simp),hz.mono (by simp)⟩
 refine A6 (fn:=f15) func15 U [ptr br,.slice a2 m c2] U (Ad (Ac U (qA (Aq (Ad (Aj U (AP CD U (BZ U U (qA (Au _ U ?_ ?_))))))))))
 .intro h1;replace h1:=AV h1;have hr:C8 N L W=6:=by unfold C8;rw[if_pos (by omega)]
  refine Ad (Ac U (qA (Ax (Ao (AG (v:=(.int _ _)) U U U ?_)))));exact⟨by rw[hr],keep (.refl _ _) (by decide) hr⟩
 .intro h1;replace h1:=AW h1;refine Ap (Aa (Aq (Ad (Aj U (Ai qB (Anc X hl) U ?_)))));rintro v w ⟨rfl,hx10⟩;refine BX U (qA (Au _ U ?_ ?_))
  .intro h2;replace h2:=Cz h2;have hr:C8 N L W=1:=by unfold C8;rw[if_neg (by omega),if_neg (by simpa using h2)]
   refine Ad (Ac U (qA (Ax (Ao (AG (v:=(.int _ _)) U U U ?_)))));exact⟨by rw[hr],keep hx10 (by decide) hr⟩
  .intro h2;replace h2:=C0 h2;have h2':Hl [] W=true:=by simpa using h2
   have hfew:=TK h2';have hdo:=OI ho hfew;have hr:C8 N L W=if Cu N<B0 (DO L W)then 7 else 0:=by unfold C8;rw[if_neg (by omega),if_pos h2']
   have hs:=hx10.to hb (by simp);have hlen17:=TX W L;refine Ap (Aa (Ad (Am U (A8 U (Af Md U (Be JJ U ((by rw[Ar hs];rfl)) ?_))))));refine Aj U (Ai qB (Akz (PL.turn (Grown.call hx10)) (X.call hx10) (fun y hy=>qas (hM y hy) hx10.size) hL ho hfew) U ?_);rintro v w17 ⟨a17,c17,rfl,P17,hx17⟩;have hs17:=hx17.to hs (by simp);have hx2:=hx10.trans hx17;have H:=Ctx.start w17 [];refine Ak U (qA (Aq (BR [([0,2,3,4,5],1),([],6)] (fun z=>z.heap[br]?=some (Bl TRf [.slice a n c,.int .i64 (Cu N)])) [] mixed ((H.drew.ext.to hs17 (by simp))) ?_)));refine AC U U (BF U (Cs U (Bg U (AD Abu U (BG DW U (fun _ hx=>(by rw[Ar hx];rfl)) ?_)))));refine AU ?_;replace H:=H.drew;refine Ai qB (V9 (P17.turn (Grown.call H.ext)) (fun q hq=>by have:=hdo q hq;omega)) U ?_;rintro v w ⟨rfl,hx19⟩
   replace H:=H.call hx19;refine Ab (Bc ((H.ext.to hs17 (by simp))) ?_);refine AC U U (AU (BZ U U (Ab (Bc ((H.ext.to hs17 (by simp))) ?_))));refine B1 (Au _ U ?_ ?_)
   .intro h3;replace h3:=AV h3;have hr7:C8 N L W=7:=by rw[hr,if_pos (by omega)]
    refine Ad (Ac U (qA (Ax (Ao (AG (v:=(.int _ _)) U U U ?_)))));exact⟨by rw[hr7],keep (hx2.trans H.ext) (by decide) hr7⟩
   .intro h3;replace h3:=AW h3;have hr0:C8 N L W=0:=by rw[hr,if_neg (by omega)]
    have P18:=P17.turn (Grown.call H.ext);have hx3:=hx2.trans H.ext;have hs3:=hx3.to hb (by simp);clear H;have H:=Ctx.start1 hs3;refine Ap (Aa (Ad (Am U (Aj U (A8 U (Af Md U (Bf (.slice _ _ _) UE U U U H at0 (by(simp;done)) ?_)))))));rintro w H;refine qA (Ad (Ac U (qA (Ax (AG (v:=(.int _ _)) U U U ?_)))));rw[hr0,if_pos rfl];refine⟨rfl,a17,c17,P18.turn ⟨Turn.of H.ext fun y hy=>?_,fun _ h => .inl h⟩,H.get at0,(hx3.mono (by simp)).trans H.ext⟩;rw[qaa.1 hy];exact hbr
structure Sg9 where
 d:Int
 la:Option Addr
 lc:Nat
 L:List Wr
 off:Bool
 pa:Option Addr
 pc:Nat
 P:List Int
def Q6(m:Sg9):List Value:=[.int .i64 m.d,.slice m.la m.L.length m.lc,.bool m.off,.slice m.pa m.P.length m.pc]
theorem Af6(m:Sg9):∀v∈Q6 m,Bi v=true:=fun v hv=>by
 simp only[Q6,qac,qam,or_false]at hv
 rcases hv with rfl|rfl|rfl|rfl <;> rfl
structure Sg9.In(w:World)(m:Sg9):Prop where
 d : -9223372036854775808<=m.d/\m.d<=9223372036854775807
 l:Wrs w (fun _=>False) m.la m.L.length m.lc m.L
 ll:m.L.length<=1152921504606846976
 lw:∀y∈m.L,y.k.length<=1152921504606846976/\y.v.length<=1152921504606846976
 p:Rd w m.pa 1 (fun x:Int=>[.int .i64 x]) m.P
 pl:m.P.length<=1152921504606846976/\m.P.length<=m.pc
 pi:∀x∈m.P,-9223372036854775808<=x/\x<=9223372036854775807
def Aon(m:Sg9):Prop:=m.L.length<=3000/\m.P.length<=3000/\∀y∈m.L,y.k.length+y.v.length<=300099
theorem Anf{w:World}{a:Option Addr}{n c:Nat}{ms:List Sg9}(R:Rd w a 4 Q6 ms)(hn:ms.length=n)(hin:∀m∈ms,m.In w)(hn2:n<=1152921504606846976) :
  Ret prog 7 #[.slice a n c] w fun v w'=>∃bo:Bool,v=.bool bo/\(bo=true->n<=150/\∀m∈ms,Aon m)/\Ext [] w w':=by
 obtain⟨w0,rfl⟩:=qD w;refine A6 (fn:=f7) func7 U [.slice a n c] U (Ad (An U (qA (Ad (Ac U (qA (Aq (Ad (Ac U (qA ?_))))))))));refine AE (B7 1180591620717411303416 (α:=Nat × Nat) (fun s=>[(4,.int .i64 (s.1:Int)),(3,.int .i64 (s.2:Int))]) (fun s w'=>s.1<=n/\Ext [] w0 w'/\20*s.1<=s.2/\s.2<=4000000000000000000/\(s.2<=3000->∀m∈ms.take s.1,Aon m)) (fun s=>n - s.1) (0,0) U ?_ ?_ ?_)
 .exact⟨rfl,rfl,trivial⟩
 .exact⟨qak _,.refl _ _,qae _,qak _,fun _ m h=>by cases h⟩
 .rintro⟨i,t⟩ j w ⟨hi,hE,ht,htb,hg⟩;dsimp only at hi ht htb hg;dsimp only;have hx:=hE;have H:=Ctx.start w [];refine Aq ?_;obtain⟨w1,rfl⟩:=qD w;refine OU 16320 (α:=Unit) (fun _=>[(13,.bool (decide (i<n) && decide (t<=3000)))]) (fun _ w'=>w'=w1) U ?_ ?_
  .skip
   refine Av (Ae U (Aj U (AP Qj U (Bn U U (AA U (AR 10 U ?_ ?_))))))
   .intro hA;replace hA:=AV hA;refine Ae U (MX U U (AN U (.bool _) U (qA ?_)));exact⟨(),rfl,⟨qab Value.bool (by rw[qal (show i<n by omega),qdx];exact decide_eq_decide.2 (by omega)),trivial⟩,rfl⟩
   .intro hA;replace hA:=AW hA;refine Ag U (Ag U (AK U (.bool _) U (qA ?_)));exact⟨(),rfl,⟨qab Value.bool (by rw[qag (show ¬i<n by omega)];rfl),trivial⟩,rfl⟩
  .rintro - j13 w hw;rw[hw];clear hw;refine Au _ U ?_ ?_
   .intro hB;simp only[qao,qap]at hB;obtain⟨x,hx1⟩:=AO (l:=ms) (i:=i);have hxi:=hin x (qad hx1);have hxl:=hxi.ll;have hxp:=hxi.pl;have hxd:=hE.trans (Ext.drew [] w1);obtain⟨ws,Rw,-,hws,hwo⟩:=hxi.l.ex;have hwn:ws.length=x.L.length:=by rw[<-hws,qaj]
    refine Ap (Aa (Aq (AE (J7 (fun x=>x=_) mixed U ?_))));refine DM U (Fi U U ?_);refine Gm U (DM U (Em R Qj Ql U U ?_));refine BP Me U (HZ U8 U (by rintro _ rfl;exact((R.ext0 hxd).fld hx1 rfl (j:=1) rfl)) ?_);refine Uu U CD U (Fi U U ?_);refine Gm U (DM U (Em R Qj Ql U U ?_));refine BP Abv U (HZ IJ U (by rintro _ rfl;exact((R.ext0 hxd).fld hx1 rfl (j:=3) rfl)) ?_);refine Uu U FB U (Fi U U ?_);refine EO U (Jo ?_);rintro _ rfl;replace H:=H.drew
    refine Ad (Ac U (qA (AE (B7 1180591620713116336168 (α:=Nat × Nat) (fun s=>[(5,.int .i64 (s.1:Int)),(3,.int .i64 (s.2:Int))]) (fun s w'=>s.1<=x.L.length/\Ext [] w0 w'/\t+20+x.L.length+x.P.length<=s.2/\s.2<=4000000000000000000/\(s.2<=3000->∀y∈x.L.take s.1,y.k.length+y.v.length<=300099)) (fun s=>x.L.length - s.1) (0,t+20+x.L.length+x.P.length) U ?_ ?_ ?_))))
    .exact⟨rfl,qab (Value.int .i64) (by push_cast;rfl),trivial⟩
    .exact⟨qak _,hxd,qae _,by omega,fun _ y h=>by cases h⟩
    .rintro⟨k,u⟩ j5 w ⟨hk,hE2,hu,hub,hgk⟩;dsimp only at hk hu hub hgk;dsimp only;have hx:=hE2;have H:=Ctx.start w [];refine Aq ?_;obtain⟨w2,rfl⟩:=qD w;refine OU 17587891077120 (α:=Unit) (fun _=>[(43,.bool (decide (k<x.L.length) && decide (u<=3000)))]) (fun _ w'=>w'=w2) U ?_ ?_
     .skip
      refine Av (Ae U (Aj U (Ae U (AY R Qj Ql U U ?_))));refine Af Me U (Be U8 U ((R.ext0 hx).fld hx1 U (j:=1) U) ?_);refine AP CD U (Bn U U (AA U (AR 40 U ?_ ?_)))
      .intro hA;replace hA:=AV hA;refine Ae U (MX U U (AN U (.bool _) U (qA ?_)));exact⟨(),rfl,⟨qab Value.bool (by rw[qal (show k<x.L.length by omega),qdx];exact decide_eq_decide.2 (by omega)),trivial⟩,rfl⟩
      .intro hA;replace hA:=AW hA;refine Ag U (Ag U (AK U (.bool _) U (qA ?_)));exact⟨(),rfl,⟨qab Value.bool (by rw[qag (show ¬k<x.L.length by omega)];rfl),trivial⟩,rfl⟩
     .rintro - j43 w hw;rw[hw];clear hw;refine Au _ U ?_ ?_
      .intro hC;simp only[qao,qap]at hC;obtain⟨y,hy1⟩:=AO (l:=ws) (i:=k);have hyL:x.L[k]?=some y.x:=by rw[<-hws,qat,hy1];rfl
       have hyl:=hxi.lw _ (qad hyL);have hyd:=hE2.trans (Ext.drew [] w2);refine Ap (Aa (Aq (AE (Abb (fun x=>x=_) mixed U ?_))));refine DM U (Gm U (DM U (Em R Qj Ql U U ?_)));refine BP Me U (HZ U8 U (by rintro _ rfl;exact((R.ext0 hyd).fld hx1 rfl (j:=1) rfl)) ?_);refine DM U (Em Rw CD CQ U U ?_);refine BP FT U (HZ B4 U (by rintro _ rfl;exact((Rw.ext0 hyd).fld hy1 rfl (j:=0) rfl)) ?_);refine Uu U AX U (Gm U (DM U (Em R Qj Ql U U ?_)));refine BP Me U (HZ U8 U (by rintro _ rfl;exact((R.ext0 hyd).fld hx1 rfl (j:=1) rfl)) ?_);refine DM U (Em Rw CD CQ U U ?_);refine BP FU U (HZ B4 U (by rintro _ rfl;exact((Rw.ext0 hyd).fld hy1 rfl (j:=1) rfl)) ?_)
       refine Uu U AX U (Fi U U ?_);refine q_quo U U U (by omega) (by omega) (show _<=(9223372036854775807:Int)by omega) (Fi U U ?_);refine EO U (Jo ?_);rintro _ rfl;replace H:=H.drew;refine AF (Aa (Av (Ae U (A7 U U ?_))));refine Ac U (qA ?_);refine⟨(k+1,u+(y.x.k.length+y.x.v.length) / 100),rfl,⟨rfl,qab (Value.int .i64) (by push_cast;rfl),trivial⟩,⟨by dsimp only;omega,hyd,by dsimp only;omega,by dsimp only;omega,fun h z hz=>?_⟩,by dsimp only;omega⟩;dsimp only at h hz;rw[Bp hyL]at hz
       rcases qau.1 hz with hz|hz
       .exact hgk (by omega) z hz
       .rw[qaa.1 hz];omega
      .intro hC;simp only[qe4,qct]at hC;refine B3 (Ay (Ay (Bb (AF (Aa (Av (Ae U (A7 U U ?_))))))));refine Ac U (qA ?_);refine⟨(i+1,u),rfl,⟨rfl,rfl,trivial⟩,⟨by dsimp only;omega,hE2,by dsimp only;omega,hub,fun h m hm=>?_⟩,by dsimp only;omega⟩;dsimp only at h hm;rw[Bp hx1]at hm
       rcases qau.1 hm with hm|hm
       .exact hg (by omega) m hm
       .rw[qaa.1 hm];have hkl:k=x.L.length:=by omega
        have h9:=hgk h;rw[hkl,qbe]at h9;exact⟨by omega,by omega,h9⟩
   .intro hB;simp only[qe4,qct]at hB;refine B3 (Ay (Ay (Bb (Aa (Ad (Ae U (MX U U (An U (qA (Ax (AG (v:=(.bool _)) U U U ?_)))))))))));refine⟨_,rfl,fun h=>?_,hE⟩;have h5:t<=3000:=by have:=qb5 h;omega
    have hin2:i=n:=by omega
    rw[hin2,<-hn,qbe]at hg;exact⟨by omega,hg h5⟩
def UB(w:World)(a:Option Addr)(n:Nat):Prop:=n=0\/∃b full,a=some ⟨b,0,none⟩/\w.heap[b]?=some (Bl 5 full)/\∀j,j<n->∃u:UInt8,full[j]?=some (bv u)
section
variable {ops rest:List Oper}{Q:Exit->Env->World->Prop}{e:Env}{w w':World}{dst:Option Tmp}{ty:TypeId}{pos:String}{af:Array Edge}{g:Option (Nat × Bool)}{r:Option Nat}
theorem UB.ext{S:List Nat}{a:Option Addr}{n:Nat}(h:UB w a n)(hx:Ext S w w')(hS:n=0\/(adr a).block∉S):UB w' a n:=by
 rcases h with h|⟨b,full,rfl,h1,h2⟩
 .exact .inl h
 .rcases hS with hS|hS
  .exact .inl hS
  .exact .inr ⟨b,full,rfl,hx.to h1 hS,h2⟩
theorem ME{x y:Operand}{b c2:Nat}{a2:Option Addr}{l:Byt}(hg:AJ ⟨dst,.call ⟨.builtin .append,#[x,y],#[24,24]⟩,ty,pos,af,g⟩ ops e=true)(hx:ev e x=.slice (some ⟨b,0,none⟩) 0 0)(hy:ev e y=.slice a2 l.length c2)(hb:w.heap[b]?=some (Bl 5 []))(R:Rd w a2 1 B8 l)(h:∀a' c' w',Ext [b] w w'->Rd w' a' 1 B8 l/\UB w' a' l.length->l.length<=c'->(l=[]\/(adr a').block=b\/w.heap.size<=(adr a').block)->AB prog r ops Q rest (put e dst (.slice a' l.length c')) w')(hl:l.length<=1000000:=by omega):
  AB prog r ops Q (⟨dst,.call ⟨.builtin .append,#[x,y],#[24,24]⟩,ty,pos,af,g⟩::rest) e w:=by
 refine DS (L:=[]) (a:=some ⟨b,0,none⟩) (n:=0) (c:=0) (full:=[]) (l:=[]) hg AX AX CT Pf IP U (l.map bv) hx hy (Ctx.start1 hb) ⟨(fun p hp=>by injection hp with hp;subst hp;rfl),(fun hp=>by cases hp),by simp,qae _,by simp⟩ (by simp) (Ht l) (Rd.appB R) fun a' c' full' w' H' O'=>?_;rw[qa2]at O' |-;have O2:OS a' l.length c' 1 full' (l.map bv):=by simpa using O'
 refine h a' c' w' H'.ext ⟨OS.rdB O2 fun y hy=>H'.blk y hy,?_⟩ O2.le ?_
 .cases ha:a' with
  |none =>
   left;have h8:=O2.none' ha;have h9:=O2.le;omega
  |some q =>
   right;have h8:=O2.zero q ha;have h7:=H'.blk (q.block,Bl 5 full') (by rw[ha];exact qaa.2 rfl);refine⟨q.block,full',by rw[h8],h7,fun j hj=>?_⟩;have h6:=qab (fun z:List Value=>z[j]?) O2.pre;rw[qdt,if_pos (by omega),qat,qbd hj]at h6;exact⟨_,h6⟩
 .cases ha:a' with
  |none =>
   left;have h8:=O2.none' ha;have h9:=O2.le;exact qa4 (by omega)
  |some q =>
   have h8:=H'.own (q.block,Bl 5 full') (by rw[ha];exact qaa.2 rfl);obtain⟨qb,qo,qs⟩:=q;exact .inr (h8.imp (fun h=>qaa.1 h) id)
end
structure Cpi(wi w:World)(e:List (Nat × Obj))(m:Wm):Prop where
 ok:m.Ok w (Mk wi e)
 uk:UB w m.ka m.x.k.length
 uv:UB w m.va m.x.v.length
section
variable {wi w1 wb wd w:World}{e9 e28 e:List (Nat × Obj)}{m:Wm}
theorem ON{l:Byt}{a:Option Addr}{S:List Nat}(h:l=[]\/(adr a).block∉S):l.length=0\/(adr a).block∉S:=h.imp (fun h=>by rw[h];rfl) id
theorem Cpi.step(h:Cpi wi w1 e9 m)(hx:Ext [] w1 wb)(H:Ctx wb (e9.map (·.1)) w e28):Cpi wi w e28 m :=
 ⟨⟨JY h.ok.k hx H,JY h.ok.v hx H,h.ok.kc,h.ok.vc⟩,(h.uk.ext hx (.inr (by simp))).ext H.ext (ON (h.ok.k.2.imp id fun h5 h6=>h5 (.inr h6))),(h.uv.ext hx (.inr (by simp))).ext H.ext (ON (h.ok.v.2.imp id fun h5 h6=>h5 (.inr h6)))⟩
theorem Cpi.call(h:Cpi wi w1 e m)(hx:Ext [] w1 w):Cpi wi w e m :=
 ⟨h.ok.call hx,h.uk.ext hx (.inr (by simp)),h.uv.ext hx (.inr (by simp))⟩
theorem Cpi.cons{b:Nat}{o:Obj}(h:Cpi wi wd e m)(Hb:Ctx wd [] w [(b,o)]):Cpi wi w ((b,o)::e) m:=by
 have hb:wd.heap.size<=b:=(Hb.own _ (qaa.2 rfl)).resolve_left (by simp)
 have key:∀{a:Option Addr} {l:Byt},Rdx wd (Mk wi e) a l->Rdx w (Mk wi ((b,o)::e)) a l:=fun{a l} ⟨R,hn⟩=>⟨R.ext0 Hb.ext,by
  rcases Rd.lt8 R with h5|h5
  .exact .inl h5
  .refine hn.imp id fun h6 h7=>?_
   rcases h7 with h7|h7
   .exact h6 (.inl h7)
   .rw[qay,qac]at h7
    rcases h7 with h7|h7
    .omega
    .exact h6 (.inr h7)⟩
 exact⟨⟨key h.ok.k,key h.ok.v,h.ok.kc,h.ok.vc⟩,h.uk.ext Hb.ext (.inr (by simp)),h.uv.ext Hb.ext (.inr (by simp))⟩
end
theorem WB{w w':World}{l:Byt}{b:Nat}{a:Option Addr}(U:UB w a l.length)(h:l=[]\/(adr a).block≠b)(hx:Ext [b] w w'):UB w' a l.length:=U.ext hx (ON (h.imp id fun h=>by simpa using h))
theorem Ak0{w:World}{M:Mut}{a:Option Addr}{n c:Nat}{W:List Wr}(X:Wrs w M a n c W)(hl:∀y∈W,y.k.length<=1000000/\y.v.length<=1000000)(hn:n<=1000000:=by omega):
  Ret prog 12 #[.slice a n c] w fun v w'=>∃a' c' f',∃ms:List Wm,v=.slice a' W.length c'/\Ctx w [] w' (ent a' 56 f')/\OS a' W.length c' 3 f' (ms.flatMap CO)/\ms.map (·.x)=W/\∀m∈ms,Cpi w w' (ent a' 56 f') m:=by
 obtain⟨w0,rfl⟩:=qD w;obtain⟨ps,Rp,-,hps,hp⟩:=X.ex;have hmW:=X.num;have hpn:ps.length=n:=by rw[hmW,<-hps,qaj]
 refine A6 (fn:=f12) func12 U [.slice a n c] U (Ad (Ak U (qA (Ad (Ak U (qA (Aq (Ad (Ac U (qA ?_))))))))));refine AE (B7 17179869176 (α:=Nat × Option Addr × Nat × List Value × List Wm) (fun s=>[(4,.int .i64 (s.1:Int)),(3,.slice s.2.1 s.1 s.2.2.1)]) (fun s w'=>s.1<=n/\Ctx w0 [] w' (ent s.2.1 56 s.2.2.2.1)/\OS s.2.1 s.1 s.2.2.1 3 s.2.2.2.1 (s.2.2.2.2.flatMap CO)/\s.2.2.2.2.map (·.x)=W.take s.1/\∀m∈s.2.2.2.2,Cpi w0 w' (ent s.2.1 56 s.2.2.2.1) m) (fun s=>n - s.1) (0,none,0,[],[]) U ?_ ?_ ?_)
 .exact⟨rfl,rfl,trivial⟩
 .exact⟨qak _,Ctx.start w0 [],OS.nil,rfl,fun m h=>by cases h⟩
 .rintro⟨i,a3,c3,f3,ms⟩ j w ⟨hi,H,O,hms,hok⟩;dsimp only at hi H O hms hok;dsimp only;have hx:=H.ext;refine Aq (Ad (Ae U (Aj U (AP CD U (Bn U U (qA (Au _ U ?_ ?_)))))))
  .intro hB;replace hB:=AV hB;obtain⟨x,hx1⟩:=AO (l:=ps) (i:=i);have hxo:=hp x (qad hx1);have hxL:W[i]?=some x.x:=by rw[<-hps,qat,hx1];rfl
   have hxl:=hl _ (qad hxL);have hE2:=H.ext;obtain⟨w2,rfl⟩:=qD w;refine Ap (Aa (Aq (AE (Anm (.two [0,2,3,4,5,6,9,10,11,12,13,15,16,17,18,19] 1 (.two [] 7 (.one [] 8 (.one [] 14 (.one [20] 21 (.one [] 22 (.one [] 23 .stop))))) 8 (.one [] 7 (.one [] 14 (.one [20] 21 (.one [] 22 (.one [] 23 .stop)))))) 8 (.one [] 1 (.one [] 7 (.one [] 14 (.one [20] 21 (.one [] 22 (.one [] 23 .stop))))))) (fun z=>Ext [] w0 z) mixed (hE2.trans (Ext.drew [] w2)) ?_))));refine VI U U U (BF U (BF U (B9 U (Cr Rp CD CQ U U ?_))));refine AD FT U (BG B4 U (fun _ hx=>(Rp.ext0 hx).fld hx1 rfl (j:=0) rfl) ?_);refine BF U (B9 U (Cr Rp CD CQ U U ?_));refine AD FU U (BG B4 U (fun _ hx=>(Rp.ext0 hx).fld hx1 rfl (j:=1) rfl) ?_)
   refine BF U (B9 U (Cr Rp CD CQ U U ?_));refine AD Jp U (BG Gf U (fun _ hx=>(Rp.ext0 hx).fld hx1 rfl (j:=2) rfl) ?_);refine AU ?_;have E:=Ext.drew [] w2;refine⟨?_,?_⟩
   .skip
    refine HI ?_;rintro b1 wa Ea hn1 hb1;have hs1a:=E.size;replace E:=E.trans Ea;have E0:=hE2.trans E;refine Ab (Di (E0) (VI U U U ?_));refine AU ?_;refine⟨?_,?_⟩
    .skip
     refine ME U U U hb1 (hxo.k.1.ext0 (hE2.trans E)) ?_;rintro a1 c1 wc Ec R1 hc1 hs1;have hs3:=E.size;have hf1:=Ez (w2:=w2) hs1 hs3;replace E:=E.then Ec (fun x h => .inr (by rw[qaa.1 h];omega));have E0:=hE2.trans E;refine Ab (Di (E0) (CS U U ?_));refine AU (HI ?_);rintro b2 wb Eb hn2 hb2;have hs2a:=E.size;replace E:=E.trans Eb;have hne:=Aj1 R1.1 hn2;replace R1:=And.intro (R1.1.ext0 Eb) (R1.2.ext Eb (.inr (by simp)));have E0:=hE2.trans E;refine Ab (Di (E0) (CS U U ?_));refine AU (ME U U U hb2 (hxo.v.1.ext0 (hE2.trans E)) ?_);rintro a2' c2' wd Ed R2 hc2 hs2;have hs4:=E.size;have hf2:=Ez (w2:=w2) hs2 hs4;replace R1:=And.intro (JS R1.1 hne Ed) (WB R1.2 hne Ed);replace E:=E.then Ed (fun x h => .inr (by rw[qaa.1 h];omega));have E0:=hE2.trans E;refine Ab (Di (E0) (CS U U ?_))
     refine ED (CO ⟨a1,c1,a2',c2',x.x⟩) Qk Fy ?_;refine AU ?_;have hz:Cpi w0 wd (ent a3 56 f3) ⟨a1,c1,a2',c2',x.x⟩:=⟨⟨⟨R1.1,LM H hf1⟩,⟨R2.1,LM H hf2⟩,hc1,hc2⟩,R1.2,R2.2⟩;have HE:=H.call E;have Hs:=Ctx.start wd [];refine BJ (CO ⟨a1,c1,a2',c2',x.x⟩) (.agg _) CD CQ Fy U U U U Hs ?_;rintro b32 w32 - Hb;have HE2:=Ctx.comm (HE.callEnt Hb.ext (fun x hx=>⟨Hb.blk x hx,(Hb.own x hx).resolve_left (by simp)⟩) Hb.nd);replace hz:=hz.cons Hb;have E0:=HE2.ext;refine Ab (Di (E0) (CS U U ?_));refine AU ?_;have Hs:=Ctx.startL HE2.blk HE2.nd;refine BO (L:=[]) CD CD CQ Abp Fy U U U Hs O U (FW ⟨a1,c1,a2',c2',x.x⟩) ?_;rintro a33 c33 f33 w33 H33 O33;have H34:=N0 HE2 H33;have E0:=H34.ext;refine Ab (Di (E0) (CS U U ?_));refine AU (Ak U (Ab (Di (E0) (LV ?_))));refine AF (Aa (Av (Ae U (A7 U U ?_))))
     refine Ac U (qA ?_);refine⟨(i+1,a33,c33,f33,ms++[⟨a1,c1,a2',c2',x.x⟩]),rfl,⟨rfl,rfl,trivial⟩,⟨by dsimp only;omega,H34,by dsimp only;rw[qbf,qb8];exact O33,by dsimp only;rw[qaz,hms,Bp hxL];rfl,fun q hq=>?_⟩,by dsimp only;omega⟩
     rcases qau.1 hq with hq|hq
     .exact(((hok q hq).call E).cons Hb).step (.refl _ _) H33
     .rw[qaa.1 hq];exact hz.step (.refl _ _) H33
    .skip
     refine HI ?_;rintro b2 wb Eb hn2 hb2;have hs2a:=E.size;replace E:=E.trans Eb;have h12:b1≠b2:=(by have:=Al hb1;omega);replace hb1:wb.heap[b1]?=some (Bl 5 []):=(by rw[Eb.block b1 (Al hb1) (by simp)];exact hb1);have E0:=hE2.trans E;refine Ab (Di (E0) (CS U U ?_));refine AU (ME U U U hb1 (hxo.k.1.ext0 (hE2.trans E)) ?_);rintro a1 c1 wc Ec R1 hc1 hs1;have hs3:=E.size;have hf1:=Ez (w2:=w2) hs1 hs3;replace E:=E.then Ec (fun x h => .inr (by rw[qaa.1 h];omega));have hne:x.x.k=[]\/(adr a1).block≠b2:=hs1.imp id (fun h=>h.elim (fun h=>by omega) fun h=>by have:=Al hb2;omega);replace hb2:wc.heap[b2]?=some (Bl 5 []):=(by rw[Ec.block b2 (Al hb2) (by simpa using Ne.symm h12)];exact hb2);have E0:=hE2.trans E;refine Ab (Di (E0) (CS U U ?_));refine AU (ME U U U hb2 (hxo.v.1.ext0 (hE2.trans E)) ?_);rintro a2' c2' wd Ed R2 hc2 hs2
     have hs4:=E.size;have hf2:=Ez (w2:=w2) hs2 hs4;replace R1:=And.intro (JS R1.1 hne Ed) (WB R1.2 hne Ed);replace E:=E.then Ed (fun x h => .inr (by rw[qaa.1 h];omega));have E0:=hE2.trans E;refine Ab (Di (E0) (CS U U ?_));refine ED (CO ⟨a1,c1,a2',c2',x.x⟩) Qk Fy ?_;refine AU ?_;have hz:Cpi w0 wd (ent a3 56 f3) ⟨a1,c1,a2',c2',x.x⟩:=⟨⟨⟨R1.1,LM H hf1⟩,⟨R2.1,LM H hf2⟩,hc1,hc2⟩,R1.2,R2.2⟩;have HE:=H.call E;have Hs:=Ctx.start wd [];refine BJ (CO ⟨a1,c1,a2',c2',x.x⟩) (.agg _) CD CQ Fy U U U U Hs ?_;rintro b32 w32 - Hb;have HE2:=Ctx.comm (HE.callEnt Hb.ext (fun x hx=>⟨Hb.blk x hx,(Hb.own x hx).resolve_left (by simp)⟩) Hb.nd);replace hz:=hz.cons Hb;have E0:=HE2.ext;refine Ab (Di (E0) (CS U U ?_));refine AU ?_;have Hs:=Ctx.startL HE2.blk HE2.nd
     refine BO (L:=[]) CD CD CQ Abp Fy U U U Hs O U (FW ⟨a1,c1,a2',c2',x.x⟩) ?_;rintro a33 c33 f33 w33 H33 O33;have H34:=N0 HE2 H33;have E0:=H34.ext;refine Ab (Di (E0) (CS U U ?_));refine AU (Ak U (Ab (Di (E0) (LV ?_))));refine AF (Aa (Av (Ae U (A7 U U ?_))));refine Ac U (qA ?_);refine⟨(i+1,a33,c33,f33,ms++[⟨a1,c1,a2',c2',x.x⟩]),rfl,⟨rfl,rfl,trivial⟩,⟨by dsimp only;omega,H34,by dsimp only;rw[qbf,qb8];exact O33,by dsimp only;rw[qaz,hms,Bp hxL];rfl,fun q hq=>?_⟩,by dsimp only;omega⟩
     rcases qau.1 hq with hq|hq
     .exact(((hok q hq).call E).cons Hb).step (.refl _ _) H33
     .rw[qaa.1 hq];exact hz.step (.refl _ _) H33
   .skip
    refine HI ?_;rintro b2 wb Eb hn2 hb2;have hs2a:=E.size;replace E:=E.trans Eb;have E0:=hE2.trans E;refine Ab (Di (E0) (CS U U ?_));refine AU (HI ?_);rintro b1 wa Ea hn1 hb1;have hs1a:=E.size;replace E:=E.trans Ea;have h12:b1≠b2:=(by have:=Al hb2;omega);replace hb2:wa.heap[b2]?=some (Bl 5 []):=(by rw[Ea.block b2 (Al hb2) (by simp)];exact hb2);have E0:=hE2.trans E;refine Ab (Di (E0) (CS U U ?_));refine AU (ME U U U hb1 (hxo.k.1.ext0 (hE2.trans E)) ?_);rintro a1 c1 wc Ec R1 hc1 hs1;have hs3:=E.size;have hf1:=Ez (w2:=w2) hs1 hs3;replace E:=E.then Ec (fun x h => .inr (by rw[qaa.1 h];omega));have hne:x.x.k=[]\/(adr a1).block≠b2:=hs1.imp id (fun h=>h.elim (fun h=>by omega) fun h=>by have:=Al hb2;omega);replace hb2:wc.heap[b2]?=some (Bl 5 []):=(by rw[Ec.block b2 (Al hb2) (by simpa using Ne.symm h12)];exact hb2);have E0:=hE2.trans E
    refine Ab (Di (E0) (CS U U ?_));refine AU (ME U U U hb2 (hxo.v.1.ext0 (hE2.trans E)) ?_);rintro a2' c2' wd Ed R2 hc2 hs2;have hs4:=E.size;have hf2:=Ez (w2:=w2) hs2 hs4;replace R1:=And.intro (JS R1.1 hne Ed) (WB R1.2 hne Ed);replace E:=E.then Ed (fun x h => .inr (by rw[qaa.1 h];omega));have E0:=hE2.trans E;refine Ab (Di (E0) (CS U U ?_));refine ED (CO ⟨a1,c1,a2',c2',x.x⟩) Qk Fy ?_;refine AU ?_;have hz:Cpi w0 wd (ent a3 56 f3) ⟨a1,c1,a2',c2',x.x⟩:=⟨⟨⟨R1.1,LM H hf1⟩,⟨R2.1,LM H hf2⟩,hc1,hc2⟩,R1.2,R2.2⟩;have HE:=H.call E;have Hs:=Ctx.start wd [];refine BJ (CO ⟨a1,c1,a2',c2',x.x⟩) (.agg _) CD CQ Fy U U U U Hs ?_;rintro b32 w32 - Hb;have HE2:=Ctx.comm (HE.callEnt Hb.ext (fun x hx=>⟨Hb.blk x hx,(Hb.own x hx).resolve_left (by simp)⟩) Hb.nd);replace hz:=hz.cons Hb;have E0:=HE2.ext;refine Ab (Di (E0) (CS U U ?_))
    refine AU ?_;have Hs:=Ctx.startL HE2.blk HE2.nd;refine BO (L:=[]) CD CD CQ Abp Fy U U U Hs O U (FW ⟨a1,c1,a2',c2',x.x⟩) ?_;rintro a33 c33 f33 w33 H33 O33;have H34:=N0 HE2 H33;have E0:=H34.ext;refine Ab (Di (E0) (CS U U ?_));refine AU (Ak U (Ab (Di (E0) (LV ?_))));refine AF (Aa (Av (Ae U (A7 U U ?_))));refine Ac U (qA ?_);refine⟨(i+1,a33,c33,f33,ms++[⟨a1,c1,a2',c2',x.x⟩]),rfl,⟨rfl,rfl,trivial⟩,⟨by dsimp only;omega,H34,by dsimp only;rw[qbf,qb8];exact O33,by dsimp only;rw[qaz,hms,Bp hxL];rfl,fun q hq=>?_⟩,by dsimp only;omega⟩
    rcases qau.1 hq with hq|hq
    .exact(((hok q hq).call E).cons Hb).step (.refl _ _) H33
    .rw[qaa.1 hq];exact hz.step (.refl _ _) H33
  .intro hB;replace hB:=AW hB;have hiW:W.take i=W:=qa6 (by omega);rw[hiW]at hms;have hin:i=W.length:=by omega
   refine B3 (Ay (Ay (Bb (Aa (Ad (Aj U (Ak U (qA (Ax (AG (v:=(.slice _ _ _)) U U U ?_))))))))));exact⟨a3,c3,f3,ms,by rw[hin],H,hin ▸ O,hms,hok⟩
def blkW(m:Wm):List Nat:=(if m.x.k=[]then[]else[(adr m.ka).block])++(if m.x.v=[]then[]else[(adr m.va).block])
def VA(ms:List Wm):List Nat:=ms.flatMap blkW
theorem UB.set{w w':World}{a:Option Addr}{n b j:Nat}{full:List Value}{u:UInt8}(h:UB w a n)(hb:w.heap[b]?=some (Bl 5 full))(hx:Ext [b] w w')(hb':w'.heap[b]?=some (Bl 5 (full.set j (bv u)))):UB w' a n:=by
 rcases h with h|⟨b2,full2,rfl,h1,h2⟩
 .exact .inl h
 .right
  by_cases he:b2=b
  .subst he;rw[hb]at h1
   obtain rfl:full=full2:=by
    have:=qbw h1
    injection this with h3
    simpa using h3
   refine⟨b2,_,rfl,hb',fun i hi=>?_⟩;obtain⟨u2,hu⟩:=h2 i hi;rw[qc6]
   by_cases hij:j=i
   .rw[if_pos hij,if_pos (by rw[hij];exact(qaq.1 hu).1)];exact⟨u,rfl⟩
   .rw[if_neg hij];exact⟨u2,hu⟩
  .exact⟨b2,full2,rfl,hx.to h1 (by simpa using he),h2⟩
theorem LN{w0 w:World}{p:Sp}{A:Dev}{F:Mut}{N b:Nat}{L K:List Pr}(O:Lv w0 w p A F N b L){M:Mut}{br n c:Nat}{a:Option Addr}{room:Int}(hb:w.heap[br]?=some (Bl TRf [.slice a n c,.int .i64 room]))(PK:Prs w M a n c K)(hK:∀q∈K,q.1.length<=1000/\q.2.length<=1000)(hn:n<=100000:=by omega):
  Ret prog 23 #[ptr p.bs,ptr br] w fun v w'=>v=.bool (decide (L=K))/\Ext [] w w':=by
 obtain⟨wI,rfl⟩:=qD w;have hnum:=O.nums;have hok:=hnum.2.2.2.2.2.2;have hL:∀q∈L,q.1.length<=1000/\q.2.length<=1000:=fun q hq=>by have:=hok q hq;omega
 obtain⟨ys,Ry,-,hys,hyo⟩:=PK.ex;have hnK:=PK.num;refine A6 (fn:=f23) func23 U [ptr p.bs,ptr br] U (Ad (An U (qA (Ad (Am U (Ai qB (Af0 O none none 0 0 [] [] Rd.nil Rd.nil) U ?_))))));rw[P9];rintro v w13 ⟨a13,c13,rfl,P13,hx13⟩;have hs13:=hx13.to hb (by simp);have H:=Ctx.start w13 [];refine AQ U (Ah U U (Ah U U (Ak U (Ac U (qA (Aq (BR [([0,1,2,3,4,5,6,7],8),([9,10,11,12,14,15,16,17],13),([],18),([19],20)] (fun z=>z.heap[br]?=some (Bl TRf [.slice a n c,.int .i64 room])) [] mixed ((H.drew.ext.to hs13 (by simp))) ?_)))))));refine AC U U (B9 U (Ano U U U (LX U U (BF U (Cs U (Bg U (AD Md U (BG JJ U (fun _ hx=>(by rw[Ar hx];rfl)) ?_))))))));refine AU ?_;replace H:=H.drew;refine Ai qB (YV (Kc P13 H.ext) (Kc PK (hx13.trans H.ext)) (by omega) (by omega) hL hK) U ?_;rintro v w ⟨rfl,hx24⟩
 replace H:=H.call hx24;refine Ab (Bc ((H.ext.to hs13 (by simp))) ?_);refine AC U U (Agp U U (Abi U U (.bool _) U (LX U U (KS 27 U ?_ ?_))))
 .intro h1;replace h1:=Cz h1;have hne:¬L=K:=by simpa using h1
  refine Co U (Co U (Co U (Co U (Co U (AU (Ag U (Ab (Bc ((H.ext.to hs13 (by simp))) ?_))))))));refine AC U U (AU (Ag U (Ab (Bc ((H.ext.to hs13 (by simp))) ?_))));refine AC U U (Co U (AU (AN U (.bool _) U (Ab (Bc ((H.ext.to hs13 (by simp))) ?_)))));refine B1 (EA U (Ad (An U (qA (Ax (Ao (AG (v:=(.bool _)) U U U ?_)))))));exact⟨by rw[qag hne],hx13.trans H.ext⟩
 .intro h1;replace h1:=C0 h1;obtain rfl:L=K:=by simpa using h1
  refine Cs U (Cs U (Bg U (AD Md U (BG JJ U (fun _ hx=>(by rw[Ar hx];rfl)) ?_))));refine AU (Ai qB (Aa1 (O.call (hx13.trans H.ext))) U ?_);rintro v w29 ⟨rfl,h29⟩;rw[<-h29];refine Ab (Bc ((H.ext.to hs13 (by simp))) ?_);refine AC U U (AU (Ai qB (V9 (Kc PK (hx13.trans H.ext)) hK) U ?_));rintro v w ⟨rfl,hx34⟩;replace H:=H.call hx34;refine Ab (Bc ((H.ext.to hs13 (by simp))) ?_);refine AC U U (Ano U U U (AU (AK U (.bool _) U (Ab (Bc ((H.ext.to hs13 (by simp))) ?_)))));refine B1 (Au _ U ?_ ?_)
  .intro h2;replace h2:=Bu h2;exact absurd U h2
  .intro h2;replace h2:=Bv h2;obtain⟨xs,Rx,-,hxs,hxo⟩:=P13.ex;have hxn:xs.length=L.length:=by rw[<-hxs,qaj]
   have hyn:ys.length=n:=by rw[hnK,<-hys,qaj]
   have hE:=hx13.trans H.ext;have hE13:=H.ext;clear H;refine Ap (Aa (Aq (Ad (Ac U (qA (AE (B7 302231454903519854725008 (α:=Nat) (fun i=>[(7,.int .i64 (i:Int))]) (fun i w'=>i<=L.length/\Ext [] w13 w') (fun i=>L.length - i) 0 U ?_ ?_ ?_)))))))
   .exact⟨rfl,trivial⟩
   .exact⟨qak _,hE13⟩
   .rintro i j w ⟨hi,hE2⟩;have hx:=hE2;refine Aq (Ad (Ae U (Aj U (AP Cv U (Bn U U (AA U (AR 41 U ?_ ?_)))))))
    .intro hB;replace hB:=AV hB;refine Ae U (Bn U U (AN U (.bool _) U (qA (Au _ U ?_ ?_))))
     .intro hC;replace hC:=AV hC;obtain⟨x,hx1⟩:=AO (l:=xs) (i:=i);obtain⟨y,hy1⟩:=AO (l:=ys) (i:=i);have hxi:=hxo x (qad hx1);have hyi:=hyo y (qad hy1);have hxL:L[i]?=some (prI x.it):=by rw[<-hxs,qat,hx1];rfl
      have hyL:L[i]?=some (prI y.it):=by rw[<-hys,qat,hy1];rfl
      have hxy:x.it.val=y.it.val:=qab Prod.snd (qbw (hxL.symm.trans hyL));have hget:DQ L x.it.key=some x.it.val:=(ET hnum.2.2.2.2.2.1).2 (qad hxL);refine Ap (Aa (Aq (AE (Ad (Am U (Aj U (Ae U (AY Rx Cv Dq U U ?_))))))));refine Af FV U (Be B4 U ((Rx.ext0 hx).fld hx1 U (j:=0) U) ?_);refine Ai qB (Akv (O.call (hx13.trans hE2)) x.ka x.kc x.it.key (hxi.k.1.ext0 hE2)) U ?_;rw[hget];rintro v w54 ⟨a54,c54,rfl,R54,hx54⟩;have hE54:=(hE2.trans hx54);replace R54:Rd w54 a54 1 B8 x.it.val:=R54;have hd54:=hE54.trans (Ext.drew [] w54);have H:=Ctx.start w54 [];refine AQ U (Ah U U (Ah U U (Ah U U (Ak U (An U (Ac U (qA (J7 (fun x=>x=_) mixed U ?_))))))))
      refine DM U (q_neq U U U (VN U U (VN U U (q_not U U (Abd U U (.bool _) U (VN U U (Gm U (Zw (l:=x.it.val) U AX GR F7 U (by rintro _ rfl;exact R54.ext0 (Ext.drew [] w54)) ?_))))))));refine GZ U (Eo U (BP Md U (HZ JJ U (by rintro _ rfl;exact((by rw[Ar ((hx13.trans hd54).to hb (by simp))];rfl))) ?_)));refine DM U (Em Ry Cv Dq U U ?_);refine BP Jq U (HZ B4 U (by rintro _ rfl;exact((Ry.ext0 (hx13.trans hd54)).fld hy1 rfl (j:=1) rfl)) ?_);refine Zw (l:=y.it.val) U AX GR F7 U (by rintro _ rfl;exact hyi.v.1.ext0 (hx13.trans hd54)) ?_;refine Aln U U U (Abd U U (.bool _) U (Jo ?_));rintro _ rfl;replace H:=H.drew;refine Au _ U ?_ ?_
      .intro hD;exact absurd hxy (by simpa using hD)
      .intro hD;refine Ap (AF (Aa (Av (Ae U (A7 U U ?_)))));refine Ac U (qA ?_);exact⟨i+1,rfl,⟨rfl,trivial⟩,⟨by omega,hd54⟩,by omega⟩
     .intro hC;replace hC:=AW hC;refine B3 (Ay (Ay (Bb (Aa (Ad (An U (qA (Ax (AG (v:=(.bool _)) U U U ?_)))))))));exact⟨by rw[qal rfl],hx13.trans hE2⟩
    .intro hB;replace hB:=AW hB;refine Ag U (Ag U (AK U (.bool _) U (qA (Bz U (B3 (Ay (Ay (Bb (Aa (Ad (An U (qA (Ax (AG (v:=(.bool _)) U U U ?_))))))))))))));exact⟨by rw[qal rfl],hx13.trans hE2⟩
end Go.Proofs.YtcpgbcabmcbclaaGreatDoor
