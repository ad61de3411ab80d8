/- Part 13 of the proof. -/
import Derived.Test.YtcpgbcabmcbclaaGreatDoorPart12
set_option maxRecDepth 20000
set_option maxHeartbeats 16000000
namespace Go.Proofs.YtcpgbcabmcbclaaGreatDoor
open Go.GV Go.Proofs.Tryz
def RV(V:Nat->Byt)(p:Nat):Option (Bool × List It):=Es (V (362+p))
structure Dsk(N:Nat)(V:Nat->Byt)(R:Rj)(gen:Nat)(root:Int)(M:List Pr)(S:List Nat)(Ws:List (List Wr))(L:List Pr):Prop where
 n:442<=N/\N<=841
 z:R.size=360
 r1:Cy ((gen % 2:Nat):Int) (V (gen % 2))=gen
 rl:DG ((gen % 2:Nat):Int) (V (gen % 2))=tpB root R.first R.seq
 r0:Cy (((gen+1) % 2:Nat):Int) (V ((gen+1) % 2))<gen
 tr:Root (RV V) root M S
 nd:S.Nodup
 low:∀x∈S,x+362<N
 half:S.length<=(N - 362) / 2
 rise:Rising M
 ok:OkP M
 mx:M.length<=10000
 ws:R.L=Ws.map opB
 few:∀W∈Ws,W.length<=1000/\∀x∈W,x.Few/\1<=x.k.length
 l:L=Ep M Ws.flatten
 room:(Bx L:Int)<=Da N
structure Alv(N:Nat)(A:Dev)(R:Rj)(x:Sx)(M:List Pr)(S:List Nat)(Ws:List (List Wr))(L:List Pr)(b:Nat):Prop where
 sg:SG N A R x.V
 d:Dsk N x.V R x.gen x.root M S Ws L
 kl:KL x.kv L
 n:x.n=Bx L
 t:x.t=Ev [] Ws.flatten
 len:x.P.length=N - 362
 p01:∀s∈x.P,s=0\/s=1
 mem:∀y:Nat,y∈S↔x.P[y]?=some 1\/x.P[y]?=some 2
 gen:x.gen<=b
 seq:1<=R.seq/\R.seq+R.L.length<=b
def Bs(N:Nat)(b:Nat)(L:List Pr)(A:Dev):Prop :=
 ∃R V gen root M S Ws,SG N A R V/\Dsk N V R gen root M S Ws L/\gen<=b/\1<=R.seq/\R.seq+R.L.length<=b
def Bk(N:Nat)(b:Nat)(L:List Pr)(A:Dev):Prop :=
 A.left = -1/\Bs N b L A
section
variable {N b:Nat}{A:Dev}{R:Rj}{V V':Nat->Byt}{gen:Nat}{root:Int}{M L:List Pr}{S:List Nat}{Ws:List (List Wr)}{x:Sx}
theorem MB(h:442<=N/\N<=841):Jx N=(((N - 362) / 2:Nat):Int):=by unfold Jx;omega
theorem QF(h:442<=N/\N<=841):Da N=(4*Jx N / 5 - 1)*251:=by unfold Da;rw[if_neg (by rw[MB h];omega)]
theorem Dsk.lo(d:Dsk N V R gen root M S Ws L):1<=gen:=by have:=d.r0;omega
theorem Dsk.fewW(d:Dsk N V R gen root M S Ws L):∀y∈Ws.flatten,y.Few/\1<=y.k.length:=fun y hy=>by
 obtain⟨W,h1,h2⟩:=qe8.1 hy;exact(d.few W h1).2 y h2
theorem Dsk.riseL(d:Dsk N V R gen root M S Ws L):Rising L:=by rw[d.l];exact LK d.rise
theorem Dsk.okL(d:Dsk N V R gen root M S Ws L):OkP L:=by rw[d.l];exact QD d.ok d.fewW
theorem Vs:∀{L:List Pr},OkP L->5*L.length<=Bx L
 | [],_=>qak _
 |p::L,h=>by
  have h1:=Vs (L:=L) fun q hq=>h q (qaj _ hq);have h2:=(h p (qaf ..)).1;rw[FO,qav];omega
theorem Dsk.num(d:Dsk N V R gen root M S Ws L):L.length<=10000/\Bx L<=50000:=by
 have h1:=Vs d.okL;have h2:=d.room;have h3:=d.n;rw[QF d.n,MB d.n]at h2;omega
theorem Dsk.most(d:Dsk N V R gen root M S Ws L):FN 1500 (2*Bx L / 503+1)<=(N - 362) / 2/\2*Bx L / 503+1<=1500:=by
 have h2:=d.room;have h3:=d.n;rw[QF d.n,MB d.n]at h2;have h4:=Aah (2*Bx L / 503+1) (by omega);have h5:max 40 ((5*(2*Bx L / 503+1)+3) / 4)<=(N - 362) / 2:=by omega
 omega
theorem Acv:∀{Ws:List (List Wr)},(∀W∈Ws,∀y∈W,y.Few/\1<=y.k.length)->6*Ws.flatten.length<=480*BF (Ws.map opB)
 | [],_=>qak _
 |W::Ws,h=>by
  have h1:=Acv (Ws:=Ws) fun W hW=>h W (qaj _ hW)
  have h2:∀{W:List Wr},(∀y∈W,y.Few/\1<=y.k.length)->6*W.length<=(opB W).length:=by
   intro W
   induction W with
   |nil=>intro _;exact qak _
   |cons y W ih =>
    intro h;have h3:=ih fun z hz=>h z (qaj _ hz);have h4:=(h y (qaf ..)).2;have h5:=Wd y;unfold opB at h3 |-;rw[qcc,qan,qav,h5];omega
  have h3:=h2 (h W (qaf ..));have h4:=Amc (opB W).length;rw[qe7,qan];have h5:BF ((W::Ws).map opB)=blk (opB W).length+BF (Ws.map opB):=by simp[BF]
  rw[h5];omega
theorem Dsk.num2(d:Dsk N V R gen root M S Ws L)(hR:R.Ok):Ws.flatten.length<=28800/\Ws.length<=180:=by
 have h1:=Acv (Ws:=Ws) fun W hW=>(d.few W hW).2;have h2:=hR.t;have h3:=Kw R.L;rw[d.z]at h2;rw[d.ws]at h2 h3;rw[qai]at h3;omega
theorem Root.same{R1 R2:Nat->Option (Bool × List It)}(h:Root R1 root M S)(he:∀x∈S,R2 x=R1 x):Root R2 root M S:=h.frame he
theorem Dsk.congr(d:Dsk N V R gen root M S Ws L)(h0:∀q,q<2->V' q=V q)(hS:∀y∈S,V' (362+y)=V (362+y)):Dsk N V' R gen root M S Ws L :=
 ⟨d.n,d.z,by rw[h0 _ (qbm _ (by decide))];exact d.r1,by rw[h0 _ (qbm _ (by decide))];exact d.rl,by rw[h0 _ (qbm _ (by decide))];exact d.r0,d.tr.frame fun y hy=>by unfold RV;rw[hS y hy],d.nd,d.low,d.half,d.rise,d.ok,d.mx,d.ws,d.few,d.l,d.room⟩
theorem OE{α:Type}{k:Byt}{v:α}:∀{m:List (Byt × α)},k∈m.map (·.1)->(JC m k v).map (·.1)=m.map (·.1)
 | [],h=>by cases h
 |p::m,h=>by
  unfold JC
  by_cases hp:p.1=k
  .rw[if_pos hp];simp[hp]
  .rw[if_neg hp,qaz,qaz,OE]
   rcases qac.1 h with h|h
   .exact absurd h.symm hp
   .exact h
theorem Qp:∀{W:List Wr} {t:List (Byt × Int)},(t.map (·.1)).Nodup->((Ev t W).map (·.1)).Nodup/\(∀k,k∈(Ev t W).map (·.1)↔k∈t.map (·.1)\/∃y∈W,y.k=k)/\(Ev t W).length<=t.length+W.length
 | [],t,h=>⟨h,fun k=>by simp[Ev],by simp[Ev]⟩
 |y::W,t,h=>by
  have hk:∀k,k∈(JV t y.k).map (·.1)↔k∈t.map (·.1)\/y.k=k:=fun k=>by
   unfold JV
   by_cases hy:y.k∈t.map (·.1)
   .rw[OE hy];exact⟨.inl,fun h5=>h5.elim id fun h5=>h5 ▸ hy⟩
   .rw[FT (by rw[<-qdf,FW];simpa using hy)];simp[eq_comm]
  have hn:((JV t y.k).map (·.1)).Nodup:=by
   unfold JV
   by_cases hy:y.k∈t.map (·.1)
   .rw[OE hy];exact h
   .rw[FT (by rw[<-qdf,FW];simpa using hy),qay,qdm];refine⟨h,by simp,fun a ha c hc=>?_⟩;simp only[qaz,qbo,qaa]at hc;rintro rfl;exact hy (hc ▸ ha)
  have hl:(JV t y.k).length<=t.length+1:=by
   unfold JV
   by_cases hy:y.k∈t.map (·.1)
   .have:=qab List.length (OE (v:=(BJ t y.k).getD 0+1) hy);rw[qai,qai]at this;omega
   .rw[FT (by rw[<-qdf,FW];simpa using hy)];simp
  obtain⟨i1,i2,i3⟩:=Qp (W:=W) hn;refine⟨i1,fun k=>?_,?_⟩
  .show k∈(Ev (JV t y.k) W).map (·.1)↔_;rw[i2,hk];simp only[qac,exists_eq_or_imp];exact or_assoc
  .show(Ev (JV t y.k) W).length<=_;rw[qav];omega
structure Loo(N:Nat)(V:Nat->Byt)(FP:Nat->Prop)(D:Dev):Prop where
 len:D.B.length=N
 get:∀q,q<N->¬FP q->D.B[q]?=some (V q,[])
theorem Loo.on{FP:Nat->Prop}{D:Dev}(h:Loo N V FP D)(ho:D.on=false)(picks:List Int):(onD D picks).on=true/\(onD D picks).left = -1/\∃V',Pend (onD D picks) N V' (fun _=>[])/\∀q,q<N->¬FP q->V' q=V q:=by
 have hd:onD D picks=⟨En D.B picks,-1,true⟩:=by unfold onD;rw[ho];rfl
 rw[hd];refine⟨rfl,rfl,fun q=>((En D.B picks).getD q (zeros,[])).1,⟨(GN _ _).trans h.len,fun q hq=>?_⟩,fun q hq hn=>?_⟩
 .obtain⟨y,hy⟩:=AP (l:=En D.B picks) (i:=q) (h:=by rw[GN,h.len];exact hq);have h2:=(Pe (qad hy)).1;show(En D.B picks)[q]?=_;rw[qa9,hy];obtain⟨y1,y2⟩:=y;obtain rfl:y2=[]:=h2;rfl
 .obtain⟨y,hy,hy2⟩:=JY (picks:=picks) (h.get q hq hn);show((En D.B picks).getD q (zeros,[])).1=V q;rw[qa9,hy];exact hy2.resolve_right fun h=>by cases h
end
open Go.GV Go.Proofs.Tryz Go.Maps Go.Sort Go.Shelf Go.RowKit
attribute [local irreducible] AA W Wq Wt
theorem Afd(mb:Option Nat)(w:World):Ret prog 119 #[.map mb] w fun v w'=>v=.func (.func 143) #[] #[.pointer (some ⟨w.heap.size,0,none⟩)]/\w'=w.alloc (Bl 92 [.map mb]):=by
 have h:=AnyZ.keys_in keysT Fence.wide 5 trivial rfl mb w;exact CallsIn.mono (callsIn_wide.2 (callsIn_wide.1 h)) fun e w' ⟨h1,h2⟩=>⟨_,h1,rfl,h2⟩
theorem Y3{w:World}{bx bm:Nat}{m:List (Byt × Value)}{o:Obj}(hx:w.heap[bx]?=some (Bl 92 [.map (some bm)]))(hb:w.heap[bm]?=some o)(hM:Ek str m o)(nd:(m.map (·.1)).Nodup)(hsz:m.length<=100000)(hr:∀p∈m,p.1.length<=32) :
  Ret prog 65 #[.func (.func 143) #[] #[.pointer (some ⟨bx,0,none⟩)]] w fun v w'=>∃a c,v=.slice a (CF m).length c/\Rd w' a 1 (fun x:Byt=>[str x]) (CF m)/\(CF m).length<=c/\(CF m=[]\/w.heap.size<=(adr a).block)/\Ext [] w w':=by
 obtain⟨D0,hown,hperm,hsize⟩:=PP (P:=prog) FA hb hM nd (qaw hsz (by decide)) (fun p hp=>qaw (hr p hp) (by decide))
 have hseq:SeqGives Fence.wide 2 prog 143 #[.pointer (some ⟨bx,0,none⟩)] encStr (fun ss=>ss.Perm (strKeys D0)) (Maps.size D0) w :=
  AnyZ.keys_gives (ρ:=keysT_ren) { keysT with } Fence.wide _ trivial rfl (by omega) bx bm m.length D0 w (Al hx) (by rw[Aq hx];rfl) hown
 have cS:=AnyZ.sorted_in sortedS Fence.wide 5 trivial trivial trivial trivial rfl (by omega) (sortsS _) (enters_of func103 (by kernel_rfl) rfl) 143 #[.pointer (some ⟨bx,0,none⟩)] trivial (enters_of func143 (by kernel_rfl) rfl) _ (Maps.size D0) (by rw[hsize];exact qaw hsz (by decide)) (by rw[hsize];omega) _ hseq;refine CallsIn.mono (callsIn_wide.2 (callsIn_wide.1 cS)) ?_;rintro e w' ⟨v,ss,rfl,hS,hrow,_,hbel⟩;have he:ss.mergeSort (fun x y=>decide (x<=y))=CF m:=mergeSort_of_perm (hS.trans hperm);rw[he]at hrow;obtain⟨a,c,rfl,R,hc,hnew⟩:=PQ (by rw[<-he,qcu]) hrow;exact⟨_,rfl,a,c,rfl,R,hc,hnew,Kl hbel⟩
structure Gk(w0 w:World)(p:Sp)(A:Dev)(P:List Nat)(F:Mut)(J:Jr)(gen:Nat)(root n:Int)(l:List (Byt × Sv))(o1 o2:Obj):Prop where
 T:Tx w p.bt p.bd p.bp p.ba 362 A P F []
 O:Fo w (TM F p.ba p.bt p.bp []) [(p.bs,Bl CU (CN (ptr p.bd) (ptr p.bj) (ptr p.bp) (ptr p.bt) gen root p.m1 p.m2 n false)),(p.m1,o1),(p.m2,o2),(p.bj,Bl TJ (JB p.bd J))]
 K:KvAt w (Mv F p) l o1
 x0:Ext [] w0 w
 ge:∀y,Ms F p y->w0.heap.size<=y
section
variable {w0 w w':World}{p:Sp}{A A':Dev}{P P':List Nat}{F F':Mut}{J:Jr}{gen:Nat}{root n:Int}{l:List (Byt × Sv)}{o1 o2:Obj}
theorem Vt(x:Nat)(h:TM F p.ba p.bt p.bp [] x):Ms F p x:=by
 rcases h with h|rfl|rfl|rfl|h
 .exact .inl (.inl h)
 .exact .inr (by simp[Sp.own])
 .exact .inr (by simp[Sp.own])
 .exact .inr (by simp[Sp.own])
 .cases h
theorem Kd(t:Grown (TM F p.ba p.bt p.bp []) (TM F' p.ba p.bt p.bp []) w w'):Grown (Ms F p) (Ms F' p) w w':=by
 obtain⟨⟨S,hS,hx⟩,g⟩:=t;refine⟨⟨S,fun y hy=>Vt y (hS y hy),hx⟩,fun y hy=>?_⟩
 rcases hy with(hy|rfl)|hy
 .exact(g y (.inl hy)).imp (Vt y) id
 .exact .inl (.inl (.inr U))
 .exact .inl (.inr hy)
theorem Gk.call(g:Gk w0 w p A P F J gen root n l o1 o2)(hx:Ext [] w w'):Gk w0 w' p A P F J gen root n l o1 o2 :=
 ⟨g.T.call hx,(g.O.call (Grown.call hx)).1,⟨g.K.m,fun q hq=>⟨(g.K.ok q hq).1.call hx,(g.K.ok q hq).2⟩,g.K.few⟩,g.x0.trans hx,g.ge⟩
theorem Akb{M M':Mut}(h:∀y,M y->w0.heap.size<=y)(hs:w0.heap.size<=w.heap.size)(t:Grown M M' w w'):∀y,M' y->w0.heap.size<=y:=fun y hy=>(t.2 y hy).elim (h y) fun h=>by omega
theorem Gk.tree(g:Gk w0 w p A P F J gen root n l o1 o2)(T:Tx w' p.bt p.bd p.bp p.ba 362 A' P' F' [])(t:Grown (TM F p.ba p.bt p.bp []) (TM F' p.ba p.bt p.bp []) w w'):Gk w0 w' p A' P' F' J gen root n l o1 o2:=by
 have t2:=Kd (p:=p) t;refine⟨T,(g.O.call t).1,⟨g.K.m,fun q hq=>⟨(g.K.ok q hq).1.turn (Yc t2),(g.K.ok q hq).2⟩,g.K.few⟩,?_,Akb g.ge g.x0.size t2⟩;obtain⟨⟨S,hS,hx⟩,-⟩:=t2;exact g.x0.then hx fun y hy => .inr (g.ge y (hS y hy))
theorem Gk.mlt(g:Gk w0 w p A P F J gen root n l o1 o2):∀y,Ms F p y->y<w.heap.size:=fun y hy=>by
 have h1:=fun i b o hi=>Al (Fo.at g.O (k:=i) (b:=b) (o:=o) hi)
 rcases hy with(hy|rfl)|hy
 .exact g.T.lt y hy
 .exact h1 3 _ _ U
 .simp only[Sp.own,qac,qam,or_false]at hy
  rcases hy with rfl|rfl|rfl|rfl|rfl|rfl
  .exact h1 0 _ _ U
  .exact h1 1 _ _ U
  .exact h1 2 _ _ U
  .exact Al g.T.pg.hd
  .exact Al g.T.pg.st
  .exact Al g.T.tr
theorem Gk.set{root':Int}(g:Gk w0 w p A P F J gen root n l o1 o2)(H:Ctx w [p.bs] w' [(p.bs,Bl CU (CN (ptr p.bd) (ptr p.bj) (ptr p.bp) (ptr p.bt) gen root' p.m1 p.m2 n false))]):Gk w0 w' p A P F J gen root' n l o1 o2:=by
 have hb:∀y∈[p.bs],Ms F p y:=fun y hy => .inr (by rw[qaa.1 hy];simp[Sp.own]);have hoff:¬TM F p.ba p.bt p.bp [] p.bs:=g.O.off _ (qaf ..)
 have hT:Tx w' p.bt p.bd p.bp p.ba 362 A P F []:=by
  have h:=hoff;unfold TM at h;simp only[not_or]at h;obtain⟨h1,h2,h3,h4,-⟩:=h;refine⟨H.ext.to g.T.tr (by simp;exact fun e=>h3 e.symm),g.T.pg.keep H.ext (by simp;exact fun e=>h4 e.symm) (by simp;exact fun e=>h2 e.symm),g.T.dev.keep H.ext (fun y hy=>by rw[qaa.1 hy];exact h1),(fun x hx=>by cases hx),List.Pairwise.nil,(fun x hx=>by cases hx),g.T.nbt,g.T.nbp,g.T.nba,fun x hx=>qau (g.T.lt x hx) H.ext.size⟩
 refine⟨hT,My g.O H.ext U fun y hy=>?_,⟨g.K.m,fun q hq=>⟨⟨Rdx.read (g.K.ok q hq).1 H.ext (fun y hy => .inl (hb y hy)),(g.K.ok q hq).1.2⟩,(g.K.ok q hq).2⟩,g.K.few⟩,g.x0.then H.ext fun y hy => .inr (g.ge y (hb y hy)),g.ge⟩;simp only[qac,qam,or_false]at hy
 rcases hy with rfl|rfl|rfl|rfl
 .exact .inl (H.get at0)
 .exact .inr ⟨by simp,CV g.O (k:=1) rfl [0] rfl⟩
 .exact .inr ⟨by simp,CV g.O (k:=2) rfl [0] rfl⟩
 .exact .inr ⟨by simp,CV g.O (k:=3) rfl [0] rfl⟩
theorem PA{root':Int}(H:Ctx w [p.bs] w' [(p.bs,Bl CU (CN (ptr p.bd) (ptr p.bj) (ptr p.bp) (ptr p.bt) gen root' p.m1 p.m2 n false))]):Grown (Ms F p) (Ms F p) w w' :=
 ⟨Turn.of H.ext fun y hy => .inr (by rw[qaa.1 hy];simp[Sp.own]),fun _ h => .inl h⟩
theorem Apw{a:Option Addr}{b:Byt}(h:Rdx w (Ms F p) a b):Rdx w (TM F p.ba p.bt p.bp []) a b:=⟨h.1,h.2.imp id fun h1 h2=>h1 (Vt _ h2)⟩
theorem Akc{M:List Pr}{t:List (Byt × Int)}(g:Gk w0 w p A P F J gen root n l o1 o2)(hM:Ek str (mi t) o2)(hnd:(t.map (·.1)).Nodup)(htn:t.length<=100000)(htk:∀q∈t,1<=q.1.length/\q.1.length<=32)(TT:TreeAt 362 A P root M)(hon:A.on=true)(hl:362+P.length<=A.B.length)(hP:P.length<=2000)(hfew:Few A 0) :
  Ret prog 89 #[ptr p.bs] w fun v w'=>v=.int .i64 (Dn (BJ (EE l)) (CF (mi t)) root A P).1/\∃F',Gk w0 w' p (Dn (BJ (EE l)) (CF (mi t)) root A P).2.2.1 (Dn (BJ (EE l)) (CF (mi t)) root A P).2.2.2 F' J gen (if(Dn (BJ (EE l)) (CF (mi t)) root A P).1=0 then(Dn (BJ (EE l)) (CF (mi t)) root A P).2.1 else root) n l o1 o2/\Grown (Ms F p) (Ms F' p) w w':=by
 obtain⟨wI,rfl⟩:=qD w;obtain⟨f,hf⟩:=qD (BJ (EE l));obtain⟨ts,hts⟩:=qD (CF (mi t));rw[<-hf,<-hts]
 have htm:∀k∈ts,1<=k.length/\k.length<=32:=fun k hk=>by
  rw[hts]at hk;have h1:=(qce _ _).mem_iff.1 hk;simp only[qbi,qah,Function.comp]at h1;obtain⟨q,hq,rfl⟩:=h1;exact htk q hq
 have htl:ts.length<=100000:=by rw[hts,Mu,qai];exact htn
 have hkf:=g.K.fewK;have hfv:∀k v,f k=some v->v.length<=128:=fun k v hv=>(hkf (k,v) (EV (by rw[<-hf];exact hv))).2;have H:=Ctx.start wI [];have hs:=Fo.at g.O (k:=0) rfl;have hm2:=Fo.at g.O (k:=2) rfl;refine A8 (fn:=f89) func89 U [ptr p.bs] U (Ad (Ac U (qA (Ad (An U (A7 U (Af Jw U (Bd DV U ((by rw[Aq hs];rfl)) ?_))))))));refine Ac U (qA (Ar (Ad (An U (A7 U (Af Q6 U (Bd Aa7 U ((by rw[Aq hs];rfl)) ?_)))))));refine Aj qB (Afd (some p.m2) _) U ?_;rintro v w ⟨rfl,rfl⟩;replace H:=H.alloc (Bl 92 [.map (some p.m2)]);refine Aj qB (Y3 (H.get at0) (H.ext.to hm2 (by simp)) hM (by simpa[qbi,qcr]using hnd) (by simpa using htn) (fun q hq=>by obtain⟨y,hy,rfl⟩:=qah.1 hq;exact(htk y hy).2)) U ?_;rw[<-hts];rintro v w ⟨a18,c18,rfl,R18,hc18,hn18,hx18⟩;have hsz18:=H.size;replace H:=H.call hx18
 refine AO RX U (Ae U (qA (AB ?_)));obtain⟨wA,hwA⟩:=qD w;rw[<-hwA]at H R18 |-;have gA:=g.call H.ext;have hxA:=H.ext;have hMlt:=g.mlt
 have X18:∀{z:World} {F1:Mut},Grown (Ms F p) (Ms F1 p) wA z->Rd z a18 1 (fun x:Byt=>[str x]) ts:=fun{z F1} hz=>by
  rcases hn18 with h|h
  .rw[h];exact Rd.nil
  .exact(Rd.turnM R18 (.inr fun h5=>by have:=hMlt _ h5;omega) (by decide) (fun _ _=>rfl) hz).1
 clear H;refine B6 4611686018426339820 (α:=Nat × Int × Dev × List Nat × Mut × List Pr) (fun s=>[(20,.int .i64 (s.1:Int)),(3,.int .i64 s.2.1)]) (fun s w'=>s.1<=ts.length/\Gk w0 w' p s.2.2.1 s.2.2.2.1 s.2.2.2.2.1 J gen root n l o1 o2/\Grown (Ms F p) (Ms s.2.2.2.2.1 p) wA w'/\Dn f (ts.drop s.1) s.2.1 s.2.2.1 s.2.2.2.1=Dn f ts root A P/\TreeAt 362 s.2.2.1 s.2.2.2.1 s.2.1 s.2.2.2.2.2/\s.2.2.1.on=true/\s.2.2.1.B.length=A.B.length/\s.2.2.2.1.length=P.length/\Few s.2.2.1 (40*s.1)) (fun s=>ts.length - s.1) (0,root,A,P,F,M) U ?_ ?_ ?_
 .exact⟨rfl,rfl,trivial⟩
 .exact⟨qak _,gA,Grown.call (Ext.refl _ _),rfl,TT,hon,rfl,rfl,hfew⟩
 .rintro⟨i,r,A1,P1,F1,M1⟩ j w1 ⟨hi,g1,G1,hst,T1,hon1,hB1,hP1,Je⟩;dsimp only at hi g1 G1 hst T1 hon1 hB1 hP1 Je;dsimp only;have H:=Ctx.start w1 [];refine Ad (Bj U U (qA (Ar (Av _ U ?_ ?_))))
  .intro h1;replace h1:=AR h1;obtain⟨k,hk⟩:=AP (l:=ts) (i:=i);obtain⟨hk1,hk2⟩:=htm k (qad hk)
   have hdr:ts.drop i=k::ts.drop (i+1):=by
    obtain⟨hlt,he⟩:=qap.1 hk;rw[qdz hlt,he]
   rw[hdr]at hst;have hres:=Yz (f:=f) (k:=k) (hfv k) ⟨hk1,hk2⟩ T1 hon1 (by rw[hB1,hP1];exact hl) (by rw[hP1];exact hP) Je;obtain⟨S1,td1,-,-⟩:=T1.told hon1 (by rw[hB1,hP1];exact hl) (by rw[hP1];exact hP);have hr1:=td1.rlo;have hr2:=td1.rhi;have hs1:=Fo.at g1.O (k:=0) rfl;have hm1:=Fo.at g1.O (k:=1) rfl;have hmx:40*i<=800000000:=by omega
   have hcons:Dn f (k::ts.drop (i+1)) r A1 P1=if(Jm f k r A1 P1).1=0 then Dn f (ts.drop (i+1)) (Jm f k r A1 P1).2.1 (Jm f k r A1 P1).2.2.1 (Jm f k r A1 P1).2.2.2 else Jm f k r A1 P1:=rfl;rw[hcons]at hst;obtain⟨e',r',A',P',hone⟩:∃e' r' A' P',Jm f k r A1 P1=(e',r',A',P'):=⟨_,_,_,_,rfl⟩;rw[hone]at hst hres;dsimp only at hst hres
   have h99:e'≠99:=by rcases hres.out with h|h|h <;> omega
   have hlt1:=g1.mlt
   rcases hq:BJ l k with _|s
   .skip
    have hfk:f k=none:=by rw[hf,LH,hq];rfl
    have hc:(Hi 362 A1 P1 r k).1=e'/\(Hi 362 A1 P1 r k).2.1=r'/\(Hi 362 A1 P1 r k).2.2.2.1=A'/\(Hi 362 A1 P1 r k).2.2.2.2=P':=by
     unfold Jm at hone;rw[hfk]at hone
     simpa only[qdb]using hone
    refine Ap (Aa (Ar (AB (Ad (AY (X18 G1) RX sz_9 U U (hn:=by rfl) ?_)))));refine Bd ag_9 U (((X18 G1).one (f:=str) hk)) (IM U U (qA (Ad (Ac U (qA (Ar (Ad (An U (A7 U (Af HH U ?_))))))))));refine Bd MJ U ((by rw[Aq (H.ext.to hs1 (by simp))];rfl)) ?_;refine Ce U (FU (m:=mv l) (n:=k) U NK (Fy FA) Sj U U (Ctx.start1 (H.ext.to hm1 (by simp))) at0 g1.K.m ?_);rw[Fh (f:=Sv.enc),hq];refine AW U (Ai U U (Ai U U (Ak U (Am U (qA (Ad (AF U (qA (Bz U ?_)))))))));refine Au (An U (A7 U (Af Kq U (Bd JL U ((by rw[Aq (H.ext.to hs1 (by simp))];rfl)) ?_))));refine Ae U (Ce U (KU (l:=k) U FA AX Hm U ?_));rintro b53 c53 w53 hb53 hc53 hx53 R53;have hsz53:=H.size;replace H:=H.call hx53
    refine Aj qB (Ab6 (by decide) (g1.T.call H.ext) r (some ⟨b53,0,none⟩) c53 k.length k ⟨R53,.inr fun h=>by have:=hlt1 _ (Vt _ h);dsimp only[adr]at this;omega⟩ U Je hmx (by rw[hc.1];exact h99)) U ?_;rw[hc.1,hc.2.1,hc.2.2.1,hc.2.2.2];rintro v w9 ⟨F',rfl,T9,t9⟩;have g2:=(g1.call H.ext).tree T9 t9;have G2:Grown (Ms F1 p) (Ms F' p) w1 w9:=Grown.trans (Grown.call H.ext) (Kd t9);clear H;refine AW U (Ai U U (Ai U U (Ai U U (Ac U (Ac U (qA (Ad (Ae U (Be U U ?_)))))))));refine qA (Av _ U ?_ ?_)
    .intro h3;replace h3:=Bv h3;rw[if_neg h3]at hst;refine Ad (Ae U (Ac U (qA (A6 (AK (Ao (Ao (AK (Ao (AG (v:=(.int _ _)) U U U ?_))))))))));rw[<-hst];dsimp only;rw[if_neg h3];exact⟨rfl,F',g2,Grown.trans (Grown.trans (Grown.call hxA) G1) G2⟩
    .intro h3;replace h3:=Bw h3;rw[if_pos h3]at hst;obtain⟨-,hon2,T2⟩:=hres.out.resolve_right (fun h=>h.elim (fun h=>by have:=h.1;omega) fun h=>by have:=h.1;omega);refine Ap (AE (Aa (Au (Ay U U ?_))));refine Ae U (qA ?_);exact⟨(i+1,r',A',P',F',MQ f M1 k),rfl,⟨rfl,rfl,trivial⟩,⟨by dsimp only;omega,g2,Grown.trans G1 G2,hst,T2,hon2,hres.aft.blen.trans hB1,hres.aft.len.trans hP1,hres.few⟩,by dsimp only;omega⟩
   .skip
    have hfk:f k=some s.v:=by rw[hf,LH,hq];rfl
    have hsf:=g1.K.few _ (EV hq);have hsk:=g1.K.ok _ (EV hq);dsimp only at hsf hsk;have hsk1:=(show Rdx _ (Ms _ p) s.a s.v from⟨hsk.1.1,hsk.1.2.imp id fun h h5=>h (.inl h5)⟩)
    have hc:JR 362 A1 P1 r k s.v=(e',r',A',P'):=by
     unfold Jm at hone;rw[hfk]at hone;exact hone
    refine Ap (Aa (Ar (AB (Ad (AY (X18 G1) RX sz_9 U U (hn:=by rfl) ?_)))));refine Bd ag_9 U (((X18 G1).one (f:=str) hk)) (IM U U (qA (Ad (Ac U (qA (Ar (Ad (An U (A7 U (Af HH U ?_))))))))));refine Bd MJ U ((by rw[Aq (H.ext.to hs1 (by simp))];rfl)) ?_;refine Ce U (FU (m:=mv l) (n:=k) U NK (Fy FA) Sj U U (Ctx.start1 (H.ext.to hm1 (by simp))) at0 g1.K.m ?_);rw[Fh (f:=Sv.enc),hq];refine AW U (Ai U U (Ai U U (Ak U (Am U (qA (Ad (AF U (qA (EI U ?_)))))))));refine Au (An U (A7 U (Af Kq U (Bd JL U ((by rw[Aq (H.ext.to hs1 (by simp))];rfl)) ?_))));refine Ae U (Ce U (KU (l:=k) U FA AX Hm U ?_));rintro b53 c53 w53 hb53 hc53 hx53 R53;have hsz53:=H.size;replace H:=H.call hx53
    refine Ah U (Aj qB (Ab5 (by decide) (g1.T.call H.ext) r (some ⟨b53,0,none⟩) s.a c53 s.c k.length s.v.length k s.v ⟨R53,.inr fun h=>by have:=hlt1 _ (Vt _ h);dsimp only[adr]at this;omega⟩ (Apw (hsk1.call H.ext)) U U hc53 hsk.2 Je hmx (by rw[hc];exact h99)) U ?_);rw[hc];rintro v w9 ⟨F',rfl,T9,t9⟩;dsimp only at T9;have g2:=(g1.call H.ext).tree T9 t9;have G2:Grown (Ms F1 p) (Ms F' p) w1 w9:=Grown.trans (Grown.call H.ext) (Kd t9);clear H;refine AW U (Ai U U (Ai U U (Ac U (Ac U (qA (Ad (Ae U (Be U U (qA ?_)))))))));refine Av _ U ?_ ?_
    .intro h3;replace h3:=Bv h3;rw[if_neg h3]at hst;refine Ad (Ae U (Ac U (qA (A6 (AK (Ao (Ao (AK (Ao (AG (v:=(.int _ _)) U U U ?_))))))))));rw[<-hst];dsimp only;rw[if_neg h3];exact⟨rfl,F',g2,Grown.trans (Grown.trans (Grown.call hxA) G1) G2⟩
    .intro h3;replace h3:=Bw h3;rw[if_pos h3]at hst;obtain⟨-,hon2,T2⟩:=hres.out.resolve_right (fun h=>h.elim (fun h=>by have:=h.1;omega) fun h=>by have:=h.1;omega);refine Ap (AE (Aa (Au (Ay U U ?_))));refine Ae U (qA ?_);exact⟨(i+1,r',A',P',F',MQ f M1 k),rfl,⟨rfl,rfl,trivial⟩,⟨by dsimp only;omega,g2,Grown.trans G1 G2,hst,T2,hon2,hres.aft.blen.trans hB1,hres.aft.len.trans hP1,hres.few⟩,by dsimp only;omega⟩
  .intro h1;replace h1:=AU h1;obtain rfl:i=ts.length:=by omega
   rw[qb8 (qae _)]at hst;replace hst:((0,r,A1,P1):Int × Int × Dev × List Nat)=Dn f ts root A P:=hst;have hs1:=Fo.at g1.O (k:=0) rfl;have H:=Ctx.start1 hs1;refine B2 (Aw (Aw (AZ (Aa (Ad (An U (Ae U (A7 U (Af Jw U (Bf (.int _ _) HN U U U H at0 (by(simp;done)) ?_))))))))));rintro w H;refine qA (Ad (Ac U (qA (A6 (AG (v:=(.int _ _)) U U U ?_)))));rw[<-hst];dsimp only;rw[if_pos rfl];exact⟨rfl,F1,g1.set H,Grown.trans (Grown.trans (Grown.call hxA) G1) (PA H)⟩
end
theorem OS.setN{a:Option Addr}{n c s:Nat}{full l:List Value}(O:OS a n c s full l)(k:Nat)(v:Value):OS a n c s (full.set k v) (l.set k v) :=
 ⟨O.zero,O.none',by rw[qch];exact O.len,O.le,by rw[List.take_set,O.pre]⟩
theorem Akd(inner:Bool)(ps:List SN):(ps.flatMap (Ln inner)).length=ps.length*2:=by
 induction ps with
 |nil=>rfl
 |cons p ps ih=>rw[qcc,qan,ih,qav];show 2+_=_;omega
theorem Afe(inner:Bool)(qs:List SN)(q:SN)(v:Value)(p:SN)(hv:v=.slice p.1 p.2.1.length p.2.2):((qs++[q]).flatMap (Ln inner)).set (qs.length*2+1) v=(qs++[p]).flatMap (Ln inner):=by
 have h:=Akd inner qs;rw[qbc,qbc,qff _ _ (by omega),h,show qs.length*2+1 - qs.length*2=1 by omega,hv];rfl
theorem Amq{α:Type}{l:List α}(h:l≠[]):∃qs q,l=qs++[q]:=⟨l.dropLast,l.getLast h,(qfi h).symm⟩
theorem MY.sub{M:Mut}{Y Y2:List (Nat × Obj)}(h:∀y∈Y2,y∈Y):∀x,MY M Y2 x->MY M Y x:=fun _ hx=>hx.imp id fun hx=>by
 obtain⟨y,hy,rfl⟩:=qah.1 hx;exact qah.2 ⟨y,h y hy,rfl⟩
theorem Fo.sub{w:World}{M:Mut}{Y Y2:List (Nat × Obj)}(O:Fo w M Y)(h:∀y∈Y2,y∈Y)(nd:Y2.Pairwise fun x y=>x.1≠y.1):Fo w M Y2:=⟨fun y hy=>O.blk y (h y hy),nd,fun y hy=>O.off y (h y hy)⟩
theorem Its.mine{w:World}{M:Mut}{Y:List (Nat × Obj)}(O:Fo w M Y){pa:Option Addr}{pc:Nat}{pf:List Value}{pm:List Im}(OA:OS pa pm.length pc 3 pf (pm.flatMap Im.enc))(hb:∀x∈ent pa 185 pf,x∈Y)(hm:∀m∈pm,m.Ok w M):Its w M pa pm.length pc (pm.map (·.it)):=by
 refine⟨⟨pm,OS.rd OA (fun y hy=>O.blk y (hb y hy)) (fun _ _=>rfl) (by decide),?_,rfl,hm⟩,by simp,OA.le⟩
 cases ha:pa with
 |none=>exact .inl (qa4 (by have h8:=OA.le;have h9:=OA.none' ha;omega))
 |some q =>
  subst ha;exact .inr fun h=>O.off (q.block,_) (hb _ (qaa.2 rfl)) (by obtain⟨qb,qo,qs⟩:=q;exact h)
theorem Its.push{w:World}{M:Mut}{Y:List (Nat × Obj)}{pa:Option Addr}{pc:Nat}{pf:List Value}{pm:List Im}(O:Fo w M (Y++ent pa 185 pf))(OA:OS pa pm.length pc 3 pf (pm.flatMap Im.enc))(hm:∀m∈pm,m.Ok w (MY M (Y++ent pa 185 pf))) :
  Fo w M Y/\Its w (MY M Y) pa pm.length pc (pm.map (·.it)):=by
 have hnd:=qca.1 O.nd;refine⟨O.sub (fun y hy=>qa5 _ hy) hnd.1,⟨⟨pm,OS.rd OA (fun y hy=>O.blk y (qax _ hy)) (fun _ _=>rfl) (by decide),?_,rfl,fun m h=>(hm m h).weak (MY.sub fun y hy=>qa5 _ hy)⟩,by simp,OA.le⟩⟩
 cases ha:pa with
 |none=>exact .inl (qa4 (by have h8:=OA.le;have h9:=OA.none' ha;omega))
 |some q =>
  subst ha;refine .inr fun h=>?_;have hq:(adr (some q)).block=q.block:=by obtain⟨qb,qo,qs⟩:=q;rfl
  rw[hq]at h
  rcases h with h|h
  .exact O.off (q.block,_) (qax _ (qaa.2 U)) h
  .obtain⟨y,hy,he⟩:=qah.1 h;exact hnd.2.2 y hy (q.block,_) (qaa.2 U) he
theorem Ctx.nilE{w0 w:World}{S:List Nat}{L:List (Nat × Obj)}(t:TypeId)(H:Ctx w0 S w L):Ctx w0 S w (L++ent none t []):=by simpa[ent]using H
theorem FX(inner:Bool)(a:Option Addr)(n c:Nat):∀v∈[Value.bool inner,.slice a n c],Bh v=true:=fun v hv=>by
 simp only[qac,qam,or_false]at hv
 rcases hv with rfl|rfl <;> rfl
theorem Aff(i:Bool)(l:List (List It))(q part:List It):Aac i (l++[q]) part=if i=true/\part.length=1 then l++[q.take (q.length - 1)]++[q.drop (q.length - 1)++part]else l++[q]++[part]:=by
 unfold Aac Tm;have h1:(l++[q])≠[]:=by simp
 have h2:(l++[q]).getLastD []=q:=by simp
 have h3:(l++[q]).take ((l++[q]).length - 1)=l:=by simp
 rw[h2,h3]
 by_cases h:i=true/\part.length=1
 .rw[if_pos ⟨h.1,h.2,h1⟩,if_pos h]
 .rw[if_neg fun h5=>h ⟨h5.1,h5.2.1⟩,if_neg h]
theorem Kz(i:Bool):∀(M part:List It) (l:List (List It)),(Fi i M part l).1.flatten++(Fi i M part l).2=l.flatten++(part++M)
 | [],part,l=>by simp[Fi]
 |x::M,part,l=>by
  unfold Fi
  split
  .rw[Kz i M];simp
  .rw[Kz i M];simp
structure FS where
 i:Nat
 la:Option Addr
 lc:Nat
 lf:List Value
 ps:List SN
 pa:Option Addr
 pc:Nat
 pf:List Value
 pm:List Im
abbrev FY(b1 b3:Nat)(inner:Bool)(a:Option Addr)(n cc:Nat)(s:FS):List (Nat × Obj) :=
 (b3,Bl 183 [.bool inner,.slice s.pa s.pm.length s.pc])::(b1,Bl 183 [.bool inner,.slice a n cc])::(ent s.la 183 s.lf++ent s.pa 185 s.pf)
structure FInv(w0 w:World)(M:Mut)(b1 b3:Nat)(inner:Bool)(a:Option Addr)(n cc:Nat)(L:List It)(s:FS):Prop where
 O:Fo w M (FY b1 b3 inner a n cc s)
 I:Its w (MY M (FY b1 b3 inner a n cc s)) a n cc L
 OL:OS s.la s.ps.length s.lc 2 s.lf (s.ps.flatMap (Ln inner))
 OP:OS s.pa s.pm.length s.pc 3 s.pf (s.pm.flatMap Im.enc)
 pm:∀m∈s.pm,m.Ok w (MY M (FY b1 b3 inner a n cc s))/\m.it∈L
 ps:∀p∈s.ps,Its w (MY M (FY b1 b3 inner a n cc s)) p.1 p.2.1.length p.2.2 p.2.1/\p.2.1≠[]
 eq:Fi inner (L.drop s.i) (s.pm.map (·.it)) (s.ps.map (fun p=>p.2.1))=Fi inner L [] []
 hx:Ext [] w0 w
 yo:∀y∈(FY b1 b3 inner a n cc s).map (·.1),w0.heap.size<=y
 num:s.ps.length+s.pm.length<=s.i
theorem Amr{w:World}{M:Mut}(hM:∀x,M x->x<w.heap.size)(inner:Bool){a:Option Addr}{n c:Nat}{L:List It}(I:Its w M a n c L)(hm:n<=100000)(hsz:∀x∈L,x.key.length<=65535/\x.val.length<=65535)(hs5:∀x∈L,CM inner x<=503) :
  Ret prog 130 #[.agg #[.bool inner,.slice a n c]] w fun v w'=>∃a' n' c',v=.slice a' n' c'/\Nds w' M inner a' n' c' (Dj inner L)/\Ext [] w w':=by
 obtain⟨w0,rfl,H⟩:=qE w;have hnum:=I.num;refine A8 (fn:=f130) func130 U [.agg #[.bool inner,.slice a n c]] U (Ad (Cu [.bool inner,.slice a n c] (.agg _) U U H ?_));rintro b1 w - H;refine Ak U (qA (Ad (Af Dy U (AH Ge U H at0 U (B5 [.bool inner,.slice none 0 0] Hd Co ?_)))));refine Bi Co H ?_;rintro b3 w - H;refine Bo Bg U U U (by exact FX _ _ _ _) H at0 U ?_;rintro w H;refine qA (Ar (Ad (Af Br U (AH BT U H at1 U (AO Bu U (Ae U (qA (AB ?_))))))));have hlt0:∀{z:World},Ext [] w0 z->∀x,M x->x<z.heap.size:=fun{z} hz x h=>qau (hM x h) hz.size;obtain⟨O0,G0⟩:=(Fo.nil (w:=w0) (M:=M)).own hM H
 refine B6 549755797540 (α:=FS) (fun s=>[(14,.int .i64 (s.i:Int)),(2,.slice s.la s.ps.length s.lc)]) (fun s w'=>s.i<=n/\FInv w0 w' M b1 b3 inner a n c L s) (fun s=>n - s.i) ⟨0,none,0,[],[],none,0,[],[]⟩ U ?_ ?_ ?_
 .exact⟨rfl,rfl,trivial⟩
 .exact⟨qak _,⟨O0,(I.weak MY.nil).turn G0,OS.nil,OS.nil,(fun m h=>by cases h),(fun p h=>by cases h),rfl,H.ext,Oj (w0:=w0) (Y:=[]) (fun y h=>by cases h) (qae _) H,qae _⟩⟩
 .rintro⟨i,la,lc,lf,ps,pa,pc,pf,pm⟩ j w ⟨hi,V⟩;dsimp only at hi;dsimp only;have hpn:=V.num;have VOP:=V.OP;have VOL:=V.OL;dsimp only at hpn VOP VOL;refine Ad (Bj U U (qA (Ar (Av _ U ?_ ?_))))
  .intro h1;replace h1:=AR h1;obtain⟨ms,R,-,hl,hok⟩:=V.I.ex;have hml:ms.length=n:=by rw[hnum,<-hl,qai]
   obtain⟨x,hx1⟩:=AP (l:=ms) (i:=i);have hxL:=Im.at hl hx1;have hxm:=qad hxL;have hxs:=hsz x.it hxm;have hx5:=hs5 x.it hxm;have hxo:=hok x (qad hx1);have heq:=V.eq;dsimp only at heq;rw[Ew hxL,Fi]at heq;obtain⟨w3,rfl⟩:=qD w;have H:=V.O.ctx;have hlt3:=hlt0 V.hx;have hyo3:=V.yo;refine Ap (Aa (Ar (AB (Ad (AY R Bu Bn U U ?_)))));refine EN _ Dq Bn U U (R.row hx1 U) (Bi C2 H ?_);rintro b5 w - H;refine Bo Bn U U U (by exact Im.oneE _) H at0 U ?_;rintro w H;refine qA (Ar ?_);obtain⟨w4,rfl⟩:=qD w;obtain⟨O4,G4⟩:=V.O.own hlt3 H;have hx04:Ext [] w0 w4:=V.hx.then H.ext fun x hx => .inr (hyo3 x hx);have hyo4:=Oj hyo3 V.hx.size H;have hlt4:=hlt0 hx04;have hb5:=H.get at0;have hb3:=H.get at1;have hb1:=H.get at2;have hxo4:=hxo.turn G4
   have Ip:Its w4 M pa pm.length pc (pm.map (·.it)):=Its.mine O4 V.OP (fun y hy=>qaj _ (qaj _ (qaj _ (qax _ hy)))) (fun m hm=>((V.pm m hm).1.turn G4).weak MY.le)
   have hszp:∀y∈pm.map (·.it),y.key.length<=65535/\y.val.length<=65535:=fun y hy=>by
    obtain⟨m,hm,rfl⟩:=qah.1 hy;exact hsz _ (V.pm m hm).2
   have htp:=Lm (inner:=inner) hszp;rw[qai]at htp;have hD:=Ext.drew [] w4;have hk3:∀{z:World},Ext [] w4 z->z.heap[b3]?=some (Bl 183 [.bool inner,.slice pa pm.length pc]):=fun{z} h=>by rw[h.block b3 (Al hb3) (by simp)];exact hb3
   have hk1:∀{z:World},Ext [] w4 z->z.heap[b1]?=some (Bl 183 [.bool inner,.slice a n c]):=fun{z} h=>by rw[h.block b1 (Al hb1) (by simp)];exact hb1
   have hk5:∀{z:World},Ext [] w4 z->z.heap[b5]?=some (Bl 185 x.enc):=fun{z} h=>by rw[h.block b5 (Al hb5) (by simp)];exact hb5
   refine BV [([0,2,3],1),([],4),([5],6)] (fun z=>Ext [] w4 z) [] mixed (hD) (AD U U ?_);refine PN _ BQ Bg U U (fun _ hx=>(fun j v hv=>by rw[Aq (hk3 hx),qa2];exact hv)) ?_;refine PN _ BQ Bg U U (fun _ hx=>(fun j v hv=>by rw[Aq (hk1 hx),qa2];exact hv)) ?_;refine PN _ Dq Bn U U (fun _ hx=>(fun j v hv=>by rw[Aq (hk5 hx),qa2];exact hv)) ?_;refine AV ?_
   skip
   refine Aj qB (SH inner (Ip.call hD) (by omega) hszp) U ?_;rintro v w5 ⟨rfl,hx19⟩;have hx5:=hD.trans hx19;refine Ab (Bb (hx5) (AD U U ?_));refine AV (Aj qB (SD inner a n c (hxo4.call hx5)) U ?_);rintro v w6 ⟨rfl,hx22⟩;have hx6:=hx5.trans hx22;refine Ab (Bb (hx6) (AD U U ?_));refine Fl U U (AV (BZ U U (Ab (Bb (hx6) (B4 (Av _ U ?_ ?_))))))
   .intro h2;replace h2:=AR h2;rw[if_pos (by omega)]at heq
    have hpm0:pm.map (·.it)≠[]:=fun h=>by
     rw[h]at h2
     have:Bc inner []=0:=rfl
     omega
    obtain⟨w6,rfl⟩:=qD w;obtain⟨O6,G6⟩:=O4.call (.call0 hx6);have G36:=G4.trans G6;obtain⟨O7,Ipush⟩:=Its.push (Y:=(b5,Bl 185 x.enc)::(b3,Bl 183 [.bool inner,.slice pa pm.length pc])::(b1,Bl 183 [.bool inner,.slice a n c])::ent la 183 lf) O6 V.OP fun m hm=>(V.pm m hm).1.turn G36;have hsub:∀x,MY M ((b5,Bl 185 _)::(b3,Bl 183 [.bool inner,.slice pa pm.length pc])::(b1,Bl 183 [.bool inner,.slice a n c])::ent la 183 lf) x->_:=MY.sub (Y:=((b5,Bl 185 x.enc)::(b3,Bl 183 [.bool inner,.slice pa pm.length pc])::(b1,Bl 183 [.bool inner,.slice a n c])::ent la 183 lf)++ent pa 185 pf) fun y hy=>qa5 _ hy
    have hyo7:∀y∈((b5,Bl 185 x.enc)::(b3,Bl 183 [.bool inner,.slice pa pm.length pc])::(b1,Bl 183 [.bool inner,.slice a n c])::ent la 183 lf).map (·.1),w0.heap.size<=y:=fun y hy=>by
     obtain⟨z,hz,rfl⟩:=qah.1 hy;exact hyo4 _ (qah.2 ⟨z,qa5 (bs:=ent pa 185 pf) hz,rfl⟩)
    have hx06:=hx04.trans hx6;have hlt6:=hlt0 hx06;have H:=O7.ctx;have hb1':=H.get at2;have hb3':=H.get at1;refine IK [([0,1,4,5,6],2),([],3),([7],8)] (fun z=>z.heap[b1]?=some (Bl 183 [.bool inner,.slice a n c])/\z.heap[b3]?=some (Bl 183 [.bool inner,.slice pa pm.length pc])) [8] mixed (⟨hb1',hb3'⟩) ?_;refine AD U U (B9 U (PN _ BQ Bg U U (fun _ hx=>(fun j v hv=>by rw[Aq hx.2,qa2];exact hv)) ?_));refine AC Dy U (BC Ge U (fun _ hx=>Aq hx.1 (0+0)) ?_);refine EP [.bool inner,.slice none 0 0] Hd Co (AV ?_);replace H:=H.drew;refine BI _ (.agg _) ER Bg Co U U U U H ?_;rintro b27 w - H;refine Ab (Bb (⟨H.get at3,H.get at2⟩) (AD U U ?_));refine AV (BL (L:=[_,_,_]) ER ER Bg Zj Co U U U H VOL U (FX _ _ _ _) ?_);rintro a28 c28 f28 w H O28
    refine Ab (Bb (⟨H.get at2,H.get at1⟩) (AD U U ?_));refine IC U U (AV (Bo Bg U U U (by exact FX _ _ _ _) H at1 U ?_));rintro w H;refine Ab (CQ U (B4 (Aa (Au (Af Br U (AH BT U H at1 U (BO Dq Bn U H at0 U (BI _ (.agg _) Bu Bn C2 U U U U H ?_))))))));rintro b35 w - H;refine BL (L:=_::_::_::ent a28 183 f28) (a:=none) (full:=[]) (l:=[]) Bu Bu Bn Kn C2 U U U (Ctx.nilE _ H) OS.nil U (Im.oneE x) ?_;rintro a36 c36 f36 w H O36;refine Af Br U (Bf (.slice _ _ _) CP U U U H at1 (by(simp;done)) ?_);rintro w H;refine Ab (AE (Aa (Au (Ay U U ?_))));refine Ae U (qA ?_);have H8:=H.tail;obtain⟨O8,G8⟩:=O7.own hlt6 H8;have hpl:(ps++[((pa,pm.map (·.it),pc):SN)]).length=ps.length+1:=by simp
    refine⟨⟨i+1,a28,c28,f28,ps++[(pa,pm.map (·.it),pc)],a36,c36,f36,[x]⟩,rfl,⟨rfl,by rw[hpl];rfl,trivial⟩,⟨by dsimp only;omega,?_⟩,by dsimp only;omega⟩;refine⟨O8,((V.I.turn G36).weak hsub).turn G8,?_,O36,fun m hm=>?_,fun p hp=>?_,?_,hx06.then H8.ext fun x hx => .inr (hyo7 x hx),Oj hyo7 hx06.size H8,?_⟩
    .dsimp only;rw[hpl,qbc]
     simpa[Ln]using O28
    .dsimp only at hm |-;rw[qaa.1 hm];exact⟨((hxo.turn G36).weak hsub).turn G8,hxm⟩
    .dsimp only at hp |-
     rcases qat.1 hp with hp|hp
     .exact⟨(((V.ps p hp).1.turn G36).weak hsub).turn G8,(V.ps p hp).2⟩
     .rw[qaa.1 hp];refine⟨?_,hpm0⟩;have:=Ipush.turn G8;dsimp only;rw[qai];exact this
    .dsimp only;rw[<-heq];simp
    .dsimp only;rw[hpl];simp;omega
   .intro h2;replace h2:=AU h2;rw[if_neg (by omega)]at heq;obtain⟨w6,rfl⟩:=qD w;obtain⟨O6,G6⟩:=O4.call (.call0 hx6);have G36:=G4.trans G6;have hx06:=hx04.trans hx6;have hlt6:=hlt0 hx06;have H:=O6.ctx;refine Ap (Aa (Au (Af Br U (AH BT U H at1 U (BO Dq Bn U H at0 U (BI _ (.agg _) Bu Bn C2 U U U U H ?_))))));rintro b35 w - H;refine BL (n:=pm.length) (L:=_::_::_::ent la 183 lf) Bu Bu Bn Kn C2 U U U H VOP U (Im.oneE x) ?_;rintro a36 c36 f36 w H O36;refine Af Br U (Bf (.slice _ _ _) CP U U U H at1 (by(simp;done)) ?_);rintro w H;refine Ab (AE (Aa (Au (Ay U U ?_))));refine Ae U (qA ?_);have H8:=H.tail;obtain⟨O8,G8⟩:=O6.own hlt6 H8;have hql:(pm++[x]).length=pm.length+1:=by simp
    refine⟨⟨i+1,la,lc,lf,ps,a36,c36,f36,pm++[x]⟩,rfl,⟨rfl,rfl,trivial⟩,⟨by dsimp only;omega,?_⟩,by dsimp only;omega⟩
    have hFY:FY b1 b3 inner a n c ⟨i+1,la,lc,lf,ps,a36,c36,f36,pm++[x]⟩=(b3,Bl 183 [.bool inner,.slice a36 (pm.length+1) c36])::(b1,Bl 183 [.bool inner,.slice a n c])::(ent la 183 lf++ent a36 185 f36):=by
     unfold FY;dsimp only;rw[hql]
    have hV:∀Y,Y=FY b1 b3 inner a n c ⟨i+1,la,lc,lf,ps,a36,c36,f36,pm++[x]⟩->Fo w M Y->Its w (MY M Y) a n c L->(∀m∈pm++[x],m.Ok w (MY M Y)/\m.it∈L)->(∀p∈ps,Its w (MY M Y) p.1 p.2.1.length p.2.2 p.2.1/\p.2.1≠[])->(∀y∈Y.map (·.1),w0.heap.size<=y)->FInv w0 w M b1 b3 inner a n c L ⟨i+1,la,lc,lf,ps,a36,c36,f36,pm++[x]⟩:=by
     rintro Y rfl v1 v2 v3 v4 v5;refine⟨v1,v2,V.OL,?_,v3,v4,?_,hx06.then H8.ext fun x hx => .inr (hyo4 x hx),v5,?_⟩
     .dsimp only;rw[hql,qbc]
      simpa using O36
     .dsimp only;rw[<-heq];simp
     .dsimp only;rw[hql];omega
    refine hV _ hFY.symm O8 ((V.I.turn G36).turn G8) (fun m hm=>?_) (fun p hp=>⟨((V.ps p hp).1.turn G36).turn G8,(V.ps p hp).2⟩) (Oj hyo4 hx06.size H8)
    rcases qat.1 hm with hm|hm
    .exact⟨((V.pm m hm).1.turn G36).turn G8,(V.pm m hm).2⟩
    .rw[qaa.1 hm];exact⟨(hxo.turn G36).turn G8,hxm⟩
  .intro h1;replace h1:=AU h1;have heq:=V.eq;dsimp only at heq;rw[qb8 (by omega),Fi]at heq;have hflat:=Kz inner L [] [];rw[<-heq]at hflat;have hfull:Dj inner L=Aac inner (ps.map fun p=>p.2.1) (pm.map (·.it)):=by unfold Dj;rw[<-heq]
   obtain⟨w9,rfl⟩:=qD w;have H:=V.O.ctx;have hlt9:=hlt0 V.hx;have hyo9:=V.yo;refine B2 (Aw (Aw (AZ (Aa (Ar (Ad (Ah U (AO ER U (BD U U ?_)))))))));refine Ac U (qA (Ad (BG (α:=Unit) 18010000462970880 (fun _=>[(53,.bool ((inner && decide (pm.length=1)) && decide (0<ps.length)))]) (fun _ w'=>w9=w') U ?_ ?_)))
   .refine Af Dy U (AH Ge U H at1 U (AF U (AQ 44 U ?_ ?_)))
    .intro h1;refine Af Br U (AH BT U H at0 U (AO Bu U (BA U U (AN U (.bool _) U (AF U (AQ 50 U ?_ ?_))))))
     .intro h2;replace h2:=AR h2;refine Ae U (Ie U U (AN U (.bool _) U (Ab ?_)));exact⟨rfl,(),rfl,⟨qab Value.bool (by rw[qar];simp_all;try omega),trivial⟩,rfl⟩
     .intro h3;replace h3:=AU h3;refine Ag U (Ag U (AM U (.bool _) U (Ab ?_)));exact⟨rfl,(),rfl,⟨qab Value.bool (by rw[qar];simp_all;try omega),trivial⟩,rfl⟩
    .intro h4;refine Ag U (Ag U (Ag U (Ag U (AM U (.bool _) U (AF U (Ag U (Ag U (AM U (.bool _) U (Ab ?_)))))))));exact⟨rfl,(),rfl,⟨qab Value.bool (by rw[qar];simp_all;try omega),trivial⟩,rfl⟩
   rintro - j53 w rfl;refine Av _ U ?_ ?_
   .intro h5;simp only[qao,qaq]at h5;obtain⟨⟨hin,hp1⟩,hps⟩:=h5;obtain⟨qs,q,rfl⟩:=Amq (l:=ps) (fun h=>by rw[h]at hps;exact absurd hps (by simp));have hql:(qs++[q]).length=qs.length+1:=by simp
    rw[show(((qs++[q]).length:Nat):Int) - 1=((qs.length:Nat):Int)by omega];have hq1:(qs++[q])[qs.length]?=some q:=by simp
    obtain⟨Iq,hqne⟩:=V.ps q (qax _ (qaa.2 rfl));obtain⟨r,hr⟩:∃r,q.2.1.length=r+1:=⟨q.2.1.length - 1,by have:=qbv.2 hqne;omega⟩
    have hq5:q.2.1.length<=n:=by
     have h:=qab List.length hflat;simp at h;omega
    obtain⟨bl,hbl⟩:=V.OL.form (by dsimp only;omega);dsimp only at hbl;subst hbl;have hcap:=V.OL.le;have hlfl:=V.OL.len;dsimp only at hcap hlfl;have hqcap:=Iq.le;have hRL:∀{z:World} {S:List Nat} {A B:List (Nat × Obj)} {z0:World},Ctx z0 S z (A++((bl,Bl 183 lf)::B))->Rd z (some ⟨bl,0,none⟩) 2 (Ln inner) (qs++[q]):=fun{z S A B z0} H=>OS.rd V.OL (fun y hy=>H.blk y (qax _ (qac.2 (.inl (qaa.1 hy))))) (fun _ _=>rfl) (by decide);have RL:=hRL (A:=[_,_]) H;refine Ad (Ah U (Ae U (AY RL ER Bg U U (hn:=by rfl) ?_)));refine Af Br U (Bd BT U (RL.fld hq1 U (j:=1) U) ?_);refine AO Bu U (BD U U ?_);rw[show((q.2.1.length:Nat):Int) - 1=(r:Int)by omega];refine Ac U (qA ?_)
    obtain⟨O2,Ip⟩:=Its.push (Y:=(b3,Bl 183 [.bool inner,.slice pa pm.length pc])::(b1,Bl 183 [.bool inner,.slice a n c])::[(bl,Bl 183 lf)]) V.O V.OP fun m hm=>(V.pm m hm).1;have hsub:∀x,MY M ((b3,Bl 183 [.bool inner,.slice pa pm.length pc])::(b1,Bl 183 [.bool inner,.slice a n c])::[(bl,Bl 183 lf)]) x->_:=MY.sub (Y:=((b3,Bl 183 [.bool inner,.slice pa pm.length pc])::(b1,Bl 183 [.bool inner,.slice a n c])::[(bl,Bl 183 lf)])++ent pa 185 pf) fun y hy=>qa5 _ hy
    have hyo2:∀y∈((b3,Bl 183 [.bool inner,.slice pa pm.length pc])::(b1,Bl 183 [.bool inner,.slice a n c])::[(bl,Bl 183 lf)]).map (·.1),w0.heap.size<=y:=fun y hy=>by
     obtain⟨z,hz,rfl⟩:=qah.1 hy;exact hyo9 _ (qah.2 ⟨z,qa5 (bs:=ent pa 185 pf) hz,rfl⟩)
    have Iq2:=(Iq.weak hsub).drop (k:=r) (by omega);have Iq3:=(Iq.weak hsub).take (k:=r) (by omega);have hdl:(q.2.1.drop r).length=q.2.1.length - r:=qbg;have htl:(q.2.1.take r).length=r:=by rw[qa0];omega
    have hpml:(pm.map (·.it)).length=pm.length:=qai ..;have H:=O2.ctx;have hb3:=H.get at0;have RL2:=hRL (A:=[_,_]) (B:=[]) H;refine BV [([0,1,2,3,4,5,6,7,8],9),([],10),([11],12)] (fun z=>z.heap[b3]?=some (Bl 183 [.bool inner,.slice pa pm.length pc])/\Rd z (some ⟨bl,0,none⟩) 2 (Ln inner) (qs++[q])) [12] mixed (⟨hb3,RL2.ext0 (Ext.drew [] w9)⟩) ?_;refine AD U U (B9 U (B0 U (BX RL ER Bg U U (hn:=by rfl) ?_)));refine AC Br U (BC BT U (fun _ hx=>hx.2.fld hq1 rfl (j:=1) rfl) ?_);refine B0 U (Gq Bu Bn U U ?_);refine AC Br U (BC BT U (fun _ hx=>Aq hx.1 (0+1)) ?_);refine AV ?_;replace H:=H.drew;refine Cc [.slice (EH q.1 q.2.2 r 3) (q.2.1.length - r) (q.2.2 - r),.slice pa pm.length pc] IU CP Na H ?_;rintro b70 w10 - H
    refine Ab (Bb (⟨H.get at1,hRL (A:=[_,_,_]) (B:=[]) H⟩) ?_);refine AD U U (AV ?_);obtain⟨O10,G10⟩:=O2.own hlt9 H;have hx10:Ext [] w0 w10:=V.hx.then H.ext (fun x hx => .inr (hyo2 x hx));have hyo10:=Oj hyo2 V.hx.size H;refine Aj qB (Gw (O10.lt (hlt0 hx10)) [(EH q.1 q.2.2 r 3,q.2.1.drop r,q.2.2 - r),(pa,pm.map (·.it),pc)] (Rd.of_bl (r:=[]) (H.get at0) (by simp[Ob]) (fun _ _=>rfl)) (fun x hx=>(qac.1 hx).elim (fun e=>by subst e;dsimp only;rw[hdl];exact Iq2.turn G10) fun hx=>by rw[qaa.1 hx];dsimp only;rw[hpml];exact Ip.turn G10) U (hm:=by show 2<=1000000;omega) (by simp;omega)) U ?_;rintro v w11 ⟨a71,c71,rfl,I71,hx71⟩;obtain⟨O11,G11⟩:=O10.call (.call0 hx71);have hx11:=hx10.trans hx71;replace H:=O11.ctx;refine Ab (Bb (⟨H.get at1,hRL (A:=[_,_,_]) (B:=[]) H⟩) ?_);refine AD U U ?_
    refine AC Br U (AV (Bf (.slice _ _ _) CP U U U H at1 (by(simp;done)) ?_));rintro w H;refine Ab (CQ U (B4 ?_));have RL3:=hRL (A:=[_,_,_]) (B:=[]) H;refine Au (Ah U (Ae U (Ah U (Ae U (AY RL3 ER Bg U U (hn:=by rfl) ?_)))));refine Af Br U (Bd BT U (RL3.fld hq1 U (j:=1) U) ?_);refine Ae U (Eg Bu Bn U U ?_);refine AY RL3 ER Bg U U (hn:=by rfl) (Af Br U (Bf (.slice _ _ _) CP U U U H at3 (by show 0+qs.length*2+1<_;omega) ?_));rintro w H;refine qA ?_;have O13:OS (some ⟨bl,0,none⟩) (qs++[q]).length lc 2 (lf.set (0+qs.length*2+1) (.slice q.1 r q.2.2)) (((qs++[q]).flatMap (Ln inner)).set (qs.length*2+1) (.slice q.1 r q.2.2)):=by rw[qa2];exact OS.setN V.OL _ _
    rw[Afe inner qs q _ (q.1,q.2.1.take r,q.2.2) (by rw[htl])]at O13;refine Ad (Ah U (BO BQ Bg U H at1 U (BI _ (.agg _) ER Bg Co U U U U H ?_)));rintro b86 w - H;refine BL (L:=[_,_,_]) ER ER Bg Zj Co U U U H O13 U (FX _ _ _ _) ?_;rintro a87 c87 f87 w H O87;refine Ak U (qA (A6 (AG (v:=(.slice _ _ _)) U U U ?_)));obtain⟨O14,G14⟩:=O11.own (hlt0 hx11) H;have GT:=(G10.trans G11).trans G14;have I71':=I71.turn G14;have hfm:([(EH q.1 q.2.2 r 3,q.2.1.drop r,q.2.2 - r),(pa,pm.map (·.it),pc)]:List SI).flatMap (fun x=>x.2.1)=q.2.1.drop r++pm.map (·.it):=by simp
    rw[hfm]at I71' O87
    have heqF:((qs++[((q.1,q.2.1.take r,q.2.2):SN)])++[((a71,q.2.1.drop r++pm.map (·.it),c71):SN)]).map (fun x=>x.2.1)=Dj inner L:=by
     rw[hfull,show(qs++[q]).map (fun p=>p.2.1)=qs.map (fun p=>p.2.1)++[q.2.1]by simp,Aff,if_pos ⟨hin,by rw[hpml];exact hp1⟩,show q.2.1.length - 1=r by omega];simp
    have O88:OS a87 ((qs++[q]).length+1) c87 2 f87 (((qs++[((q.1,q.2.1.take r,q.2.2):SN)])++[((a71,q.2.1.drop r++pm.map (·.it),c71):SN)]).flatMap (Ln inner)):=by
     rw[qbc,qb0];exact O87
    refine⟨a87,(qs++[q]).length+1,c87,rfl,⟨⟨_,OS.rd O88 (fun y hy=>O14.blk y (qax _ hy)) (fun _ _=>rfl) (by decide),?_,heqF,fun m hm=>?_⟩,by rw[<-heqF];simp⟩,hx11.then H.ext fun x hx => .inr (hyo10 x hx)⟩
    .obtain⟨b,rfl⟩:=O88.form (by omega);exact .inr fun h=>O14.off (b,_) (qax _ (qaa.2 rfl)) h
    .rcases qat.1 hm with hm|hm
     .rcases qat.1 hm with hm|hm
      .exact(((V.ps m (qa5 _ hm)).1.weak hsub).turn GT).weak MY.le
      .rw[qaa.1 hm];have:=(Iq3.turn GT).weak MY.le;dsimp only;rw[htl];exact this
     .rw[qaa.1 hm];exact I71'.weak MY.le
   .intro h5;refine Ap (Aa ?_);have H:=V.O.ctx;refine Ad (Ah U (BO BQ Bg U H at0 U (BI _ (.agg _) ER Bg Co U U U U H ?_)));rintro b86 w - H;refine BL (L:=_::_::ent pa 185 pf) ER ER Bg Zj Co U U U (H.perm (List.Perm.cons _ (List.Perm.cons _ (List.Perm.cons _ qcn)))) VOL U (FX _ _ _ _) ?_;rintro a87 c87 f87 w H O87;refine Ak U (qA (A6 (AG (v:=(.slice _ _ _)) U U U ?_)));obtain⟨O14,G14⟩:=V.O.own hlt9 H;have hpml:(pm.map (·.it)).length=pm.length:=qai ..
    have heqF:(ps++[((pa,pm.map (·.it),pc):SN)]).map (fun x=>x.2.1)=Dj inner L:=by
     rw[hfull];unfold Aac
     have hn:¬(inner=true/\(pm.map (·.it)).length=1/\(ps.map fun p=>p.2.1)≠[]):=fun⟨h1,h2,h3⟩=>by
      have e:((inner && decide (pm.length=1)) && decide (0<ps.length))=true:=by
       rw[h1,qal (show pm.length=1 by rw[<-hpml];exact h2),qal (show 0<ps.length from qbv.2 fun e=>h3 (by rw[e];rfl))];rfl
      exact absurd (e.symm.trans h5) (by decide)
     rw[if_neg hn,qay];rfl
    have O88:OS a87 (ps.length+1) c87 2 f87 ((ps++[((pa,pm.map (·.it),pc):SN)]).flatMap (Ln inner)):=by
     rw[qbc,qb0];show OS _ _ _ _ _ (_++[.bool inner,.slice pa (pm.map (·.it)).length pc]);rw[hpml];exact O87
    refine⟨a87,ps.length+1,c87,rfl,⟨⟨_,OS.rd O88 (fun y hy=>O14.blk y (qax _ hy)) (fun _ _=>rfl) (by decide),?_,heqF,fun m hm=>?_⟩,by rw[<-heqF];simp⟩,V.hx.then H.ext fun x hx => .inr (hyo9 x hx)⟩
    .obtain⟨b,rfl⟩:=O88.form (by omega);exact .inr fun h=>O14.off (b,_) (qax _ (qaa.2 rfl)) h
    .rcases qat.1 hm with hm|hm
     .exact((V.ps m hm).1.turn G14).weak MY.le
     .rw[qaa.1 hm];have:=Its.mine O14 V.OP (fun y hy=>qa5 _ (qaj _ (qaj _ hy))) fun m hm=>((V.pm m hm).1.turn G14).weak MY.le;dsimp only;rw[hpml];exact this
theorem Wy{P:Program}{fn:Func}{R:Value->World->Prop}{e:Env}{w:World}(hd:e.ds=[])(hK:∀tmps:Array Value,(∀i,tmps.getD i undef=e.g i)->∃v,(results fn tmps).run P w=.ok v w/\R v w):Agj P fn R .ret e w:=by
 show Defs P e.ds w _;rw[hd];exact hK
theorem Vu{w:World}{bt bd bp ba fr bc:Nat}{c:Ch}{F:Mut}{L:List (Nat × Obj)}(X:Cx w bt bd bp ba fr bc c F L){b10 b9 t1 t2:Nat}{e:Int}{l1 l2:List Value}(h10:w.heap[b10]?=some (Bl t1 (ptr bc::l1)))(h9:w.heap[b9]?=some (Bl t2 (.int .i64 e::l2)))(hgn:c.gn.length<=1000000)(htk:c.tk.length<=1000000:=by omega):
  Agi prog 128 #[ptr b10,ptr b9] w fun w'=>Cx w' bt bd bp ba fr bc (DI c e) F L/\Grown (TM F ba bt bp L) (TM F ba bt bp L) w w':=by
 obtain⟨w0,rfl,H⟩:=qE w;refine Us (fn:=f128) func128 U [.pointer (some ⟨b10,0,none⟩),.pointer (some ⟨b9,0,none⟩)] U ?_;refine Au (Bd RN U ((by rw[Aq h10];rfl)) ?_);refine Bd EY U ((by rw[Aq h9];rfl)) ?_;refine Aj qB (XD X e htk hgn) U ?_;rintro v w2 ⟨rfl,X2,g2⟩;refine Ab (HC U U ?_);exact⟨X2,g2⟩
theorem Fr.sub{w0 w:World}{Z M0:Mut}{bt bd bp ba fr bc:Nat}{c:Ch}{F:Mut}{L Y Y2:List (Nat × Obj)}(E:Fr w0 Z M0 w bt bd bp ba fr bc c F L Y)(h:∀y∈Y2,y∈Y)(nd:Y2.Pairwise fun x y=>x.1≠y.1):Fr w0 Z M0 w bt bd bp ba fr bc c F L Y2 :=
 ⟨E.X,E.O.sub h nd,E.GT,E.GA.weak (MY.sub h),fun y hy=>by
  obtain⟨z,hz,rfl⟩:=qah.1 hy
  exact E.yo _ (qah.2 ⟨z,h z hz,rfl⟩),E.sz,E.hZ⟩
theorem Afg{fr:Nat}{c:Ch}{inner:Bool}{M:List It}{m:Nat}(h:Few c.A (m+c.tk.length)):Few (wrC fr c inner M).2.A (m+(wrC fr c inner M).2.tk.length):=by
 unfold wrC
 split
 .exact h
 .split
  .rw[qan];exact h.mono (by rw[qbu];omega)
  .rw[qan];exact Hv h _ _
theorem Apx{c:Ch}{i:Bool}{M:List It}(h:okF c i M=true):M.length<=100000/\c.tk.length+(Dj i M).length<=50000/\(∀x∈M,x.key.length<=65535/\x.val.length<=65535)/\(∀x∈M,x.page<9223372036854775808)/\(∀x∈M,CM i x<=503)/\∀a∈Dj i M,a≠[]/\a.length<=1000/\∀x∈a,x∈M:=by
 unfold okF at h;simp only[qao,qaq,qb5]at h;obtain⟨h1,h2,h3,h4⟩:=h;refine⟨h1,h2,fun x hx=>⟨(h3 x hx).1,(h3 x hx).2.1⟩,fun x hx=>(h3 x hx).2.2.1,fun x hx=>(h3 x hx).2.2.2,fun a ha=>⟨(h4 a ha).1,(h4 a ha).2,fun x hx=>?_⟩⟩
 have hf:(Dj i M).flatten=M:=by
  have hfl:=Kz i M [] [];simp only[List.flatten_nil,qa7]at hfl;unfold Dj;obtain⟨l,hl⟩:=qD ((Fi i M [] []).1);obtain⟨pt,hpt⟩:=qD ((Fi i M [] []).2);rw[<-hl,<-hpt]at hfl |-;unfold Aac
  split
  .rename_i hc
   have hs:=MP hc.2.2;rw[<-hfl]
   conv=>rhs;rw[hs]
   simp only[qcv,qcw,qa1]
   congr 1
   rw[<-qa1,LJ]
  .rw[qcv,qcw];exact hfl
 rw[<-hf];exact qe8.2 ⟨a,ha,hx⟩
def zI(m:Im):Im:=⟨m.ka,m.kc,m.va,m.vc,BM (prI m.it)⟩
structure BS where
 n:Nat
 i:Bool
 a:Option Addr
 k:Nat
 c:Nat
 M:List It
 ch:Ch
 F:Mut
 L:List (Nat × Obj)
abbrev Y0(b5 b6 b9 bc:Nat)(i:Bool)(a:Option Addr)(k c:Nat):List (Nat × Obj) :=
 [(b9,Bl 186 [ptr bc]),(b6,Bl 183 [.bool i,.slice a k c]),(b5,Bl 28 [.int .i64 0])]
structure BInv(w0 w:World)(Z M0:Mut)(bt bd bp ba fr bc b5 b6 b9 mx:Nat)(R:Int × Ch × Int)(s:BS):Prop where
 E:Fr w0 Z M0 w bt bd bp ba fr bc s.ch s.F s.L (Y0 b5 b6 b9 bc s.i s.a s.k s.c)
 I:Its w (MY (MZ (TM s.F ba bt bp s.L) Z) (Y0 b5 b6 b9 bc s.i s.a s.k s.c)) s.a s.k s.c s.M
 eq:R=Cg fr s.n s.ch s.i s.M
 few:Few s.ch.A (mx+s.ch.tk.length)
 gn:s.ch.gn=[]
 tk:s.ch.tk.length<=50000
structure LS where
 j:Nat
 a:Option Addr
 c:Nat
 full:List Value
 ms:List Im
 ch:Ch
 F:Mut
 L:List (Nat × Obj)
abbrev Y1(b5 b6 b9 b10 bc:Nat)(i:Bool)(a:Option Addr)(k c:Nat)(s:LS):List (Nat × Obj) :=
 (b10,Bl 183 [.bool true,.slice s.a s.ms.length s.c])::(Y0 b5 b6 b9 bc i a k c++ent s.a 185 s.full)
structure LInv(w0 w:World)(Z M0:Mut)(bt bd bp ba fr bc b5 b6 b9 b10 mx:Nat)(i:Bool)(a:Option Addr)(k c:Nat)(an:Option Addr)(nn cn:Nat)(Ps:List (List It))(T:Int × Ch × List It)(c0:Ch)(s:LS):Prop where
 E:Fr w0 Z M0 w bt bd bp ba fr bc s.ch s.F s.L (Y1 b5 b6 b9 b10 bc i a k c s)
 N:Nds w (MY (MZ (TM s.F ba bt bp s.L) Z) (Y1 b5 b6 b9 b10 bc i a k c s)) i an nn cn Ps
 O:OS s.a s.ms.length s.c 3 s.full (s.ms.flatMap Im.enc)
 ms:∀m∈s.ms,m.Ok w (MY (MZ (TM s.F ba bt bp s.L) Z) (Y1 b5 b6 b9 b10 bc i a k c s))
 eq:T=C3 fr i (Ps.drop s.j) s.ch (s.ms.map (·.it))
 few:Few s.ch.A (mx+s.ch.tk.length)
 gn:s.ch.gn=[]
 tk:s.ch.tk.length<=c0.tk.length+s.j
 num:s.ms.length=s.j
def Y4(fr:Nat)(A:Dev)(P:List Nat)(L:List Pr):Int × Ch × Int:=Cg fr 1500 ⟨A,P,[],[]⟩ false (L.map BM)
theorem Afh{fr:Nat}{w:World}{bt bd bp ba:Nat}{A:Dev}{P:List Nat}{F:Mut}(T:Tx w bt bd bp ba fr A P F []){a:Option Addr}{n c:Nat}{L:List Pr}(PL:Prs w (TM F ba bt bp []) a n c L)(hn:n<=100000){mx:Nat}(hfew:Few A mx)(hmx:mx<=800000000)(hok:(∀i,i<L.length->Tq L i)->L≠[]->(Y4 fr A P L).1≠99)(hfr:fr<=5000:=by decide):
  Ret prog 93 #[ptr bt,.slice a n c] w fun v w' =>
   ((∃i,i<L.length/\¬Tq L i)/\v=.tuple #[.int .i64 (-1),.int .i64 1]/\Ext [] w w') \/
   ((∀i,i<L.length->Tq L i)/\L=[]/\v=.tuple #[.int .i64 (-1),.int .i64 0]/\Ext [] w w') \/
   ((∀i,i<L.length->Tq L i)/\L≠[]/\∃F',v=.tuple #[.int .i64 (Y4 fr A P L).2.2,.int .i64 (Y4 fr A P L).1]/\Tx w' bt bd bp ba fr (Y4 fr A P L).2.1.A (DI (Y4 fr A P L).2.1 (Y4 fr A P L).1).P F' []/\Grown (TM F ba bt bp []) (TM F' ba bt bp []) w w'):=by
 obtain⟨w0,rfl⟩:=qD w;have hnL:=PL.num;obtain⟨ps,Rp,hps,hl,hp⟩:=PL.ex;have hpn:ps.length=n:=by rw[hnL,<-hl,qai]
 have hmlt:=T.mlt;have H:=Ctx.start w0 [];refine Ut (fn:=f93) func93 U [.pointer (some ⟨bt,0,none⟩),.slice a n c] U ?_;refine Ad (Ac U (Bi WW H ?_));rintro b5 w - H;refine qA (Ar (Ad (An U (BU Anx U ?_))));refine qA (Bz U (Ap (Aa (Ad (B5 [.bool false,.slice none 0 0] Hd Co ?_)))));refine Bi Co H ?_;rintro b6 w - H;refine Bo Bg U U U (by exact FX _ _ _ _) H at0 U ?_;rintro w H;refine qA (Ar (Ad (Ah U (AO Cb U (Ae U (qA (AB (B6 72057594036879760 (α:=Nat × Option Addr × Nat × List Value) (fun s=>[(20,.int .i64 (s.1:Int))]) (fun s w'=>s.1<=n/\(∀i,i<s.1->Tq L i)/\Ctx w0 [] w' ([(b6,Bl 183 [.bool false,.slice s.2.1 s.1 s.2.2.1]),(b5,Bl 28 [.int .i64 0])]++ent s.2.1 185 s.2.2.2)/\OS s.2.1 s.1 s.2.2.1 3 s.2.2.2 (((ps.take s.1).map zI).flatMap Im.enc)) (fun s=>n - s.1) (0,none,0,[]) U ?_ ?_ ?_))))))))
 .exact⟨rfl,trivial⟩
 .exact⟨qak _,(fun i h=>absurd h (qc3 _)),H,OS.nil⟩
 .rintro⟨i,ia,ic,fi⟩ j w ⟨hi,hg,H,O⟩;dsimp only at hi hg H O;dsimp only;refine Ad (Bj U U (qA (Ar (Av _ U ?_ ?_))))
  .intro h1;replace h1:=AR h1;obtain⟨x,hx1⟩:=AP (l:=ps) (i:=i);have hxo:=hp x (qad hx1);have hxL:L[i]?=some (prI x.it):=by rw[<-hl,qas,hx1];rfl
   have hts:((ps.take (i+1)).map zI).flatMap Im.enc=((ps.take i).map zI).flatMap Im.enc++(zI x).enc:=by rw[Bp hx1,qay,qbc];simp
   refine Ap (Aa (Ar (AB (Ad (Ae U (AY Rp Cb CR U U ?_))))));refine EN _ Aa5 CR U U ((Rp.ext0 H.ext).row hx1 U) (Bi Fd H ?_);rintro b8 w - H;refine Ac U (Bo CR U U U (by exact Gl _) H at0 U ?_);rintro w H;refine qA (Ar (Ad (Af Fa U (AH B1 U H at0 U (Af Ju U (AH B1 U H at0 U (Aj qB (Pq x.ka x.va _ _ x.kc x.vc _) U ?_)))))));rintro v w9 ⟨rfl,rfl⟩;refine Cl U (qA (Av _ U ?_ ?_))
   .intro h2;replace h2:=C8 h2;refine Ad (Ac U (Bf (.int _ _) FZ U U U H at2 (by decide) ?_));rintro w H;refine qA (A6 (Ao (AK (Ao (Ao (AK (Ao ?_)))))));refine Wy U fun tmps ht=>⟨_,PU rfl ht rfl rfl EY (H.get at2),.inl ⟨⟨i,by omega,fun⟨p,q1,q2,_⟩=>?_⟩,rfl,H.ext⟩⟩;rw[hxL]at q1;cases q1;have q3:Dg x.it.key.length x.it.val.length=true:=q2;rw[h2]at q3;cases q3
   .intro h2;replace h2:=CA h2;obtain⟨w8,rfl⟩:=qD w;have hb8:=H.get at0;have hx08:=H.ext;have hk8:∀{z:World},Ext [] w8 z->z.heap[b8]?=some (Bl 68 (Gz x)):=fun{z} h=>by rw[h.block b8 (Al hb8) (by simp)];exact hb8
    have hD:=Ext.drew [] w8;refine Ap (Aa (Ar (BV [([0,1,2,3,4,5,6,7,8,9,10],11),([12],13)] (fun z=>Ext [] w8 z) [] mixed (hD) ?_)));refine AD U U (B0 U (Am6 U U U (LV U U (KS 33 U ?_ ?_))))
    .intro h3;replace h3:=AR h3;refine B9 U (B0 U ?_);obtain⟨y,hy⟩:=AP (l:=ps) (i:=i - 1);have hyo:=hp y (qad hy);refine IB U U U ?_;rw[show(i:Int) - 1=((i - 1:Nat):Int)by omega];refine BX Rp Cb CR U U ?_;refine AC Fa U (BC B1 U (fun _ hx=>(((Rp.ext0 hx08).ext0 hx).fld hy rfl (j:=0) rfl)) ?_);refine AC Fa U (BC B1 U (fun _ hx=>(by rw[Aq (hk8 hx)];rfl)) ?_);refine AV ?_;replace H:=H.drew;refine Aj qB (IZ y.ka x.ka y.kc x.kc _ _ y.it.key x.it.key (hyo.k.1.ext0 (hx08.trans hD)) (hxo.k.1.ext0 (hx08.trans hD)) U U) U ?_;rintro v w9 ⟨rfl,rfl⟩;refine Ab (Bb (hD) (AD U U ?_));refine t_geq U U U (AV (AN U (.bool _) U (Ab (Bb (hD) (B4 (Av _ U ?_ ?_))))))
     .intro h4;replace h4:=AR h4;refine Ad (Ac U (Bf (.int _ _) FZ U U U H at2 (by decide) ?_));rintro w H;refine qA (A6 (Ao (AK (Ao (Ao (AK (Ao ?_)))))));refine Wy U fun tmps ht=>⟨_,PU rfl ht rfl rfl EY (H.get at2),.inl ⟨⟨i,by omega,fun⟨p,q1,_,q3⟩=>?_⟩,rfl,H.ext⟩⟩;rw[hxL]at q1;cases q1;have hyL:L[i - 1]?=some (prI y.it):=by rw[<-hl,qas,hy];rfl
      have q4:DU y.it.key x.it.key<0:=Iw.2 (q3 _ (by omega) hyL);omega
     .intro h4;replace h4:=AU h4;refine Ap (Aa (Au (Af Br U (AH BT U H at1 U (Af Fa U (AH B1 U H at0 U (Af Ju U (AH B1 U H at0 U (B5 (zI x).enc MX C2 ?_)))))))));refine BI _ (.agg _) Bu Bn C2 U U U U H ?_;rintro b52 w - H;refine BL (L:=[_,_,_]) Bu Bu Bn Kn C2 U U U H O U (Im.oneE (zI x)) ?_;rintro a53 c53 f53 w H O53;refine Af Br U (Bf (.slice _ _ _) CP U U U H at1 (by(simp;done)) ?_);rintro w H;refine Ab (AE (Aa (Au (Ay U U ?_))));refine Ae U (qA ?_);refine⟨(i+1,a53,c53,f53),rfl,⟨rfl,trivial⟩,⟨by dsimp only;omega,fun k hk=>?_,H.tail,by dsimp only;rw[hts];exact O53⟩,by dsimp only;omega⟩;dsimp only at hk
      rcases qbr k i with h7|h7
      .exact hg k h7
      .obtain rfl:k=i:=by omega
       exact⟨_,hxL,h2,fun q h0 hq=>by
        have hyL:L[k - 1]?=some (prI y.it):=by rw[<-hl,qas,hy];rfl
        rw[hyL]at hq;cases hq
        exact Iw.1 (show DU y.it.key x.it.key<0 by omega)⟩
    .intro h3;replace h3:=AU h3;refine Cp U (Cp U (Cp U (Cp U (Cp U (Cp U (Cp U (Cp U (AV ?_))))))));replace H:=H.drew;refine Ag U (Ab (Bb (hD) (AD U U ?_)));refine Cp U (AV (AM U (.bool _) U (Ab (Bb (hD) (B4 (Bz U (Ap (Aa (Au (Af Br U (AH BT U H at1 U ?_)))))))))));refine Af Fa U (AH B1 U H at0 U (Af Ju U (AH B1 U H at0 U (B5 (zI x).enc MX C2 ?_))));refine BI _ (.agg _) Bu Bn C2 U U U U H ?_;rintro b52 w - H;refine BL (L:=[_,_,_]) Bu Bu Bn Kn C2 U U U H O U (Im.oneE (zI x)) ?_;rintro a53 c53 f53 w H O53;refine Af Br U (Bf (.slice _ _ _) CP U U U H at1 (by(simp;done)) ?_);rintro w H;refine Ab (AE (Aa (Au (Ay U U ?_))));refine Ae U (qA ?_)
     refine⟨(i+1,a53,c53,f53),rfl,⟨rfl,trivial⟩,⟨by dsimp only;omega,fun k hk=>?_,H.tail,by dsimp only;rw[hts];exact O53⟩,by dsimp only;omega⟩;dsimp only at hk
     rcases qbr k i with h7|h7
     .exact hg k h7
     .obtain rfl:k=i:=by omega
      exact⟨_,hxL,h2,fun q h0 hq=>absurd h0 (by omega)⟩
  .intro h1;replace h1:=AU h1;have hin:i=n:=by omega
   rw[qa6 (by omega)]at O;have hgood:∀k,k<L.length->Tq L k:=fun k hk=>hg k (by omega);refine B2 (Aw (Aw (AZ (Aa (Ar (Ad (Ah U (AO Cb U (BA U U (qA (Av _ U ?_ ?_)))))))))))
   .intro h5;replace h5:=AR h5;refine Ad (Ac U (Bf (.int _ _) FZ U U U H at1 (by decide) ?_));rintro w H;refine qA (A6 (Ao ?_));exact Wy U fun tmps ht=>⟨_,PU rfl ht rfl rfl EY (H.get at1),.inr (.inl ⟨hgood,qa4 (by omega),rfl,H.ext⟩)⟩
   .intro h5;replace h5:=AU h5;have hne:L≠[]:=fun e=>h5 (by rw[hnL,e];rfl);have hok':=hok hgood hne;obtain⟨R,hR⟩:=qD (Y4 fr A P L);rw[<-hR]at hok' |-;refine Ap (Aa (Ad (An U (B5 [ptr bt,.slice none 0 0,.slice none 0 0] Ahm Ahs ?_))));refine Cu [ptr bt,.slice none 0 0,.slice none 0 0] (.agg _) U U H ?_;rintro bc w - H;refine Bi Ahr H ?_;rintro b9 w - H;refine Bf (.pointer _) Aho U U U H at0 (by decide) ?_;rintro w H;refine qA (Ad (CG [.pointer _,.pointer _] U (WI U U ?_)));refine qA (AB ?_);have E1:Fr w0 (fun _=>False) (TM F ba bt bp []) w bt bd bp ba fr bc ⟨A,P,[],[]⟩ F [(bc,Bl TC [ptr bt,.slice none 0 0,.slice none 0 0])] (Y0 b5 b6 b9 bc false ia i ic++ent ia 185 fi):=Fr.born T (fun x h=>h.elim) (H.perm (List.Perm.swap _ _ _)) ⟨none,0,[],none,0,[],rfl,OS.nil,OS.nil⟩;have hpsl:(ps.map zI).length=i:=by rw[qai];omega
    have O9:OS ia (ps.map zI).length ic 3 fi ((ps.map zI).flatMap Im.enc):=by rw[hpsl];exact O
    obtain⟨-,I9⟩:=Its.push E1.O O9 fun m hm=>by
     obtain⟨q,hq,rfl⟩:=qah.1 hm;have:=((hp q hq).weak (M':=MZ (TM F ba bt bp []) fun _=>False) fun x h=>h.elim id False.elim).turn E1.GA;exact⟨this.k,this.v,this.kc,this.vc⟩
    have hmap:(ps.map zI).map (·.it)=L.map BM:=by rw[<-hl,qbi,qbi];rfl
    rw[hpsl,hmap]at I9;have E2:=E1.sub (Y2:=Y0 b5 b6 b9 bc false ia i ic) (fun y hy=>qa5 _ hy) (qca.1 E1.O.nd).1;refine B6 158456325019305303150233154576 (α:=BS) (fun _=>[]) (fun s w'=>BInv w0 w' (fun _=>False) (TM F ba bt bp []) bt bd bp ba fr bc b5 b6 b9 mx R s) (fun s=>s.n) ⟨1500,false,ia,i,ic,L.map BM,⟨A,P,[],[]⟩,F,[(bc,Bl TC [ptr bt,.slice none 0 0,.slice none 0 0])]⟩ U ?_ ?_ ?_
    .exact trivial
    .exact⟨E2,I9,hR,hfew,rfl,qak _⟩
    .rintro⟨m,si,sa,sk,sc,sM,sch,sF,sL⟩ j w V;have hVeq:=V.eq;dsimp only at hVeq;dsimp only
     cases m with
     |zero=>rw[hVeq]at hok';exact absurd rfl hok'
     |succ m =>
     have hokF:okF sch si sM=true:=by
      cases h:okF sch si sM with
      |true=>rfl
      |false =>
       rw[hVeq]at hok';unfold Cg at hok';rw[if_pos h]at hok';exact absurd U hok'
     obtain⟨k1,k2,k3,k4,k5,k6⟩:=Apx hokF;unfold Cg at hVeq;rw[if_neg (by rw[hokF];simp)]at hVeq;obtain⟨Tp,hTp⟩:=qD (C3 fr si (Dj si sM) sch []);rw[<-hTp]at hVeq;have hskn:=V.I.num;have hfew9:=V.few;have hgn9:=V.gn;dsimp only at hskn hfew9 hgn9;have H:=V.E.O.ctx;refine AB (Ad (B5 [.bool true,.slice none 0 0] Hd Co ?_));refine Bi Co H ?_;rintro b10 w - H;refine Bo Bg U U U (by exact FX _ _ _ _) H at0 U ?_;rintro w H;refine qA (Ar (Ad (BO BQ Bg U H at2 U ?_)));obtain⟨E3,g3⟩:=V.E.own H;refine Aj qB (Amr E3.mylt si (V.I.turn g3) (by dsimp only;omega) k3 k5) U ?_;rintro v w2 ⟨an,nn,cn,rfl,N,hx2⟩;obtain⟨E4,g4⟩:=E3.call0 hx2;have N4:=N;refine AO ER U (Ae U (qA (AB ?_)));have hnn:nn=(Dj si sM).length:=N4.num
     refine B6 154742357336719944686006288 (α:=LS) (fun s=>[(67,.int .i64 (s.j:Int))]) (fun s w'=>s.j<=nn/\LInv w0 w' (fun _=>False) (TM F ba bt bp []) bt bd bp ba fr bc b5 b6 b9 b10 mx si sa sk sc an nn cn (Dj si sM) Tp sch s) (fun s=>nn - s.j) ⟨0,none,0,[],[],sch,sF,sL⟩ U ?_ ?_ ?_
     .exact⟨rfl,trivial⟩
     .exact⟨qak _,E4,N4,OS.nil,(fun m h=>by cases h),hTp,hfew9,hgn9,qae _,rfl⟩
     .rintro⟨jj,ua,uc,uf,um,ch,cF,cL⟩ j w ⟨hj,V2⟩;dsimp only at hj;dsimp only;obtain⟨ns,R3,hs3,hl3,hok3⟩:=V2.N.ex;have hnl:ns.length=nn:=by rw[hnn,<-hl3,qai]
      have htk2:=V2.tk;have hum:=V2.num;have hTq:=V2.eq;have hf2:=V2.few;have VE:=V2.E;have VO:=V2.O;dsimp only at htk2 hum hTq hf2 VE VO;have H:=VE.O.ctx;refine Ad (Bj U U (qA (Ar (Av _ U ?_ ?_))))
      .intro h6;replace h6:=AR h6;obtain⟨x,hx1⟩:=AP (l:=ns) (i:=jj);have hxL:(Dj si sM)[jj]?=some x.2.1:=by rw[<-hl3,qas,hx1];rfl
       obtain⟨kx1,kx2,kx3⟩:=k6 _ (qad hxL);have Ix:=hok3 x (qad hx1);rw[Ew hxL,C3]at hTq;refine Ap (Aa (Ar (AB (Ad (AY R3 ER Bg U U ?_)))));refine EN (Ln si x) BQ Bg U U (R3.row hx1 U) (Bi Co H ?_);rintro b12 w - H;refine Bo Bg U U U (by exact FX _ _ _ _) H at0 U ?_;rintro w H;refine qA (Ad (AH RN U H at2 U (BO BQ Bg U H at0 U ?_)));obtain⟨E5,g5⟩:=VE.own H;have Iy:=Ix.turn g5;refine Aj qB (Pt E5.X (by omega) si (MY (fun _=>False) _) (Iy.weak MYZ) kx1 (fun y hy=>k3 y (kx3 y hy)) (fun y hy=>k4 y (kx3 y hy)) hf2) U ?_;rintro v w5 ⟨mi,F5,L5,rfl,X5,G5,hmo,hmp,hmi⟩;have hmo:=hmo.weak Ad8;obtain⟨E6,g6⟩:=E5.call X5 G5;replace H:=E6.O.ctx;refine AW U (Ai U U (Ai U U (Bi C2 H ?_)));rintro b13 w - H;refine Bo Bn U U U (by exact Im.oneE _) H at0 U ?_
       rintro w H;refine Ac U (qA (Ar (Ad (Ae U (Be U U (qA (Av _ U ?_ ?_)))))))
       .intro h7;replace h7:=Bv h7;rw[if_neg (show ¬(wrC fr ch si x.2.1).1=0 from h7)]at hTq;rw[hTq,if_pos (show(wrC fr ch si x.2.1).1≠0 from h7)]at hVeq;have hgn6:(wrC fr ch si x.2.1).2.gn=[]:=wrC_gn.trans V2.gn;have htk6:=SR (fr:=fr) (c:=ch) (inner:=si) (M:=x.2.1);refine Ad (Ae U (Ac U (Bf (.int _ _) FZ U U U H at5 (by decide) ?_)));rintro w H;refine qA (A6 (Ao (AK (Ao (Ao (AK (Ao (AK (Ao (AK ?_))))))))));obtain⟨E7,-⟩:=E6.own H;refine RG U qB _ (Vu E7.X (H.get at3) (H.get at5) (by rw[hgn6];exact qak _)) (fun w7 hK tmps ht=>?_);exact⟨_,PU U ht U U EY ((E7.O.call (hK.2.or _)).1.blk (b5,_) (qad (i:=5) U)),.inr (.inr ⟨hgood,hne,F5,by rw[hVeq];rfl,by rw[hVeq];exact hK.1.T.none,(E7.GT.trans hK.2).weak TM.none⟩)⟩
       .intro h7;replace h7:=Bw h7;have h7':(wrC fr ch si x.2.1).1=0:=by simpa using h7
        rw[if_pos h7']at hTq;have hmi':=hmi h7';refine Ap (Aa (Au (Af Br U (AH BT U H at2 U (BO Dq Bn U H at0 U (BI _ (.agg _) Bu Bn C2 U U U U H ?_))))));rintro b83 w - H;refine BL (n:=um.length) (L:=[_,_,_,_,_,_]) Bu Bu Bn Kn C2 U U U H VO U (Im.oneE mi) ?_;rintro a84 c84 f84 w H O84;refine Af Br U (Bf (.slice _ _ _) CP U U U H at2 (by(simp;done)) ?_);rintro w H;refine Ab (AE (Aa (Au (Ay U U ?_))));refine Ae U (qA ?_);have H8:=H.tail.tail;obtain⟨E7,g7⟩:=E6.own H8;have hql:(um++[mi]).length=um.length+1:=by simp
        have gg:=(g5.trans g6).trans g7;have htk6:=SR (fr:=fr) (c:=ch) (inner:=si) (M:=x.2.1)
        have hfin:∀Y,Y=Y1 b5 b6 b9 b10 bc si sa sk sc ⟨jj+1,a84,c84,f84,um++[mi],(wrC fr ch si x.2.1).2,F5,L5⟩->Fr w0 (fun _=>False) (TM F ba bt bp []) w bt bd bp ba fr bc (wrC fr ch si x.2.1).2 F5 L5 Y->Nds w (MY (MZ (TM F5 ba bt bp L5) fun _=>False) Y) si an nn cn (Dj si sM)->(∀m∈um++[mi],m.Ok w (MY (MZ (TM F5 ba bt bp L5) fun _=>False) Y))->LInv w0 w (fun _=>False) (TM F ba bt bp []) bt bd bp ba fr bc b5 b6 b9 b10 mx si sa sk sc an nn cn (Dj si sM) Tp sch ⟨jj+1,a84,c84,f84,um++[mi],(wrC fr ch si x.2.1).2,F5,L5⟩:=by
         rintro Y rfl v1 v2 v3;refine⟨v1,v2,?_,v3,?_,Afg hf2,wrC_gn.trans V2.gn,by dsimp only;omega,by dsimp only;rw[hql,hum]⟩
         .dsimp only;rw[hql,qbc]
          simpa using O84
         .dsimp only;rw[hTq,qay,<-hmi'];rfl
        refine⟨⟨jj+1,a84,c84,f84,um++[mi],(wrC fr ch si x.2.1).2,F5,L5⟩,rfl,⟨rfl,trivial⟩,⟨by dsimp only;omega,hfin _ ?_ E7 (V2.N.turn gg) fun q hq=>?_⟩,by dsimp only;omega⟩
        .show(b10,Bl 183 [.bool true,.slice a84 (um.length+1) c84])::_=(b10,Bl 183 [.bool true,.slice a84 (um++[mi]).length c84])::_;rw[hql];rfl
        .rcases qat.1 hq with hq|hq
         .exact(V2.ms q hq).turn gg
         .rw[qaa.1 hq];exact hmo.turn g7
      .intro h6;replace h6:=AU h6;rw[qb8 (by omega),C3]at hTq;rw[hTq,if_neg (by simp)]at hVeq;dsimp only at hVeq;rw[qai]at hVeq;have hgn2:=V2.gn;dsimp only at hgn2;refine B2 (Aw (Aw (AZ (Aa (Ad (BO BQ Bg U H at0 U (Bo Bg U U U (by exact FX _ _ _ _) H at2 U ?_)))))));rintro w H;refine qA (Ad (Af Br U (AH BT U H at2 U (AO Bu U (BA U U (qA (Av _ U ?_ ?_)))))))
       .intro h8;replace h8:=AR h8;have h81:um.length=1:=by have h9:(um.length:Int)=1:=h8;omega
        rw[if_pos h81]at hVeq;obtain⟨q0,hq0⟩:=AP (l:=um) (i:=0);have Rm:Rd w ua 3 Im.enc um:=OS.rd VO (fun y hy=>H.blk y (show y∈(b10,Bl 183 [.bool true,.slice ua um.length uc])::(Y0 b5 b6 b9 bc true ua um.length uc++ent ua 185 uf)from qaj _ (qax _ hy))) (fun _ _=>rfl) (by decide);have hpg0:Cr (um.map (·.it)) 0=q0.it.page:=by unfold Cr;rw[qas,hq0];rfl
        refine Ad (Af Br U (AH BT U H at2 U (AY Rm Bu Bn U U (hn:=by rfl) ?_)));refine Af Gf U (Bd DV U (Rm.fld hq0 U (j:=2) U) ?_);refine Ac U (Bf (.int _ _) FZ U U U H at3 (by decide) ?_);rintro w H;refine qA (A6 (AK (Ao (AK ?_))));obtain⟨E7,-⟩:=VE.own H;refine RG U qB _ (Vu E7.X (H.get at1) (H.get at3) (by rw[hgn2];exact qak _)) (fun w7 hK tmps ht=>?_);exact⟨_,PU U ht U U EY ((E7.O.call (hK.2.or _)).1.blk (b5,_) (qad (i:=3) U)),.inr (.inr ⟨hgood,hne,cF,by rw[hVeq,hpg0];rfl,by rw[hVeq];exact hK.1.T.none,(E7.GT.trans hK.2).weak TM.none⟩)⟩
       .intro h8;replace h8:=AU h8;rw[if_neg (show ¬um.length=1 by have h9:¬(um.length:Int)=1:=h8;omega)]at hVeq;refine Ap (AE (Aa ?_));obtain⟨E7,g7⟩:=VE.own H;obtain⟨-,I7⟩:=Its.push (Y:=(b10,Bl 183 [.bool true,.slice ua um.length uc])::Y0 b5 b6 b9 bc true ua um.length uc) E7.O VO fun q hq=>(V2.ms q hq).turn g7;have hsub:∀y∈Y0 b5 b6 b9 bc true ua um.length uc,y∈((b10,Bl 183 [.bool true,.slice ua um.length uc])::Y0 b5 b6 b9 bc true ua um.length uc)++ent ua 185 uf:=fun y hy=>qa5 _ (qaj _ hy);have E8:=E7.sub hsub (qbh.1 (qca.1 (show(((b10,Bl 183 [.bool true,.slice ua um.length uc])::Y0 b5 b6 b9 bc true ua um.length uc)++ent ua 185 uf).Pairwise _ from E7.O.nd)).1).2
        exact⟨⟨m,true,ua,um.length,uc,um.map (·.it),ch,cF,cL⟩,rfl,trivial,⟨E8,I7.weak (MY.sub fun y hy=>qaj _ hy),hVeq,hf2,hgn2,by dsimp only;omega⟩,by dsimp only;omega⟩
section
variable {w0 w w':World}{p:Sp}{A A':Dev}{P P':List Nat}{F F':Mut}{J:Jr}{gen:Nat}{root n:Int}{l:List (Byt × Sv)}{o1 o2:Obj}
theorem Gk.page(g:Gk w0 w p A P F J gen root n l o1 o2)(h:PgAt w' p.bp p.ba P')(hx:Ext [p.ba] w w'):Gk w0 w' p A P' F J gen root n l o1 o2/\Grown (Ms F p) (Ms F p) w w':=by
 obtain⟨T,t⟩:=g.T.page h hx;exact⟨g.tree T t,Kd t⟩
theorem Afi(g:Gk w0 w p A P F J gen root n l o1 o2)(hA:A.B.length<=4096):Ret prog 90 #[ptr p.bs] w fun v w'=>v=.bool (decide (Jx A.B.length<(Hl P:Int)))/\w=w':=by
 obtain⟨wI,rfl⟩:=qD w;obtain⟨dn,ds,hhd⟩:=g.T.dev.hd;have hs:=Fo.at g.O (k:=0) rfl;have hPl:=g.T.pg.len;refine A8 (fn:=f90) func90 U [ptr p.bs] U (Ad (Am U (qA (Ad (Ac U (qA (Ar (Ad (An U (A7 U ?_))))))))));refine Af Jv U (Bd K2 U ((by rw[Aq hs];rfl)) ?_);refine Aj qB (Od g.T.pg) U ?_;rintro v w ⟨rfl,rfl⟩;refine Ae U (qA (AB (B6 536868920 (α:=Nat) (fun i=>[(11,.int .i64 (i:Int)),(3,.int .i64 ((Hj P i).length:Int))]) (fun i w'=>i<=P.length/\w'=wI) (fun i=>P.length - i) 0 U ?_ ?_ ?_)))
 .exact⟨rfl,rfl,trivial⟩
 .exact⟨qak _,rfl⟩
 .rintro i j w1 ⟨hi,hw⟩;rw[hw]
  have hhl:(Hj P i).length<=i:=by
   have:=qel (Jz P) (List.range i);rw[List.length_range]at this;exact this
  refine Ad (Bj U U (qA (Ar (Av _ U ?_ ?_))))
  .intro h1;replace h1:=AR h1;obtain⟨s,hk⟩:=AP (l:=P) (i:=i);have hs3:=g.T.pg.ok s (qad hk);have hb:Jz P i=(decide (s=1) || decide (s=2)):=by unfold Jz;rw[hk];simp
   have hsu:(Hj P (i+1)).length=(Hj P i).length+if Jz P i=true then 1 else 0:=by
    rw[Tc,qan]
    split <;> rfl
   refine Ap (Aa (Ar (AB (Ad (Ae U (Ac U (qA (Ad (An U (A7 U ?_))))))))));refine Af Jv U (Bd K2 U ((by rw[Aq hs];rfl)) ?_);refine Ae U (Aj qB (Adz g.T.pg i hk) U ?_);rintro v w ⟨rfl,rfl⟩;refine Ac U (qA (Ad (BG (α:=Unit) 66060288 (fun _=>[(25,.bool (Jz P i))]) (fun _ w'=>w'=wI) U ?_ ?_)))
   .refine Ae U (BA U U (AF U (AQ 22 U ?_ ?_)))
    .intro h1;replace h1:=AR h1;refine Ag U (Ag U (AN U (.bool _) U (Ab ?_)));exact⟨rfl,(),rfl,⟨qab Value.bool (by rw[hb,qar];simp_all;try omega),trivial⟩,rfl⟩
    .intro h2;replace h2:=AU h2;refine Ae U (BA U U (AM U (.bool _) U (Ab ?_)));exact⟨rfl,(),rfl,⟨qab Value.bool (by rw[hb,qar];simp_all;try omega),trivial⟩,rfl⟩
   rintro - j25 w hw2;rw[hw2];refine Av _ U ?_ ?_
   .intro h2;rw[if_pos h2]at hsu;refine Au (Ae U (Ay U U ?_));refine Ac U (Ab (AE (Aa (Au (Ay U U ?_)))));refine Ae U (qA ?_);exact⟨i+1,rfl,⟨rfl,by rw[hsu];rfl,trivial⟩,⟨by omega,rfl⟩,by omega⟩
   .intro h2;rw[if_neg (by rw[h2];simp)]at hsu;refine Ap (AE (Aa (Au (Ay U U ?_))));refine Ae U (qA ?_);exact⟨i+1,rfl,⟨rfl,by rw[hsu];rfl,trivial⟩,⟨by omega,rfl⟩,by omega⟩
  .intro h1;replace h1:=AU h1;obtain rfl:i=P.length:=by omega
   refine B2 (Aw (Aw (AZ (Aa (Ad (Ae U (An U (A7 U (Af Q4 U (Bd Dm U ((by rw[Aq hs];rfl)) ?_))))))))));refine Aj qB (Hf hhd) U ?_;rintro v w ⟨rfl,rfl⟩;refine Aj qB (Abr _ (by omega) _) U ?_;rintro v w ⟨rfl,rfl⟩;refine BZ U U (Am U (qA (A6 (AG (v:=(.bool _)) U U U ?_))));exact⟨rfl,rfl⟩
theorem Ams{L:List Pr}(ho:OkP L)(hr:Rising L):∀i,i<L.length->Tq L i:=fun i hi=>by
 obtain⟨q,hq⟩:=AP (l:=L) (i:=i) (h:=hi);have hok:=ho q (qad hq);refine⟨q,hq,by unfold Dg;simp only[qao,qaq];omega,fun r h0 hr2=>?_⟩;obtain⟨q1,q2⟩:=qap.1 hq;obtain⟨q3,q4⟩:=qap.1 hr2;have:=qb9.1 hr (i - 1) i q3 q1 (by omega);rw[q2,q4]at this;exact this
theorem Ake{M M':Mut}{a:Option Addr}{n c:Nat}{L:List Pr}(h:Prs w M a n c L)(hM:∀x,M' x->M x):Prs w M' a n c L:=by
 obtain⟨ps,R,hs,hl,hm⟩:=h.ex;exact⟨⟨ps,R,hs.imp id fun h5 h6=>h5 (hM _ h6),hl,fun m hm'=>(hm m hm').weak hM⟩,h.num,h.le⟩
theorem Amt{bt bd bp ba:Nat}(T:Tx w bt bd bp ba 362 A P F []){a:Option Addr}{c:Nat}{L:List Pr}(PL:Prs w (TM F ba bt bp []) a L.length c L)(hn:L.length<=100000){mx:Nat}(hfew:Few A mx)(ho:OkP L)(hr:Rising L)(hok:(Kc A P L).1≠99)(hmx:mx<=800000000:=by decide):
  Ret prog 93 #[ptr bt,.slice a L.length c] w fun v w'=>∃F',v=.tuple #[.int .i64 (Kc A P L).2.2,.int .i64 (Kc A P L).1]/\Tx w' bt bd bp ba 362 (Kc A P L).2.1.A (TF A P L) F' []/\Grown (TM F ba bt bp []) (TM F' ba bt bp []) w w':=by
 have hg:=Ams ho hr;have hbF:L≠[]->Y4 362 A P L=Kc A P L:=fun h=>(if_neg h).symm;refine(Afh T PL hn hfew hmx fun _ h=>by rw[hbF h];exact hok).mono fun v w' h=>?_
 rcases h with⟨⟨i,hi,h⟩,-⟩|⟨-,h,hv,hx⟩|⟨-,h,F',hv,T',t'⟩
 .exact absurd (hg i hi) h
 .subst h;exact⟨F,hv,T.call hx,Grown.call hx⟩
 .rw[hbF h]at hv T';refine⟨F',hv,?_,t'⟩;unfold TF;rw[if_neg h];unfold Kc at T' |-;rw[if_neg h]at T' |-;exact T'
theorem Akf{M L:List Pr}{t:List (Byt × Int)}{S:List Nat}{h:Nat}(g:Gk w0 w p A P F J gen root n l o1 o2)(hM:Ek str (mi t) o2)(hnt:(t.map (·.1)).Nodup)(htk:∀q∈t,1<=q.1.length/\q.1.length<=32)(hkl:KL (EE l) L)(ho:OkP L)(hdiff:∀k,k∉t.map (·.1)->DO M k=DO L k)(TT:TreeAt 362 A P root M)(h01:∀s∈P,s=0\/s=1)(hnd:S.Nodup)(hS:∀x:Nat,x∈S↔P[x]?=some 1\/P[x]?=some 2)(hsort:(S.map fun x:Nat=>(x:Int)).Pairwise (·<=·))(hon:A.on=true)(hfew:Few A 0)(hh:(h:Int)=Jx A.B.length)(hroom:S.length+h<=P.length)(hm:FN 1500 (2*Bx L / 503+1)<=h)(hb:2*Bx L / 503+1<=1500)(htn:t.length<=100000:=by omega)(hLn:L.length<=100000:=by omega)(hl:362+P.length<=A.B.length:=by omega)(hA:A.B.length<=4096:=by omega)(hP:P.length<=2000:=by omega):
  Ret prog 53 #[ptr p.bs] w fun v w'=>v=.int .i64 (DX (BJ (EE l)) (CF (mi t)) L h A P root S).1/\∃F' root',Gk w0 w' p (DX (BJ (EE l)) (CF (mi t)) L h A P root S).2.2.1 (DX (BJ (EE l)) (CF (mi t)) L h A P root S).2.2.2 F' J gen root' n l o1 o2/\((DX (BJ (EE l)) (CF (mi t)) L h A P root S).1=0->root'=(DX (BJ (EE l)) (CF (mi t)) L h A P root S).2.1)/\Grown (Ms F p) (Ms F' p) w w':=by
 obtain⟨wI,rfl⟩:=qD w;obtain⟨f,hf⟩:=qD (BJ (EE l));obtain⟨ts,hts⟩:=qD (CF (mi t));have hstep:=Akc g hM hnt htn htk TT hon hl hP hfew;rw[<-hf,<-hts]at hstep |-
 have htm:∀k,k∈ts↔k∈t.map (·.1):=fun k=>by
  rw[hts];have h1:=(qce ((mi t).map (·.1)) fun x y=>decide (x<=y)).mem_iff (a:=k);rw[show(mi t).map (·.1)=t.map (·.1)by simp[qbi,qcr]]at h1;unfold CF;rw[show(mi t).map (·.1)=t.map (·.1)by simp[qbi,qcr]];exact h1
 have htl:ts.length<=100000:=by rw[hts,Mu,qai];exact htn
 obtain⟨s1,s2,s3⟩:=P9 (A0:=A) (P0:=P) (f:=f) (fun k v hv=>(ho (k,v) ((EU hkl.rise).1 (by rw[<-hkl.get,<-hf,hv]))).2.2) ts root A P M 0 (fun k hk=>by
  obtain⟨q,hq,rfl⟩:=qah.1 ((htm k).1 hk)
  exact htk q hq) TT hon hl hP hfew (Base9.start h01)
 rw[Vr TT.rise hkl.rise (fun k=>by rw[hf,hkl.get]) (fun k hk=>hdiff k fun h=>hk ((htm k).2 h))]at s3;obtain⟨e1,r1,A1,P1,hst⟩:∃e1 r1 A1 P1,Dn f ts root A P=(e1,r1,A1,P1):=⟨_,_,_,_,rfl⟩;unfold DX;rw[hst]at hstep s1 s2 s3 |-;dsimp only at hstep s1 s2 s3 |-;have H:=Ctx.start wI [];have hs:=Fo.at g.O (k:=0) rfl;refine A8 (fn:=Tryz.f53) func53 U [ptr p.bs] U (Ad (Ac U (qA (Ad (An U (A7 U (Af Jw U (Bd DV U ((by rw[Aq hs];rfl)) ?_))))))));refine Ac U (qA (Ad (An U (Aj qB hstep U ?_))));rintro v w1 ⟨rfl,F1,g1,G1⟩;refine Ac U (qA (Ar (Ad (BG (α:=Unit) 134152192 (fun _=>[(26,.bool (decide (e1≠7/\(e1≠0\/Hl P1<=h))))]) (fun _ w'=>w'=w1) U ?_ ?_))))
 .refine Ae U (Be U U (AF U (AQ 18 U ?_ ?_)))
  .intro h1;replace h1:=Bv h1;refine Ae U (Be U U (AF U (AQ 21 U ?_ ?_)))
   .intro h2;replace h2:=Bv h2;refine Ag U (Ag U (Ag U (AN U (.bool _) U (AN U (.bool _) U (Ab ?_)))));exact⟨rfl,(),rfl,⟨qab Value.bool (by rw[qar];have:=s1.blen;simp_all;try omega),trivial⟩,rfl⟩
   .intro h3;replace h3:=Bw h3;refine An U (Aj qB (Afi g1 (by rw[s1.blen];exact hA)) U ?_);rintro v w ⟨rfl,rfl⟩;refine Cl U (AM U (.bool _) U (AN U (.bool _) U (Ab ?_)));exact⟨rfl,(),rfl,⟨qab Value.bool (by rw[qar];have:=s1.blen;simp_all;try omega),trivial⟩,rfl⟩
  .intro h4;replace h4:=Bw h4;refine Ag U (Ag U (Ag U (Ag U (Ag U (Ag U (Ag U (AM U (.bool _) U (Ab ?_))))))));exact⟨rfl,(),rfl,⟨qab Value.bool (by rw[qar];have:=s1.blen;simp_all;try omega),trivial⟩,rfl⟩
 rintro - j26 w hw2;rw[hw2];clear H;refine Av _ U ?_ ?_
 .intro h1;have h1:=qb6 h1;rw[if_pos h1];refine Ad (Ae U (Ac U (qA (A6 (Ao (AG (v:=(.int _ _)) U U U ?_))))));refine⟨rfl,F1,_,g1,fun h2=>if_pos h2,G1⟩
 .intro h1;have h1:=qcx h1;rw[if_neg h1];have hbk:P1.map DC=P:=s1.back;rw[hbk]
  have hon1:A1.on=true:=by
   rcases s3 with⟨-,h2,-⟩|⟨h2,-,-⟩|⟨-,h2⟩
   .exact h2
   .exact absurd ⟨by rw[h2];decide,.inl (by rw[h2];decide)⟩ h1
   .exact h2
  have hs1:=Fo.at g1.O (k:=0) rfl;have TM1:=s1.old TT;obtain⟨S',td,hnd',hS'⟩:=TM1.told hon1 (by rw[s1.blen];exact hl) hP;have hperm:S'.Perm S:=(qd2 hnd' hnd).2 fun x=>(hS' x).trans (hS x).symm
  have hwk:Lu A1 362 P.length root=(0,S.map fun x:Nat=>(x:Int)):=by
   rw[td.walk]
   have h2:(Jh (S'.map fun x:Nat=>(x:Int))).Pairwise (·<=·):=by
    have:=qfd (le:=fun x y:Int=>decide (x<=y)) (fun a b c h1 h2=>by simp only[qaq]at *;omega) (fun a b=>by simp only[qcf,qaq];omega) (S'.map fun x:Nat=>(x:Int));exact this.imp fun h=>by simpa using h
   rw[qfj (le:=fun x y:Int=>x<=y) (fun a b _ _ h1 h2=>by omega) h2 hsort ((qce _ _).trans (hperm.map _))]
  have hnn:=td.num;have hr1:=td.rlo;have hr2:=td.rhi
  have hSl:S'.length<=2000:=by
   have h5:=hperm.length_eq;omega
  have hs4:Few A1 4000000:=s2.mono (by omega);have hspec:=Qo (A:=A1) (P:=P) (L:=L) (mx:=4000000) hon1 (by rw[s1.blen];exact hl) hP hs4 h01 hkl.rise ho hnd hS hroom hm hb
  have h99:(Kc A1 P L).1≠99:=by rcases hspec.2.2 with h|h <;> (have:=h.1;omega)
  have hwalk:=fun(z:World) (Tz:Tx z p.bt p.bd p.bp p.ba 362 A1 P F1 [])=>XJ Tz root hs4 (by decide);simp only[hwk]at hwalk;refine Ap (Aa (Ad (An U (A7 U (Af Jv U (Bd K2 U ((by rw[Aq hs1];rfl)) ?_))))));refine Aj qB (Ai1 g1.T.pg) U ?_;rw[hbk];rintro v w2 ⟨rfl,P2,hx2⟩;obtain⟨g2,G2⟩:=g1.page P2 hx2;refine qA (Ad (An U (A7 U (Af Kq U (Bd JL U ((by rw[Aq (Fo.at g2.O (k:=0) rfl)];rfl)) ?_)))));refine Ae U (Aj qB (hwalk _ g2.T) U ?_);rintro v w3 ⟨a39,c39,rfl,R39,hn39,hc39,hx39⟩;have g3:=g2.call hx39;have lt2:=g2.mlt;refine AW U (Ai U U (Ai U U (Ak U (Ac U (qA (Ar (Ad (Ae U (Be U U ?_)))))))));refine qA (Av _ U ?_ ?_)
  .intro h2;replace h2:=Bv h2;exact absurd U h2
  .intro h2;replace h2:=Bw h2
   have X39:∀{z:World} {F2:Mut},Grown (Ms F1 p) (Ms F2 p) w3 z->Rd z a39 1 (fun x:Int=>[.int .i64 x]) (S.map fun x:Nat=>(x:Int)):=fun{z F2} hz=>by
    rcases hn39 with h|h
    .rw[h];exact Rd.nil
    .exact(Rd.turnM R39 (.inr fun h5=>by have:=lt2 _ h5;omega) (by decide) (fun _ _=>rfl) hz).1
   have hsc:Qj l [] []=L:=by rw[Yh,hkl.scan,Px]
   have hscan:=Yg (Fo.at g3.O (k:=0) rfl) (Fo.at g3.O (k:=1) rfl) g3.K (by rw[show(mv l).map (·.1)=(EE l).map (·.1)by simp[EE,qbi,qcr]];exact hkl.nd) (by have:=hkl.len;rw[show(EE l).length=l.length from qai ..]at this;omega) none none 0 0 [] [] Rd.nil Rd.nil;rw[hsc]at hscan;have lt3:=g3.mlt;refine Ap (Aa (Ad (An U (Aj qB hscan U ?_))));rintro v w4 ⟨a47,c47,rfl,P47,hx47⟩;have g4:=g3.call hx47;refine AW U (Ai U U (Ai U U (Ak U (Ac U (qA (Ar (Ad (An U (An U ?_)))))))));refine A7 U (Af Kq U (Bd JL U ((by rw[Aq (Fo.at g4.O (k:=0) rfl)];rfl)) ?_));refine Ah U (Aj qB (Amt g4.T (Ake P47 fun x hx=>lt3 x (Vt x hx)) hLn hs4 ho hkl.rise h99) U ?_);rintro v w5 ⟨F5,rfl,T5,t5⟩;have g5:=g4.tree T5 t5;have G5:Grown (Ms F1 p) (Ms F5 p) w3 w5:=Grown.trans (Grown.call hx47) (Kd t5)
   have H:=Ctx.start1 (Fo.at g5.O (k:=0) rfl);refine AW U (Ai U U (Ai U U (A7 U (Af Jw U (Bf (.int _ _) HN U U U H at0 (by(simp;done)) ?_)))));rintro w H;refine Ac U (qA (Ad (Ae U (Be U U (qA (Av _ U ?_ ?_))))))
   .intro h3;replace h3:=Bv h3;rw[if_pos h3];have g6:=g5.set H;refine Ad (Ae U (Ac U (qA (A6 (Ao (AG (v:=(.int _ _)) U U U ?_))))));exact⟨rfl,F5,_,g6,fun h=>absurd h h3,Grown.trans G1 (Grown.trans G2 (Grown.trans (Grown.call hx39) (Grown.trans G5 (PA H))))⟩
   .intro h3;replace h3:=Bw h3;rw[if_neg (by rw[h3];simp)];have g6:=g5.set H;have G6:=Grown.trans G5 (PA (F:=F5) H);have hpl:(TF A1 P L).length=P.length:=hspec.1.len;obtain⟨w6,hw6⟩:=qD w;rw[<-hw6]at g6 G6 H |-;clear H;refine Ap (Aa (Ar (Ad (Ah U (AO FE U (Ae U (qA (AB (B6 302083880951067617264128 (α:=Nat) (fun i=>[(67,.int .i64 (i:Int))]) (fun i w'=>i<=S.length/\Gk w0 w' p (Kc A1 P L).2.1.A ((S.take i).foldl EC (TF A1 P L)) F5 J gen (Kc A1 P L).2.2 n l o1 o2/\Grown (Ms F1 p) (Ms F5 p) w3 w') (fun i=>S.length - i) 0 U ?_ ?_ ?_)))))))))
    .exact⟨rfl,trivial⟩
    .exact⟨qak _,g6,G6⟩
    .rintro i j w7 ⟨hi,g7,G7⟩;have H:=Ctx.start w7 [];refine Ad (Bj U U (qA (Ar (Av _ U ?_ ?_))))
     .intro h4;replace h4:=AR h4;obtain⟨k,hk⟩:=AP (l:=S) (i:=i) (h:=by simpa using h4);have hkI:(S.map fun x:Nat=>(x:Int))[i]?=some (k:Int):=by rw[qas,hk];rfl
      have hkl2:k<P.length:=by
       rcases(hS k).1 (qad hk)with h|h <;> exact(qap.1 h).1
      refine Ap (Aa (Ar (AB (Ad (AY (X39 G7) FE HN U U (hn:=by rfl) ?_)))));refine Bd DV U (((X39 G7).one (f:=fun x:Int => .int .i64 x) hkI)) ?_;refine Ac U (qA (Au (An U (A7 U (Af Jv U (Bd K2 U ((by rw[Aq (H.ext.to (Fo.at g7.O (k:=0) rfl) (by simp))];rfl)) ?_))))));refine Ae U (Aj qB (Xr (g7.call H.ext).T.pg k (by rw[Pv,hpl];exact hkl2)) U ?_);rintro v w8 ⟨⟨e8,rfl⟩,P8,hx8⟩;obtain⟨g8,G8⟩:=(g7.call H.ext).page P8 hx8;have G9:=Grown.trans G7 (Grown.trans (Grown.call H.ext) G8);clear H;refine Ab (AE (Aa (Au (Ay U U ?_))));refine Ae U (qA ?_);exact⟨i+1,rfl,⟨rfl,trivial⟩,⟨by have:=(qap.1 hk).1;omega,by rw[Bp hk,qdp];exact g8,G9⟩,by have:=(qap.1 hk).1;omega⟩
     .intro h4;replace h4:=AU h4;have hiS:i=S.length:=by simp at h4;omega
      subst hiS;rw[qbf]at g7;refine B2 (Aw (Aw (AZ (Aa (Ad (Ac U (qA (A6 (AG (v:=(.int _ _)) U U U ?_)))))))));exact⟨rfl,F5,_,g7,fun _=>rfl,Grown.trans G1 (Grown.trans G2 (Grown.trans (Grown.call hx39) G7))⟩
end
section
variable {P:Program}{ops rest:List Oper}{e:Env}{dst:Option Tmp}{ty:TypeId}{pos:String}{af:Array Edge}{g:Option (Nat × Bool)}{C:World->Prop}{K:Env->Prop}
theorem J8{fn:Fn}{x:Operand}(v:Value)(hg:AJ ⟨dst,.makeFunc fn #[x] #[],ty,pos,af,g⟩ ops e=true)(hx:ev e x=v)(h:Wt P ops C K rest (put e dst (.func fn #[v] #[]))) :
  Wt P ops C K (⟨dst,.makeFunc fn #[x] #[],ty,pos,af,g⟩::rest) e :=
 EA hg (fun w _=>by simp[execOp,hx,Instr.makeFunc]) h
theorem Qq{fn:Fn}{cap:Array Operand}(l:List Value)(hg:AJ ⟨dst,.makeFunc fn #[] cap,ty,pos,af,g⟩ ops e=true)(hl:cap.toList.map (ev e)=l)(h:Wt P ops C K rest (put e dst (.func fn #[] l.toArray))) :
  Wt P ops C K (⟨dst,.makeFunc fn #[] cap,ty,pos,af,g⟩::rest) e:=by
 have h1:cap.map (ev e)=l.toArray:=by subst hl;apply qcd;simp only[qcz]
 exact EA hg (fun w _=>by simp[execOp,h1,Instr.makeFunc]) h
end
section
variable {w0 w w':World}{p:Sp}{A A':Dev}{P P':List Nat}{F F':Mut}{J J':Jr}{gen gen':Nat}{root root' n:Int}{l:List (Byt × Sv)}{o1 o2 o2':Obj}
theorem Gk.own(g:Gk w0 w p A P F J gen root n l o1 o2):Own w0 w p.bd A F:=⟨g.x0,g.T.dev,fun x h=>⟨g.ge x (.inl (.inl h)),g.T.lt x h⟩⟩
theorem Gk.devs(g:Gk w0 w p A P F J gen root n l o1 o2)(O:Own w0 w' p.bd A' F')(t:Grown F F' w w'):Gk w0 w' p A' P F' J gen root n l o1 o2/\Grown (Ms F p) (Ms F' p) w w':=by
 obtain⟨T,t2⟩:=g.T.devs (F':=F') O.dev t.1 fun x hx=>(t.2 x hx).imp id fun h=>⟨h,(O.own x hx).2⟩;exact⟨g.tree T t2,Kd t2⟩
theorem Gk.turns{T:List Nat}(g:Gk w0 w p A P F J gen root n l o1 o2)(hx:Ext T w w')(hT:∀y∈T,y=p.bs\/y=p.m2\/y=p.bj)(hs:w'.heap[p.bs]?=some (Bl CU (CN (ptr p.bd) (ptr p.bj) (ptr p.bp) (ptr p.bt) gen' root' p.m1 p.m2 n false)))(h2:w'.heap[p.m2]?=some o2')(hj:w'.heap[p.bj]?=some (Bl TJ (JB p.bd J'))) :
  Gk w0 w' p A P F J' gen' root' n l o1 o2'/\Grown (Ms F p) (Ms F p) w w':=by
 have hb:∀y∈T,Ms F p y:=fun y hy=>by
  rcases hT y hy with rfl|rfl|rfl
  .exact .inr (by simp[Sp.own])
  .exact .inr (by simp[Sp.own])
  .exact .inl (.inr U)
 have hoff:∀y∈T,¬TM F p.ba p.bt p.bp [] y:=fun y hy=>by
  rcases hT y hy with rfl|rfl|rfl
  .exact g.O.off _ (qad (i:=0) U)
  .exact g.O.off _ (qad (i:=2) U)
  .exact g.O.off _ (qad (i:=3) U)
 have hTx:Tx w' p.bt p.bd p.bp p.ba 362 A P F [] :=
  ⟨hx.to g.T.tr fun h=>hoff _ h (.inr (.inr (.inl rfl))),g.T.pg.keep hx (fun h=>hoff _ h (.inr (.inr (.inr (.inl rfl))))) (fun h=>hoff _ h (.inr (.inl rfl))),g.T.dev.keep hx (fun y hy h=>hoff y hy (.inl h)),(fun x hx=>by cases hx),List.Pairwise.nil,(fun x hx=>by cases hx),g.T.nbt,g.T.nbp,g.T.nba,fun x hx2=>qau (g.T.lt x hx2) hx.size⟩
 have h1:p.m1∉T:=fun h=>by
  rcases hT _ h with h|h|h
  .exact absurd h (Dd g.O 1 0 U U)
  .exact absurd h (Dd g.O 1 2 U U)
  .exact absurd h (Dd g.O 1 3 U U)
 refine⟨⟨hTx,My g.O hx U fun y hy=>?_,⟨g.K.m,fun q hq=>⟨⟨Rdx.read (g.K.ok q hq).1 hx (fun y hy => .inl (hb y hy)),(g.K.ok q hq).1.2⟩,(g.K.ok q hq).2⟩,g.K.few⟩,g.x0.then hx fun y hy => .inr (g.ge y (hb y hy)),g.ge⟩,Turn.of hx hb,fun _ h => .inl h⟩;simp only[qac,qam,or_false]at hy
 rcases hy with rfl|rfl|rfl|rfl
 .exact .inl hs
 .exact .inr ⟨qad (i:=1) rfl,h1⟩
 .exact .inl h2
 .exact .inl hj
abbrev ckB(b39 b1 b4 b5 bs q:Nat)(z:Int)(fv:List Value):List (Nat × Obj):=[(b39,Bl 46 fv),(b5,Bl 74 [.int .u64 (q:Int)]),(b4,Bl 3 [.int .i64 z]),(b1,Bl 31 [ptr bs])]
theorem Afj{b39 b1 b4 b5 q pp mx:Nat}{fv:List Value}(g:Gk w0 w p A P F J gen root n l o1 o2)(Y:Fo w (Ms F p) (ckB b39 b1 b4 b5 p.bs q pp fv))(hr : -1<=root/\root<=4294967294)(hp:pp<4294967296)(hq:q<18446744073709551616)(hg:gen+1<18446744073709551616)(hfew:Few A mx)(hmx:mx<1000000000000:=by omega):
  Ret prog 55 #[ptr b1,ptr b4,ptr b5] w fun v w'=>v=.int .i64 (GO A (gen+1) (tpB root pp q))/\∃F',Gk w0 w' p (EB A (gen+1) (tpB root pp q)) P F' J gen root n l o1 o2/\Grown (Ms F p) (Ms F' p) w w':=by
 obtain⟨wI,rfl,H⟩:=qE w;have h1:=Fo.at Y (k:=3) rfl;have h4:=Fo.at Y (k:=2) rfl;have h5:=Fo.at Y (k:=1) rfl;have hs:=Fo.at g.O (k:=0) rfl;refine A8 (fn:=f55) func55 U [ptr b1,ptr b4,ptr b5] U ?_;refine Ad (Ac U (qA (BV [([0,1,2,3,4,5,6,7,8,9,10,11,12,13,14,15],16),([],17),([],18)] (fun z=>(z.heap[b1]?=some (Bl 31 [ptr p.bs])/\z.heap[b4]?=some (Bl 3 [.int .i64 (pp:Int)])/\z.heap[b5]?=some (Bl 74 [.int .u64 (q:Int)])/\z.heap[p.bs]?=some (Bl CU (CN (ptr p.bd) (ptr p.bj) (ptr p.bp) (ptr p.bt) gen root p.m1 p.m2 n false)))) [] mixed (⟨H.drew.ext.to h1 (by simp),H.drew.ext.to h4 (by simp),H.drew.ext.to h5 (by simp),H.drew.ext.to hs (by simp)⟩) ?_)));refine AD U U (BC F6 U (fun _ hx=>(by rw[Aq hx.1];rfl)) ?_);refine Bm U (AC Q4 U (BC Dm U (fun _ hx=>(by rw[Aq hx.2.2.2];rfl)) ?_))
 refine BC F6 U (fun _ hx=>(by rw[Aq hx.1];rfl)) ?_;refine Bm U (AC Q5 U (BC GH U (fun _ hx=>(by rw[Aq hx.2.2.2];rfl)) ?_));refine Um U U U ?_;rw[show((gen:Int)+1)=((gen+1:Nat):Int)by omega];refine BC F6 U (fun _ hx=>(by rw[Aq hx.1];rfl)) ?_;refine Bm U (AC Jw U (BC DV U (fun _ hx=>(by rw[Aq hx.2.2.2];rfl)) ?_));refine BC DV U (fun _ hx=>(by rw[Aq hx.2.1];rfl)) ?_;refine BC GH U (fun _ hx=>(by rw[Aq hx.2.2.1];rfl)) ?_;refine EP (tpC root pp q) Ahn Si (AV ?_);replace H:=H.drew;refine Aj qB (Abw root pp q _ hr hp hq) U ?_;rintro v w F10;obtain⟨a10,c10,rfl,R10,hc10,h10⟩:=Fresh.newB F10;replace H:=H.call F10.ext;refine Ab (Bb ((by exact⟨H.ext.to h1 (by simp),H.ext.to h4 (by simp),H.ext.to h5 (by simp),H.ext.to hs (by simp)⟩)) ?_);refine AD U U ?_
 refine AV (Aj qB (Xg (g.call H.ext).own (gen+1) hg a10 c10 _ (tpB root pp q) R10 U (by rw[DZ];decide) hfew hmx) U ?_);rintro v w ⟨rfl,F',O',G'⟩;obtain⟨g2,G2⟩:=(g.call H.ext).devs O' G';have Y2:=(Y.call (Grown.trans (Grown.call H.ext) G2)).1;refine Ab (Bb ((by exact⟨Fo.at Y2 (k:=3) rfl,Fo.at Y2 (k:=2) rfl,Fo.at Y2 (k:=1) rfl,Fo.at g2.O (k:=0) rfl⟩)) ?_);refine AD U U (AV (Ac U (Ab (Bb ((by exact⟨Fo.at Y2 (k:=3) rfl,Fo.at Y2 (k:=2) rfl,Fo.at Y2 (k:=1) rfl,Fo.at g2.O (k:=0) rfl⟩)) ?_))));refine B4 (A6 (AG (v:=(.int _ _)) U U U ?_));exact⟨rfl,F',g2,Grown.trans (Grown.call H.ext) G2⟩
theorem Afk{b39 b1 b4 b5 q pp:Nat}{fv:List Value}{t:List (Byt × Int)}(g:Gk w0 w p A P F J gen root n l o1 o2)(hM:Ek str (mi t) o2)(Y:Fo w (Ms F p) (ckB b39 b1 b4 b5 p.bs q pp fv))(hg:gen+1<18446744073709551616) :
  Ret prog 58 #[ptr b1] w fun v w'=>v=.int .i64 0/\∃o2',Gk w0 w' p A P F J (gen+1) root n l o1 o2'/\Ek str ([]:List (Byt × Value)) o2'/\Grown (Ms F p) (Ms F p) w w':=by
 obtain⟨wI,rfl⟩:=qD w;have h1:=Fo.at Y (k:=3) rfl;have hs:=Fo.at g.O (k:=0) rfl;have h2:=Fo.at g.O (k:=2) rfl;have hne:=Dd g.O 0 2 rfl rfl;have hbj:=CV g.O (k:=3) rfl [0,2] rfl
 have hb1:b1∉[p.bs,p.m2]:=by
  have h3:=Y.off (b1,Bl 31 [ptr p.bs]) (by simp);intro h;simp only[qac,qam,or_false]at h
  rcases h with rfl|rfl
  .exact h3 (.inr (by simp[Sp.own]))
  .exact h3 (.inr (by simp[Sp.own]))
 have H:=Ctx.startL (w:=wI) (L:=[(p.bs,Bl CU (CN (ptr p.bd) (ptr p.bj) (ptr p.bp) (ptr p.bt) gen root p.m1 p.m2 n false)),(p.m2,o2)]) (fun y hy=>by
  simp only[qac,qam,or_false]at hy
  rcases hy with rfl|rfl
  .exact hs
  .exact h2) (by simpa using hne)
 refine A8 (fn:=f58) func58 U [ptr b1] U (Ad (Ac U (qA (Ad (Bd F6 U ((by rw[Aq (H.ext.to h1 hb1)];rfl)) ?_)))));refine A7 U (Af Q5 U (AH GH U H at0 U (Kh U U U ?_)));rw[show((gen:Int)+1)=((gen+1:Nat):Int)by omega];refine A7 U (Af Q5 U (Bf (.int _ _) WV U U U H at0 (by(simp;done)) ?_));rintro w H;refine qA (Ad (Bd F6 U ((by rw[Aq (H.ext.to h1 hb1)];rfl)) ?_));refine A7 U (Af Q6 U (AH Aa7 U H at0 U (Uu (V:=str) (κ:=Byt) U Sd U H at1 hM ?_)));rintro o2' w hM2 H2;refine qA (Ad (Ac U (qA (A6 (AG (v:=(.int _ _)) U U U ?_)))))
 obtain⟨g2,G2⟩:=g.turns (J':=J) (gen':=gen+1) (root':=root) (o2':=o2') H2.ext (fun y hy=>by
  simp only[qaz,qbo,qac,qam,or_false]at hy
  rcases hy with h|h
  .exact .inl h
  .exact .inr (.inl h)) (H2.get at0) (H2.get at1) (H2.ext.to (Fo.at g.O (k:=3) U) hbj)
 exact⟨rfl,o2',g2,hM2,G2⟩
end
section
variable {w0 wb w w':World}{p:Sp}{A A':Dev}{P P':List Nat}{F F':Mut}{J J':Jr}{gen gen':Nat}{root root' n:Int}{l:List (Byt × Sv)}{o1 o2 o2':Obj}{b39 b1 b4 b5 q pp:Nat}{G:Int × Int × Dev × List Nat}{t:List (Byt × Int)}
abbrev ckF(b1 b4 b5:Nat)(p:Sp):List Value:=[.func (.func 53) #[ptr p.bs] #[],.func (.func 54) #[ptr p.bd] #[],.func (.func 55) #[] #[ptr b1,ptr b4,ptr b5],.func (.func 56) #[ptr p.bp] #[],.func (.func 57) #[ptr p.bj] #[],.func (.func 58) #[] #[ptr b1]]
abbrev OG(G:Int × Int × Dev × List Nat):Dev:=Cq G.2.2.1
abbrev TG(G:Int × Int × Dev × List Nat)(pp q:Nat):Byt:=tpB G.2.1 pp q
abbrev Y5(G:Int × Int × Dev × List Nat)(gen pp q:Nat):Dev:=EB (OG G) (gen+1) (TG G pp q)
def Gok(G:Int × Int × Dev × List Nat):Prop:=G.1=0 /\ -1<=G.2.2.1.left
def Akg(G:Int × Int × Dev × List Nat)(gen pp q:Nat)(e:Int)(A':Dev):Prop :=
 (G.1=e/\A'=G.2.2.1)\/(Gok G/\Ds G.2.2.1=e/\A'=OG G)\/(Gok G/\Ds G.2.2.1=0/\GO (OG G) (gen+1) (TG G pp q)=e/\A'=Y5 G gen pp q)
structure Cs9(w0 wb w:World)(p:Sp)(F:Mut)(b39 b1 b4 b5 q pp:Nat)(A:Dev)(P:List Nat)(F':Mut)(J:Jr)(gen:Nat)(root n:Int)(l:List (Byt × Sv))(o1 o2:Obj):Prop where
 g:Gk w0 w p A P F' J gen root n l o1 o2
 Y:Fo w (Ms F' p) (ckB b39 b1 b4 b5 p.bs q pp (ckF b1 b4 b5 p))
 G:Grown (Ms F p) (Ms F' p) wb w
def ckI(w0 wb:World)(p:Sp)(F:Mut)(b39 b1 b4 b5 q pp:Nat)(A:Dev)(P:List Nat)(G:Int × Int × Dev × List Nat)(J:Jr)(gen:Nat)(root n:Int)(l:List (Byt × Sv))(o1 o2:Obj):Nat->World->Prop
 |0,w'=>∃F',Cs9 w0 wb w' p F b39 b1 b4 b5 q pp A P F' J gen root n l o1 o2
 |1,w'=>Gok G/\∃F',Cs9 w0 wb w' p F b39 b1 b4 b5 q pp G.2.2.1 G.2.2.2 F' J gen G.2.1 n l o1 o2
 |2,w'=>(Gok G/\Ds G.2.2.1=0)/\∃F',Cs9 w0 wb w' p F b39 b1 b4 b5 q pp (OG G) G.2.2.2 F' J gen G.2.1 n l o1 o2
 |3,w'=>(Gok G/\Ds G.2.2.1=0/\GO (OG G) (gen+1) (TG G pp q)=0)/\∃F',Cs9 w0 wb w' p F b39 b1 b4 b5 q pp (Y5 G gen pp q) G.2.2.2 F' J gen G.2.1 n l o1 o2
 |4,w'=>(Gok G/\Ds G.2.2.1=0/\GO (OG G) (gen+1) (TG G pp q)=0)/\∃F',Cs9 w0 wb w' p F b39 b1 b4 b5 q pp (Y5 G gen pp q) (G.2.2.2.map BN) F' J gen G.2.1 n l o1 o2
 |5,w'=>(Gok G/\Ds G.2.2.1=0/\GO (OG G) (gen+1) (TG G pp q)=0)/\∃F',Cs9 w0 wb w' p F b39 b1 b4 b5 q pp (Y5 G gen pp q) (G.2.2.2.map BN) F' { J with taken:=0 } gen G.2.1 n l o1 o2
 |_,w'=>(Gok G/\Ds G.2.2.1=0/\GO (OG G) (gen+1) (TG G pp q)=0)/\∃F' o2',Cs9 w0 wb w' p F b39 b1 b4 b5 q pp (Y5 G gen pp q) (G.2.2.2.map BN) F' { J with taken:=0 } (gen+1) G.2.1 n l o1 o2'/\Ek str (mi []) o2'
theorem Cs9.at(h:Cs9 w0 wb w p F b39 b1 b4 b5 q pp A P F' J gen root n l o1 o2):w.heap[b39]?=some (Bl 46 (ckF b1 b4 b5 p)):=Fo.at h.Y (k:=0) rfl
theorem Apy{i:Nat}(h:ckI w0 wb p F b39 b1 b4 b5 q pp A P G J gen root n l o1 o2 i w):w.heap[b39]?=some (Bl 46 (ckF b1 b4 b5 p)):=by
 match i,h with
 |0,⟨_,h⟩=>exact h.at
 |1,⟨_,_,h⟩=>exact h.at
 |2,⟨_,_,h⟩=>exact h.at
 |3,⟨_,_,h⟩=>exact h.at
 |4,⟨_,_,h⟩=>exact h.at
 |5,⟨_,_,h⟩=>exact h.at
 |_+6,⟨_,_,_,h,_⟩=>exact h.at
theorem Cs9.next{F2:Mut}{A2:Dev}{P2:List Nat}{J2:Jr}{gen2:Nat}{root2:Int}{o22:Obj}(h:Cs9 w0 wb w p F b39 b1 b4 b5 q pp A P F' J gen root n l o1 o2)(g:Gk w0 w' p A2 P2 F2 J2 gen2 root2 n l o1 o22)(t:Grown (Ms F' p) (Ms F2 p) w w'):Cs9 w0 wb w' p F b39 b1 b4 b5 q pp A2 P2 F2 J2 gen2 root2 n l o1 o22 :=
 ⟨g,(h.Y.call t).1,h.G.trans t⟩
def ckE(w0 wb:World)(p:Sp)(F:Mut)(b39 b1 b4 b5 q pp:Nat)(G:Int × Int × Dev × List Nat)(J:Jr)(gen:Nat)(n:Int)(l:List (Byt × Sv))(o1 o2:Obj)(e:Int)(w':World):Prop :=
 ∃A' P' F' root',Cs9 w0 wb w' p F b39 b1 b4 b5 q pp A' P' F' J gen root' n l o1 o2/\Akg G gen pp q e A'
theorem ckAll{mx:Nat}(h0:ckI w0 wb p F b39 b1 b4 b5 q pp A P G J gen root n l o1 o2 0 wb)(hM:Ek str (mi t) o2)(hJ:J.dead=false)(hgrow:∀(z:World) (F1:Mut),Gk w0 z p A P F1 J gen root n l o1 o2->Ret prog 53 #[ptr p.bs] z fun v w'=>v=.int .i64 G.1/\∃F' root',Gk w0 w' p G.2.2.1 G.2.2.2 F' J gen root' n l o1 o2/\(G.1=0->root'=G.2.1)/\Grown (Ms F1 p) (Ms F' p) z w')(hfew:Few G.2.2.1 mx)(hmx:mx<=1000000000)(hr:G.1=0 -> -1<=G.2.1/\G.2.1<=4294967294)(hp:pp<4294967296)(hq:q<18446744073709551616)(hg:gen+1<18446744073709551616) :
  Ret prog 37 #[.slice (some ⟨b39,0,none⟩) 6 6] wb fun v w'=>∃e,v=.int .i64 e/\((e=0/\ckI w0 wb p F b39 b1 b4 b5 q pp A P G J gen root n l o1 o2 6 w')\/(e≠0/\ckE w0 wb p F b39 b1 b4 b5 q pp G J gen n l o1 o2 e w')):=by
 refine VZ (E:=ckE w0 wb p F b39 b1 b4 b5 q pp G J gen n l o1 o2) (ckF b1 b4 b5 p) wb (by simp) (I:=ckI w0 wb p F b39 b1 b4 b5 q pp A P G J gen root n l o1 o2) h0 (fun i w' h=>Apy h) (fun v hv=>?_) (fun i f fi caps w' hi h=>?_)
 .simp only[qac,qam,or_false]at hv
  rcases hv with rfl|rfl|rfl|rfl|rfl|rfl <;> exact⟨_,_,_,rfl⟩
 .match i,hi,h with
  |0,hi,⟨F1,h⟩ =>
   cases hi;refine⟨by kernel_rfl,(hgrow w' F1 h.g).mono fun v w'' ⟨hv,F2,r2,g2,hr2,G2⟩=>⟨G.1,hv,?_⟩⟩
   by_cases he:G.1=0
   .exact .inl ⟨he,⟨he,g2.T.dev.wf.left⟩,F2,by have:=h.next g2 G2;rw[hr2 he]at this;exact this⟩
   .exact .inr ⟨he,_,_,F2,r2,h.next g2 G2,.inl ⟨rfl,rfl⟩⟩
  |1,hi,⟨he0,F1,h⟩ =>
   cases hi;refine⟨by kernel_rfl,(Me hfew h.g.T.dev).mono fun v w'' ⟨hv,hD,hT⟩=>⟨Ds G.2.2.1,hv,?_⟩⟩;obtain⟨g2,G2⟩:=h.g.devs (h.g.own.same hD hT).1 (h.g.own.same hD hT).2
   by_cases he:Ds G.2.2.1=0
   .exact .inl ⟨he,⟨he0,he⟩,F1,h.next g2 G2⟩
   .exact .inr ⟨he,_,_,F1,_,h.next g2 G2,.inr (.inl ⟨he0,rfl,rfl⟩)⟩
  |2,hi,⟨⟨he0,he1⟩,F1,h⟩ =>
   cases hi;refine⟨by kernel_rfl,(Afj h.g h.Y (hr he0.1) hp hq hg (IF hfew)).mono fun v w'' ⟨hv,F2,g2,G2⟩=>⟨_,hv,?_⟩⟩
   by_cases he:GO (OG G) (gen+1) (TG G pp q)=0
   .exact .inl ⟨he,⟨he0,he1,he⟩,F2,h.next g2 G2⟩
   .exact .inr ⟨he,_,_,F2,_,h.next g2 G2,.inr (.inr ⟨he0,he1,rfl,rfl⟩)⟩
  |3,hi,⟨he,F1,h⟩ =>
   cases hi;refine⟨by kernel_rfl,(Z9 h.g.T.pg).mono fun v w'' ⟨hv,hP,hx⟩=>⟨0,hv,.inl ⟨rfl,he,F1,?_⟩⟩⟩;obtain⟨g2,G2⟩:=h.g.page hP hx
   exact h.next g2 G2
  |4,hi,⟨he,F1,h⟩ =>
   cases hi;refine⟨by kernel_rfl,(ZP (Fo.at h.g.O (k:=3) rfl)).mono fun v w'' ⟨hv,hb,hx⟩=>⟨0,by rw[hv,hJ];rfl,.inl ⟨rfl,he,F1,?_⟩⟩⟩;rw[if_neg (by rw[hJ];decide)]at hb;have hn0:p.bs∉[p.bj]:=CV h.g.O (k:=0) rfl [3] rfl;have hn2:p.m2∉[p.bj]:=CV h.g.O (k:=2) rfl [3] rfl;obtain⟨g2,G2⟩:=h.g.turns (J':={ J with taken:=0 }) (gen':=gen) (root':=G.2.1) (o2':=o2) hx (fun y hy => .inr (.inr (qaa.1 hy))) (hx.to (Fo.at h.g.O (k:=0) rfl) hn0) (hx.to (Fo.at h.g.O (k:=2) rfl) hn2) hb
   exact h.next g2 G2
  |5,hi,⟨he,F1,h⟩ =>
   cases hi;refine⟨by kernel_rfl,(Afk h.g hM h.Y hg).mono fun v w'' ⟨hv,o2',g2,hM2,G2⟩=>⟨0,hv,.inl ⟨rfl,he,F1,o2',h.next g2 G2,hM2⟩⟩⟩
theorem ckEnd{e:Int}(h:(e=0/\ckI w0 wb p F b39 b1 b4 b5 q pp A P G J gen root n l o1 o2 6 w)\/(e≠0/\ckE w0 wb p F b39 b1 b4 b5 q pp G J gen n l o1 o2 e w)):∃A' P' F' J' gen' root' o2',Cs9 w0 wb w p F b39 b1 b4 b5 q pp A' P' F' J' gen' root' n l o1 o2':=by
 rcases h with⟨-,-,F',o2',h,-⟩|⟨-,A',P',F',root',h,-⟩
 .exact⟨_,_,_,_,_,_,_,h⟩
 .exact⟨_,_,_,_,_,_,_,h⟩
def CkRes(w0 w:World)(p:Sp)(F:Mut)(q pp:Nat)(G:Int × Int × Dev × List Nat)(J:Jr)(gen:Nat)(n:Int)(l:List (Byt × Sv))(o1:Obj)(v:Value)(w':World):Prop :=
 (v=.int .i64 0/\(Gok G/\Ds G.2.2.1=0/\GO (OG G) (gen+1) (TG G pp q)=0)/\∃F' o2',Gk w0 w' p (Y5 G gen pp q) (G.2.2.2.map BN) F' { J with taken:=0 } (gen+1) G.2.1 n l o1 o2'/\Ek str (mi []) o2'/\Grown (Ms F p) (Ms F' p) w w') \/
 (∃e A' F' root',v=.int .i64 e/\e≠0/\Akg G gen pp q e A'/\Own w0 w' p.bd A' F'/\¬F' p.bs/\w'.heap[p.bs]?=some (Bl CU (CN (ptr p.bd) (ptr p.bj) (ptr p.bp) (ptr p.bt) gen root' p.m1 p.m2 n true))/\Grown (Ms F p) (Ms F' p) w w')
theorem Afl{mx:Nat}(g:Gk w0 w p A P F J gen root n l o1 o2)(hM:Ek str (mi t) o2)(hJ:J.dead=false)(hgrow:∀(z:World) (F1:Mut),Gk w0 z p A P F1 J gen root n l o1 o2->Ret prog 53 #[ptr p.bs] z fun v w'=>v=.int .i64 G.1/\∃F' root',Gk w0 w' p G.2.2.1 G.2.2.2 F' J gen root' n l o1 o2/\(G.1=0->root'=G.2.1)/\Grown (Ms F1 p) (Ms F' p) z w')(hfew:Few G.2.2.1 mx)(hr:G.1=0 -> -1<=G.2.1/\G.2.1<=4294967294)(hp:J.at'<4294967296)(hq:J.seq<18446744073709551616)(hmx:mx<=1000000000:=by decide)(hg:gen+1<18446744073709551616:=by omega):
  Ret prog 16 #[ptr p.bs] w (CkRes w0 w p F J.seq J.at' G J gen n l o1):=by
 obtain⟨wI,rfl,H⟩:=qE w;have hs:=Fo.at g.O (k:=0) rfl;have hj:=Fo.at g.O (k:=3) rfl;have lt:=g.mlt;refine A8 (fn:=f16) func16 U [ptr p.bs] U (Ad (Cu _ (.pointer _) U U H ?_));rintro b1 w - H;refine Ac U (qA (Ar (Ad (AH F6 U H at0 U (Aj qB (JX (H.ext.to hs (by simp))) U ?_)))));rintro v w ⟨rfl,rfl⟩;refine Ac U (qA (Ad (Ae U (Be U U (qA (Av _ U ?_ ?_))))))
 .intro h1;replace h1:=Bv h1;exact absurd U h1
 .intro h1;replace h1:=Bw h1;refine Ap (Aa (Ad (AH F6 U H at0 U (A7 U (Af Mc U (Bd MI U ((by rw[Aq (H.ext.to hs (by simp))];rfl)) ?_))))));refine Aj qB (Acc (H.ext.to hj (by simp))) U ?_;rintro v w ⟨rfl,hx16⟩;replace H:=H.call hx16;refine AW U (Ai U U (Ai U U (Bi Zv H ?_)));rintro b4 w - H;refine Bi zc_74 H ?_;rintro b5 w - H;refine Bf (.int _ _) HN U U U H at1 (by decide) ?_;rintro w H;refine Bf (.int _ _) WV U U U H at0 (by decide) ?_;rintro w H;refine qA (BV [([0,1,2,3,4,5,6,7,8,9,10,11,12,13,14,15,16,17,18,19],20),([],21),([],22),([],23)] (fun z=>(z.heap[b1]?=some (Bl 31 [ptr p.bs])/\∃(gen':Nat) (root' n':Int) (dd:Bool),z.heap[p.bs]?=some (Bl CU (CN (ptr p.bd) (ptr p.bj) (ptr p.bp) (ptr p.bt) gen' root' p.m1 p.m2 n' dd)))) [] mixed (⟨H.drew.get at2,gen,root,n,false,H.drew.ext.to hs (by simp)⟩) ?_);refine AD U U ?_
  refine BC F6 U (fun _ hx=>(by rw[Aq hx.1];rfl)) ?_;refine BC F6 U (fun _ hx=>(by rw[Aq hx.1];rfl)) ?_;refine J8 (ptr p.bs) U U (BC F6 U (fun _ hx=>(by rw[Aq hx.1];rfl)) ?_);refine Bm U (AC Q4 U (BC Dm U (fun _ hx=>(by obtain⟨_,_,_,_,_,hx2⟩:=hx;rw[Aq hx2];rfl)) ?_));refine J8 (ptr p.bd) U U (Qq [.pointer _,.pointer _,.pointer _] U U ?_);refine BC F6 U (fun _ hx=>(by rw[Aq hx.1];rfl)) ?_;refine Bm U (AC Jv U (BC K2 U (fun _ hx=>(by obtain⟨_,_,_,_,_,hx2⟩:=hx;rw[Aq hx2];rfl)) ?_));refine J8 (ptr p.bp) U U (BC F6 U (fun _ hx=>(by rw[Aq hx.1];rfl)) ?_);refine Bm U (AC Mc U (BC MI U (fun _ hx=>(by obtain⟨_,_,_,_,_,hx2⟩:=hx;rw[Aq hx2];rfl)) ?_));refine J8 (ptr p.bj) U U (Qq [.pointer _] U U ?_);refine AV ?_;replace H:=H.drew;refine Cc (ckF b1 b4 b5 p) Pa WU Abk H ?_
  rintro b39 w39 - H;have hx39:=H.ext;refine Ab (Bb (⟨H.get at3,gen,root,n,false,H.ext.to hs (by simp)⟩) ?_);refine AD U U (AV (Aj qB (ckAll (wb:=w39) (p:=p) (F:=F) (b39:=b39) (b1:=b1) (b4:=b4) (b5:=b5) (q:=J.seq) (pp:=J.at') (A:=A) (P:=P) (G:=G) (J:=J) (gen:=gen) (root:=root) (n:=n) (l:=l) (o1:=o1) (o2:=o2) (t:=t) ⟨F,g.call hx39,ZW H lt (List.Sublist.refl _),Grown.call (Ext.refl _ _)⟩ hM hJ hgrow hfew hmx hr hp hq hg) U ?_));clear H;rintro v w40 ⟨e,rfl,h40⟩;obtain⟨A4,P4,F4,J4,gen4,root4,o24,h4⟩:=ckEnd h40;have hs4:=Fo.at h4.g.O (k:=0) rfl;have hb14:=Fo.at h4.Y (k:=3) rfl;have hS40:w40.heap[b1]?=some (Bl 31 [ptr p.bs])/\∃(gen':Nat) (root' n':Int) (dd:Bool),w40.heap[p.bs]?=some (Bl CU (CN (ptr p.bd) (ptr p.bj) (ptr p.bp) (ptr p.bt) gen' root' p.m1 p.m2 n' dd)):=⟨hb14,gen4,root4,n,false,hs4⟩;refine Ab (Bb (hS40) (AD U U ?_));refine AV (Aj qB (XU (Ctx.start1 hs4) e) U ?_)
  rintro v w41 ⟨rfl,H6⟩;have hnb:b1∉[p.bs]:=(fun h5=>h4.Y.off (b1,Bl 31 [ptr p.bs]) (by simp) (by rw[qaa.1 h5];exact .inr (by simp[Sp.own])));have hS41:w41.heap[b1]?=some (Bl 31 [ptr p.bs])/\∃(gen':Nat) (root' n':Int) (dd:Bool),w41.heap[p.bs]?=some (Bl CU (CN (ptr p.bd) (ptr p.bj) (ptr p.bp) (ptr p.bt) gen' root' p.m1 p.m2 n' dd)):=⟨H6.ext.to hb14 hnb,gen4,root4,n,_,H6.get at0⟩;refine Ab (Bb (hS41) (AD U U ?_));refine AV (Ac U (Ab (Bb (hS41) (B4 (A6 (AG (v:=(.int _ _)) U U U ?_))))));have htl:∀{F5:Mut},Grown (Ms F5 p) (Ms F5 p) w40 w41:=fun{F5}=>⟨Turn.of H6.ext fun y hy => .inr (by rw[qaa.1 hy];simp[Sp.own]),fun _ h => .inl h⟩
  have hsame:∀{g5:Nat} {r5:Int},w40.heap[p.bs]?=some (Bl CU (CN (ptr p.bd) (ptr p.bj) (ptr p.bp) (ptr p.bt) g5 r5 p.m1 p.m2 n false))->gen4=g5/\root4=r5:=fun{g5 r5} h5=>by
   have h6:=hs4.symm.trans h5;have h7:(gen4:Int)=g5/\root4=r5:=by simpa[Bl,CN]using h6
   exact⟨by omega,h7.2⟩
  rcases h40 with⟨rfl,he,F5,o25,h5,hM5⟩|⟨he,A5,P5,F5,root5,h5,hbad⟩
  .obtain⟨hg4,hr4⟩:=hsame (Fo.at h5.g.O (k:=0) rfl);rw[hg4,hr4]at H6;refine .inl ⟨rfl,he,F5,o25,h5.g.set H6,hM5,Grown.trans (Grown.trans (Grown.call hx39) h5.G) htl⟩
  .obtain⟨hg4,hr4⟩:=hsame (Fo.at h5.g.O (k:=0) rfl);rw[hg4,hr4]at H6;have hnF:¬F5 p.bs:=fun h=>h5.g.O.off _ (qad (i:=0) rfl) (.inl h);have hb:=H6.get at0;rw[qag he]at hb;exact .inr ⟨e,A5,F5,root5,rfl,he,hbad,h5.g.own.over H6.ext (fun y hy=>by rw[qaa.1 hy];exact hnF) (fun y hy=>by rw[qaa.1 hy];exact g.ge p.bs (.inr (by simp[Sp.own]))),hnF,hb,Grown.trans (Grown.trans (Grown.call hx39) h5.G) htl⟩
end
section
variable {N b:Nat}{A:Dev}{R:Rj}{V V':Nat->Byt}{gen:Nat}{root:Int}{M L:List Pr}{S:List Nat}{Ws:List (List Wr)}{x:Sx}
theorem HB(h:Pend A N V (fun _=>[])){q:Nat}(hq:q<N):A.B.getD q (zeros,[])=(V q,[]):=by rw[qa9,h.get q hq];rfl
theorem Alv.tree(a:Alv N A R x M S Ws L b):TreeAt 362 A x.P x.root M:=by
 refine⟨⟨S,a.d.tr.frame fun y hy=>?_,a.d.nd,a.mem⟩,a.d.rise,a.d.ok⟩;unfold RD RV;rw[HB a.sg.pend (by have:=a.d.low y hy;omega)];rfl
theorem SG.forget(g:SG N A R V)(hq:R.seq+R.L.length<=8000000000000000000):SG N A R.forget V:=⟨Vd g.ok hq,g.fit,g.lim,g.on,g.left,g.pend,g.held.forget⟩
theorem Vv{t:List (Byt × Int)}{k:Byt}:k∈CF (mi t)↔k∈t.map (·.1):=by
 have h1:=(qce ((mi t).map (·.1)) fun x y=>decide (x<=y)).mem_iff (a:=k);have h2:(mi t).map (·.1)=t.map (·.1):=by simp[qbi,qcr]
 unfold CF;rw[h2]at h1 |-;exact h1
theorem Y6(P:List Nat)(y:Nat):y∈Hj P P.length↔P[y]?=some 1\/P[y]?=some 2:=by
 unfold Hj;rw[qbj,qdc];unfold Jz;rw[qcf,qaq,qaq];exact⟨And.right,fun h=>⟨h.elim (fun h=>(qap.1 h).1) fun h=>(qap.1 h).1,h⟩⟩
theorem Acw(P:List Nat):(Hj P P.length).Nodup:=List.nodup_range.filter _
theorem Alv.keys(a:Alv N A R x M S Ws L b):(x.t.map (·.1)).Nodup/\x.t.length<=28800/\(∀q∈x.t,1<=q.1.length/\q.1.length<=32)/\∀k,k∉x.t.map (·.1)->DO M k=DO L k:=by
 obtain⟨h1,h2,h3⟩:=Qp (W:=Ws.flatten) (t:=[]) qcb;rw[<-a.t]at h1 h2 h3;have hn:=(a.d.num2 a.sg.ok).1;refine⟨h1,by rw[qby]at h3;omega,fun q hq=>?_,fun k hk=>?_⟩
 .obtain⟨y,hy,he⟩:=((h2 q.1).1 (qah.2 ⟨q,hq,rfl⟩)).resolve_left (by simp);have:=a.d.fewW y hy;unfold Wr.Few at this;rw[<-he];omega
 .rw[a.d.l,Vl a.d.rise fun y hy he=>hk ((h2 k).2 (.inr ⟨y,hy,he⟩))]
abbrev ckG(N:Nat)(A:Dev)(x:Sx)(L:List Pr):Int × Int × Dev × List Nat:=DX (BJ x.kv) (CF (mi x.t)) L ((N - 362) / 2) A x.P x.root (Hj x.P x.P.length)
theorem Alv.grow(a:Alv N A R x M S Ws L b):Base9 A x.P (ckG N A x L).2.2.1 (ckG N A x L).2.2.2/\Few (ckG N A x L).2.2.1 2000000/\(((ckG N A x L).1=8/\A.left ≠ -1/\(ckG N A x L).2.2.1.on=false)\/((ckG N A x L).1=0/\(ckG N A x L).2.2.1.on=true/\TreeAt 362 (ckG N A x L).2.2.1 (ckG N A x L).2.2.2 (ckG N A x L).2.1 L/\Hl (ckG N A x L).2.2.2<=(N - 362) / 2)):=by
 obtain⟨k1,k2,k3,k4⟩:=a.keys;have hn:=a.d.n;have hlen:=a.sg.len;have hP:=a.len;have hh:=II a.d.nd a.mem;have hhalf:=a.d.half;obtain⟨m1,m2⟩:=a.d.most
 obtain⟨g1,g2,g3⟩:=Afc (f:=BJ x.kv) (ts:=CF (mi x.t)) (h:=(N - 362) / 2) (L:=L) (S:=Hj x.P x.P.length) a.tree a.p01 (Acw _) (Y6 _) a.sg.on a.sg.good.few a.d.riseL a.d.okL a.kl.get (fun k hk=>k4 k fun h=>hk (Vv.2 h)) (fun k hk=>by
  obtain⟨q,hq,rfl⟩:=qah.1 (Vv.1 hk)
  exact k3 q hq) (by unfold Hl at hh;omega) m1 m2
 refine⟨g1,g2.mono ?_,g3⟩;rw[Mu,qai];omega
theorem Alv.loo(a:Alv N A R x M S Ws L b){A':Dev}{P':List Nat}(h:Base9 A x.P A' P'):Loo N x.V (fun q=>∃y:Nat,x.P[y]?=some 0/\q=362+y) A':=by
 refine⟨h.blen.trans a.sg.len,fun q hq hn=>?_⟩;have h1:=h.blk q fun y hy he=>hn ⟨y,hy,he⟩;rw[HB a.sg.pend hq]at h1;obtain⟨z,hz⟩:=AP (l:=A'.B) (i:=q) (h:=by rw[h.blen,a.sg.len];exact hq);rw[qa9,hz]at h1;rw[hz];exact qab some h1
theorem Alv.back(a:Alv N A R x M S Ws L b){D:Dev}(h:Loo N x.V (fun q=>∃y:Nat,x.P[y]?=some 0/\q=362+y) D)(ho:D.on=false){b':Nat}(hb:b<=b')(picks:List Int):Bk N b' L (onD D picks):=by
 obtain⟨k1,k2,V',k3,k4⟩:=h.on ho picks;have hz:=a.d.z;have hn:=a.d.n;have hne:∀q,q<362->¬ ∃y:Nat,x.P[y]?=some 0/\q=362+y:=fun q hq ⟨y,_,he⟩=>by omega
 refine⟨k2,R,V',x.gen,x.root,M,S,Ws,a.sg.put k1 (by omega) k3 fun q h1 h2=>k4 q (by omega) (hne q (by omega)),a.d.congr (fun q hq=>k4 q (by omega) (hne q (by omega))) (fun y hy=>k4 _ (by have:=a.d.low y hy;omega) fun⟨z,h1,h2⟩=>?_),qaw a.gen hb,a.seq.1,qaw a.seq.2 hb⟩;obtain rfl:y=z:=by omega
 rcases(a.mem y).1 hy with h|h <;> (rw[h1]at h;cases h)
theorem PB{D:Dev}(ho:D.on=true):(D.left=0/\Ds D=8/\Cq D={ D with on:=false })\/(D.left≠0/\Ds D=0/\Cq D=Io D.less/\D.less.on=true/\D.less.left=if D.left = -1 then -1 else D.left - 1):=by
 by_cases h:D.left=0
 .left;have h1:D.goes=true:=by unfold Dev.goes;rw[qal h]
  refine⟨h,by unfold Ds;rw[ho,h1];rfl,?_⟩;unfold Cq;rw[ho,h1];show D.less=_;unfold Dev.less;rw[if_pos h]
 .right;have h1:D.goes=false:=by unfold Dev.goes;rw[qag h]
  obtain⟨h2,h3⟩:=Wj h ho;refine⟨h,by unfold Ds;rw[ho,h1];rfl,?_,h2,h3⟩;unfold Cq;rw[ho,h1];rfl
def TU(D:Dev)(q:Nat):Byt:=stands (D.B.getD q (zeros,[]))
theorem TH{D:Dev}(h:D.B.length=N):Pend (Io D.less) N (TU D) (fun _=>[]):=by
 refine⟨by simp[Io,Gu,h],fun q hq=>?_⟩;obtain⟨z,hz⟩:=AP (l:=D.B) (i:=q);show(D.less.B.map fun p=>(stands p,([]:List Byt)))[q]?=_;rw[Gu,qas,hz];unfold TU;rw[qa9,hz];rfl
theorem Afm{P P0:List Nat}(h:P.map DC=P0)(h0:∀s∈P0,s=0\/s=1):∀s∈P.map BN,s=0\/s=1:=fun s hs=>by
 obtain⟨z,hz,rfl⟩:=qah.1 hs;have h1:=h0 (DC z) (by rw[<-h];exact qah.2 ⟨z,hz,rfl⟩);unfold DC at h1;unfold BN
 split at h1
 .rename_i h2;rw[if_pos h2];exact .inr rfl
 .split at h1
  .rename_i h2 h3;rw[if_neg h2,if_pos h3];exact .inl rfl
  .rename_i h2 h3;rw[if_neg h2,if_neg h3];exact h1
theorem par2(n:Nat):(n+1+1) % 2=n % 2/\(n+1) % 2≠n % 2:=by omega
theorem Alv.saved(a:Alv N A R x M S Ws L b)(hb:b<=1000000){D1:Dev}{P1:List Nat}{root':Int}(hB:Base9 A x.P D1 P1)(TT:TreeAt 362 D1 P1 root' L)(hlo:Hl P1<=(N - 362) / 2){A3:Dev}{V3:Nat->Byt}(g3:SG N A3 R V3)(hV:∀q,q<N->V3 q=if q=(x.gen+1) % 2 then DH (x.gen+1) (tpB root' R.at' (R.seq+R.L.length))else TU D1 q) :
  ∃S',Alv N A3 R.forget ⟨x.gen+1,root',x.n,x.kv,[],P1.map BN,x.T,V3⟩ L S' [] L (b+1):=by
 have hn:=a.d.n;have hz:=a.d.z;have hq:=a.seq;have hg:=a.gen;have hlen:=a.sg.len;have hblen:=hB.blen;have hPl:=hB.len;have hal:=a.len
 have hold:∀q,q<362->TU D1 q=x.V q:=fun q hq5=>by
  have h1:=hB.blk q fun y hy he=>by omega
  rw[HB a.sg.pend (by omega)]at h1;unfold TU;rw[h1];rfl
 have htl:=DZ root' R.at' (R.seq+R.L.length);obtain⟨S',s1,s2,s3⟩:=TT.lies;have hlow:∀y∈S',y<P1.length:=fun y hy=>((s3 y).1 hy).elim (fun h=>(qap.1 h).1) fun h=>(qap.1 h).1;have hm:=qbm (x.gen+1) (show 0<2 by decide);have hm0:=qbm x.gen (show 0<2 by decide);have hgo:=hV ((x.gen+1) % 2) (by omega);rw[if_pos rfl]at hgo;refine⟨S',⟨SG.forget g3 (by omega),⟨hn,hz,?_,?_,?_,s1.frame fun y hy=>?_,s2,fun y hy=>by have:=hlow y hy;omega,by rw[<-II s2 s3];exact hlo,TT.rise,TT.ok,a.d.num.1,rfl,(fun W hW=>by cases hW),rfl,a.d.room⟩,a.kl,a.n,rfl,by rw[qai];show P1.length=_;omega,Afm hB.back a.p01,fun y=>(s3 y).trans (Qk P1 y).symm,by show x.gen+1<=_;omega,⟨by show 1<=R.seq+R.L.length;omega,by show R.seq+R.L.length+0<=_;omega⟩⟩⟩
 .show Cy (((x.gen+1) % 2:Nat):Int) (V3 ((x.gen+1) % 2))=x.gen+1;rw[hgo];exact Ng (gen:=x.gen+1) (by omega)
 .show DG (((x.gen+1) % 2:Nat):Int) (V3 ((x.gen+1) % 2))=tpB root' R.at' (R.seq+R.L.length);rw[hgo];exact Nh (gen:=x.gen+1) (by omega)
 .show Cy (((x.gen+1+1) % 2:Nat):Int) (V3 ((x.gen+1+1) % 2))<x.gen+1;rw[(par2 x.gen).1,hV (x.gen % 2) (by omega),if_neg (fun h=>(par2 x.gen).2 h.symm),hold _ (by omega),a.d.r1];omega
 .have:=hlow y hy;unfold RD RV;show Es (V3 (362+y))=_;rw[hV (362+y) (by omega),if_neg (by omega)];rfl
end
end Go.Proofs.YtcpgbcabmcbclaaGreatDoor
