/- Part 11 of the proof. -/
import Derived.Test.YtcpgbcabmcbclaaGreatDoorPart10
set_option maxRecDepth 20000
set_option maxHeartbeats 4000000
namespace Go.Proofs.YtcpgbcabmcbclaaGreatDoor
open Go.GV Go.Proofs.Tryz
attribute [local irreducible] AB W Wq Wt
theorem LF{k:UInt8}{l:Byt}(h:l.length<=505)(hk:k.toNat≠0:=by decide):Dw (DT k l)=k:=by
 unfold Dw;rw[Mm hk h,Ml];rfl
theorem LG{k:UInt8}{l:Byt}(h:l.length<=505)(hk:k.toNat≠0:=by decide):BC (DT k l)=l:=by
 unfold BC;rw[Mm hk h,JN k h];rfl
theorem W2:(Dw zeros).toNat=0:=by
 unfold Dw;cases decide (Fd zeros=0) <;> rfl
structure LiesJ(V:Nat->Byt)(J:Jr)(s:Byt):Prop where
 piece:∀i,i<blk s.length - 1->V (J.place i)=piB J s i
 fin:V (J.place (blk s.length - 1))=enB J s
theorem Aan(s:Byt)(i:Nat):s.take (480*i)++C1 s i=s.take (480*(i+1)):=by
 unfold C1;rw[show 480*(i+1)=480*i+480 by omega,List.take_add]
theorem Aao(q i:Nat)(c:Byt):Tv (CY q i c) (CY q i [])=true/\(CY q i c).drop 12=c:=by
 have h12:(Bq q 8++Bq i 4).length=12:=by simp[AZ]
 unfold Tv CY;rw[qa3,h12,qcs (by omega),qa6 (by omega),qef (by omega),qb7 (by omega)];simp[AZ];omega
theorem TF{A:Dev}{J:Jr}{s:Byt}(h:LiesJ (at' A) J s):∀n i,blk s.length<=i+n->i<=blk s.length - 1->Qy A J n i (s.take (480*i))=some s
 |0,i,h1,h2=>by have:=Et s.length;omega
 |n+1,i,h1,h2=>by
  unfold Qy
  by_cases hi:i<blk s.length - 1
  .have hv:=h.piece i hi;have hb:BC (at' A (J.place i))=CY J.seq i (C1 s i):=by rw[hv];exact LG (Acv J s i)
   have hk:(Dw (at' A (J.place i))).toNat=1:=by rw[hv,show Dw (piB J s i)=1 from LF (Acv J s i)];rfl
   obtain⟨p1,p2⟩:=Aao J.seq i (C1 s i);rw[if_pos (by unfold Jy;rw[hb,p1,qal hk];rfl),hb,p2,Aan];exact TF h n (i+1) (by omega) (by omega)
  .have hie:i=blk s.length - 1:=by omega
   subst hie;have hv:=h.fin;have hb:BC (at' A (J.place (blk s.length - 1)))=Hk J.seq s:=by rw[hv];exact LG (Acw J s)
   have hk:(Dw (at' A (J.place (blk s.length - 1)))).toNat=2:=by rw[hv,show Dw (enB J s)=2 from LF (Acw J s)];rfl
   have hs:s.take (480*(blk s.length - 1))=s:=qa6 (by unfold blk;omega);rw[hs,if_neg (by unfold Jy;rw[hk];simp),if_pos];unfold LB;have:=Et s.length;rw[hb,qal hk,qal (show 0<blk s.length - 1 by omega)];simp
theorem Aap{A:Dev}{J:Jr}{s:Byt}(h:LiesJ (at' A) J s)(hf:J.taken+blk s.length<=J.size):HV A J=some s:=by
 unfold HV;have:=TF h (J.size - J.taken) 0 (by omega) (by have:=Et s.length;omega)
 simpa using this
def Qs(V:Nat->Byt)(frm size q:Nat):Prop:=∀p,frm<=p->p<frm+size->(Dw (V p)).toNat=2->numN ((BC (V p)).take 8)<q
theorem Yx{q:Nat}(s:Byt)(hq:q<18446744073709551616):numN ((Hk q s).take 8)=q:=by
 unfold Hk;rw[qa1,qcs (by rw[AZ];exact qae _),qa6 (by rw[AZ];exact qae _),Fm,qa9 (by omega)]
theorem Yy{J:Jr}(h:J.Ok)(i:Nat):J.frm<=J.place i/\J.place i<J.frm+J.size:=⟨qcp ..,h.place i⟩
theorem Aaq{A:Dev}{J:Jr}(hJ:J.Ok)(h:Qs (at' A) J.frm J.size J.seq):HV A J=none:=by
 cases hs:HV A J with
 |none=>rfl
 |some s =>
  obtain⟨j,-,-,-,he⟩:=PC _ _ _ hs;simp only[LB,qao,qap]at he;have hq:=hJ.q;have h1:=h _ (Yy hJ j).1 (Yy hJ j).2 he.1;rw[he.2.2.2,Yx s (by omega)]at h1;omega
def Rj.pl(frm:Nat)(R:Rj)(k:Nat):Nat:=frm+(R.first+k) % R.size
theorem Rj.pl_inj{frm:Nat}{R:Rj}(h:R.Ok){k l:Nat}(hk:k<R.size)(hl:l<R.size)(he:R.pl frm k=R.pl frm l):k=l:=by
 unfold Rj.pl at he;rw[QN h.a hk,QN h.a hl]at he;have:=h.a
 split at he <;> split at he <;> omega
def jrK(frm:Nat)(R:Rj)(L:List Byt):Jr:=⟨frm,R.size,(R.first+BD L) % R.size,R.seq+L.length,BD L,false⟩
theorem Mz(frm:Nat)(R:Rj)(L:List Byt)(i:Nat):(jrK frm R L).place i=R.pl frm (BD L+i):=by
 unfold Jr.place jrK Rj.pl;dsimp only;rw[Nat.mod_add_mod,qcl]
theorem Nv(frm:Nat)(R:Rj)(L:List Byt)(s:Byt):(jrK frm R L).passes s.length=jrK frm R (L++[s]):=by
 unfold Jr.passes jrK;rw[HW,qan];dsimp only;rw[Nat.mod_add_mod];simp[qcl]
theorem Ake{frm:Nat}{R:Rj}(h:R.Ok)(hf:frm+R.size<=4096){L:List Byt}(hL:BD L<=R.size):(jrK frm R L).Ok:=by
 have h1:=h.s1;have h2:=h.s2;have h3:=h.q;have h4:=Kx L;exact⟨h1,hf,qbl _ (by omega),hL,by show R.seq+L.length<=_;omega⟩
structure HeldJ(V:Nat->Byt)(frm:Nat)(R:Rj):Prop where
 lies:∀k s,R.L[k]?=some s->LiesJ V (jrK frm R (R.L.take k)) s
 old:Qs V frm R.size (R.seq+R.L.length)
theorem Vs{L:List Byt}{k:Nat}{s:Byt}(h:L[k]?=some s):BD (L.take k)+blk s.length<=BD L:=by
 have h1:=Yu L (k+1);rw[Bp h,HW]at h1;exact h1
theorem Vt{A:Dev}{frm:Nat}{R:Rj}(hR:R.Ok)(hf:frm+R.size<=4096)(h:HeldJ (at' A) frm R):∀n k,k<=R.L.length->R.L.length<k+n->LC A n (jrK frm R (R.L.take k))=(R.L.drop k,jrK frm R R.L)
 |0,k,h1,h2=>by omega
 |n+1,k,h1,h2=>by
  by_cases hk:k<R.L.length
  .obtain⟨s,hs⟩:=AO (l:=R.L) (i:=k) (h:=hk);have ht:=Vs hs;have hRt:=hR.t;have hn:HV A (jrK frm R (R.L.take k))=some s:=Aap (h.lies k s hs) (by show BD (R.L.take k)+blk s.length<=R.size;omega);rw[T8 n hn,Nv,<-Bp hs,Vt hR hf h n (k+1) (by omega) (by omega)]
   have hd:R.L.drop k=s::R.L.drop (k+1):=by
    rw[qd0 hk];rw[qbd hk]at hs;rw[qbw hs]
   rw[hd]
  .have hke:k=R.L.length:=by omega
   subst hke;rw[qbe,qe3];exact T7 n (Aaq (Ake hR hf hR.t) h.old)
theorem Afb{A:Dev}{frm:Nat}{R:Rj}(hR:R.Ok)(hf:frm+R.size<=4096)(h:HeldJ (at' A) frm R):LD A (jr0 frm R.size R.first R.seq)=(R.L,jrK frm R R.L):=by
 have h0:jr0 frm R.size R.first R.seq=jrK frm R (R.L.take 0):=by
  unfold jr0 jrK;rw[qdw];simp only[BD,qbn,qde,qc9,qby,qbo,qa9 hR.a]
 have h4:=Kx R.L;have h5:=hR.t;unfold LD;rw[h0,Vt hR hf h _ 0 (qak _) (by show R.L.length<0+(R.size+1);omega),List.drop_zero]
theorem HeldJ.congr{V V':Nat->Byt}{frm:Nat}{R:Rj}(h:HeldJ V frm R)(hR:R.Ok)(he:∀p,frm<=p->p<frm+R.size->V' p=V p):HeldJ V' frm R:=by
 have hin:∀L i,V' ((jrK frm R L).place i)=V ((jrK frm R L).place i):=fun L i=>by
  have:=qbl (R.first+(BD L+i)) (show 0<R.size by have:=hR.s1;omega);rw[Mz];exact he _ (qcp ..) (by unfold Rj.pl;omega)
 exact⟨fun k s hs=>⟨fun i hi=>by rw[hin];exact(h.lies k s hs).piece i hi,by rw[hin];exact(h.lies k s hs).fin⟩,fun p h1 h2 h3=>by rw[he p h1 h2]at h3 |-;exact h.old p h1 h2 h3⟩
theorem HeldJ.zeros{frm:Nat}{R:Rj}(hL:R.L=[]):HeldJ (fun _=>zeros) frm R :=
 ⟨fun k s hs=>(by rw[hL]at hs;cases hs),fun p _ _ h=>(by rw[W2]at h;cases h)⟩
theorem HeldJ.old_at{V V':Nat->Byt}{N frm:Nat}{R:Rj}{b:Byt}(h:HeldJ V frm R)(hR:R.Ok)(hN:frm+R.size<=N)(hf:BD R.L+blk b.length<=R.size)(he:∀p,p<N->(∀i,i<blk b.length->p≠(jrK frm R R.L).place i)->V' p=V p):∀k s,R.L[k]?=some s->LiesJ V' (jrK frm R (R.L.take k)) s:=by
 intro k s hs;have ht:=Vs hs
 have hkey:∀i,i<blk s.length->V' ((jrK frm R (R.L.take k)).place i)=V ((jrK frm R (R.L.take k)).place i):=fun i hi=>by
  refine he _ ?_ fun j hj hp=>?_
  .have:=qbl (R.first+(BD (R.L.take k)+i)) (show 0<R.size by have:=hR.s1;omega);rw[Mz];unfold Rj.pl;omega
  .rw[Mz,Mz]at hp;have:=R.pl_inj hR (by omega) (by omega) hp;omega
 have hb2:=Et s.length;exact⟨fun i hi=>by rw[hkey i (by omega)];exact(h.lies k s hs).piece i hi,by rw[hkey _ (by omega)];exact(h.lies k s hs).fin⟩
theorem Acy(J:Jr)(b:Byt)(i:Nat):(Dw (piB J b i)).toNat=1:=by rw[show Dw (piB J b i)=1 from LF (Acv J b i)];rfl
theorem HeldJ.mid{V V':Nat->Byt}{N frm:Nat}{R:Rj}{b:Byt}(h:HeldJ V frm R)(hR:R.Ok)(hN:frm+R.size<=N)(hf:BD R.L+blk b.length<=R.size)(hm:MidJ N V V' (jrK frm R R.L) b):HeldJ V' frm R:=by
 refine⟨h.old_at hR hN hf fun p hp hn=>?_,fun p h1 h2 h3=>?_⟩
 .rcases hm p hp with h5|⟨i,hi,he,_⟩
  .exact h5
  .exact absurd he (hn i (by omega))
 .rcases hm p (by omega)with h5|⟨i,hi,he,h5⟩
  .rw[h5]at h3 |-;exact h.old p h1 h2 h3
  .rw[h5,Acy]at h3;cases h3
theorem HeldJ.full{V V':Nat->Byt}{N frm:Nat}{R:Rj}{b:Byt}(h:HeldJ V frm R)(hR:R.Ok)(hN:frm+R.size<=N)(hf:BD R.L+blk b.length<=R.size)(hm:Full N V V' (jrK frm R R.L) b):HeldJ V' frm { R with L:=R.L++[b] }:=by
 have hb2:=Et b.length;have hold:=h.old_at hR hN hf hm.rest;refine⟨fun k s hs=>?_,fun p h1 h2 h3=>?_⟩
 .by_cases hk:k<R.L.length
  .have hs':R.L[k]?=some s:=by rw[<-qdj hk (l₂:=[b])];exact hs
   have h9:=hold k s hs';show LiesJ V' (jrK frm { R with L:=R.L++[b] } ((R.L++[b]).take k)) s;rw[qcs (by omega)];exact h9
  .have hke:k=R.L.length:=by
    have:=(qaq.1 hs).1;simp only[qan,qbu]at this;omega
   subst hke
   have hsb:s=b:=by
    have h9:(R.L++[b])[R.L.length]?=some s:=hs;rw[qc8 (qae _),qc1]at h9;exact(qbw h9).symm
   subst hsb;show LiesJ V' (jrK frm { R with L:=R.L++[s] } ((R.L++[s]).take R.L.length)) s;rw[qcs (qae _),qbe];exact⟨hm.piece,hm.fin⟩
 .show _<R.seq+(R.L++[b]).length;have h2':p<frm+R.size:=h2;rw[qan,qbu]
  by_cases hi:∃i,i<blk b.length/\p=(jrK frm R R.L).place i
  .obtain⟨i,hi,rfl⟩:=hi
   by_cases hil:i<blk b.length - 1
   .rw[hm.piece i hil,Acy]at h3;cases h3
   .have hie:i=blk b.length - 1:=by omega
    subst hie;have hq:=hR.q;have h4:=Kx R.L;have h5:=hR.s2;rw[hm.fin,show BC (enB (jrK frm R R.L) b)=Hk (R.seq+R.L.length) b from LG (Acw _ b),Yx b (by have:=hR.t;omega)];omega
  .have h5:=hm.rest p (by omega) fun i h6 h7=>hi ⟨i,h6,h7⟩;rw[h5]at h3 |-;have:=h.old p h1 h2' h3;omega
theorem HeldJ.forget{V:Nat->Byt}{frm:Nat}{R:Rj}(h:HeldJ V frm R):HeldJ V frm R.forget :=
 ⟨fun k s hs=>(by cases hs),h.old⟩
theorem Aar{frm:Nat}{R:Rj}(hR:R.Ok):jrK frm R.forget []={ jrK frm R R.L with taken:=0 }:=by
 have h1:=qbl (R.first+BD R.L) (show 0<R.size by have:=hR.s1;omega);unfold jrK Rj.forget Rj.at';simp only[BD,qbn,qde,qc9,qby,Jr.mk.injEq,and_true,true_and];exact qa9 h1
theorem Vu{R:Rj}(h:R.Ok)(hq:R.seq+R.L.length<=8000000000000000000):R.forget.Ok :=
 ⟨h.s1,h.s2,qbl _ (by have:=h.s1;omega),hq,qak _⟩
def Fj(F:Nat->Prop)(bj:Nat):Nat->Prop:=fun x=>F x\/x=bj
structure Jone(w0 w:World)(bd bj:Nat)(A:Dev)(J:Jr)(F:Nat->Prop):Prop where
 own:Own w0 w bd A F
 jr:w.heap[bj]?=some (Bl TJ (JB bd J))
 nF:¬F bj
 ge:w0.heap.size<=bj
section
variable {w0 w w':World}{bd bj bj' br:Nat}{A A':Dev}{J J':Jr}{R R':Rj}{F F' G:Nat->Prop}{N frm:Nat}
theorem Jone.at(O:Jone w0 w bd bj A J F)(x:Nat)(h:Fj F bj x):w0.heap.size<=x/\x<w.heap.size:=by
 rcases h with h|rfl
 .exact O.own.own x h
 .exact⟨O.ge,Al O.jr⟩
theorem Grown.call{F:Nat->Prop}{w w':World}(hx:Ext [] w w'):Grown F F w w':=⟨.of0 hx,fun _ h => .inl h⟩
theorem Jone.call(O:Jone w0 w bd bj A J F)(hx:Ext [] w w'):Jone w0 w' bd bj A J F :=
 ⟨O.own.call hx,by rw[hx.block bj (Al O.jr) (by simp)];exact O.jr,O.nF,O.ge⟩
theorem Jone.dev(O:Jone w0 w bd bj A J F)(h:Own w0 w' bd A' F'/\Grown F F' w w'):Jone w0 w' bd bj A' J F'/\Grown (Fj F bj) (Fj F' bj) w w':=by
 obtain⟨h,⟨S,hS,hx⟩,hg⟩:=h;have hlt:=Al O.jr;refine⟨⟨h,?_,fun hb=>(hg bj hb).elim O.nF fun h5=>by omega,O.ge⟩,⟨S,fun x h => .inl (hS x h),hx⟩,fun x h=>?_⟩
 .rw[hx.block bj hlt fun hm=>O.nF (hS _ hm)];exact O.jr
 .rcases h with h|h
  .exact(hg x h).imp .inl id
  .exact .inl (.inr h)
theorem Jone.back(O:Jone w0 w bd bj A J F)(D:Dv w w' bd A' (Fj F bj) F' [(bj,Bl TJ (JB bd J'))]):Jone w0 w' bd bj A' J' F'/\Grown (Fj F bj) (Fj F' bj) w w':=by
 have hnew:=D.turn.new O.own.ext fun x h=>(O.at x h).1;have hoff:=D.off _ (qaf ..);have hsz:=O.own.ext.size;refine⟨⟨⟨hnew,D.dev,fun x hx=>⟨?_,D.lt x hx⟩⟩,D.blk _ (qaf ..),hoff,O.ge⟩,D.turn,fun x hx=>?_⟩
 .rcases D.own x hx with h|h
  .exact(O.at x h).1
  .omega
 .rcases hx with hx|hx
  .exact(D.own x hx).imp id And.left
  .exact .inl (.inr hx)
theorem Yz(O:Jone w0 w bd bj A J F)(hJ:J.Ok)(a:Option Addr)(c n:Nat)(b:Byt)(R:Rd w a 1 B8 b)(hn:b.length=n)(hm:n<=900000)(hc:n<=c)(hFa:b=[]\/¬Fj F bj (adr a).block){mx:Nat}(hfew:Few A mx)(hmx:mx<=1000000000:=by decide):
  Ret prog 48 #[ptr bj,.slice a n c] w fun v w'=>v=.int .i64 (OG A J b)/\∃F',Jone w0 w' bd bj (Il A J b) (OH A J b) F'/\Grown (Fj F bj) (Fj F' bj) w w' :=
 (Ae7 O.jr hJ a c n b R hn hm hc (fun x h=>(O.own.own x h).2) O.nF (hFa.imp id fun h k=>h (.inl k)) hfew hmx O.own.dev).mono fun _ _ ⟨hv,F',D⟩=>⟨hv,F',O.back D⟩
theorem Afc(O:Own w0 w bd A F)(f z p q:Nat)(hr:Ew A.B.length f z p q=true)(ho:A.on=true){mx:Nat}(hfew:Few A mx)(hmx:mx<=1000000000:=by decide):
  Ret prog 34 #[ptr bd,.int .i64 (f:Int),.int .i64 (z:Int),.int .i64 (p:Int),.int .u64 (q:Int)] w fun v w'=>∃bj a n c,v=.tuple #[ptr bj,.slice a n c,.int .i64 0]/\Ext [] w w'/\w.heap.size<=bj/\Jone w0 w' bd bj A (LD A (jr0 f z p q)).2 F/\Strs w' a n c (LD A (jr0 f z p q)).1:=by
 have hhi:=O.dev.wf.hi;have hr2:=hr;simp only[Ew,qao,qap]at hr2;refine(Akd (f:Int) (z:Int) (p:Int) q hhi ho hfew hmx O.dev).mono fun v w' ⟨hx,h⟩=>?_
 rcases h with⟨h1,_⟩|⟨_,bj,a,n,c,hv,hb,hj,hs⟩
 .rw[hr]at h1;cases h1
 .have hsz:=O.ext.size;exact⟨bj,a,n,c,hv,hx,hb,⟨O.call hx,hj,fun h5=>by have:=(O.own bj h5).2;omega,by omega⟩,hs⟩
structure Jtwo(w0 w:World)(bd bj br:Nat)(A:Dev)(J:Jr)(R:Rj)(F G:Nat->Prop):Prop where
 one:Jone w0 w bd bj A J F
 ref:RjAt w br R G
 g:∀x,G x->w0.heap.size<=x/\x<w.heap.size
 fg:∀x,Fj F bj x->¬G x
theorem Jtwo.go(T:Jtwo w0 w bd bj br A J R F G)(h:Jone w0 w' bd bj' A' J' F'/\Grown (Fj F bj) (Fj F' bj') w w'):Jtwo w0 w' bd bj' br A' J' R F' G/\Still (Fj F bj) G (Fj F' bj') G w w':=by
 obtain⟨h,⟨S,hS,hx⟩,hg⟩:=h;have hsz:=hx.size;refine⟨⟨h,T.ref.keep hx fun x hm hgx=>T.fg x (hS x hm) hgx,fun x hgx=>⟨(T.g x hgx).1,by have:=(T.g x hgx).2;omega⟩,fun x hf hgx=>?_⟩,fun b hb h1 h2=>hx.block b hb fun hm=>h1 (hS b hm),fun b hb h1 h2=>⟨fun h5=>(hg b h5).elim h1 fun h6=>by omega,h2⟩,hsz⟩
 rcases hg x hf with h5|h5
 .exact T.fg x h5 hgx
 .have:=(T.g x hgx).2;omega
theorem Jtwo.call(T:Jtwo w0 w bd bj br A J R F G)(hx:Ext [] w w'):Jtwo w0 w' bd bj br A J R F G:=(T.go ⟨T.one.call hx,.call hx⟩).1
structure Good(N frm:Nat)(A:Dev)(R:Rj):Prop where
 ok:R.Ok
 fit:frm+R.size<=N
 lim:N<=4096
 on:A.on=true
 left : -1<=A.left
 held:∃S,Pend A N S (fun _=>[])/\HeldJ S frm R
theorem Pend.few{S:Nat->Byt}(h:Pend A N S (fun _=>[])):Few A 0:=fun p hp=>by
 obtain⟨i,hi⟩:=qcg.1 hp;have hlt:=(qaq.1 hi).1;rw[h.get i (by rw[<-h.len];exact hlt)]at hi;rw[<-qbw hi];exact qae _
theorem Good.few(h:Good N frm A R):Few A 0:=let ⟨_,hp,_⟩:=h.held;hp.few
theorem Good.len(h:Good N frm A R):A.B.length=N:=let ⟨_,hp,_⟩:=h.held;hp.len
theorem Good.jok(h:Good N frm A R):(jrK frm R R.L).Ok:=Ake h.ok (qav h.fit h.lim) h.ok.t
theorem Good.open(h:Good N frm A R):LD A (jr0 frm R.size R.first R.seq)=(R.L,jrK frm R R.L):=by
 obtain⟨S,hp,hh⟩:=h.held;have hf:=h.fit;exact Afb h.ok (qav h.fit h.lim) (hh.congr h.ok fun p h1 h2=>hp.at' (by omega))
theorem Good.right(h:Good N frm A R)(hq:1<=R.seq)(hq2:R.seq<=4611686018427387904):Ew A.B.length frm R.size R.first R.seq=true:=by
 have h1:=h.fit;have h2:=h.ok.s1;have h3:=h.ok.a;have h4:=h.len;simp only[Ew,qao,qap];omega
theorem Good.new{n frm:Nat}{R:Rj}(hR:R.Ok)(hL:R.L=[])(hf:frm+R.size<=n)(hn:n<=4096):Good n frm (Fu n) R :=
 ⟨hR,hf,hn,rfl,by show(-1:Int) <= -1;omega,_,Pend.new n,HeldJ.zeros hL⟩
theorem Good.forget(h:Good N frm A R)(hq:R.seq+R.L.length<=8000000000000000000):Good N frm A R.forget :=
 let ⟨S,hp,hh⟩:=h.held;⟨Vu h.ok hq,h.fit,h.lim,h.on,h.left,S,hp,hh.forget⟩
theorem Good.arm(h:Good N frm A R)(n:Int):Good N frm (IU A n) R/\Ni A=0:=by
 obtain⟨S,hp,hh⟩:=h.held;unfold IU Ni;rw[h.on];exact⟨⟨h.ok,h.fit,h.lim,rfl,by show -1<=max n (-1);omega,S,⟨hp.len,hp.get⟩,hh⟩,rfl⟩
theorem Good.again{S:Nat->Byt}{P:Nat->List Byt}(hR:R.Ok)(hf:frm+R.size<=N)(hn:N<=4096)(ho:A.on=false)(hp:Pend A N S P)(hH:∀S',(∀p,p<N->S' p=S p\/S' p∈P p)->HeldJ S' frm R)(picks:List Int):Good N frm (onD A picks) R:=by
 obtain⟨h1,h2,S',h3,h4⟩:=hp.on ho picks;exact⟨hR,hf,hn,h1,by omega,S',h3,hH S' h4⟩
theorem Good.off(h:Good N frm A R)(picks:List Int):Good N frm (onD (MF A) picks) R:=by
 obtain⟨S,hp,hh⟩:=h.held;have hfit:=h.fit;refine Good.again (A:=MF A) (S:=S) (P:=fun _=>[]) h.ok h.fit h.lim U ⟨hp.len,hp.get⟩ (fun S' hS=>hh.congr h.ok fun p h1 h2=>?_) picks
 rcases hS p (by omega)with h5|h5
 .exact h5
 .cases h5
theorem Good.append(h:Good N frm A R)(b:Byt) :
  (OG A (jrK frm R R.L) b=Yv R b/\Good N frm (Il A (jrK frm R R.L) b) (TA R b)/\OH A (jrK frm R R.L) b=jrK frm (TA R b) (TA R b).L/\(A.left = -1->(Il A (jrK frm R R.L) b).left = -1)) \/
  (A.left ≠ -1/\OG A (jrK frm R R.L) b=8/\Yv R b=0/\(Il A (jrK frm R R.L) b).on=false/\OH A (jrK frm R R.L) b={ jrK frm R R.L with dead:=true }/\∀picks,Good N frm (onD (Il A (jrK frm R R.L) b) picks) R\/Good N frm (onD (Il A (jrK frm R R.L) b) picks) (TA R b)):=by
 obtain⟨S,hp,hh⟩:=h.held;have hR:=h.ok;have hRt:=hR.t;have hf:=h.fit;have hok:=W0 hR b;have hdd:¬(jrK frm R R.L).dead=true:=by simp[jrK]
 have hE:OG A (jrK frm R R.L) b=if R.size - BD R.L<blk b.length then 7 else(CZ A (jrK frm R R.L) b).1:=by unfold OG;rw[if_neg hdd];rfl
 have hD:Il A (jrK frm R R.L) b=if R.size - BD R.L<blk b.length then A else(CZ A (jrK frm R R.L) b).2:=by unfold Il;rw[if_neg hdd];rfl
 have hJ:OH A (jrK frm R R.L) b=if R.size - BD R.L<blk b.length then jrK frm R R.L else if(CZ A (jrK frm R R.L) b).1=0 then(jrK frm R R.L).passes b.length else{ jrK frm R R.L with dead:=true }:=by unfold OH;rw[if_neg hdd];rfl
 rw[hE,hD,hJ]
 by_cases hfull:R.size - BD R.L<blk b.length
 .rw[if_pos hfull,if_pos hfull,if_pos hfull];unfold Yv TA;rw[if_pos hfull,if_pos hfull];exact .inl ⟨rfl,h,rfl,id⟩
 .rw[if_neg hfull,if_neg hfull,if_neg hfull];have hfit:BD R.L+blk b.length<=R.size:=by omega
  have hRE:Yv R b=0:=by unfold Yv;rw[if_neg hfull]
  have hRR:TA R b={ R with L:=R.L++[b] }:=by unfold TA;rw[if_neg hfull]
  rcases TE (b:=b) hp h.on h.left h.jok hf (by show blk b.length<=R.size;omega)with⟨h1,h2,h3,h4,S',h5,h6⟩|⟨h1,h2,h3,S1,P,h5,h6⟩
  .rw[if_pos h1,h1,hRE];refine .inl ⟨rfl,⟨hok,by rw[hRR];exact hf,h.lim,h2,h3,S',h5,by rw[hRR];exact hh.full hR hf hfit h6⟩,?_,h4⟩;rw[hRR];exact Nv frm R R.L b
  .rw[if_neg (by omega),hRE];refine .inr ⟨h1,h2,rfl,h3,rfl,fun picks=>?_⟩;obtain⟨k1,k2,S',k3,k4⟩:=h5.on h3 picks
   rcases h6 S' k4 with h7|h7
   .exact .inl ⟨hR,hf,h.lim,k1,by omega,S',k3,hh.mid hR hf hfit h7⟩
   .exact .inr ⟨hok,by rw[hRR];exact hf,h.lim,k1,by omega,S',k3,by rw[hRR];exact hh.full hR hf hfit h7⟩
end
section
variable {w0 w w':World}{bd bj:Nat}{A:Dev}{J:Jr}{R:Rj}{F:Nat->Prop}{N frm:Nat}
def Rj.more(R:Rj)(b:Byt):Rj:={ R with L:=R.L++[b] }
theorem Qz(O:Own w0 w bd A F)(g:Good N frm A R)(h1:1<=R.seq)(h2:R.seq<=4611686018427387904) :
  Ret prog 34 #[ptr bd,.int .i64 (frm:Int),.int .i64 (R.size:Int),.int .i64 (R.first:Int),.int .u64 (R.seq:Int)] w fun v w'=>∃bj a n c,v=.tuple #[ptr bj,.slice a n c,.int .i64 0]/\Ext [] w w'/\w.heap.size<=bj/\Jone w0 w' bd bj A (jrK frm R R.L) F/\Strs w' a n c R.L:=by
 have h:=Afc O frm R.size R.first R.seq (g.right h1 h2) g.on g.few
 rw[g.open]at h;exact h
theorem Afd(O:Jone w0 w bd bj A (jrK frm R R.L) F)(g:Good N frm A R) :
  Ret prog 46 #[ptr bj] w fun v w'=>v=.int .i64 ((R.size - BD R.L:Nat):Int)/\Ext [] w w':=Acs O.jr g.jok
theorem Afe(O:Jone w0 w bd bj A (jrK frm R R.L) F) :
  Ret prog 35 #[ptr bj] w fun v w'=>v=.tuple #[.int .i64 (R.at':Int),.int .u64 ((R.seq+R.L.length:Nat):Int)]/\Ext [] w w':=Acu O.jr
theorem Jone.new(O:Jone w0 w bd bj A J F){a:Option Addr}{b:Byt}(_:Rd w' a 1 B8 b)(h:b=[]\/w.heap.size<=(adr a).block):b=[]\/¬Fj F bj (adr a).block :=
 h.imp id fun h hF=>by have:=(O.at _ hF).2;omega
end
def xA:Byt:=[97,98]
def xB:Byt:=Yk 481 120
def xC:Byt:=Yk 1920 121
def xD:Byt:=Yk 1921 121
theorem Ap5:xB.length=481:=Vn ..
theorem Ap6:xC.length=1920:=Vn ..
def R0:Rj:=⟨[],10,0,1⟩
def R1:Rj:=R0.more xA
def R2:Rj:=R1.more xB
def R3:Rj:=R2.more xC
theorem t1:BD R1.L=2:=by decide
theorem t2:BD R2.L=5:=by
 show BD ([xA]++[xB])=5;rw[HW,Ap5];decide
theorem t3:BD R3.L=10:=by
 show BD (R2.L++[xC])=10;rw[HW,Ap6,t2];decide
structure SG(N:Nat)(A:Dev)(R:Rj)(V:Nat->Byt):Prop where
 ok:R.Ok
 fit:2+R.size<=N
 lim:N<=4096
 on:A.on=true
 left : -1<=A.left
 pend:Pend A N V (fun _=>[])
 held:HeldJ V 2 R
section
variable {N:Nat}{A:Dev}{R:Rj}{V:Nat->Byt}
theorem SG.good(g:SG N A R V):Good N 2 A R:=⟨g.ok,g.fit,g.lim,g.on,g.left,V,g.pend,g.held⟩
theorem SG.len(g:SG N A R V):A.B.length=N:=g.pend.len
theorem SG.calm(g:SG N A R V):A=calm ((List.range N).map V) A.left:=by
 obtain⟨B,l,o⟩:=A;have h1:=g.on;dsimp only at h1 |-;subst h1;unfold Go.Proofs.YtcpgbcabmcbclaaGreatDoor.calm
 congr 1
 refine qci fun i=>?_
 by_cases hi:i<N
 .rw[g.pend.get i hi,qbi,qat,qdu hi];rfl
 .rw[qbz (by have:=g.len;dsimp only at this;omega),qbz (by simp;omega)]
theorem SG.app(g:SG N A R V)(b:Byt)(hfit:BD R.L+blk b.length<=R.size) :
  (OG A (jrK 2 R R.L) b=0/\OH A (jrK 2 R R.L) b=jrK 2 (R.more b) (R.more b).L/\(A.left = -1->(Il A (jrK 2 R R.L) b).left = -1)/\∃V',SG N (Il A (jrK 2 R R.L) b) (R.more b) V'/\∀q,(q<2\/2+R.size<=q)->q<N->V' q=V q) \/
  (A.left ≠ -1/\OG A (jrK 2 R R.L) b=8/\OH A (jrK 2 R R.L) b={ jrK 2 R R.L with dead:=true }/\(Il A (jrK 2 R R.L) b).on=false/\∀picks,(onD (Il A (jrK 2 R R.L) b) picks).left = -1/\∃V',(∀q,(q<2\/2+R.size<=q)->q<N->V' q=V q)/\(SG N (onD (Il A (jrK 2 R R.L) b) picks) R V'\/SG N (onD (Il A (jrK 2 R R.L) b) picks) (R.more b) V')):=by
 have hjok:(jrK 2 R R.L).Ok:=g.good.jok;have hff:¬R.size - BD R.L<blk b.length:=by have:=Et b.length;omega
 have hdd:¬(jrK 2 R R.L).dead=true:=by simp[jrK]
 have hE:OG A (jrK 2 R R.L) b=(CZ A (jrK 2 R R.L) b).1:=by unfold OG;rw[if_neg hdd];exact if_neg hff
 have hD:Il A (jrK 2 R R.L) b=(CZ A (jrK 2 R R.L) b).2:=by unfold Il;rw[if_neg hdd];exact if_neg hff
 have hJ:OH A (jrK 2 R R.L) b=if(CZ A (jrK 2 R R.L) b).1=0 then(jrK 2 R R.L).passes b.length else{ jrK 2 R R.L with dead:=true }:=by unfold OH;rw[if_neg hdd];exact if_neg hff
 have hRR:R.more b=TA R b:=by unfold TA;rw[if_neg hff];rfl
 have hpl:∀i,2<=(jrK 2 R R.L).place i/\(jrK 2 R R.L).place i<2+R.size:=fun i=>⟨qcp 2 _,hjok.place i⟩
 have hfull:∀{S'},Full N V S' (jrK 2 R R.L) b->∀q,(q<2\/2+R.size<=q)->q<N->S' q=V q:=fun h6 q hq hN=>h6.rest q hN fun i _ he=>by
  have:=hpl i;omega
 rw[hE,hD,hJ]
 rcases TE (b:=b) g.pend g.on g.left hjok g.fit (by show blk b.length<=R.size;omega)with⟨h1,h2,h3,h4,S',h5,h6⟩|⟨h1,h2,h3,S1,P,h5,h6⟩
 .rw[if_pos h1];exact .inl ⟨h1,Nv 2 R R.L b,h4,S',⟨by rw[hRR];exact W0 g.ok b,g.fit,g.lim,h2,h3,h5,g.held.full g.ok g.fit hfit h6⟩,hfull h6⟩
 .rw[if_neg (by rw[h2];decide)];refine .inr ⟨h1,h2,rfl,h3,fun picks=>?_⟩;obtain⟨k1,k2,S',k3,k4⟩:=h5.on h3 picks
  rcases h6 S' k4 with h7|h7
  .refine⟨k2,S',fun q hq hN=>?_,.inl ⟨g.ok,g.fit,g.lim,k1,by omega,k3,g.held.mid g.ok g.fit hfit h7⟩⟩
   rcases h7 q hN with h8|⟨i,_,h8,_⟩
   .exact h8
   .have:=hpl i;omega
  .exact⟨k2,S',hfull h7,.inr ⟨by rw[hRR];exact W0 g.ok b,g.fit,g.lim,k1,by omega,k3,g.held.full g.ok g.fit hfit h7⟩⟩
theorem Pend.congr{P:Nat->List Byt}{S S':Nat->Byt}(h:Pend A N S P)(he:∀q,q<N->S' q=S q):Pend A N S' P:=⟨h.len,fun q hq=>by rw[h.get q hq,he q hq]⟩
theorem SG.put{A':Dev}(g:SG N A R V){V':Nat->Byt}(ho:A'.on=true)(hl : -1<=A'.left)(hp:Pend A' N V' (fun _=>[]))(he:∀q,2<=q->q<2+R.size->V' q=V q):SG N A' R V' :=
 ⟨g.ok,g.fit,g.lim,ho,hl,hp,g.held.congr g.ok fun q h1 h2=>he q h1 h2⟩
theorem SG.save(g:SG N A R V)(gen:Nat)(body:Byt)(h1:1<=gen)(hg:gen<=4611686018427387904)(hb:body.length<=480) :
  (GN A gen body=0/\(A.left = -1->(EG A gen body).left = -1)/\SG N (EG A gen body) R (fun q=>if q=gen % 2 then DJ gen body else V q)) \/
  (A.left ≠ -1/\GN A gen body=8/\(EG A gen body).on=false/\Few (EG A gen body) 1/\(EG A gen body).B.length=N/\∀picks,(onD (EG A gen body) picks).left = -1/\(SG N (onD (EG A gen body) picks) R V\/SG N (onD (EG A gen body) picks) R (fun q=>if q=gen % 2 then DJ gen body else V q))):=by
 have hN:2<=N:=by have:=g.ok.s1;have:=g.fit;omega
 have hfit:=g.fit;have hleft:=g.left;have hm:gen % 2<2:=qbl _ (by decide);have hs:=Aex (B:=(List.range N).map V) (left:=A.left) (gen:=gen) (body:=body) (by simpa using hN) h1 hg hb g.left;rw[<-g.calm]at hs;have hpA:=g.pend
 by_cases l0:A.left=0
 .rw[if_pos (Or.inl l0),if_pos l0]at hs;have hp:Pend (EG A gen body) N V (fun _=>[]):=by rw[hs.2];exact⟨hpA.len,hpA.get⟩
  have ho:(EG A gen body).on=false:=by rw[hs.2]
  refine .inr ⟨by omega,hs.1,ho,hp.few.mono (by decide),hp.len,fun picks=>?_⟩;obtain⟨k1,k2,S',k3,k4⟩:=hp.on ho picks;refine⟨k2,.inl (g.put k1 (by omega) (k3.congr fun q hq=>?_) fun _ _ _=>rfl)⟩
  rcases k4 q hq with h5|h5
  .exact h5.symm
  .cases h5
 .by_cases l1:A.left=1
  .rw[if_pos (Or.inr l1),if_neg l0,if_pos l1]at hs
   have hp:Pend (EG A gen body) N V (fun q=>if q=gen % 2 then[DJ gen body]else[]):=by
    rw[hs.2];refine⟨by simp[Gv],fun q hq=>?_⟩
    have hq2:((List.range N).map V).map (fun b=>(b,([]:List Byt)))=A.B:=by
     have:=qab Dev.B g.calm;exact this.symm
    show(((((List.range N).map V).map fun b=>(b,([]:List Byt))).modify (gen % 2) fun p=>(p.1,p.2++[DJ gen body])))[q]?=_;rw[hq2,qcq,hpA.get q hq];show some (if gen % 2=q then((V q,[]++[DJ gen body]):Byt × List Byt)else(V q,[]))=_
    by_cases he:gen % 2=q
    .rw[if_pos he,if_pos he.symm];rfl
    .rw[if_neg he,if_neg (fun h=>he h.symm)]
   have ho:(EG A gen body).on=false:=by rw[hs.2];rfl
   refine .inr ⟨by omega,hs.1,ho,fun p hp2=>?_,hp.len,fun picks=>?_⟩
   .obtain⟨i,hi⟩:=qcg.1 hp2;have hlt:=(qaq.1 hi).1;rw[hp.get i (by rw[<-hp.len];exact hlt)]at hi;rw[<-qbw hi];dsimp only
    split <;> simp
   .obtain⟨k1,k2,S',k3,k4⟩:=hp.on ho picks;refine⟨k2,?_⟩
    rcases k4 (gen % 2) (by omega)with h5|h5
    .refine .inl (g.put k1 (by omega) (k3.congr fun q hq=>?_) fun _ _ _=>rfl)
     by_cases he:q=gen % 2
     .rw[he];exact h5.symm
     .rcases k4 q hq with h6|h6
      .exact h6.symm
      .rw[if_neg he]at h6;cases h6
    .refine .inr (g.put k1 (by omega) (k3.congr fun q hq=>?_) fun q h6 h7=>if_neg (by omega));rw[if_pos rfl,qaa]at h5
     by_cases he:q=gen % 2
     .rw[if_pos he,he,h5]
     .rw[if_neg he]
      rcases k4 q hq with h6|h6
      .exact h6.symm
      .rw[if_neg he]at h6;cases h6
  .rw[if_neg (by omega),if_neg l0,if_neg l1]at hs;have hd:=hs.2;refine .inl ⟨hs.1,fun hl=>by rw[hd];exact if_pos hl,g.put (by rw[hd];rfl) (by rw[hd];show -1<=(if A.left = -1 then -1 else A.left - 2);split <;> omega) ?_ fun q h6 h7=>if_neg (by omega)⟩;rw[hd];refine⟨by simp[Go.Proofs.YtcpgbcabmcbclaaGreatDoor.calm],fun q hq=>?_⟩;show((((List.range N).map V).set (gen % 2) (DJ gen body)).map fun b=>(b,[]))[q]?=_;rw[qat,qc6]
   by_cases h:q=gen % 2
   .subst h;rw[if_pos rfl,if_pos (by simpa using hq),if_pos rfl];rfl
   .rw[if_neg (fun h5=>h h5.symm),qat,qdu hq,if_neg h];rfl
theorem SG.save0(g:SG N A R V)(hl:A.left = -1)(gen:Nat)(body:Byt)(h1:1<=gen)(hg:gen<=4611686018427387904)(hb:body.length<=480) :
  GN A gen body=0/\(EG A gen body).left = -1/\SG N (EG A gen body) R (fun q=>if q=gen % 2 then DJ gen body else V q) :=
 let h:=(g.save gen body h1 hg hb).resolve_right fun h=>h.1 hl
 ⟨h.1,h.2.1 hl,h.2.2⟩
theorem SG.off(g:SG N A R V)(picks:List Int):SG N (onD (MF A) picks) R V:=by
 have hp:Pend (MF A) N V (fun _=>[]):=⟨g.pend.len,g.pend.get⟩;obtain⟨h1,h2,S',h3,h4⟩:=hp.on rfl picks;refine⟨g.ok,g.fit,g.lim,h1,by omega,⟨h3.len,fun q hq=>?_⟩,g.held⟩;rw[h3.get q hq]
 rcases h4 q hq with h5|h5
 .rw[h5]
 .cases h5
theorem SG.new{n:Nat}{R:Rj}(hR:R.Ok)(hL:R.L=[])(hf:2+R.size<=n)(hn:n<=4096):SG n (Fu n) R (fun _=>zeros) :=
 ⟨hR,hf,hn,rfl,by show(-1:Int) <= -1;decide,Pend.new n,HeldJ.zeros hL⟩
theorem SG.load(g:SG N A R V){g0 g1:Nat}{l0 l1:Byt}(h0:Cy 0 (V 0)=g0)(h1:Cy 1 (V 1)=g1)(hl0:g1<g0->DI 0 (V 0)=l0)(hl1:g0<=g1->0<g1->DI 1 (V 1)=l1) :
  EK A=(if g0=0/\g1=0 then 4 else 0)/\F6 A=(if g1<g0 then g0 else g1)/\DU A=(if g1<g0 then l0 else if g1=0 then[]else l1):=by
 have hN:2<=N:=by have:=g.ok.s1;have:=g.fit;omega
 have e0:((List.range N).map V).getD 0 zeros=V 0:=by rw[qa8,qat,qdu (by omega)];rfl
 have e1:((List.range N).map V).getD 1 zeros=V 1:=by rw[qa8,qat,qdu (by omega)];rfl
 have h:=Aj8 (g0:=g0) (g1:=g1) (l0:=l0) (l1:=l1) (B:=(List.range N).map V) (left:=A.left) (by simpa using hN) (by rw[e0];exact h0) (by rw[e1];exact h1) (by rw[e0];exact hl0) (by rw[e1];exact hl1);rw[<-g.calm]at h;exact h
end
abbrev Kvl:Type:=List (Byt × Byt)
def EH(l:List (Byt × Sv)):Kvl:=l.map fun p=>(p.1,p.2.v)
def LH(kv:Kvl)(x:Wr):Kvl:=if x.d=true then Gq kv x.k else J9 (Gq kv x.k) x.k x.v
def LI(kv:Kvl)(k:Byt):Int:=match BI kv k with|some v=>MG k v|none=>0
def goK(kv:Kvl)(room:Int):List Byt->Int->List Wr->Int
 |_,b,[]=>if room<b then 7 else 0
 |seen,b,x::L=>if HB (decide (x.k∈seen)) x=true then 1 else goK kv room (seen++[x.k]) (b - LI kv x.k+HA x) L
def Eh(kv:Kvl)(n room:Int)(L:List Wr):Int:=if 1000<L.length then 6 else goK kv room [] n L
theorem LJ{l:List (Byt × Sv)}{k:Byt}:BI (EH l) k=(BI l k).map Sv.v:=Fh (f:=Sv.v)
theorem W3(l:List (Byt × Sv))(k:Byt):Jk l k=LI (EH l) k:=by
 unfold Jk LI;rw[LJ];cases BI l k <;> rfl
theorem Akf(l:List (Byt × Sv))(room:Int):∀(L:List Wr) (seen:List Byt) (b:Int),goR l room seen b L=goK (EH l) room seen b L
 | [],_,_=>rfl
 |x::L,seen,b=>by
  rw[goR,goK,W3,Akf l room L]
theorem Aff(l:List (Byt × Sv))(n room:Int)(L:List Wr):Wz l n room L=Eh (EH l) n room L:=by
 unfold Wz Eh;rw[Akf]
theorem Acz{l:List (Byt × Sv)}{x:Wr}{s:Sv}(h:s.v=x.v):EH (Uf l x s)=LH (EH l) x:=by
 unfold Uf LH EH
 split
 .exact(Oz (f:=Sv.v)).symm
 .rw[Oz (f:=Sv.v),<-h,Oy (f:=Sv.v)]
def Gb(kv:Kvl)(L:List Wr):Kvl:=L.foldl LH kv
def Ek(kv:Kvl)(n:Int):List Wr->Int
 | []=>n
 |x::L=>Ek (LH kv x) (n - LI kv x.k+HA x) L
theorem TG{kv:Kvl}{L:List Wr}{x:Wr}:Gb kv (L++[x])=LH (Gb kv L) x:=by simp[Gb]
theorem Nw:∀{L:List Wr} {kv:Kvl} {n:Int} {x:Wr},Ek kv n (L++[x])=Ek kv n L - LI (Gb kv L) x.k+HA x
 | [],_,_,_=>rfl
 |y::L,kv,n,x=>by
  rw[qbx,Ek,Ek,Nw];rfl
theorem Amx{kv:Kvl}(h:∀p∈kv,p.1.length<=32/\p.2.length<=128)(k:Byt):0<=LI kv k/\LI kv k<=164:=by
 unfold LI
 cases hq:BI kv k with
 |none=>simp
 |some v=>have:=h _ (EU hq);dsimp only[MG]at this |-;omega
theorem Amy{x:Wr}(h:x.Few):0<=HA x/\HA x<=164:=by
 unfold HA Wr.Few at *
 split
 .simp
 .unfold MG;omega
theorem KvAt.fewK{w:World}{M:Mut}{l:List (Byt × Sv)}{o:Obj}(K:KvAt w M l o):∀p∈EH l,p.1.length<=32/\p.2.length<=128:=fun p hp=>by
 obtain⟨q,hq,rfl⟩:=qah.1 hp;exact K.few q hq
structure Sp where
 bd:Nat
 bs:Nat
 bj:Nat
 bp:Nat
 ba:Nat
 bt:Nat
 m1:Nat
 m2:Nat
 z:Nat->Prop
structure Sx where
 gen:Nat
 root:Int
 n:Int
 kv:Kvl
 t:List (Byt × Int)
 P:List Nat
 T:Int
 V:Nat->Byt
def Sp.blk(p:Sp)(x:Sx)(o1 o2:Obj):List (Nat × Obj) :=
 [(p.bs,Bl CU (CN (ptr p.bd) (ptr p.bj) (ptr p.bp) (ptr p.bt) x.gen x.root p.m1 p.m2 x.n false)),(p.m1,o1),(p.m2,o2),(p.bp,Bl TPg [.slice (some ⟨p.ba,0,none⟩) x.P.length x.P.length]),(p.ba,Bl TSt (x.P.map stv)),(p.bt,Bl TT (Qq p.bd p.bp 362))]
def Sp.own(p:Sp):List Nat:=[p.bs,p.m1,p.m2,p.bp,p.ba,p.bt]
def Ms(F:Mut)(p:Sp):Mut:=fun x=>Fj F p.bj x\/x∈p.own
def Mv(F:Mut)(p:Sp):Mut:=fun y=>Ms F p y\/p.z y
theorem KvAt.weak{w:World}{M M':Mut}{l:List (Byt × Sv)}{o:Obj}(h:KvAt w M l o)(hM:∀x,M' x->M x):KvAt w M' l o:=⟨h.m,(fun q hq=>⟨⟨(h.ok q hq).1.1,(h.ok q hq).1.2.imp id fun h5 h6=>h5 (hM _ h6)⟩,(h.ok q hq).2⟩),h.few⟩
theorem TH{F F':Mut}{p:Sp}{w w':World}(h:Grown (Ms F p) (Ms F' p) w w'):Grown (Mv F p) (Mv F' p) w w':=by
 obtain⟨⟨S,hS,hx⟩,g⟩:=h;exact⟨⟨S,fun y hy => .inl (hS y hy),hx⟩,fun y hy=>hy.elim (fun h=>(g y h).imp .inl id) fun h => .inl (.inr h)⟩
structure Sok(w0 w:World)(p:Sp)(A:Dev)(R:Rj)(x:Sx)(F:Mut):Prop where
 jone:Jone w0 w p.bd p.bj A (jrK 2 R R.L) F
 good:SG A.B.length A R x.V
 ex:∃l o1 o2,Fo w (Fj F p.bj) (p.blk x o1 o2)/\KvAt w (Mv F p) l o1/\EH l=x.kv/\En str (mi x.t) o2
 ge:∀q∈p.own,w0.heap.size<=q
 nn : -(200*x.T)<=x.n/\x.n<=200*x.T
 tt:∀q∈x.t,0<=q.2/\q.2<=x.T
 tT:0<=x.T/\x.T<=4000000
 zl:∀y,p.z y->y<w.heap.size
section
variable {w0 w w':World}{p:Sp}{A:Dev}{R:Rj}{x:Sx}{F:Mut}
theorem Sok.call(O:Sok w0 w p A R x F)(hx:Ext [] w w'):Sok w0 w' p A R x F:=by
 obtain⟨l,o1,o2,hF,K,hk,hM⟩:=O.ex;exact⟨O.jone.call hx,O.good,⟨l,o1,o2,(hF.call (Grown.call hx)).1,⟨K.m,fun q hq=>⟨(K.ok q hq).1.call hx,(K.ok q hq).2⟩,K.few⟩,hk,hM⟩,O.ge,O.nn,O.tt,O.tT,fun y hy=>qas (O.zl y hy) hx.size⟩
theorem Sok.lt(O:Sok w0 w p A R x F):∀q,Ms F p q->q<w.heap.size:=fun q hq=>by
 obtain⟨l,o1,o2,hF,-⟩:=O.ex
 rcases hq with hq|hq
 .exact(O.jone.at q hq).2
 .have hb:∀y∈p.blk x o1 o2,y.1<w.heap.size:=fun y hy=>Al (hF.blk y hy);simp only[Sp.own,qac,qam,or_false]at hq;simp only[Sp.blk,qac,qam,or_false,forall_eq_or_imp,forall_eq]at hb
  rcases hq with rfl|rfl|rfl|rfl|rfl|rfl
  .exact hb.1
  .exact hb.2.1
  .exact hb.2.2.1
  .exact hb.2.2.2.1
  .exact hb.2.2.2.2.1
  .exact hb.2.2.2.2.2
def Ap7(w0 w:World)(bd bj N:Nat)(A:Dev)(R:Rj)(V:Nat->Byt)(F:Mut)(b:Byt)(v:Value)(w':World):Prop :=
 ∃(e:Int) (A':Dev) (J':Jr) (F':Mut),v=.int .i64 e/\Jone w0 w' bd bj A' J' F'/\Grown (Fj F bj) (Fj F' bj) w w' /\
  ((e=0/\J'=jrK 2 (R.more b) (R.more b).L/\(A.left = -1->A'.left = -1)/\∃V',SG N A' (R.more b) V'/\∀q,(q<2\/2+R.size<=q)->q<N->V' q=V q) \/
   (e=8/\A.left ≠ -1/\A'.on=false/\Few A' 1000000/\∀picks,(onD A' picks).left = -1/\∃V',(∀q,(q<2\/2+R.size<=q)->q<N->V' q=V q)/\(SG N (onD A' picks) R V'\/SG N (onD A' picks) (R.more b) V')))
theorem Y3{A:Dev}{J:Jr}{b:Byt}{m:Nat}(h:Few A m):Few (CZ A J b).2 (m+blk b.length):=by
 have hb:=Et b.length;have h1:=OE (J:=J) (b:=b) h (blk b.length - 1);have h2:=I0 h1;have h3:=Hy h2 (J.place (blk b.length - 1):Int) (DT 2 (Hk J.seq b));have h4:=I0 h3;have e:m+(blk b.length - 1)+1=m+blk b.length:=by omega
 rw[e]at h3 h4;unfold CZ
 split
 .split
  .split
   .exact h4
   .exact h3
  .exact h2.mono (by omega)
 .exact h1.mono (by omega)
theorem Afg{A:Dev}{J:Jr}{b:Byt}{m:Nat}(h:Few A m):Few (Il A J b) (m+blk b.length):=by
 unfold Il
 split
 .exact h.mono (by omega)
 .split
  .exact h.mono (by omega)
  .exact Y3 h
theorem Afh{N bd bj:Nat}{V:Nat->Byt}(O:Jone w0 w bd bj A (jrK 2 R R.L) F)(g:SG N A R V)(b:Byt)(hfit:BD R.L+blk b.length<=R.size)(a:Option Addr)(c n:Nat)(Rb:Rd w a 1 B8 b)(hn:b.length=n)(hc:n<=c)(hFa:b=[]\/¬Fj F bj (adr a).block)(hm:n<=900000:=by omega):
  Ret prog 48 #[ptr bj,.slice a n c] w (Ap7 w0 w bd bj N A R V F b) :=
 (Yz O g.good.jok a c n b Rb hn hm hc hFa g.good.few).mono fun v w' ⟨hv,F',O',G⟩=>by
  have hB:=PB b.length;have hfw:Few (Il A (jrK 2 R R.L) b) 1000000:=(Afg (m:=0) g.good.few).mono (by omega);refine⟨_,_,_,F',hv,O',G,?_⟩
  rcases g.app b hfit with⟨h1,h2,h3,V',h4,h5⟩|⟨h0,h1,h2,h3,h4⟩
  .exact .inl ⟨h1,h2,h3,V',h4,h5⟩
  .exact .inr ⟨h1,h0,h3,hfw,h4⟩
theorem Jone.over{bd bj:Nat}{J:Jr}{S:List Nat}(O:Jone w0 w bd bj A J F)(hx:Ext S w w')(hS:∀y∈S,¬Fj F bj y)(hge:∀y∈S,w0.heap.size<=y):Jone w0 w' bd bj A J F :=
 ⟨⟨O.own.ext.then hx fun y hy => .inr (hge y hy),O.own.dev.keep hx fun y hy h=>hS y hy (.inl h),fun y h=>by have:=O.own.own y h;have:=hx.size;omega⟩,by rw[hx.block bj (Al O.jr) fun h=>hS _ h (.inr rfl)];exact O.jr,O.nF,O.ge⟩
theorem Wrs.call{M:Mut}{a:Option Addr}{n c:Nat}{L:List Wr}(h:Wrs w M a n c L)(hx:Ext [] w w'):Wrs w' M a n c L:=h.turn (Grown.call hx)
theorem Ac0{kv:Kvl}{room:Int}:∀{L:List Wr} {seen:List Byt} {b:Int},goK kv room seen b L=0->∀y∈L,y.Few
 | [],_,_,_,y,hy=>by cases hy
 |z::L,seen,b,h,y,hy=>by
  rw[goK]at h
  split at h
  .cases h
  .rename_i hb
   rcases qac.1 hy with rfl|hy
   .unfold HB at hb;simp only[qep,qdz,qct]at hb;exact⟨by omega,by omega⟩
   .exact Ac0 h y hy
theorem Y4{kv:Kvl}{n room:Int}{L:List Wr}(h:Eh kv n room L=0):L.length<=1000/\∀y∈L,y.Few:=by
 unfold Eh at h
 split at h
 .cases h
 .exact⟨by omega,Ac0 h⟩
theorem Jf{m:Int}:∀{L:List Wr} {kv:Kvl} {n:Int},(∀q∈kv,q.1.length<=32/\q.2.length<=128)->(∀y∈L,y.Few) -> -(200*m)<=n->n<=200*m -> -(200*(m+L.length))<=Ek kv n L/\Ek kv n L<=200*(m+L.length)
 | [],kv,n,_,_,h1,h2=>by simp[Ek];omega
 |z::L,kv,n,hkv,hL,h1,h2=>by
  rw[Ek];have ha:=Amx hkv z.k;have hb:=Amy (hL z (qaf ..));have hz:=hL z (qaf ..)
  have:=Jf (m:=m+1) (L:=L) (kv:=LH kv z) (n:=n - LI kv z.k+HA z) (fun q hq=>by
   unfold LH at hq
   split at hq
   .exact hkv q (JV hq)
   .rcases OC hq with rfl|hq
    .exact hz
    .exact hkv q (JV hq)) (fun y hy=>hL y (qai _ hy)) (by omega) (by omega)
  rw[qaw];omega
end
def Ex(t:List (Byt × Int))(W:List Wr):List (Byt × Int):=W.foldl (fun t x=>JU t x.k) t
theorem Q0{t:List (Byt × Int)}{W:List Wr}{x:Wr}:Ex t (W++[x])=JU (Ex t W) x.k:=by simp[Ex]
section
variable {w0 w w':World}{p:Sp}{A:Dev}{R:Rj}{x:Sx}{F:Mut}
theorem Amz{M:Mut}{o1 o2 z1 z2 ob:Obj}(hF:Fo w M (p.blk x o1 o2))(H:Ctx w [p.bs,p.m1,p.m2] w' [(p.bs,ob),(p.m1,z1),(p.m2,z2)]) :
  Fo w' M ([(p.bs,ob),(p.m1,z1),(p.m2,z2)]++(p.blk x o1 o2).drop 3):=by
 have hk:([(p.bs,ob),(p.m1,z1),(p.m2,z2)]++(p.blk x o1 o2).drop 3).map (·.1)=(p.blk x o1 o2).map (·.1):=rfl;have hnd:=hF.nd;refine⟨fun y hy=>?_,?_,fun y hy=>?_⟩
 .rcases qau.1 hy with hy|hy
  .exact H.blk y hy
  .have hb:=hF.blk y (qcy hy);rw[H.ext.block y.1 (Al hb) fun h5=>?_]
   .exact hb
   .simp only[Sp.blk,qbh,qac,qam,or_false,forall_eq_or_imp,forall_eq]at hnd;simp only[Sp.blk,List.drop_succ_cons,List.drop_zero,qac,qam,or_false]at hy h5
    rcases hy with rfl|rfl|rfl <;> rcases h5 with h5|h5|h5 <;> simp_all
 .have h1:((p.blk x o1 o2).map (·.1)).Pairwise (·≠·):=qbs.2 hnd;rw[<-hk]at h1;exact qbs.1 h1
 .have h1:y.1∈(p.blk x o1 o2).map (·.1):=by rw[<-hk];exact qah.2 ⟨y,hy,rfl⟩
  obtain⟨z,hz,he⟩:=qah.1 h1;rw[<-he];exact hF.off z hz
theorem Y5{F':Mut}(h:Grown (Fj F p.bj) (Fj F' p.bj) w w'):Grown (Ms F p) (Ms F' p) w w':=by
 obtain⟨⟨S,hS,hx⟩,g⟩:=h;exact⟨⟨S,fun y hy => .inl (hS y hy),hx⟩,fun y hy=>hy.elim (fun h=>(g y h).imp .inl id) fun h => .inl (.inr h)⟩
structure Cj(p:Sp)(x:Sx)(M:Mut)(wb:World)(L:List Wr)(i:Nat)(l:List (Byt × Sv))(t:List (Byt × Int))(z1 z2:Obj)(w':World):Prop where
 H:Ctx wb [p.bs,p.m1,p.m2] w' [(p.bs,Bl CU (CN (ptr p.bd) (ptr p.bj) (ptr p.bp) (ptr p.bt) x.gen x.root p.m1 p.m2 (Ek x.kv x.n (L.take i)) false)),(p.m1,z1),(p.m2,z2)]
 K:KvAt w' M l z1
 k:EH l=Gb x.kv (L.take i)
 m:En str (mi t) z2
 te:t=Ex x.t (L.take i)
 t:∀q∈t,0<=q.2/\q.2<=x.T+i
structure Dd9(w0 w:World)(p:Sp)(A:Dev)(F:Mut):Prop where
 own:Own w0 w p.bd A F
 bs:∃(vj vp vt:Value) (gen:Nat) (root n:Int),w.heap[p.bs]?=some (Bl CU (CN (ptr p.bd) vj vp vt gen root p.m1 p.m2 n true))
 nF:¬F p.bs
 ge:w0.heap.size<=p.bs
 off:A.on=false
 few:Few A 10000000
def CkOut(w0:World)(p:Sp)(F:Mut)(C:Dev->Rj->Sx->Prop)(Z:Dev->Prop)(w:World)(v:Value)(w':World):Prop :=
 ∃(e:Int) (A':Dev) (F':Mut),v=.int .i64 e/\Grown (Ms F p) (Ms F' p) w w'/\((e=0/\∃R' x',Sok w0 w' p A' R' x' F'/\C A' R' x')\/(e=8/\Dd9 w0 w' p A' F'/\Z A'))
def Aom(w0:World)(p:Sp)(A:Dev)(R:Rj)(x:Sx)(F:Mut)(L:List Wr)(C:Dev->Rj->Sx->Prop)(Z:Dev->Prop)(w:World)(v:Value)(w':World):Prop :=
 (v=.int .i64 (Eh x.kv x.n (Cu A.B.length) L)/\(Eh x.kv x.n (Cu A.B.length) L≠0\/L=[])/\Sok w0 w' p A R x F/\Ext [] w w') \/
 (Eh x.kv x.n (Cu A.B.length) L=0/\L≠[]/\v=.int .i64 0/\∃A1 R1 x1 A' F' V',C A1 R1 x1/\Sok w0 w' p A' (R1.more (opB L)) { x1 with n:=Ek x1.kv x1.n L,kv:=Gb x1.kv L,t:=Ex x1.t L,T:=x1.T+L.length,V:=V' } F'/\A'.B.length=A.B.length/\(A1.left = -1->A'.left = -1)/\(∀q,(q<2\/2+R1.size<=q)->q<A.B.length->V' q=x1.V q)/\Grown (Ms F p) (Ms F' p) w w') \/
 (Eh x.kv x.n (Cu A.B.length) L=0/\L≠[]/\v=.int .i64 8/\∃A' F',Dd9 w0 w' p A' F'/\Grown (Ms F p) (Ms F' p) w w'/\(Z A'\/∃A1 R1 x1,C A1 R1 x1/\A1.left ≠ -1/\∀picks,(onD A' picks).left = -1/\∃V',(∀q,(q<2\/2+R1.size<=q)->q<A.B.length->V' q=x1.V q)/\(SG A.B.length (onD A' picks) R1 V'\/SG A.B.length (onD A' picks) (R1.more (opB L)) V')))
theorem Nx(O:Sok w0 w p A R x F)(a:Option Addr)(nn c:Nat)(L:List Wr)(X:Wrs w (Ms F p) a nn c L)(hnn:nn<=1000000000)(hT:x.T<=3000000){C:Dev->Rj->Sx->Prop}{Z:Dev->Prop}(hC:∀{A' R' x'},C A' R' x'->x'.kv=x.kv/\x'.n=x.n/\x'.T=x.T/\A'.B.length=A.B.length/\BD R'.L+blk (opB L).length<=R'.size)(hfit:Eh x.kv x.n (Cu A.B.length) L=0->L≠[]->BD R.L+blk (opB L).length<=R.size->C A R x)(hck:∀w1,Ext [] w w1->Eh x.kv x.n (Cu A.B.length) L=0->L≠[]->¬BD R.L+blk (opB L).length<=R.size->Ret prog 16 #[ptr p.bs] w1 (CkOut w0 p F C Z w1)) :
  Ret prog 13 #[ptr p.bs,.slice a nn c] w (Aom w0 p A R x F L C Z w):=by
 obtain⟨wI,rfl⟩:=qD w;have hnL:=X.num;have hB:=O.good.lim;have hnn0:=O.nn;have hT0:=O.tT
 have hs:wI.heap[p.bs]?=some (Bl CU (CN (ptr p.bd) (ptr p.bj) (ptr p.bp) (ptr p.bt) x.gen x.root p.m1 p.m2 x.n false)):=by
  obtain⟨l,o1,o2,hF,-⟩:=O.ex;exact hF.blk _ (qaf ..)
 have hright:=(fun(l:List (Byt × Sv)) (o1 o2:Obj) (hF:Fo wI (Fj F p.bj) (p.blk x o1 o2)) (K:KvAt wI (Mv F p) l o1)=>let ⟨_,_,hhd⟩:=O.jone.own.dev.hd;Ae4 wI a nn c L hs hhd (hF.blk (p.m1,o1) (by simp[Sp.blk])) (K.weak fun _ h => .inl h) X hnn);obtain⟨l0,o10,o20,hF0,K0,hk0,hM0⟩:=O.ex;have hright:=hright l0 o10 o20 hF0 K0;rw[Aff,hk0]at hright;clear hF0 K0 hk0 hM0;refine A6 (fn:=Tryz.f13) func13 U [ptr p.bs,.slice a nn c] U (Ad (Ac U (qA (Aq (Ad (Am U (Ai qB (GP hs) U ?_)))))));rintro v w ⟨rfl,rfl⟩;refine Ac U (qA (Ad (Ae U (Ba U U (qA (Au _ U ?_ ?_))))))
 .intro h1;replace h1:=Bu h1;exact absurd U h1
 .intro h1;replace h1:=Bv h1;refine Ap (Aa (Aq (Ad (Am U (Aj U (Ai qB hright U ?_))))));rintro v w2 ⟨rfl,hx19⟩;refine Ac U (qA (Ad (BE (α:=Unit) 133169152 (fun _=>[(26,.bool ((!decide (Eh x.kv x.n (Cu A.B.length) L=0) || decide (nn=0))))]) (fun _ w'=>w2=w') U ?_ ?_)))
  .refine Ae U (Ba U U (AA U (AR 22 U ?_ ?_)))
   .intro h1;replace h1:=Bu h1;refine Ag U (Ag U (Ag U (AN U (.bool _) U (Ab ?_))));exact⟨rfl,(),rfl,⟨qab Value.bool (by simp_all;try omega),trivial⟩,rfl⟩
   .intro h2;replace h2:=Bv h2;refine Aj U (AP CD U (B6 U U (AK U (.bool _) U (Ab ?_))));exact⟨rfl,(),rfl,⟨qab Value.bool (by simp_all;try omega),trivial⟩,rfl⟩
  rintro - j26 w rfl;refine Au _ U ?_ ?_
  .intro h2;refine Ad (Ae U (Ac U (qA (Ax (Ao (AG (v:=(.int _ _)) U U U ?_))))));refine .inl ⟨rfl,?_,O.call hx19,hx19⟩;simp only[qcf,qd6,qct,qap]at h2;exact h2.imp id fun h=>qa4 (by omega)
  .intro h2;simp only[qdz,Bool.not_eq_false',qct,qap]at h2;obtain⟨hr0,hn0⟩:=h2;have hL0:L≠[]:=fun h=>hn0 (by rw[hnL,h];rfl);obtain⟨hL1,hLf⟩:=Y4 hr0;have O2:=O.call hx19;have X2:=X.call hx19;refine Ap (Aa (Ad (Aj U (Ai qB (Amo w2 a nn c L X2 hLf) U ?_))));rintro v w3 ⟨a29,c29,rfl,R29,h29,hc29,hx29⟩;have O3:=O2.call hx29;have X3:=X2.call hx29;have hs3:=(hx19.trans hx29).to hs (by simp);have hOL:=Ox hLf;have H:=Ctx.start w3 [];have X29:Rdx w3 (Ms F p) a29 (opB L):=⟨R29,h29.imp id fun h hj=>by have:=O2.lt _ hj;omega⟩;refine Ak U (qA (Aq (BR [([0,1,3,4,5,6],2),([],7),([],8)] (fun z=>z.heap[p.bs]?=some (Bl CU (CN (ptr p.bd) (ptr p.bj) (ptr p.bp) (ptr p.bt) x.gen x.root p.m1 p.m2 x.n false))) [] mixed ((H.drew.ext.to hs3 (by simp))) ?_)));refine AC U U ?_
   refine BF U (Qb AX U (Cs U (Bg U (AD Mg U (BG MK U (fun _ hx=>(by rw[Ar hx];rfl)) ?_)))));refine AU ?_;replace H:=H.drew;refine Ai qB (Gw _ _) U ?_;rintro v w ⟨rfl,rfl⟩;rw[Je];refine Ab (Bc ((H.ext.to hs3 (by simp))) ?_);refine AC U U (AU (Ai qB (Afd (O3.jone.call H.ext) O3.good.good) U ?_));rintro v w ⟨rfl,hx37⟩;replace H:=H.call hx37;refine Ab (Bc ((H.ext.to hs3 (by simp))) ?_);refine AC U U (AU (BZ U U (Ab (Bc ((H.ext.to hs3 (by simp))) ?_))));refine B1 ?_;have hx3:=(hx19.trans hx29).trans H.ext;have htk:=O3.good.ok.t;refine EZ 17042430230800 (α:=Dev × Rj × Sx × Mut) (fun _=>[]) (fun s w'=>Sok w0 w' p s.1 s.2.1 s.2.2.1 s.2.2.2/\C s.1 s.2.1 s.2.2.1/\Grown (Ms F p) (Ms s.2.2.2 p) w3 w') U ?_ ?_
   .skip
    refine Au _ U ?_ ?_
    .intro h3;replace h3:=AV h3;refine Ad (Am U (Ai qB (hck _ hx3 hr0 hL0 (by omega)) U ?_));rintro v w4 ⟨e4,A1,F1,rfl,G4,h40⟩;refine Ac U (qA (Ad (Ae U (Ba U U (qA (Au _ U ?_ ?_))))))
     .intro h4;replace h4:=Bu h4;refine Ad (Ae U (Ac U (qA (Ax (Ao (AG (v:=(.int _ _)) U U U ?_))))));obtain⟨rfl,D4,hZ4⟩:=h40.resolve_left (fun h=>h4 h.1);exact .inr (.inr ⟨hr0,hL0,rfl,A1,F1,D4,Grown.trans (Grown.call hx3) G4,.inl hZ4⟩)
     .intro h4;replace h4:=Bv h4;obtain⟨-,R1,x1,O4,hC4⟩:=h40.resolve_right (fun h=>by have:=h.1;omega);refine Ap (Aa ?_);exact⟨(A1,R1,x1,F1),rfl,trivial,O4,hC4,Grown.trans (Grown.call H.ext) G4⟩
    .intro h3;replace h3:=AW h3;refine Ap (Aa ?_);exact⟨(A,R,x,F),rfl,trivial,O3.call H.ext,hfit hr0 hL0 (by omega),Grown.call H.ext⟩
   .rintro⟨A1,R1,x1,F1⟩ j38 w4 ⟨O4,hC4,G4⟩;dsimp only at O4 hC4 G4;obtain⟨hkv,hxn,hxT,hAl,hft⟩:=hC hC4;have X4:=X3.turn G4;have X30:=Rdx.turn X29 G4;have hnn4:=O4.nn;have hT4:=O4.tT;have hlt4:=O4.lt;clear H;obtain⟨wJ,rfl,H⟩:=qE w4;obtain⟨l4,o14,o24,hF4,K4,hk4,hM4⟩:=O4.ex;have hs4:=hF4.blk _ (qaf ..);dsimp only at hs4;refine Aq (Ad (Am U (Am U (A8 U (Af Mg U (Be MK U ((by rw[Ar (H.ext.to hs4 (by simp))];rfl)) ?_))))));refine Aj U (Ai qB (Afh (N:=A.B.length) (V:=x1.V) (O4.jone.call H.ext) (by have h9:=O4.good;rw[hAl]at h9;exact h9) (opB L) hft a29 c29 _ (X30.1.ext0 H.ext) U hc29 (X30.2.imp id fun h hj=>h (.inl hj))) U ?_);rintro v w5 ⟨e5,A',J',F',rfl,J5,gr5,h50⟩;have hF5:=((hF4.call (Grown.call H.ext)).1.call gr5).1;have hs5:=hF5.blk _ (qaf ..);have gM:=Y5 (p:=p) gr5
    have gI:Grown (Ms F p) (Ms F' p) wI w5:=Grown.trans (Grown.trans (Grown.call (hx19.trans hx29)) G4) (Grown.trans (Grown.call H.ext) gM);refine Ai qB (Ys (Ctx.startL (L:=[(p.bs,Bl CU (CN (ptr p.bd) (ptr p.bj) (ptr p.bp) (ptr p.bt) x1.gen x1.root p.m1 p.m2 x1.n false))]) (fun y hy=>by rw[qaa.1 hy];exact hs5) (by simp)) _) U ?_;rintro v w6 ⟨rfl,H6⟩;refine Ac U (qA ?_);have hS3:∀y∈[p.bs,p.m1,p.m2],Ms F' p y:=fun y hy => .inr (by simp only[Sp.own,qac,qam,or_false]at hy |-;rcases hy with h|h|h <;> simp[h])
    have hoff5:∀y∈[p.bs,p.m1,p.m2],¬Fj F' p.bj y:=fun y hy h=>by
     have h1:∃ob,(y,ob)∈p.blk x1 o14 o24:=by
      simp only[qac,qam,or_false]at hy
      rcases hy with rfl|rfl|rfl
      .exact⟨_,qaf ..⟩
      .exact⟨o14,by simp[Sp.blk]⟩
      .exact⟨o24,by simp[Sp.blk]⟩
     obtain⟨ob,hob⟩:=h1;exact hF5.off _ hob h
    have hge5:∀y∈[p.bs,p.m1,p.m2],w0.heap.size<=y:=fun y hy=>O.ge y (by simp only[Sp.own,qac,qam,or_false]at hy |-;rcases hy with h|h|h <;> simp[h]);refine Ad (Ae U (Ba U U (qA (Au _ U ?_ ?_))))
    .intro h4;replace h4:=Bu h4;obtain⟨rfl,hl5,off5,few5,pk5⟩:=h50.resolve_left (fun h=>h4 h.1);refine Ad (Ae U (Ac U (qA (Ax (Ao (AG (v:=(.int _ _)) U U U ?_))))));have J6:=J5.over H6.ext (fun y hy=>hoff5 y (by rw[qaa.1 hy];simp)) (fun y hy=>hge5 y (by rw[qaa.1 hy];simp));exact .inr (.inr ⟨hr0,hL0,rfl,A',F',⟨J6.own,⟨_,_,_,_,_,_,H6.get at0⟩,fun h=>hoff5 p.bs (by simp) (.inl h),hge5 p.bs (by simp),off5,few5.mono (by decide)⟩,Grown.trans gI ⟨Turn.of H6.ext fun y hy=>hS3 y (by rw[qaa.1 hy];simp),fun _ h => .inl h⟩,.inr ⟨A1,R1,x1,hC4,hl5,pk5⟩⟩)
    .intro h4;replace h4:=Bv h4;obtain⟨rfl,rfl,hl5,V',G5,hv5⟩:=h50.resolve_right (fun h=>by have:=h.1;omega);have K5:KvAt w5 (Mv F' p) l4 o14:=⟨K4.m,(fun q hq=>⟨((K4.ok q hq).1.call H.ext).turn (TH gM),(K4.ok q hq).2⟩),K4.few⟩;have X5:Wrs w5 (Ms F' p) a nn c L:=(X4.call H.ext).turn gM;clear H;have C5:Ctx w5 [p.bs,p.m1,p.m2] w5 [(p.bs,Bl CU (CN (ptr p.bd) (ptr p.bj) (ptr p.bp) (ptr p.bt) x1.gen x1.root p.m1 p.m2 x1.n false)),(p.m1,o14),(p.m2,o24)]:=Ctx.startL (L:=(p.blk x1 o14 o24).take 3) (fun y hy=>hF5.blk y (qbp hy)) (hF5.nd.sublist (List.take_sublist ..));have C6:Ctx w5 [p.bs,p.m1,p.m2] w6 [(p.bs,Bl CU (CN (ptr p.bd) (ptr p.bj) (ptr p.bp) (ptr p.bt) x1.gen x1.root p.m1 p.m2 x1.n false)),(p.m1,o14),(p.m2,o24)]:=C5.turn at0 (Bl CU (CN (ptr p.bd) (ptr p.bj) (ptr p.bp) (ptr p.bt) x1.gen x1.root p.m1 p.m2 x1.n false)) H6.ext (H6.get at0);obtain⟨ps,R5,hoff,hl,hp⟩:=X5.ex
     have hpn:ps.length=nn:=by rw[hnL,<-hl,qaj]
     have hlt5:∀y,Ms F' p y->y<w5.heap.size:=fun y hy=>by
      rcases hy with hy|hy
      .exact(J5.at y hy).2
      .have h6:=hlt4 y (.inr hy);have h7:=gM.1.size;omega
     have hlt5v:∀y,Mv F' p y->y<w5.heap.size:=fun y hy=>hy.elim (hlt5 y) fun h=>by
      have h6:=O4.zl y h;have h7:=gM.1.size;have h8:=H6.ext.size;omega
     refine Ap (Aa (Aq (Ad (Aj U (AP CD U (Ae U (qA (AE (B7 36749372959343249408 (α:=Nat × List (Byt × Sv) × List (Byt × Int) × Obj × Obj) (fun s=>[(57,.int .i64 (s.1:Int))]) (fun s w'=>s.1<=nn/\Cj p x1 (Mv F' p) w5 L s.1 s.2.1 s.2.2.1 s.2.2.2.1 s.2.2.2.2 w') (fun s=>nn - s.1) (0,l4,x1.t,o14,o24) U ?_ ?_ ?_)))))))))
     .exact⟨rfl,trivial⟩
     .exact⟨qak _,C6,⟨K5.m,fun q hq=>⟨⟨Rdx.read (K5.ok q hq).1 H6.ext (fun y hy => .inl (hS3 y (by rw[qaa.1 hy];simp))),(K5.ok q hq).1.2⟩,(K5.ok q hq).2⟩,K5.few⟩,hk4,hM4,rfl,fun q hq=>by have:=O4.tt q hq;simpa using this⟩
     .rintro⟨i,li,ti,z1,z2⟩ j w1 ⟨hi,C⟩;dsimp only at hi C;dsimp only;have H:=Ctx.start w1 [];refine Ad (Bn U U (qA (Aq (Au _ U ?_ ?_))))
      .intro h5;replace h5:=AV h5;obtain⟨m,hm⟩:=AO (l:=ps) (i:=i);have hok:=hp m (qad hm);have hxL:L[i]?=some m.x:=by rw[<-hl,qat,hm];rfl
       have hfew:=hLf _ (qad hxL);have hb:¬Ms F' p (adr a).block:=hoff.resolve_left (fun h=>by rw[h]at hm;cases hm);have R1':=R5.ext C.H.ext (fun h=>hb (hS3 _ h));have hok1:m.Ok w1 (Ms F' p):=⟨⟨Rdx.read hok.k C.H.ext hS3,hok.k.2⟩,⟨Rdx.read hok.v C.H.ext hS3,hok.v.2⟩,hok.kc,hok.vc⟩;have hn1:=Jf (m:=x1.T) (kv:=x1.kv) (n:=x1.n) (L:=L.take i) (by rw[<-hk4];exact K4.fewK) (fun y hy=>hLf y (qbp hy)) (by omega) (by omega);have hlen1:(L.take i).length<=1000:=by have:=List.length_take_le' i L;omega
       refine Ap (Aa (Aq (AE (Ad (AY R1' CD CQ U U ?_)))));refine EY _ RZ CQ U U (R1'.row hm U) (Bj Fy H ?_);rintro b11 w - H;refine Bo CQ U U U (by exact FW m) H at0 U ?_;rintro w H;refine qA (Av (Am U (BN RZ CQ U H at0 U (Ai qB (Acq (T:=x1.T+i) (Ctx.startL (C.H.call H.ext).blk (C.H.call H.ext).nd) ⟨C.K.m,fun q hq=>⟨(C.K.ok q hq).1.call H.ext,(C.K.ok q hq).2⟩,C.K.few⟩ C.m (fun y hy => .inl (hS3 y hy)) (fun y hy=>by have:=hlt5v y hy;have:=C.H.ext.size;have:=H.ext.size;omega) hS3 m (hok1.call H.ext) hfew C.t) U ?_))));rintro v w7 ⟨rfl,s,z1',z2',H7,K7,hsv,hM7⟩;refine Ab (AF (Aa (Av (A7 U U ?_))));refine Ae U (qA ?_);refine⟨(i+1,Uf li m.x s,JU ti m.x.k,z1',z2'),rfl,⟨rfl,trivial⟩,⟨by dsimp only;omega,?_,K7,?_,hM7,by dsimp only;rw[C.te,Bp hxL,Q0],?_⟩,by dsimp only;omega⟩
       .have hn7:Ek x1.kv x1.n (L.take (i+1))=Ek x1.kv x1.n (L.take i) - Jk li m.x.k+HA m.x:=by rw[Bp hxL,Nw,W3,C.k]
        dsimp only;rw[hn7];exact⟨(C.H.call H.ext).ext.trans H7.ext,H7.blk,H7.nd,fun y hy => .inl (by simp only[qac,qam,or_false]at hy |-;rcases hy with rfl|rfl|rfl <;> simp)⟩
       .dsimp only;rw[Acz hsv,C.k,Bp hxL,TG]
       .intro q hq;have:=(Ty (k:=m.x.k) C.t (by omega)).1 q hq;dsimp only;omega
      .intro h5;replace h5:=AW h5;obtain rfl:i=nn:=by omega
       have hLt:L.take i=L:=qa6 (by omega);refine B3 (Ay (Ay (Bb (Aa (Ad (Ac U (qA (Ax (AG (v:=(.int _ _)) U U U ?_)))))))));have CH:=C.H;have Ck:=C.k;have Ct:=C.t;have Cte:=C.te;have Cm:=C.m;rw[hLt]at CH Ck Cte;rw[Cte]at Ct Cm;have hn1:=Jf (m:=x1.T) (kv:=x1.kv) (n:=x1.n) (L:=L) (by rw[<-hk4];exact K4.fewK) hLf (by omega) (by omega);have hG5l:=G5.len;refine .inr (.inl ⟨hr0,hL0,rfl,A1,R1,x1,A',F',V',hC4,⟨J5.over CH.ext hoff5 hge5,by rw[hG5l];exact G5,⟨li,z1,z2,Amz (x:=x1) hF5 CH,C.K,Ck,Cm⟩,O4.ge,?_,fun q hq=>?_,?_,?_⟩,hG5l,hl5,hv5,Grown.trans gI ⟨Turn.of CH.ext fun y hy=>hS3 y hy,fun _ h => .inl h⟩⟩)
       .dsimp only;omega
       .dsimp only;have:=Ct q hq;omega
       .dsimp only;omega
       .intro y hy;have h6:=O4.zl y hy;have h7:=gM.1.size;have h8:=H6.ext.size;have h9:=CH.ext.size;omega
end
abbrev Akg:TypeId:=76
section
variable {w0 w:World}{b16 b14 b5 b1 bd bs bj gen m1 m2:Nat}{F:Mut}{A:Dev}{N:Nat}{R:Rj}{V:Nat->Byt}{fv:List Value}{vj vp vt:Value}{root n r0:Int}{pq qq:Nat}{Y:List (Nat × Obj)}
abbrev nwB(b16 b14 b5 b1 bs bd gen m1 m2 pq qq:Nat)(root n r0:Int)(fv:List Value)(vj vp vt:Value):List (Nat × Obj) :=
 [(b16,Bl 46 fv),(b14,Bl 31 [ptr bs]),(b5,Bl Akg (tpC r0 pq qq)),(b1,Bl 27 [ptr bd]),(bs,Bl CU (CN (ptr bd) vj vp vt gen root m1 m2 n false))]
theorem Fo.at{M:Mut}(h:Fo w M Y){k b:Nat}{o:Obj}(hk:Y[k]?=some (b,o)):w.heap[b]?=some o:=h.blk (b,o) (qad hk)
theorem Am0(O:Own w0 w bd A F)(g:SG N A R V)(hl:A.left = -1)(Y:Fo w F (nwB b16 b14 b5 b1 bs bd gen m1 m2 pq qq root n r0 fv vj vp vt++Y))(hg1:1<=gen)(hg:gen<=4611686018427387904)(hr: -1<=r0/\r0<=4294967294:=by decide)(hp:pq<4294967296:=by omega)(hq:qq<18446744073709551616:=by omega):
  Ret prog 38 #[ptr b1,ptr b14,ptr b5] w fun v w'=>v=.int .i64 0/\∃F',Own w0 w' bd (EG A gen (tpB r0 pq qq)) F'/\Grown F F' w w':=by
 obtain⟨wI,rfl,H⟩:=qE w;have h1:=Fo.at Y (k:=3) rfl;have h14:=Fo.at Y (k:=1) rfl;have h5:=Fo.at Y (k:=2) rfl;have hs:=Fo.at Y (k:=4) rfl;have hsv:=(g.save0 hl gen (tpB r0 pq qq) hg1 hg (by rw[Eg];decide)).1;refine A6 (fn:=f38) func38 U [ptr b1,ptr b14,ptr b5] U ?_;refine Ad (Ac U (qA (BR [([0,1,2,3,4,5],6),([],7),([],8)] (fun z=>(z.heap[b1]?=some (Bl 27 [ptr bd])/\z.heap[b14]?=some (Bl 31 [ptr bs])/\z.heap[bs]?=some (Bl CU (CN (ptr bd) vj vp vt gen root m1 m2 n false))/\z.heap[b5]?=some (Bl Akg (tpC r0 pq qq)))) [] mixed (⟨H.drew.ext.to h1 (by simp),H.drew.ext.to h14 (by simp),H.drew.ext.to hs (by simp),H.drew.ext.to h5 (by simp)⟩) ?_)));refine AC U U (BG Dn U (fun _ hx=>(by rw[Ar hx.1];rfl)) ?_);refine BG Fc U (fun _ hx=>(by rw[Ar hx.2.1];rfl)) ?_
 refine Bg U (AD QI U (BG GC U (fun _ hx=>(by rw[Ar hx.2.2.1];rfl)) ?_));refine Qa _ Abn NP U U (fun _ hx=>(fun j v hv=>by rw[Ar hx.2.2.2,qa2];exact hv)) ?_;refine AU ?_;replace H:=H.drew;refine Ai qB (Aco r0 pq qq _ hr hp hq) U ?_;rintro v w F10;obtain⟨a10,c10,rfl,R10,hc10,h10⟩:=Fresh.newB F10;replace H:=H.call F10.ext;refine Ab (Bc ((by exact⟨H.ext.to h1 (by simp),H.ext.to h14 (by simp),H.ext.to hs (by simp),H.ext.to h5 (by simp)⟩)) ?_);refine AC U U (AU (Ai qB (Yh (O.call H.ext) gen (by omega) a10 c10 _ (tpB r0 pq qq) R10 U (by rw[Eg];decide) g.good.few (by decide)) U ?_));rintro v w ⟨rfl,F',O',G'⟩;rw[hsv];have Y2:=(Y.call (Grown.trans (Grown.call H.ext) G')).1;refine Ab (Bc ((by exact⟨Fo.at Y2 (k:=3) rfl,Fo.at Y2 (k:=1) rfl,Fo.at Y2 (k:=4) rfl,Fo.at Y2 (k:=2) rfl⟩)) ?_);refine AC U U ?_
 refine AU (Ac U (Ab (Bc ((by exact⟨Fo.at Y2 (k:=3) rfl,Fo.at Y2 (k:=1) rfl,Fo.at Y2 (k:=4) rfl,Fo.at Y2 (k:=2) rfl⟩)) ?_)));refine B1 (Ax (AG (v:=(.int _ _)) U U U ?_));exact⟨rfl,F',O',Grown.trans (Grown.call H.ext) G'⟩
theorem Am1(O:Own w0 w bd A F)(hge:w0.heap.size<=bs)(g:SG N A R V)(hR:R.size=360/\R.first=pq/\R.seq=qq/\1<=qq/\qq<=4611686018427387904)(Y:Fo w F (nwB b16 b14 b5 b1 bs bd gen m1 m2 pq qq root n r0 fv vj vp vt++Y)) :
  Ret prog 41 #[ptr b1,ptr b5,ptr b14] w fun v w'=>v=.int .i64 0/\∃bj,w.heap.size<=bj/\Jone w0 w' bd bj A (jrK 2 R R.L) F/\Ext [bs] w w'/\w'.heap[bs]?=some (Bl CU (CN (ptr bd) (ptr bj) vp vt gen root m1 m2 n false)):=by
 obtain⟨hz,rfl,rfl,hq1,hq2⟩:=hR;obtain⟨wI,rfl⟩:=qD w;have h1:=Fo.at Y (k:=3) rfl;have h14:=Fo.at Y (k:=1) rfl;have h5:=Fo.at Y (k:=2) rfl;have hs:=Fo.at Y (k:=4) rfl;have H:=Ctx.start1 hs;have hnd:=Y.nd;simp only[qbx,qa7,qbh,qac,forall_eq_or_imp]at hnd;have hb1:b1∉[bs]:=by simpa using hnd.2.2.2.1.1
 have hb14:b14∉[bs]:=by simpa using hnd.2.1.2.2.1
 have hb5:b5∉[bs]:=by simpa using hnd.2.2.1.2.1
 have hopen:=fun(w1:World) (O1:Own w0 w1 bd A F)=>Qz O1 g.good hq1 hq2;rw[hz]at hopen;refine A6 (fn:=f41) func41 U [ptr b1,ptr b5,ptr b14] U ?_;refine Ad (Ac U (qA (BR [([0,1,2,3,4,5],6),([7,8,9,10,11,12],13),([],14)] (fun z=>(z.heap[b1]?=some (Bl 27 [ptr bd])/\z.heap[b14]?=some (Bl 31 [ptr bs])/\z.heap[b5]?=some (Bl Akg (tpC r0 R.first R.seq)))) [13,14] mixed (⟨H.drew.ext.to h1 hb1,H.drew.ext.to h14 hb14,H.drew.ext.to h5 hb5⟩) ?_)));refine AC U U (BG Fc U (fun _ hx=>(by rw[Ar hx.2.1];rfl)) ?_);refine BG Dn U (fun _ hx=>(by rw[Ar hx.1];rfl)) ?_;refine AD NN U (BG DW U (fun _ hx=>(by rw[Ar hx.2.2];rfl)) ?_);refine AD Kp U (BG GC U (fun _ hx=>(by rw[Ar hx.2.2];rfl)) ?_);refine AU ?_;replace H:=H.drew;refine Ai qB (hopen _ (O.call (Ext.drew [] wI))) U ?_;clear H;rintro v w6 ⟨bj,aj,nj,cj,rfl,hx6,hbj,J6,-⟩
 have E6:=(Ext.drew [] wI).trans hx6;have k1:=E6.to h1 (by simp);have k14:=E6.to h14 (by simp);have k5:=E6.to h5 (by simp);have H:=Ctx.start1 (E6.to hs (by simp));refine Ab (Bc ((by exact⟨H.ext.to k1 hb1,H.ext.to k14 hb14,H.ext.to k5 hb5⟩)) ?_);refine AC U U (Ij U (CA U U (CA U U (CA U U (Bg U (AD Mg U (AU (Bf (.pointer _) Aoc U U U H at0 (by(simp;done)) ?_))))))));rintro w H;refine Ab (De U (AC U U ?_));refine AU (Ac U (Ab (De U (B1 (Ad (Ae U (Ac U (qA (Ax (AG (v:=(.int _ _)) U U U ?_))))))))));have hno:¬Fj F bj bs:=fun h=>h.elim (Y.off (bs,Bl CU (CN (ptr bd) vj vp vt gen root m1 m2 n false)) (by simp)) fun h=>by have h8:=Al hs;have h9:wI.heap.size<=bj:=hbj;omega
 exact⟨rfl,bj,hbj,J6.over H.ext (fun y hy=>by rw[qaa.1 hy];exact hno) (fun y hy=>by rw[qaa.1 hy];exact hge),(E6.mono (by simp)).trans H.ext,H.get at0⟩
end
section
variable {w0 w w':World}{b16 b14 b5 b1 bd bs bj gen m1 m2:Nat}{F:Mut}{A:Dev}{N:Nat}{R:Rj}{V:Nat->Byt}{fv:List Value}{vj vp vt:Value}{root n r0:Int}{pq qq:Nat}{Y:List (Nat × Obj)}
theorem fo_bs(h:Fo w F (nwB b16 b14 b5 b1 bs bd gen m1 m2 pq qq root n r0 fv vj vp vt++Y))(hx:Ext [bs] w w')(hb:w'.heap[bs]?=some (Bl CU (CN (ptr bd) (ptr bj) vp vt gen root m1 m2 n false)))(hbj:w.heap.size<=bj) :
  Fo w' (Fj F bj) (nwB b16 b14 b5 b1 bs bd gen m1 m2 pq qq root n r0 fv (ptr bj) vp vt++Y):=by
 have hnd:=h.nd;have hk:(nwB b16 b14 b5 b1 bs bd gen m1 m2 pq qq root n r0 fv (ptr bj) vp vt++Y).map (·.1)=(nwB b16 b14 b5 b1 bs bd gen m1 m2 pq qq root n r0 fv vj vp vt++Y).map (·.1):=rfl
 have hn:(nwB b16 b14 b5 b1 bs bd gen m1 m2 pq qq root n r0 fv (ptr bj) vp vt++Y).Pairwise fun x y=>x.1≠y.1:=by
  have h1:((nwB b16 b14 b5 b1 bs bd gen m1 m2 pq qq root n r0 fv vj vp vt++Y).map (·.1)).Pairwise (·≠·):=qbs.2 hnd;rw[<-hk]at h1;exact qbs.1 h1
 have hin:∀y∈nwB b16 b14 b5 b1 bs bd gen m1 m2 pq qq root n r0 fv (ptr bj) vp vt++Y,y=(bs,Bl CU (CN (ptr bd) (ptr bj) vp vt gen root m1 m2 n false))\/y∈nwB b16 b14 b5 b1 bs bd gen m1 m2 pq qq root n r0 fv vj vp vt++Y:=fun y hy=>by
  simp only[qbx,qa7,qac]at hy |-
  rcases hy with h|h|h|h|h|h <;> simp[h]
 have hbl:=hn;refine⟨fun y hy=>?_,hn,fun y hy h5=>?_⟩
 .by_cases he:y.1=bs
  .have hm:(bs,Bl CU (CN (ptr bd) (ptr bj) vp vt gen root m1 m2 n false))∈nwB b16 b14 b5 b1 bs bd gen m1 m2 pq qq root n r0 fv (ptr bj) vp vt++Y:=by simp
   by_cases h9:y=(bs,Bl CU (CN (ptr bd) (ptr bj) vp vt gen root m1 m2 n false))
   .rw[h9];exact hb
   .exact absurd he (fun he=>by
     obtain⟨i,hi⟩:=qcg.1 hy;obtain⟨j,hj⟩:=qcg.1 hm;obtain⟨hi1,hi2⟩:=qaq.1 hi;obtain⟨hj1,hj2⟩:=qaq.1 hj
     rcases Nat.lt_trichotomy i j with hlt|rfl|hlt
     .have:=qb9.1 hn i j hi1 hj1 hlt;rw[hi2,hj2]at this;exact this he
     .rw[hi2]at hj2;exact h9 hj2
     .have:=qb9.1 hn j i hj1 hi1 hlt
      rw[hi2,hj2]at this;exact this he.symm)
  .have hy':=(hin y hy).resolve_left fun h=>he (by rw[h]);rw[hx.block y.1 (Al (h.blk y hy')) (by simpa using he)];exact h.blk y hy'
 .have hk2:∃z∈nwB b16 b14 b5 b1 bs bd gen m1 m2 pq qq root n r0 fv vj vp vt++Y,z.1=y.1:=by
   have h1:y.1∈(nwB b16 b14 b5 b1 bs bd gen m1 m2 pq qq root n r0 fv (ptr bj) vp vt++Y).map (·.1):=qah.2 ⟨y,hy,rfl⟩;rw[hk]at h1;obtain⟨z,hz,he⟩:=qah.1 h1;exact⟨z,hz,he⟩
  obtain⟨z,hz,he⟩:=hk2;rw[<-he]at h5
  rcases h5 with h5|h5
  .exact h.off z hz h5
  .have:=Al (h.blk z hz);omega
abbrev nwF(b14 b5 b1:Nat):List Value:=[.func (.func 38) #[] #[ptr b1,ptr b14,ptr b5],.func (.func 41) #[] #[ptr b1,ptr b5,ptr b14]]
def nwI(w0 wb:World)(b16 b14 b5 b1 bs bd gen m1 m2 pq qq:Nat)(vp vt:Value)(Y:List (Nat × Obj))(A:Dev)(R:Rj)(F:Mut):Nat->World->Prop
 |0,w'=>Own w0 w' bd A F/\Fo w' F (nwB b16 b14 b5 b1 bs bd gen m1 m2 pq qq (-1) 0 (-1) (nwF b14 b5 b1) Gl vp vt++Y)/\Grown F F wb w'
 |1,w'=>∃F1,Own w0 w' bd (EG A gen (tpB (-1) pq qq)) F1/\Fo w' F1 (nwB b16 b14 b5 b1 bs bd gen m1 m2 pq qq (-1) 0 (-1) (nwF b14 b5 b1) Gl vp vt++Y)/\Grown F F1 wb w'
 |_,w'=>∃F1 bj,Jone w0 w' bd bj (EG A gen (tpB (-1) pq qq)) (jrK 2 R R.L) F1/\Fo w' (Fj F1 bj) (nwB b16 b14 b5 b1 bs bd gen m1 m2 pq qq (-1) 0 (-1) (nwF b14 b5 b1) (ptr bj) vp vt++Y)/\Grown F (Fj F1 bj) wb w'
theorem Aas{L0 L1:List (Nat × Obj)}(H:Ctx w0 [] w L0)(hF:∀x,F x->x<w0.heap.size)(hs:L1.Sublist L0):Fo w F L1 :=
 ⟨fun y hy=>H.blk y (hs.subset hy),H.nd.sublist hs,fun y hy h=>by have h1:=(H.own y (hs.subset hy)).resolve_left (by simp);have:=hF _ h;omega⟩
theorem Ac1{M:Mut}{Y2:List (Nat × Obj)}(O:Fo w M Y)(h:∀y∈Y2,y∈Y)(nd:Y2.Pairwise fun x y=>x.1≠y.1):Fo w M Y2:=⟨fun y hy=>O.blk y (h y hy),nd,fun y hy=>O.off y (h y hy)⟩
theorem side9{M M':Mut}{S:List Nat}(t:Grown M M' w0 w)(hx:Ext S w w')(hy:∀y∈S,w0.heap.size<=y):Grown M M' w0 w':=by
 obtain⟨⟨T,hT,hx1⟩,g⟩:=t;exact⟨⟨T,hT,hx1.then hx fun x h => .inr (hy x h)⟩,g⟩
theorem Ap8{wb:World}{i:Nat}(h:nwI w0 wb b16 b14 b5 b1 bs bd gen m1 m2 pq qq vp vt Y A R F i w):w.heap[b16]?=some (Bl 46 (nwF b14 b5 b1)):=by
 match i,h with
 |0,h=>exact Fo.at h.2.1 (k:=0) rfl
 |1,⟨_,h⟩=>exact Fo.at h.2.1 (k:=0) rfl
 |_+2,⟨_,_,h⟩=>exact Fo.at h.2.1 (k:=0) rfl
theorem Ap9{wb:World}(h0:nwI w0 wb b16 b14 b5 b1 bs bd gen m1 m2 pq qq vp vt Y A R F 0 w)(g:SG N A R V)(hl:A.left = -1)(hR:R.size=360/\R.first=pq/\R.seq=qq)(hpq:pq<360)(hqq:1<=qq/\qq<=4611686018427387904)(hgn:1<=gen/\gen<=4611686018427387904)(hge:w0.heap.size<=bs)(hgb:wb.heap.size<=bs) :
  Ret prog 37 #[.slice (some ⟨b16,0,none⟩) 2 2] w fun v w'=>∃e,v=.int .i64 e/\((e=0/\nwI w0 wb b16 b14 b5 b1 bs bd gen m1 m2 pq qq vp vt Y A R F 2 w')\/(e≠0/\False)):=by
 have gs:=g.save0 hl gen (tpB (-1) pq qq) hgn.1 hgn.2 (by rw[Eg];decide);refine Aj9 (E:=fun _ _=>False) (nwF b14 b5 b1) w (by simp) (I:=nwI w0 wb b16 b14 b5 b1 bs bd gen m1 m2 pq qq vp vt Y A R F) h0 (fun i w' h=>Ap8 h) (fun v hv=>?_) (fun i f caps w' hi h=>?_)
 .simp only[qac,qam,or_false]at hv
  rcases hv with rfl|rfl <;> exact⟨_,_,rfl⟩
 .match i,hi,h with
  |0,hi,⟨O,FY,G⟩ =>
   cases hi;exact⟨by kernel_rfl,(Am0 O g hl FY hgn.1 hgn.2).mono fun v w'' ⟨hv,F',O',G'⟩=>⟨0,hv,.inl ⟨rfl,F',O',(FY.call G').1,Grown.trans G G'⟩⟩⟩
  |1,hi,⟨F1,O,FY,G⟩ =>
   cases hi
   exact⟨by kernel_rfl,(Am1 O hge gs.2.2 ⟨hR.1,hR.2.1,hR.2.2,hqq.1,hqq.2⟩ FY).mono fun v w'' ⟨hv,bj,hbj,J,hx,hb⟩=>⟨0,hv,.inl ⟨rfl,F1,bj,J,fo_bs FY hx hb hbj,by
    have G2:=side9 G hx (fun y hy=>by rw[qaa.1 hy];exact hgb)
    exact⟨G2.1,fun y hy=>hy.elim (G2.2 y) fun h => .inr (by have:=G.1.size;omega)⟩⟩⟩⟩
theorem Ac2{r:Int}{p q:Nat}(hr : -1<=r/\r<=4294967294)(hp:p<4294967296)(hq:q<18446744073709551616:=by omega):tpR (tpB r p q)=tpC r p q:=by
 obtain⟨n,hn⟩:∃n:Nat,r+1=n:=⟨(r+1).toNat,by omega⟩;unfold tpR;rw[if_pos (Eg ..)];unfold tpB;have e1:(Bq (r+1).toNat 4++(Bq p 4++Bq q 8)).take 4=Bq (r+1).toNat 4:=qd8 (AZ ..);have e2:(Bq (r+1).toNat 4++(Bq p 4++Bq q 8)).drop 4=Bq p 4++Bq q 8:=List.drop_left' (AZ ..)
 have e3:(Bq (r+1).toNat 4++(Bq p 4++Bq q 8)).drop 8=Bq q 8:=by
  rw[<-qa1];exact List.drop_left' (by rw[qan,AZ,AZ])
 have e4:(Bq p 4++Bq q 8).take 4=Bq p 4:=qd8 (AZ ..);have e5:(Bq q 8).take 8=Bq q 8:=qa6 (by rw[AZ];decide);rw[e1,e2,e3,e4,e5,Fm,Fm,Fm,hn,qbo];have d4:(256:Nat) ^ 4=4294967296:=by decide
 have d8:(256:Nat) ^ 8=18446744073709551616:=by decide
 have m1:n % 256 ^ 4=n:=qa9 (by omega);have m2:p % 256 ^ 4=p:=qa9 (by omega);have m3:q % 256 ^ 8=q:=qa9 (by omega);rw[m1,m2,m3,<-hn];show tpC (r+1 - 1) p q=_;rw[show r+1 - 1=r by omega]
theorem Ac3{m:Nat}(O:Own w0 w bd A F)(g:SG (m+362) A R V)(hl:A.left = -1)(hR:R.L=[]/\R.size=360/\R.first=pq/\R.seq=qq)(hpq:pq<360)(hqq:1<=qq/\qq<=4611686018427387904)(hgn:F6 A+1<=4611686018427387904)(hm:1<=m)(hmay:KB A=0)(hT:(EK A=4/\DU A=[]/\pq=0/\qq=1)\/(EK A=0/\∃r0 R0,DU A=tpB r0 R0.first R0.seq/\(-1<=r0/\r0<=4294967294)/\SG (m+362) A R0 V/\R0.size=360/\(1<=R0.seq/\R0.seq<=4611686018427387904)/\pq=R0.at'/\qq=R0.seq+R0.L.length+1)) :
  Ret prog 10 #[ptr bd] w fun v w'=>∃p F' ,v=.tuple #[ptr p.bs,.int .i64 0]/\p.bd=bd/\Sok w0 w' p (EG A (F6 A+1) (tpB (-1) pq qq)) R ⟨F6 A+1,-1,0,[],[],List.replicate m 0,0,fun q=>if q=(F6 A+1) % 2 then DJ (F6 A+1) (tpB (-1) pq qq)else V q⟩ F'/\Grown F (Ms F' p) w w'/\(∀y,y<w.heap.size->p.z y):=by
 obtain⟨wI,rfl⟩:=qD w;have hN:=g.lim;have hlen:=g.len;have hE04:EK A=0\/EK A=4:=hT.elim (fun h => .inr h.1) fun h => .inl h.1;obtain⟨gl,hgl⟩:=qD (F6 A);rw[<-hgl]at hgn |-
 have hll:(DU A).length<=16:=by
  rcases hT with⟨-,h,-⟩|⟨-,r0,R0,h,-⟩
  .rw[h];decide
  .rw[h,Eg];decide
 obtain⟨tr,tp,tq,htR⟩:∃r p q,tpR (DU A)=tpC r p q:=by unfold tpR;split <;> exact⟨_,_,_,rfl⟩
 have H:=Ctx.start wI [];refine A6 (fn:=f10) func10 U [ptr bd] U (Ad (Cn _ (.pointer _) U U H ?_));rintro b1 w - H;refine Bx U (Ac U (qA (Aq (Ad (AH Dn U H at0 U (Ai qB (Ww (O.call H.ext).dev) U ?_))))));rintro v w ⟨rfl,rfl⟩;rw[hmay];refine Ac U (qA (Ad (Ae U (Ba U U (qA (Au _ U ?_ ?_))))))
 .intro h1;replace h1:=Bu h1;exact absurd U h1
 .intro h1;replace h1:=Bv h1;refine Ap (Aa (Ad (B2 (tpC (-1) 0 1) Ah5 Su ?_)));refine Bj Su H ?_;rintro b5 w - H;refine Bo NP U U U (by simp[Bi]) H at0 U ?_;rintro w H;refine qA (Ad (AH Dn U H at1 U (Ai qB (Tt g.good.few (O.call H.ext).dev) U ?_)));rw[<-hgl];rintro v w ⟨a23,c23,rfl,R23,h23,-,hx23⟩;replace H:=H.call hx23;refine AQ U (Ah U U (Ah U U (Ah U U (Ac U (Ak U (Ac U (qA (Aq (Ad (BE (α:=Unit) 8455716864 (fun _=>[(32,.bool (false))]) (fun _ w'=>Ctx wI [] w' [(b5,Bl 76 (tpC (-1) 0 1)),(b1,Bl 27 [ptr bd])]/\w'=w) U ?_ ?_))))))))))
  .refine Ae U (Ba U U (AA U (AR 29 U ?_ ?_)))
   .intro h1;replace h1:=Bu h1;refine Ae U (Ba U U (AN U (.bool _) U (Ab ?_)));exact⟨rfl,(),rfl,⟨qab Value.bool (by rcases hE04 with h|h <;> simp_all),trivial⟩,⟨H,rfl⟩⟩
   .intro h2;replace h2:=Bv h2;refine Ag U (Ag U (AK U (.bool _) U (Ab ?_)));exact⟨rfl,(),rfl,⟨qab Value.bool (by rcases hE04 with h|h <;> simp_all),trivial⟩,⟨H,rfl⟩⟩
  rintro - j32 w ⟨H,rfl⟩;refine Bz U (Ap (Aa (Aq (Ad (Aj U (Ai qB (Yo a23 c23 (DU A) _ R23 h23) U ?_))))));rw[htR];rintro v w ⟨rfl,hx36⟩;replace H:=H.call hx36;refine AQ U (Ah U U (Ah U U (Bj Su H ?_)));rintro b9 w - H;refine Bo NP U U U (by simp[Bi]) H at0 U ?_;rintro w H;refine An U (qA (Ad (BE (α:=Unit) 17042430230528 (fun _=>[(43,.bool (decide (EK A=0)))]) (fun _ w'=>w'=w) U ?_ ?_)))
  .refine Ae U (B6 U U (AA U (AR 41 U ?_ ?_)))
   .intro h3;replace h3:=AV h3;refine AA U (AN U (.bool _) U (Ab ?_));exact⟨rfl,(),rfl,⟨qab Value.bool (by rcases hT with⟨h,h2,-⟩|⟨h,r0,R0,h2,-⟩ <;> simp_all[Eg]),trivial⟩,rfl⟩
   .intro h4;replace h4:=AW h4;refine Ag U (AK U (.bool _) U (Ab ?_));exact⟨rfl,(),rfl,⟨qab Value.bool (by rcases hT with⟨h,h2,-⟩|⟨h,r0,R0,h2,-⟩ <;> simp_all[Eg]),trivial⟩,rfl⟩
  rintro - j43 w rfl;refine EZ 1180591603125225273356 (α:=Unit) (fun _=>[]) (fun _ w'=>Ctx wI [] w' [(b9,Bl 76 (tpC tr tp tq)),(b5,Bl 76 (tpC (-1) pq qq)),(b1,Bl 27 [ptr bd])]) U ?_ ?_
  .skip
   refine Au _ U ?_ ?_
   .intro h43;obtain⟨-,r0,R0,hL0,hr0,g0,hz0,hq0,hp1,hq1⟩:=hT.resolve_left (fun h=>by rw[h.1]at h43;cases qb5 h43);have hok0:=g0.ok
    have hrt:tpR (DU A)=tpC r0 R0.first R0.seq:=by rw[hL0];exact Ac2 hr0 (by have:=hok0.a;omega)
    have hopen:=fun(w1:World) (O1:Own w0 w1 bd A F)=>Qz O1 g0.good hq0.1 hq0.2;rw[hz0]at hopen;rw[<-htR,hrt]at H;refine Ad (AH Dn U H at2 U (Af NN U (AH DW U H at0 U (Af Kp U (AH GC U H at0 U (Ai qB (hopen _ (O.call H.ext)) U ?_))))));rintro v w6 ⟨bj0,aj,nj,cj,rfl,hx6,hbj,J6,-⟩;replace H:=H.call hx6;refine AQ U (Ah U U (Ah U U (Ah U U (Bx U (Ak U (Ac U (qA (Aq (Ad ?_)))))))));refine Ae U (B6 U U (qA (Au _ U ?_ ?_)))
    .intro h44;replace h44:=AV h44;exact absurd h44 (by decide)
    .intro h44;replace h44:=AW h44;refine Ap (Aa (Ad (Ae U (B6 U U (qA (Au _ U ?_ ?_))))))
     .intro h45;replace h45:=AV h45;refine Ad (Am U (Ai qB (Afe J6) U ?_));rintro v w7 ⟨rfl,hx7⟩;replace H:=H.call hx7;refine AQ U (Ah U U (Ah U U (Af NN U (Bf (.int _ _) Hv U U U H at1 (by decide) ?_))));rintro w H;refine Af Kp U (Bf (.int _ _) Xq U U U H at1 (by(simp;done)) ?_);rintro w H;refine qA (Av (Af Kp U (AH GC U H at1 U (Kh U U U ?_))));refine Af Kp U (Bf (.int _ _) Xq U U U H at1 (by(simp;done)) ?_);rintro w H;refine qA ?_;refine⟨(),rfl,trivial,?_⟩;rw[hp1,hq1,htR.symm.trans hrt];exact H
     .intro h45;replace h45:=AW h45;exact absurd U h45
   .intro h43;obtain⟨-,-,rfl,rfl⟩:=hT.resolve_right (fun h=>by rw[h.1]at h43;exact absurd h43 (by decide));refine Ap (Aa ?_);exact⟨(),rfl,trivial,H⟩
  .rintro - j43 w H;refine Ad (AH Dn U H at2 U (Ae U (Kh U U U ?_)));refine Ai qB (Yj _ (O.call H.ext).dev hlen ⟨hm,by omega⟩ (gl+1)) U ?_;rintro v w ⟨bs,m1,m2,o1,o2,bp,ba,bt,rfl,hm1,hm2,HE⟩;replace H:=H.callEnt HE.ext (fun x hx=>⟨HE.blk x hx,(HE.own x hx).resolve_left (by simp)⟩) HE.nd;refine AQ U (Ah U U (Ah U U (Bj Aic H ?_)));rintro b14 w - H;refine Bf (.pointer _) Ah7 U U U H at0 (by decide) ?_;rintro w H;refine Ac U (qA (Aq (Ad (Ae U (Ba U U (qA (Au _ U ?_ ?_)))))))
   .intro h2;replace h2:=Bu h2;exact absurd U h2
   .intro h2;replace h2:=Bv h2;refine Ap (Aa (Ad (CG [.pointer _,.pointer _,.pointer _] U (CG [.pointer _,.pointer _,.pointer _] U (Cb (nwF b14 b5 b1) Pg Xp Abz H ?_)))));rintro b82 w - H;have hall:=(fun y hy=>(H.own y hy).resolve_left (by simp));have hbs9:wI.heap.size<=bs:=hall (bs,Bl CU (CN (ptr bd) Gl (ptr bp) (ptr bt) (gl+1) (-1) m1 m2 0 false)) (by simp);refine Ai qB (Ap9 (Y:=[(m2,o2),(m1,o1)]++(pgB bp ba m++trB bt bd bp)) ⟨O.call H.ext,Aas H (fun x h=>(O.own x h).2) (.cons_cons _ (.cons_cons _ (.cons _ (List.Sublist.refl _)))),Grown.call H.ext⟩ g hl hR.2 hpq hqq ⟨by omega,hgn⟩ (qav O.ext.size hbs9) hbs9) U ?_;rintro v w ⟨e,rfl,he⟩;clear H;obtain⟨rfl,F1,bj,J,FY2,G2⟩:=he.resolve_right (fun h=>h.2);clear he;refine Ac U (qA (Aq (Ad (Ae U (Ba U U (qA (Au _ U ?_ ?_)))))))
    .intro h3;replace h3:=Bu h3;exact absurd U h3
    .intro h3;replace h3:=Bv h3;refine Ap (Aa (Ad (Be Fc U ((by rw[Ar (Fo.at FY2 (k:=1) rfl)];rfl)) ?_)));refine Bx U (Ac U (qA (Ax (Ce (v1:=(.pointer _)) (v2:=(.int _ _)) U U U U ?_))));have gs:=(g.save0 hl (gl+1) (tpB (-1) pq qq) (by omega) hgn (by rw[Eg];decide)).2.2;have hmN:(List.replicate m 0).length=m:=qba;have hp6:=FY2.nd.sublist (List.drop_sublist 4 _)
     have hge:∀q∈[bs,m1,m2,bp,ba,bt],wI.heap.size<=q:=fun q hq=>by
      have h9:∃o,(q,o)∈([(bs,Bl CU (CN (ptr bd) Gl (ptr bp) (ptr bt) (gl+1) (-1) m1 m2 0 false)),(m2,o2),(m1,o1)]++(pgB bp ba m++trB bt bd bp)):=by
       simp only[qac,qam,or_false]at hq
       rcases hq with rfl|rfl|rfl|rfl|rfl|rfl
       .exact⟨_,qaf ..⟩
       .exact⟨o1,by simp⟩
       .exact⟨o2,by simp⟩
       .exact⟨Bl TPg [.slice (some ⟨ba,0,none⟩) m m],by simp⟩
       .exact⟨Bl TSt ((List.replicate m 0).map stv),by simp⟩
       .exact⟨Bl TT (Qq bd bp 362),by simp⟩
      obtain⟨o,ho⟩:=h9;have:=hall (q,o) (qai _ (qai _ (qax _ ho)));dsimp only at this;omega
     refine⟨⟨bd,bs,bj,bp,ba,bt,m1,m2,fun y=>y<wI.heap.size⟩,F1,rfl,rfl,⟨J,by rw[gs.len];exact gs,⟨[],o1,o2,Ac1 FY2 (fun y hy=>?_) ?_,⟨hm1,(fun q hq=>by cases hq),fun q hq=>by cases hq⟩,rfl,hm2⟩,fun q hq=>qav O.ext.size (hge q hq),by simp,(fun q hq=>by cases hq),by simp,fun y hy=>qas hy G2.1.size⟩,⟨G2.1,fun y hy=>hy.elim (G2.2 y) fun h => .inr (hge y h)⟩,fun y hy=>hy⟩
     .simp only[Sp.blk,qba,qac,qam,or_false]at hy
      rcases hy with rfl|rfl|rfl|rfl|rfl|rfl <;> simp
     .simp only[Sp.blk,qba];exact(List.Perm.pairwise_iff (fun h=>Ne.symm h) ((List.Perm.swap _ _ _).cons _)).1 hp6
end
open Go.GV Go.Proofs.Tryz Go.Maps Go.Sort Go.Shelf Go.RowKit
def CF{α:Type}(m:List (Byt × α)):List Byt:=(m.map (·.1)).mergeSort fun x y=>decide (x<=y)
theorem M6{α:Type}(m:List (Byt × α)):(CF m).length=m.length:=by rw[CF,qcu,qaj]
theorem Afi(mb:Option Nat)(w:World):Ret prog 66 #[.map mb] w fun v w'=>v=.func (.func 104) #[] #[.pointer (some ⟨w.heap.size,0,none⟩)]/\w'=w.alloc (Bl 91 [.map mb]):=by
 have h:=AnyZ.keys_in keysS Fence.wide 5 trivial rfl mb w;exact CallsIn.mono (callsIn_wide.2 (callsIn_wide.1 h)) fun e w' ⟨h1,h2⟩=>⟨_,h1,rfl,h2⟩
theorem Y6{w:World}{bx bm:Nat}{m:List (Byt × Value)}{o:Obj}(hx:w.heap[bx]?=some (Bl 91 [.map (some bm)]))(hb:w.heap[bm]?=some o)(hM:En str m o)(nd:(m.map (·.1)).Nodup)(hsz:m.length<=100000)(hr:∀p∈m,p.1.length<=32) :
  Ret prog 65 #[.func (.func 104) #[] #[.pointer (some ⟨bx,0,none⟩)]] w fun v w'=>∃a c,v=.slice a (CF m).length c/\Rd w' a 1 (fun x:Byt=>[str x]) (CF m)/\(CF m).length<=c/\(CF m=[]\/w.heap.size<=(adr a).block)/\Ext [] w w':=by
 obtain⟨D0,hown,hperm,hsize⟩:=Qf (P:=prog) F7 hb hM nd (qav hsz (by decide)) (fun p hp=>qav (hr p hp) (by decide))
 have hseq:SeqGives Fence.wide 2 prog 104 #[.pointer (some ⟨bx,0,none⟩)] encStr (fun ss=>ss.Perm (strKeys D0)) (Maps.size D0) w :=
  AnyZ.keys_gives (ρ:=keysS_ren) { keysS with } Fence.wide _ trivial rfl (by omega) bx bm m.length D0 w (Al hx) (by rw[Ar hx];rfl) hown
 have cS:=AnyZ.sorted_in sortedS Fence.wide 5 trivial trivial trivial trivial rfl (by omega) (sortsS _) (enters_of func103 (by kernel_rfl) rfl) 104 #[.pointer (some ⟨bx,0,none⟩)] trivial (enters_of func104 (by kernel_rfl) rfl) _ (Maps.size D0) (by rw[hsize];exact qav hsz (by decide)) (by rw[hsize];omega) _ hseq;refine CallsIn.mono (callsIn_wide.2 (callsIn_wide.1 cS)) ?_;rintro e w' ⟨v,ss,rfl,hS,hrow,_,hbel⟩;have he:ss.mergeSort (fun x y=>decide (x<=y))=CF m:=mergeSort_of_perm (hS.trans hperm);rw[he]at hrow;obtain⟨a,c,rfl,R,hc,hnew⟩:=Qg (by rw[<-he,qcu]) hrow;exact⟨_,rfl,a,c,rfl,R,hc,hnew,Kl hbel⟩
section
variable {w:World}{bd:Nat}{A:Dev}{F:Mut}
theorem Aat(D:DevAt w bd A F)(hmay:KB A=0)(hE:EK A≠0){mx:Nat}(hfew:Few A mx)(hl:A.B.length<=100000:=by decide)(hmx:mx<1000000000000:=by decide):Ret prog 19 #[ptr bd] w fun v w'=>v=.tuple #[.pointer none,.int .i64 (EK A)]/\Ext [] w w':=by
 obtain⟨w0,rfl,H⟩:=qE w;refine A6 (fn:=f19) func19 U [ptr bd] U (Ad (Cn _ (.pointer _) U U H ?_));rintro b1 w - H;refine Bx U (Ac U (qA (Aq (Ad (AH Dn U H at0 U (Ai qB (Ww (D.keep0 H.ext) (hl:=hl)) U ?_))))));rintro v w ⟨rfl,rfl⟩;rw[hmay];refine Ac U (qA (Ad (Ae U (Ba U U (qA (Au _ U ?_ ?_))))))
 .intro h1;replace h1:=Bu h1;exact absurd U h1
 .intro h1;replace h1:=Bv h1;refine Ap (Aa (Ad (AH Dn U H at0 U (Ai qB (Amm hfew hmx (D.keep0 H.ext)) U ?_))));rintro v w ⟨a23,c23,rfl,R23,-,hx23⟩;replace H:=H.call hx23;refine AQ U (Ah U U (Ah U U (Ah U U (Ac U (Ak U (Ac U (qA (Aq (Ad ?_)))))))));refine Ae U (Ba U U (qA (Au _ U ?_ ?_)))
  .intro h2;replace h2:=Bu h2;refine Ad (Ae U (Bx U (Ac U (qA (Ax (Ao (Ce (v1:=(.pointer _)) (v2:=(.int _ _)) U U U U ?_)))))));exact⟨rfl,H.ext⟩
  .intro h2;replace h2:=Bv h2;exact absurd h2 hE
end
theorem Ac4(k v:Byt)(w:World):Ret prog 30 #[str k,str v] w fun r w'=>Ext [] w w'/\∃m:Wm,r=.agg (CO m).toArray/\m.x=⟨k,v,false⟩/\Rd w' m.ka 1 B8 k/\Rd w' m.va 1 B8 v/\k.length<=m.kc/\v.length<=m.vc/\(k=[]\/w.heap.size<=(adr m.ka).block)/\(v=[]\/w.heap.size<=(adr m.va).block):=by
 obtain⟨w0,rfl,H⟩:=qE w;refine A6 (fn:=f30) func30 U [str k,str v] U (Ad (Bj Fy H ?_));rintro b4 w - H;refine qA (Ad (Cd U (KV (l:=k) U F7 AX GR U ?_)));rintro b6 c6 w hb6 hc6 hx6 R6;have hs6:=H.size;have hb46:=Al (H.get at0);replace H:=H.call hx6;refine Cd U (KV (l:=v) U F7 AX GR U ?_);rintro b8 c8 w8 hb8 hc8 hx8 R8;have hs8:=H.size;have hb48:=Al (H.get at0);replace H:=H.call hx8;replace R6:=R6.ext0 hx8;have HX:=H.ext;have hb4:=(H.own _ (qaf ..)).resolve_left (by simp);have hb4':=Al (H.get at0);replace H:=Ctx.start1 (H.get at0);refine B2 (CO ⟨some ⟨b6,0,none⟩,c6,some ⟨b8,0,none⟩,c8,⟨k,v,false⟩⟩) Qk Fy ?_;refine Bo CQ U U U (by exact FW ⟨some ⟨b6,0,none⟩,c6,some ⟨b8,0,none⟩,c8,⟨k,v,false⟩⟩) H at0 U ?_;rintro w H;refine qA (Ax (NA U U U RZ CQ H at0 U ?_))
 exact⟨HX.then H.ext fun x hx => .inr (by rw[qaa.1 hx];exact hb4),_,rfl,rfl,R6.ext H.ext (by simp[adr];omega),R8.ext H.ext (by simp[adr];omega),hc6,hc8,.inr (by show _<=b6;omega),.inr (by show _<=b8;omega)⟩
def W4(kf kt k:Byt):Bool:=(!decide (Lib.compareBytes k kf = -1)) && (decide (kt.length=0) || decide (Lib.compareBytes k kt = -1))
def Vv(l:List (Byt × Sv))(kf kt:Byt)(ks:List Byt):List Pr:=(ks.filter (W4 kf kt)).map fun k=>(k,LA l k)
def Q1(l:List (Byt × Sv))(kf kt:Byt):List Pr:=Vv l kf kt (CF (mv l))
theorem Aau{l:List (Byt × Sv)}{kf kt k:Byt}{ks:List Byt}:Vv l kf kt (ks++[k])=Vv l kf kt ks++if W4 kf kt k=true then[(k,LA l k)]else[]:=by
 unfold Vv;rw[qbq,qaz]
 by_cases h:W4 kf kt k=true
 .rw[if_pos h,qbm,if_pos h];rfl
 .rw[if_neg h,qbm,if_neg h];rfl
theorem JX:∀{q:List Im},(q.flatMap Hh).length=2*q.length
 | []=>rfl
 |x::q=>by rw[qcc,qan,JX (q:=q),qaw];simp[Hh];omega
def Mk(wK:World)(e:List (Nat × Obj)):Mut:=fun x=>x<wK.heap.size\/x∈e.map (·.1)
theorem JY{wK w1 wb w:World}{e9 e28:List (Nat × Obj)}{a:Option Addr}{l:Byt}(h:Rdx w1 (Mk wK e9) a l)(hx:Ext [] w1 wb)(H:Ctx wb (e9.map (·.1)) w e28):Rdx w (Mk wK e28) a l:=by
 have h1:=h.call hx;refine⟨Rdx.read h1 H.ext fun y hy => .inr hy,?_⟩
 rcases Rd.lt8 h1.1 with h2|h2
 .exact .inl h2
 .refine h.2.imp id fun h3 h4=>?_
  rcases h4 with h4|h4
  .exact h3 (.inl h4)
  .obtain⟨y,hy,he⟩:=qah.1 h4
   rcases H.own y hy with h5|h5
   .rw[he]at h5;exact h3 (.inr h5)
   .omega
theorem M8{wK w1 wb w:World}{e9 e28:List (Nat × Obj)}{m:Im}(h:m.Ok w1 (Mk wK e9))(hx:Ext [] w1 wb)(H:Ctx wb (e9.map (·.1)) w e28):m.Ok w (Mk wK e28) :=
 ⟨JY h.k hx H,JY h.v hx H,h.kc,h.vc⟩
structure Scj(wK:World)(l:List (Byt × Sv))(kf kt:Byt)(i:Nat)(a9:Option Addr)(n9 c9:Nat)(f9:List Value)(qs:List Im)(w':World):Prop where
 ext:Ext [] wK w'
 blk:∀y∈ent a9 68 f9,w'.heap[y.1]?=some y.2/\wK.heap.size<=y.1
 os:OS a9 n9 c9 2 f9 (qs.flatMap Hh)
 eq:qs.map (fun m=>prI m.it)=Vv l kf kt ((CF (mv l)).take i)
 ok:∀m∈qs,m.Ok w' (Mk wK (ent a9 68 f9))
theorem Y7{w:World}{bs m1 m2 gen:Nat}{n root:Int}{vd vj vp vt:Value}{o1:Obj}{M:Mut}{l:List (Byt × Sv)}(hs:w.heap[bs]?=some (Bl CU (CN vd vj vp vt gen root m1 m2 n false)))(h1m:w.heap[m1]?=some o1)(K:KvAt w M l o1)(hnd:((mv l).map (·.1)).Nodup)(hsz:l.length<=100000)(fa ta:Option Addr)(fc tc:Nat)(kf kt:Byt)(Rf:Rd w fa 1 B8 kf)(Rt:Rd w ta 1 B8 kt) :
  Ret prog 20 #[ptr bs,.slice fa kf.length fc,.slice ta kt.length tc] w fun v w'=>∃a c,v=.tuple #[.slice a (Q1 l kf kt).length c,.int .i64 0]/\Prs w' (Old w) a (Q1 l kf kt).length c (Q1 l kf kt)/\Ext [] w w':=by
 obtain⟨wI,rfl,H⟩:=qE w;refine A6 (fn:=f20) func20 U [ptr bs,.slice fa kf.length fc,.slice ta kt.length tc] U (Ad (Ak U (Ac U (qA (Aq (Ad (Am U (Ai qB (GP hs) U ?_))))))));rintro v w ⟨rfl,rfl⟩;refine Ac U (qA (Ad (Ae U (Ba U U (qA (Au _ U ?_ ?_))))))
 .intro h1;replace h1:=Bu h1;exact absurd U h1
 .intro h1;replace h1:=Bv h1;refine Ap (Aa (Ad (Ak U (qA (Aq (Ad (Am U (A8 U (Af HF U (Be ML U ((by rw[Ar hs];rfl)) ?_))))))))));refine Ai qB (Afi (some m1) _) U ?_;rintro v w ⟨rfl,rfl⟩;replace H:=H.alloc (Bl 91 [.map (some m1)]);refine Ai qB (Y6 (H.get at0) (H.ext.to h1m (by simp)) K.m hnd (by simpa using hsz) (fun p hp=>by obtain⟨q,hq,rfl⟩:=qah.1 hp;exact(K.few q hq).1)) U ?_;rintro v w ⟨aK,cK,rfl,RK,hcK,-,hx22⟩;replace H:=H.call hx22;have hxK:=H.ext;clear H;refine AP Si U (Ae U (qA (AE ?_)));obtain⟨wK,rfl⟩:=qD w;have hkl:(CF (mv l)).length<=100000:=by rw[M6];simpa using hsz
  refine B7 144115188059081216 (α:=Nat × Option Addr × Nat × Nat × List Value × List Im) (fun s=>[(24,.int .i64 (s.1:Int)),(9,.slice s.2.1 s.2.2.1 s.2.2.2.1)]) (fun s w'=>s.1<=(CF (mv l)).length/\s.2.2.1<=s.1/\Scj wK l kf kt s.1 s.2.1 s.2.2.1 s.2.2.2.1 s.2.2.2.2.1 s.2.2.2.2.2 w') (fun s=>(CF (mv l)).length - s.1) (0,none,0,0,[],[]) U ?_ ?_ ?_
  .exact⟨rfl,rfl,trivial⟩
  .exact⟨qak _,qae _,Ext.refl _ _,(fun y hy=>by cases hy),OS.nil,rfl,fun m hm=>by cases hm⟩
  .rintro⟨i,a9,n9,c9,f9,qs⟩ j w1 ⟨hi,hn9,S⟩;dsimp only at hi hn9 S;dsimp only;have H:=Ctx.start w1 [];refine Ad (Bn U U (qA (Aq (Au _ U ?_ ?_))))
   .intro h2;replace h2:=AV h2;obtain⟨k,hk⟩:=AO (l:=CF (mv l)) (i:=i);have hI1:=hxK.trans S.ext;have hsn:=Aau (l:=l) (kf:=kf) (kt:=kt) (k:=k) (ks:=(CF (mv l)).take i);rw[<-Bp hk]at hsn;refine Ap (Aa (Aq (AE (Ad (AY (RK.ext0 S.ext) Si sz_9 U U (hn:=by rfl) ?_)))));refine Be ag_9 U ((RK.ext0 S.ext).one (f:=str) hk) ?_;refine IG U U (qA (Ad (BE (α:=Unit) 8795824586752 (fun _=>[(42,.bool (W4 kf kt k))]) (fun _ w'=>w1=w') U ?_ ?_)))
    .refine Cd U (Aj U (Kk AX GR F7 U (Rf.ext0 hI1) ?_));refine Agx U U U ?_;refine AA U (AR 32 U ?_ ?_)
     .intro h1;refine Aj U (AP AX U (B6 U U (AA U (AR 36 U ?_ ?_))))
      .intro h2;replace h2:=AV h2;refine Ag U (Ag U (Ag U (Ag U (AN U (.bool _) U (AN U (.bool _) U (Ab ?_))))));exact⟨rfl,(),rfl,⟨qab Value.bool (by unfold W4;simp_all),trivial⟩,rfl⟩
      .intro h3;replace h3:=AW h3;refine Cd U (Aj U (Kk AX GR F7 U (Rt.ext0 hI1) ?_));refine Agw U U U (AK U (.bool _) U (AN U (.bool _) U (Ab ?_)));exact⟨rfl,(),rfl,⟨qab Value.bool (by unfold W4;simp_all),trivial⟩,rfl⟩
     .intro h4;refine Ag U (Ag U (Ag U (Ag U (Ag U (Ag U (Ag U (Ag U (Ag U (AK U (.bool _) U ?_)))))))));refine Ab ?_;exact⟨rfl,(),rfl,⟨qab Value.bool (by unfold W4;simp_all),trivial⟩,rfl⟩
    rintro - j42 w rfl;refine Au _ U ?_ ?_
    .intro h3;rw[if_pos h3]at hsn
     obtain⟨A9,C9,hz,hR9,hlen9⟩:∃A9 C9,((BI l k).map Sv.enc).getD (.slice none 0 0)=.slice A9 (LA l k).length C9/\Rd wI A9 1 B8 (LA l k)/\(LA l k).length<=128:=by
      unfold LA
      cases hq:BI l k with
      |none=>exact⟨none,0,rfl,Rd.nil,by simp⟩
      |some s=>exact⟨s.a,s.c,rfl,(K.ok _ (EU hq)).1.1,(K.few _ (EU hq)).2⟩
     refine Av (Aj U (Cd U (KV (l:=k) U F7 AX GR U ?_)));rintro b45 c45 w hb45 hc45 hx45 R45;replace H:=H.call hx45;refine Am U (A8 U (Af HF U (Be ML U ((by rw[Ar ((hI1.trans H.ext).to hs (by simp))];rfl)) ?_)));refine Cd U (RT (m:=mv l) (n:=k) U NO (Fx F7) Sw U U (Ctx.start1 ((hI1.trans H.ext).to h1m (by simp))) at0 K.m ?_);rw[Fh (f:=Sv.enc),hz];refine Ai qB (JM A9 C9 _ (LA l k) _ ((hR9.ext0 hI1).ext0 H.ext) U) U ?_;rintro v wb ⟨F52,-⟩;have hsz45:=H.size;obtain⟨a52,c52,rfl,R52,hc52,hn52⟩:=Fresh.newB F52;replace R45:=R45.ext0 F52.ext;have Hb:=H.call F52.ext;obtain⟨im,him⟩:=qD (⟨some ⟨b45,0,none⟩,c45,a52,c52,⟨k,LA l k,0⟩⟩:Im);have hblk:∀y∈ent a9 68 f9,wb.heap[y.1]?=some y.2:=(fun y hy=>Hb.ext.to (S.blk y hy).1 (by simp));clear H;have H:=Ctx.startL hblk KR;refine B2 (Hh ⟨some ⟨b45,0,none⟩,c45,a52,c52,⟨k,LA l k,0⟩⟩) UD FD ?_
     rw[<-him];refine BJ (Hh im) (.agg _) Cv Dq FD U U U U H ?_;rintro b54 w - H;refine BO (L:=[]) Cv Cv Dq Qh FD U U U H S.os U (Hi im) ?_;clear H;rintro a28 c28 f28 w2 H O28;refine Ak U (Ab (AF (Aa (Av (A7 U U ?_)))));refine Ae U (qA ?_);have hltm:∀y∈ent a9 68 f9,y.1<w1.heap.size:=fun y hy=>Al (S.blk y hy).1;have hKs:=S.ext.size
     have himk:im.Ok wb (Mk wK (ent a9 68 f9)):=by
      subst him;refine⟨⟨R45,.inr fun h=>?_⟩,⟨R52,hn52.imp id fun h5 h=>?_⟩,hc45,hc52⟩
      .rcases h with h|h
       .have h6:b45<wK.heap.size:=h;omega
       .obtain⟨y,hy,he⟩:=qah.1 h;have h6:=hltm y hy;have h7:y.1=b45:=he;omega
      .rcases h with h|h
       .have h6:(adr a52).block<wK.heap.size:=h;omega
       .obtain⟨y,hy,he⟩:=qah.1 h;have h6:=hltm y hy;have h7:y.1=(adr a52).block:=he;omega
     refine⟨(i+1,a28,n9+1,c28,f28,qs++[im]),rfl,⟨rfl,rfl,trivial⟩,⟨by dsimp only;omega,by dsimp only;omega,⟨?_,?_,?_,?_,?_⟩⟩,by dsimp only;omega⟩
     .exact(S.ext.trans Hb.ext).then H.ext fun y hy=>by
       obtain⟨z,hz,he⟩:=qah.1 hy;rw[<-he];exact .inr (S.blk z hz).2
     .intro y hy;refine⟨H.blk y hy,?_⟩
      rcases H.own y hy with h|h
      .obtain⟨z,hz,he⟩:=qah.1 h;rw[<-he];exact(S.blk z hz).2
      .have:=Hb.size;omega
     .dsimp only;rw[qbf,qb8];exact O28
     .dsimp only;rw[qaz,S.eq,hsn,him];rfl
     .intro m hm;dsimp only at hm |-
      rcases qau.1 hm with hm|hm
      .exact M8 (S.ok m hm) Hb.ext H
      .rw[qaa.1 hm];exact M8 himk (Ext.refl _ _) H
    .intro h3;rw[if_neg (by simp[h3]),qa3]at hsn;refine Ap (AF (Aa (Av (A7 U U ?_))));refine Ae U (qA ?_);exact⟨(i+1,a9,n9,c9,f9,qs),rfl,⟨rfl,rfl,trivial⟩,⟨by dsimp only;omega,by dsimp only;omega,S.ext,S.blk,S.os,by dsimp only;rw[S.eq,hsn],S.ok⟩,by dsimp only;omega⟩
   .intro h2;replace h2:=AW h2;obtain rfl:i=(CF (mv l)).length:=by omega
    have he:=S.eq;rw[qbe]at he
    have hnq:n9=(Q1 l kf kt).length:=by
     have h5:=S.os.llen;rw[JX]at h5;have h6:qs.length=(Q1 l kf kt).length:=by rw[<-qaj (f:=fun m:Im=>prI m.it),he];rfl
     omega
    have hKI:=hxK.size;refine B3 (Ay (Ay (Bb (Aa (Ad (Aj U (Ak U (Ac U (qA (Ax (Ce (v1:=(.slice _ _ _)) (v2:=(.int _ _)) U U U U ?_)))))))))));refine⟨a9,c9,by rw[<-hnq],⟨⟨qs,OS.rd S.os (fun y hy=>(S.blk y hy).1) (fun _ _=>rfl) (by decide),?_,he,fun m hm=>(S.ok m hm).weak fun x hx => .inl (qas hx hKI)⟩,rfl,by rw[<-hnq];exact S.os.le⟩,hxK.trans S.ext⟩
    cases ha:a9 with
    |none =>
     left;have h5:=S.os.none' ha;have h6:=S.os.le;have h7:=S.os.llen;rw[JX]at h7;exact qa4 (by omega)
    |some q =>
     right;intro h;have h5:=(S.blk (q.block,Bl 68 f9) (by rw[ha];exact qaa.2 rfl)).2;have h6:q.block<wI.heap.size:=h;dsimp only at h5;omega
theorem Ky{α:Type}{k:Byt}:∀{m:List (Byt × α)},(m.map (·.1)).Nodup->((Gq m k).map (·.1)).Nodup/\k∉(Gq m k).map (·.1)
 | [],h=>⟨h,by simp[Gq]⟩
 |p::m,h=>by
  rw[qay,qck]at h;unfold Gq
  split
  .rename_i he
   exact⟨h.2,he ▸ h.1⟩
  .rename_i he
   obtain⟨h1,h2⟩:=Ky (k:=k) h.2;refine⟨?_,?_⟩
   .rw[qay,qck];refine⟨fun h3=>h.1 ?_,h1⟩;obtain⟨q,hq,e⟩:=qah.1 h3;exact qah.2 ⟨q,JV hq,e⟩
   .rw[qay,qac];rintro(h3|h3)
    .exact he h3.symm
    .exact h2 h3
theorem Ny{kv:Kvl}{x:Wr}(h:(kv.map (·.1)).Nodup):((LH kv x).map (·.1)).Nodup:=by
 obtain⟨h1,h2⟩:=Ky (k:=x.k) h;unfold LH
 split
 .exact h1
 .have h3:BI (Gq kv x.k) x.k=none:=by
   rw[<-qdf,FX]
   simpa using h2
  rw[FQ h3,qaz,qdm];refine⟨h1,by simp,fun a ha b hb=>?_⟩;simp only[qay,qbn,qaa]at hb;rintro rfl;exact h2 (hb ▸ ha)
def LK(kv:Kvl)(kf kt:Byt):List Pr:=((CF kv).filter (W4 kf kt)).map fun k=>(k,(BI kv k).getD [])
theorem Ac5(l:List (Byt × Sv))(k:Byt):LA l k=(BI (EH l) k).getD []:=by rw[LJ];rfl
theorem Akh(l:List (Byt × Sv)):CF (mv l)=CF (EH l):=by simp[CF,EH,qcr]
theorem Y9(l:List (Byt × Sv))(kf kt:Byt):Q1 l kf kt=LK (EH l) kf kt:=by
 unfold Q1 Vv LK;rw[Akh];simp only[Ac5]
section
variable {w0 w w':World}{p:Sp}{A:Dev}{R:Rj}{x:Sx}{F:Mut}
theorem W5(O:Sok w0 w p A R x F)(a:Option Addr)(c:Nat)(k:Byt)(Rk:Rd w a 1 B8 k) :
  Ret prog 26 #[ptr p.bs,.slice a k.length c] w fun v w'=>∃a' c',v=.tuple #[.slice a' ((BI x.kv k).getD []).length c',.bool (BI x.kv k).isSome,.int .i64 0]/\Rd w' a' 1 B8 ((BI x.kv k).getD [])/\Sok w0 w' p A R x F/\Ext [] w w':=by
 obtain⟨l,o1,o2,hF,K,hk,hM⟩:=O.ex;refine(Amp (hF.blk _ (qaf ..)) (hF.blk (p.m1,o1) (by simp[Sp.blk])) K a c k Rk).mono fun v w' ⟨a',c',hv,hR,hx⟩=>?_;rw[Ac5,hk]at hv hR;refine⟨a',c',?_,hR,O.call hx,hx⟩;rw[hv,<-hk,LJ,qe6]
theorem Vw(O:Sok w0 w p A R x F):Ret prog 25 #[ptr p.bs] w fun v w'=>v=.int .i64 x.n/\w=w':=by
 obtain⟨l,o1,o2,hF,-⟩:=O.ex;exact Vp (hF.blk _ (qaf ..))
theorem YA(O:Sok w0 w p A R x F)(hnd:(x.kv.map (·.1)).Nodup)(hsz:x.kv.length<=100000)(fa ta:Option Addr)(fc tc:Nat)(kf kt:Byt)(Rf:Rd w fa 1 B8 kf)(Rt:Rd w ta 1 B8 kt) :
  Ret prog 20 #[ptr p.bs,.slice fa kf.length fc,.slice ta kt.length tc] w fun v w'=>∃a c,v=.tuple #[.slice a (LK x.kv kf kt).length c,.int .i64 0]/\Prs w' (Old w) a (LK x.kv kf kt).length c (LK x.kv kf kt)/\Sok w0 w' p A R x F/\Ext [] w w':=by
 obtain⟨l,o1,o2,hF,K,hk,hM⟩:=O.ex
 have h1:((mv l).map (·.1)).Nodup:=by
  have h2:(mv l).map (·.1)=(EH l).map (·.1):=by simp[EH,qcr]
  rw[h2,hk];exact hnd
 have h3:l.length<=100000:=by
  have:(EH l).length=l.length:=qaj ..
  rw[hk]at this;omega
 refine(Y7 (hF.blk _ (qaf ..)) (hF.blk (p.m1,o1) (by simp[Sp.blk])) K h1 h3 fa ta fc tc kf kt Rf Rt).mono fun v w' ⟨a,c,hv,hP,hx⟩=>?_;rw[Y9,hk]at hv hP;exact⟨a,c,hv,hP,O.call hx,hx⟩
theorem Aav(O:Sok w0 w p A R x F):Own w0 w p.bd A F/\SG A.B.length A R x.V:=⟨O.jone.own,O.good⟩
end
theorem Aki:∀{a b:Byt},a<b↔ltB a b
 | [],[]=>by simp[ltB,show DX [] []=0 from rfl]
 | [],y::b=>by simp[ltB,show DX [] (y::b) = -1 from rfl]
 |x::a,[]=>by simp[ltB,show DX (x::a) []=1 from rfl]
 |x::a,y::b=>by
  rw[List.cons_lt_cons_iff,Aki (a:=a) (b:=b)];unfold ltB;rw[GH]
  by_cases h1:x<y
  .rw[if_pos h1];simp[h1]
  .rw[if_neg h1]
   by_cases h2:y<x
   .rw[if_pos h2]
    have:x≠y:=fun h=>by rw[h]at h2;exact UInt8.lt_irrefl _ h2
    simp[h1,this]
   .rw[if_neg h2];have h3:x=y:=UInt8.le_antisymm (UInt8.not_lt.1 h2) (UInt8.not_lt.1 h1);simp[h3]
theorem Aqa{a b:Byt}:a<=b↔¬ltB b a:=by
 rw[<-Aki,List.not_lt]
theorem Ac6{L:List Pr}{k v k' u:Byt}:(k',u)∈HO L k v↔(k'=k/\u=v)\/((k',u)∈L/\k'≠k):=by
 unfold HO;simp only[qau,qac,qbk,qap,qdb];constructor
 .rintro(⟨h1,h2⟩|h|⟨h1,h2⟩)
  .exact .inr ⟨h1,Hx h2⟩
  .exact .inl h
  .exact .inr ⟨h1,fun e=>Hx h2 e.symm⟩
 .rintro(h|⟨h1,h2⟩)
  .exact .inr (.inl h)
  .rcases Mj k' k with h|h|h
   .exact .inl ⟨h1,h⟩
   .exact absurd h h2
   .exact .inr (.inr ⟨h1,h⟩)
theorem Am2{L:List Pr}{k k' u:Byt}:(k',u)∈JA L k↔(k',u)∈L/\k'≠k:=by
 unfold JA;simp
theorem YB{L:List Pr}(h:Rising L)(k v k':Byt):DQ (HO L k v) k'=if k'=k then some v else DQ L k':=by
 refine Option.ext fun u=>?_;rw[ET (GI h k v),Ac6]
 by_cases he:k'=k
 .rw[if_pos he];simp[he,eq_comm]
 .rw[if_neg he,ET h];simp[he]
theorem YC{L:List Pr}(h:Rising L)(k k':Byt):DQ (JA L k) k'=if k'=k then none else DQ L k':=by
 refine Option.ext fun u=>?_;rw[ET (HP h k),Am2]
 by_cases he:k'=k
 .rw[if_pos he];simp[he]
 .rw[if_neg he,ET h];simp[he]
theorem Jg{L:List Pr}(h:Rising L):(L.map (·.1)).Nodup:=by
 rw[qdo,qbs];exact h.imp fun h=>Hx h
theorem Fq{kv:List Pr}(h:(kv.map (·.1)).Nodup):kv.Nodup:=(qbs.1 h).imp fun h e=>h (by rw[e])
theorem YD{L M:List Pr}(hL:Rising L)(hM:Rising M)(h:∀k,DQ L k=DQ M k):L=M:=by
 have hm:∀p,p∈L↔p∈M:=fun p=>by rw[show p=(p.1,p.2)from rfl,<-ET hL,<-ET hM,h]
 have n1:L.Nodup:=Fq (Jg hL);have n2:M.Nodup:=Fq (Jg hM);refine qfi (le:=fun(x y:Pr)=>ltB x.1 y.1) (fun a b _ _ h1 h2=>absurd h2 (Fl h1)) hL hM ((qd2 n1 n2).2 hm)
theorem Akj{kv:Kvl}(h:(kv.map (·.1)).Nodup){k v:Byt}:BI kv k=some v↔(k,v)∈kv:=by
 refine⟨EU,fun hm=>?_⟩
 induction kv with
 |nil=>cases hm
 |cons p kv ih =>
  rw[qay,qck]at h;unfold BI at ih |-;rw[qda]
  rcases qac.1 hm with rfl|hm
  .simp
  .have hne:¬p.1=k:=fun e=>h.1 (by rw[e];exact qah.2 ⟨_,hm,rfl⟩);rw[qag hne];exact ih h.2 hm
theorem YE{kv:Kvl}(h:(kv.map (·.1)).Nodup)(k k':Byt):BI (Gq kv k) k'=if k'=k then none else BI kv k':=by
 induction kv with
 |nil=>split <;> rfl
 |cons p kv ih =>
  rw[qay,qck]at h;have ih:=ih h.2;unfold Gq
  by_cases hp:p.1=k
  .rw[if_pos hp]
   by_cases he:k'=k
   .rw[if_pos he];rw[<-qdf,FX];simp only[qap];rw[he,<-hp];exact h.1
   .rw[if_neg he];unfold BI;rw[qda,qag (fun e=>he (by rw[<-e,hp]))]
  .rw[if_neg hp];unfold BI at ih |-;rw[qda,qda]
   by_cases he:p.1=k'
   .rw[qal he,if_neg (fun e=>hp (by rw[he,e]))]
   .rw[qag he];exact ih
theorem YF{kv:Kvl}(h:(kv.map (·.1)).Nodup)(x:Wr)(k:Byt):BI (LH kv x) k=if k=x.k then(if x.d=true then none else some x.v)else BI kv k:=by
 unfold LH
 split
 .rw[YE h]
 .obtain⟨h1,h2⟩:=Ky (k:=x.k) h
  have h3:BI (Gq kv x.k) x.k=none:=by
   rw[<-qdf,FX]
   simpa using h2
  rw[FQ h3];have hd:=YE h x.k k;unfold BI at hd |-;rw[qee,Option.map_or,hd]
  by_cases he:k=x.k
  .simp[he]
  .have he':¬x.k=k:=fun e=>he e.symm;simp[he,he']
def doP(L:List Pr)(x:Wr):List Pr:=if x.d=true then JA L x.k else HO L x.k x.v
def DO(L:List Pr)(W:List Wr):List Pr:=W.foldl doP L
structure KL(kv:Kvl)(L:List Pr):Prop where
 nd:(kv.map (·.1)).Nodup
 rise:Rising L
 get:∀k,BI kv k=DQ L k
theorem Nz{L:List Pr}(h:Rising L)(x:Wr):Rising (doP L x):=by
 unfold doP
 split
 .exact HP h _
 .exact GI h _ _
theorem LL:∀{W:List Wr} {L:List Pr},Rising L->Rising (DO L W)
 | [],_,h=>h
 |x::W,_,h=>LL (W:=W) (Nz h x)
theorem Ac7{L:List Pr}(h:Rising L)(x:Wr)(k:Byt):DQ (doP L x) k=if k=x.k then(if x.d=true then none else some x.v)else DQ L k:=by
 unfold doP
 split
 .rw[YC h]
 .rw[YB h]
section
variable {kv:Kvl}{L:List Pr}
theorem KL.set(h:KL kv L)(x:Wr):KL (LH kv x) (doP L x) :=
 ⟨Ny h.nd,Nz h.rise x,fun k=>by rw[YF h.nd,Ac7 h.rise,h.get]⟩
theorem KL.sets:∀{W:List Wr} {kv:Kvl} {L:List Pr},KL kv L->KL (Gb kv W) (DO L W)
 | [],_,_,h=>h
 |x::W,_,_,h=>KL.sets (W:=W) (h.set x)
theorem KL.nil:KL [] []:=⟨qcb,List.Pairwise.nil,fun _=>rfl⟩
theorem KL.perm(h:KL kv L):kv.Perm L:=by
 refine(qd2 (Fq h.nd) (Fq (Jg h.rise))).2 fun p=>?_;rw[show p=(p.1,p.2)from rfl,<-Akj h.nd,<-ET h.rise,h.get]
theorem KL.len(h:KL kv L):kv.length=L.length:=h.perm.length_eq
theorem KL.one{M:List Pr}(h:KL kv L)(h2:KL kv M):L=M:=YD h.rise h2.rise fun k=>by rw[<-h.get,h2.get]
theorem KL.scan(h:KL kv L)(kf kt:Byt):LK kv kf kt=MR kf kt L:=by
 have hs:(CF kv).Pairwise (fun x y=>ltB x y):=by
  have h1:(CF kv).Pairwise (fun x y=>x<=y):=by
   have:=qfc (le:=fun x y:Byt=>decide (x<=y)) (fun a b c h1 h2=>by simp only[qap]at *;exact List.le_trans h1 h2) (fun a b=>by simp only[qcf,qap];exact List.le_total a b) (kv.map (·.1));exact this.imp fun h=>by simpa using h
  have h2:(CF kv).Nodup:=((qce _ _).nodup_iff).2 h.nd;refine(h1.and h2).imp fun{a b} hab=>?_
  rcases Mj a b with h3|h3|h3
  .exact h3
  .exact absurd h3 hab.2
  .exact absurd h3 (Aqa.1 hab.1)
 have hk:CF kv=L.map (·.1):=by
  have hp:(CF kv).Perm (L.map (·.1)):=(qce _ _).trans (h.perm.map _);exact qfi (le:=ltB) (fun a b _ _ h1 h2=>absurd h2 (Fl h1)) hs (qbs.2 h.rise) hp
 unfold LK MR;rw[hk,List.filter_map,qbi];have hf:(W4 kf kt ∘ fun x:Pr=>x.1)=fun p:Pr=>inR kf kt p.1:=rfl;rw[hf]
 have:∀p∈L.filter fun p=>inR kf kt p.1,((fun k=>(k,(BI kv k).getD [])) ∘ fun x:Pr=>x.1) p=p:=fun p hp=>by
  have h1:=(ET h.rise (k:=p.1) (v:=p.2)).2 (qbk.1 hp).1;show(p.1,(BI kv p.1).getD [])=p;rw[h.get,h1];rfl
 rw[qc0 this,List.map_id''];exact fun _=>rfl
end
theorem FM(p:Pr)(L:List Pr):B0 (p::L)=4+p.1.length+p.2.length+B0 L:=by simp[B0]
theorem TI(A B:List Pr):B0 (A++B)=B0 A+B0 B:=by simp[B0]
theorem GQ{A B:List Pr}(h:A.Perm B):B0 A=B0 B:=(h.map _).sum_nat
theorem Vx:∀{kv:Kvl} (_:(kv.map (·.1)).Nodup) (k:Byt),(B0 (Gq kv k):Int)=B0 kv - LI kv k
 | [],_,k=>by simp[Gq,LI,BI,B0]
 |p::kv,h,k=>by
  rw[qay,qck]at h;have ih:=Vx h.2 k;unfold LI BI at ih |-;unfold Gq;rw[qda]
  by_cases hp:p.1=k
  .rw[if_pos hp,qal hp,FM];simp only[qbc,MG,<-hp];omega
  .rw[if_neg hp,qag hp,FM,FM];dsimp only;omega
theorem Afj{kv:Kvl}(h:(kv.map (·.1)).Nodup)(x:Wr):(B0 (LH kv x):Int)=B0 kv - LI kv x.k+HA x:=by
 have hd:=Vx h x.k;unfold LH HA
 split
 .rw[hd];omega
 .obtain⟨h1,h2⟩:=Ky (k:=x.k) h
  have h3:BI (Gq kv x.k) x.k=none:=by
   rw[<-qdf,FX]
   simpa using h2
  rw[FQ h3,TI,FM]
  have:B0 []=0:=rfl
  rw[this,<-hd];unfold MG
  push_cast
  omega
theorem Jh:∀{W:List Wr} {kv:Kvl} (_:(kv.map (·.1)).Nodup) (n:Int),Ek kv n W=n - B0 kv+B0 (Gb kv W)
 | [],kv,h,n=>by show n=n - _+((B0 kv:Nat):Int);omega
 |x::W,kv,h,n=>by
  have h1:=Jh (W:=W) (Ny (x:=x) h) (n - LI kv x.k+HA x);have h2:=Afj h x;show Ek (LH kv x) _ W=n - B0 kv+B0 (Gb (LH kv x) W);omega
def Hl:List Byt->List Wr->Bool
 |_,[]=>true
 |seen,x::W => !HB (decide (x.k∈seen)) x && Hl (seen++[x.k]) W
theorem Akk{kv:Kvl}{room:Int}:∀{W:List Wr} {kv':Kvl} {seen:List Byt} {b:Int},(∀k,k∉seen->BI kv' k=BI kv k)->(kv'.map (·.1)).Nodup->goK kv room seen b W=if Hl seen W=true then(if room<Ek kv' b W then 7 else 0)else 1
 | [],kv',seen,b,_,_=>rfl
 |x::W,kv',seen,b,hk,hnd=>by
  rw[goK]
  by_cases hb:HB (decide (x.k∈seen)) x=true
  .have:¬Hl seen (x::W)=true:=by unfold Hl;rw[hb];simp
   rw[if_pos hb,if_neg this]
  .have hm:Hl seen (x::W)=Hl (seen++[x.k]) W:=by
    unfold Hl;rw[qec.2 hb];show(true && Hl (seen++[x.k]) W)=_;rw[qdx];cases W <;> rfl
   have hs:x.k∉seen:=by
    unfold HB at hb;simp only[qcf,qap,not_or]at hb;exact hb.1
   have ho:LI kv' x.k=LI kv x.k:=by unfold LI;rw[hk x.k hs]
   rw[if_neg hb,hm,Akk (kv':=LH kv' x) (seen:=seen++[x.k]) (fun k hk2=>?_) (Ny hnd)]
   .rw[<-ho];rfl
   .simp only[qau,qaa,not_or]at hk2;rw[YF hnd,if_neg hk2.2,hk k hk2.1]
theorem Akl{kv:Kvl}(h:(kv.map (·.1)).Nodup)(room:Int)(W:List Wr):Eh kv (B0 kv) room W=if 1000<W.length then 6 else if Hl [] W=true then(if room<B0 (Gb kv W)then 7 else 0)else 1:=by
 unfold Eh;rw[Akk (kv':=kv) (fun _ _=>rfl) h,Jh h];rw[show(B0 kv:Int) - B0 kv+B0 (Gb kv W)=B0 (Gb kv W)by omega]
theorem KL.right{kv:Kvl}{L:List Pr}(h:KL kv L)(room:Int)(W:List Wr):Eh kv (B0 L) room W=if 1000<W.length then 6 else if Hl [] W=true then(if room<B0 (DO L W)then 7 else 0)else 1:=by
 rw[<-GQ h.perm,Akl h.nd,GQ (h.sets (W:=W)).perm]
theorem TK:∀{W:List Wr} {seen:List Byt},Hl seen W=true->∀x∈W,x.Few/\1<=x.k.length
 | [],_,_,x,hx=>by cases hx
 |y::W,seen,h,x,hx=>by
  unfold Hl at h;simp only[qao,qd6]at h
  rcases qac.1 hx with rfl|hx
  .have hb:=h.1;unfold HB at hb;simp only[qdz,qct]at hb;refine⟨⟨by omega,by omega⟩,?_⟩
   have:0<x.k.length:=qbv.2 hb.2.1
   omega
  .exact TK h.2 x hx
theorem Aqb{L:List Pr}(h:OkP L){x:Wr}(hx:x.Few/\1<=x.k.length):OkP (doP L x):=fun p hp=>by
 unfold doP at hp
 split at hp
 .exact h p (Xy hp)
 .rcases Xx hp with rfl|hp
  .exact⟨hx.2,hx.1⟩
  .exact h p hp
theorem OI:∀{W:List Wr} {L:List Pr},OkP L->(∀x∈W,x.Few/\1<=x.k.length)->OkP (DO L W)
 | [],_,h,_=>h
 |x::W,_,h,hx=>OI (W:=W) (Aqb h (hx x (qaf ..))) fun y hy=>hx y (qai _ hy)
theorem YG(L:List Pr)(V W:List Wr):DO L (V++W)=DO (DO L V) W:=qdp
theorem Vy:∀{W:List Wr} {L:List Pr} (_:Rising L) {k:Byt},(∀x∈W,x.k≠k)->DQ (DO L W) k=DQ L k
 | [],_,_,_,_=>rfl
 |x::W,L,h,k,hk=>by
  show DQ (DO (doP L x) W) k=_;rw[Vy (Nz h x) fun y hy=>hk y (qai _ hy),Ac7 h,if_neg fun e=>hk x (qaf ..) e.symm]
end Go.Proofs.YtcpgbcabmcbclaaGreatDoor
