/- Part 6 of the proof. -/
import Derived.Test.YtcpgbcabmcbclaaGreatDoorPart5
set_option maxRecDepth 20000
set_option maxHeartbeats 16000000
namespace Go.Proofs.YtcpgbcabmcbclaaGreatDoor
open Go.GV Go.Proofs.Tryz
attribute [local irreducible] A7 W Wq Wt
def JR(inner:Bool)(half:Nat):List It->Nat->Nat
 | [],_=>0
 |x::l,sum=>if sum<half then JR inner half l (sum+C1 inner x)+1 else 0
def FD(inner:Bool)(L:List It):Nat:=JR inner (AY inner L / 2) L 0
def Du(inner:Bool)(L:List It):List (List It):=if AY inner L<=503 then[L]else[L.take (FD inner L),L.drop (FD inner L)]
abbrev SN:=Option Addr × List It × Nat
def K2(inner:Bool)(x:SN):List Value:=[.bool inner,.slice x.1 x.2.1.length x.2.2]
structure Nds(w:World)(M:Mut)(inner:Bool)(a:Option Addr)(n c:Nat)(Ls:List (List It)):Prop where
 ex:∃ms:List SN,Rd w a 2 (K2 inner) ms/\(ms=[]\/¬M (adr a).block)/\ms.map (fun x=>x.2.1)=Ls/\∀m∈ms,Its w M m.1 m.2.1.length m.2.2 m.2.1
 num:n=Ls.length
theorem Nds.turn{w w':World}{M M':Mut}{inner:Bool}{a:Option Addr}{n c:Nat}{Ls:List (List It)}(h:Nds w M inner a n c Ls)(t:Grown M M' w w'):Nds w' M' inner a n c Ls:=by
 obtain⟨ms,R,hs,hl,hm⟩:=h.ex;refine⟨⟨ms,?_,?_,hl,fun m hx=>(hm m hx).turn t⟩,h.num⟩
 .rcases hs with rfl|hs
  .exact Rd.nil
  .obtain⟨⟨S,hS,hx⟩,_⟩:=t;exact R.ext hx fun h=>hs (hS _ h)
 .rcases hs with rfl|hs
  .exact .inl U
  .rcases UO R (fun x _=>rfl)with h0|h0
   .exact .inl h0
   .exact .inr fun h5=>(t.2 _ h5).elim hs fun h6=>by omega
theorem LR(inner:Bool)(L:List It)(k:Nat):AY inner (L.take k)<=AY inner L:=by
 have h:=B2 inner (L.take k) (L.drop k);rw[qbl]at h;omega
theorem Abf{w:World}{M:Mut}(hM:∀x,M x->x<w.heap.size)(inner:Bool){a:Option Addr}{n c:Nat}{L:List It}(I:Its w M a n c L)(hsz:∀x∈L,x.key.length<=65535/\x.val.length<=65535)(hm:n<=1000000:=by omega):
  Ret prog 210 #[.agg #[.bool inner,.slice a n c]] w fun v w'=>∃a' n' c',v=.slice a' n' c'/\Nds w' M inner a' n' c' (Du inner L)/\Ext [] w w':=by
 obtain⟨w0,rfl,H⟩:=qE w;obtain⟨ms,R,-,hl,hok⟩:=I.ex;have hnum:=I.num;have hcap:=I.le;have hml:ms.length=n:=by rw[hnum,<-hl,qal]
 have htl:=K1 (inner:=inner) hsz;refine A6 (fn:=f210) func210 U [.agg #[.bool inner,.slice a n c]] U (Ad (Co [.bool inner,.slice a n c] (.agg _) U U H ?_));rintro b1 w - H;refine Aj U (qA (Ar (Ad (BG BH Ba U H at0 U (Ah qB (QM inner (I.call H.ext) hm hsz) U ?_)))));rintro v w ⟨rfl,hx7⟩;replace H:=H.call hx7;refine PX U U U (qA (Au _ U ?_ ?_))
 .intro h1;replace h1:=AU h1;have hh:Du inner L=[L]:=by rw[Du,if_pos (by omega)]
  have hxb:=H.ext;refine Ad (BG BH Ba U H at0 U (BP _ (.agg _) Er Ba Cb U U U U H ?_));rintro b10 w - H;refine Aj U (qA (Ax (Ao (AH (v:=(.slice _ _ _)) U U U ?_))));refine⟨some ⟨b10,0,none⟩,1,1,rfl,⟨⟨[(a,L,c)],Rd.of_bl (r:=[]) (H.get at0) ?_ (fun _ _=>rfl),.inr fun hq=>?_,by rw[hh];rfl,fun m hm=>?_⟩,by rw[hh];rfl⟩,H.ext⟩
  .rw[qc7,qa2,K2,<-hnum]
  .have:=hM _ hq;have h5:=(H.own _ (qae ..)).elim (fun h=>by cases h) id;dsimp only[adr]at this h5;omega
  .rw[qaa.1 hm];have:=I.call H.ext;rw[hnum]at this;exact this
 .intro h1;replace h1:=AV h1;have hh:Du inner L=[L.take (FD inner L),L.drop (FD inner L)]:=by rw[Du,if_neg (by omega)]
  refine Aq (Aa (Ad (BG BH Ba U H at0 U (Ah qB (QM inner (I.call H.ext) hm hsz) U ?_))));rintro v w ⟨rfl,hx12⟩;replace H:=H.call hx12;refine Ux U U U (show _<=(9223372036854775807:Int)by omega) ?_;rw[show(AY inner L:Int) / 2=((AY inner L / 2:Nat):Int)by omega];refine Ac U (Ac U (Ac U (qA (Ar (AD ?_)))));obtain⟨wb,rfl⟩:=qD w;have hb1:=H.get at0;have hxb:=H.ext;have hnode:∀{z:World},Ext [] wb z->z.heap[b1]?=some (Bl 183 [.bool inner,.slice a n c]):=fun{z} h=>by rw[h.block b1 (Al hb1) (by simp)];exact hb1
  have hRR:∀{z:World},Ext [] wb z->Rd z a 3 Im.enc ms:=fun{z} h=>R.ext0 (hxb.trans h);refine BF 268419120 (α:=Nat) (fun k=>[(4,.int .i64 (AY inner (L.take k):Int)),(5,.int .i64 (k:Int))]) (fun k w'=>k<=n/\Ext [] wb w'/\JR inner (AY inner L / 2) (L.drop k) (AY inner (L.take k))+k=FD inner L) (fun k=>n - k) 0 U ?_ ?_ ?_
  .exact⟨rfl,rfl,trivial⟩
  .exact⟨qak _,.refl _ _,rfl⟩
  .rintro k j w ⟨hk,hxl,hg⟩;have htk:=LR inner L k;refine Ar (Ad (Ae U (Ae U (Bt U U (qA (Au _ U ?_ ?_))))))
   .intro h2;replace h2:=AU h2
    have hkn:k<n:=by
     rcases qbk k n with h3|h3
     .exact h3
     .rw[qa5 (by omega)]at h2;omega
    obtain⟨x,hx1⟩:=AR (l:=ms) (i:=k);have hxL:=Im.at hl hx1;have hxo:=hok x (qad hx1);have hxs:=hsz x.it (qad hxL);have hts:=QL (inner:=inner) hxL;have htk2:=LR inner L (k+1);rw[EI hxL,JR,if_pos (by omega),<-hts]at hg;have hD:=Ext.drew [] w;have hoD:=hxo.call ((hxb.trans hxl).trans hD);refine Aq (Aa (AD (BR [([0,1,2,3,4,5,6],7),([8],9)] (fun z=>Ext [] w z) [] mixed (hD) ?_)));refine AB U U ?_;refine BM U (ON _ BH Ba U U (fun _ hx=>(fun j v hv=>by rw[Ap (hnode (hxl.trans hx)),qa3];exact hv)) ?_);refine AE Bq U (BJ BK U (fun _ hx=>Ap (hnode (hxl.trans hx)) (0+1)) ?_);refine BM U (DS R Br Bh U U ?_);refine ON _ Dd Bh U U (fun _ hx=>(hRR (hxl.trans hx)).row hx1 rfl) (Bm ?_)
    skip
    refine Ah qB (QK inner a n c hoD) U ?_;rintro v w5 ⟨rfl,hx24⟩;have hx5:=hD.trans hx24;refine Ab (Bb (hx5) (AB U U ?_));refine EF U U (Bm (Ac U (Ab (Bb (hx5) (B3 (Av (Ae U (AA U U ?_))))))));refine Ac U (Ab (AF (Aa ?_)));exact⟨k+1,rfl,⟨by show Value.int .i64 _=Value.int .i64 _;congr 1;rw[hts];omega,rfl,trivial⟩,⟨by omega,hxl.trans hx5,by rw[<-hg];omega⟩,by omega⟩
   .intro h2;replace h2:=AV h2
    have hK:FD inner L=k:=by
     have h0:JR inner (AY inner L / 2) (L.drop k) (AY inner (L.take k))=0:=by
      cases hd:L.drop k with
      |nil=>rfl
      |cons x l=>rw[JR,if_neg (by omega)]
     omega
    have hD:=Ext.drew [] w;have H:=(Ctx.start w []).drew;refine B9 (A8 (A8 (Bd (Aa (BR [([0,1,2,3,4,5,6,7,8,9,10,11,12,13],14),([],15)] (fun z=>Ext [] w z) [] mixed (hD) ?_)))));refine AB U U ?_;refine AE Dl U (BJ Gx U (fun _ hx=>Ap (hnode (hxl.trans hx)) (0+0)) ?_);refine AE Bq U (BJ BK U (fun _ hx=>Ap (hnode (hxl.trans hx)) (0+1)) ?_);refine BM U (GC U Br Bh U U ?_);refine HS [.bool inner,.slice a k c] Gp Cb ?_;refine AE Dl U (BJ Gx U (fun _ hx=>Ap (hnode (hxl.trans hx)) (0+0)) ?_);refine AE Bq U (BJ BK U (fun _ hx=>Ap (hnode (hxl.trans hx)) (0+1)) ?_);refine BM U (FG Br Bh U U ?_);refine HS [.bool inner,.slice (Em a c k 3) (n - k) (c - k)] Gp Cb (Bm ?_)
    skip
    refine BQ [.bool inner,.slice a k c,.bool inner,.slice (Em a c k 3) (n - k) (c - k)] Er Ba Cb H ?_;rintro b42 w5 - H;refine Ab (Bb (H.ext) (AB U U ?_));refine Bm (Aj U (Ab (Bb (H.ext) (B3 (Ax (AH (v:=(.slice _ _ _)) U U U ?_))))));have hx5:=(hxb.trans hxl).trans H.ext;have I5:=I.call hx5;have hlt:(L.take k).length=k:=by rw[qa1];omega
    have hld:(L.drop k).length=n - k:=by rw[qbe];omega
    refine⟨some ⟨b42,0,none⟩,2,2,rfl,⟨⟨[(a,L.take k,c),(Em a c k 3,L.drop k,c - k)],Rd.of_bl (r:=[]) (H.get at0) ?_ (fun _ _=>rfl),.inr fun hq=>?_,by rw[hh,hK];rfl,fun m hm=>?_⟩,by rw[hh];rfl⟩,hx5⟩
    .simp[K2,hlt,hld]
    .have:=hM _ hq;have h5:=(H.own _ (qae ..)).elim (fun h=>by cases h) id;have h6:=(hxb.trans hxl).size;dsimp only[adr]at this h5;omega
    .rcases qab.1 hm with rfl|hm
     .have:=I5.take (k:=k) hk;rw[<-hlt]at this
      simpa[hlt]using this
     .rw[qaa.1 hm];have:=I5.drop (k:=k) hk;rw[<-hld]at this
      simpa[hld]using this
theorem Grown.trans{F F' F'':Mut}{w w' w'':World}(h1:Grown F F' w w')(h2:Grown F' F'' w' w''):Grown F F'' w w'':=by
 obtain⟨⟨S1,hS1,hx1⟩,g1⟩:=h1;obtain⟨⟨S2,hS2,hx2⟩,g2⟩:=h2;have hs:=hx1.size;refine⟨⟨S1++S2.filter (fun x=>decide (x<w.heap.size)),fun x hx=>?_,(hx1.mono fun x h=>qa4 _ h).then hx2 fun x h=>?_⟩,fun x h=>?_⟩
 .rcases qau.1 hx with h|h
  .exact hS1 x h
  .have h5:=qbh.1 h;have h6:x<w.heap.size:=by simpa using h5.2
   exact(g1 x (hS2 x h5.1)).elim id fun h7=>by omega
 .by_cases h6:x<w.heap.size
  .exact .inl (qax _ (qbh.2 ⟨h,qam h6⟩))
  .exact .inr (by omega)
 .rcases g2 x h with h|h
  .exact g1 x h
  .exact .inr (by omega)
structure Fo(w:World)(M:Mut)(Y:List (Nat × Obj)):Prop where
 blk:∀y∈Y,w.heap[y.1]?=some y.2
 nd:Y.Pairwise fun x y=>x.1≠y.1
 off:∀y∈Y,¬M y.1
def MY(M:Mut)(Y:List (Nat × Obj)):Mut:=fun x=>M x\/x∈Y.map (·.1)
section
variable {w w':World}{M M':Mut}{Y Y':List (Nat × Obj)}
theorem Fo.nil:Fo w M []:=⟨(fun y h=>by cases h),List.Pairwise.nil,(fun y h=>by cases h)⟩
theorem Fo.call(h:Fo w M Y)(t:Grown M M' w w'):Fo w' M' Y/\Grown (MY M Y) (MY M' Y) w w':=by
 obtain⟨⟨S,hS,hx⟩,g⟩:=t;refine⟨⟨fun y hy=>?_,h.nd,fun y hy h5=>?_⟩,⟨⟨S,fun x hx => .inl (hS x hx),hx⟩,fun x h5=>?_⟩⟩
 .rw[hx.block y.1 (Al (h.blk y hy)) fun h5=>h.off y hy (hS _ h5)];exact h.blk y hy
 .rcases g _ h5 with h6|h6
  .exact h.off y hy h6
  .have:=Al (h.blk y hy);omega
 .rcases h5 with h5|h5
  .exact(g x h5).imp .inl id
  .exact .inl (.inr h5)
theorem Fo.ctx(h:Fo w M Y):Ctx w (Y.map (·.1)) w Y:=Ctx.startL h.blk h.nd
theorem Fo.own(h:Fo w M Y)(hlt:∀x,M x->x<w.heap.size)(H:Ctx w (Y.map (·.1)) w' Y'):Fo w' M Y'/\Grown (MY M Y) (MY M Y') w w':=by
 refine⟨⟨H.blk,H.nd,fun y hy h5=>?_⟩,⟨⟨Y.map (·.1),fun x hx => .inr hx,H.ext⟩,fun x h5=>?_⟩⟩
 .rcases H.own y hy with h6|h6
  .obtain⟨z,hz,he⟩:=qah.1 h6;exact h.off z hz (by rw[he];exact h5)
  .have:=hlt _ h5;omega
 .rcases h5 with h5|h5
  .exact .inl (.inl h5)
  .obtain⟨y,hy,rfl⟩:=qah.1 h5;exact(H.own y hy).imp .inr id
theorem Fo.weak(h:Fo w M Y)(hM:∀x,M' x->M x):Fo w M' Y:=⟨h.blk,h.nd,fun y hy h5=>h.off y hy (hM _ h5)⟩
def MZ(M Z:Mut):Mut:=fun x=>M x\/Z x
theorem Grown.or(t:Grown M M' w w')(Z:Mut):Grown (MZ M Z) (MZ M' Z) w w':=by
 obtain⟨⟨S,hS,hx⟩,g⟩:=t;exact⟨⟨S,fun x h => .inl (hS x h),hx⟩,fun x h=>h.elim (fun h=>(g x h).imp .inl id) fun h => .inl (.inr h)⟩
end
def pv(k:Nat):Value := .int .i64 (k:Int)
def TC:Nat:=188
structure Ch where
 A:Dev
 P:List Nat
 tk:List Nat
 gn:List Nat
abbrev CL(bt bc:Nat)(ta:Option Addr)(tn tc:Nat)(tf:List Value)(ga:Option Addr)(gn gc:Nat)(gf:List Value):List (Nat × Obj) :=
 (bc,Bl TC [ptr bt,.slice ta tn tc,.slice ga gn gc])::(ent ta 3 tf++ent ga 3 gf)
structure Cx(w:World)(bt bd bp ba fr bc:Nat)(c:Ch)(F:Mut)(L:List (Nat × Obj)):Prop where
 T:Tx w bt bd bp ba fr c.A c.P F L
 ex:∃ta tc tf ga gc gf,L=CL bt bc ta c.tk.length tc tf ga c.gn.length gc gf/\OS ta c.tk.length tc 1 tf (c.tk.map pv)/\OS ga c.gn.length gc 1 gf (c.gn.map pv)
def Ht(P:List Nat):Int:=if CF P=P.length then 7 else 0
def Ca(P:List Nat):Nat:=if CF P=P.length then 0 else CF P
def Ie(P:List Nat):List Nat:=if CF P=P.length then P else P.set (CF P) 2
theorem Wa(P:List Nat):Ca P<=P.length:=by
 have:=(qe8 (l:=P) (fun s=>decide (s≠0))).length_le;unfold Ca CF;split <;> omega
theorem Abg{w:World}{bp ba:Nat}{P:List Nat}(h:PgAt w bp ba P):Ret prog 157 #[ptr bp] w fun v w'=>v=.tuple #[.int .i64 (Ca P:Int),.int .i64 (Ht P)]/\PgAt w' bp ba (Ie P)/\Ext [ba] w w' :=
 (Af6 h).mono fun v w' hh=>by
  rcases hh with⟨h1,hv,hp,hx⟩|⟨h1,hv,rfl⟩
  .have hn:¬CF P=P.length:=by omega
   rw[Ca,Ht,Ie,if_neg hn,if_neg hn,if_neg hn];exact⟨hv,hp,hx⟩
  .rw[Ca,Ht,Ie,if_pos h1,if_pos h1,if_pos h1];exact⟨hv,h,.refl _ _⟩
theorem Abh{k:UInt8}{l:Byt}{w w':World}{v:Value}(h:Kw k l w v w'):∃a m c,v=.tuple #[.slice a (List.length m) c,.int .i64 (FW k l)]/\Ext [] w w'/\Rdx w' (Old w) a m/\m.length<=c/\(FW k l=0->m=DC k l):=by
 rcases h with⟨h0,rfl,hx⟩|⟨h0,s,rfl,B⟩
 .exact⟨none,[],0,rfl,hx,Rdx.nil,qaf _,fun h=>absurd h h0⟩
 .obtain⟨a,c,rfl,R,hc,hn⟩:=B.ex;exact⟨a,_,c,by rw[h0],B.ext,Rdx.fresh R (.inr hn),hc,fun _=>rfl⟩
theorem Rd.turnM{w w':World}{M M':Mut}{α:Type}{a:Option Addr}{s:Nat}{enc:α->List Value}{l:List α}(R:Rd w a s enc l)(hs:l=[]\/¬M (adr a).block)(h0:0<s)(he:∀x∈l,(enc x).length=s)(t:Grown M M' w w'):Rd w' a s enc l/\(l=[]\/¬M' (adr a).block):=by
 rcases hs with rfl|hs
 .exact⟨Rd.nil,.inl rfl⟩
 .obtain⟨⟨S,hS,hx⟩,g⟩:=t;refine⟨R.ext hx fun h=>hs (hS _ h),?_⟩
  rcases UO R (hs:=h0) he with h|h
  .exact .inl h
  .exact .inr fun h5=>(g _ h5).elim hs fun h6=>by omega
def IG(inner:Bool)(L:List It):Byt:=DC (Hi inner L) (Hh inner L)
def QP(inner:Bool)(L:List It):Int:=FW (Hi inner L) (Hh inner L)
def FL(L:List It):Byt:=(L[0]?.map (·.key)).getD []
def wrC(fr:Nat)(c:Ch)(inner:Bool)(L:List It):Int × Ch :=
 if Ht c.P≠0 then(Ht c.P,c)
 else if QP inner L≠0 then(QP inner L,{ c with P:=Ie c.P,tk:=c.tk++[Ca c.P] })
 else(De c.A (((fr+Ca c.P:Nat)):Int) (IG inner L),⟨Cw c.A (((fr+Ca c.P:Nat)):Int) (IG inner L),Ie c.P,c.tk++[Ca c.P],c.gn⟩)
theorem Ol{w:World}{bt bd bp ba fr bc:Nat}{c:Ch}{F:Mut}{L:List (Nat × Obj)}(X:Cx w bt bd bp ba fr bc c F L)(hfr:fr<=5000)(inner:Bool){a:Option Addr}{n cc:Nat}{M:List It}(Z:Mut)(I:Its w (MZ (TM F ba bt bp L) Z) a n cc M)(hne:M≠[])(hsz:∀x∈M,x.key.length<=65535/\x.val.length<=65535)(hpg:∀x∈M,x.page<9223372036854775808){mx:Nat}(hfew:Few c.A mx)(htk:c.tk.length<=100000:=by omega)(hm:n<=1000:=by omega)(hmx:mx<=1000000000:=by omega):
  Ret prog 131 #[ptr bc,.agg #[.bool inner,.slice a n cc]] w fun v w'=>∃(m:Im) (F':Mut) (L':List (Nat × Obj)),v=.tuple #[.agg m.enc.toArray,.int .i64 (wrC fr c inner M).1]/\Cx w' bt bd bp ba fr bc (wrC fr c inner M).2 F' L'/\Grown (TM F ba bt bp L) (TM F' ba bt bp L') w w'/\m.Ok w' (MZ (TM F' ba bt bp L') Z)/\m.it.page<=4096/\((wrC fr c inner M).1=0->m.it=⟨FL M,[],Ca c.P⟩):=by
 obtain⟨w0,rfl⟩:=qD w;obtain⟨T,ta,tc,tf,ga,gc,gf,rfl,Ot,Og⟩:=X;obtain⟨wr,hwr⟩:=qD (wrC fr c inner M);rw[<-hwr];unfold wrC at hwr;have hkl:=Wa c.P;have hpl:=T.pg.len;have H:=T.ctx;refine A6 (fn:=f131) func131 U [.pointer (some ⟨bc,0,none⟩),.agg #[.bool inner,.slice a n cc]] U ?_;refine Ad (Co [.bool inner,.slice a n cc] (.agg _) U U H ?_);rintro b3 w - H;refine Be Cr H ?_;rintro b4 w - H;refine Ac U (qA (Ad (An U (Ay U (Af Jd U (AG Jc U H at2 U (Ay U (Af Kr U (Bf JQ U (Ap (T.own H).1.tr (0+1)) ?_)))))))));obtain⟨T1,G1⟩:=T.own H;refine Ah qB (Abg T1.pg) U ?_;rintro v w2 ⟨rfl,hp2,hx2⟩;obtain⟨T2,G2⟩:=T1.page hp2 hx2;have G12:=G1.trans G2;replace H:=T2.ctx;refine AM U (Ag U U (Ag U U (Ac U (Ac U (qA (Ar (Ad (Ae U (AZ U U ?_)))))))));refine qA (Au _ U ?_ ?_)
 .intro h1;replace h1:=Bu h1;rw[if_pos h1]at hwr;have hPP:Ie c.P=c.P:=by unfold Ie Ht at *;split <;> simp_all
  refine Ad (B0 [.slice none 0 0,.slice none 0 0,.int .i64 0] Me Cr ?_);refine Ae U (Bi Bh U U U (by simp[Bg]) H at0 U ?_);rintro w H;refine Ac U (qA (Ax (Ao (Dh U U U Dd Bh H at0 U (show _=(.int _ _)from rfl) ?_))));obtain⟨T3,G3⟩:=T2.own H.tail.tail;rw[hPP]at T3;exact⟨⟨none,0,none,0,⟨[],[],0⟩⟩,F,_,by rw[hwr];rfl,by rw[hwr];exact⟨T3,ta,tc,tf,ga,gc,gf,rfl,Ot,Og⟩,G12.trans G3,⟨Rdx.nil,Rdx.nil,qaf _,qaf _⟩,qak _,fun h=>absurd (by rw[hwr]at h;exact h) h1⟩
 .intro h1;replace h1:=Bv h1;rw[if_neg (by simpa using h1)]at hwr;have hl1:(c.tk++[Ca c.P]).length=c.tk.length+1:=by simp
  refine Aq (Aa (Ad (An U (An U (Ay U (Af Q0 U (AG Jb U H at2 U (Ae U (BP _ (.int _ _) Fv GZ Yb U U U U H ?_)))))))));rintro b30 w - H;replace H:=H.perm ((((List.perm_append_comm.cons _).cons _).cons _).cons _);refine Cf (L:=_::_::_::ent ga 3 gf) Fv Fv GZ by_3 Yb U U U H Ot U (by simp[Bg]) ?_;rintro a31 c31 f31 w H O31;refine Ay U (Af Q0 U (Bc (.slice _ _ _) Q5 U U U H at2 (by(simp;done)) ?_));rintro w H;refine qA (Ad (BG BH Ba U H at1 U ?_));obtain⟨T3,G3⟩:=T2.own H;have G13:=G12.trans G3;have hFlt:=T3.lt;have I3:=(I.weak fun _ h=>Or.inl h).turn G13;refine Ah qB (Af0 inner I3 hm hsz hpg) U ?_;rintro v w4 SP;obtain⟨sa,sm,sc,rfl,hx36,Xm,hmc,hmm⟩:=Abh SP;have T4:=T3.call hx36;have G14:=G13.trans (.call0 hx36);replace H:=T4.ctx
  refine AM U (Ag U U (Ag U U (Aj U (Ac U (qA (Ar (Ad (Ae U (AZ U U ?_)))))))));refine qA (Au _ U ?_ ?_)
  .intro h2;replace h2:=Bu h2;have h2':QP inner M≠0:=h2;rw[if_pos h2']at hwr
   have hO:OS a31 (c.tk++[Ca c.P]).length c31 1 f31 ((c.tk++[Ca c.P]).map pv):=by
    rw[hl1,qaz];exact O31
   refine Ad (B0 [.slice none 0 0,.slice none 0 0,.int .i64 0] Me Cr ?_);refine Ae U (Bi Bh U U U (by simp[Bg]) H at0 U ?_);rintro w H;refine Ac U (qA (Ax (Ao (Dh U U U Dd Bh H at0 U (show _=(.int _ _)from rfl) ?_))));obtain⟨T5,G5⟩:=T4.own (H.tail.tail.perm (List.perm_append_comm.cons _));refine⟨⟨none,0,none,0,⟨[],[],0⟩⟩,F,_,by rw[hwr];rfl,?_,G14.trans G5,⟨Rdx.nil,Rdx.nil,qaf _,qaf _⟩,qak _,fun h=>absurd (by rw[hwr]at h;exact h) h2'⟩;rw[hwr];exact⟨T5,a31,c31,f31,ga,gc,gf,by rw[hl1];rfl,hO,Og⟩
  .intro h2;replace h2:=Bv h2;have h2':¬QP inner M≠0:=fun h=>h h2;rw[if_neg h2']at hwr;have hmm':sm=IG inner M:=hmm h2
   have hO:OS a31 (c.tk++[Ca c.P]).length c31 1 f31 ((c.tk++[Ca c.P]).map pv):=by
    rw[hl1,qaz];exact O31
   obtain⟨ms,R,hs,hl,hok⟩:=I.ex;have hs:ms=[]\/¬TM F ba bt bp _ (adr a).block:=hs.imp id fun h h5=>h (Or.inl h5);have hml:ms.length=n:=by rw[I.num,<-hl,qal]
   have hMp:0<M.length:=qbv.2 hne;have hnum:=I.num;obtain⟨x,hx0⟩:=AR (l:=ms) (i:=0);have hxL:=Im.at hl hx0;have hk0:FL M=x.it.key:=by unfold FL;rw[hxL];rfl
   obtain⟨R4,hs4⟩:=Rd.turnM R hs (by decide) (fun _ _=>rfl) G14;have R4d:=R4.ext0 (Ext.drew [] w4);have G1d:=G14.trans (.call0 (Ext.drew [] w4));have T4d:=T4.call (Ext.drew [] w4);have hbc:w4.heap[bc]?=some (Bl TC [ptr bt,.slice a31 (c.tk.length+1) c31,.slice ga c.gn.length gc]):=H.get at2;have hb3:w4.heap[b3]?=some (Bl 183 [.bool inner,.slice a n cc]):=H.get at1;have hbt:=T4.tr;have hcell:=R4.fld hx0 rfl (j:=0) rfl
   have hbl:(Hh inner M).length<=505:=by
    unfold QP FW at h2'
    by_cases h5:505<(Hh inner M).length
    .rw[qam h5]at h2';exact absurd (by cases decide ((Hi inner M).toNat=0) <;> simp) h2'
    .omega
   have hsl:sm.length=512:=by rw[hmm'];exact Fb hbl
   refine Aq (Aa (BR [([0,1,2,3,4,5,6,7,8,9,10,11,12,13,14,15,16,17,18,19,20,21,22,23],24),([],25),([],26)] (fun z=>z.heap[bc]?=some (Bl TC [ptr bt,.slice a31 (c.tk.length+1) c31,.slice ga c.gn.length gc])/\z.heap[b3]?=some (Bl 183 [.bool inner,.slice a n cc])/\z.heap[bt]?=some (Bl TT (Pa bd bp fr))/\z.cell? ⟨(adr a).block,(adr a).off+0*3+0,none⟩=some (.slice x.ka x.it.key.length x.kc)) [] mixed (⟨hbc,hb3,hbt,hcell⟩) ?_));refine AB U U (AE Bq U (BJ BK U (fun _ hx=>Ap hx.2.1 (0+1)) ?_));refine DS R4 Br Bh U U (AE EZ U (BJ BL U (fun _ hx=>hx.2.2.2) ?_));refine BM U (HS [.slice x.ka x.it.key.length x.kc,.slice none 0 0,.int .i64 (Ca c.P:Int)] Me Cr ?_);refine CE U (Bn U (AE Jd U (BJ Jc U (fun _ hx=>Ap hx.1 (0+0)) ?_)))
   refine Bn U (AE VC U (BJ CY U (fun _ hx=>Ap hx.2.2.1 (0+0)) ?_));refine CE U (Bn U (AE Jd U (BJ Jc U (fun _ hx=>Ap hx.1 (0+0)) ?_)));refine Bn U (AE VD U (BJ DU U (fun _ hx=>Ap hx.2.2.1 (0+2)) ?_));refine BM U (EF U U ?_);rw[show(fr:Int)+(Ca c.P:Int)=((fr+Ca c.P:Nat):Int)by omega];refine Cg U (Bm ?_)
   skip
   refine Ah qB (Ob ((fr+Ca c.P:Nat):Int) sa sc _ sm (Xm.1.ext0 (Ext.drew [] w4)) U (hm:=by omega) (Xm.2.imp id fun h hf=>h (hFlt _ hf)) hfew T4d.dev) U ?_;rintro v w5 ⟨rfl,hd5,ht5⟩;obtain⟨T5,G5⟩:=T4d.devs hd5 ht5 (fun x hx=>hx);obtain⟨R5,hs5⟩:=Rd.turnM R4d hs4 (by decide) (fun _ _=>rfl) G5;replace H:=T5.ctx;have G15:=G1d.trans G5;refine Ab (Bb (⟨T5.ctx.get at2,T5.ctx.get at1,T5.tr,R5.fld hx0 U (j:=0) rfl⟩) (AB U U ?_));refine Bm (Bi Bh U U U (by simp[Bg]) H at0 U ?_);rintro w H;refine Ab (Bb (⟨H.get at2,H.get at1,(T5.own H).1.tr,(Rd.turnM R5 hs5 (by decide) (fun _ _=>rfl) (T5.own H).2).1.fld hx0 U (j:=0) rfl⟩) ?_);refine AB U U (Bm (Ac U (Ab (Bb (⟨H.get at2,H.get at1,(T5.own H).1.tr,(Rd.turnM R5 hs5 (by decide) (fun _ _=>rfl) (T5.own H).2).1.fld hx0 U (j:=0) rfl⟩) ?_))));refine B3 (Ax (Dh U U U Dd Bh H at0 U (show _=(.int _ _)from rfl) ?_))
   obtain⟨T6,G6⟩:=T5.own (H.tail.tail.perm (List.perm_append_comm.cons _));have G16:=G15.trans G6;have hxo:=(hok x (qad hx0)).turn (G16.or Z);refine⟨⟨x.ka,x.kc,none,0,⟨x.it.key,[],Ca c.P⟩⟩,_,_,by rw[hwr,hmm'];rfl,?_,G16,⟨hxo.k,Rdx.nil,hxo.kc,qaf _⟩,by dsimp only;omega,fun _=>by rw[hk0]⟩;rw[hwr];rw[hmm']at T6;exact⟨T6,a31,c31,f31,ga,gc,gf,by rw[hl1];rfl,hO,Og⟩
def rdC(fr:Nat)(c:Ch)(page depth:Nat):Ch:=if(Dc c.A fr c.P.length (page:Int) (depth:Int)).1=0 then{ c with gn:=c.gn++[page] }else c
theorem Wb{w:World}{bt bd bp ba fr bc:Nat}{c:Ch}{F:Mut}{L:List (Nat × Obj)}(X:Cx w bt bd bp ba fr bc c F L)(hfr:fr<=5000)(page depth:Nat){mx:Nat}(hfew:Few c.A mx)(hgn:c.gn.length<=100000:=by omega)(hp:page<=9223372036854775807:=by omega)(hmx:mx<=1000000000:=by omega):
  Ret prog 201 #[ptr bc,.int .i64 (page:Int),.int .i64 (depth:Int)] w fun v w'=>∃(inner:Bool) (a:Option Addr) (n cc:Nat) (L':List (Nat × Obj)),v=.tuple #[.agg #[.bool inner,.slice a n cc],.int .i64 (Dc c.A fr c.P.length (page:Int) (depth:Int)).1]/\Cx w' bt bd bp ba fr bc (rdC fr c page depth) F L'/\Grown (TM F ba bt bp L) (TM F ba bt bp L') w w' /\
   ∀i M,(Dc c.A fr c.P.length (page:Int) (depth:Int)).2=some (i,M)->inner=i/\Its w' (MZ (TM F ba bt bp L') (Old w)) a n cc M/\∀x∈M,x.key.length<=505/\x.val.length<=505/\x.page<4294967296:=by
 obtain⟨w0,rfl⟩:=qD w;obtain⟨T,ta,tc,tf,ga,gc,gf,rfl,Ot,Og⟩:=X;have H:=T.ctx;obtain⟨rt,hrt⟩:=qD (Dc c.A fr c.P.length (page:Int) (depth:Int));have hc2:rdC fr c page depth=if rt.1=0 then{ c with gn:=c.gn++[page] }else c:=by rw[hrt];rfl
 refine A6 (fn:=f201) func201 U [.pointer (some ⟨bc,0,none⟩),.int .i64 (page:Int),.int .i64 (depth:Int)] U ?_;refine Ad (Be Cb H ?_);rintro b6 w - H;refine Ac U (qA (Ad (An U (Ay U (Af Jd U (AG Jc U H at1 U (Ae U (Ae U ?_))))))));obtain⟨T1,G1⟩:=T.own H;have hml:=T1.mlt;have hsz:=H.ext.size;refine Ah qB (QN T1 hfr (page:Int) (depth:Int) (by omega) hfew hmx) U ?_;rintro v w2 ⟨inner,aa,nn,cc,rfl,hx17,hits⟩;have T2:=T1.call hx17;have G12:=G1.trans (.call0 hx17);rw[<-hrt]at hits;rw[<-hrt];replace H:=T2.ctx;refine AM U (Ag U U (Ag U U (Be Cb H ?_)));rintro b8 w - H;refine Bi Ba U U U (by simp[Bg]) H at0 U ?_;rintro w H;refine Ac U (qA (Ar (Ad (Ae U (B1 U U (qA (Au _ U ?_ ?_)))))))
 .intro h1;replace h1:=AU h1;rw[if_pos h1]at hc2;have hl1:(c.gn++[page]).length=c.gn.length+1:=by simp
  refine Av (An U (An U (Ay U (Af Q1 U (AG Jb U H at2 U (Ae U (BP _ (.int _ _) Fv GZ Yb U U U U H ?_)))))));rintro b28 w - H;refine Cf (L:=_::_::_::ent ta 3 tf) Fv Fv GZ by_3 Yb U U U H Og U (by simp[Bg]) ?_;rintro a29 c29 f29 w H O29;refine Ay U (Af Q1 U (Bc (.slice _ _ _) Q5 U U U H at2 (by(simp;done)) ?_));rintro w H;refine qA (Ad (BG BH Ba U H at0 U (Ae U (Bi Ba U U U (by simp[Bg]) H at1 U ?_))));rintro w H;refine Ac U (qA (Ax (Dh U U U BH Ba H at1 U (show _=(.int _ _)from rfl) ?_)))
  have hO:OS a29 (c.gn++[page]).length c29 1 f29 ((c.gn++[page]).map pv):=by
   rw[hl1,qaz];exact O29
  obtain⟨T5,G5⟩:=T2.own H.tail.tail;have G15:=G12.trans G5;refine⟨inner,aa,nn,cc,_,rfl,?_,G15,fun i M h=>?_⟩
  .rw[hc2];exact⟨T5,ta,tc,tf,a29,c29,f29,by rw[hl1];rfl,Ot,hO⟩
  .obtain⟨h5,h6,h7⟩:=hits i M h;exact⟨h5,(h6.weak (M':=MZ _ (Old w0)) fun x h=>h.elim (hml x) fun h=>qat h hsz).turn (G5.or _),h7⟩
 .intro h1;replace h1:=AV h1;rw[if_neg h1]at hc2;refine Aq (Aa (Ad (BG BH Ba U H at0 U (Ae U (Bi Ba U U U (by simp[Bg]) H at1 U ?_)))));rintro w H;refine Ac U (qA (Ax (Dh U U U BH Ba H at1 U (show _=(.int _ _)from rfl) ?_)));obtain⟨T5,G5⟩:=T2.own H.tail.tail;have G15:=G12.trans G5;refine⟨inner,aa,nn,cc,_,rfl,?_,G15,fun i M h=>?_⟩
  .rw[hc2];exact⟨T5,ta,tc,tf,ga,gc,gf,rfl,Ot,Og⟩
  .obtain⟨h5,h6,h7⟩:=hits i M h;exact⟨h5,(h6.weak (M':=MZ _ (Old w0)) fun x h=>h.elim (hml x) fun h=>qat h hsz).turn (G5.or _),h7⟩
def Cs(fr:Nat)(inner:Bool):List (List It)->Ch->List It->Int × Ch × List It
 | [],c,acc=>(0,c,acc)
 |h::t,c,acc=>if(wrC fr c inner h).1=0 then Cs fr inner t (wrC fr c inner h).2 (acc++[⟨FL h,[],Ca c.P⟩])else((wrC fr c inner h).1,(wrC fr c inner h).2,[])
def IR(fr:Nat)(c:Ch)(inner:Bool)(L:List It):Int × Ch × List It:=if L=[]then(0,c,[])else Cs fr inner (Du inner L) c []
theorem PC{fr:Nat}{c:Ch}{inner:Bool}{M:List It}{m:Nat}(h:Few c.A m):Few (wrC fr c inner M).2.A (m+1):=by
 unfold wrC
 split
 .exact h.mono (by omega)
 .split
  .exact h.mono (by omega)
  .exact GI h _ _
theorem QQ{fr:Nat}{c:Ch}{inner:Bool}{M:List It}:(wrC fr c inner M).2.tk.length<=c.tk.length+1:=by
 unfold wrC
 split
 .exact qc8 _
 .split
  .rw[qan];exact qaf _
  .rw[qan];exact qaf _
theorem Tx.side{w w':World}{bt bd bp ba fr:Nat}{A:Dev}{P:List Nat}{F:Mut}{L:List (Nat × Obj)}{S:List Nat}(T:Tx w bt bd bp ba fr A P F L)(hx:Ext S w w')(hS:∀x∈S,¬TM F ba bt bp L x):Tx w' bt bd bp ba fr A P F L:=by
 have hs:=hx.size;refine⟨?_,T.pg.keep hx (fun h=>hS _ h (.inr (.inr (.inr (.inl rfl))))) (fun h=>hS _ h (.inr (.inl rfl))),T.dev.keep hx fun x h hf=>hS x h (.inl hf),fun x hm=>?_,T.nd,T.off,T.nbt,T.nbp,T.nba,fun x h=>by have:=T.lt x h;omega⟩
 .rw[hx.block bt (Al T.tr) fun h=>hS _ h (.inr (.inr (.inl rfl)))];exact T.tr
 .rw[hx.block x.1 (Al (T.blk x hm)) fun h=>hS _ h (.inr (.inr (.inr (.inr (qah.2 ⟨x,hm,rfl⟩)))))];exact T.blk x hm
theorem Cx.side{w w':World}{bt bd bp ba fr bc:Nat}{c:Ch}{F:Mut}{L:List (Nat × Obj)}{Y:List (Nat × Obj)}(X:Cx w bt bd bp ba fr bc c F L)(O:Fo w (TM F ba bt bp L) Y)(hx:Ext (Y.map (·.1)) w w'):Cx w' bt bd bp ba fr bc c F L :=
 ⟨X.T.side hx fun x h=>by obtain⟨y,hy,rfl⟩:=qah.1 h;exact O.off y hy,X.ex⟩
theorem QR{inner:Bool}{L h:List It}(hh:h∈Du inner L):h.length<=L.length/\∀x∈h,x∈L:=by
 unfold Du at hh
 split at hh
 .rw[qaa.1 hh];exact⟨qaf _,fun _ h=>h⟩
 .simp only[qab,qaj,or_false]at hh
  rcases hh with rfl|rfl
  .exact⟨by simp;omega,fun x h=>qbs h⟩
  .exact⟨by simp,fun x h=>qc0 h⟩
theorem QS(inner:Bool)(L:List It):(Du inner L).length<=2:=by
 unfold Du
 split <;> simp
theorem MY.le{M:Mut}{Y:List (Nat × Obj)}:∀x,M x->MY M Y x:=fun _ h => .inl h
theorem Fo.lt{w:World}{M:Mut}{Y:List (Nat × Obj)}(O:Fo w M Y)(hlt:∀x,M x->x<w.heap.size):∀x,MY M Y x->x<w.heap.size:=fun x h=>by
 rcases h with h|h
 .exact hlt x h
 .obtain⟨y,hy,rfl⟩:=qah.1 h;exact Al (O.blk y hy)
structure PS where
 i:Nat
 a:Option Addr
 c:Nat
 full:List Value
 ms:List Im
 F:Mut
 L:List (Nat × Obj)
 ch:Ch
theorem MYZ{M Z:Mut}{Y:List (Nat × Obj)}:∀x,MZ M (MY Z Y) x->MY (MZ M Z) Y x:=fun _ h=>h.elim (fun h => .inl (.inl h)) fun h=>h.elim (fun h => .inl (.inr h)) .inr
theorem Abi{M Z:Mut}{Y:List (Nat × Obj)}:∀x,MY (MZ M Z) Y x->MZ M (MY Z Y) x:=fun _ h=>h.elim (fun h=>h.elim .inl fun h => .inr (.inl h)) fun h => .inr (.inr h)
theorem MY.nil{M:Mut}:∀x,MY M [] x->M x:=fun x h=>h.elim id fun h=>by cases h
theorem Grown.side{w0 w w':World}{M M':Mut}{S:List Nat}(t:Grown M M' w0 w)(hx:Ext S w w')(hy:∀y∈S,w0.heap.size<=y):Grown M M' w0 w':=by
 obtain⟨⟨S,hS,h1⟩,g⟩:=t;exact⟨⟨S,hS,h1.then hx fun y h => .inr (hy y h)⟩,g⟩
theorem Af9(inner:Bool)(x:SN):∀v∈K2 inner x,Bg v=true:=fun v hv=>by
 simp only[K2,qab,qaj,or_false]at hv
 rcases hv with rfl|rfl <;> rfl
theorem Ny{w0 w w':World}{Y Y':List (Nat × Obj)}(h:∀y∈Y.map (·.1),w0.heap.size<=y)(hle:w0.heap.size<=w.heap.size)(H:Ctx w (Y.map (·.1)) w' Y'):∀y∈Y'.map (·.1),w0.heap.size<=y:=fun y hy=>by
 obtain⟨z,hz,rfl⟩:=qah.1 hy;exact(H.own z hz).elim (h _) fun h5=>by omega
abbrev PY(b3:Nat)(inner:Bool)(a:Option Addr)(n cc:Nat)(s:PS):List (Nat × Obj) :=
 (b3,Bl 183 [.bool inner,.slice a n cc])::ent s.a 185 s.full
theorem Z2{w:World}{bt bd bp ba fr bc:Nat}{c:Ch}{F:Mut}{L:List (Nat × Obj)}(X:Cx w bt bd bp ba fr bc c F L)(hfr:fr<=5000)(htk:c.tk.length<=99990)(inner:Bool){a:Option Addr}{n cc:Nat}{M:List It}(Z:Mut)(hZ:∀x,Z x->x<w.heap.size)(I:Its w (MZ (TM F ba bt bp L) Z) a n cc M)(hsz:∀x∈M,x.key.length<=65535/\x.val.length<=65535)(hpg:∀x∈M,x.page<9223372036854775808)(hne:M≠[]->∀h∈Du inner M,h≠[]){mx:Nat}(hfew:Few c.A mx)(hm:n<=1000:=by omega)(hmx:mx<=999999990:=by omega):
  Ret prog 202 #[ptr bc,.agg #[.bool inner,.slice a n cc]] w fun v w'=>∃(a':Option Addr) (n' c':Nat) (F':Mut) (L':List (Nat × Obj)),v=.tuple #[.slice a' n' c',.int .i64 (IR fr c inner M).1]/\Cx w' bt bd bp ba fr bc (IR fr c inner M).2.1 F' L'/\Grown (TM F ba bt bp L) (TM F' ba bt bp L') w w'/\Its w' (MZ (TM F' ba bt bp L') Z) a' n' c' (IR fr c inner M).2.2:=by
 obtain⟨w0,rfl⟩:=qD w;have hnum:=I.num;have hlt0:∀x,MZ (TM F ba bt bp L) Z x->x<w0.heap.size:=fun x h=>h.elim (X.T.mlt x) (hZ x);obtain⟨pc,hpc⟩:=qD (IR fr c inner M);rw[<-hpc];unfold IR at hpc;have H:=Ctx.start w0 [];refine A6 (fn:=f202) func202 U [.pointer (some ⟨bc,0,none⟩),.agg #[.bool inner,.slice a n cc]] U ?_;refine Ad (Co [.bool inner,.slice a n cc] (.agg _) U U H ?_);rintro b3 w - H;refine Aj U (Ac U (qA (Ar (Ad (Af Bq U (AG BK U H at0 U (AO Br U (B1 U U (qA ?_)))))))));refine Au _ U ?_ ?_
 .intro h1;replace h1:=AU h1;have hM0:M=[]:=qa9 (by omega);rw[if_pos hM0]at hpc;refine Ad (Aj U (Ac U (qA (Ax (Ao (Ce (v1:=(.slice _ _ _)) (v2:=(.int _ _)) U U U U ?_))))));have hx0:=H.ext;obtain⟨O1,G1⟩:=Fo.nil.own hlt0 H;exact⟨none,0,0,F,L,by rw[hpc],by rw[hpc];exact X.side Fo.nil H.ext,.call0 H.ext,by rw[hpc];exact Its.nil⟩
 .intro h1;replace h1:=AV h1;have hM0:M≠[]:=fun h=>h1 (by have h5:=qac List.length h;rw[qbw]at h5;omega);rw[if_neg hM0]at hpc;replace hne:=hne hM0;refine Aq (Aa (Ar (Ad (BG BH Ba U H at0 U ?_))));obtain⟨O1,G1⟩:=Fo.nil.own hlt0 H;have X1:=X.side Fo.nil H.ext;have hyo2:=Ny (w0:=w0) (Y:=[]) (fun y h=>by cases h) (qaf _) H;have hsz1:=H.ext.size;have GT1:Grown (TM F ba bt bp L) (TM F ba bt bp L) w0 w := .call0 H.ext;refine Ah qB (Abf (O1.lt fun x h=>h.elim (X1.T.mlt x) fun h=>qat (hZ x h) hsz1) inner ((I.weak MY.nil).turn G1) hsz) U ?_;rintro v w2 ⟨an,nn,cn,rfl,N,hx2⟩;obtain⟨ms,R,hs,hl,hok⟩:=N.ex;have hnn:=N.num;have h2:=QS inner M;have hml:ms.length=nn:=by rw[hnn,<-hl,qal]
  obtain⟨O2,G2⟩:=O1.call (.call0 hx2);have X2:=X1.side Fo.nil hx2;have hsz2:=qas hsz1 hx2.size;replace H:=O2.ctx
  refine AO Er U (Ae U (qA (AD (BF 34359608240 (α:=PS) (fun s=>[(17,.int .i64 (s.i:Int)),(4,.slice s.a s.ms.length s.c)]) (fun s w'=>s.i<=nn/\Cx w' bt bd bp ba fr bc s.ch s.F s.L/\Fo w' (MZ (TM s.F ba bt bp s.L) Z) (PY b3 inner a n cc s)/\Nds w' (MY (MZ (TM s.F ba bt bp s.L) Z) (PY b3 inner a n cc s)) inner an nn cn (Du inner M)/\OS s.a s.ms.length s.c 3 s.full (s.ms.flatMap Im.enc)/\(∀m∈s.ms,m.Ok w' (MY (MZ (TM s.F ba bt bp s.L) Z) (PY b3 inner a n cc s)))/\Grown (TM F ba bt bp L) (TM s.F ba bt bp s.L) w0 w'/\pc=Cs fr inner ((Du inner M).drop s.i) s.ch (s.ms.map (·.it))/\Few s.ch.A (mx+s.i)/\s.ch.tk.length<=c.tk.length+s.i/\s.ms.length=s.i/\(∀y∈(PY b3 inner a n cc s).map (·.1),w0.heap.size<=y)/\w0.heap.size<=w'.heap.size) (fun s=>nn - s.i) ⟨0,none,0,[],[],F,L,c⟩ U ?_ ?_ ?_))))
  .exact⟨rfl,rfl,trivial⟩
  .exact⟨qak _,X2,O2,N,OS.nil,(fun m h=>by cases h),GT1.trans (.call0 hx2),hpc,hfew,qaf _,rfl,hyo2,hsz2⟩
  .rintro⟨i,a4,c4,f4,qs,F1,L1,c1⟩ j w ⟨hi,X3,O3,N3,OA,hqo,GT3,hpc3,hfew3,htk3,hqi,hyo,hsz3⟩;dsimp only at hi X3 O3 N3 OA hqo GT3 hpc3 hfew3 htk3 hqi hyo hsz3;dsimp only;obtain⟨ns,R3,hs3,hl3,hok3⟩:=N3.ex;have hnl:ns.length=nn:=by rw[hnn,<-hl3,qal]
   have H:=O3.ctx;refine Ad (Bt U U (qA (Ar (Au _ U ?_ ?_))))
   .intro h3;replace h3:=AU h3;obtain⟨x,hx1⟩:=AR (l:=ns) (i:=i);have hxL:(Du inner M)[i]?=some x.2.1:=by rw[<-hl3,qav,hx1];rfl
    have hxm:=qad hxL;obtain⟨hx2,hx3⟩:=QR hxm;have Ix:=hok3 x (qad hx1);rw[EI hxL,Cs]at hpc3;refine Aq (Aa (Ar (AD (Ad (Bj R Er Ba U U ?_)))));refine EL (K2 inner x) BH Ba U U (R3.row hx1 U) (Be Cb H ?_);rintro b7 w - H;refine Bi Ba U U U (by exact(by exact Af9 _ _)) H at0 U ?_;rintro w H;refine qA (Ad (An U (BG BH Ba U H at0 U ?_)));obtain⟨O4,G4⟩:=O3.own (fun x h=>h.elim (X3.T.mlt x) fun h=>qat (hZ x h) hsz3) H;have X4:=X3.side (O3.weak fun _ h => .inl h) H.ext;have GT4:=GT3.side H.ext hyo;have hyo4:=Ny hyo hsz3 H;have Iy:=Ix.turn G4;refine Ah qB (Ol X4 hfr inner (MY Z _) (Iy.weak MYZ) (hne _ hxm) (fun y hy=>hsz y (hx3 y hy)) (fun y hy=>hpg y (hx3 y hy)) hfew3) U ?_;rintro v w5 ⟨m,F5,L5,rfl,X5,G5,hmo,hmp,hmi⟩;have hmo:=hmo.weak Abi
    obtain⟨O5,GY5⟩:=O4.call (G5.or Z);have GT5:=GT4.trans G5;have GY:=G4.trans GY5;replace H:=O5.ctx;refine AM U (Ag U U (Ag U U (Be Cr H ?_)));rintro b8 w - H;refine Bi Bh U U U (by exact(by exact Im.oneE _)) H at0 U ?_;rintro w H;refine Ac U (qA (Ar (Ad (Ae U (AZ U U (qA (Au _ U ?_ ?_)))))))
    .intro h4;replace h4:=Bu h4;rw[if_neg (show ¬(wrC fr c1 inner x.2.1).1=0 from h4)]at hpc3;refine Ad (Ae U (Aj U (Ac U (qA (Ax (Ao (AL (Ao (Ao (AL (Ao (Ce (v1:=(.slice _ _ _)) (v2:=(.int _ _)) U U U U ?_))))))))))));exact⟨none,0,0,F5,L5,by rw[hpc3],by rw[hpc3];exact X5.side (O5.weak fun _ h => .inl h) H.ext,GT5.side H.ext hyo4,by rw[hpc3];exact Its.nil⟩
    .intro h4;replace h4:=Bv h4;have h5:(wrC fr c1 inner x.2.1).1=0:=by simpa using h4
     rw[if_pos h5]at hpc3;have hmi':=hmi h5;refine Aq (Aa (Av (Ai U (BG Dd Bh U H at0 U (BP _ (.agg _) Br Bh Cr U U U U H ?_)))));rintro b32 w - H;refine Cf (L:=[_,_,_]) Br Br Bh J8 Cr U U U H OA U (Im.oneE m) ?_;rintro a33 c33 f33 w H OB;refine Aj U (Ab (AF (Aa (Av (AA U U ?_)))));refine Ae U (qA ?_);have H6:=H.tail.tail;have hsz5:w0.heap.size<=w5.heap.size:=GT5.1.choose_spec.2.size;obtain⟨O6,G6⟩:=O5.own (fun x h=>h.elim (X5.T.mlt x) fun h=>qat (hZ x h) hsz5) H6;have GG:=GY.trans G6;have hql:(qs++[m]).length=qs.length+1:=by simp
     refine⟨⟨i+1,a33,c33,f33,qs++[m],F5,L5,(wrC fr c1 inner x.2.1).2⟩,rfl,⟨rfl,by rw[hql];rfl,trivial⟩,⟨by dsimp only;omega,X5.side (O5.weak fun _ h => .inl h) H6.ext,O6,N3.turn GG,by dsimp only;rw[hql,qbp];simpa using OB,fun q hq=>?_,GT5.side H6.ext hyo4,?_,by dsimp only;exact(PC hfew3).mono (by omega),by dsimp only;have:=QQ (fr:=fr) (c:=c1) (inner:=inner) (M:=x.2.1);omega,by dsimp only;rw[hql,hqi],Ny hyo4 hsz5 H6,qas hsz5 H6.ext.size⟩,by dsimp only;omega⟩
     .dsimp only at hq |-
      rcases qau.1 hq with hq|hq
      .exact(hqo q hq).turn GG
      .rw[qaa.1 hq];exact hmo.turn G6
     .dsimp only;rw[hpc3,qaz,<-hmi'];rfl
   .intro h3;replace h3:=AV h3;have hii:i=nn:=by omega
    rw[qbx (by omega),Cs]at hpc3;have Rm:=OS.rd OA (fun y hy=>O3.blk y (qag _ hy)) (fun _ _=>rfl) (by decide);refine B9 (A8 (A8 (Bd (Aa (Ad (Ai U (Aj U (Ac U (qA (Ax (Ce (v1:=(.slice _ _ _)) (v2:=(.int _ _)) U U U U ?_)))))))))));refine⟨a4,qs.length,c4,F1,L1,by rw[hpc3],by rw[hpc3];exact X3,GT3,?_⟩;rw[hpc3];refine⟨⟨qs,Rm,?_,rfl,fun m hm=>(hqo m hm).weak MY.le⟩,by simp,OA.le⟩
    cases ha4:a4 with
    |none=>exact .inl (qa9 (by have h8:=OA.le;have h9:=OA.none' ha4;omega))
    |some q =>
     subst ha4;exact .inr fun h=>O3.off (q.block,_) (qag _ (qaa.2 rfl)) h
def RD(A:Dev)(fr:Nat)(p:Nat):Option (Bool × List It):=DZ (stands (A.B.getD (fr+p) (zeros,[])))
theorem Wc{A:Dev}{q:Nat}(hon:A.on=true)(hq:q<A.B.length):Gc A (q:Int)=0:=by
 have:A.has (q:Int)=true:=by
  unfold Dev.has;rw[qam (by omega),qam (by omega)];rfl
 unfold Gc;rw[hon,this];rfl
theorem Aga{A:Dev}{q:Nat}(hon:A.on=true)(hq:q<A.B.length:=by omega):Gd A (q:Int)=stands (A.B.getD q (zeros,[])):=by
 unfold Gd;rw[Wc hon hq,qbm];rfl
theorem K3{A:Dev}{fr sz p d:Nat}{n:Bool × List It}(hon:A.on=true)(hp:p<sz)(hl:fr+sz<=A.B.length)(hd:d<=16)(h:RD A fr p=some n):Dc A fr sz (p:Int) (d:Int)=(0,some n):=by
 unfold Dc;rw[if_neg (by omega)];rw[show(fr:Int)+(p:Int)=((fr+p:Nat):Int)by omega,Wc hon (by omega),Aga hon,if_pos rfl];unfold RD at h;rw[h]
structure Fits(inner:Bool)(M:List It):Prop where
 ne:M≠[]
 ok:∀x∈M,OkI inner x
 sz:AY inner M<=503
theorem Fits.seal{inner:Bool}{M:List It}(h:Fits inner M):QP inner M=0/\(IG inner M).length=512/\DZ (IG inner M)=some (inner,M):=by
 have hb:=Lm inner M;have hz:=h.sz;have hk:(Hi inner M).toNat≠0:=by unfold Hi;split <;> decide
 refine⟨?_,Fb (by omega),Yg h.ok h.ne h.sz⟩;unfold QP FW;rw[qai hk,qai (by omega)];rfl
theorem Yq{P:List Nat}(h:CF P<P.length):P[CF P]?=some 0:=by
 unfold CF at *
 have h2:∀(P:List Nat),(P.takeWhile fun s=>decide (s≠0)).length<P.length->P[(P.takeWhile fun s=>decide (s≠0)).length]?=some 0:=by
  intro P
  induction P with
  |nil=>intro h;cases h
  |cons s P ih =>
   intro h
   by_cases hs:s=0
   .subst hs;rfl
   .rw[qcy,qam hs]at h |-;simp only[if_true,qaw]at h |-;rw[qe5];exact ih (by omega)
 exact h2 P h
theorem Yr{P:List Nat}(h:CF P=P.length):Dn P=0:=by
 have h2:∀(P:List Nat),(P.takeWhile fun s=>decide (s≠0)).length=P.length->Dn P=0:=by
  intro P
  induction P with
  |nil=>intro _;rfl
  |cons s P ih =>
   intro h
   by_cases hs:s=0
   .subst hs;simp at h
   .rw[qcy,qam hs]at h;simp only[if_true,qaw]at h;unfold Dn;rw[qeh,qai hs];have:=ih (by omega);unfold Dn at this;simp[this]
 exact h2 P h
theorem Agb(P:List Nat):CF P<=P.length:=(qe8 (l:=P) (fun s=>decide (s≠0))).length_le
theorem Agc{P:List Nat}:∀{k s:Nat},P[k]?=some 0->s≠0->Dn (P.set k s)+1=Dn P:=by
 unfold Dn
 induction P with
 |nil=>intro k s h;simp at h
 |cons x P ih =>
  intro k s h hs
  cases k with
  |zero =>
   simp only[qc1,qbc]at h;subst h;rw[qew,qeh,qeh,qai hs];simp
  |succ k =>
   rw[List.set_cons_succ,qeh,qeh];have:=ih (k:=k) (s:=s) (by simpa using h) hs;omega
theorem Abj{A:Dev}(h:A.left = -1):A.less=A:=by
 unfold Dev.less;rw[if_neg (by omega),if_pos h]
structure CI(fr:Nat)(c0 c:Ch)(t g:List Nat):Prop where
 tk:c.tk=c0.tk++t
 gn:c.gn=c0.gn++g
 nd:t.Nodup
 was:∀x∈t,c0.P[x]?=some 0
 now:∀x:Nat,c.P[x]?=if x∈t then some 2 else c0.P[x]?
 len:c.P.length=c0.P.length
 blen:c.A.B.length=c0.A.B.length
 blk:∀q,(∀x∈t,q≠fr+x)->c.A.B.getD q (zeros,[])=c0.A.B.getD q (zeros,[])
 left:c0.A.left = -1->c.A.left = -1
 free:Dn c.P+t.length=Dn c0.P
section
variable {fr:Nat}{c0 c c1 c2:Ch}{t t' g g':List Nat}
theorem CI.refl(fr:Nat)(c:Ch):CI fr c c [] []:=⟨by simp,by simp,qb9,by simp,by simp,rfl,rfl,fun _ _=>rfl,fun h=>h,rfl⟩
theorem CI.trans(h1:CI fr c0 c1 t g)(h2:CI fr c1 c2 t' g'):CI fr c0 c2 (t++t') (g++g'):=by
 have hd:∀x∈t',x∉t:=fun x h3 h4=>by
  have h5:=h2.was x h3;rw[h1.now x,if_pos h4]at h5;cases h5
 refine⟨by rw[h2.tk,h1.tk,qa0],by rw[h2.gn,h1.gn,qa0],?_,fun x hx=>?_,fun x=>?_,h2.len.trans h1.len,h2.blen.trans h1.blen,fun q hq=>?_,fun h=>h2.left (h1.left h),?_⟩
 .rw[qdj];exact⟨h1.nd,h2.nd,fun a ha b hb e=>hd b hb (e ▸ ha)⟩
 .rcases qau.1 hx with h|h
  .exact h1.was x h
  .have:=h2.was x h
   rwa [h1.now x,if_neg (hd x h)]at this
 .rw[h2.now x,h1.now x]
  by_cases ha:x∈t'
  .rw[if_pos ha,if_pos (qax _ ha)]
  .rw[if_neg ha]
   by_cases hb:x∈t
   .rw[if_pos hb,if_pos (qa4 _ hb)]
   .rw[if_neg hb,if_neg (fun h=>(qau.1 h).elim hb ha)]
 .rw[h2.blk q fun x hx=>hq x (qax _ hx),h1.blk q fun x hx=>hq x (qa4 _ hx)]
 .have:=h1.free;have:=h2.free;rw[qan];omega
theorem CI.gone(fr:Nat)(c:Ch)(p:Nat):CI fr c { c with gn:=c.gn++[p] } [] [p]:=⟨by simp,rfl,qb9,by simp,by simp,rfl,rfl,fun _ _=>rfl,fun h=>h,rfl⟩
def Held(P S:List Nat):Prop:=∀x∈S,∃s,P[x]?=some s/\s≠0
theorem Held.keep{S:List Nat}(h:Held c0.P S)(h1:CI fr c0 c t g):Held c.P S:=fun x hx=>by
 obtain⟨s,h2,h3⟩:=h x hx;rw[h1.now x]
 split
 .exact⟨2,rfl,by decide⟩
 .exact⟨s,h2,h3⟩
theorem CI.rd(h1:CI fr c0 c t g){S:List Nat}(h:Held c0.P S):∀x∈S,RD c.A fr x=RD c0.A fr x:=fun x hx=>by
 unfold RD;rw[h1.blk (fr+x) fun y hy e=>?_];obtain⟨s,h2,h3⟩:=h x hx;have h4:=h1.was y hy;rw[show y=x by omega,h2]at h4;exact h3 (qby h4)
theorem CI.held(h1:CI fr c0 c t g):Held c.P t:=fun x hx=>⟨2,by rw[h1.now x,if_pos hx],by decide⟩
theorem Held.lt{P S:List Nat}(h:Held P S){x:Nat}(hx:x∈S):x<P.length:=by
 obtain⟨s,h2,_⟩:=h x hx;exact(qaq.1 h2).1
theorem CI.apart(h1:CI fr c0 c t g){S:List Nat}(h:Held c0.P S):∀x∈S,x∉t:=fun x hx ht=>by
 obtain⟨s,h2,h3⟩:=h x hx;have h4:=h1.was x ht;rw[h2]at h4;exact h3 (qby h4)
theorem QT{α:Type}{l:List α}{f:α->α}{i q:Nat}{d:α}(h:q≠i):(l.modify i f).getD q d=l.getD q d:=by
 rw[qa6,qa6,qcl];simp only[if_neg (fun e:i=q=>h e.symm)];cases l[q]? <;> rfl
theorem QU{α:Type}{l:List α}{f:α->α}{i:Nat}{d:α}(h:i<l.length:=by omega):(l.modify i f).getD i d=f (l.getD i d):=by
 rw[qa6,qa6,qcl,qbg h];simp
theorem Air{inner:Bool}{M:List It}(hon:c.A.on=true)(hl:fr+c.P.length<=c.A.B.length)(hM:Fits inner M) :
  ((wrC fr c inner M).1=7/\(wrC fr c inner M).2=c/\Dn c.P=0) \/
  (CI fr c (wrC fr c inner M).2 [Ca c.P] [] /\
   (((wrC fr c inner M).1=0/\(wrC fr c inner M).2.A.on=true/\RD (wrC fr c inner M).2.A fr (Ca c.P)=some (inner,M))\/((wrC fr c inner M).1=8/\c.A.left ≠ -1))):=by
 obtain⟨hs1,hs2,hs3⟩:=hM.seal
 by_cases hf:CF c.P=c.P.length
 .left;have h7:Ht c.P=7:=by unfold Ht;rw[if_pos hf]
  have h8:wrC fr c inner M=(7,c):=by unfold wrC;rw[if_pos (by omega),h7]
  rw[h8];exact⟨rfl,rfl,Yr hf⟩
 .right;have hlt:CF c.P<c.P.length:=by have:=Agb c.P;omega
  have h7:Ht c.P=0:=by unfold Ht;rw[if_neg hf]
  have hk:Ca c.P=CF c.P:=by unfold Ca;rw[if_neg hf]
  have hP:Ie c.P=c.P.set (CF c.P) 2:=by unfold Ie;rw[if_neg hf]
  have h0:=Yq hlt
  have h8:wrC fr c inner M=(De c.A (((fr+CF c.P:Nat)):Int) (IG inner M),⟨Cw c.A (((fr+CF c.P:Nat)):Int) (IG inner M),c.P.set (CF c.P) 2,c.tk++[CF c.P],c.gn⟩):=by
   unfold wrC;rw[if_neg (by omega),if_neg (by rw[hs1];simp),hk,hP]
  have hh:c.A.has (((fr+CF c.P:Nat)):Int)=true:=by unfold Dev.has;rw[qam (by omega),qam (by omega)];rfl
  have hB:∀(D:Dev),D.B=c.A.B\/D.B=c.A.B.modify (fr+CF c.P) (fun p=>(p.1,p.2++[IG inner M]))->(c.A.left = -1->D.left = -1)->CI fr c ⟨D,c.P.set (CF c.P) 2,c.tk++[CF c.P],c.gn⟩ [CF c.P] []:=fun D hD hDl=>by
   refine⟨rfl,by simp,qci.2 ⟨by simp,qb9⟩,fun x hx=>?_,fun x=>?_,by simp,?_,fun q hq=>?_,hDl,?_⟩
   .rw[qaa.1 hx];exact h0
   .show(c.P.set (CF c.P) 2)[x]?=_
    by_cases hx:x=CF c.P
    .subst hx;rw[if_pos (by simp),qer hlt]
    .rw[if_neg (by simpa using hx),qes (fun e=>hx e.symm)]
   .show D.B.length=_
    rcases hD with h|h <;> rw[h]
    rw[qee]
   .show D.B.getD q _=_
    rcases hD with h|h <;> rw[h]
    exact QT (hq _ (by simp))
   .exact Agc h0 (by decide)
  rw[h8,hk]
  by_cases hg:c.A.goes=true
  .have hw:Cw c.A (((fr+CF c.P:Nat)):Int) (IG inner M)=c.A.less:=by unfold Cw;rw[hon,hh,hs2,hg];rfl
   have he:De c.A (((fr+CF c.P:Nat)):Int) (IG inner M)=8:=by unfold De;rw[hon,hh,hs2,hg];rfl
   have hl0:c.A.left=0:=by simpa[Dev.goes]using hg
   rw[hw,he];exact⟨hB _ (.inl (FJ _)) fun h=>by omega,.inr ⟨rfl,by omega⟩⟩
  .have hg:c.A.goes=false:=by simpa using hg
   have hw:Cw c.A (((fr+CF c.P:Nat)):Int) (IG inner M)=NY c.A.less (fr+CF c.P) (IG inner M):=by unfold Cw;rw[hon,hh,hs2,hg,qbm];rfl
   have he:De c.A (((fr+CF c.P:Nat)):Int) (IG inner M)=0:=by unfold De;rw[hon,hh,hs2,hg];rfl
   have hl0:¬c.A.left=0:=by simpa[Dev.goes]using hg
   rw[hw,he];refine⟨hB _ (.inr (by show(c.A.less.B).modify _ _=_;rw[FJ])) fun h=>by show c.A.less.left = -1;rw[Abj h];exact h,.inl ⟨rfl,?_,?_⟩⟩
   .show c.A.less.on=true;unfold Dev.less;rw[if_neg hl0]
    split <;> exact hon
   .unfold RD;show DZ (stands ((c.A.less.B.modify (fr+CF c.P) _).getD (fr+CF c.P) _))=_;rw[FJ,QU];show DZ ((((c.A.B.getD (fr+CF c.P) (zeros,[])).2++[IG inner M]).getLast?).getD _)=_;rw[List.getLast?_concat];exact hs3
end
def BC(p:Pr):It:=⟨p.1,p.2,0⟩
def Kids(Q:Nat->List Pr->List Nat->Prop):List It->List Pr->List Nat->Prop
 | [],L,S=>L=[]/\S=[]
 |x::l,L,S=>∃L1 L2 S1 S2,L=L1++L2/\S=S1++S2/\Q x.page L1 S1/\L1[0]?.map (·.1)=some x.key/\x.val=[]/\Kids Q l L2 S2
def Many(i:Bool)(M:List It):Prop:=if i=true then 2<=M.length else M≠[]
def Part(R:Nat->Option (Bool × List It)):Nat->Bool->List It->List Pr->List Nat->Prop
 |0,i,M,L,S=>i=false/\M=L.map BC/\S=[]
 |h+1,i,M,L,S=>i=true/\Kids (fun p L S=>∃i' M' S',Part R h i' M' L S'/\R p=some (i',M')/\S=p::S'/\Many i' M'/\AY i' M'<=503) M L S
def Lies(R:Nat->Option (Bool × List It))(h:Nat)(p:Nat)(L:List Pr)(S:List Nat):Prop :=
 ∃i' M' S',Part R h i' M' L S'/\R p=some (i',M')/\S=p::S'/\Many i' M'/\AY i' M'<=503
def OkP(L:List Pr):Prop:=∀p∈L,1<=p.1.length/\p.1.length<=32/\p.2.length<=128
section
variable {R R':Nat->Option (Bool × List It)}{Q Q':Nat->List Pr->List Nat->Prop}{h:Nat}{i:Bool}{M l a b:List It}{L:List Pr}{S:List Nat}
theorem Ff:Kids Q (a++b) L S↔∃La Lb Sa Sb,L=La++Lb/\S=Sa++Sb/\Kids Q a La Sa/\Kids Q b Lb Sb:=by
 induction a generalizing L S with
 |nil =>
  constructor
  .intro h;exact⟨[],L,[],S,rfl,rfl,⟨rfl,rfl⟩,h⟩
  .rintro⟨La,Lb,Sa,Sb,rfl,rfl,⟨rfl,rfl⟩,h⟩;exact h
 |cons x a ih =>
  constructor
  .rintro⟨L1,L2,S1,S2,rfl,rfl,h1,h2,h3,h4⟩;obtain⟨La,Lb,Sa,Sb,rfl,rfl,h5,h6⟩:=ih.1 h4;exact⟨L1++La,Lb,S1++Sa,Sb,by simp,by simp,⟨L1,La,S1,Sa,rfl,rfl,h1,h2,h3,h5⟩,h6⟩
  .rintro⟨La,Lb,Sa,Sb,rfl,rfl,⟨L1,L2,S1,S2,rfl,rfl,h1,h2,h3,h4⟩,h5⟩;exact⟨L1,L2++Lb,S1,S2++Sb,by simp,by simp,h1,h2,h3,ih.2 ⟨L2,Lb,S2,Sb,rfl,rfl,h4,h5⟩⟩
theorem Kids.mono(hk:Kids Q l L S)(hq:∀p L' S',(∀x∈S',x∈S)->Q p L' S'->Q' p L' S'):Kids Q' l L S:=by
 induction l generalizing L S with
 |nil=>exact hk
 |cons x l ih =>
  obtain⟨L1,L2,S1,S2,rfl,rfl,h1,h2,h3,h4⟩:=hk;exact⟨L1,L2,S1,S2,rfl,rfl,hq _ _ _ (fun x hx=>qa4 _ hx) h1,h2,h3,ih h4 fun p L' S' hs=>hq p L' S' fun x hx=>qax _ (hs x hx)⟩
theorem Part.frame:∀{h:Nat} {i:Bool} {M:List It} {L:List Pr} {S:List Nat},Part R h i M L S->(∀x∈S,R' x=R x)->Part R' h i M L S
 |0,_,_,_,_,hp,_=>hp
 |h+1,i,M,L,S,hp,hr=>⟨hp.1,hp.2.mono fun p L' S' hs ⟨i',M',S2,h1,h2,h3,h4⟩=>⟨i',M',S2,h1.frame fun x hx=>hr x (hs x (by rw[h3];exact qag _ hx)),by rw[hr p (hs p (by rw[h3];exact qae ..))];exact h2,h3,h4⟩⟩
theorem Lies.frame{p:Nat}(hp:Lies R h p L S)(hr:∀x∈S,R' x=R x):Lies R' h p L S:=by
 obtain⟨i',M',S2,h1,h2,h3,h4⟩:=hp;exact⟨i',M',S2,h1.frame fun x hx=>hr x (by rw[h3];exact qag _ hx),by rw[hr p (by rw[h3];exact qae ..)];exact h2,h3,h4⟩
theorem Kids.frame(hk:Kids (Lies R h) l L S)(hr:∀x∈S,R' x=R x):Kids (Lies R' h) l L S :=
 hk.mono fun _ _ _ hs hq=>hq.frame fun x hx=>hr x (hs x hx)
theorem Lies.page{p:Nat}(hp:Lies R h p L S):p∈S:=by
 obtain⟨i',M',S2,h1,h2,h3,h4⟩:=hp;rw[h3];exact qae ..
theorem Kids.ne(hk:Kids Q l L S)(hl:l≠[]):L≠[]:=by
 cases l with
 |nil=>exact absurd rfl hl
 |cons x l =>
  obtain⟨L1,L2,S1,S2,rfl,rfl,h1,h2,h3,h4⟩:=hk
  cases L1 with
  |nil=>cases h2
  |cons y L1=>simp
theorem Many.ne(h:Many i M):M≠[]:=by
 unfold Many at h
 split at h
 .intro e;rw[e]at h;simp at h
 .exact h
theorem Part.ne(hp:Part R h i M L S)(hm:M≠[]):L≠[]:=by
 cases h with
 |zero=>obtain⟨_,rfl,_⟩:=hp;exact fun e=>hm (by rw[e];rfl)
 |succ h=>exact hp.2.ne hm
theorem Lies.ne{p:Nat}(hp:Lies R h p L S):L≠[]:=by
 obtain⟨i',M',S2,h1,h2,h3,h4,h5⟩:=hp;exact h1.ne h4.ne
theorem Kids.items(hk:Kids (Lies R h) l L S)(ho:OkP L):∀x∈l,x.val=[]/\x.key.length<=32/\x.page∈S:=by
 induction l generalizing L S with
 |nil=>intro x hx;cases hx
 |cons y l ih =>
  obtain⟨L1,L2,S1,S2,rfl,rfl,h1,h2,h3,h4⟩:=hk;intro x hx
  rcases qab.1 hx with rfl|hx
  .refine⟨h3,?_,qa4 _ h1.page⟩
   cases L1 with
   |nil=>cases h2
   |cons z L1 =>
    simp only[qc1,qbd,qbc]at h2;rw[<-h2];exact(ho z (by simp)).2.1
  .have:=ih h4 (fun p hp=>ho p (qax _ hp)) x hx;exact⟨this.1,this.2.1,qax _ this.2.2⟩
theorem Part.ok(hp:Part R h i M L S)(ho:OkP L){P:List Nat}(hh:Held P S)(hP:P.length<=4096):∀x∈M,OkI i x/\C1 i x<=164/\(i=true->C1 i x<=38):=by
 cases h with
 |zero =>
  obtain⟨rfl,rfl,_⟩:=hp;intro x hx;obtain⟨p,hp,rfl⟩:=qah.1 hx;obtain⟨h1,h2,h3⟩:=ho p hp;refine⟨⟨?_,?_,by show(0:Nat)<_;omega,by simp[BC]⟩,?_,fun h=>by cases h⟩
  .show p.1.length<_;omega
  .show p.2.length<_;omega
  .show 4+p.1.length+p.2.length<=_;omega
 |succ h =>
  obtain⟨rfl,hk⟩:=hp;intro x hx;obtain⟨h1,h2,h3⟩:=Kids.items hk ho x hx;have:=hh.lt h3;have h38:C1 true x<=38:=by show 6+x.key.length<=38;omega
  refine⟨⟨by omega,by rw[h1];simp,by omega,by simp[h1]⟩,by omega,fun _=>h38⟩
theorem Part.key(hp:Part R h i M L S)(hm:M≠[]):L[0]?.map (·.1)=some (FL M):=by
 cases h with
 |zero =>
  obtain⟨rfl,rfl,_⟩:=hp
  cases L with
  |nil=>exact absurd rfl hm
  |cons p L=>rfl
 |succ h =>
  obtain⟨rfl,hk⟩:=hp
  cases M with
  |nil=>exact absurd rfl hm
  |cons x M =>
   obtain⟨L1,L2,S1,S2,rfl,rfl,h1,h2,h3,h4⟩:=hk
   cases L1 with
   |nil=>cases h2
   |cons y L1=>exact h2
theorem Part.append(h1:Part R h i (a++b) L S):∃La Lb Sa Sb,L=La++Lb/\S=Sa++Sb/\Part R h i a La Sa/\Part R h i b Lb Sb:=by
 cases h with
 |zero =>
  obtain⟨rfl,he,rfl⟩:=h1;obtain⟨La,Lb,rfl,ha,hb⟩:=List.append_eq_map_iff.1 he;exact⟨La,Lb,[],[],rfl,rfl,⟨rfl,ha.symm,rfl⟩,⟨rfl,hb.symm,rfl⟩⟩
 |succ h =>
  obtain⟨La,Lb,Sa,Sb,e1,e2,ha,hb⟩:=Ff.1 h1.2;exact⟨La,Lb,Sa,Sb,e1,e2,⟨h1.1,ha⟩,⟨h1.1,hb⟩⟩
end
theorem UR{inner:Bool}{half m:Nat}:∀{l:List It} {sum:Nat},(∀x∈l,C1 inner x<=m)->sum<half+m->sum+AY inner (l.take (JR inner half l sum))<half+m
 | [],sum,_,h=>by simpa[JR,AY]using h
 |x::l,sum,hl,h=>by
  rw[JR]
  split
  .rename_i h1
   rw[qeu,CP,<-qcs];exact UR (fun y hy=>hl y (qag _ hy)) (by have:=hl x (qae ..);omega)
  .simpa[AY]using h
theorem Z3{inner:Bool}{half:Nat}:∀{l:List It} {sum:Nat},half<=sum+AY inner l->half<=sum+AY inner (l.take (JR inner half l sum))
 | [],sum,h=>by simpa[JR,AY]using h
 |x::l,sum,h=>by
  rw[JR]
  split
  .rename_i h1
   rw[qeu,CP,<-qcs];exact Z3 (by rw[CP]at h;omega)
  .rename_i h1;rw[qds];show half<=sum+0;omega
theorem EJ{inner:Bool}{m:Nat}:∀{l:List It},(∀x∈l,C1 inner x<=m)->AY inner l<=m*l.length
 | [],_=>qak _
 |x::l,h=>by
  have h1:=EJ (l:=l) fun y hy=>h y (qag _ hy);have h2:=h x (qae ..);rw[CP,qaw,Nat.mul_succ];omega
theorem Pb{i:Bool}{M:List It}(hM:Many i M)(hT:AY i M<=667)(hs:∀x∈M,C1 i x<=164/\(i=true->C1 i x<=38)) :
  (AY i M<=503/\Du i M=[M])\/(∃a b,M=a++b/\Du i M=[a,b]/\Many i a/\Many i b/\AY i a<=503/\AY i b<=503):=by
 unfold Du
 by_cases h1:AY i M<=503
 .left;rw[if_pos h1];exact⟨h1,rfl⟩
 .right;rw[if_neg h1];refine⟨M.take (FD i M),M.drop (FD i M),(qbl ..).symm,rfl,?_⟩;have hsum:=B2 i (M.take (FD i M)) (M.drop (FD i M));rw[qbl]at hsum
  have hge:AY i M / 2<=AY i (M.take (FD i M)):=by
   have:=Z3 (inner:=i) (half:=AY i M / 2) (l:=M) (sum:=0) (by omega);rw[qa3]at this;exact this
  have hlt:AY i (M.take (FD i M))<AY i M / 2+164:=by
   have:=UR (inner:=i) (half:=AY i M / 2) (m:=164) (l:=M) (sum:=0) (fun x hx=>(hs x hx).1) (by omega);rw[qa3]at this;exact this
  cases i with
  |false =>
   refine⟨?_,?_,by omega,by omega⟩
   .show _≠[];intro e;have e0:AY false (M.take (FD false M))=0:=(by rw[e];rfl);omega
   .show _≠[];intro e;have e0:AY false (M.drop (FD false M))=0:=(by rw[e];rfl);omega
  |true =>
   have hlt:AY true (M.take (FD true M))<AY true M / 2+38:=by
    have:=UR (inner:=true) (half:=AY true M / 2) (m:=38) (l:=M) (sum:=0) (fun x hx=>(hs x hx).2 rfl) (by omega);rw[qa3]at this;exact this
   have ha:=EJ (inner:=true) (m:=38) (l:=M.take (FD true M)) fun x hx=>(hs x (qbs hx)).2 rfl;have hb:=EJ (inner:=true) (m:=38) (l:=M.drop (FD true M)) fun x hx=>(hs x (qc0 hx)).2 rfl;refine⟨?_,?_,by omega,by omega⟩
   .show 2<=_
    rcases qbk (M.take (FD true M)).length 2 with h5|h5
    .have:38*(M.take (FD true M)).length<=38*1:=qb7 _ (by omega)
     omega
    .exact h5
   .show 2<=_
    rcases qbk (M.drop (FD true M)).length 2 with h5|h5
    .have:38*(M.drop (FD true M)).length<=38*1:=qb7 _ (by omega)
     omega
    .exact h5
def Bad(c:Ch)(e:Int)(m:Nat):Prop:=(e=8/\c.A.left ≠ -1)\/(e=7/\Dn c.P<m)
theorem Bad.ne{c:Ch}{e:Int}{m:Nat}(h:Bad c e m):e≠0:=by
 rcases h with⟨h,_⟩|⟨h,_⟩ <;> omega
theorem Bad.back{c c1:Ch}{fr:Nat}{t g:List Nat}{e:Int}{m m':Nat}(h:Bad c1 e m)(h1:CI fr c c1 t g)(hm:m+t.length<=m'):Bad c e m':=by
 rcases h with⟨h,h2⟩|⟨h,h2⟩
 .exact .inl ⟨h,fun h3=>h2 (h1.left h3)⟩
 .exact .inr ⟨h,by have:=h1.free;omega⟩
theorem Bad.mono{c:Ch}{e:Int}{m m':Nat}(h:Bad c e m)(hm:m<=m'):Bad c e m':=h.imp id fun h=>⟨h.1,by omega⟩
structure On(fr:Nat)(c:Ch):Prop where
 on:c.A.on=true
 has:fr+c.P.length<=c.A.B.length
 few:c.P.length<=4096
theorem On.keep{fr:Nat}{c c1:Ch}{t g:List Nat}(h:On fr c)(h1:CI fr c c1 t g)(hon:c1.A.on=true):On fr c1 :=
 ⟨hon,by rw[h1.len,h1.blen];exact h.has,by rw[h1.len];exact h.few⟩
theorem Lp{fr:Nat}{c:Ch}{h:Nat}{i:Bool}{M:List It}{L:List Pr}{S:List Nat}(hp:Part (RD c.A fr) h i M L S)(ho:OkP L)(hh:Held c.P S)(hn:On fr c)(hm:Many i M)(ht:AY i M<=503) :
  ∃t,CI fr c (wrC fr c i M).2 t []/\t.length<=1 /\
   (((wrC fr c i M).1=0/\t=[Ca c.P]/\On fr (wrC fr c i M).2/\Lies (RD (wrC fr c i M).2.A fr) h (Ca c.P) L (Ca c.P::S)/\L[0]?.map (·.1)=some (FL M))\/Bad c (wrC fr c i M).1 1):=by
 have hM:Fits i M:=⟨hm.ne,fun x hx=>(hp.ok ho hh hn.few x hx).1,ht⟩
 rcases Air hn.on hn.has hM with⟨h1,h2,h3⟩|⟨h1,h2⟩
 .exact⟨[],by rw[h2];exact CI.refl _ _,by simp,.inr (.inr ⟨h1,by omega⟩)⟩
 .refine⟨_,h1,by simp,?_⟩
  rcases h2 with⟨h3,h4,h5⟩|⟨h3,h4⟩
  .exact .inl ⟨h3,rfl,hn.keep h1 h4,⟨i,M,S,hp.frame (h1.rd hh),h5,rfl,hm,ht⟩,hp.key hm.ne⟩
  .exact .inr (.inl ⟨h3,h4⟩)
def okM(i:Bool)(M:List It):Bool:=decide (M.length<=1000) && (M.all (fun x=>decide (x.key.length<=65535) && (decide (x.val.length<=65535) && decide (x.page<9223372036854775808))) && (decide (M=[]) || (Du i M).all fun h=>decide (h≠[])))
def Ex(fr:Nat)(c:Ch)(i:Bool)(M:List It):Int × Ch × List It:=bif okM i M then IR fr c i M else(99,c,[])
theorem Ais(i:Bool)(x:It):4<=C1 i x:=by
 cases i
 .simp only[C1,cond_false];omega
 .simp only[C1,cond_true];omega
theorem Ig(i:Bool):∀l:List It,4*l.length<=AY i l
 | []=>qak _
 |x::l=>by
  have:=Ais i x;have:=Ig i l;rw[CP,qaw];omega
theorem Ait{fr:Nat}{c:Ch}{h:Nat}{i:Bool}{M:List It}{L:List Pr}{S:List Nat}(hp:Part (RD c.A fr) h i M L S)(ho:OkP L)(hh:Held c.P S)(hn:On fr c)(hm:M=[]\/Many i M)(hT:AY i M<=667):Ex fr c i M=IR fr c i M:=by
 have hx:=hp.ok ho hh hn.few;have hge:=Ig i M;unfold Ex
 have:okM i M=true:=by
  unfold okM;simp only[qao,qcd,qap,qbz];refine⟨by omega,fun x hx'=>?_,?_⟩
  .obtain⟨⟨h1,h2,h3,_⟩,_⟩:=hx x hx';omega
  .rcases hm with rfl|hm
   .exact .inl U
   .refine .inr fun a ha=>?_
    rcases Pb hm hT fun x h=>(hx x h).2 with⟨_,h2⟩|⟨a',b',_,h2,h3,h4,_⟩
    .rw[h2,qaa]at ha;rw[ha];exact hm.ne
    .rw[h2]at ha;simp only[qab,qaj,or_false]at ha
     rcases ha with rfl|rfl
     .exact h3.ne
     .exact h4.ne
 rw[this];rfl
theorem Agd(fr:Nat)(c:Ch)(i:Bool):IR fr c i []=(0,c,[]):=rfl
theorem Abk{fr:Nat}{c:Ch}{i:Bool}{M:List It}(h:M≠[]):IR fr c i M=Cs fr i (Du i M) c []:=by
 unfold IR;rw[if_neg h]
theorem perm_front{a b c d:List Nat}:((a++b)++(c++d)).Perm ((a++c)++(b++d)):=by
 rw[qa0,qa0];refine qe9 a ?_;rw[<-qa0,<-qa0];exact List.Perm.append_right d qcj
theorem Held.app{P S S':List Nat}(h:Held P S)(h':Held P S'):Held P (S++S'):=fun x hx=>(qau.1 hx).elim (h x) (h' x)
theorem Held.sub{P S S':List Nat}(h:Held P S)(hs:∀x∈S',x∈S):Held P S':=fun x hx=>h x (hs x hx)
structure Puts(fr h:Nat)(c:Ch)(M:List It)(L:List Pr)(S t:List Nat)(r:Int × Ch × List It):Prop where
 ok:r.1=0
 on:On fr r.2.1
 kids:∃S',Kids (Lies (RD r.2.1.A fr) h) r.2.2 L S'/\S'.Perm (S++t)/\Held r.2.1.P S'
 num:r.2.2.length<=2
 ne:M≠[]->r.2.2≠[]
theorem Wd{fr:Nat}{c:Ch}{h:Nat}{i:Bool}{M:List It}{L:List Pr}{S:List Nat}(hp:Part (RD c.A fr) h i M L S)(ho:OkP L)(hh:Held c.P S)(hn:On fr c)(hm:(M=[]/\h=0)\/Many i M)(hT:AY i M<=667) :
  ∃t,CI fr c (Ex fr c i M).2.1 t []/\t.length<=2/\(Puts fr h c M L S t (Ex fr c i M)\/Bad c (Ex fr c i M).1 2):=by
 rw[Ait hp ho hh hn (hm.imp And.left id) hT]
 rcases hm with⟨rfl,rfl⟩|hm
 .obtain⟨rfl,he,rfl⟩:=hp
  have hL:L=[]:=by
   cases L with
   |nil=>rfl
   |cons _ _=>cases he
  subst hL;rw[Agd];exact⟨[],CI.refl _ _,by simp,.inl ⟨rfl,hn,⟨[],⟨rfl,rfl⟩,by simp,fun x hx=>by cases hx⟩,by simp,fun h=>absurd rfl h⟩⟩
 .rw[Abk hm.ne];have hx:=hp.ok ho hh hn.few
  rcases Pb hm hT fun x h=>(hx x h).2 with⟨h1,h2⟩|⟨a,b,rfl,h2,h3,h4,h5,h6⟩
  .rw[h2];obtain⟨t,w1,w2,w3⟩:=Lp hp ho hh hn hm h1;refine⟨t,?_,by omega,?_⟩
   .unfold Cs
    split
    .exact w1
    .exact w1
   .rcases w3 with⟨h7,rfl,h8,h9,h10⟩|h7
    .left;unfold Cs;rw[if_pos h7];refine⟨rfl,h8,⟨Ca c.P::S,?_,?_,?_⟩,by simp[Cs],fun _=>by simp[Cs]⟩
     .show Kids _ [_] _ _;exact⟨L,[],Ca c.P::S,[],by simp,by simp,h9,h10,rfl,rfl,rfl⟩
     .exact(qcj (l₁:=S) (l₂:=[Ca c.P])).symm
     .exact(w1.held.app (hh.keep w1))
    .right;unfold Cs;rw[if_neg h7.ne];exact h7.mono (by omega)
  .rw[h2];obtain⟨La,Lb,Sa,Sb,rfl,rfl,pa,pb⟩:=hp.append;have hoa:OkP La:=fun p hp=>ho p (qa4 _ hp);have hob:OkP Lb:=fun p hp=>ho p (qax _ hp);have hha:Held c.P Sa:=hh.sub fun x hx=>qa4 _ hx;have hhb:Held c.P Sb:=hh.sub fun x hx=>qax _ hx;obtain⟨t,w1,w2,w3⟩:=Lp pa hoa hha hn h3 h5
   rcases w3 with⟨h7,rfl,h8,h9,h10⟩|h7
   .obtain⟨t',v1,v2,v3⟩:=Lp (pb.frame (w1.rd hhb)) hob (hhb.keep w1) h8 h4 h6;have hCI:=w1.trans v1;refine⟨[Ca c.P]++t',?_,?_,?_⟩
    .unfold Cs;rw[if_pos h7];unfold Cs
     split
     .exact hCI
     .exact hCI
    .rw[qan];omega
    .rcases v3 with⟨g7,rfl,g8,g9,g10⟩|g7
     .left;unfold Cs;rw[if_pos h7];unfold Cs;rw[if_pos g7];refine⟨rfl,g8,⟨(Ca c.P::Sa)++(Ca (wrC fr c i a).2.P::Sb),?_,?_,?_⟩,by simp[Cs],fun _=>by simp[Cs]⟩
      .show Kids _ ([_,_]) _ _;refine⟨La,Lb,_,_,rfl,rfl,h9.frame (v1.rd (w1.held.app (hha.keep w1))),h10,rfl,⟨Lb,[],_,[],by simp,by simp,g9,g10,rfl,rfl,rfl⟩⟩
      .show(([Ca c.P]++Sa)++([Ca (wrC fr c i a).2.P]++Sb)).Perm _;exact perm_front.trans qcj
      .exact((w1.held.app (hha.keep w1)).keep v1).app (v1.held.app ((hhb.keep w1).keep v1))
     .right;unfold Cs;rw[if_pos h7];unfold Cs;rw[if_neg g7.ne];exact g7.back w1 (by simp)
   .refine⟨t,?_,by omega,.inr ?_⟩
    .unfold Cs;rw[if_neg h7.ne];exact w1
    .unfold Cs;rw[if_neg h7.ne];exact h7.mono (by omega)
def Cd(l:List It)(i:Nat):Nat:=(l[i]?.map (·.page)).getD 0
def Ih(inner:Bool)(kid:List It):Bool:=inner && decide (kid.length=1)
def Ii(i:Nat):Nat:=if i=0 then 1 else i - 1
def Eg(fr:Nat)(c:Ch)(l:List It)(i depth:Nat)(inner:Bool)(kid:List It):Int × Ch × List It × Nat × Nat :=
 if Ih inner kid=true then
  (if l.length<=Ii i then(9,c,[],0,0)
   else match(Dc c.A fr c.P.length ((Cd l (Ii i):Nat):Int) ((depth+1:Nat):Int)).2 with
    |none=>((Dc c.A fr c.P.length ((Cd l (Ii i):Nat):Int) ((depth+1:Nat):Int)).1,c,[],0,0)
    |some (false,_)=>(9,rdC fr c (Cd l (Ii i)) (depth+1),[],0,0)
    |some (true,o)=>(0,rdC fr c (Cd l (Ii i)) (depth+1),if i=0 then kid++o else o++kid,i - 1,if i=0 then 2 else i+1))
 else(0,c,kid,i,i+1)
def C2(fr:Nat)(G:List It->List It)(key:Byt):Nat->Ch->Nat->Nat->Int × Ch × Bool × List It
 |0,c,_,_=>(9,c,false,[])
 |n+1,c,page,depth=>match(Dc c.A fr c.P.length (page:Int) (depth:Int)).2 with
  |none=>((Dc c.A fr c.P.length (page:Int) (depth:Int)).1,c,false,[])
  |some (false,l)=>(0,rdC fr c page depth,false,G l)
  |some (true,l) =>
   let r:=C2 fr G key n (rdC fr c page depth) (Cd l (BX l key)) (depth+1)
   if r.1≠0 then(r.1,r.2.1,true,[])else
   let s:=Eg fr r.2.1 l (BX l key) depth r.2.2.1 r.2.2.2
   if s.1≠0 then(s.1,s.2.1,true,[])else
   let q:=Ex fr s.2.1 r.2.2.1 s.2.2.1
   (q.1,q.2.1,true,l.take s.2.2.2.1++(q.2.2++l.drop s.2.2.2.2))
def DM(fr:Nat)(c:Ch)(inner:Bool)(M:List It):Int × Ch × Int :=
 if Ih inner M=true then(0,c,(Cd M 0:Int))
 else if(Ex fr c inner M).1≠0 then((Ex fr c inner M).1,(Ex fr c inner M).2.1,-1)
 else if(Ex fr c inner M).2.2=[]then(0,(Ex fr c inner M).2.1,-1)
 else if 1<(Ex fr c inner M).2.2.length then
  ((wrC fr (Ex fr c inner M).2.1 true (Ex fr c inner M).2.2).1,(wrC fr (Ex fr c inner M).2.1 true (Ex fr c inner M).2.2).2,(Ca (Ex fr c inner M).2.1.P:Int))
 else(0,(Ex fr c inner M).2.1,(Cd (Ex fr c inner M).2.2 0:Int))
def Dq(c:Ch)(e:Int):Ch:={ c with P:=(if e≠0 then c.tk else c.gn).foldl Ef c.P }
def Dp(fr:Nat)(A:Dev)(P:List Nat)(root:Int)(key:Byt)(G:List It->List It):Int × Int × Ch :=
 let ed:=if root = -1 then(0,⟨A,P,[],[]⟩,false,G [])else C2 fr G key 18 ⟨A,P,[],[]⟩ root.toNat 0
 if ed.1≠0 then(ed.1,root,Dq ed.2.1 ed.1)
 else
  let t:=DM fr ed.2.1 ed.2.2.1 ed.2.2.2
  if t.1≠0 then(t.1,root,Dq t.2.1 t.1)else(0,t.2.2,Dq t.2.1 0)
def KA(key val:Byt)(l:List It):List It :=
 if EO l key=true then l.take (C0 l key)++([⟨key,val,0⟩]++l.drop (C0 l key+1))else l.take (C0 l key)++([⟨key,val,0⟩]++l.drop (C0 l key))
def JW(key:Byt)(l:List It):List It :=
 if EO l key=true then l.take (C0 l key)++l.drop (C0 l key+1)else l
def Jh(fr:Nat)(A:Dev)(P:List Nat)(root:Int)(key val:Byt):Int × Int × Dev × List Nat :=
 if Hr P.length root≠0 then(1,root,A,P)
 else if CU key.length val.length=true then
  ((Dp fr A P root key (KA key val)).1,(Dp fr A P root key (KA key val)).2.1,(Dp fr A P root key (KA key val)).2.2.A,(Dp fr A P root key (KA key val)).2.2.P)
 else(1,root,A,P)
def Gt(fr:Nat)(A:Dev)(P:List Nat)(root:Int)(key:Byt):Int × Int × Bool × Dev × List Nat :=
 if(Nx A fr P.length root key).1≠0 then((Nx A fr P.length root key).1,root,false,A,P)
 else if(Nx A fr P.length root key).2.isSome=false then(0,root,false,A,P)
 else((Dp fr A P root key (JW key)).1,(Dp fr A P root key (JW key)).2.1,decide ((Dp fr A P root key (JW key)).1=0),(Dp fr A P root key (JW key)).2.2.A,(Dp fr A P root key (JW key)).2.2.P)
theorem Abl{w:World}{bp ba:Nat}{P:List Nat}(h:PgAt w bp ba P)(k:Nat)(hk:P.length<=k):Ret prog 94 #[ptr bp,.int .i64 (k:Int)] w fun v w'=>(∃e,v=.int .i64 e)/\PgAt w' bp ba P/\Ext [ba] w w':=by
 obtain⟨w0,rfl⟩:=qD w;have hh:Nw P (k:Int)=false:=by unfold Nw;simp;omega
 refine A6 (fn:=f94) func94 U [.pointer (some ⟨bp,0,none⟩),.int .i64 (k:Int)] U ?_;refine Ad (Ac U (qA (Ar (Ad (An U (Ae U (Ah qB (UP h (k:Int)) U ?_)))))));rintro v w ⟨rfl,rfl⟩;rw[hh];refine Ac U (qA (Ad (Ae U (AZ U U (qA (Fi U (Ad (Ae U (Ac U ?_)))))))));refine qA (Ax (Ao (AH (v:=(.int _ _)) U U U ?_)));exact⟨⟨_,rfl⟩,h,.refl _ _⟩
theorem T7{w:World}{bp ba:Nat}{P:List Nat}(h:PgAt w bp ba P)(k:Nat):Ret prog 94 #[ptr bp,.int .i64 (k:Int)] w fun v w'=>(∃e,v=.int .i64 e)/\PgAt w' bp ba (Ef P k)/\Ext [ba] w w':=by
 rcases qbk k P.length with hk|hk
 .exact VX h k hk
 .have:Ef P k=P:=by
   have hn:P[k]?=none:=qb0 hk;unfold Ef;rw[hn,if_neg (by simp),if_neg (by simp)]
  rw[this];exact Abl h k hk
theorem Z4{w:World}{a:Option Addr}{n c t:Nat}{full:List Value}{l:List Nat}(h:OS a n c 1 full (l.map pv))(hb:∀x∈ent a t full,w.heap[x.1]?=some x.2):Rd w a 1 (fun k=>[pv k]) l :=
 OS.rd (by rw[Za];exact h) hb (by simp) (by omega)
theorem We{w:World}{bt bd bp ba fr bc:Nat}{c:Ch}{F:Mut}{L:List (Nat × Obj)}(X:Cx w bt bd bp ba fr bc c F L)(e:Int)(htk:c.tk.length<=1000000)(hgn:c.gn.length<=1000000) :
  Ret prog 129 #[ptr bc,.int .i64 e] w fun v w'=>v=.tuple #[]/\Cx w' bt bd bp ba fr bc (Dq c e) F L/\Grown (TM F ba bt bp L) (TM F ba bt bp L) w w':=by
 obtain⟨w0,rfl⟩:=qD w;obtain⟨T,ta,tc,tf,ga,gc,gf,rfl,Ot,Og⟩:=X;have H:=T.ctx;have Rt:=Z4 Ot (fun y hy=>T.blk y (qag _ (qa4 _ hy)));have Rg:=Z4 Og (fun y hy=>T.blk y (qag _ (qax _ hy)));refine A6 (fn:=f129) func129 U [.pointer (some ⟨bc,0,none⟩),.int .i64 e] U ?_;refine Ar (Ad (Ae U (AZ U U (qA (Au _ U ?_ ?_)))))
 .intro h1;replace h1:=Bu h1;refine Ar (Ad (An U (Ay U (Af Q0 U (AG Jb U H at0 U (AO Fv U (Ae U (qA (AD ?_)))))))));refine BF 536838176 (α:=Nat) (fun i=>[(15,.int .i64 (i:Int))]) (fun i w'=>i<=c.tk.length/\Tx w' bt bd bp ba fr c.A ((c.tk.take i).foldl Ef c.P) F (CL bt bc ta c.tk.length tc tf ga c.gn.length gc gf)/\Grown (TM F ba bt bp (CL bt bc ta c.tk.length tc tf ga c.gn.length gc gf)) (TM F ba bt bp (CL bt bc ta c.tk.length tc tf ga c.gn.length gc gf)) w0 w') (fun i=>c.tk.length - i) 0 U ?_ ?_ ?_
  .exact⟨rfl,trivial⟩
  .exact⟨qak _,T,.call0 (.refl _ _)⟩
  .rintro i j w ⟨hi,T1,G1⟩;have H:=T1.ctx;have R1:=Z4 Ot (fun y hy=>T1.blk y (qag _ (qa4 _ hy)));refine Ad (Bt U U (qA (Ar (Au _ U ?_ ?_))))
   .intro h2;replace h2:=AU h2;obtain⟨k,hk⟩:=AR (l:=c.tk) (i:=i);refine Aq (Aa (Ar (AD (Ad (Bj R1 Fv GZ U U (hn:=by rfl) ?_)))));refine Bf DU U (R1.fld hk U (j:=0) U) (Ac U (qA (Av (An U (Ay U (Af Jd U (AG Jc U H at0 U (Ay U (Af Kr U (Bf JQ U (Ap T1.tr (0+1)) ?_))))))))));refine Ae U (Ah qB (T7 T1.pg k) U ?_);rintro v w2 ⟨⟨ev,rfl⟩,hp,hx⟩;obtain⟨T2,G2⟩:=T1.page hp hx;refine Ab (AF (Aa (Av (AA U U ?_))));refine Ae U (qA ?_);exact⟨i+1,rfl,⟨rfl,trivial⟩,⟨by omega,by rw[Bx hk,qdm];exact T2,G1.trans G2⟩,by omega⟩
   .intro h2;replace h2:=AV h2;have hii:i=c.tk.length:=by omega
    subst hii;rw[qbb]at T1;refine B9 (A8 (A8 (Bd (Aa (Ax (Ao (Add U U ?_)))))));refine⟨rfl,⟨?_,ta,tc,tf,ga,gc,gf,rfl,Ot,Og⟩,G1⟩;unfold Dq;rw[if_pos h1];exact T1
 .intro h1;replace h1:=Bv h1;refine Aq (Aa (Ad (An U (Ay U (Af Q1 U (AG Jb U H at0 U (AO Fv U (Ae U (qA (AD ?_))))))))));refine BF 281457796841600 (α:=Nat) (fun i=>[(34,.int .i64 (i:Int))]) (fun i w'=>i<=c.gn.length/\Tx w' bt bd bp ba fr c.A ((c.gn.take i).foldl Ef c.P) F (CL bt bc ta c.tk.length tc tf ga c.gn.length gc gf)/\Grown (TM F ba bt bp (CL bt bc ta c.tk.length tc tf ga c.gn.length gc gf)) (TM F ba bt bp (CL bt bc ta c.tk.length tc tf ga c.gn.length gc gf)) w0 w') (fun i=>c.gn.length - i) 0 U ?_ ?_ ?_
  .exact⟨rfl,trivial⟩
  .exact⟨qak _,T,.call0 (.refl _ _)⟩
  .rintro i j w ⟨hi,T1,G1⟩;have H:=T1.ctx;have R1:=Z4 Og (fun y hy=>T1.blk y (qag _ (qax _ hy)));refine Ad (Bt U U (qA (Ar (Au _ U ?_ ?_))))
   .intro h2;replace h2:=AU h2;obtain⟨k,hk⟩:=AR (l:=c.gn) (i:=i);refine Aq (Aa (Ar (AD (Ad (Bj R1 Fv GZ U U (hn:=by rfl) ?_)))));refine Bf DU U (R1.fld hk U (j:=0) U) (Ac U (qA (Av (An U (Ay U (Af Jd U (AG Jc U H at0 U (Ay U (Af Kr U (Bf JQ U (Ap T1.tr (0+1)) ?_))))))))));refine Ae U (Ah qB (T7 T1.pg k) U ?_);rintro v w2 ⟨⟨ev,rfl⟩,hp,hx⟩;obtain⟨T2,G2⟩:=T1.page hp hx;refine Ab (AF (Aa (Av (AA U U ?_))));refine Ae U (qA ?_);exact⟨i+1,rfl,⟨rfl,trivial⟩,⟨by omega,by rw[Bx hk,qdm];exact T2,G1.trans G2⟩,by omega⟩
   .intro h2;replace h2:=AV h2;have hii:i=c.gn.length:=by omega
    subst hii;rw[qbb]at T1;refine B9 (A8 (A8 (Bd (Hw U U ?_))));refine⟨rfl,⟨?_,ta,tc,tf,ga,gc,gf,rfl,Ot,Og⟩,G1⟩;unfold Dq;rw[if_neg (by simpa using h1)];exact T1
theorem Grown.weak{M M' M'':Mut}{w w':World}(t:Grown M M' w w')(h:∀x,M'' x->M' x):Grown M M'' w w':=⟨t.1,fun x hx=>t.2 x (h x hx)⟩
theorem Grown.nil{M M':Mut}{w w':World}(t:Grown (MY M []) M' w w'):Grown M M' w w':=by
 obtain⟨⟨S,hS,hx⟩,g⟩:=t;exact⟨⟨S,fun x h=>MY.nil x (hS x h),hx⟩,fun x h=>(g x h).imp (MY.nil x) id⟩
structure Fr(w0:World)(Z M0:Mut)(w:World)(bt bd bp ba fr bc:Nat)(c:Ch)(F:Mut)(L Y:List (Nat × Obj)):Prop where
 X:Cx w bt bd bp ba fr bc c F L
 O:Fo w (MZ (TM F ba bt bp L) Z) Y
 GT:Grown M0 (TM F ba bt bp L) w0 w
 GA:Grown (MZ M0 Z) (MY (MZ (TM F ba bt bp L) Z) Y) w0 w
 yo:∀y∈Y.map (·.1),w0.heap.size<=y
 sz:w0.heap.size<=w.heap.size
 hZ:∀x,Z x->x<w0.heap.size
section
variable {w0 w w':World}{Z M0:Mut}{bt bd bp ba fr bc:Nat}{c c':Ch}{F F':Mut}{L L' Y Y':List (Nat × Obj)}
theorem Fr.start(X:Cx w bt bd bp ba fr bc c F L)(hZ:∀x,Z x->x<w.heap.size):Fr w Z (TM F ba bt bp L) w bt bd bp ba fr bc c F L [] :=
 ⟨X,Fo.nil,.call0 (.refl _ _),(Grown.call0 (.refl _ _)).weak MY.nil,(fun y h=>by cases h),qaf _,hZ⟩
theorem Fr.lt(E:Fr w0 Z M0 w bt bd bp ba fr bc c F L Y):∀x,MZ (TM F ba bt bp L) Z x->x<w.heap.size:=fun x h=>h.elim (E.X.T.mlt x) fun h=>qat (E.hZ x h) E.sz
theorem Fr.mylt(E:Fr w0 Z M0 w bt bd bp ba fr bc c F L Y):∀x,MY (MZ (TM F ba bt bp L) Z) Y x->x<w.heap.size:=E.O.lt E.lt
theorem Fr.zlt(E:Fr w0 Z M0 w bt bd bp ba fr bc c F L Y):∀x,MY Z Y x->x<w.heap.size:=fun x h=>E.mylt x (h.elim (fun h => .inl (.inr h)) .inr)
theorem Fr.fresh(E:Fr w0 Z M0 w bt bd bp ba fr bc c F L Y):∀x,MY (MZ (TM F' ba bt bp L') Z) Y x->MZ (TM F' ba bt bp L') (Old w) x:=fun x h=>by
 rcases h with(h|h)|h
 .exact .inl h
 .exact .inr (E.lt x (.inr h))
 .exact .inr (E.mylt x (.inr h))
theorem Fr.own(E:Fr w0 Z M0 w bt bd bp ba fr bc c F L Y)(H:Ctx w (Y.map (·.1)) w' Y'):Fr w0 Z M0 w' bt bd bp ba fr bc c F L Y'/\Grown (MY (MZ (TM F ba bt bp L) Z) Y) (MY (MZ (TM F ba bt bp L) Z) Y') w w':=by
 obtain⟨O',g⟩:=E.O.own E.lt H;exact⟨⟨E.X.side (E.O.weak fun _ h => .inl h) H.ext,O',E.GT.side H.ext E.yo,E.GA.trans g,Ny E.yo E.sz H,qas E.sz H.ext.size,E.hZ⟩,g⟩
theorem Fr.call(E:Fr w0 Z M0 w bt bd bp ba fr bc c F L Y)(X':Cx w' bt bd bp ba fr bc c' F' L')(t:Grown (TM F ba bt bp L) (TM F' ba bt bp L') w w'):Fr w0 Z M0 w' bt bd bp ba fr bc c' F' L' Y/\Grown (MY (MZ (TM F ba bt bp L) Z) Y) (MY (MZ (TM F' ba bt bp L') Z) Y) w w':=by
 obtain⟨O',g⟩:=E.O.call (t.or Z);obtain⟨S,_,hx⟩:=t.1;exact⟨⟨X',O',E.GT.trans t,E.GA.trans g,E.yo,qas E.sz hx.size,E.hZ⟩,g⟩
theorem Fr.call0(E:Fr w0 Z M0 w bt bd bp ba fr bc c F L Y)(hx:Ext [] w w'):Fr w0 Z M0 w' bt bd bp ba fr bc c F L Y/\Grown (MY (MZ (TM F ba bt bp L) Z) Y) (MY (MZ (TM F ba bt bp L) Z) Y) w w' :=
 E.call (E.X.side Fo.nil hx) (.call0 hx)
end
def DoOk(f:Nat)(cl:List Value)(G:List It->List It)(w:World)(M:Mut):Prop :=
 ∀(w':World) (M':Mut),Grown M M' w w'->(∀x,M' x->x<w'.heap.size)->∀(a:Option Addr) (n c:Nat) (l:List It),Its w' M' a n c l->n<=100000 ->
  Ret prog f (Value.slice a n c::cl).toArray w' fun v w''=>∃a' c',v=.slice a' (G l).length c'/\Its w'' M' a' (G l).length c' (G l)/\Ext [] w' w''
theorem DoOk.keep{f:Nat}{cl:List Value}{G:List It->List It}{w w':World}{M M':Mut}(h:DoOk f cl G w M)(t:Grown M M' w w'):DoOk f cl G w' M':=fun w2 M2 t2=>h w2 M2 (t.trans t2)
theorem wrC_gn{fr:Nat}{c:Ch}{i:Bool}{M:List It}:(wrC fr c i M).2.gn=c.gn:=by
 unfold wrC
 split
 .rfl
 .split <;> rfl
theorem Wg{fr:Nat}{i:Bool}{m:Nat}:∀{Hs:List (List It)} {c:Ch} {acc:List It},(Cs fr i Hs c acc).2.1.tk.length<=c.tk.length+Hs.length/\(Cs fr i Hs c acc).2.1.gn=c.gn/\(Few c.A m->Few (Cs fr i Hs c acc).2.1.A (m+Hs.length))/\(Cs fr i Hs c acc).2.2.length<=acc.length+Hs.length
 | [],c,acc=>⟨qaf _,rfl,fun h=>h,qaf _⟩
 |h::Hs,c,acc=>by
  have h1:=QQ (fr:=fr) (c:=c) (inner:=i) (M:=h);have h2:=wrC_gn (fr:=fr) (c:=c) (i:=i) (M:=h);unfold Cs
  split
  .obtain⟨a1,a2,a3,a4⟩:=Wg (fr:=fr) (i:=i) (m:=m+1) (Hs:=Hs) (c:=(wrC fr c i h).2) (acc:=acc++[⟨FL h,[],Ca c.P⟩]);refine⟨by rw[qaw];omega,a2.trans h2,fun hf=>(a3 (PC hf)).mono (by rw[qaw];omega),?_⟩;rw[qan,qbu]at a4;rw[qaw];omega
  .exact⟨by rw[qaw];dsimp only;omega,h2,fun hf=>(PC hf).mono (by rw[qaw];omega),by simp⟩
theorem KB{fr:Nat}{c:Ch}{i:Bool}{M:List It}{m:Nat}:(Ex fr c i M).2.1.tk.length<=c.tk.length+2/\(Ex fr c i M).2.1.gn=c.gn/\(Few c.A m->Few (Ex fr c i M).2.1.A (m+2))/\(Ex fr c i M).2.2.length<=2:=by
 unfold Ex
 cases okM i M with
 |false=>exact⟨qck _ _,rfl,fun h=>h.mono (by omega),qak _⟩
 |true =>
  show(IR fr c i M).2.1.tk.length<=_/\(IR fr c i M).2.1.gn=_/\(Few c.A m->Few (IR fr c i M).2.1.A _)/\(IR fr c i M).2.2.length<=2;unfold IR
  split
  .exact⟨qck _ _,rfl,fun h=>h.mono (by omega),qak _⟩
  .have h2:=QS i M;obtain⟨a1,a2,a3,a4⟩:=Wg (fr:=fr) (i:=i) (m:=m) (Hs:=Du i M) (c:=c) (acc:=[]);rw[qbw]at a4;exact⟨by omega,a2,fun h=>(a3 h).mono (by omega),by omega⟩
theorem HA{fr:Nat}{c:Ch}{p d:Nat}:(rdC fr c p d).tk=c.tk/\(rdC fr c p d).gn.length<=c.gn.length+1/\(rdC fr c p d).A=c.A/\(rdC fr c p d).P=c.P:=by
 unfold rdC
 split
 .exact⟨rfl,by simp,rfl,rfl⟩
 .exact⟨rfl,qc8 _,rfl,rfl⟩
theorem Om{fr:Nat}{c:Ch}{l:List It}{i d:Nat}{inner:Bool}{kid:List It}:(Eg fr c l i d inner kid).2.1.tk=c.tk/\(Eg fr c l i d inner kid).2.1.gn.length<=c.gn.length+1/\(Eg fr c l i d inner kid).2.1.A=c.A:=by
 unfold Eg
 split
 .split
  .exact⟨rfl,qc8 _,rfl⟩
  .split
   .exact⟨rfl,qc8 _,rfl⟩
   .exact⟨HA.1,HA.2.1,HA.2.2.1⟩
   .exact⟨HA.1,HA.2.1,HA.2.2.1⟩
 .exact⟨rfl,qc8 _,rfl⟩
theorem Lq{fr:Nat}{G:List It->List It}{key:Byt}{m:Nat}:∀{n:Nat} {c:Ch} {p d:Nat},(C2 fr G key n c p d).2.1.tk.length<=c.tk.length+2*n/\(C2 fr G key n c p d).2.1.gn.length<=c.gn.length+2*n/\(Few c.A m->Few (C2 fr G key n c p d).2.1.A (m+2*n))
 |0,c,p,d=>⟨qaf _,qaf _,fun h=>h⟩
 |n+1,c,p,d=>by
  have hr:=HA (fr:=fr) (c:=c) (p:=p) (d:=d);unfold C2
  split
  .exact⟨qck _ _,qck _ _,fun h=>h.mono (by omega)⟩
  .exact⟨by rw[hr.1];omega,by have:=hr.2.1;show(rdC fr c p d).gn.length<=_;omega,fun h=>by show Few (rdC fr c p d).A _;rw[hr.2.2.1];exact h.mono (by omega)⟩
  .rename_i l _
   obtain⟨a1,a2,a3⟩:=Lq (fr:=fr) (G:=G) (key:=key) (m:=m) (n:=n) (c:=rdC fr c p d) (p:=Cd l (BX l key)) (d:=d+1);rw[hr.1]at a1;rw[hr.2.2.1]at a3;have h2:=hr.2.1;dsimp only
   split
   .exact⟨by dsimp only;omega,by dsimp only;omega,fun h=>(a3 h).mono (by omega)⟩
   .obtain⟨b1,b2,b3⟩:=Om (fr:=fr) (c:=(C2 fr G key n (rdC fr c p d) (Cd l (BX l key)) (d+1)).2.1) (l:=l) (i:=BX l key) (d:=d) (inner:=(C2 fr G key n (rdC fr c p d) (Cd l (BX l key)) (d+1)).2.2.1) (kid:=(C2 fr G key n (rdC fr c p d) (Cd l (BX l key)) (d+1)).2.2.2)
    split
    .exact⟨by rw[b1];omega,by dsimp only;omega,fun h=>by rw[b3];exact(a3 h).mono (by omega)⟩
    .obtain⟨q1,q2,q3,_⟩:=KB (fr:=fr) (c:=(Eg fr (C2 fr G key n (rdC fr c p d) (Cd l (BX l key)) (d+1)).2.1 l (BX l key) d (C2 fr G key n (rdC fr c p d) (Cd l (BX l key)) (d+1)).2.2.1 (C2 fr G key n (rdC fr c p d) (Cd l (BX l key)) (d+1)).2.2.2).2.1)
      (i:=(C2 fr G key n (rdC fr c p d) (Cd l (BX l key)) (d+1)).2.2.1) (M:=(Eg fr (C2 fr G key n (rdC fr c p d) (Cd l (BX l key)) (d+1)).2.1 l (BX l key) d (C2 fr G key n (rdC fr c p d) (Cd l (BX l key)) (d+1)).2.2.1 (C2 fr G key n (rdC fr c p d) (Cd l (BX l key)) (d+1)).2.2.2).2.2.1) (m:=m+2*n)
     rw[b1]at q1;rw[b3]at q3;exact⟨by dsimp only;omega,by dsimp only;rw[q2];omega,fun h=>(q3 (a3 h)).mono (by omega)⟩
theorem Age{i:Bool}{M:List It}(h:okM i M=true):M.length<=1000/\(∀x∈M,x.key.length<=65535/\x.val.length<=65535)/\(∀x∈M,x.page<9223372036854775808)/\(M≠[]->∀h∈Du i M,h≠[]):=by
 unfold okM at h;simp only[qao,qcd,qap,qbz]at h;obtain⟨h1,h2,h3⟩:=h;exact⟨h1,fun x hx=>⟨(h2 x hx).1,(h2 x hx).2.1⟩,fun x hx=>(h2 x hx).2.2,fun hM a ha=>h3.elim (fun h=>absurd h hM) fun h=>h a ha⟩
theorem Z5{fr:Nat}{c:Ch}{i:Bool}{M:List It}(h:(Ex fr c i M).1≠99):okM i M=true/\Ex fr c i M=IR fr c i M:=by
 unfold Ex at h |-
 cases ho:okM i M with
 |false=>rw[ho]at h;exact absurd rfl h
 |true=>exact⟨rfl,rfl⟩
def Ys(f:Nat)(cl:List Value)(G:List It->List It)(key:Byt)(fr n:Nat):Prop :=
 ∀{w:World} {bt bd bp ba bc:Nat} {c:Ch} {F:Mut} {L:List (Nat × Obj)},Cx w bt bd bp ba fr bc c F L->c.tk.length+2*n<=90000->c.gn.length+2*n<=90000->∀(page depth:Nat),depth+n=17->page<=4294967296 ->
  ∀(Z:Mut),(∀x,Z x->x<w.heap.size)->DoOk f cl G w (MZ (TM F ba bt bp L) Z)->∀(ka:Option Addr) (kc:Nat),Rdx w (MZ (TM F ba bt bp L) Z) ka key->∀(mx:Nat),Few c.A mx->mx+2*n<=900000000->(C2 fr G key (n+1) c page depth).1≠99 ->
  Ret prog 176 #[ptr bc,.int .i64 (page:Int),.int .i64 (depth:Int),.slice ka key.length kc,.func (.func f) #[] cl.toArray] w fun v w'=>∃(inner:Bool) (a:Option Addr) (m cc:Nat) (F':Mut) (L':List (Nat × Obj)),
   v=.tuple #[.agg #[.bool inner,.slice a m cc],.int .i64 (C2 fr G key (n+1) c page depth).1]/\Cx w' bt bd bp ba fr bc (C2 fr G key (n+1) c page depth).2.1 F' L'/\Grown (TM F ba bt bp L) (TM F' ba bt bp L') w w' /\
   ((C2 fr G key (n+1) c page depth).1=0->inner=(C2 fr G key (n+1) c page depth).2.2.1/\Its w' (MZ (TM F' ba bt bp L') Z) a m cc (C2 fr G key (n+1) c page depth).2.2.2)
structure ES where
 a:Option Addr
 n:Nat
 c:Nat
 M:List It
 fr:Nat
 to:Nat
 ch:Ch
 L:List (Nat × Obj)
 Y:List (Nat × Obj)
abbrev NBl(inner:Bool)(a:Option Addr)(n c:Nat):Obj:=Bl 183 [.bool inner,.slice a n c]
theorem Yt{w:World}{M:Mut}{aa qa:Option Addr}{nn cc qn qc sfr sto:Nat}{l q:List It}(I:Its w M aa nn cc l)(Q:Its w M qa qn qc q)(hf:sfr<=nn)(ht:sto<=nn)(h1:(l.take sfr).length=sfr)(h2:(l.drop sto).length=nn - sto) :
  ∀x∈([(aa,l.take sfr,cc),(qa,q,qc),(Em aa cc sto 3,l.drop sto,cc - sto)]:List SI),Its w M x.1 x.2.1.length x.2.2 x.2.1:=by
 intro x hx;simp only[qab,qaj,or_false]at hx
 rcases hx with rfl|rfl|rfl
 .show Its w M aa (l.take sfr).length cc (l.take sfr);rw[h1];exact I.take hf
 .show Its w M qa q.length qc q;rw[<-Q.num];exact Q
 .show Its w M _ (l.drop sto).length _ (l.drop sto);rw[h2];exact I.drop ht
theorem QV{w:World}{M:Mut}{a b:Option Addr}{n c m d:Nat}{l q:List It}(I:Its w M a n c l)(Q:Its w M b m d q):∀x∈([(a,l,c),(b,q,d)]:List SI),Its w M x.1 x.2.1.length x.2.2 x.2.1:=by
 intro x hx;simp only[qab,qaj,or_false]at hx
 rcases hx with rfl|rfl
 .show Its w M a l.length c l;rw[<-I.num];exact I
 .show Its w M b q.length d q;rw[<-Q.num];exact Q
theorem T8{f:Nat}{cl:List Value}{G:List It->List It}{key:Byt}{fr:Nat}(hf:Aw prog f=true)(hfr:fr<=5000)(_:key.length<=100000)(n:Nat)(IH:∀n',n=n'+1->Ys f cl G key fr n'):Ys f cl G key fr n:=by
 intro w bt bd bp ba bc c F L X htk hgn page depth hd hp Z hZ D ka kc Rk mx hfew hmx hok;obtain⟨w0,rfl⟩:=qD w;obtain⟨ec,hec⟩:=qD (C2 fr G key (n+1) c page depth);rw[<-hec]at hok |-;rw[C2]at hec;obtain⟨rt,hrt⟩:=qD (Dc c.A fr c.P.length (page:Int) (depth:Int));rw[<-hrt]at hec;have E0:=Fr.start X hZ;have H:=Ctx.start w0 [];obtain⟨rb1,rb2,rb3,rb4⟩:=HA (fr:=fr) (c:=c) (p:=page) (d:=depth);refine A6 (fn:=f176) func176 U [.pointer (some ⟨bc,0,none⟩),.int .i64 (page:Int),.int .i64 (depth:Int),.slice ka key.length kc,.func (.func f) #[] cl.toArray] U ?_;refine Ad (Be Cb H ?_);rintro b10 w - H;refine Ac U (qA (Ad (An U (Ae U (Ae U ?_)))));obtain⟨E1,-⟩:=E0.own H;refine Ah qB (Wb E1.X hfr page depth hfew) U ?_;rintro v w2 ⟨inner,aa,nn,cc,L2,rfl,X2,g2,hits⟩;rw[<-hrt]at hits
 rw[<-hrt];obtain⟨E2,-⟩:=E1.call X2 g2;replace H:=E2.O.ctx;refine AM U (Ag U U (Ag U U (Be Cb H ?_)));rintro b12 w - H;refine Bi Ba U U U (by simp[Bg]) H at0 U ?_;rintro w H;refine Ac U (qA (Ar (Ad (Ae U (AZ U U (qA (Au _ U ?_ ?_)))))))
 .intro hA;replace hA:=Bu hA
  have hnone:rt.2=none:=by
   cases h5:rt.2 with
   |none=>rfl
   |some r=>obtain⟨i,l⟩:=r;rw[hrt]at h5;rw[hrt]at hA;exact absurd (Fe h5).1 hA
  rw[hnone]at hec;dsimp only at hec;have hrd:rdC fr c page depth=c:=by unfold rdC;rw[<-hrt,if_neg hA]
  refine Ad (BG BH Ba U H at0 U (Ae U (Bi Ba U U U (by simp[Bg]) H at1 U ?_)));rintro w H;refine Ac U (qA (Ax (Ao (Dh U U U BH Ba H at1 U (show _=(.int _ _)from rfl) ?_))));obtain⟨E3,-⟩:=E2.own H;have X3:=E3.X;rw[hrd]at X3;exact⟨inner,aa,nn,cc,F,L2,by rw[hec],by rw[hec];exact X3,E3.GT,fun h=>absurd (by rw[hec]at h;exact h) hA⟩
 .intro hA;replace hA:=Bv hA;have hA':rt.1=0:=by simpa using hA
  obtain⟨⟨i,l⟩,hsome⟩:∃r,rt.2=some r:=by
   cases h5:rt.2 with
   |none=>rw[hrt]at h5;rw[hrt]at hA';exact absurd hA' (Ic h5)
   |some r=>exact⟨r,rfl⟩
  obtain⟨-,hne,hd16,-,-,hll⟩:=Fe (A:=c.A) (fr:=fr) (sz:=c.P.length) (page:=(page:Int)) (depth:=(depth:Int)) (by rw[<-hrt];exact hsome);obtain⟨rfl,I2f,hb⟩:=hits i l hsome;have I2:=I2f.weak E1.fresh;rw[hsome]at hec;have hnum:=I2.num;refine Aq (Aa (Ar (Ad (Af Dl U (AG Gx U H at0 U (Cl U (qA (Au _ U ?_ ?_))))))))
  .intro hB;replace hB:=CJ hB;subst hB;dsimp only at hec;refine Ad (DI U (.func _ _ _) U ?_);refine Af Bq U (AG BK U H at0 U ?_);obtain⟨E3,g3⟩:=E2.own H;have I3:=I2.turn g3;refine Kg U U hf (D _ _ E3.GA E3.mylt _ _ _ _ I3 (by omega)) U ?_;rintro v w4 ⟨a4,c4,rfl,I4,hx4⟩;obtain⟨E4,g4⟩:=E3.call0 hx4;replace H:=E4.O.ctx;refine Af Bq U (Bc (.slice _ _ _) C4 U U U H at0 (by(simp;done)) ?_);rintro w H;refine qA (Ad (BG BH Ba U H at0 U (Bi Ba U U U (by simp[Bg]) H at1 U ?_)));rintro w H;refine Ac U (qA (Ax (Ao (Dh U U U BH Ba H at1 U (show _=(.int _ _)from rfl) ?_))));obtain⟨E5,g5⟩:=E4.own H;exact⟨false,a4,(G l).length,c4,F,L2,by rw[hec];rfl,by rw[hec];exact E5.X,E5.GT,fun _=>⟨by rw[hec],by rw[hec];exact(I4.turn g5).weak MY.le⟩⟩
  .intro hB;replace hB:=CK hB;subst hB;dsimp only at hec;obtain⟨E3,g3⟩:=E2.own H;have I3:=I2.turn g3;replace H:=E3.O.ctx;obtain⟨w3,rfl⟩:=qD w;obtain⟨ms,R,-,hl,hok3⟩:=I3.ex;have hml:ms.length=nn:=by rw[hnum,<-hl,qal]
   have hbl:=Oh hne key;obtain⟨bi,hbi⟩:=qD (BX l key);obtain⟨x,hx1⟩:=AR (l:=ms) (i:=bi);have hxL:=Im.at hl hx1;have hpa:Cd l bi=x.it.page:=by unfold Cd;rw[hxL];rfl
   have hxb:=hb x.it (qad hxL);obtain⟨n',rfl⟩:∃n',n=n'+1:=⟨n - 1,by omega⟩;have Rk3:=(Rk.turn E3.GA).1;rw[<-hbi]at hec;obtain⟨r,hr⟩:=qD (C2 fr G key (n'+1) (rdC fr c page depth) (Cd l bi) (depth+1));rw[<-hr]at hec;rw[hpa]at hr;have hok5:r.1≠99:=fun h=>hok (by rw[hec,if_pos (by rw[h];decide)];exact h);obtain⟨eb1,eb2,eb3⟩:=Lq (fr:=fr) (G:=G) (key:=key) (m:=mx) (n:=n'+1) (c:=rdC fr c page depth) (p:=x.it.page) (d:=depth+1);rw[<-hr]at eb1 eb2 eb3;rw[rb1]at eb1;have hfew2:Few (rdC fr c page depth).A mx:=by rw[rb3];exact hfew
   replace eb3:=eb3 hfew2;refine Aq (Aa (Ad (Af Bq U (AG BK U H at0 U (Ai U (Ah qB (VV I3 ka kc _ key Rk3 U) U ?_))))));rintro v w5 ⟨rfl,rfl⟩;rw[<-hbi];refine Ac U (qA (Ad (An U (Af Bq U (AG BK U H at0 U (Ae U (Bj R Br Bh U U ?_)))))));refine Af F8 U (Bf DU U (R.fld hx1 U (j:=2) U) ?_);refine Ae U (AA U U ?_);rw[show((depth:Int)+1)=((depth+1:Nat):Int)by omega];refine Ai U (DI U (.func _ _ _) U ?_);refine Ah qB (IH n' U E3.X (by rw[rb1];omega) (by omega) x.it.page (depth+1) (by omega) (by omega) (MY Z _) E3.zlt (D.keep (E3.GA.weak MYZ)) ka kc ((Rk.turn E3.GA).weak MYZ) mx hfew2 (by omega) (by rw[<-hr];exact hok5)) U ?_;rintro v w5 ⟨kin,k5,n5,c5,F5,L5,rfl,X5,g5,hk5⟩;rw[<-hr]at X5 hk5;rw[<-hr];obtain⟨E5,gg5⟩:=E3.call X5 g5;have I5:=I3.turn gg5;replace H:=E5.O.ctx
   refine AM U (Ag U U (Ag U U (Be Cb H ?_)));rintro b15 w - H;refine Bi Ba U U U (by simp[Bg]) H at0 U ?_;rintro w H;refine Ac U (qA (Ar (Ad (Ae U (AZ U U (qA (Au _ U ?_ ?_)))))))
   .intro hC;replace hC:=Bu hC;rw[if_pos hC]at hec;refine Ad (BG BH Ba U H at1 U (Ae U (Bi Ba U U U (by simp[Bg]) H at2 U ?_)));rintro w H;refine Ac U (qA (Ax (Ao (Dh U U U BH Ba H at2 U (show _=(.int _ _)from rfl) ?_))));obtain⟨E6,-⟩:=E5.own H;exact⟨true,aa,nn,cc,F5,L5,by rw[hec],by rw[hec];exact E6.X,E6.GT,fun h=>absurd (by rw[hec]at h;exact h) hC⟩
   .intro hC;replace hC:=Bv hC;have hC':r.1=0:=by simpa using hC
    rw[if_neg (by simpa using hC)]at hec;obtain⟨rfl,K5⟩:=hk5 hC';obtain⟨E6,g6⟩:=E5.own H;have I6:=I5.turn g6;have K6:=(K5.weak Abi).turn g6;replace H:=E6.O.ctx;obtain⟨w6,rfl⟩:=qD w;obtain⟨sc,hsc⟩:=qD (Eg fr r.2.1 l bi depth r.2.2.1 r.2.2.2);rw[<-hsc]at hec;have hkn:=K6.num;obtain⟨sb1,sb2,sb3⟩:=Om (fr:=fr) (c:=r.2.1) (l:=l) (i:=bi) (d:=depth) (inner:=r.2.2.1) (kid:=r.2.2.2);rw[<-hsc]at sb1 sb2 sb3;obtain⟨kin,hkin⟩:=qD r.2.2.1;rw[<-hkin]at hec hsc H E6 I6 K6;rw[<-hkin];refine Aq (Aa (Ad (Ae U (Ae U (AA U U ?_)))));rw[show((bi:Int)+1)=((bi+1:Nat):Int)by omega];refine Ac U (Ac U (qA (Ar (Ad (BB (α:=Unit) 150525431641469941186560 (fun _=>[(76,.bool (kin && decide (n5=1)))]) (fun _ w'=>w6=w') U ?_ ?_)))))
    .refine Af Dl U (AG Gx U H at0 U (AC U (AX 71 U ?_ ?_)))
     .intro h1;refine Af Bq U (AG BK U H at0 U (AO Br U (B1 U U (AQ U (.bool _) U (Ab ?_)))));exact⟨rfl,(),rfl,⟨qac Value.bool (by(rw[h1]);(try rw[qar]);simp;try omega),trivial⟩,rfl⟩
     .intro h2;refine Ak U (Ak U (Ak U (Ak U (AN U (.bool _) U (Ab ?_)))));exact⟨rfl,(),rfl,⟨qac Value.bool (by(rw[h2]);(try rw[qar]);simp;try omega),trivial⟩,rfl⟩
    rintro - j76 w rfl;refine FF 2787593149816327892540849056629216545540096 (α:=ES) (fun s=>[(16,.int .i64 (s.fr:Int)),(17,.int .i64 (s.to:Int))]) (fun s w'=>Fr w0 Z (TM F ba bt bp L) w' bt bd bp ba fr bc s.ch F5 s.L ((b15,NBl kin s.a s.n s.c)::(b12,NBl true aa nn cc)::(b10,NBl false none 0 0)::s.Y)/\Its w' (MY (MZ (TM F5 ba bt bp s.L) Z) ((b15,NBl kin s.a s.n s.c)::(b12,NBl true aa nn cc)::(b10,NBl false none 0 0)::s.Y)) aa nn cc l/\Its w' (MY (MZ (TM F5 ba bt bp s.L) Z) ((b15,NBl kin s.a s.n s.c)::(b12,NBl true aa nn cc)::(b10,NBl false none 0 0)::s.Y)) s.a s.n s.c s.M/\sc=(0,s.ch,s.M,s.fr,s.to)/\s.fr<=nn/\s.to<=nn) U ?_ ?_
    .skip
     refine Au _ U ?_ ?_
     .intro hE;have hfw:Ih kin r.2.2.2=true:=by unfold Ih;rw[<-hkn];exact hE
      have hk1:kin=true/\n5=1:=by simpa using hE
      obtain⟨hk2,hn5⟩:=hk1;have hk5l:=K6.le;unfold Eg at hsc;rw[if_pos hfw]at hsc;refine Ar (Ad (Ae U (B4 U U ?_)));refine Py U U U ?_;rw[show max ((bi:Int) - 1) 0=((bi - 1:Nat):Int)by omega];refine Ae U (AA U U ?_);rw[show((bi:Int)+1)=((bi+1:Nat):Int)by omega];refine Ac U (Ac U (qA (Ad (Ae U (B1 U U (qA (FF 131072 (α:=Unit) (fun _=>[(17,.int .i64 ((if bi=0 then 2 else bi+1:Nat):Int))]) (fun _ w'=>w6=w') U ?_ ?_)))))))
      .skip
       refine Au _ U ?_ ?_
       .intro hF;replace hF:=AU hF;refine Av (Ac U (qA ?_));exact⟨(),rfl,⟨qac (Value.int .i64) (by rw[if_pos (by omega)];rfl),trivial⟩,rfl⟩
       .intro hF;replace hF:=AV hF;refine Aq (Aa ?_);exact⟨(),rfl,⟨qac (Value.int .i64) (by rw[if_neg (by omega)]),trivial⟩,rfl⟩
      .rintro - j17 w' rfl;obtain⟨to,hto⟩:=qD (if bi=0 then 2 else bi+1);rw[<-hto]at hsc |-;obtain⟨kk,hkk⟩:=qD (Ii bi);rw[<-hkk]at hsc;have hto2:to<=bi+2:=by rw[hto];split <;> omega
       have hkk2:((bi - 1:Nat):Int)+(to:Int) - 1 - (bi:Int)=(kk:Int):=by
        rw[hkk,hto];unfold Ii
        by_cases h0:bi=0
        .rw[if_pos h0,if_pos h0];omega
        .rw[if_neg h0,if_neg h0];omega
       have htk:kk+1=to\/to<=nn:=by
        rw[hto,hkk];unfold Ii
        by_cases h0:bi=0
        .left;rw[if_pos h0,if_pos h0]
        .right;rw[if_neg h0];omega
       refine Ad (Ae U (Ae U (AA U U ?_)));refine B4 U U (Ae U (B4 U U ?_));rw[hkk2];refine Ac U (qA (Ar (Ad (Ae U (Af Bq U (AG BK U H at1 U (AO Br U (HN U U (qA ?_)))))))));refine Au _ U ?_ ?_
       .intro hG;replace hG:=AU hG;rw[if_pos (by omega)]at hsc;rw[hsc]at hec;dsimp only at hec;rw[if_pos (by decide)]at hec;refine Ad (BG BH Ba U H at1 U (Bi Ba U U U (by simp[Bg]) H at2 U ?_));rintro w H;refine Ac U (qA (Ax (Ao (Ao (Dh U U U BH Ba H at2 U (show _=(.int _ _)from rfl) ?_)))));obtain⟨E7,-⟩:=E6.own H;exact⟨true,aa,nn,cc,F5,L5,by rw[hec],by rw[hec];exact E7.X,E7.GT,fun h=>by rw[hec]at h;cases h⟩
       .intro hG;replace hG:=AV hG;rw[if_neg (by omega)]at hsc;obtain⟨ms6,R6,-,hl6,hok6⟩:=I6.ex;have hml6:ms6.length=nn:=by rw[hnum,<-hl6,qal]
        obtain⟨y,hy1⟩:=AR (l:=ms6) (i:=kk);have hyL:=Im.at hl6 hy1;have hpy:Cd l kk=y.it.page:=by unfold Cd;rw[hyL];rfl
        have hyb:=hb y.it (qad hyL);obtain⟨rt2,hrt2⟩:=qD (Dc r.2.1.A fr r.2.1.P.length ((y.it.page:Nat):Int) ((depth+1:Nat):Int));rw[hpy,<-hrt2]at hsc;refine Aq (Aa (Ad (An U (Af Bq U (AG BK U H at1 U (Ae U (Bj R6 Br Bh U U ?_)))))));refine Af F8 U (Bf DU U (R6.fld hy1 U (j:=2) U) ?_);refine Ae U (AA U U ?_);rw[show((depth:Int)+1)=((depth+1:Nat):Int)by omega];refine Ah qB (Wb E6.X hfr y.it.page (depth+1) eb3) U ?_;rintro v w7 ⟨oin,oa,on,oc,L7,rfl,X7,g7,hits7⟩;rw[<-hrt2]at hits7;rw[<-hrt2];obtain⟨E7,gg7⟩:=E6.call X7 g7;replace H:=E7.O.ctx;refine AM U (Ag U U (Ag U U (Be Cb H ?_)));rintro b19 w - H;refine Bi Ba U U U (by simp[Bg]) H at0 U ?_;rintro w H
        refine Ac U (qA (Ar (Ad (BB (α:=Unit) 82427712629240388602921629226369024 (fun _=>[(115,.bool (decide (rt2.1=0) && !oin))]) (fun _ w'=>Ctx w7 [b15,b12,b10] w' [(b19,NBl oin oa on oc),(b15,NBl kin k5 n5 c5),(b12,NBl true aa nn cc),(b10,NBl false none 0 0)]) U ?_ ?_))))
        .refine Ae U (B1 U U (AC U (AX 111 U ?_ ?_)))
         .intro h3;replace h3:=AU h3;refine Af Dl U (AG Gx U H at0 U (Cl U (AQ U (.bool _) U (Ab ?_))));exact⟨rfl,(),rfl,⟨qac Value.bool (by(rw[qam h3]);simp),trivial⟩,H⟩
         .intro h4;replace h4:=AV h4;refine Ak U (Ak U (Ak U (AN U (.bool _) U (Ab ?_))));exact⟨rfl,(),rfl,⟨qac Value.bool (by(rw[qai h4]);simp),trivial⟩,H⟩
        rintro - j115 w H;refine Au _ U ?_ ?_
        .intro hI;have hI2:rt2.1=0/\oin=false:=by simpa using hI
         obtain⟨⟨i2,o⟩,hsome2⟩:∃z,rt2.2=some z:=by
          cases h5:rt2.2 with
          |none=>rw[hrt2]at h5;exact absurd (by rw[<-hrt2];exact hI2.1) (Ic h5)
          |some z=>exact⟨z,rfl⟩
         obtain⟨hi2,-,-⟩:=hits7 i2 o hsome2;rw[hsome2,<-hi2,hI2.2]at hsc;dsimp only at hsc;rw[hsc]at hec;dsimp only at hec;rw[if_pos (by decide)]at hec;refine Av (Ac U (qA (Ar (Ad (Ae U (AZ U U (qA (Au _ U ?_ ?_))))))))
         .intro hJ;replace hJ:=Bu hJ;refine Ad (BG BH Ba U H at2 U (Ae U (Bi Ba U U U (by simp[Bg]) H at3 U ?_)));rintro w H;refine Ac U (qA (Ax (Ao (Ao (Dh U U U BH Ba H at3 U (show _=(.int _ _)from rfl) ?_)))));obtain⟨E8,-⟩:=E7.own H;exact⟨true,aa,nn,cc,F5,L7,by rw[hec],by rw[hec];exact E8.X,E8.GT,fun h=>by rw[hec]at h;cases h⟩
         .intro hJ;replace hJ:=Bv hJ;exact absurd hJ (by decide)
        .intro hI;refine Aq (Aa (Ar (Ad (Ae U (AZ U U (qA (Au _ U ?_ ?_)))))))
         .intro hJ;replace hJ:=Bu hJ
          have hnone2:rt2.2=none:=by
           cases h5:rt2.2 with
           |none=>rfl
           |some z=>obtain⟨i2,o⟩:=z;rw[hrt2]at h5;exact absurd (by rw[hrt2];exact(Fe h5).1) hJ
          rw[hnone2]at hsc;dsimp only at hsc;rw[hsc]at hec;dsimp only at hec;rw[if_pos hJ]at hec;have hrd2:rdC fr r.2.1 y.it.page (depth+1)=r.2.1:=by unfold rdC;rw[<-hrt2,if_neg hJ]
          refine Ad (BG BH Ba U H at2 U (Ae U (Bi Ba U U U (by simp[Bg]) H at3 U ?_)));rintro w H;refine Ac U (qA (Ax (Ao (Ao (Dh U U U BH Ba H at3 U (show _=(.int _ _)from rfl) ?_)))));obtain⟨E8,-⟩:=E7.own H;have X8:=E8.X;rw[hrd2]at X8;exact⟨true,aa,nn,cc,F5,L7,by rw[hec],by rw[hec];exact X8,E8.GT,fun h=>absurd (by rw[hec]at h;exact h) hJ⟩
         .intro hJ;replace hJ:=Bv hJ;have hJ':rt2.1=0:=by simpa using hJ
          obtain⟨⟨i2,o⟩,hsome2⟩:∃z,rt2.2=some z:=by
           cases h5:rt2.2 with
           |none=>rw[hrt2]at h5;exact absurd (by rw[<-hrt2];exact hJ') (Ic h5)
           |some z=>exact⟨z,rfl⟩
          obtain⟨rfl,O7,hb7⟩:=hits7 i2 o hsome2
          have hoin:oin=true:=by
           cases oin with
           |true=>rfl
           |false=>rw[hJ']at hI;simp at hI
          subst hoin;rw[hsome2]at hsc;dsimp only at hsc;obtain⟨-,-,-,-,-,hol⟩:=Fe (A:=r.2.1.A) (fr:=fr) (sz:=r.2.1.P.length) (page:=((y.it.page:Nat):Int)) (depth:=((depth+1:Nat):Int)) (by rw[<-hrt2];exact hsome2);obtain⟨E8,g8⟩:=E7.own H;have I8:=(I6.turn gg7).turn g8;have K8:=(K6.turn gg7).turn g8;have O8:=(O7.weak E6.fresh).turn g8;have hon:=O8.num;have htn:to<=nn:=by omega
          replace H:=E8.O.ctx;obtain⟨w8,rfl⟩:=qD w;refine Aq (Aa (Ad (Af Bq U (AG BK U H at1 U (Af Bq U (AG BK U H at0 U (Aaw [.slice k5 n5 c5,.slice oa on oc] U J7 C4 Ae5 ?_)))))));refine Be Ae5 H ?_;rintro b21 w - H;refine Bi Alx U U U (by simp[Bg]) H at0 U ?_;rintro w H;refine qA (Ar (Ad (Ae U (Ae U (Bt U U (qA (Au _ U ?_ ?_)))))))
          .intro hK;replace hK:=AU hK
           have hbi0:bi≠0:=by
            intro h0;rw[hkk]at hK;unfold Ii at hK;rw[if_pos h0]at hK;omega
           rw[if_neg hbi0]at hsc;refine Av (Ed J7 C4 U U ?_);refine AG BK U H at0 U (Ed J7 C4 U U ?_);refine AG BK U H at0 U (Ed J7 C4 U U ?_);refine Bc (.slice _ _ _) C4 U U U H at0 (by(simp;done)) ?_;rintro w H;refine Ed J7 C4 U U (Bc (.slice _ _ _) C4 U U U H at0 (by(simp;done)) ?_);rintro w H;refine qA (Av (Ed J7 C4 U U ?_));refine AG BK U H at0 U (Ed J7 C4 U U ?_);refine AG BK U H at0 U (BQ [.slice oa on oc,.slice k5 n5 c5] HV C4 Mf H ?_);rintro b138 w - H;obtain⟨E9,g9⟩:=E8.own H;have I9:=I8.turn g9;have K9:=K8.turn g9;have O9:=O8.turn g9
           have RR:Rd w (some ⟨b138,0,none⟩) 1 Nu [(oa,o,oc),(k5,r.2.2.2,c5)]:=Rd.of_bl (r:=[]) (H.get at0) (by simp[Nu,<-hon,<-hkn]) (fun _ _=>rfl);have CC:=FK (n:=2) (c:=2) E9.mylt _ RR (QV O9 K9) rfl (by simp only[qay,qbr,qcz,qc9];omega);rw[show([(oa,o,oc),(k5,r.2.2.2,c5)]:List SI).flatMap (fun x=>x.2.1)=o++r.2.2.2 by simp]at CC;refine Ah qB CC U ?_;rintro v w11 ⟨a11,c11,rfl,J11,hx11⟩;obtain⟨E11,g11⟩:=E9.call0 hx11;replace H:=E11.O.ctx;refine Af Bq U (Bc (.slice _ _ _) C4 U U U H at3 (by(simp;done)) ?_);rintro w H;refine qA ?_;obtain⟨E12,g12⟩:=E11.own H.tail.tail.tail;exact⟨⟨a11,(o++r.2.2.2).length,c11,o++r.2.2.2,bi - 1,to,rdC fr r.2.1 y.it.page (depth+1),L7,[]⟩,rfl,⟨rfl,rfl,trivial⟩,E12,(I9.turn g11).turn g12,J11.turn g12,hsc,by dsimp only;omega,htn⟩
          .intro hK;replace hK:=AV hK
           have hbi0:bi=0:=by
            rw[hkk]at hK;unfold Ii at hK
            by_cases h0:bi=0
            .exact h0
            .rw[if_neg h0]at hK;omega
           rw[if_pos hbi0]at hsc;refine Aq (Aa (Av (Ed J7 C4 U U ?_)));refine AG BK U H at0 U (Ed J7 C4 U U ?_);refine AG BK U H at0 U (BQ [.slice k5 n5 c5,.slice oa on oc] HV C4 Mf H ?_);rintro b138 w - H;obtain⟨E9,g9⟩:=E8.own H;have I9:=I8.turn g9;have K9:=K8.turn g9;have O9:=O8.turn g9;have RR:Rd w (some ⟨b138,0,none⟩) 1 Nu [(k5,r.2.2.2,c5),(oa,o,oc)]:=Rd.of_bl (r:=[]) (H.get at0) (by simp[Nu,<-hon,<-hkn]) (fun _ _=>rfl);have CC:=FK (n:=2) (c:=2) E9.mylt _ RR (QV K9 O9) rfl (by simp only[qay,qbr,qcz,qc9];omega);rw[show([(k5,r.2.2.2,c5),(oa,o,oc)]:List SI).flatMap (fun x=>x.2.1)=r.2.2.2++o by simp]at CC;refine Ah qB CC U ?_;rintro v w11 ⟨a11,c11,rfl,J11,hx11⟩;obtain⟨E11,g11⟩:=E9.call0 hx11;replace H:=E11.O.ctx
           refine Af Bq U (Bc (.slice _ _ _) C4 U U U H at3 (by(simp;done)) ?_);rintro w H;refine qA ?_;obtain⟨E12,g12⟩:=E11.own H.tail.tail.tail;exact⟨⟨a11,(r.2.2.2++o).length,c11,r.2.2.2++o,bi - 1,to,rdC fr r.2.1 y.it.page (depth+1),L7,[]⟩,rfl,⟨rfl,rfl,trivial⟩,E12,(I9.turn g11).turn g12,J11.turn g12,hsc,by dsimp only;omega,htn⟩
     .intro hE;have hfw:¬Ih kin r.2.2.2=true:=by unfold Ih;rw[<-hkn,hE];simp
      unfold Eg at hsc;rw[if_neg hfw]at hsc;refine Aq (Aa ?_);exact⟨⟨k5,n5,c5,r.2.2.2,bi,bi+1,r.2.1,L5,[]⟩,rfl,⟨rfl,rfl,trivial⟩,E6,I6,K6,hsc,by dsimp only;omega,by dsimp only;omega⟩
    .rintro⟨sa,sn,scc,sM,sfr,sto,sch,L8,Y8⟩ j8 w ⟨E8,I8,K8,hsc8,hfn,htn⟩;dsimp only at E8 I8 K8 hsc8 hfn htn;dsimp only;rw[hsc8]at hec;dsimp only at hec;rw[if_neg (by simp)]at hec;have hch:sch=sc.2.1:=by rw[hsc8]
     rw[<-hch]at sb1 sb2 sb3;obtain⟨q,hq⟩:=qD (Ex fr sch kin sM);rw[<-hq]at hec;have hok8:q.1≠99:=fun h=>hok (by rw[hec];exact h);obtain⟨hokM,hqc⟩:=Z5 (fr:=fr) (c:=sch) (i:=kin) (M:=sM) (by rw[<-hq];exact hok8);rw[<-hq]at hqc;obtain⟨m1,m2,m3,m4⟩:=Age hokM;obtain⟨qb1,qb2,qb3,qb4⟩:=KB (fr:=fr) (c:=sch) (i:=kin) (M:=sM) (m:=mx+2*(n'+1));rw[<-hq]at qb1 qb2 qb3 qb4;have hkn8:=K8.num;have hcc8:=I8.le;have hfew8:Few sch.A (mx+2*(n'+1)):=by rw[sb3];exact eb3
     have H:=E8.O.ctx;refine Ad (An U (BG BH Ba U H at0 U (Ah qB (Z2 E8.X hfr (by rw[sb1];omega) kin (MY Z _) E8.zlt (K8.weak MYZ) m2 m3 m4 hfew8) U ?_)));rintro v w9 ⟨qa,qn,qc,F9,L9,rfl,X9,g9,Q9⟩;rw[<-hqc]at X9 Q9;rw[<-hqc];obtain⟨E9,gg9⟩:=E8.call X9 g9;have Q9':=Q9.weak Abi;have I9:=I8.turn gg9;replace H:=E9.O.ctx;refine AM U (Ag U U (Ag U U (Aj U (Ac U (qA (BR [([0,1,2,3,4,5,6,7,8],9),([],10),([11],12)] (fun z=>z.heap[b12]?=some (NBl true aa nn cc)) [12] mixed (H.drew.get at1) ?_))))));refine AB U U (AE Bq U (BJ BK U (fun _ hx=>Ap hx (0+1)) ?_));refine BM U (GC U Br Bh U U ?_);refine Cg U (AE Bq U (BJ BK U (fun _ hx=>Ap hx (0+1)) ?_));refine BM U (FG Br Bh U U ?_);refine Bm ?_;replace H:=H.drew
     refine BQ [.slice aa sfr cc,.slice qa qn qc,.slice (Em aa cc sto 3) (nn - sto) (cc - sto)] HV C4 Mf H ?_;rintro b156 w - H;refine Ab (Bb (H.get at2) (AB U U ?_));refine Bm ?_;obtain⟨E10,g10⟩:=E9.own H;have I10:=I9.turn g10;have Q10:=Q9'.turn g10;have hlt9:(l.take sfr).length=sfr:=(by rw[qa1];omega);have hld9:(l.drop sto).length=nn - sto:=(by rw[qbe];omega);have hqn9:q.2.2.length=qn:=Q10.num.symm;have RR:Rd w (some ⟨b156,0,none⟩) 1 Nu [(aa,l.take sfr,cc),(qa,q.2.2,qc),(Em aa cc sto 3,l.drop sto,cc - sto)]:=Rd.of_bl (r:=[]) (H.get at0) (by simp[Nu,hlt9,hld9,hqn9]) (fun _ _=>rfl);have hIts:∀x∈([(aa,l.take sfr,cc),(qa,q.2.2,qc),(Em aa cc sto 3,l.drop sto,cc - sto)]:List SI),Its w _ x.1 x.2.1.length x.2.2 x.2.1:=Yt I10 Q10 hfn htn hlt9 hld9
     have hfl:([(aa,l.take sfr,cc),(qa,q.2.2,qc),(Em aa cc sto 3,l.drop sto,cc - sto)]:List SI).flatMap (fun x=>x.2.1)=l.take sfr++(q.2.2++l.drop sto):=(by simp);have CC:=FK (n:=3) (c:=3) E10.mylt _ RR hIts rfl (by simp only[qay,qbr,qcz,qc9];omega);rw[hfl]at CC;refine Ah qB CC U ?_;rintro v w11 ⟨a11,c11,rfl,J11,hx11⟩;obtain⟨E11,g11⟩:=E10.call0 hx11;replace H:=E11.O.ctx;refine Ab (Bb (H.get at2) (AB U U ?_));refine AE Bq U (Bm (Bc (.slice _ _ _) C4 U U U H at2 (by(simp;done)) ?_));rintro w H;refine Ab (CR U (B3 (Ad (BG BH Ba U H at2 U (Ae U (Bi Ba U U U (by simp[Bg]) H at3 U ?_))))));rintro w H;refine Ac U (qA (Ax (Dh U U U BH Ba H at3 U (show _=(.int _ _)from rfl) ?_)));obtain⟨E12,g12⟩:=E11.own H
     exact⟨true,a11,_,c11,F9,L9,by rw[hec];rfl,by rw[hec];exact E12.X,E12.GT,fun _=>⟨by rw[hec],by rw[hec];exact(J11.turn g12).weak MY.le⟩⟩
theorem Wh{f:Nat}{cl:List Value}{G:List It->List It}{key:Byt}{fr:Nat}(hf:Aw prog f=true)(hfr:fr<=5000)(hkl:key.length<=100000):∀n,Ys f cl G key fr n
 |0=>T8 hf hfr hkl 0 fun n' h=>by omega
 |n+1=>T8 hf hfr hkl (n+1) fun n' h=>by
   obtain rfl:n=n':=by omega
   exact Wh hf hfr hkl n
theorem TA(P:List Nat):(Ie P).length=P.length:=by
 unfold Ie;split
 .rfl
 .simp
theorem Aiu{fr:Nat}{c:Ch}{i:Bool}{M:List It}:(wrC fr c i M).2.P.length=c.P.length:=by
 unfold wrC
 split
 .rfl
 .split
  .exact TA _
  .exact TA _
theorem Z6{fr:Nat}{i:Bool}:∀{Hs:List (List It)} {c:Ch} {acc:List It},c.P.length<=4096->(∀h∈Hs,(FL h).length<=65535)->(∀x∈acc,x.key.length<=65535/\x.val.length<=65535/\x.page<=4096)->∀x∈(Cs fr i Hs c acc).2.2,x.key.length<=65535/\x.val.length<=65535/\x.page<=4096
 | [],c,acc,_,_,ha=>ha
 |h::Hs,c,acc,hP,hk,ha=>by
  unfold Cs
  split
  .refine Z6 (by rw[Aiu];exact hP) (fun h hh=>hk h (qag _ hh)) fun x hx=>?_
   rcases qau.1 hx with hx|hx
   .exact ha x hx
   .rw[qaa.1 hx];have:=Wa c.P;exact⟨hk h (qae ..),by simp,by dsimp only;omega⟩
  .intro x hx;cases hx
theorem Aiv{fr:Nat}{c:Ch}{i:Bool}{M:List It}(hP:c.P.length<=4096)(hM:∀x∈M,x.key.length<=65535):∀x∈(IR fr c i M).2.2,x.key.length<=65535/\x.val.length<=65535/\x.page<=4096:=by
 unfold IR
 split
 .intro x hx;cases hx
 .refine Z6 hP (fun h hh=>?_) (fun x hx=>by cases hx);unfold FL
  cases h0:h[0]? with
  |none=>simp
  |some y=>exact hM y ((QR hh).2 y (qad h0))
theorem Aiw{w:World}{bt bd bp ba fr bc:Nat}{c:Ch}{F:Mut}{L:List (Nat × Obj)}(X:Cx w bt bd bp ba fr bc c F L)(hfr:fr<=5000)(inner:Bool){a:Option Addr}{n cc:Nat}{M:List It}(Z:Mut)(hZ:∀x,Z x->x<w.heap.size)(I:Its w (MZ (TM F ba bt bp L) Z) a n cc M){mx:Nat}(hfew:Few c.A mx)(hok:(DM fr c inner M).1≠99)(htk:c.tk.length<=99980:=by omega)(hmx:mx<=999999980:=by omega):
  Ret prog 177 #[ptr bc,.agg #[.bool inner,.slice a n cc]] w fun v w'=>∃(p:Int) (F':Mut) (L':List (Nat × Obj)),v=.tuple #[.int .i64 p,.int .i64 (DM fr c inner M).1]/\Cx w' bt bd bp ba fr bc (DM fr c inner M).2.1 F' L'/\Grown (TM F ba bt bp L) (TM F' ba bt bp L') w w'/\((DM fr c inner M).1=0->p=(DM fr c inner M).2.2):=by
 obtain⟨w0,rfl⟩:=qD w;have hnum:=I.num;obtain⟨tc,htc⟩:=qD (DM fr c inner M);rw[<-htc]at hok |-;unfold DM at htc;have E0:=Fr.start X hZ;have H:=Ctx.start w0 [];refine A6 (fn:=f177) func177 U [.pointer (some ⟨bc,0,none⟩),.agg #[.bool inner,.slice a n cc]] U ?_;refine Ad (Co [.bool inner,.slice a n cc] (.agg _) U U H ?_);rintro b3 w - H;refine Ac U (Ac U (qA (Ar (Ad (BB (α:=Unit) 261120 (fun _=>[(17,.bool (inner && decide (n=1)))]) (fun _ w'=>Ctx w0 [] w' [(b3,Bl 183 [.bool inner,.slice a n cc])]) U ?_ ?_)))))
 .refine Af Dl U (AG Gx U H at0 U (AC U (AX 12 U ?_ ?_)))
  .intro h1;refine Af Bq U (AG BK U H at0 U (AO Br U (B1 U U (AQ U (.bool _) U (Ab ?_)))));exact⟨rfl,(),rfl,⟨qac Value.bool (by(rw[h1]);(try rw[qar]);simp;try omega),trivial⟩,H⟩
  .intro h2;refine Ak U (Ak U (Ak U (Ak U (AN U (.bool _) U (Ab ?_)))));exact⟨rfl,(),rfl,⟨qac Value.bool (by(rw[h2]);(try rw[qar]);simp;try omega),trivial⟩,H⟩
 rintro - j17 w H;refine Au _ U ?_ ?_
 .intro hA;have hfw:Ih inner M=true:=by unfold Ih;rw[<-hnum];exact hA
  rw[if_pos hfw]at htc;have hn1:n=1:=by simp at hA;exact hA.2
  obtain⟨E1,g1⟩:=E0.own H;have I1:=(I.weak MY.nil).turn g1;replace H:=E1.O.ctx;obtain⟨ms,R,-,hl,hok1⟩:=I1.ex;have hml:ms.length=n:=by rw[hnum,<-hl,qal]
  obtain⟨x,hx1⟩:=AR (l:=ms) (i:=0);have hxL:=Im.at hl hx1;have hpa:Cd M 0=x.it.page:=by unfold Cd;rw[hxL];rfl
  refine Ad (Af Bq U (AG BK U H at0 U (Bj R Br Bh U U ?_)));refine Af F8 U (Bf DU U (R.fld hx1 U (j:=2) U) ?_);refine Ac U (Ac U (qA (Ax (Ao (Ce (v1:=(.int _ _)) (v2:=(.int _ _)) U U U U ?_)))));exact⟨_,F,L,by rw[htc],by rw[htc];exact E1.X,E1.GT,fun _=>by rw[htc,hpa]⟩
 .intro hA;have hfw:¬Ih inner M=true:=by unfold Ih;rw[<-hnum,hA];simp
  rw[if_neg hfw]at htc;obtain⟨q,hq⟩:=qD (Ex fr c inner M);rw[<-hq]at htc;have hok8:q.1≠99:=fun h=>hok (by rw[htc,if_pos (by rw[h];decide)];exact h);obtain⟨hokM,hqc⟩:=Z5 (fr:=fr) (c:=c) (i:=inner) (M:=M) (by rw[<-hq];exact hok8);rw[<-hq]at hqc;obtain⟨m1,m2,m3,m4⟩:=Age hokM;obtain⟨qb1,qb2,qb3,qb4⟩:=KB (fr:=fr) (c:=c) (i:=inner) (M:=M) (m:=mx);rw[<-hq]at qb1 qb2 qb3 qb4;have hsz:=Aiv (fr:=fr) (c:=c) (i:=inner) (M:=M) X.T.pg.len (fun x hx=>(m2 x hx).1);rw[<-hqc]at hsz;obtain⟨E1,g1⟩:=E0.own H;have I1:=(I.weak MY.nil).turn g1;replace H:=E1.O.ctx;refine Aq (Aa (Ad (An U (BG BH Ba U H at0 U (Ah qB (Z2 E1.X hfr (by omega) inner (MY Z _) E1.zlt (I1.weak MYZ) m2 m3 m4 hfew) U ?_)))));rintro v w9 ⟨qa,qn,qc,F9,L9,rfl,X9,g9,Q9⟩;rw[<-hqc]at X9 Q9;rw[<-hqc];obtain⟨E9,gg9⟩:=E1.call X9 g9;have hqn:=Q9.num;replace H:=E9.O.ctx
  refine AM U (Ag U U (Ag U U (Aj U (Ac U (qA (Ar (Ad (BB (α:=Unit) 68182605824 (fun _=>[(35,.bool (decide (q.1≠0) || decide (q.2.2.length=0)))]) (fun _ w'=>Ctx w9 [b3] w' [(b3,Bl 183 [.bool inner,.slice a n cc])]) U ?_ ?_))))))))
  .refine Ae U (AZ U U (AC U (AX 31 U ?_ ?_)))
   .intro h3;replace h3:=Bu h3;refine Ak U (Ak U (Ak U (AQ U (.bool _) U (Ab ?_))));exact⟨rfl,(),rfl,⟨qac Value.bool (by(rw[qam (show q.1≠0 from h3)]);(try rw[<-hqn]);(try rw[qar]);simp;try omega),trivial⟩,H⟩
   .intro h4;replace h4:=Bv h4;refine Ai U (AO Br U (B1 U U (AN U (.bool _) U (Ab ?_))));exact⟨rfl,(),rfl,⟨qac Value.bool (by(rw[qai (show ¬q.1≠0 from fun h=>h h4)]);(try rw[<-hqn]);(try rw[qar]);simp;try omega),trivial⟩,H⟩
  rintro - j35 w H;refine Au _ U ?_ ?_
  .intro hB;refine Ad (Ae U (Ac U (Ac U (qA (Ax (Ao (Ce (v1:=(.int _ _)) (v2:=(.int _ _)) U U U U ?_)))))));obtain⟨E10,-⟩:=E9.own H
   by_cases h0:q.1=0
   .have h1:q.2.2=[]:=by
     rw[h0]at hB
     simpa using hB
    rw[if_neg (by rw[h0];simp),if_pos h1]at htc;exact⟨-1,F9,L9,by rw[htc,h0],by rw[htc];exact E10.X,E10.GT,fun _=>by rw[htc]⟩
   .rw[if_pos h0]at htc;exact⟨-1,F9,L9,by rw[htc],by rw[htc];exact E10.X,E10.GT,fun _=>by rw[htc]⟩
  .intro hB
   have hB2:q.1=0/\q.2.2≠[]:=by
    simp at hB;exact⟨hB.1,hB.2⟩
   obtain⟨h0,h1⟩:=hB2;rw[if_neg (by rw[h0];simp),if_neg h1]at htc;obtain⟨E10,g10⟩:=E9.own H;have Q10:=(Q9.weak Abi).turn g10;replace H:=E10.O.ctx;obtain⟨w10,rfl⟩:=qD w;refine Aq (Aa (Ar (Ad (Ai U (AO Br U (Ci U U (qA (Au _ U ?_ ?_))))))))
   .intro hC;replace hC:=AU hC;rw[if_pos (by omega)]at htc;refine Ad (An U (Ai U (B0 [.bool true,.slice qa qn qc] Gp Cb ?_)));refine Ah qB (Ol E10.X hfr true (MY Z _) (Q10.weak MYZ) h1 (fun x hx=>⟨(hsz x hx).1,(hsz x hx).2.1⟩) (fun x hx=>by have:=(hsz x hx).2.2;omega) (qb3 hfew)) U ?_;rintro v w11 ⟨m,F11,L11,rfl,X11,g11,-,-,hm11⟩;obtain⟨E11,-⟩:=E10.call X11 g11;replace H:=E11.O.ctx;refine AM U (Ag U U (Ag U U (Be Cr H ?_)));rintro b8 w - H;refine Bi Bh U U U (by exact(by exact Im.oneE _)) H at0 U ?_;rintro w H;refine Ac U (qA (Ad (Af F8 U (AG DU U H at0 U (Ae U (Ac U (Ac U (qA (Ax (Ao (Ce (v1:=(.int _ _)) (v2:=(.int _ _)) U U U U ?_)))))))))));obtain⟨E12,-⟩:=E11.own H;exact⟨_,F11,L11,by rw[htc],by rw[htc];exact E12.X,E12.GT,fun h=>by rw[htc]at h |-;rw[hm11 h]⟩
   .intro hC;replace hC:=AV hC;rw[if_neg (by omega)]at htc;obtain⟨ms,R,-,hl,hok1⟩:=Q10.ex;have hml:ms.length=qn:=by rw[hqn,<-hl,qal]
    have hpos:=qbv.2 h1;obtain⟨x,hx1⟩:=AR (l:=ms) (i:=0);have hxL:=Im.at hl hx1;have hpa:Cd q.2.2 0=x.it.page:=by unfold Cd;rw[hxL];rfl
    refine Aq (Aa (Ad (Ai U (Bj R Br Bh U U ?_))));refine Af F8 U (Bf DU U (R.fld hx1 U (j:=2) U) ?_);refine Ac U (Ac U (qA (Ax (Ce (v1:=(.int _ _)) (v2:=(.int _ _)) U U U U ?_))));exact⟨_,F9,L9,by rw[htc],by rw[htc];exact E10.X,E10.GT,fun _=>by rw[htc,hpa]⟩
end Go.Proofs.YtcpgbcabmcbclaaGreatDoor
