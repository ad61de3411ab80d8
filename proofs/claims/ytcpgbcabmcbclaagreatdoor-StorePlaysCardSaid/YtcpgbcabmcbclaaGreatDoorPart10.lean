/- Part 10 of the proof. -/
import Derived.Test.YtcpgbcabmcbclaaGreatDoorPart9
set_option maxRecDepth 20000
set_option maxHeartbeats 4000000
namespace Go.Proofs.YtcpgbcabmcbclaaGreatDoor
open Go.GV Go.Proofs.Tryz
attribute [local irreducible] AA W Wq Wt
theorem Py{A:Dev}{J:Jr}{s:Byt}:∀(n i:Nat) (s0:Byt),Qg A J n i s0=some s->∃j,i<=j/\j<i+n/\j=blk s.length - 1/\L6 J j s (at' A (J.place j))=true
 |0,_,_,h=>by cases h
 |n+1,i,s0,h=>by
  unfold Qg at h
  split at h
  .obtain⟨j,h1,h2,h3⟩:=Py n _ _ h;exact⟨j,by omega,by omega,h3⟩
  .split at h
   .rename_i h2
    cases h;refine⟨i,qae _,by omega,?_,h2⟩;simp only[L6,qao,qaq]at h2;exact h2.2.2.1
   .cases h
theorem Aeq{A:Dev}{J:Jr}{s:Byt}(h:HZ A J=some s):J.taken+blk s.length<=J.size:=by
 obtain⟨j,h1,h2,h3,-⟩:=Py _ _ _ h;have:=Er s.length;omega
theorem Jr.Ok.passes{J:Jr}(h:J.Ok)(hq:J.seq<=4611686018427387904+J.taken){n:Nat}(hf:J.taken+blk n<=J.size):(J.passes n).Ok/\(J.passes n).seq<=4611686018427387904+(J.passes n).taken:=by
 have h1:=h.s1;have h2:=h.s2;have h3:=Er n;have hm:=qbm (J.at'+blk n) (show 0<J.size by omega);refine⟨⟨h.s1,h.s2,hm,hf,?_⟩,?_⟩
 .show J.seq+1<=_;omega
 .show J.seq+1<=_+(J.taken+blk n);omega
def LA(A:Dev):Nat->Jr->List Byt × Jr
 |0,J=>([],J)
 |n+1,J=>match HZ A J with
  |none=>([],J)
  |some s=>(s::(LA A n (J.passes s.length)).1,(LA A n (J.passes s.length)).2)
def LB(A:Dev)(J:Jr):List Byt × Jr:=LA A (J.size+1) J
theorem Tf{A:Dev}{J:Jr}(n:Nat)(h:HZ A J=none):LA A (n+1) J=([],J):=by unfold LA;rw[h]
theorem Tg{A:Dev}{J:Jr}(n:Nat){s:Byt}(h:HZ A J=some s):LA A (n+1) J=(s::(LA A n (J.passes s.length)).1,(LA A n (J.passes s.length)).2):=by
 show(match HZ A J with|none=>_|some s=>_)=_;rw[h]
structure Strs(w:World)(a:Option Addr)(n c:Nat)(L:List Byt):Prop where
 ex:∃xs:List SB,Rd w a 1 Aiq xs/\xs.map (fun x=>x.2.1)=L/\∀x∈xs,RdS w x
 num:n=L.length
 le:n<=c
theorem Strs.ext0{w w':World}{a:Option Addr}{n c:Nat}{L:List Byt}(h:Strs w a n c L)(hx:Ext [] w w'):Strs w' a n c L :=
 let ⟨xs,R,hl,hr⟩:=h.ex;⟨⟨xs,R.ext0 hx,hl,fun x hm=>(hr x hm).ext0 hx⟩,h.num,h.le⟩
structure StrsF(N:Nat)(w:World)(a:Option Addr)(n c:Nat)(L:List Byt):Prop where
 ex:∃xs:List SB,Rd w a 1 Aiq xs/\xs.map (fun x=>x.2.1)=L/\(∀x∈xs,RdS w x)/\(xs=[]\/N<=(adr a).block)/\∀x∈xs,x.2.1=[]\/N<=(adr x.1).block
 num:n=L.length
 le:n<=c
theorem StrsF.strs{N:Nat}{w:World}{a:Option Addr}{n c:Nat}{L:List Byt}(h:StrsF N w a n c L):Strs w a n c L :=
 let ⟨xs,R,hl,hr,_⟩:=h.ex;⟨⟨xs,R,hl,hr⟩,h.num,h.le⟩
theorem StrsF.side{N:Nat}{w w':World}{a:Option Addr}{n c:Nat}{L:List Byt}{S:List Nat}(h:StrsF N w a n c L)(hx:Ext S w w')(hS:∀x∈S,x<N):StrsF N w' a n c L:=by
 obtain⟨xs,R,hl,hr,ha,hb⟩:=h.ex;refine⟨⟨xs,?_,hl,fun x hm=>⟨?_,(hr x hm).2⟩,ha,hb⟩,h.num,h.le⟩
 .rcases ha with rfl|ha
  .exact Rd.nil
  .exact R.ext hx fun hm=>by have:=hS _ hm;omega
 .rcases hb x hm with h0|h0
  .rw[h0];exact Rd.nil
  .exact(hr x hm).1.ext hx fun hm=>by have:=hS _ hm;omega
theorem StrsF.ext0{N:Nat}{w w':World}{a:Option Addr}{n c:Nat}{L:List Byt}(h:StrsF N w a n c L)(hx:Ext [] w w'):StrsF N w' a n c L:=h.side hx fun x h=>by cases h
theorem StrsF.less{N M:Nat}{w:World}{a:Option Addr}{n c:Nat}{L:List Byt}(h:StrsF N w a n c L)(hN:M<=N):StrsF M w a n c L :=
 let ⟨xs,R,hl,hr,ha,hb⟩:=h.ex;⟨⟨xs,R,hl,hr,ha.imp id (qaw hN),fun x hm=>(hb x hm).imp id (qaw hN)⟩,h.num,h.le⟩
theorem Aer{s:Option Byt}{v:Value}{w w':World}(h:An3 s v w w'):∃a n c,v=.tuple #[.slice a n c,.bool s.isSome,.int .i64 0]/\∀x,s=some x->n=x.length/\RdS w' (a,x,c)/\x.length<=3000000/\(x=[]\/w.heap.size<=(adr a).block):=by
 cases s with
 |none=>exact⟨none,0,0,h,fun x hx=>by cases hx⟩
 |some x =>
  obtain⟨a,c,rfl,R,hc,hb,hm⟩:=h;exact⟨a,x.length,c,rfl,fun y hy=>by cases hy;exact⟨rfl,⟨R,hc⟩,hm,hb⟩⟩
def jr0(f z p:Int)(q:Nat):Jr:=⟨f.toNat,z.toNat,p.toNat,q,0,false⟩
theorem Aes{m:Nat}{f z p:Int}{q:Nat}(h:Et m f z p q=true)(hm:m<=4096):(jr0 f z p q).Ok/\(jr0 f z p q).seq<=4611686018427387904+(jr0 f z p q).taken/\(jr0 f z p q).frm+(jr0 f z p q).size<=m:=by
 simp only[Et,qao,qaq]at h;refine⟨⟨?_,?_,?_,?_,?_⟩,?_,?_⟩ <;> simp only[jr0] <;> omega
theorem Va{w:World}{bd:Nat}{A:Dev}{F:Nat->Prop}(f z p:Int)(q:Nat)(hf : -9223372036854775808<=f/\f<=9223372036854775807)(hz : -9223372036854775808<=z/\z<=9223372036854775807)(hm:A.B.length<=4096)(ho:A.on=true){mx:Nat}(hfew:Few A mx)(hmx:mx<=1000000000)(DA:DevAt w bd A F) :
  Ret prog 34 #[ptr bd,.int .i64 f,.int .i64 z,.int .i64 p,.int .u64 (q:Int)] w fun v w'=>Ext [] w w'/\((Et A.B.length f z p q=false/\v=.tuple #[.pointer none,.slice none 0 0,.int .i64 1]) \/
   (Et A.B.length f z p q=true/\∃bj a n c,v=.tuple #[ptr bj,.slice a n c,.int .i64 0]/\w.heap.size<=bj/\w'.heap[bj]?=some (Bl TJ (JB bd (LB A (jr0 f z p q)).2))/\StrsF w.heap.size w' a n c (LB A (jr0 f z p q)).1)):=by
 obtain⟨w0,rfl,H⟩:=qE w;obtain⟨bs,bm,hhd⟩:=DA.hd;refine A8 (fn:=f34) func34 U [.pointer (some ⟨bd,0,none⟩),.int .i64 f,.int .i64 z,.int .i64 p,.int .u64 (q:Int)] U ?_;refine Ad (B7 U (Ak U (Ac U (qA (Ar (AB (Ad (An U (BU MK U ?_)))))))));refine Am U (qA (Bz U (Ar (Ad (Ae U (Bj U U (Am U (qA (Gn 8796089352192 (α:=Unit) (fun _=>[(19,.bool (!Et A.B.length f z p q))]) (fun _ w'=>w0=w') U ?_ ?_)))))))))
 .skip
  refine Dx 19 U ?_ ?_
  .intro h1;replace h1:=AR h1;refine Ap (Aa ?_);exact⟨(),rfl,⟨qab Value.bool (by rw[qar];simp_all[Et];try omega),trivial⟩,rfl⟩
  .intro h2;replace h2:=AU h2;refine Ad (Ae U (Bj U U (Am U (qA (Dx 19 U ?_ ?_)))))
   .intro h3;replace h3:=AR h3;refine Ap (Aa ?_);exact⟨(),rfl,⟨qab Value.bool (by rw[qar];simp_all[Et];try omega),trivial⟩,rfl⟩
   .intro h4;replace h4:=AU h4;refine Ad (Ae U (An U (Aj qB (Hf hhd) U ?_)));rintro v w ⟨rfl,rfl⟩;refine BZ U U (Am U (qA (Dx 19 U ?_ ?_)))
    .intro h5;replace h5:=AR h5;refine Ap (Aa ?_);exact⟨(),rfl,⟨qab Value.bool (by rw[qar];simp_all[Et];try omega),trivial⟩,rfl⟩
    .intro h6;replace h6:=AU h6;refine Ad (Ae U (An U (Aj qB (Hf hhd) U ?_)));rintro v w ⟨rfl,rfl⟩;refine Ae U (BD U U ?_);refine BZ U U (Am U (qA (Dx 19 U ?_ ?_)))
     .intro h7;replace h7:=AR h7;refine Ap (Aa ?_);exact⟨(),rfl,⟨qab Value.bool (by rw[qar];simp_all[Et];try omega),trivial⟩,rfl⟩
     .intro h8;replace h8:=AU h8;refine Ad (Ae U (Bj U U (Am U (qA (Dx 19 U ?_ ?_)))))
      .intro h9;replace h9:=AR h9;refine Ap (Aa ?_);exact⟨(),rfl,⟨qab Value.bool (by rw[qar];simp_all[Et];try omega),trivial⟩,rfl⟩
      .intro h10;replace h10:=AU h10;refine Ad (Ae U (Ae U (Ie U U (Am U (qA (Dx 19 U ?_ ?_))))))
       .intro h11;replace h11:=AR h11;refine Ap (Aa ?_);exact⟨(),rfl,⟨qab Value.bool (by rw[qar];simp_all[Et];try omega),trivial⟩,rfl⟩
       .intro h12;replace h12:=AU h12;refine Ad (Ae U (Bj U U (Am U (qA (Dx 19 U ?_ ?_)))))
        .intro h13;replace h13:=AR h13;refine Ap (Aa ?_);exact⟨(),rfl,⟨qab Value.bool (by rw[qar];simp_all[Et];try omega),trivial⟩,rfl⟩
        .intro h14;replace h14:=AU h14;refine Au (Ae U (BZ U U (Am U (qA ?_))));exact⟨(),rfl,⟨qab Value.bool (by rw[qar];simp_all[Et];try omega),trivial⟩,rfl⟩
 .rintro - j19 w rfl;refine Dx 19 U ?_ ?_
  .intro h1;refine Ad (B7 U (Ak U (Ac U (qA (A6 (AK (Ao (CX (v1:=(.pointer _)) (v2:=(.slice _ _ _)) (v3:=(.int _ _)) U U U U U ?_))))))));exact⟨H.ext,.inl ⟨by simpa using h1,rfl⟩⟩
  .intro h1;have hr:Et A.B.length f z p q=true:=by simpa using h1
   obtain⟨hJ0,hq0,hl0⟩:=Aes hr hm;have hr2:=hr;simp only[Et,qao,qaq]at hr2;obtain⟨J0,hJ0e⟩:=qD (jr0 f z p q);rw[<-hJ0e]at hJ0 hq0 hl0
   have hb0:[ptr bd,Value.int .i64 f,.int .i64 z,.int .i64 p,.int .u64 (q:Int),.int .i64 0,.bool false]=JB bd J0:=by
    rw[hJ0e];simp only[JB,jr0,qdl,Value.int.injEq,true_and,and_true];omega
   refine Ap (AE (Aa (Ad (An U (Ae U (Ae U (Ae U (Ae U (B5 [ptr bd,.int .i64 f,.int .i64 z,.int .i64 p,.int .u64 (q:Int),.int .i64 0,.bool false] Ao3 Ao7 ?_)))))))));rw[hb0];refine Cu _ (.agg _) U U H ?_;rintro b49 w - H
   refine B7 U (qA (AB (B6 9444731839839383649280 (α:=List SB × Jr × Option Addr × Nat × List Value) (fun s=>[(10,ptr b49),(11,.slice s.2.2.1 s.1.length s.2.2.2.1)]) (fun s w'=>s.2.1.Ok/\s.2.1.seq<=4611686018427387904+s.2.1.taken/\s.2.1.frm=J0.frm/\s.2.1.size=J0.size/\s.1.length<=s.2.1.taken/\LB A J0=(s.1.map (fun x=>x.2.1)++(LA A (J0.size+1 - s.1.length) s.2.1).1,(LA A (J0.size+1 - s.1.length) s.2.1).2)/\Ctx w0 [] w' ([(b49,Bl TJ (JB bd s.2.1))]++ent s.2.2.1 24 s.2.2.2.2)/\OS s.2.2.1 s.1.length s.2.2.2.1 1 s.2.2.2.2 (s.1.map fun x => .slice x.1 x.2.1.length x.2.2)/\∀x∈s.1,RdS w' x/\(x.2.1=[]\/∀y∈[(b49,Bl TJ (JB bd s.2.1))]++ent s.2.2.1 24 s.2.2.2.2,y.1≠(adr x.1).block)/\(x.2.1=[]\/w0.heap.size<=(adr x.1).block)) (fun s=>J0.size - s.2.1.taken) ([],J0,none,0,[]) U ?_ ?_ ?_)))
   .exact⟨rfl,rfl,trivial⟩
   .exact⟨hJ0,hq0,rfl,rfl,qak _,rfl,H,OS.nil,fun x hx=>by cases hx⟩
   .rintro⟨xs,J,a,c,full⟩ j w ⟨hJ,hq,hfr,hsz,hk,hop,H,O,hxs⟩;dsimp only at hJ hq hfr hsz hk hop H O hxs;dsimp only;have hs1:=hJ.s1;have hs2:=hJ.s2;have hst:=hJ.t;refine AB (Ad (An U (Aj qB (Amb (H.get at0) hJ ho hfew hmx (DA.keep0 H.ext)) U ?_)));rintro v w2 ⟨hnv,hx2⟩;have hszw:=H.ext.size;have hlt1:∀y∈[(b49,Bl TJ (JB bd J))]++ent a 24 full,y.1<w.heap.size:=(fun y hy=>Al (H.blk y hy));replace H:=H.call hx2;obtain⟨a13,n13,c13,rfl,h13⟩:=Aer hnv;replace hxs:∀x∈xs,RdS w2 x/\(x.2.1=[]\/∀y∈[(b49,Bl TJ (JB bd J))]++ent a 24 full,y.1≠(adr x.1).block)/\(x.2.1=[]\/w0.heap.size<=(adr x.1).block):=(fun x hm=>⟨(hxs x hm).1.ext0 hx2,(hxs x hm).2⟩);refine AW U (Ai U U (Ai U U (Ai U U (Ak U (Am U (Ac U (qA (Ar (AB ?_)))))))));refine Ad (Ae U (Be U U (Am U (qA (Bz U (Ad (AF U (Cl U (Am U ?_)))))))));refine qA (Av _ U ?_ ?_)
    .intro h2;replace h2:=C8 h2;have hn:HZ A J=none:=by cases hn:HZ A J <;> simp_all
     have ho2:LB A J0=(xs.map (fun x=>x.2.1),J):=by
      rw[hop,show J0.size+1 - xs.length=(J0.size - xs.length)+1 by omega,Tf _ hn,qa3]
     refine Ad (An U (Ah U (B7 U (Ak U (Ac U (qA (A6 (AK (Ao (AK (Ao (AK (CX (v1:=(.pointer _)) (v2:=(.slice _ _ _)) (v3:=(.int _ _)) U U U U U ?_)))))))))))));refine⟨H.ext,.inr ⟨hr,b49,a,xs.length,c,rfl,?_,?_,?_⟩⟩
     .exact(H.own _ (qaf ..)).elim (fun h=>by cases h) id
     .rw[<-hJ0e,ho2];exact H.get at0
     .rw[<-hJ0e,ho2];refine⟨⟨xs,OS.rd1 (f:=fun x:SB => .slice x.1 x.2.1.length x.2.2) O (fun x hx=>H.blk x (qax _ hx)),rfl,fun x hm=>(hxs x hm).1,?_,fun x hm=>(hxs x hm).2.2⟩,(qai _).symm,O.le⟩
      cases a with
      |none=>exact .inl (qa4 (by have h8:=O.le;have h9:=O.none' rfl;omega))
      |some q=>exact .inr ((H.own (q.block,_) (qax _ (qaa.2 rfl))).elim (fun h=>by cases h) id)
    .intro h2;replace h2:=CA h2;obtain⟨s,hn⟩:∃s,HZ A J=some s:=by cases hn:HZ A J <;> simp_all
     obtain⟨rfl,hR,hsm,hsb⟩:=h13 s hn;have Hold:=H;replace H:=Ctx.startL (fun x hx=>Hold.blk x hx) Hold.nd;have hfit:=Aeq hn;have hbt:=Er s.length;refine Ap (AE (Aa (Ad (Ah U (Ah U (BI [.slice a13 s.length c13] (.slice a13 s.length c13) EZ Gg U3 U U U U H ?_))))));rintro b67 w3 - H;refine BL (L:=[(b49,Bl TJ (JB bd J))]) EZ EZ Gg Agm U3 U U U H O U (by simp[Bh]) ?_;rintro a68 c68 full68 w4 H O;refine Ak U (qA (Au (An U (Ah U (AO AX U (Aj qB (UZ (H.get at0) hJ s.length hfit) U ?_))))));rintro v w5 ⟨rfl,hj5,hx5⟩;replace H:=H.turn at0 _ hx5 hj5;refine Ab (AE (Aa ?_));have hgood:=hJ.passes hq hfit;have hlx:(xs++[((a13,s,c13):SB)]).length=xs.length+1:=by simp
     have hsz2:=hx2.size
     have hids:∀(x:SB),RdS w2 x->(x.2.1=[]\/∀y∈[(b49,Bl TJ (JB bd J))]++ent a 24 full,y.1≠(adr x.1).block) ->
       RdS w5 x/\(x.2.1=[]\/∀y∈[(b49,Bl TJ (JB bd (J.passes s.length)))]++ent a68 24 full68,y.1≠(adr x.1).block):=fun x hx hn=>by
      rcases hn with hn|hn
      .exact⟨⟨by rw[hn];exact Rd.nil,hx.2⟩,.inl hn⟩
      .refine⟨⟨hx.1.ext H.ext fun hm=>?_,hx.2⟩,?_⟩
       .obtain⟨y,hy,he⟩:=qah.1 hm;exact hn y hy he
       .rcases Go.Proofs.YtcpgbcabmcbclaaGreatDoor.Rd.lt8 hx.1 with h0|hlt
        .exact .inl h0
        .refine .inr fun y hy he=>?_
         rcases H.own y hy with hm|hm
         .obtain⟨y',hy',he'⟩:=qah.1 hm;exact hn y' hy' (he'.trans he)
         .omega
     refine⟨(xs++[(a13,s,c13)],J.passes s.length,a68,c68,full68),rfl,⟨rfl,qab (fun m=>Value.slice a68 m c68) hlx.symm,trivial⟩,⟨hgood.1,hgood.2,hfr,hsz,?_,?_,Ctx.nil_app (Ctx.back (L2:=[]) (Ctx.app_nil Hold) H),?_,fun x hm=>?_⟩,?_⟩
     .show(xs++[((a13,s,c13):SB)]).length<=J.taken+blk s.length;omega
     .dsimp only;rw[hop,hlx,show J0.size+1 - xs.length=(J0.size+1 - (xs.length+1))+1 by omega,Tg _ hn,qay,qa1];rfl
     .dsimp only;rw[hlx,qay];exact O
     .dsimp only at hm |-
      rcases qat.1 hm with hm|hm
      .exact⟨(hids x (hxs x hm).1 (hxs x hm).2.1).1,(hids x (hxs x hm).1 (hxs x hm).2.1).2,(hxs x hm).2.2⟩
      .rw[qaa.1 hm];have h8:=hids _ hR (hsb.imp id fun h y hy he=>by have:=hlt1 y hy;dsimp only at he;omega);exact⟨h8.1,h8.2,hsb.imp id fun h=>by dsimp only;omega⟩
     .show J0.size - (J.taken+blk s.length)<J0.size - J.taken;omega
theorem Ajt{w:World}{bd:Nat}{A:Dev}{F:Nat->Prop}(f z p:Int)(q:Nat)(hm:A.B.length<=4096)(ho:A.on=true){mx:Nat}(hfew:Few A mx)(hmx:mx<=1000000000)(DA:DevAt w bd A F)(hf: -9223372036854775808<=f/\f<=9223372036854775807:=by omega)(hz: -9223372036854775808<=z/\z<=9223372036854775807:=by omega):
  Ret prog 34 #[ptr bd,.int .i64 f,.int .i64 z,.int .i64 p,.int .u64 (q:Int)] w fun v w'=>Ext [] w w'/\((Et A.B.length f z p q=false/\v=.tuple #[.pointer none,.slice none 0 0,.int .i64 1]) \/
   (Et A.B.length f z p q=true/\∃bj a n c,v=.tuple #[ptr bj,.slice a n c,.int .i64 0]/\w.heap.size<=bj/\w'.heap[bj]?=some (Bl TJ (JB bd (LB A (jr0 f z p q)).2))/\Strs w' a n c (LB A (jr0 f z p q)).1)) :=
 (Va f z p q hf hz hm ho hfew hmx DA).mono fun _ _ ⟨hx,h⟩=>⟨hx,h.imp id fun⟨h1,bj,a,n,c,hv,hb,hj,hs⟩=>⟨h1,bj,a,n,c,hv,hb,hj,hs.strs⟩⟩
structure Rj where
 L:List Byt
 size:Nat
 first:Nat
 seq:Nat
def T5:Nat:=0
def RjB(a:Option Addr)(n c:Nat)(R:Rj):List Value:=[.slice a n c,.int .i64 (R.size:Int),.int .i64 (R.first:Int),.int .u64 (R.seq:Int)]
def BF(L:List Byt):Nat:=(L.map fun s=>blk s.length).sum
theorem Ia(L:List Byt)(s:Byt):BF (L++[s])=BF L+blk s.length:=by simp[BF]
theorem Kw(L:List Byt):2*L.length<=BF L:=by
 induction L with
 |nil=>simp[BF]
 |cons s L ih =>
  have:=Er s.length;have h:BF (s::L)=blk s.length+BF L:=by simp[BF]
  rw[h,qav];omega
theorem ZQ(A B:List Byt):BF (A++B)=BF A+BF B:=by simp[BF]
theorem XW(L:List Byt)(i:Nat):BF (L.take i)<=BF L:=by
 have h:=ZQ (L.take i) (L.drop i);rw[qbl]at h;omega
theorem Amc(n:Nat):n<=480*blk n:=by unfold blk;omega
structure Rj.Ok(R:Rj):Prop where
 s1:2<=R.size
 s2:R.size<=4096
 a:R.first<R.size
 q:R.seq<=8000000000000000000
 t:BF R.L<=R.size
def valS(x:SB):Value := .slice x.1 x.2.1.length x.2.2
structure RjR(w:World)(br:Nat)(R:Rj)(a:Option Addr)(c:Nat)(full:List Value)(xs:List SB):Prop where
 hd:w.heap[br]?=some (Bl T5 (RjB a R.L.length c R))
 os:OS a xs.length c 1 full (xs.map valS)
 blk:∀y∈ent a 24 full,w.heap[y.1]?=some y.2
 eq:xs.map (fun x=>x.2.1)=R.L
 str:∀x∈xs,RdS w x
 nd:∀y∈ent a 24 full,br≠y.1
 sep:∀x∈xs,x.2.1=[]\/((adr x.1).block≠br/\∀y∈ent a 24 full,y.1≠(adr x.1).block)
theorem RjR.num{w:World}{br:Nat}{R:Rj}{a:Option Addr}{c:Nat}{full:List Value}{xs:List SB}(h:RjR w br R a c full xs):xs.length=R.L.length:=by rw[<-h.eq,qai]
def RjAt(w:World)(br:Nat)(R:Rj)(G:Nat->Prop):Prop :=
 ∃a c full xs,RjR w br R a c full xs/\G br/\(∀y∈ent a 24 full,G y.1)/\∀x∈xs,x.2.1=[]\/G (adr x.1).block
theorem RjAt.keep{w w':World}{br:Nat}{R:Rj}{G:Nat->Prop}{S:List Nat}(h:RjAt w br R G)(hx:Ext S w w')(hn:∀x∈S,¬G x):RjAt w' br R G:=by
 obtain⟨a,c,full,xs,h,h1,h2,h3⟩:=h;have hb:∀b o,G b->w.heap[b]?=some o->w'.heap[b]?=some o:=fun b o hg hb=>by rw[hx.block b (Al hb) fun hm=>hn b hm hg];exact hb
 refine⟨a,c,full,xs,⟨hb _ _ h1 h.hd,h.os,fun y hy=>hb _ _ (h2 y hy) (h.blk y hy),h.eq,fun x hm=>?_,h.nd,h.sep⟩,h1,h2,h3⟩;refine⟨?_,(h.str x hm).2⟩
 rcases h3 x hm with h0|h0
 .rw[h0];exact Rd.nil
 .exact(h.str x hm).1.ext hx fun hm'=>hn _ hm' h0
theorem RjAt.hd{w:World}{br:Nat}{R:Rj}{G:Nat->Prop}(h:RjAt w br R G):∃a c xs,w.heap[br]?=some (Bl T5 (RjB a R.L.length c R))/\Rd w a 1 Aiq xs/\xs.map (fun x=>x.2.1)=R.L/\(∀x∈xs,RdS w x)/\R.L.length<=c :=
 let ⟨a,c,_,xs,h,_⟩:=h;⟨a,c,xs,h.hd,OS.rd1 (f:=valS) h.os h.blk,h.eq,h.str,by have:=h.os.le;rw[h.num]at this;exact this⟩
def Rj.at'(R:Rj):Nat:=(R.first+BF R.L) % R.size
theorem RjAt.mono{w:World}{br:Nat}{R:Rj}{G G':Nat->Prop}(h:RjAt w br R G)(hG:∀x,G x->G' x):RjAt w br R G' :=
 let ⟨a,c,full,xs,h,h1,h2,h3⟩:=h;⟨a,c,full,xs,h,hG _ h1,fun y hy=>hG _ (h2 y hy),fun x hx=>(h3 x hx).imp id (hG _)⟩
def Th(R:Rj)(b:Byt):Rj:=if R.size - BF R.L<blk b.length then R else{ R with L:=R.L++[b] }
def XX(R:Rj)(b:Byt):Int:=if R.size - BF R.L<blk b.length then 7 else 0
theorem Wi{R:Rj}(h:R.Ok)(b:Byt):(Th R b).Ok:=by
 unfold Th
 split
 .exact h
 .rename_i h1
  exact⟨h.s1,h.s2,h.a,h.q,by have:=h.t;show BF (R.L++[b])<=R.size;rw[Ia];omega⟩
def Rj.forget(R:Rj):Rj:=⟨[],R.size,R.at',R.seq+R.L.length⟩
theorem QC{a i n:Nat}(ha:a<n)(hi:i<n):(a+i) % n=if a+i<n then a+i else a+i - n:=by
 split
 .exact qba (by assumption)
 .rw[Nat.mod_eq_sub_mod (by omega),qba (by omega)]
theorem Pz{J:Jr}(h:J.Ok){i j:Nat}(he:J.place i=J.place j)(hi:i<J.size:=by omega)(hj:j<J.size:=by omega):i=j:=by
 unfold Jr.place at he;rw[QC h.a hi,QC h.a hj]at he;have:=h.a
 split at he <;> split at he <;> omega
structure Pend(A:Dev)(N:Nat)(S:Nat->Byt)(P:Nat->List Byt):Prop where
 len:A.B.length=N
 get:∀p,p<N->A.B[p]?=some (S p,P p)
theorem Pend.at'{A:Dev}{N:Nat}{S:Nat->Byt}{P:Nat->List Byt}(h:Pend A N S P){p:Nat}(hp:p<N):at' A p=(P p).getLast?.getD (S p):=by
 unfold Go.Proofs.YtcpgbcabmcbclaaGreatDoor.at' stands;rw[qa9,h.get p hp];rfl
theorem Pend.less{A:Dev}{N:Nat}{S:Nat->Byt}{P:Nat->List Byt}(h:Pend A N S P):Pend A.less N S P:=⟨by rw[Gu];exact h.len,by rw[Gu];exact h.get⟩
theorem Wj{A:Dev}(h:A.left≠0)(ho:A.on=true):A.less.on=true/\A.less.left=(if A.left = -1 then -1 else A.left - 1):=by
 unfold Dev.less;rw[if_neg h]
 split
 .rename_i h1;exact⟨ho,h1⟩
 .exact⟨ho,rfl⟩
theorem XY{A:Dev}(h:A.left=0):A.less.on=false:=by
 unfold Dev.less;rw[if_pos h]
theorem Pend.write{A:Dev}{N:Nat}{S:Nat->Byt}{P:Nat->List Byt}(h:Pend A N S P)(ho:A.on=true){p:Nat}(hp:p<N){b:Byt}(hb:b.length=512) :
  (A.left=0/\Dr A p b=8/\(CD A p b).on=false/\Pend (CD A p b) N S P) \/
  (A.left≠0/\Dr A p b=0/\(CD A p b).on=true/\(CD A p b).left=(if A.left = -1 then -1 else A.left - 1)/\Pend (CD A p b) N S (fun q=>if q=p then P q++[b]else P q)):=by
 have hh:A.has (p:Int)=true:=by
  unfold Dev.has;rw[h.len];simp only[qao,qaq];omega
 unfold Dr CD;rw[ho,hh,qal hb];unfold Dev.goes
 by_cases h0:A.left=0
 .rw[qal h0];exact .inl ⟨h0,rfl,XY h0,h.less⟩
 .rw[qag h0];obtain⟨h1,h2⟩:=Wj h0 ho;refine .inr ⟨h0,rfl,h1,h2,?_,fun q hq=>?_⟩
  .show(A.less.B.modify p _).length=N;rw[qef,Gu];exact h.len
  .show(A.less.B.modify p _)[q]?=_;rw[qcq,Gu,h.get q hq]
   by_cases hqp:q=p
   .rw[if_pos hqp];simp[hqp.symm]
   .rw[if_neg hqp];simp[Ne.symm hqp]
theorem Pend.flush{A:Dev}{N:Nat}{S:Nat->Byt}{P:Nat->List Byt}(h:Pend A N S P)(ho:A.on=true) :
  (A.left=0/\Ds A=8/\(Cq A).on=false/\Pend (Cq A) N S P) \/
  (A.left≠0/\Ds A=0/\(Cq A).on=true/\(Cq A).left=(if A.left = -1 then -1 else A.left - 1)/\Pend (Cq A) N (fun q=>(P q).getLast?.getD (S q)) (fun _=>[])):=by
 unfold Ds Cq;rw[ho];unfold Dev.goes
 by_cases h0:A.left=0
 .rw[qal h0];exact .inl ⟨h0,rfl,XY h0,h.less⟩
 .rw[qag h0];obtain⟨h1,h2⟩:=Wj h0 ho;refine .inr ⟨h0,rfl,h1,h2,?_,fun q hq=>?_⟩
  .show(A.less.B.map _).length=N;rw[qai,Gu];exact h.len
  .show(A.less.B.map _)[q]?=_;rw[qas,Gu,h.get q hq];rfl
theorem JY:∀{l:List (Byt × List Byt)} {picks:List Int} {p:Nat} {q:Byt × List Byt},l[p]?=some q->∃y,(En l picks)[p]?=some (y,[])/\(y=q.1\/y∈q.2)
 | [],_,_,_,h=>by simp at h
 |x::l,picks,0,q,h=>by
  have hx:x=q:=by simpa using h
  subst hx;unfold En
  split
  .exact⟨x.1,rfl,.inl rfl⟩
  .refine⟨_,rfl,?_⟩;unfold Pd
   split
   .exact .inl U
   .rw[qa9]
    cases hx:x.2[MM x picks - 1]? with
    |none=>exact .inl rfl
    |some b=>exact .inr (qad hx)
 |x::l,picks,p+1,q,h=>by
  have h':l[p]?=some q:=by simpa using h
  unfold En
  split
  .exact JY h'
  .exact JY h'
theorem Pend.on{A:Dev}{N:Nat}{S:Nat->Byt}{P:Nat->List Byt}(h:Pend A N S P)(ho:A.on=false)(picks:List Int) :
  (onD A picks).on=true/\(onD A picks).left = -1/\∃S',Pend (onD A picks) N S' (fun _=>[])/\∀p,p<N->S' p=S p\/S' p∈P p:=by
 unfold onD;rw[ho];refine⟨rfl,rfl,fun p=>((En A.B picks).getD p (zeros,[])).1,⟨?_,fun p hp=>?_⟩,fun p hp=>?_⟩
 .show(En A.B picks).length=N;rw[GN];exact h.len
 .obtain⟨y,hy,_⟩:=JY (picks:=picks) (h.get p hp);show(En A.B picks)[p]?=_;rw[qa9,hy];rfl
 .obtain⟨y,hy,h1⟩:=JY (picks:=picks) (h.get p hp);show((En A.B picks).getD p (zeros,[])).1=_\/((En A.B picks).getD p (zeros,[])).1∈_;rw[qa9,hy];exact h1
theorem Pend.new(n:Nat):Pend (Fu n) n (fun _=>zeros) (fun _=>[]) :=
 ⟨by simp[Fu],fun p hp=>by show(List.replicate n _)[p]?=_;rw[qee,if_pos hp]⟩
def piB(J:Jr)(b:Byt)(i:Nat):Byt:=DR 1 (CY J.seq i (Cz b i))
def enB(J:Jr)(b:Byt):Byt:=DR 2 (Hh J.seq b)
theorem Acd(J:Jr)(b:Byt)(i:Nat):(CY J.seq i (Cz b i)).length<=505:=by rw[Nj,Nm];omega
theorem Ace(J:Jr)(b:Byt):(Hh J.seq b).length<=505:=by rw[Xw];omega
theorem Amd(J:Jr)(b:Byt)(i:Nat):(piB J b i).length=512:=FH (Acd J b i)
theorem Ame(J:Jr)(b:Byt):(enB J b).length=512:=FH (Ace J b)
structure Full(N:Nat)(S S':Nat->Byt)(J:Jr)(b:Byt):Prop where
 piece:∀i,i<blk b.length - 1->S' (J.place i)=piB J b i
 fin:S' (J.place (blk b.length - 1))=enB J b
 rest:∀p,p<N->(∀i,i<blk b.length->p≠J.place i)->S' p=S p
def MidJ(N:Nat)(S S':Nat->Byt)(J:Jr)(b:Byt):Prop:=∀p,p<N->S' p=S p\/∃i,i<blk b.length - 1/\p=J.place i/\S' p=piB J b i
def PSpec(J:Jr)(b:Byt)(m:Nat)(P:Nat->List Byt):Prop:=(∀i,i<m->P (J.place i)=[piB J b i])/\∀p,(∀i,i<m->p≠J.place i)->P p=[]
theorem PSpec.mid{N:Nat}{S S':Nat->Byt}{J:Jr}{b:Byt}{m:Nat}{P:Nat->List Byt}(h:PSpec J b m P)(hm:m<=blk b.length - 1)(hS:∀p,p<N->S' p=S p\/S' p∈P p):MidJ N S S' J b:=by
 intro p hp
 rcases hS p hp with h1|h1
 .exact .inl h1
 .by_cases hi:∃i,i<m/\p=J.place i
  .obtain⟨i,hi,rfl⟩:=hi;rw[h.1 i hi]at h1;exact .inr ⟨i,by omega,rfl,qaa.1 h1⟩
  .rw[h.2 p fun i h2 h3=>hi ⟨i,h2,h3⟩]at h1;cases h1
theorem Acf{A:Dev}{N:Nat}{S:Nat->Byt}{J:Jr}{b:Byt}(h:Pend A N S (fun _=>[]))(ho:A.on=true)(hl : -1<=A.left)(hJ:J.Ok)(hN:J.frm+J.size<=N):∀m,m<=J.size ->
  ((wrP A J b m).1=0/\(wrP A J b m).2.on=true /\ -1<=(wrP A J b m).2.left/\(A.left = -1->(wrP A J b m).2.left = -1)/\∃P,Pend (wrP A J b m).2 N S P/\PSpec J b m P) \/
  (A.left ≠ -1/\(wrP A J b m).1=8/\(wrP A J b m).2.on=false/\∃m' P,m'<=m/\Pend (wrP A J b m).2 N S P/\PSpec J b m' P)
 |0,_ => .inl ⟨rfl,ho,hl,id,fun _=>[],h,⟨fun i hi=>absurd hi (qc3 _),fun _ _=>rfl⟩⟩
 |m+1,hm=>by
  have h9:wrP A J b (m+1)=if(wrP A J b m).1=0 then(Oh (wrP A J b m).2 J m 1 (CY J.seq m (Cz b m)),Ku (wrP A J b m).2 J m 1 (CY J.seq m (Cz b m)))else wrP A J b m:=rfl
  rcases Acf h ho hl hJ hN m (by omega)with⟨h1,h2,h3,h4,P,hp,hs⟩|⟨h1,h2,h3,m',P,hm',hp,hs⟩
  .rw[h9,if_pos h1];have hpl:=hJ.place m
   rcases hp.write h2 (p:=J.place m) (by omega) (Amd J b m)with⟨k1,k2,k3,k4⟩|⟨k1,k2,k3,k4,k5⟩
   .exact .inr ⟨fun h5=>by have:=h4 h5;omega,k2,k3,m,P,by omega,k4,hs⟩
   .refine .inl ⟨k2,k3,?_,fun h5=>?_,_,k5,fun i hi=>?_,fun p hn=>?_⟩
    .show -1<=(CD _ _ _).left;rw[show(CD (wrP A J b m).2 ((J.place m:Nat):Int) (DR 1 (CY J.seq m (Cz b m)))).left=_ from k4]
     split <;> omega
    .show(CD _ _ _).left = -1;rw[show(CD (wrP A J b m).2 ((J.place m:Nat):Int) (DR 1 (CY J.seq m (Cz b m)))).left=_ from k4,if_pos (h4 h5)]
    .by_cases him:i=m
     .subst him;dsimp only;rw[if_pos rfl,hs.2 _ fun j hj he=>by have:=Pz hJ he;omega];rfl
     .dsimp only;rw[if_neg fun he=>him (Pz hJ he)];exact hs.1 i (by omega)
    .dsimp only;rw[if_neg (hn m (by omega))];exact hs.2 p fun i hi=>hn i (by omega)
  .rw[h9,if_neg (by omega)];exact .inr ⟨h1,h2,h3,m',P,by omega,hp,hs⟩
theorem Ti{A:Dev}{N:Nat}{S:Nat->Byt}{J:Jr}{b:Byt}(h:Pend A N S (fun _=>[]))(ho:A.on=true)(hl : -1<=A.left)(hJ:J.Ok)(hN:J.frm+J.size<=N)(hf:blk b.length<=J.size) :
  ((CZ A J b).1=0/\(CZ A J b).2.on=true /\ -1<=(CZ A J b).2.left/\(A.left = -1->(CZ A J b).2.left = -1)/\∃S',Pend (CZ A J b).2 N S' (fun _=>[])/\Full N S S' J b) \/
  (A.left ≠ -1/\(CZ A J b).1=8/\(CZ A J b).2.on=false/\∃S1 P,Pend (CZ A J b).2 N S1 P/\∀S',(∀p,p<N->S' p=S1 p\/S' p∈P p)->MidJ N S S' J b\/Full N S S' J b):=by
 have hb2:=Er b.length;unfold CZ
 rcases Acf (b:=b) h ho hl hJ hN (blk b.length - 1) (by omega)with⟨h1,h2,h3,h4,P,hp,hs⟩|⟨h1,h2,h3,m',P,hm',hp,hs⟩
 .rw[if_pos h1];generalize wrP A J b (blk b.length - 1)=X at h1 h2 h3 h4 hp
  rcases hp.flush h2 with⟨k1,k2,k3,k4⟩|⟨k1,k2,k3,k4,k5⟩
  .rw[if_neg (by omega)];exact .inr ⟨fun h5=>by have:=h4 h5;omega,k2,k3,S,P,k4,fun S' hS => .inl (hs.mid (qae _) hS)⟩
  .rw[if_pos k2];have hpl:=hJ.place (blk b.length - 1);obtain⟨S1,hS1⟩:=qD (fun q=>(P q).getLast?.getD (S q):Nat->Byt);rw[<-hS1]at k5;have hpi:∀i,i<blk b.length - 1->S1 (J.place i)=piB J b i:=fun i hi=>by rw[hS1];dsimp only;rw[hs.1 i hi];rfl
   have hre:∀p,(∀i,i<blk b.length - 1->p≠J.place i)->S1 p=S p:=fun p hp=>by rw[hS1];dsimp only;rw[hs.2 p hp];rfl
   have hmid1:∀p,S1 p=S p\/∃i,i<blk b.length - 1/\p=J.place i/\S1 p=piB J b i:=fun p=>by
    by_cases hi:∃i,i<blk b.length - 1/\p=J.place i
    .obtain⟨i,hi,rfl⟩:=hi;exact .inr ⟨i,hi,rfl,hpi i hi⟩
    .exact .inl (hre p fun i h2 h3=>hi ⟨i,h2,h3⟩)
   have hl1:(Cq X.2).left = -1\/0<=(Cq X.2).left:=by rw[k4];split <;> omega
   have hl2:A.left = -1->(Cq X.2).left = -1:=fun h5=>by rw[k4,if_pos (h4 h5)]
   generalize Cq X.2=Y at k3 k4 k5 hl1 hl2
   rcases k5.write k3 (p:=J.place (blk b.length - 1)) (by omega) (Ame J b)with⟨j1,j2,j3,j4⟩|⟨j1,j2,j3,j4,j5⟩
   .rw[if_neg (show ¬Oh Y J (blk b.length - 1) 2 (Hh J.seq b)=0 from by rw[show Oh Y J (blk b.length - 1) 2 (Hh J.seq b)=8 from j2];decide)];refine .inr ⟨fun h5=>by have:=hl2 h5;omega,j2,j3,S1,_,j4,fun S' hS => .inl fun p hp=>?_⟩
    rcases hS p hp with h5|h5
    .rw[h5];exact hmid1 p
    .cases h5
   .rw[if_pos (show Oh Y J (blk b.length - 1) 2 (Hh J.seq b)=0 from j2)]
    have hl3:(Ku Y J (blk b.length - 1) 2 (Hh J.seq b)).left = -1\/0<=(Ku Y J (blk b.length - 1) 2 (Hh J.seq b)).left:=by
     rw[show(Ku Y J (blk b.length - 1) 2 (Hh J.seq b)).left=_ from j4];split <;> omega
    have hl4:A.left = -1->(Ku Y J (blk b.length - 1) 2 (Hh J.seq b)).left = -1:=fun h5=>by
     rw[show(Ku Y J (blk b.length - 1) 2 (Hh J.seq b)).left=_ from j4,if_pos (hl2 h5)]
    have j3':(Ku Y J (blk b.length - 1) 2 (Hh J.seq b)).on=true:=j3;have j5':Pend (Ku Y J (blk b.length - 1) 2 (Hh J.seq b)) N S1 (fun q=>if q=J.place (blk b.length - 1)then[]++[enB J b]else[]):=j5;generalize Ku Y J (blk b.length - 1) 2 (Hh J.seq b)=Z at hl3 hl4 j3' j5'
    have hfull:∀S':Nat->Byt,(∀p,p<N->p≠J.place (blk b.length - 1)->S' p=S1 p)->S' (J.place (blk b.length - 1))=enB J b->Full N S S' J b:=fun S' e1 e2=>by
     refine⟨fun i hi=>?_,e2,fun p hp hn=>?_⟩
     .have:=hJ.place i;rw[e1 _ (by omega) fun he=>by have:=Pz hJ he;omega];exact hpi i hi
     .rw[e1 p hp (hn _ (by omega))];exact hre p fun i hi=>hn i (by omega)
    rcases j5'.flush j3' with⟨i1,i2,i3,i4⟩|⟨i1,i2,i3,i4,i5⟩
    .refine .inr ⟨fun h5=>by have:=hl4 h5;omega,i2,i3,S1,_,i4,fun S' hS=>?_⟩
     by_cases he:S' (J.place (blk b.length - 1))=S1 (J.place (blk b.length - 1))
     .refine .inl fun p hp=>?_
      have h6:S' p=S1 p:=by
       by_cases hpe:p=J.place (blk b.length - 1)
       .rw[hpe];exact he
       .rcases hS p hp with h5|h5
        .exact h5
        .rw[if_neg hpe]at h5;cases h5
      rw[h6];exact hmid1 p
     .refine .inr (hfull S' (fun p hp hpe=>?_) ?_)
      .rcases hS p hp with h5|h5
       .exact h5
       .rw[if_neg hpe]at h5;cases h5
      .rcases hS _ (show J.place (blk b.length - 1)<N by omega)with h5|h5
       .exact absurd h5 he
       .rw[if_pos rfl]at h5;exact qaa.1 h5
    .refine .inl ⟨i2,i3,by rw[i4];split <;> omega,fun h5=>by rw[i4,if_pos (hl4 h5)],_,i5,hfull _ (fun p hp hpe=>?_) ?_⟩
     .rw[if_neg hpe];rfl
     .rw[if_pos rfl];rfl
 .rw[if_neg (by omega)];exact .inr ⟨h1,h2,h3,S,P,hp,fun S' hS => .inl (hs.mid hm' hS)⟩
theorem LC{k:UInt8}{l:Byt}(h:l.length<=505)(hk:k.toNat≠0:=by decide):Dt (DR k l)=k:=by
 unfold Dt;rw[Mg hk h,Mf];rfl
theorem LD{k:UInt8}{l:Byt}(h:l.length<=505)(hk:k.toNat≠0:=by decide):BE (DR k l)=l:=by
 unfold BE;rw[Mg hk h,JQ k h];rfl
theorem Wk:(Dt zeros).toNat=0:=by
 unfold Dt;cases decide (Fe zeros=0) <;> rfl
structure LiesJ(V:Nat->Byt)(J:Jr)(s:Byt):Prop where
 piece:∀i,i<blk s.length - 1->V (J.place i)=piB J s i
 fin:V (J.place (blk s.length - 1))=enB J s
theorem ZR(s:Byt)(i:Nat):s.take (480*i)++Cz s i=s.take (480*(i+1)):=by
 unfold Cz;rw[show 480*(i+1)=480*i+480 by omega,List.take_add]
theorem ZS(q i:Nat)(c:Byt):SM (CY q i c) (CY q i [])=true/\(CY q i c).drop 12=c:=by
 have h12:(Bq q 8++Bq i 4).length=12:=by simp[Ba]
 unfold SM CY;rw[qa3,h12,qcs (by omega),qa6 (by omega),qei (by omega),qb8 (by omega)];simp[Ba];omega
theorem Tj{A:Dev}{J:Jr}{s:Byt}(h:LiesJ (at' A) J s):∀n i,blk s.length<=i+n->i<=blk s.length - 1->Qg A J n i (s.take (480*i))=some s
 |0,i,h1,h2=>by have:=Er s.length;omega
 |n+1,i,h1,h2=>by
  unfold Qg
  by_cases hi:i<blk s.length - 1
  .have hv:=h.piece i hi;have hb:BE (at' A (J.place i))=CY J.seq i (Cz s i):=by rw[hv];exact LD (Acd J s i)
   have hk:(Dt (at' A (J.place i))).toNat=1:=by rw[hv,show Dt (piB J s i)=1 from LC (Acd J s i)];rfl
   obtain⟨p1,p2⟩:=ZS J.seq i (Cz s i);rw[if_pos (by unfold J3;rw[hb,p1,qal hk];rfl),hb,p2,ZR];exact Tj h n (i+1) (by omega) (by omega)
  .have hie:i=blk s.length - 1:=by omega
   subst hie;have hv:=h.fin;have hb:BE (at' A (J.place (blk s.length - 1)))=Hh J.seq s:=by rw[hv];exact LD (Ace J s)
   have hk:(Dt (at' A (J.place (blk s.length - 1)))).toNat=2:=by rw[hv,show Dt (enB J s)=2 from LC (Ace J s)];rfl
   have hs:s.take (480*(blk s.length - 1))=s:=qa6 (by unfold blk;omega);rw[hs,if_neg (by unfold J3;rw[hk];simp),if_pos];unfold L6;have:=Er s.length;rw[hb,qal hk,qal (show 0<blk s.length - 1 by omega)];simp
theorem ZT{A:Dev}{J:Jr}{s:Byt}(h:LiesJ (at' A) J s)(hf:J.taken+blk s.length<=J.size):HZ A J=some s:=by
 unfold HZ;have:=Tj h (J.size - J.taken) 0 (by omega) (by have:=Er s.length;omega)
 simpa using this
def Qs(V:Nat->Byt)(frm size q:Nat):Prop:=∀p,frm<=p->p<frm+size->(Dt (V p)).toNat=2->numN ((BE (V p)).take 8)<q
theorem XZ{q:Nat}(s:Byt)(hq:q<18446744073709551616):numN ((Hh q s).take 8)=q:=by
 unfold Hh;rw[qa1,qcs (by rw[Ba];exact qae _),qa6 (by rw[Ba];exact qae _),Fm,qba (by omega)]
theorem Ya{J:Jr}(h:J.Ok)(i:Nat):J.frm<=J.place i/\J.place i<J.frm+J.size:=⟨qcp ..,h.place i⟩
theorem ZU{A:Dev}{J:Jr}(hJ:J.Ok)(h:Qs (at' A) J.frm J.size J.seq):HZ A J=none:=by
 cases hs:HZ A J with
 |none=>rfl
 |some s =>
  obtain⟨j,-,-,-,he⟩:=Py _ _ _ hs;simp only[L6,qao,qaq]at he;have hq:=hJ.q;have h1:=h _ (Ya hJ j).1 (Ya hJ j).2 he.1;rw[he.2.2.2,XZ s (by omega)]at h1;omega
def Rj.pl(frm:Nat)(R:Rj)(k:Nat):Nat:=frm+(R.first+k) % R.size
theorem Rj.pl_inj{frm:Nat}{R:Rj}(h:R.Ok){k l:Nat}(hk:k<R.size)(hl:l<R.size)(he:R.pl frm k=R.pl frm l):k=l:=by
 unfold Rj.pl at he;rw[QC h.a hk,QC h.a hl]at he;have:=h.a
 split at he <;> split at he <;> omega
def jrK(frm:Nat)(R:Rj)(L:List Byt):Jr:=⟨frm,R.size,(R.first+BF L) % R.size,R.seq+L.length,BF L,false⟩
theorem Mr(frm:Nat)(R:Rj)(L:List Byt)(i:Nat):(jrK frm R L).place i=R.pl frm (BF L+i):=by
 unfold Jr.place jrK Rj.pl;dsimp only;rw[Nat.mod_add_mod,qcl]
theorem Nn(frm:Nat)(R:Rj)(L:List Byt)(s:Byt):(jrK frm R L).passes s.length=jrK frm R (L++[s]):=by
 unfold Jr.passes jrK;rw[Ia,qan];dsimp only;rw[Nat.mod_add_mod];simp[qcl]
theorem Aju{frm:Nat}{R:Rj}(h:R.Ok)(hf:frm+R.size<=4096){L:List Byt}(hL:BF L<=R.size):(jrK frm R L).Ok:=by
 have h1:=h.s1;have h2:=h.s2;have h3:=h.q;have h4:=Kw L;exact⟨h1,hf,qbm _ (by omega),hL,by show R.seq+L.length<=_;omega⟩
structure HeldJ(V:Nat->Byt)(frm:Nat)(R:Rj):Prop where
 lies:∀k s,R.L[k]?=some s->LiesJ V (jrK frm R (R.L.take k)) s
 old:Qs V frm R.size (R.seq+R.L.length)
theorem Vb{L:List Byt}{k:Nat}{s:Byt}(h:L[k]?=some s):BF (L.take k)+blk s.length<=BF L:=by
 have h1:=XW L (k+1);rw[Bp h,Ia]at h1;exact h1
theorem Vc{A:Dev}{frm:Nat}{R:Rj}(hR:R.Ok)(hf:frm+R.size<=4096)(h:HeldJ (at' A) frm R):∀n k,k<=R.L.length->R.L.length<k+n->LA A n (jrK frm R (R.L.take k))=(R.L.drop k,jrK frm R R.L)
 |0,k,h1,h2=>by omega
 |n+1,k,h1,h2=>by
  by_cases hk:k<R.L.length
  .obtain⟨s,hs⟩:=AP (l:=R.L) (i:=k) (h:=hk);have ht:=Vb hs;have hRt:=hR.t;have hn:HZ A (jrK frm R (R.L.take k))=some s:=ZT (h.lies k s hs) (by show BF (R.L.take k)+blk s.length<=R.size;omega);rw[Tg n hn,Nn,<-Bp hs,Vc hR hf h n (k+1) (by omega) (by omega)]
   have hd:R.L.drop k=s::R.L.drop (k+1):=by
    rw[qdz hk];rw[qbe hk]at hs;rw[qbw hs]
   rw[hd]
  .have hke:k=R.L.length:=by omega
   subst hke;rw[qbf,qe4];exact Tf n (ZU (Aju hR hf hR.t) h.old)
theorem Aet{A:Dev}{frm:Nat}{R:Rj}(hR:R.Ok)(hf:frm+R.size<=4096)(h:HeldJ (at' A) frm R):LB A (jr0 frm R.size R.first R.seq)=(R.L,jrK frm R R.L):=by
 have h0:jr0 frm R.size R.first R.seq=jrK frm R (R.L.take 0):=by
  unfold jr0 jrK;rw[qdw];simp only[BF,qbo,qde,qc9,qby,qbp,qba hR.a]
 have h4:=Kw R.L;have h5:=hR.t;unfold LB;rw[h0,Vc hR hf h _ 0 (qak _) (by show R.L.length<0+(R.size+1);omega),List.drop_zero]
theorem HeldJ.congr{V V':Nat->Byt}{frm:Nat}{R:Rj}(h:HeldJ V frm R)(hR:R.Ok)(he:∀p,frm<=p->p<frm+R.size->V' p=V p):HeldJ V' frm R:=by
 have hin:∀L i,V' ((jrK frm R L).place i)=V ((jrK frm R L).place i):=fun L i=>by
  have:=qbm (R.first+(BF L+i)) (show 0<R.size by have:=hR.s1;omega);rw[Mr];exact he _ (qcp ..) (by unfold Rj.pl;omega)
 exact⟨fun k s hs=>⟨fun i hi=>by rw[hin];exact(h.lies k s hs).piece i hi,by rw[hin];exact(h.lies k s hs).fin⟩,fun p h1 h2 h3=>by rw[he p h1 h2]at h3 |-;exact h.old p h1 h2 h3⟩
theorem HeldJ.zeros{frm:Nat}{R:Rj}(hL:R.L=[]):HeldJ (fun _=>zeros) frm R :=
 ⟨fun k s hs=>(by rw[hL]at hs;cases hs),fun p _ _ h=>(by rw[Wk]at h;cases h)⟩
theorem HeldJ.old_at{V V':Nat->Byt}{N frm:Nat}{R:Rj}{b:Byt}(h:HeldJ V frm R)(hR:R.Ok)(hN:frm+R.size<=N)(hf:BF R.L+blk b.length<=R.size)(he:∀p,p<N->(∀i,i<blk b.length->p≠(jrK frm R R.L).place i)->V' p=V p):∀k s,R.L[k]?=some s->LiesJ V' (jrK frm R (R.L.take k)) s:=by
 intro k s hs;have ht:=Vb hs
 have hkey:∀i,i<blk s.length->V' ((jrK frm R (R.L.take k)).place i)=V ((jrK frm R (R.L.take k)).place i):=fun i hi=>by
  refine he _ ?_ fun j hj hp=>?_
  .have:=qbm (R.first+(BF (R.L.take k)+i)) (show 0<R.size by have:=hR.s1;omega);rw[Mr];unfold Rj.pl;omega
  .rw[Mr,Mr]at hp;have:=R.pl_inj hR (by omega) (by omega) hp;omega
 have hb2:=Er s.length;exact⟨fun i hi=>by rw[hkey i (by omega)];exact(h.lies k s hs).piece i hi,by rw[hkey _ (by omega)];exact(h.lies k s hs).fin⟩
theorem Acg(J:Jr)(b:Byt)(i:Nat):(Dt (piB J b i)).toNat=1:=by rw[show Dt (piB J b i)=1 from LC (Acd J b i)];rfl
theorem HeldJ.mid{V V':Nat->Byt}{N frm:Nat}{R:Rj}{b:Byt}(h:HeldJ V frm R)(hR:R.Ok)(hN:frm+R.size<=N)(hf:BF R.L+blk b.length<=R.size)(hm:MidJ N V V' (jrK frm R R.L) b):HeldJ V' frm R:=by
 refine⟨h.old_at hR hN hf fun p hp hn=>?_,fun p h1 h2 h3=>?_⟩
 .rcases hm p hp with h5|⟨i,hi,he,_⟩
  .exact h5
  .exact absurd he (hn i (by omega))
 .rcases hm p (by omega)with h5|⟨i,hi,he,h5⟩
  .rw[h5]at h3 |-;exact h.old p h1 h2 h3
  .rw[h5,Acg]at h3;cases h3
theorem HeldJ.full{V V':Nat->Byt}{N frm:Nat}{R:Rj}{b:Byt}(h:HeldJ V frm R)(hR:R.Ok)(hN:frm+R.size<=N)(hf:BF R.L+blk b.length<=R.size)(hm:Full N V V' (jrK frm R R.L) b):HeldJ V' frm { R with L:=R.L++[b] }:=by
 have hb2:=Er b.length;have hold:=h.old_at hR hN hf hm.rest;refine⟨fun k s hs=>?_,fun p h1 h2 h3=>?_⟩
 .by_cases hk:k<R.L.length
  .have hs':R.L[k]?=some s:=by rw[<-qdj hk (l₂:=[b])];exact hs
   have h9:=hold k s hs';show LiesJ V' (jrK frm { R with L:=R.L++[b] } ((R.L++[b]).take k)) s;rw[qcs (by omega)];exact h9
  .have hke:k=R.L.length:=by
    have:=(qap.1 hs).1;simp only[qan,qbu]at this;omega
   subst hke
   have hsb:s=b:=by
    have h9:(R.L++[b])[R.L.length]?=some s:=hs;rw[qc8 (qae _),qc1]at h9;exact(qbw h9).symm
   subst hsb;show LiesJ V' (jrK frm { R with L:=R.L++[s] } ((R.L++[s]).take R.L.length)) s;rw[qcs (qae _),qbf];exact⟨hm.piece,hm.fin⟩
 .show _<R.seq+(R.L++[b]).length;have h2':p<frm+R.size:=h2;rw[qan,qbu]
  by_cases hi:∃i,i<blk b.length/\p=(jrK frm R R.L).place i
  .obtain⟨i,hi,rfl⟩:=hi
   by_cases hil:i<blk b.length - 1
   .rw[hm.piece i hil,Acg]at h3;cases h3
   .have hie:i=blk b.length - 1:=by omega
    subst hie;have hq:=hR.q;have h4:=Kw R.L;have h5:=hR.s2;rw[hm.fin,show BE (enB (jrK frm R R.L) b)=Hh (R.seq+R.L.length) b from LD (Ace _ b),XZ b (by have:=hR.t;omega)];omega
  .have h5:=hm.rest p (by omega) fun i h6 h7=>hi ⟨i,h6,h7⟩;rw[h5]at h3 |-;have:=h.old p h1 h2' h3;omega
theorem HeldJ.forget{V:Nat->Byt}{frm:Nat}{R:Rj}(h:HeldJ V frm R):HeldJ V frm R.forget :=
 ⟨fun k s hs=>(by cases hs),h.old⟩
theorem ZV{frm:Nat}{R:Rj}(hR:R.Ok):jrK frm R.forget []={ jrK frm R R.L with taken:=0 }:=by
 have h1:=qbm (R.first+BF R.L) (show 0<R.size by have:=hR.s1;omega);unfold jrK Rj.forget Rj.at';simp only[BF,qbo,qde,qc9,qby,Jr.mk.injEq,and_true,true_and];exact qba h1
theorem Vd{R:Rj}(h:R.Ok)(hq:R.seq+R.L.length<=8000000000000000000):R.forget.Ok :=
 ⟨h.s1,h.s2,qbm _ (by have:=h.s1;omega),hq,qak _⟩
def Fj(F:Nat->Prop)(bj:Nat):Nat->Prop:=fun x=>F x\/x=bj
structure Jone(w0 w:World)(bd bj:Nat)(A:Dev)(J:Jr)(F:Nat->Prop):Prop where
 own:Own w0 w bd A F
 jr:w.heap[bj]?=some (Bl TJ (JB bd J))
 nF:¬F bj
 ge:w0.heap.size<=bj
section
variable {w0 w w':World}{bd bj bj' br:Nat}{A A':Dev}{J J':Jr}{R R':Rj}{F F' G:Nat->Prop}{N frm:Nat}
theorem Jone.at(O:Jone w0 w bd bj A J F)(x:Nat)(h:Fj F bj x):w0.heap.size<=x/\x<w.heap.size:=by
 rcases h with h|rfl
 .exact O.own.own x h
 .exact⟨O.ge,Al O.jr⟩
theorem Grown.call{F:Nat->Prop}{w w':World}(hx:Ext [] w w'):Grown F F w w':=⟨.of0 hx,fun _ h => .inl h⟩
theorem Jone.call(O:Jone w0 w bd bj A J F)(hx:Ext [] w w'):Jone w0 w' bd bj A J F :=
 ⟨O.own.call hx,by rw[hx.block bj (Al O.jr) (by simp)];exact O.jr,O.nF,O.ge⟩
theorem Jone.dev(O:Jone w0 w bd bj A J F)(h:Own w0 w' bd A' F'/\Grown F F' w w'):Jone w0 w' bd bj A' J F'/\Grown (Fj F bj) (Fj F' bj) w w':=by
 obtain⟨h,⟨S,hS,hx⟩,hg⟩:=h;have hlt:=Al O.jr;refine⟨⟨h,?_,fun hb=>(hg bj hb).elim O.nF fun h5=>by omega,O.ge⟩,⟨S,fun x h => .inl (hS x h),hx⟩,fun x h=>?_⟩
 .rw[hx.block bj hlt fun hm=>O.nF (hS _ hm)];exact O.jr
 .rcases h with h|h
  .exact(hg x h).imp .inl id
  .exact .inl (.inr h)
theorem Jone.back(O:Jone w0 w bd bj A J F)(D:Dv w w' bd A' (Fj F bj) F' [(bj,Bl TJ (JB bd J'))]):Jone w0 w' bd bj A' J' F'/\Grown (Fj F bj) (Fj F' bj) w w':=by
 have hnew:=D.turn.new O.own.ext fun x h=>(O.at x h).1;have hoff:=D.off _ (qaf ..);have hsz:=O.own.ext.size;refine⟨⟨⟨hnew,D.dev,fun x hx=>⟨?_,D.lt x hx⟩⟩,D.blk _ (qaf ..),hoff,O.ge⟩,D.turn,fun x hx=>?_⟩
 .rcases D.own x hx with h|h
  .exact(O.at x h).1
  .omega
 .rcases hx with hx|hx
  .exact(D.own x hx).imp id And.left
  .exact .inl (.inr hx)
theorem Yb(O:Jone w0 w bd bj A J F)(hJ:J.Ok)(a:Option Addr)(c n:Nat)(b:Byt)(R:Rd w a 1 B8 b)(hn:b.length=n)(hm:n<=900000)(hc:n<=c)(hFa:b=[]\/¬Fj F bj (adr a).block){mx:Nat}(hfew:Few A mx)(hmx:mx<=1000000000:=by decide):
  Ret prog 48 #[ptr bj,.slice a n c] w fun v w'=>v=.int .i64 (Oy A J b)/\∃F',Jone w0 w' bd bj (I0 A J b) (Oz A J b) F'/\Grown (Fj F bj) (Fj F' bj) w w' :=
 (Aep O.jr hJ a c n b R hn hm hc (fun x h=>(O.own.own x h).2) O.nF (hFa.imp id fun h k=>h (.inl k)) hfew hmx O.own.dev).mono fun _ _ ⟨hv,F',D⟩=>⟨hv,F',O.back D⟩
theorem Aeu(O:Own w0 w bd A F)(f z p q:Nat)(hr:Et A.B.length f z p q=true)(ho:A.on=true){mx:Nat}(hfew:Few A mx)(hmx:mx<=1000000000:=by decide):
  Ret prog 34 #[ptr bd,.int .i64 (f:Int),.int .i64 (z:Int),.int .i64 (p:Int),.int .u64 (q:Int)] w fun v w'=>∃bj a n c,v=.tuple #[ptr bj,.slice a n c,.int .i64 0]/\Ext [] w w'/\w.heap.size<=bj/\Jone w0 w' bd bj A (LB A (jr0 f z p q)).2 F/\Strs w' a n c (LB A (jr0 f z p q)).1:=by
 have hhi:=O.dev.wf.hi;have hr2:=hr;simp only[Et,qao,qaq]at hr2;refine(Ajt (f:Int) (z:Int) (p:Int) q hhi ho hfew hmx O.dev).mono fun v w' ⟨hx,h⟩=>?_
 rcases h with⟨h1,_⟩|⟨_,bj,a,n,c,hv,hb,hj,hs⟩
 .rw[hr]at h1;cases h1
 .have hsz:=O.ext.size;exact⟨bj,a,n,c,hv,hx,hb,⟨O.call hx,hj,fun h5=>by have:=(O.own bj h5).2;omega,by omega⟩,hs⟩
structure Jtwo(w0 w:World)(bd bj br:Nat)(A:Dev)(J:Jr)(R:Rj)(F G:Nat->Prop):Prop where
 one:Jone w0 w bd bj A J F
 ref:RjAt w br R G
 g:∀x,G x->w0.heap.size<=x/\x<w.heap.size
 fg:∀x,Fj F bj x->¬G x
theorem Jtwo.go(T:Jtwo w0 w bd bj br A J R F G)(h:Jone w0 w' bd bj' A' J' F'/\Grown (Fj F bj) (Fj F' bj') w w'):Jtwo w0 w' bd bj' br A' J' R F' G/\Still (Fj F bj) G (Fj F' bj') G w w':=by
 obtain⟨h,⟨S,hS,hx⟩,hg⟩:=h;have hsz:=hx.size;refine⟨⟨h,T.ref.keep hx fun x hm hgx=>T.fg x (hS x hm) hgx,fun x hgx=>⟨(T.g x hgx).1,by have:=(T.g x hgx).2;omega⟩,fun x hf hgx=>?_⟩,fun b hb h1 h2=>hx.block b hb fun hm=>h1 (hS b hm),fun b hb h1 h2=>⟨fun h5=>(hg b h5).elim h1 fun h6=>by omega,h2⟩,hsz⟩
 rcases hg x hf with h5|h5
 .exact T.fg x h5 hgx
 .have:=(T.g x hgx).2;omega
theorem Jtwo.call(T:Jtwo w0 w bd bj br A J R F G)(hx:Ext [] w w'):Jtwo w0 w' bd bj br A J R F G:=(T.go ⟨T.one.call hx,.call hx⟩).1
structure Good(N frm:Nat)(A:Dev)(R:Rj):Prop where
 ok:R.Ok
 fit:frm+R.size<=N
 lim:N<=4096
 on:A.on=true
 left : -1<=A.left
 held:∃S,Pend A N S (fun _=>[])/\HeldJ S frm R
theorem Pend.few{S:Nat->Byt}(h:Pend A N S (fun _=>[])):Few A 0:=fun p hp=>by
 obtain⟨i,hi⟩:=qcg.1 hp;have hlt:=(qap.1 hi).1;rw[h.get i (by rw[<-h.len];exact hlt)]at hi;rw[<-qbw hi];exact qae _
theorem Good.few(h:Good N frm A R):Few A 0:=let ⟨_,hp,_⟩:=h.held;hp.few
theorem Good.len(h:Good N frm A R):A.B.length=N:=let ⟨_,hp,_⟩:=h.held;hp.len
theorem Good.jok(h:Good N frm A R):(jrK frm R R.L).Ok:=Aju h.ok (qaw h.fit h.lim) h.ok.t
theorem Good.open(h:Good N frm A R):LB A (jr0 frm R.size R.first R.seq)=(R.L,jrK frm R R.L):=by
 obtain⟨S,hp,hh⟩:=h.held;have hf:=h.fit;exact Aet h.ok (qaw h.fit h.lim) (hh.congr h.ok fun p h1 h2=>hp.at' (by omega))
theorem Good.right(h:Good N frm A R)(hq:1<=R.seq)(hq2:R.seq<=4611686018427387904):Et A.B.length frm R.size R.first R.seq=true:=by
 have h1:=h.fit;have h2:=h.ok.s1;have h3:=h.ok.a;have h4:=h.len;simp only[Et,qao,qaq];omega
theorem Good.new{n frm:Nat}{R:Rj}(hR:R.Ok)(hL:R.L=[])(hf:frm+R.size<=n)(hn:n<=4096):Good n frm (Fu n) R :=
 ⟨hR,hf,hn,rfl,by show(-1:Int) <= -1;omega,_,Pend.new n,HeldJ.zeros hL⟩
theorem Good.forget(h:Good N frm A R)(hq:R.seq+R.L.length<=8000000000000000000):Good N frm A R.forget :=
 let ⟨S,hp,hh⟩:=h.held;⟨Vd h.ok hq,h.fit,h.lim,h.on,h.left,S,hp,hh.forget⟩
theorem Good.again{S:Nat->Byt}{P:Nat->List Byt}(hR:R.Ok)(hf:frm+R.size<=N)(hn:N<=4096)(ho:A.on=false)(hp:Pend A N S P)(hH:∀S',(∀p,p<N->S' p=S p\/S' p∈P p)->HeldJ S' frm R)(picks:List Int):Good N frm (onD A picks) R:=by
 obtain⟨h1,h2,S',h3,h4⟩:=hp.on ho picks;exact⟨hR,hf,hn,h1,by omega,S',h3,hH S' h4⟩
theorem Good.off(h:Good N frm A R)(picks:List Int):Good N frm (onD (KF A) picks) R:=by
 obtain⟨S,hp,hh⟩:=h.held;have hfit:=h.fit;refine Good.again (A:=KF A) (S:=S) (P:=fun _=>[]) h.ok h.fit h.lim U ⟨hp.len,hp.get⟩ (fun S' hS=>hh.congr h.ok fun p h1 h2=>?_) picks
 rcases hS p (by omega)with h5|h5
 .exact h5
 .cases h5
theorem Good.append(h:Good N frm A R)(b:Byt) :
  (Oy A (jrK frm R R.L) b=XX R b/\Good N frm (I0 A (jrK frm R R.L) b) (Th R b)/\Oz A (jrK frm R R.L) b=jrK frm (Th R b) (Th R b).L/\(A.left = -1->(I0 A (jrK frm R R.L) b).left = -1)) \/
  (A.left ≠ -1/\Oy A (jrK frm R R.L) b=8/\XX R b=0/\(I0 A (jrK frm R R.L) b).on=false/\Oz A (jrK frm R R.L) b={ jrK frm R R.L with dead:=true }/\∀picks,Good N frm (onD (I0 A (jrK frm R R.L) b) picks) R\/Good N frm (onD (I0 A (jrK frm R R.L) b) picks) (Th R b)):=by
 obtain⟨S,hp,hh⟩:=h.held;have hR:=h.ok;have hRt:=hR.t;have hf:=h.fit;have hok:=Wi hR b;have hdd:¬(jrK frm R R.L).dead=true:=by simp[jrK]
 have hE:Oy A (jrK frm R R.L) b=if R.size - BF R.L<blk b.length then 7 else(CZ A (jrK frm R R.L) b).1:=by unfold Oy;rw[if_neg hdd];rfl
 have hD:I0 A (jrK frm R R.L) b=if R.size - BF R.L<blk b.length then A else(CZ A (jrK frm R R.L) b).2:=by unfold I0;rw[if_neg hdd];rfl
 have hJ:Oz A (jrK frm R R.L) b=if R.size - BF R.L<blk b.length then jrK frm R R.L else if(CZ A (jrK frm R R.L) b).1=0 then(jrK frm R R.L).passes b.length else{ jrK frm R R.L with dead:=true }:=by unfold Oz;rw[if_neg hdd];rfl
 rw[hE,hD,hJ]
 by_cases hfull:R.size - BF R.L<blk b.length
 .rw[if_pos hfull,if_pos hfull,if_pos hfull];unfold XX Th;rw[if_pos hfull,if_pos hfull];exact .inl ⟨rfl,h,rfl,id⟩
 .rw[if_neg hfull,if_neg hfull,if_neg hfull];have hfit:BF R.L+blk b.length<=R.size:=by omega
  have hRE:XX R b=0:=by unfold XX;rw[if_neg hfull]
  have hRR:Th R b={ R with L:=R.L++[b] }:=by unfold Th;rw[if_neg hfull]
  rcases Ti (b:=b) hp h.on h.left h.jok hf (by show blk b.length<=R.size;omega)with⟨h1,h2,h3,h4,S',h5,h6⟩|⟨h1,h2,h3,S1,P,h5,h6⟩
  .rw[if_pos h1,h1,hRE];refine .inl ⟨rfl,⟨hok,by rw[hRR];exact hf,h.lim,h2,h3,S',h5,by rw[hRR];exact hh.full hR hf hfit h6⟩,?_,h4⟩;rw[hRR];exact Nn frm R R.L b
  .rw[if_neg (by omega),hRE];refine .inr ⟨h1,h2,rfl,h3,rfl,fun picks=>?_⟩;obtain⟨k1,k2,S',k3,k4⟩:=h5.on h3 picks
   rcases h6 S' k4 with h7|h7
   .exact .inl ⟨hR,hf,h.lim,k1,by omega,S',k3,hh.mid hR hf hfit h7⟩
   .exact .inr ⟨hok,by rw[hRR];exact hf,h.lim,k1,by omega,S',k3,by rw[hRR];exact hh.full hR hf hfit h7⟩
end
section
variable {w0 w w':World}{bd bj:Nat}{A:Dev}{J:Jr}{R:Rj}{F:Nat->Prop}{N frm:Nat}
def Rj.more(R:Rj)(b:Byt):Rj:={ R with L:=R.L++[b] }
theorem Qh(O:Own w0 w bd A F)(g:Good N frm A R)(h1:1<=R.seq)(h2:R.seq<=4611686018427387904) :
  Ret prog 34 #[ptr bd,.int .i64 (frm:Int),.int .i64 (R.size:Int),.int .i64 (R.first:Int),.int .u64 (R.seq:Int)] w fun v w'=>∃bj a n c,v=.tuple #[ptr bj,.slice a n c,.int .i64 0]/\Ext [] w w'/\w.heap.size<=bj/\Jone w0 w' bd bj A (jrK frm R R.L) F/\Strs w' a n c R.L:=by
 have h:=Aeu O frm R.size R.first R.seq (g.right h1 h2) g.on g.few
 rw[g.open]at h;exact h
theorem Aev(O:Jone w0 w bd bj A (jrK frm R R.L) F)(g:Good N frm A R) :
  Ret prog 46 #[ptr bj] w fun v w'=>v=.int .i64 ((R.size - BF R.L:Nat):Int)/\Ext [] w w':=Acb O.jr g.jok
theorem Aew(O:Jone w0 w bd bj A (jrK frm R R.L) F) :
  Ret prog 35 #[ptr bj] w fun v w'=>v=.tuple #[.int .i64 (R.at':Int),.int .u64 ((R.seq+R.L.length:Nat):Int)]/\Ext [] w w':=Acc O.jr
theorem Jone.new(O:Jone w0 w bd bj A J F){a:Option Addr}{b:Byt}(_:Rd w' a 1 B8 b)(h:b=[]\/w.heap.size<=(adr a).block):b=[]\/¬Fj F bj (adr a).block :=
 h.imp id fun h hF=>by have:=(O.at _ hF).2;omega
end
def xA:Byt:=[97,98]
def xB:Byt:=Xu 481 120
def xC:Byt:=Xu 1920 121
def xD:Byt:=Xu 1921 121
theorem Apl:xB.length=481:=UK ..
theorem Apm:xC.length=1920:=UK ..
def R0:Rj:=⟨[],10,0,1⟩
def R1:Rj:=R0.more xA
def R2:Rj:=R1.more xB
def R3:Rj:=R2.more xC
theorem t1:BF R1.L=2:=by decide
theorem t2:BF R2.L=5:=by
 show BF ([xA]++[xB])=5;rw[Ia,Apl];decide
theorem t3:BF R3.L=10:=by
 show BF (R2.L++[xC])=10;rw[Ia,Apm,t2];decide
structure SG(N:Nat)(A:Dev)(R:Rj)(V:Nat->Byt):Prop where
 ok:R.Ok
 fit:2+R.size<=N
 lim:N<=4096
 on:A.on=true
 left : -1<=A.left
 pend:Pend A N V (fun _=>[])
 held:HeldJ V 2 R
section
variable {N:Nat}{A:Dev}{R:Rj}{V:Nat->Byt}
theorem SG.good(g:SG N A R V):Good N 2 A R:=⟨g.ok,g.fit,g.lim,g.on,g.left,V,g.pend,g.held⟩
theorem SG.len(g:SG N A R V):A.B.length=N:=g.pend.len
theorem SG.calm(g:SG N A R V):A=calm ((List.range N).map V) A.left:=by
 obtain⟨B,l,o⟩:=A;have h1:=g.on;dsimp only at h1 |-;subst h1;unfold Go.Proofs.YtcpgbcabmcbclaaGreatDoor.calm
 congr 1
 refine qci fun i=>?_
 by_cases hi:i<N
 .rw[g.pend.get i hi,qbi,qas,qdu hi];rfl
 .rw[qbz (by have:=g.len;dsimp only at this;omega),qbz (by simp;omega)]
theorem SG.app(g:SG N A R V)(b:Byt)(hfit:BF R.L+blk b.length<=R.size) :
  (Oy A (jrK 2 R R.L) b=0/\Oz A (jrK 2 R R.L) b=jrK 2 (R.more b) (R.more b).L/\(A.left = -1->(I0 A (jrK 2 R R.L) b).left = -1)/\∃V',SG N (I0 A (jrK 2 R R.L) b) (R.more b) V'/\∀q,(q<2\/2+R.size<=q)->q<N->V' q=V q) \/
  (A.left ≠ -1/\Oy A (jrK 2 R R.L) b=8/\Oz A (jrK 2 R R.L) b={ jrK 2 R R.L with dead:=true }/\(I0 A (jrK 2 R R.L) b).on=false/\∀picks,(onD (I0 A (jrK 2 R R.L) b) picks).left = -1/\∃V',(∀q,(q<2\/2+R.size<=q)->q<N->V' q=V q)/\(SG N (onD (I0 A (jrK 2 R R.L) b) picks) R V'\/SG N (onD (I0 A (jrK 2 R R.L) b) picks) (R.more b) V')):=by
 have hjok:(jrK 2 R R.L).Ok:=g.good.jok;have hff:¬R.size - BF R.L<blk b.length:=by have:=Er b.length;omega
 have hdd:¬(jrK 2 R R.L).dead=true:=by simp[jrK]
 have hE:Oy A (jrK 2 R R.L) b=(CZ A (jrK 2 R R.L) b).1:=by unfold Oy;rw[if_neg hdd];exact if_neg hff
 have hD:I0 A (jrK 2 R R.L) b=(CZ A (jrK 2 R R.L) b).2:=by unfold I0;rw[if_neg hdd];exact if_neg hff
 have hJ:Oz A (jrK 2 R R.L) b=if(CZ A (jrK 2 R R.L) b).1=0 then(jrK 2 R R.L).passes b.length else{ jrK 2 R R.L with dead:=true }:=by unfold Oz;rw[if_neg hdd];exact if_neg hff
 have hRR:R.more b=Th R b:=by unfold Th;rw[if_neg hff];rfl
 have hpl:∀i,2<=(jrK 2 R R.L).place i/\(jrK 2 R R.L).place i<2+R.size:=fun i=>⟨qcp 2 _,hjok.place i⟩
 have hfull:∀{S'},Full N V S' (jrK 2 R R.L) b->∀q,(q<2\/2+R.size<=q)->q<N->S' q=V q:=fun h6 q hq hN=>h6.rest q hN fun i _ he=>by
  have:=hpl i;omega
 rw[hE,hD,hJ]
 rcases Ti (b:=b) g.pend g.on g.left hjok g.fit (by show blk b.length<=R.size;omega)with⟨h1,h2,h3,h4,S',h5,h6⟩|⟨h1,h2,h3,S1,P,h5,h6⟩
 .rw[if_pos h1];exact .inl ⟨h1,Nn 2 R R.L b,h4,S',⟨by rw[hRR];exact Wi g.ok b,g.fit,g.lim,h2,h3,h5,g.held.full g.ok g.fit hfit h6⟩,hfull h6⟩
 .rw[if_neg (by rw[h2];decide)];refine .inr ⟨h1,h2,rfl,h3,fun picks=>?_⟩;obtain⟨k1,k2,S',k3,k4⟩:=h5.on h3 picks
  rcases h6 S' k4 with h7|h7
  .refine⟨k2,S',fun q hq hN=>?_,.inl ⟨g.ok,g.fit,g.lim,k1,by omega,k3,g.held.mid g.ok g.fit hfit h7⟩⟩
   rcases h7 q hN with h8|⟨i,_,h8,_⟩
   .exact h8
   .have:=hpl i;omega
  .exact⟨k2,S',hfull h7,.inr ⟨by rw[hRR];exact Wi g.ok b,g.fit,g.lim,k1,by omega,k3,g.held.full g.ok g.fit hfit h7⟩⟩
theorem Pend.congr{P:Nat->List Byt}{S S':Nat->Byt}(h:Pend A N S P)(he:∀q,q<N->S' q=S q):Pend A N S' P:=⟨h.len,fun q hq=>by rw[h.get q hq,he q hq]⟩
theorem SG.put{A':Dev}(g:SG N A R V){V':Nat->Byt}(ho:A'.on=true)(hl : -1<=A'.left)(hp:Pend A' N V' (fun _=>[]))(he:∀q,2<=q->q<2+R.size->V' q=V q):SG N A' R V' :=
 ⟨g.ok,g.fit,g.lim,ho,hl,hp,g.held.congr g.ok fun q h1 h2=>he q h1 h2⟩
theorem SG.save(g:SG N A R V)(gen:Nat)(body:Byt)(h1:1<=gen)(hg:gen<=4611686018427387904)(hb:body.length<=480) :
  (GO A gen body=0/\(A.left = -1->(EB A gen body).left = -1)/\SG N (EB A gen body) R (fun q=>if q=gen % 2 then DH gen body else V q)) \/
  (A.left ≠ -1/\GO A gen body=8/\(EB A gen body).on=false/\Few (EB A gen body) 1/\(EB A gen body).B.length=N/\∀picks,(onD (EB A gen body) picks).left = -1/\(SG N (onD (EB A gen body) picks) R V\/SG N (onD (EB A gen body) picks) R (fun q=>if q=gen % 2 then DH gen body else V q))):=by
 have hN:2<=N:=by have:=g.ok.s1;have:=g.fit;omega
 have hfit:=g.fit;have hleft:=g.left;have hm:gen % 2<2:=qbm _ (by decide);have hs:=Ads (B:=(List.range N).map V) (left:=A.left) (gen:=gen) (body:=body) (by simpa using hN) h1 hg hb g.left;rw[<-g.calm]at hs;have hpA:=g.pend
 by_cases l0:A.left=0
 .rw[if_pos (Or.inl l0),if_pos l0]at hs;have hp:Pend (EB A gen body) N V (fun _=>[]):=by rw[hs.2];exact⟨hpA.len,hpA.get⟩
  have ho:(EB A gen body).on=false:=by rw[hs.2]
  refine .inr ⟨by omega,hs.1,ho,hp.few.mono (by decide),hp.len,fun picks=>?_⟩;obtain⟨k1,k2,S',k3,k4⟩:=hp.on ho picks;refine⟨k2,.inl (g.put k1 (by omega) (k3.congr fun q hq=>?_) fun _ _ _=>rfl)⟩
  rcases k4 q hq with h5|h5
  .exact h5.symm
  .cases h5
 .by_cases l1:A.left=1
  .rw[if_pos (Or.inr l1),if_neg l0,if_pos l1]at hs
   have hp:Pend (EB A gen body) N V (fun q=>if q=gen % 2 then[DH gen body]else[]):=by
    rw[hs.2];refine⟨by simp[Gv],fun q hq=>?_⟩
    have hq2:((List.range N).map V).map (fun b=>(b,([]:List Byt)))=A.B:=by
     have:=qab Dev.B g.calm;exact this.symm
    show(((((List.range N).map V).map fun b=>(b,([]:List Byt))).modify (gen % 2) fun p=>(p.1,p.2++[DH gen body])))[q]?=_;rw[hq2,qcq,hpA.get q hq];show some (if gen % 2=q then((V q,[]++[DH gen body]):Byt × List Byt)else(V q,[]))=_
    by_cases he:gen % 2=q
    .rw[if_pos he,if_pos he.symm];rfl
    .rw[if_neg he,if_neg (fun h=>he h.symm)]
   have ho:(EB A gen body).on=false:=by rw[hs.2];rfl
   refine .inr ⟨by omega,hs.1,ho,fun p hp2=>?_,hp.len,fun picks=>?_⟩
   .obtain⟨i,hi⟩:=qcg.1 hp2;have hlt:=(qap.1 hi).1;rw[hp.get i (by rw[<-hp.len];exact hlt)]at hi;rw[<-qbw hi];dsimp only
    split <;> simp
   .obtain⟨k1,k2,S',k3,k4⟩:=hp.on ho picks;refine⟨k2,?_⟩
    rcases k4 (gen % 2) (by omega)with h5|h5
    .refine .inl (g.put k1 (by omega) (k3.congr fun q hq=>?_) fun _ _ _=>rfl)
     by_cases he:q=gen % 2
     .rw[he];exact h5.symm
     .rcases k4 q hq with h6|h6
      .exact h6.symm
      .rw[if_neg he]at h6;cases h6
    .refine .inr (g.put k1 (by omega) (k3.congr fun q hq=>?_) fun q h6 h7=>if_neg (by omega));rw[if_pos rfl,qaa]at h5
     by_cases he:q=gen % 2
     .rw[if_pos he,he,h5]
     .rw[if_neg he]
      rcases k4 q hq with h6|h6
      .exact h6.symm
      .rw[if_neg he]at h6;cases h6
  .rw[if_neg (by omega),if_neg l0,if_neg l1]at hs;have hd:=hs.2;refine .inl ⟨hs.1,fun hl=>by rw[hd];exact if_pos hl,g.put (by rw[hd];rfl) (by rw[hd];show -1<=(if A.left = -1 then -1 else A.left - 2);split <;> omega) ?_ fun q h6 h7=>if_neg (by omega)⟩;rw[hd];refine⟨by simp[Go.Proofs.YtcpgbcabmcbclaaGreatDoor.calm],fun q hq=>?_⟩;show((((List.range N).map V).set (gen % 2) (DH gen body)).map fun b=>(b,[]))[q]?=_;rw[qas,qc6]
   by_cases h:q=gen % 2
   .subst h;rw[if_pos rfl,if_pos (by simpa using hq),if_pos rfl];rfl
   .rw[if_neg (fun h5=>h h5.symm),qas,qdu hq,if_neg h];rfl
theorem SG.save0(g:SG N A R V)(hl:A.left = -1)(gen:Nat)(body:Byt)(h1:1<=gen)(hg:gen<=4611686018427387904)(hb:body.length<=480) :
  GO A gen body=0/\(EB A gen body).left = -1/\SG N (EB A gen body) R (fun q=>if q=gen % 2 then DH gen body else V q) :=
 let h:=(g.save gen body h1 hg hb).resolve_right fun h=>h.1 hl
 ⟨h.1,h.2.1 hl,h.2.2⟩
theorem SG.off(g:SG N A R V)(picks:List Int):SG N (onD (KF A) picks) R V:=by
 have hp:Pend (KF A) N V (fun _=>[]):=⟨g.pend.len,g.pend.get⟩;obtain⟨h1,h2,S',h3,h4⟩:=hp.on rfl picks;refine⟨g.ok,g.fit,g.lim,h1,by omega,⟨h3.len,fun q hq=>?_⟩,g.held⟩;rw[h3.get q hq]
 rcases h4 q hq with h5|h5
 .rw[h5]
 .cases h5
theorem SG.new{n:Nat}{R:Rj}(hR:R.Ok)(hL:R.L=[])(hf:2+R.size<=n)(hn:n<=4096):SG n (Fu n) R (fun _=>zeros) :=
 ⟨hR,hf,hn,rfl,by show(-1:Int) <= -1;decide,Pend.new n,HeldJ.zeros hL⟩
theorem SG.load(g:SG N A R V){g0 g1:Nat}{l0 l1:Byt}(h0:Cy 0 (V 0)=g0)(h1:Cy 1 (V 1)=g1)(hl0:g1<g0->DG 0 (V 0)=l0)(hl1:g0<=g1->0<g1->DG 1 (V 1)=l1) :
  EG A=(if g0=0/\g1=0 then 4 else 0)/\F8 A=(if g1<g0 then g0 else g1)/\DS A=(if g1<g0 then l0 else if g1=0 then[]else l1):=by
 have hN:2<=N:=by have:=g.ok.s1;have:=g.fit;omega
 have e0:((List.range N).map V).getD 0 zeros=V 0:=by rw[qa9,qas,qdu (by omega)];rfl
 have e1:((List.range N).map V).getD 1 zeros=V 1:=by rw[qa9,qas,qdu (by omega)];rfl
 have h:=Aij (g0:=g0) (g1:=g1) (l0:=l0) (l1:=l1) (B:=(List.range N).map V) (left:=A.left) (by simpa using hN) (by rw[e0];exact h0) (by rw[e1];exact h1) (by rw[e0];exact hl0) (by rw[e1];exact hl1);rw[<-g.calm]at h;exact h
end
abbrev Kvl:Type:=List (Byt × Byt)
def EE(l:List (Byt × Sv)):Kvl:=l.map fun p=>(p.1,p.2.v)
def LF(kv:Kvl)(x:Wr):Kvl:=if x.d=true then Gr kv x.k else JC (Gr kv x.k) x.k x.v
def LG(kv:Kvl)(k:Byt):Int:=match BJ kv k with|some v=>ME k v|none=>0
def goK(kv:Kvl)(room:Int):List Byt->Int->List Wr->Int
 |_,b,[]=>if room<b then 7 else 0
 |seen,b,x::L=>if HA (decide (x.k∈seen)) x=true then 1 else goK kv room (seen++[x.k]) (b - LG kv x.k+H3 x) L
def Ef(kv:Kvl)(n room:Int)(L:List Wr):Int:=if 1000<L.length then 6 else goK kv room [] n L
theorem LH{l:List (Byt × Sv)}{k:Byt}:BJ (EE l) k=(BJ l k).map Sv.v:=Fh (f:=Sv.v)
theorem Wl(l:List (Byt × Sv))(k:Byt):Jo l k=LG (EE l) k:=by
 unfold Jo LG;rw[LH];cases BJ l k <;> rfl
theorem Ajv(l:List (Byt × Sv))(room:Int):∀(L:List Wr) (seen:List Byt) (b:Int),goR l room seen b L=goK (EE l) room seen b L
 | [],_,_=>rfl
 |x::L,seen,b=>by
  rw[goR,goK,Wl,Ajv l room L]
theorem Aex(l:List (Byt × Sv))(n room:Int)(L:List Wr):We l n room L=Ef (EE l) n room L:=by
 unfold We Ef;rw[Ajv]
theorem Ach{l:List (Byt × Sv)}{x:Wr}{s:Sv}(h:s.v=x.v):EE (TS l x s)=LF (EE l) x:=by
 unfold TS LF EE
 split
 .exact(Oq (f:=Sv.v)).symm
 .rw[Oq (f:=Sv.v),<-h,Oo (f:=Sv.v)]
def Gb(kv:Kvl)(L:List Wr):Kvl:=L.foldl LF kv
def Eh(kv:Kvl)(n:Int):List Wr->Int
 | []=>n
 |x::L=>Eh (LF kv x) (n - LG kv x.k+H3 x) L
theorem Tk{kv:Kvl}{L:List Wr}{x:Wr}:Gb kv (L++[x])=LF (Gb kv L) x:=by simp[Gb]
theorem Np:∀{L:List Wr} {kv:Kvl} {n:Int} {x:Wr},Eh kv n (L++[x])=Eh kv n L - LG (Gb kv L) x.k+H3 x
 | [],_,_,_=>rfl
 |y::L,kv,n,x=>by
  rw[qbx,Eh,Eh,Np];rfl
theorem Amf{kv:Kvl}(h:∀p∈kv,p.1.length<=32/\p.2.length<=128)(k:Byt):0<=LG kv k/\LG kv k<=164:=by
 unfold LG
 cases hq:BJ kv k with
 |none=>simp
 |some v=>have:=h _ (EV hq);dsimp only[ME]at this |-;omega
theorem Amg{x:Wr}(h:x.Few):0<=H3 x/\H3 x<=164:=by
 unfold H3 Wr.Few at *
 split
 .simp
 .unfold ME;omega
theorem KvAt.fewK{w:World}{M:Mut}{l:List (Byt × Sv)}{o:Obj}(K:KvAt w M l o):∀p∈EE l,p.1.length<=32/\p.2.length<=128:=fun p hp=>by
 obtain⟨q,hq,rfl⟩:=qah.1 hp;exact K.few q hq
structure Sp where
 bd:Nat
 bs:Nat
 bj:Nat
 bp:Nat
 ba:Nat
 bt:Nat
 m1:Nat
 m2:Nat
 z:Nat->Prop
structure Sx where
 gen:Nat
 root:Int
 n:Int
 kv:Kvl
 t:List (Byt × Int)
 P:List Nat
 T:Int
 V:Nat->Byt
def Sp.blk(p:Sp)(x:Sx)(o1 o2:Obj):List (Nat × Obj) :=
 [(p.bs,Bl CU (CN (ptr p.bd) (ptr p.bj) (ptr p.bp) (ptr p.bt) x.gen x.root p.m1 p.m2 x.n false)),(p.m1,o1),(p.m2,o2),(p.bp,Bl TPg [.slice (some ⟨p.ba,0,none⟩) x.P.length x.P.length]),(p.ba,Bl TSt (x.P.map stv)),(p.bt,Bl TT (Qd p.bd p.bp 362))]
def Sp.own(p:Sp):List Nat:=[p.bs,p.m1,p.m2,p.bp,p.ba,p.bt]
def Ms(F:Mut)(p:Sp):Mut:=fun x=>Fj F p.bj x\/x∈p.own
def Mv(F:Mut)(p:Sp):Mut:=fun y=>Ms F p y\/p.z y
theorem KvAt.weak{w:World}{M M':Mut}{l:List (Byt × Sv)}{o:Obj}(h:KvAt w M l o)(hM:∀x,M' x->M x):KvAt w M' l o:=⟨h.m,(fun q hq=>⟨⟨(h.ok q hq).1.1,(h.ok q hq).1.2.imp id fun h5 h6=>h5 (hM _ h6)⟩,(h.ok q hq).2⟩),h.few⟩
theorem Yc{F F':Mut}{p:Sp}{w w':World}(h:Grown (Ms F p) (Ms F' p) w w'):Grown (Mv F p) (Mv F' p) w w':=by
 obtain⟨⟨S,hS,hx⟩,g⟩:=h;exact⟨⟨S,fun y hy => .inl (hS y hy),hx⟩,fun y hy=>hy.elim (fun h=>(g y h).imp .inl id) fun h => .inl (.inr h)⟩
structure Sok(w0 w:World)(p:Sp)(A:Dev)(R:Rj)(x:Sx)(F:Mut):Prop where
 jone:Jone w0 w p.bd p.bj A (jrK 2 R R.L) F
 good:SG A.B.length A R x.V
 ex:∃l o1 o2,Fo w (Fj F p.bj) (p.blk x o1 o2)/\KvAt w (Mv F p) l o1/\EE l=x.kv/\Ek str (mi x.t) o2
 ge:∀q∈p.own,w0.heap.size<=q
 nn : -(200*x.T)<=x.n/\x.n<=200*x.T
 tt:∀q∈x.t,0<=q.2/\q.2<=x.T
 tT:0<=x.T/\x.T<=4000000
 zl:∀y,p.z y->y<w.heap.size
section
variable {w0 w w':World}{p:Sp}{A:Dev}{R:Rj}{x:Sx}{F:Mut}
theorem Sok.call(O:Sok w0 w p A R x F)(hx:Ext [] w w'):Sok w0 w' p A R x F:=by
 obtain⟨l,o1,o2,hF,K,hk,hM⟩:=O.ex;exact⟨O.jone.call hx,O.good,⟨l,o1,o2,(hF.call (Grown.call hx)).1,⟨K.m,fun q hq=>⟨(K.ok q hq).1.call hx,(K.ok q hq).2⟩,K.few⟩,hk,hM⟩,O.ge,O.nn,O.tt,O.tT,fun y hy=>qau (O.zl y hy) hx.size⟩
theorem Sok.lt(O:Sok w0 w p A R x F):∀q,Ms F p q->q<w.heap.size:=fun q hq=>by
 obtain⟨l,o1,o2,hF,-⟩:=O.ex
 rcases hq with hq|hq
 .exact(O.jone.at q hq).2
 .have hb:∀y∈p.blk x o1 o2,y.1<w.heap.size:=fun y hy=>Al (hF.blk y hy);simp only[Sp.own,qac,qam,or_false]at hq;simp only[Sp.blk,qac,qam,or_false,forall_eq_or_imp,forall_eq]at hb
  rcases hq with rfl|rfl|rfl|rfl|rfl|rfl
  .exact hb.1
  .exact hb.2.1
  .exact hb.2.2.1
  .exact hb.2.2.2.1
  .exact hb.2.2.2.2.1
  .exact hb.2.2.2.2.2
def Apn(w0 w:World)(bd bj N:Nat)(A:Dev)(R:Rj)(V:Nat->Byt)(F:Mut)(b:Byt)(v:Value)(w':World):Prop :=
 ∃(e:Int) (A':Dev) (J':Jr) (F':Mut),v=.int .i64 e/\Jone w0 w' bd bj A' J' F'/\Grown (Fj F bj) (Fj F' bj) w w' /\
  ((e=0/\J'=jrK 2 (R.more b) (R.more b).L/\(A.left = -1->A'.left = -1)/\∃V',SG N A' (R.more b) V'/\∀q,(q<2\/2+R.size<=q)->q<N->V' q=V q) \/
   (e=8/\A.left ≠ -1/\A'.on=false/\Few A' 1000000/\∀picks,(onD A' picks).left = -1/\∃V',(∀q,(q<2\/2+R.size<=q)->q<N->V' q=V q)/\(SG N (onD A' picks) R V'\/SG N (onD A' picks) (R.more b) V')))
theorem Yd{A:Dev}{J:Jr}{b:Byt}{m:Nat}(h:Few A m):Few (CZ A J b).2 (m+blk b.length):=by
 have hb:=Er b.length;have h1:=Ox (J:=J) (b:=b) h (blk b.length - 1);have h2:=IF h1;have h3:=Hv h2 (J.place (blk b.length - 1):Int) (DR 2 (Hh J.seq b));have h4:=IF h3;have e:m+(blk b.length - 1)+1=m+blk b.length:=by omega
 rw[e]at h3 h4;unfold CZ
 split
 .split
  .split
   .exact h4
   .exact h3
  .exact h2.mono (by omega)
 .exact h1.mono (by omega)
theorem Aey{A:Dev}{J:Jr}{b:Byt}{m:Nat}(h:Few A m):Few (I0 A J b) (m+blk b.length):=by
 unfold I0
 split
 .exact h.mono (by omega)
 .split
  .exact h.mono (by omega)
  .exact Yd h
theorem Aez{N bd bj:Nat}{V:Nat->Byt}(O:Jone w0 w bd bj A (jrK 2 R R.L) F)(g:SG N A R V)(b:Byt)(hfit:BF R.L+blk b.length<=R.size)(a:Option Addr)(c n:Nat)(Rb:Rd w a 1 B8 b)(hn:b.length=n)(hc:n<=c)(hFa:b=[]\/¬Fj F bj (adr a).block)(hm:n<=900000:=by omega):
  Ret prog 48 #[ptr bj,.slice a n c] w (Apn w0 w bd bj N A R V F b) :=
 (Yb O g.good.jok a c n b Rb hn hm hc hFa g.good.few).mono fun v w' ⟨hv,F',O',G⟩=>by
  have hB:=Pn b.length;have hfw:Few (I0 A (jrK 2 R R.L) b) 1000000:=(Aey (m:=0) g.good.few).mono (by omega);refine⟨_,_,_,F',hv,O',G,?_⟩
  rcases g.app b hfit with⟨h1,h2,h3,V',h4,h5⟩|⟨h0,h1,h2,h3,h4⟩
  .exact .inl ⟨h1,h2,h3,V',h4,h5⟩
  .exact .inr ⟨h1,h0,h3,hfw,h4⟩
theorem Jone.over{bd bj:Nat}{J:Jr}{S:List Nat}(O:Jone w0 w bd bj A J F)(hx:Ext S w w')(hS:∀y∈S,¬Fj F bj y)(hge:∀y∈S,w0.heap.size<=y):Jone w0 w' bd bj A J F :=
 ⟨⟨O.own.ext.then hx fun y hy => .inr (hge y hy),O.own.dev.keep hx fun y hy h=>hS y hy (.inl h),fun y h=>by have:=O.own.own y h;have:=hx.size;omega⟩,by rw[hx.block bj (Al O.jr) fun h=>hS _ h (.inr rfl)];exact O.jr,O.nF,O.ge⟩
theorem Wrs.call{M:Mut}{a:Option Addr}{n c:Nat}{L:List Wr}(h:Wrs w M a n c L)(hx:Ext [] w w'):Wrs w' M a n c L:=h.turn (Grown.call hx)
theorem Aci{kv:Kvl}{room:Int}:∀{L:List Wr} {seen:List Byt} {b:Int},goK kv room seen b L=0->∀y∈L,y.Few
 | [],_,_,_,y,hy=>by cases hy
 |z::L,seen,b,h,y,hy=>by
  rw[goK]at h
  split at h
  .cases h
  .rename_i hb
   rcases qac.1 hy with rfl|hy
   .unfold HA at hb;simp only[qer,qdy,qct]at hb;exact⟨by omega,by omega⟩
   .exact Aci h y hy
theorem Ye{kv:Kvl}{n room:Int}{L:List Wr}(h:Ef kv n room L=0):L.length<=1000/\∀y∈L,y.Few:=by
 unfold Ef at h
 split at h
 .cases h
 .exact⟨by omega,Aci h⟩
theorem Ji{m:Int}:∀{L:List Wr} {kv:Kvl} {n:Int},(∀q∈kv,q.1.length<=32/\q.2.length<=128)->(∀y∈L,y.Few) -> -(200*m)<=n->n<=200*m -> -(200*(m+L.length))<=Eh kv n L/\Eh kv n L<=200*(m+L.length)
 | [],kv,n,_,_,h1,h2=>by simp[Eh];omega
 |z::L,kv,n,hkv,hL,h1,h2=>by
  rw[Eh];have ha:=Amf hkv z.k;have hb:=Amg (hL z (qaf ..));have hz:=hL z (qaf ..)
  have:=Ji (m:=m+1) (L:=L) (kv:=LF kv z) (n:=n - LG kv z.k+H3 z) (fun q hq=>by
   unfold LF at hq
   split at hq
   .exact hkv q (JW hq)
   .rcases Ov hq with rfl|hq
    .exact hz
    .exact hkv q (JW hq)) (fun y hy=>hL y (qaj _ hy)) (by omega) (by omega)
  rw[qav];omega
end
def Ev(t:List (Byt × Int))(W:List Wr):List (Byt × Int):=W.foldl (fun t x=>JV t x.k) t
theorem Qi{t:List (Byt × Int)}{W:List Wr}{x:Wr}:Ev t (W++[x])=JV (Ev t W) x.k:=by simp[Ev]
section
variable {w0 w w':World}{p:Sp}{A:Dev}{R:Rj}{x:Sx}{F:Mut}
theorem Amh{M:Mut}{o1 o2 z1 z2 ob:Obj}(hF:Fo w M (p.blk x o1 o2))(H:Ctx w [p.bs,p.m1,p.m2] w' [(p.bs,ob),(p.m1,z1),(p.m2,z2)]) :
  Fo w' M ([(p.bs,ob),(p.m1,z1),(p.m2,z2)]++(p.blk x o1 o2).drop 3):=by
 have hk:([(p.bs,ob),(p.m1,z1),(p.m2,z2)]++(p.blk x o1 o2).drop 3).map (·.1)=(p.blk x o1 o2).map (·.1):=rfl;have hnd:=hF.nd;refine⟨fun y hy=>?_,?_,fun y hy=>?_⟩
 .rcases qat.1 hy with hy|hy
  .exact H.blk y hy
  .have hb:=hF.blk y (qcy hy);rw[H.ext.block y.1 (Al hb) fun h5=>?_]
   .exact hb
   .simp only[Sp.blk,qbh,qac,qam,or_false,forall_eq_or_imp,forall_eq]at hnd;simp only[Sp.blk,List.drop_succ_cons,List.drop_zero,qac,qam,or_false]at hy h5
    rcases hy with rfl|rfl|rfl <;> rcases h5 with h5|h5|h5 <;> simp_all
 .have h1:((p.blk x o1 o2).map (·.1)).Pairwise (·≠·):=qbs.2 hnd;rw[<-hk]at h1;exact qbs.1 h1
 .have h1:y.1∈(p.blk x o1 o2).map (·.1):=by rw[<-hk];exact qah.2 ⟨y,hy,rfl⟩
  obtain⟨z,hz,he⟩:=qah.1 h1;rw[<-he];exact hF.off z hz
theorem Ajw{F':Mut}(h:Grown (Fj F p.bj) (Fj F' p.bj) w w'):Grown (Ms F p) (Ms F' p) w w':=by
 obtain⟨⟨S,hS,hx⟩,g⟩:=h;exact⟨⟨S,fun y hy => .inl (hS y hy),hx⟩,fun y hy=>hy.elim (fun h=>(g y h).imp .inl id) fun h => .inl (.inr h)⟩
structure Cj(p:Sp)(x:Sx)(M:Mut)(wb:World)(L:List Wr)(i:Nat)(l:List (Byt × Sv))(t:List (Byt × Int))(z1 z2:Obj)(w':World):Prop where
 H:Ctx wb [p.bs,p.m1,p.m2] w' [(p.bs,Bl CU (CN (ptr p.bd) (ptr p.bj) (ptr p.bp) (ptr p.bt) x.gen x.root p.m1 p.m2 (Eh x.kv x.n (L.take i)) false)),(p.m1,z1),(p.m2,z2)]
 K:KvAt w' M l z1
 k:EE l=Gb x.kv (L.take i)
 m:Ek str (mi t) z2
 te:t=Ev x.t (L.take i)
 t:∀q∈t,0<=q.2/\q.2<=x.T+i
structure Dd9(w0 w:World)(p:Sp)(A:Dev)(F:Mut):Prop where
 own:Own w0 w p.bd A F
 bs:∃(vj vp vt:Value) (gen:Nat) (root n:Int),w.heap[p.bs]?=some (Bl CU (CN (ptr p.bd) vj vp vt gen root p.m1 p.m2 n true))
 nF:¬F p.bs
 ge:w0.heap.size<=p.bs
 off:A.on=false
 few:Few A 10000000
def CkOut(w0:World)(p:Sp)(F:Mut)(C:Dev->Rj->Sx->Prop)(Z:Dev->Prop)(w:World)(v:Value)(w':World):Prop :=
 ∃(e:Int) (A':Dev) (F':Mut),v=.int .i64 e/\Grown (Ms F p) (Ms F' p) w w'/\((e=0/\∃R' x',Sok w0 w' p A' R' x' F'/\C A' R' x')\/(e=8/\Dd9 w0 w' p A' F'/\Z A'))
def An4(w0:World)(p:Sp)(A:Dev)(R:Rj)(x:Sx)(F:Mut)(L:List Wr)(C:Dev->Rj->Sx->Prop)(Z:Dev->Prop)(w:World)(v:Value)(w':World):Prop :=
 (v=.int .i64 (Ef x.kv x.n (Da A.B.length) L)/\(Ef x.kv x.n (Da A.B.length) L≠0\/L=[])/\Sok w0 w' p A R x F/\Ext [] w w') \/
 (Ef x.kv x.n (Da A.B.length) L=0/\L≠[]/\v=.int .i64 0/\∃A1 R1 x1 A' F' V',C A1 R1 x1/\Sok w0 w' p A' (R1.more (opB L)) { x1 with n:=Eh x1.kv x1.n L,kv:=Gb x1.kv L,t:=Ev x1.t L,T:=x1.T+L.length,V:=V' } F'/\A'.B.length=A.B.length/\(A1.left = -1->A'.left = -1)/\(∀q,(q<2\/2+R1.size<=q)->q<A.B.length->V' q=x1.V q)/\Grown (Ms F p) (Ms F' p) w w') \/
 (Ef x.kv x.n (Da A.B.length) L=0/\L≠[]/\v=.int .i64 8/\∃A' F',Dd9 w0 w' p A' F'/\Grown (Ms F p) (Ms F' p) w w'/\(Z A'\/∃A1 R1 x1,C A1 R1 x1/\A1.left ≠ -1/\∀picks,(onD A' picks).left = -1/\∃V',(∀q,(q<2\/2+R1.size<=q)->q<A.B.length->V' q=x1.V q)/\(SG A.B.length (onD A' picks) R1 V'\/SG A.B.length (onD A' picks) (R1.more (opB L)) V')))
theorem Nq(O:Sok w0 w p A R x F)(a:Option Addr)(nn c:Nat)(L:List Wr)(X:Wrs w (Ms F p) a nn c L)(hnn:nn<=1000000000)(hT:x.T<=3000000){C:Dev->Rj->Sx->Prop}{Z:Dev->Prop}(hC:∀{A' R' x'},C A' R' x'->x'.kv=x.kv/\x'.n=x.n/\x'.T=x.T/\A'.B.length=A.B.length/\BF R'.L+blk (opB L).length<=R'.size)(hfit:Ef x.kv x.n (Da A.B.length) L=0->L≠[]->BF R.L+blk (opB L).length<=R.size->C A R x)(hck:∀w1,Ext [] w w1->Ef x.kv x.n (Da A.B.length) L=0->L≠[]->¬BF R.L+blk (opB L).length<=R.size->Ret prog 16 #[ptr p.bs] w1 (CkOut w0 p F C Z w1)) :
  Ret prog 13 #[ptr p.bs,.slice a nn c] w (An4 w0 p A R x F L C Z w):=by
 obtain⟨wI,rfl⟩:=qD w;have hnL:=X.num;have hB:=O.good.lim;have hnn0:=O.nn;have hT0:=O.tT
 have hs:wI.heap[p.bs]?=some (Bl CU (CN (ptr p.bd) (ptr p.bj) (ptr p.bp) (ptr p.bt) x.gen x.root p.m1 p.m2 x.n false)):=by
  obtain⟨l,o1,o2,hF,-⟩:=O.ex;exact hF.blk _ (qaf ..)
 have hright:=(fun(l:List (Byt × Sv)) (o1 o2:Obj) (hF:Fo wI (Fj F p.bj) (p.blk x o1 o2)) (K:KvAt wI (Mv F p) l o1)=>let ⟨_,_,hhd⟩:=O.jone.own.dev.hd;Aee wI a nn c L hs hhd (hF.blk (p.m1,o1) (by simp[Sp.blk])) (K.weak fun _ h => .inl h) X hnn);obtain⟨l0,o10,o20,hF0,K0,hk0,hM0⟩:=O.ex;have hright:=hright l0 o10 o20 hF0 K0;rw[Aex,hk0]at hright;clear hF0 K0 hk0 hM0;refine A8 (fn:=Tryz.f13) func13 U [ptr p.bs,.slice a nn c] U (Ad (Ac U (qA (Ar (Ad (An U (Aj qB (JX hs) U ?_)))))));rintro v w ⟨rfl,rfl⟩;refine Ac U (qA (Ad (Ae U (Be U U (qA (Av _ U ?_ ?_))))))
 .intro h1;replace h1:=Bv h1;exact absurd U h1
 .intro h1;replace h1:=Bw h1;refine Ap (Aa (Ar (Ad (An U (Ah U (Aj qB hright U ?_))))));rintro v w2 ⟨rfl,hx19⟩;refine Ac U (qA (Ad (BG (α:=Unit) 133169152 (fun _=>[(26,.bool ((!decide (Ef x.kv x.n (Da A.B.length) L=0) || decide (nn=0))))]) (fun _ w'=>w2=w') U ?_ ?_)))
  .refine Ae U (Be U U (AF U (AQ 22 U ?_ ?_)))
   .intro h1;replace h1:=Bv h1;refine Ag U (Ag U (Ag U (AN U (.bool _) U (Ab ?_))));exact⟨rfl,(),rfl,⟨qab Value.bool (by simp_all;try omega),trivial⟩,rfl⟩
   .intro h2;replace h2:=Bw h2;refine Ah U (AO Cn U (BA U U (AM U (.bool _) U (Ab ?_))));exact⟨rfl,(),rfl,⟨qab Value.bool (by simp_all;try omega),trivial⟩,rfl⟩
  rintro - j26 w rfl;refine Av _ U ?_ ?_
  .intro h2;refine Ad (Ae U (Ac U (qA (A6 (Ao (AG (v:=(.int _ _)) U U U ?_))))));refine .inl ⟨rfl,?_,O.call hx19,hx19⟩;simp only[qcf,qd5,qct,qaq]at h2;exact h2.imp id fun h=>qa4 (by omega)
  .intro h2;simp only[qdy,Bool.not_eq_false',qct,qaq]at h2;obtain⟨hr0,hn0⟩:=h2;have hL0:L≠[]:=fun h=>hn0 (by rw[hnL,h];rfl);obtain⟨hL1,hLf⟩:=Ye hr0;have O2:=O.call hx19;have X2:=X.call hx19;refine Ap (Aa (Ad (Ah U (Aj qB (Al5 w2 a nn c L X2 hLf) U ?_))));rintro v w3 ⟨a29,c29,rfl,R29,h29,hc29,hx29⟩;have O3:=O2.call hx29;have X3:=X2.call hx29;have hs3:=(hx19.trans hx29).to hs (by simp);have hOL:=Om hLf;have H:=Ctx.start w3 [];have X29:Rdx w3 (Ms F p) a29 (opB L):=⟨R29,h29.imp id fun h hj=>by have:=O2.lt _ hj;omega⟩;refine Ak U (qA (Ar (BV [([0,1,3,4,5,6],2),([],7),([],8)] (fun z=>z.heap[p.bs]?=some (Bl CU (CN (ptr p.bd) (ptr p.bj) (ptr p.bp) (ptr p.bt) x.gen x.root p.m1 p.m2 x.n false))) [] mixed ((H.drew.ext.to hs3 (by simp))) ?_)));refine AD U U ?_
   refine B9 U (PO AX U (C1 U (Bm U (AC Mc U (BC MI U (fun _ hx=>(by rw[Aq hx];rfl)) ?_)))));refine AV ?_;replace H:=H.drew;refine Aj qB (Gx _ _) U ?_;rintro v w ⟨rfl,rfl⟩;rw[Ja];refine Ab (Bb ((H.ext.to hs3 (by simp))) ?_);refine AD U U (AV (Aj qB (Aev (O3.jone.call H.ext) O3.good.good) U ?_));rintro v w ⟨rfl,hx37⟩;replace H:=H.call hx37;refine Ab (Bb ((H.ext.to hs3 (by simp))) ?_);refine AD U U (AV (BZ U U (Ab (Bb ((H.ext.to hs3 (by simp))) ?_))));refine B4 ?_;have hx3:=(hx19.trans hx29).trans H.ext;have htk:=O3.good.ok.t;refine Gn 17042430230800 (α:=Dev × Rj × Sx × Mut) (fun _=>[]) (fun s w'=>Sok w0 w' p s.1 s.2.1 s.2.2.1 s.2.2.2/\C s.1 s.2.1 s.2.2.1/\Grown (Ms F p) (Ms s.2.2.2 p) w3 w') U ?_ ?_
   .skip
    refine Av _ U ?_ ?_
    .intro h3;replace h3:=AR h3;refine Ad (An U (Aj qB (hck _ hx3 hr0 hL0 (by omega)) U ?_));rintro v w4 ⟨e4,A1,F1,rfl,G4,h40⟩;refine Ac U (qA (Ad (Ae U (Be U U (qA (Av _ U ?_ ?_))))))
     .intro h4;replace h4:=Bv h4;refine Ad (Ae U (Ac U (qA (A6 (Ao (AG (v:=(.int _ _)) U U U ?_))))));obtain⟨rfl,D4,hZ4⟩:=h40.resolve_left (fun h=>h4 h.1);exact .inr (.inr ⟨hr0,hL0,rfl,A1,F1,D4,Grown.trans (Grown.call hx3) G4,.inl hZ4⟩)
     .intro h4;replace h4:=Bw h4;obtain⟨-,R1,x1,O4,hC4⟩:=h40.resolve_right (fun h=>by have:=h.1;omega);refine Ap (Aa ?_);exact⟨(A1,R1,x1,F1),rfl,trivial,O4,hC4,Grown.trans (Grown.call H.ext) G4⟩
    .intro h3;replace h3:=AU h3;refine Ap (Aa ?_);exact⟨(A,R,x,F),rfl,trivial,O3.call H.ext,hfit hr0 hL0 (by omega),Grown.call H.ext⟩
   .rintro⟨A1,R1,x1,F1⟩ j38 w4 ⟨O4,hC4,G4⟩;dsimp only at O4 hC4 G4;obtain⟨hkv,hxn,hxT,hAl,hft⟩:=hC hC4;have X4:=X3.turn G4;have X30:=Rdx.turn X29 G4;have hnn4:=O4.nn;have hT4:=O4.tT;have hlt4:=O4.lt;clear H;obtain⟨wJ,rfl,H⟩:=qE w4;obtain⟨l4,o14,o24,hF4,K4,hk4,hM4⟩:=O4.ex;have hs4:=hF4.blk _ (qaf ..);dsimp only at hs4;refine Ar (Ad (An U (An U (A7 U (Af Mc U (Bd MI U ((by rw[Aq (H.ext.to hs4 (by simp))];rfl)) ?_))))));refine Ah U (Aj qB (Aez (N:=A.B.length) (V:=x1.V) (O4.jone.call H.ext) (by have h9:=O4.good;rw[hAl]at h9;exact h9) (opB L) hft a29 c29 _ (X30.1.ext0 H.ext) U hc29 (X30.2.imp id fun h hj=>h (.inl hj))) U ?_);rintro v w5 ⟨e5,A',J',F',rfl,J5,gr5,h50⟩;have hF5:=((hF4.call (Grown.call H.ext)).1.call gr5).1;have hs5:=hF5.blk _ (qaf ..);have gM:=Ajw (p:=p) gr5
    have gI:Grown (Ms F p) (Ms F' p) wI w5:=Grown.trans (Grown.trans (Grown.call (hx19.trans hx29)) G4) (Grown.trans (Grown.call H.ext) gM);refine Aj qB (XU (Ctx.startL (L:=[(p.bs,Bl CU (CN (ptr p.bd) (ptr p.bj) (ptr p.bp) (ptr p.bt) x1.gen x1.root p.m1 p.m2 x1.n false))]) (fun y hy=>by rw[qaa.1 hy];exact hs5) (by simp)) _) U ?_;rintro v w6 ⟨rfl,H6⟩;refine Ac U (qA ?_);have hS3:∀y∈[p.bs,p.m1,p.m2],Ms F' p y:=fun y hy => .inr (by simp only[Sp.own,qac,qam,or_false]at hy |-;rcases hy with h|h|h <;> simp[h])
    have hoff5:∀y∈[p.bs,p.m1,p.m2],¬Fj F' p.bj y:=fun y hy h=>by
     have h1:∃ob,(y,ob)∈p.blk x1 o14 o24:=by
      simp only[qac,qam,or_false]at hy
      rcases hy with rfl|rfl|rfl
      .exact⟨_,qaf ..⟩
      .exact⟨o14,by simp[Sp.blk]⟩
      .exact⟨o24,by simp[Sp.blk]⟩
     obtain⟨ob,hob⟩:=h1;exact hF5.off _ hob h
    have hge5:∀y∈[p.bs,p.m1,p.m2],w0.heap.size<=y:=fun y hy=>O.ge y (by simp only[Sp.own,qac,qam,or_false]at hy |-;rcases hy with h|h|h <;> simp[h]);refine Ad (Ae U (Be U U (qA (Av _ U ?_ ?_))))
    .intro h4;replace h4:=Bv h4;obtain⟨rfl,hl5,off5,few5,pk5⟩:=h50.resolve_left (fun h=>h4 h.1);refine Ad (Ae U (Ac U (qA (A6 (Ao (AG (v:=(.int _ _)) U U U ?_))))));have J6:=J5.over H6.ext (fun y hy=>hoff5 y (by rw[qaa.1 hy];simp)) (fun y hy=>hge5 y (by rw[qaa.1 hy];simp));exact .inr (.inr ⟨hr0,hL0,rfl,A',F',⟨J6.own,⟨_,_,_,_,_,_,H6.get at0⟩,fun h=>hoff5 p.bs (by simp) (.inl h),hge5 p.bs (by simp),off5,few5.mono (by decide)⟩,Grown.trans gI ⟨Turn.of H6.ext fun y hy=>hS3 y (by rw[qaa.1 hy];simp),fun _ h => .inl h⟩,.inr ⟨A1,R1,x1,hC4,hl5,pk5⟩⟩)
    .intro h4;replace h4:=Bw h4;obtain⟨rfl,rfl,hl5,V',G5,hv5⟩:=h50.resolve_right (fun h=>by have:=h.1;omega);have K5:KvAt w5 (Mv F' p) l4 o14:=⟨K4.m,(fun q hq=>⟨((K4.ok q hq).1.call H.ext).turn (Yc gM),(K4.ok q hq).2⟩),K4.few⟩;have X5:Wrs w5 (Ms F' p) a nn c L:=(X4.call H.ext).turn gM;clear H;have C5:Ctx w5 [p.bs,p.m1,p.m2] w5 [(p.bs,Bl CU (CN (ptr p.bd) (ptr p.bj) (ptr p.bp) (ptr p.bt) x1.gen x1.root p.m1 p.m2 x1.n false)),(p.m1,o14),(p.m2,o24)]:=Ctx.startL (L:=(p.blk x1 o14 o24).take 3) (fun y hy=>hF5.blk y (qbq hy)) (hF5.nd.sublist (List.take_sublist ..));have C6:Ctx w5 [p.bs,p.m1,p.m2] w6 [(p.bs,Bl CU (CN (ptr p.bd) (ptr p.bj) (ptr p.bp) (ptr p.bt) x1.gen x1.root p.m1 p.m2 x1.n false)),(p.m1,o14),(p.m2,o24)]:=C5.turn at0 (Bl CU (CN (ptr p.bd) (ptr p.bj) (ptr p.bp) (ptr p.bt) x1.gen x1.root p.m1 p.m2 x1.n false)) H6.ext (H6.get at0);obtain⟨ps,R5,hoff,hl,hp⟩:=X5.ex
     have hpn:ps.length=nn:=by rw[hnL,<-hl,qai]
     have hlt5:∀y,Ms F' p y->y<w5.heap.size:=fun y hy=>by
      rcases hy with hy|hy
      .exact(J5.at y hy).2
      .have h6:=hlt4 y (.inr hy);have h7:=gM.1.size;omega
     have hlt5v:∀y,Mv F' p y->y<w5.heap.size:=fun y hy=>hy.elim (hlt5 y) fun h=>by
      have h6:=O4.zl y h;have h7:=gM.1.size;have h8:=H6.ext.size;omega
     refine Ap (Aa (Ar (Ad (Ah U (AO Cn U (Ae U (qA (AB (B6 36749372959343249408 (α:=Nat × List (Byt × Sv) × List (Byt × Int) × Obj × Obj) (fun s=>[(57,.int .i64 (s.1:Int))]) (fun s w'=>s.1<=nn/\Cj p x1 (Mv F' p) w5 L s.1 s.2.1 s.2.2.1 s.2.2.2.1 s.2.2.2.2 w') (fun s=>nn - s.1) (0,l4,x1.t,o14,o24) U ?_ ?_ ?_)))))))))
     .exact⟨rfl,trivial⟩
     .exact⟨qak _,C6,⟨K5.m,fun q hq=>⟨⟨Rdx.read (K5.ok q hq).1 H6.ext (fun y hy => .inl (hS3 y (by rw[qaa.1 hy];simp))),(K5.ok q hq).1.2⟩,(K5.ok q hq).2⟩,K5.few⟩,hk4,hM4,rfl,fun q hq=>by have:=O4.tt q hq;simpa using this⟩
     .rintro⟨i,li,ti,z1,z2⟩ j w1 ⟨hi,C⟩;dsimp only at hi C;dsimp only;have H:=Ctx.start w1 [];refine Ad (Bj U U (qA (Ar (Av _ U ?_ ?_))))
      .intro h5;replace h5:=AR h5;obtain⟨m,hm⟩:=AP (l:=ps) (i:=i);have hok:=hp m (qad hm);have hxL:L[i]?=some m.x:=by rw[<-hl,qas,hm];rfl
       have hfew:=hLf _ (qad hxL);have hb:¬Ms F' p (adr a).block:=hoff.resolve_left (fun h=>by rw[h]at hm;cases hm);have R1':=R5.ext C.H.ext (fun h=>hb (hS3 _ h));have hok1:m.Ok w1 (Ms F' p):=⟨⟨Rdx.read hok.k C.H.ext hS3,hok.k.2⟩,⟨Rdx.read hok.v C.H.ext hS3,hok.v.2⟩,hok.kc,hok.vc⟩;have hn1:=Ji (m:=x1.T) (kv:=x1.kv) (n:=x1.n) (L:=L.take i) (by rw[<-hk4];exact K4.fewK) (fun y hy=>hLf y (qbq hy)) (by omega) (by omega);have hlen1:(L.take i).length<=1000:=by have:=List.length_take_le' i L;omega
       refine Ap (Aa (Ar (AB (Ad (AY R1' Cn Cw U U ?_)))));refine EN _ RO Cw U U (R1'.row hm U) (Bi F7 H ?_);rintro b11 w - H;refine Bo Cw U U U (by exact FV m) H at0 U ?_;rintro w H;refine qA (Au (An U (BO RO Cw U H at0 U (Aj qB (Aca (T:=x1.T+i) (Ctx.startL (C.H.call H.ext).blk (C.H.call H.ext).nd) ⟨C.K.m,fun q hq=>⟨(C.K.ok q hq).1.call H.ext,(C.K.ok q hq).2⟩,C.K.few⟩ C.m (fun y hy => .inl (hS3 y hy)) (fun y hy=>by have:=hlt5v y hy;have:=C.H.ext.size;have:=H.ext.size;omega) hS3 m (hok1.call H.ext) hfew C.t) U ?_))));rintro v w7 ⟨rfl,s,z1',z2',H7,K7,hsv,hM7⟩;refine Ab (AE (Aa (Au (Ay U U ?_))));refine Ae U (qA ?_);refine⟨(i+1,TS li m.x s,JV ti m.x.k,z1',z2'),rfl,⟨rfl,trivial⟩,⟨by dsimp only;omega,?_,K7,?_,hM7,by dsimp only;rw[C.te,Bp hxL,Qi],?_⟩,by dsimp only;omega⟩
       .have hn7:Eh x1.kv x1.n (L.take (i+1))=Eh x1.kv x1.n (L.take i) - Jo li m.x.k+H3 m.x:=by rw[Bp hxL,Np,Wl,C.k]
        dsimp only;rw[hn7];exact⟨(C.H.call H.ext).ext.trans H7.ext,H7.blk,H7.nd,fun y hy => .inl (by simp only[qac,qam,or_false]at hy |-;rcases hy with rfl|rfl|rfl <;> simp)⟩
       .dsimp only;rw[Ach hsv,C.k,Bp hxL,Tk]
       .intro q hq;have:=(Te (k:=m.x.k) C.t (by omega)).1 q hq;dsimp only;omega
      .intro h5;replace h5:=AU h5;obtain rfl:i=nn:=by omega
       have hLt:L.take i=L:=qa6 (by omega);refine B2 (Aw (Aw (AZ (Aa (Ad (Ac U (qA (A6 (AG (v:=(.int _ _)) U U U ?_)))))))));have CH:=C.H;have Ck:=C.k;have Ct:=C.t;have Cte:=C.te;have Cm:=C.m;rw[hLt]at CH Ck Cte;rw[Cte]at Ct Cm;have hn1:=Ji (m:=x1.T) (kv:=x1.kv) (n:=x1.n) (L:=L) (by rw[<-hk4];exact K4.fewK) hLf (by omega) (by omega);have hG5l:=G5.len;refine .inr (.inl ⟨hr0,hL0,rfl,A1,R1,x1,A',F',V',hC4,⟨J5.over CH.ext hoff5 hge5,by rw[hG5l];exact G5,⟨li,z1,z2,Amh (x:=x1) hF5 CH,C.K,Ck,Cm⟩,O4.ge,?_,fun q hq=>?_,?_,?_⟩,hG5l,hl5,hv5,Grown.trans gI ⟨Turn.of CH.ext fun y hy=>hS3 y hy,fun _ h => .inl h⟩⟩)
       .dsimp only;omega
       .dsimp only;have:=Ct q hq;omega
       .dsimp only;omega
       .intro y hy;have h6:=O4.zl y hy;have h7:=gM.1.size;have h8:=H6.ext.size;have h9:=CH.ext.size;omega
end
abbrev Ajx:TypeId:=76
section
variable {w0 w:World}{b16 b14 b5 b1 bd bs bj gen m1 m2:Nat}{F:Mut}{A:Dev}{N:Nat}{R:Rj}{V:Nat->Byt}{fv:List Value}{vj vp vt:Value}{root n r0:Int}{pq qq:Nat}{Y:List (Nat × Obj)}
abbrev nwB(b16 b14 b5 b1 bs bd gen m1 m2 pq qq:Nat)(root n r0:Int)(fv:List Value)(vj vp vt:Value):List (Nat × Obj) :=
 [(b16,Bl 46 fv),(b14,Bl 31 [ptr bs]),(b5,Bl Ajx (tpC r0 pq qq)),(b1,Bl 27 [ptr bd]),(bs,Bl CU (CN (ptr bd) vj vp vt gen root m1 m2 n false))]
theorem Fo.at{M:Mut}(h:Fo w M Y){k b:Nat}{o:Obj}(hk:Y[k]?=some (b,o)):w.heap[b]?=some o:=h.blk (b,o) (qad hk)
theorem Ami(O:Own w0 w bd A F)(g:SG N A R V)(hl:A.left = -1)(Y:Fo w F (nwB b16 b14 b5 b1 bs bd gen m1 m2 pq qq root n r0 fv vj vp vt++Y))(hg1:1<=gen)(hg:gen<=4611686018427387904)(hr: -1<=r0/\r0<=4294967294:=by decide)(hp:pq<4294967296:=by omega)(hq:qq<18446744073709551616:=by omega):
  Ret prog 38 #[ptr b1,ptr b14,ptr b5] w fun v w'=>v=.int .i64 0/\∃F',Own w0 w' bd (EB A gen (tpB r0 pq qq)) F'/\Grown F F' w w':=by
 obtain⟨wI,rfl,H⟩:=qE w;have h1:=Fo.at Y (k:=3) rfl;have h14:=Fo.at Y (k:=1) rfl;have h5:=Fo.at Y (k:=2) rfl;have hs:=Fo.at Y (k:=4) rfl;have hsv:=(g.save0 hl gen (tpB r0 pq qq) hg1 hg (by rw[DZ];decide)).1;refine A8 (fn:=f38) func38 U [ptr b1,ptr b14,ptr b5] U ?_;refine Ad (Ac U (qA (BV [([0,1,2,3,4,5],6),([],7),([],8)] (fun z=>(z.heap[b1]?=some (Bl 27 [ptr bd])/\z.heap[b14]?=some (Bl 31 [ptr bs])/\z.heap[bs]?=some (Bl CU (CN (ptr bd) vj vp vt gen root m1 m2 n false))/\z.heap[b5]?=some (Bl Ajx (tpC r0 pq qq)))) [] mixed (⟨H.drew.ext.to h1 (by simp),H.drew.ext.to h14 (by simp),H.drew.ext.to hs (by simp),H.drew.ext.to h5 (by simp)⟩) ?_)));refine AD U U (BC Dm U (fun _ hx=>(by rw[Aq hx.1];rfl)) ?_);refine BC F6 U (fun _ hx=>(by rw[Aq hx.2.1];rfl)) ?_
 refine Bm U (AC Q5 U (BC GH U (fun _ hx=>(by rw[Aq hx.2.2.1];rfl)) ?_));refine PN _ Aa6 NL U U (fun _ hx=>(fun j v hv=>by rw[Aq hx.2.2.2,qa2];exact hv)) ?_;refine AV ?_;replace H:=H.drew;refine Aj qB (Abw r0 pq qq _ hr hp hq) U ?_;rintro v w F10;obtain⟨a10,c10,rfl,R10,hc10,h10⟩:=Fresh.newB F10;replace H:=H.call F10.ext;refine Ab (Bb ((by exact⟨H.ext.to h1 (by simp),H.ext.to h14 (by simp),H.ext.to hs (by simp),H.ext.to h5 (by simp)⟩)) ?_);refine AD U U (AV (Aj qB (Xg (O.call H.ext) gen (by omega) a10 c10 _ (tpB r0 pq qq) R10 U (by rw[DZ];decide) g.good.few (by decide)) U ?_));rintro v w ⟨rfl,F',O',G'⟩;rw[hsv];have Y2:=(Y.call (Grown.trans (Grown.call H.ext) G')).1;refine Ab (Bb ((by exact⟨Fo.at Y2 (k:=3) rfl,Fo.at Y2 (k:=1) rfl,Fo.at Y2 (k:=4) rfl,Fo.at Y2 (k:=2) rfl⟩)) ?_);refine AD U U ?_
 refine AV (Ac U (Ab (Bb ((by exact⟨Fo.at Y2 (k:=3) rfl,Fo.at Y2 (k:=1) rfl,Fo.at Y2 (k:=4) rfl,Fo.at Y2 (k:=2) rfl⟩)) ?_)));refine B4 (A6 (AG (v:=(.int _ _)) U U U ?_));exact⟨rfl,F',O',Grown.trans (Grown.call H.ext) G'⟩
theorem Amj(O:Own w0 w bd A F)(hge:w0.heap.size<=bs)(g:SG N A R V)(hR:R.size=360/\R.first=pq/\R.seq=qq/\1<=qq/\qq<=4611686018427387904)(Y:Fo w F (nwB b16 b14 b5 b1 bs bd gen m1 m2 pq qq root n r0 fv vj vp vt++Y)) :
  Ret prog 41 #[ptr b1,ptr b5,ptr b14] w fun v w'=>v=.int .i64 0/\∃bj,w.heap.size<=bj/\Jone w0 w' bd bj A (jrK 2 R R.L) F/\Ext [bs] w w'/\w'.heap[bs]?=some (Bl CU (CN (ptr bd) (ptr bj) vp vt gen root m1 m2 n false)):=by
 obtain⟨hz,rfl,rfl,hq1,hq2⟩:=hR;obtain⟨wI,rfl⟩:=qD w;have h1:=Fo.at Y (k:=3) rfl;have h14:=Fo.at Y (k:=1) rfl;have h5:=Fo.at Y (k:=2) rfl;have hs:=Fo.at Y (k:=4) rfl;have H:=Ctx.start1 hs;have hnd:=Y.nd;simp only[qbx,qa7,qbh,qac,forall_eq_or_imp]at hnd;have hb1:b1∉[bs]:=by simpa using hnd.2.2.2.1.1
 have hb14:b14∉[bs]:=by simpa using hnd.2.1.2.2.1
 have hb5:b5∉[bs]:=by simpa using hnd.2.2.1.2.1
 have hopen:=fun(w1:World) (O1:Own w0 w1 bd A F)=>Qh O1 g.good hq1 hq2;rw[hz]at hopen;refine A8 (fn:=f41) func41 U [ptr b1,ptr b5,ptr b14] U ?_;refine Ad (Ac U (qA (BV [([0,1,2,3,4,5],6),([7,8,9,10,11,12],13),([],14)] (fun z=>(z.heap[b1]?=some (Bl 27 [ptr bd])/\z.heap[b14]?=some (Bl 31 [ptr bs])/\z.heap[b5]?=some (Bl Ajx (tpC r0 R.first R.seq)))) [13,14] mixed (⟨H.drew.ext.to h1 hb1,H.drew.ext.to h14 hb14,H.drew.ext.to h5 hb5⟩) ?_)));refine AD U U (BC F6 U (fun _ hx=>(by rw[Aq hx.2.1];rfl)) ?_);refine BC Dm U (fun _ hx=>(by rw[Aq hx.1];rfl)) ?_;refine AC NJ U (BC DV U (fun _ hx=>(by rw[Aq hx.2.2];rfl)) ?_);refine AC Kp U (BC GH U (fun _ hx=>(by rw[Aq hx.2.2];rfl)) ?_);refine AV ?_;replace H:=H.drew;refine Aj qB (hopen _ (O.call (Ext.drew [] wI))) U ?_;clear H;rintro v w6 ⟨bj,aj,nj,cj,rfl,hx6,hbj,J6,-⟩
 have E6:=(Ext.drew [] wI).trans hx6;have k1:=E6.to h1 (by simp);have k14:=E6.to h14 (by simp);have k5:=E6.to h5 (by simp);have H:=Ctx.start1 (E6.to hs (by simp));refine Ab (Bb ((by exact⟨H.ext.to k1 hb1,H.ext.to k14 hb14,H.ext.to k5 hb5⟩)) ?_);refine AD U U (Iv U (C4 U U (C4 U U (C4 U U (Bm U (AC Mc U (AV (Bf (.pointer _) Anv U U U H at0 (by(simp;done)) ?_))))))));rintro w H;refine Ab (CQ U (AD U U ?_));refine AV (Ac U (Ab (CQ U (B4 (Ad (Ae U (Ac U (qA (A6 (AG (v:=(.int _ _)) U U U ?_))))))))));have hno:¬Fj F bj bs:=fun h=>h.elim (Y.off (bs,Bl CU (CN (ptr bd) vj vp vt gen root m1 m2 n false)) (by simp)) fun h=>by have h8:=Al hs;have h9:wI.heap.size<=bj:=hbj;omega
 exact⟨rfl,bj,hbj,J6.over H.ext (fun y hy=>by rw[qaa.1 hy];exact hno) (fun y hy=>by rw[qaa.1 hy];exact hge),(E6.mono (by simp)).trans H.ext,H.get at0⟩
end
section
variable {w0 w w':World}{b16 b14 b5 b1 bd bs bj gen m1 m2:Nat}{F:Mut}{A:Dev}{N:Nat}{R:Rj}{V:Nat->Byt}{fv:List Value}{vj vp vt:Value}{root n r0:Int}{pq qq:Nat}{Y:List (Nat × Obj)}
theorem fo_bs(h:Fo w F (nwB b16 b14 b5 b1 bs bd gen m1 m2 pq qq root n r0 fv vj vp vt++Y))(hx:Ext [bs] w w')(hb:w'.heap[bs]?=some (Bl CU (CN (ptr bd) (ptr bj) vp vt gen root m1 m2 n false)))(hbj:w.heap.size<=bj) :
  Fo w' (Fj F bj) (nwB b16 b14 b5 b1 bs bd gen m1 m2 pq qq root n r0 fv (ptr bj) vp vt++Y):=by
 have hnd:=h.nd;have hk:(nwB b16 b14 b5 b1 bs bd gen m1 m2 pq qq root n r0 fv (ptr bj) vp vt++Y).map (·.1)=(nwB b16 b14 b5 b1 bs bd gen m1 m2 pq qq root n r0 fv vj vp vt++Y).map (·.1):=rfl
 have hn:(nwB b16 b14 b5 b1 bs bd gen m1 m2 pq qq root n r0 fv (ptr bj) vp vt++Y).Pairwise fun x y=>x.1≠y.1:=by
  have h1:((nwB b16 b14 b5 b1 bs bd gen m1 m2 pq qq root n r0 fv vj vp vt++Y).map (·.1)).Pairwise (·≠·):=qbs.2 hnd;rw[<-hk]at h1;exact qbs.1 h1
 have hin:∀y∈nwB b16 b14 b5 b1 bs bd gen m1 m2 pq qq root n r0 fv (ptr bj) vp vt++Y,y=(bs,Bl CU (CN (ptr bd) (ptr bj) vp vt gen root m1 m2 n false))\/y∈nwB b16 b14 b5 b1 bs bd gen m1 m2 pq qq root n r0 fv vj vp vt++Y:=fun y hy=>by
  simp only[qbx,qa7,qac]at hy |-
  rcases hy with h|h|h|h|h|h <;> simp[h]
 have hbl:=hn;refine⟨fun y hy=>?_,hn,fun y hy h5=>?_⟩
 .by_cases he:y.1=bs
  .have hm:(bs,Bl CU (CN (ptr bd) (ptr bj) vp vt gen root m1 m2 n false))∈nwB b16 b14 b5 b1 bs bd gen m1 m2 pq qq root n r0 fv (ptr bj) vp vt++Y:=by simp
   by_cases h9:y=(bs,Bl CU (CN (ptr bd) (ptr bj) vp vt gen root m1 m2 n false))
   .rw[h9];exact hb
   .exact absurd he (fun he=>by
     obtain⟨i,hi⟩:=qcg.1 hy;obtain⟨j,hj⟩:=qcg.1 hm;obtain⟨hi1,hi2⟩:=qap.1 hi;obtain⟨hj1,hj2⟩:=qap.1 hj
     rcases Nat.lt_trichotomy i j with hlt|rfl|hlt
     .have:=qb9.1 hn i j hi1 hj1 hlt;rw[hi2,hj2]at this;exact this he
     .rw[hi2]at hj2;exact h9 hj2
     .have:=qb9.1 hn j i hj1 hi1 hlt
      rw[hi2,hj2]at this;exact this he.symm)
  .have hy':=(hin y hy).resolve_left fun h=>he (by rw[h]);rw[hx.block y.1 (Al (h.blk y hy')) (by simpa using he)];exact h.blk y hy'
 .have hk2:∃z∈nwB b16 b14 b5 b1 bs bd gen m1 m2 pq qq root n r0 fv vj vp vt++Y,z.1=y.1:=by
   have h1:y.1∈(nwB b16 b14 b5 b1 bs bd gen m1 m2 pq qq root n r0 fv (ptr bj) vp vt++Y).map (·.1):=qah.2 ⟨y,hy,rfl⟩;rw[hk]at h1;obtain⟨z,hz,he⟩:=qah.1 h1;exact⟨z,hz,he⟩
  obtain⟨z,hz,he⟩:=hk2;rw[<-he]at h5
  rcases h5 with h5|h5
  .exact h.off z hz h5
  .have:=Al (h.blk z hz);omega
abbrev nwF(b14 b5 b1:Nat):List Value:=[.func (.func 38) #[] #[ptr b1,ptr b14,ptr b5],.func (.func 41) #[] #[ptr b1,ptr b5,ptr b14]]
def nwI(w0 wb:World)(b16 b14 b5 b1 bs bd gen m1 m2 pq qq:Nat)(vp vt:Value)(Y:List (Nat × Obj))(A:Dev)(R:Rj)(F:Mut):Nat->World->Prop
 |0,w'=>Own w0 w' bd A F/\Fo w' F (nwB b16 b14 b5 b1 bs bd gen m1 m2 pq qq (-1) 0 (-1) (nwF b14 b5 b1) Gi vp vt++Y)/\Grown F F wb w'
 |1,w'=>∃F1,Own w0 w' bd (EB A gen (tpB (-1) pq qq)) F1/\Fo w' F1 (nwB b16 b14 b5 b1 bs bd gen m1 m2 pq qq (-1) 0 (-1) (nwF b14 b5 b1) Gi vp vt++Y)/\Grown F F1 wb w'
 |_,w'=>∃F1 bj,Jone w0 w' bd bj (EB A gen (tpB (-1) pq qq)) (jrK 2 R R.L) F1/\Fo w' (Fj F1 bj) (nwB b16 b14 b5 b1 bs bd gen m1 m2 pq qq (-1) 0 (-1) (nwF b14 b5 b1) (ptr bj) vp vt++Y)/\Grown F (Fj F1 bj) wb w'
theorem ZW{L0 L1:List (Nat × Obj)}(H:Ctx w0 [] w L0)(hF:∀x,F x->x<w0.heap.size)(hs:L1.Sublist L0):Fo w F L1 :=
 ⟨fun y hy=>H.blk y (hs.subset hy),H.nd.sublist hs,fun y hy h=>by have h1:=(H.own y (hs.subset hy)).resolve_left (by simp);have:=hF _ h;omega⟩
theorem Acj{M:Mut}{Y2:List (Nat × Obj)}(O:Fo w M Y)(h:∀y∈Y2,y∈Y)(nd:Y2.Pairwise fun x y=>x.1≠y.1):Fo w M Y2:=⟨fun y hy=>O.blk y (h y hy),nd,fun y hy=>O.off y (h y hy)⟩
theorem side9{M M':Mut}{S:List Nat}(t:Grown M M' w0 w)(hx:Ext S w w')(hy:∀y∈S,w0.heap.size<=y):Grown M M' w0 w':=by
 obtain⟨⟨T,hT,hx1⟩,g⟩:=t;exact⟨⟨T,hT,hx1.then hx fun x h => .inr (hy x h)⟩,g⟩
theorem Apo{wb:World}{i:Nat}(h:nwI w0 wb b16 b14 b5 b1 bs bd gen m1 m2 pq qq vp vt Y A R F i w):w.heap[b16]?=some (Bl 46 (nwF b14 b5 b1)):=by
 match i,h with
 |0,h=>exact Fo.at h.2.1 (k:=0) rfl
 |1,⟨_,h⟩=>exact Fo.at h.2.1 (k:=0) rfl
 |_+2,⟨_,_,h⟩=>exact Fo.at h.2.1 (k:=0) rfl
theorem App{wb:World}(h0:nwI w0 wb b16 b14 b5 b1 bs bd gen m1 m2 pq qq vp vt Y A R F 0 w)(g:SG N A R V)(hl:A.left = -1)(hR:R.size=360/\R.first=pq/\R.seq=qq)(hpq:pq<360)(hqq:1<=qq/\qq<=4611686018427387904)(hgn:1<=gen/\gen<=4611686018427387904)(hge:w0.heap.size<=bs)(hgb:wb.heap.size<=bs) :
  Ret prog 37 #[.slice (some ⟨b16,0,none⟩) 2 2] w fun v w'=>∃e,v=.int .i64 e/\((e=0/\nwI w0 wb b16 b14 b5 b1 bs bd gen m1 m2 pq qq vp vt Y A R F 2 w')\/(e≠0/\False)):=by
 have gs:=g.save0 hl gen (tpB (-1) pq qq) hgn.1 hgn.2 (by rw[DZ];decide);refine Ai3 (E:=fun _ _=>False) (nwF b14 b5 b1) w (by simp) (I:=nwI w0 wb b16 b14 b5 b1 bs bd gen m1 m2 pq qq vp vt Y A R F) h0 (fun i w' h=>Apo h) (fun v hv=>?_) (fun i f caps w' hi h=>?_)
 .simp only[qac,qam,or_false]at hv
  rcases hv with rfl|rfl <;> exact⟨_,_,rfl⟩
 .match i,hi,h with
  |0,hi,⟨O,FY,G⟩ =>
   cases hi;exact⟨by kernel_rfl,(Ami O g hl FY hgn.1 hgn.2).mono fun v w'' ⟨hv,F',O',G'⟩=>⟨0,hv,.inl ⟨rfl,F',O',(FY.call G').1,Grown.trans G G'⟩⟩⟩
  |1,hi,⟨F1,O,FY,G⟩ =>
   cases hi
   exact⟨by kernel_rfl,(Amj O hge gs.2.2 ⟨hR.1,hR.2.1,hR.2.2,hqq.1,hqq.2⟩ FY).mono fun v w'' ⟨hv,bj,hbj,J,hx,hb⟩=>⟨0,hv,.inl ⟨rfl,F1,bj,J,fo_bs FY hx hb hbj,by
    have G2:=side9 G hx (fun y hy=>by rw[qaa.1 hy];exact hgb)
    exact⟨G2.1,fun y hy=>hy.elim (G2.2 y) fun h => .inr (by have:=G.1.size;omega)⟩⟩⟩⟩
theorem Ack{r:Int}{p q:Nat}(hr : -1<=r/\r<=4294967294)(hp:p<4294967296)(hq:q<18446744073709551616:=by omega):tpR (tpB r p q)=tpC r p q:=by
 obtain⟨n,hn⟩:∃n:Nat,r+1=n:=⟨(r+1).toNat,by omega⟩;unfold tpR;rw[if_pos (DZ ..)];unfold tpB;have e1:(Bq (r+1).toNat 4++(Bq p 4++Bq q 8)).take 4=Bq (r+1).toNat 4:=qd7 (Ba ..);have e2:(Bq (r+1).toNat 4++(Bq p 4++Bq q 8)).drop 4=Bq p 4++Bq q 8:=List.drop_left' (Ba ..)
 have e3:(Bq (r+1).toNat 4++(Bq p 4++Bq q 8)).drop 8=Bq q 8:=by
  rw[<-qa1];exact List.drop_left' (by rw[qan,Ba,Ba])
 have e4:(Bq p 4++Bq q 8).take 4=Bq p 4:=qd7 (Ba ..);have e5:(Bq q 8).take 8=Bq q 8:=qa6 (by rw[Ba];decide);rw[e1,e2,e3,e4,e5,Fm,Fm,Fm,hn,qbp];have d4:(256:Nat) ^ 4=4294967296:=by decide
 have d8:(256:Nat) ^ 8=18446744073709551616:=by decide
 have m1:n % 256 ^ 4=n:=qba (by omega);have m2:p % 256 ^ 4=p:=qba (by omega);have m3:q % 256 ^ 8=q:=qba (by omega);rw[m1,m2,m3,<-hn];show tpC (r+1 - 1) p q=_;rw[show r+1 - 1=r by omega]
theorem Acl{m:Nat}(O:Own w0 w bd A F)(g:SG (m+362) A R V)(hl:A.left = -1)(hR:R.L=[]/\R.size=360/\R.first=pq/\R.seq=qq)(hpq:pq<360)(hqq:1<=qq/\qq<=4611686018427387904)(hgn:F8 A+1<=4611686018427387904)(hm:1<=m)(hmay:K3 A=0)(hT:(EG A=4/\DS A=[]/\pq=0/\qq=1)\/(EG A=0/\∃r0 R0,DS A=tpB r0 R0.first R0.seq/\(-1<=r0/\r0<=4294967294)/\SG (m+362) A R0 V/\R0.size=360/\(1<=R0.seq/\R0.seq<=4611686018427387904)/\pq=R0.at'/\qq=R0.seq+R0.L.length+1)) :
  Ret prog 10 #[ptr bd] w fun v w'=>∃p F' ,v=.tuple #[ptr p.bs,.int .i64 0]/\p.bd=bd/\Sok w0 w' p (EB A (F8 A+1) (tpB (-1) pq qq)) R ⟨F8 A+1,-1,0,[],[],List.replicate m 0,0,fun q=>if q=(F8 A+1) % 2 then DH (F8 A+1) (tpB (-1) pq qq)else V q⟩ F'/\Grown F (Ms F' p) w w'/\(∀y,y<w.heap.size->p.z y):=by
 obtain⟨wI,rfl⟩:=qD w;have hN:=g.lim;have hlen:=g.len;have hE04:EG A=0\/EG A=4:=hT.elim (fun h => .inr h.1) fun h => .inl h.1;obtain⟨gl,hgl⟩:=qD (F8 A);rw[<-hgl]at hgn |-
 have hll:(DS A).length<=16:=by
  rcases hT with⟨-,h,-⟩|⟨-,r0,R0,h,-⟩
  .rw[h];decide
  .rw[h,DZ];decide
 obtain⟨tr,tp,tq,htR⟩:∃r p q,tpR (DS A)=tpC r p q:=by unfold tpR;split <;> exact⟨_,_,_,rfl⟩
 have H:=Ctx.start wI [];refine A8 (fn:=f10) func10 U [ptr bd] U (Ad (Cu _ (.pointer _) U U H ?_));rintro b1 w - H;refine B7 U (Ac U (qA (Ar (Ad (AH Dm U H at0 U (Aj qB (VW (O.call H.ext).dev) U ?_))))));rintro v w ⟨rfl,rfl⟩;rw[hmay];refine Ac U (qA (Ad (Ae U (Be U U (qA (Av _ U ?_ ?_))))))
 .intro h1;replace h1:=Bv h1;exact absurd U h1
 .intro h1;replace h1:=Bw h1;refine Ap (Aa (Ad (B5 (tpC (-1) 0 1) Ahn Si ?_)));refine Bi Si H ?_;rintro b5 w - H;refine Bo NL U U U (by simp[Bh]) H at0 U ?_;rintro w H;refine qA (Ad (AH Dm U H at1 U (Aj qB (S7 g.good.few (O.call H.ext).dev) U ?_)));rw[<-hgl];rintro v w ⟨a23,c23,rfl,R23,h23,-,hx23⟩;replace H:=H.call hx23;refine AW U (Ai U U (Ai U U (Ai U U (Ac U (Ak U (Ac U (qA (Ar (Ad (BG (α:=Unit) 8455716864 (fun _=>[(32,.bool (false))]) (fun _ w'=>Ctx wI [] w' [(b5,Bl 76 (tpC (-1) 0 1)),(b1,Bl 27 [ptr bd])]/\w'=w) U ?_ ?_))))))))))
  .refine Ae U (Be U U (AF U (AQ 29 U ?_ ?_)))
   .intro h1;replace h1:=Bv h1;refine Ae U (Be U U (AN U (.bool _) U (Ab ?_)));exact⟨rfl,(),rfl,⟨qab Value.bool (by rcases hE04 with h|h <;> simp_all),trivial⟩,⟨H,rfl⟩⟩
   .intro h2;replace h2:=Bw h2;refine Ag U (Ag U (AM U (.bool _) U (Ab ?_)));exact⟨rfl,(),rfl,⟨qab Value.bool (by rcases hE04 with h|h <;> simp_all),trivial⟩,⟨H,rfl⟩⟩
  rintro - j32 w ⟨H,rfl⟩;refine Bz U (Ap (Aa (Ar (Ad (Ah U (Aj qB (Xz a23 c23 (DS A) _ R23 h23) U ?_))))));rw[htR];rintro v w ⟨rfl,hx36⟩;replace H:=H.call hx36;refine AW U (Ai U U (Ai U U (Bi Si H ?_)));rintro b9 w - H;refine Bo NL U U U (by simp[Bh]) H at0 U ?_;rintro w H;refine Am U (qA (Ad (BG (α:=Unit) 17042430230528 (fun _=>[(43,.bool (decide (EG A=0)))]) (fun _ w'=>w'=w) U ?_ ?_)))
  .refine Ae U (BA U U (AF U (AQ 41 U ?_ ?_)))
   .intro h3;replace h3:=AR h3;refine AF U (AN U (.bool _) U (Ab ?_));exact⟨rfl,(),rfl,⟨qab Value.bool (by rcases hT with⟨h,h2,-⟩|⟨h,r0,R0,h2,-⟩ <;> simp_all[DZ]),trivial⟩,rfl⟩
   .intro h4;replace h4:=AU h4;refine Ag U (AM U (.bool _) U (Ab ?_));exact⟨rfl,(),rfl,⟨qab Value.bool (by rcases hT with⟨h,h2,-⟩|⟨h,r0,R0,h2,-⟩ <;> simp_all[DZ]),trivial⟩,rfl⟩
  rintro - j43 w rfl;refine Gn 1180591603125225273356 (α:=Unit) (fun _=>[]) (fun _ w'=>Ctx wI [] w' [(b9,Bl 76 (tpC tr tp tq)),(b5,Bl 76 (tpC (-1) pq qq)),(b1,Bl 27 [ptr bd])]) U ?_ ?_
  .skip
   refine Av _ U ?_ ?_
   .intro h43;obtain⟨-,r0,R0,hL0,hr0,g0,hz0,hq0,hp1,hq1⟩:=hT.resolve_left (fun h=>by rw[h.1]at h43;cases qb6 h43);have hok0:=g0.ok
    have hrt:tpR (DS A)=tpC r0 R0.first R0.seq:=by rw[hL0];exact Ack hr0 (by have:=hok0.a;omega)
    have hopen:=fun(w1:World) (O1:Own w0 w1 bd A F)=>Qh O1 g0.good hq0.1 hq0.2;rw[hz0]at hopen;rw[<-htR,hrt]at H;refine Ad (AH Dm U H at2 U (Af NJ U (AH DV U H at0 U (Af Kp U (AH GH U H at0 U (Aj qB (hopen _ (O.call H.ext)) U ?_))))));rintro v w6 ⟨bj0,aj,nj,cj,rfl,hx6,hbj,J6,-⟩;replace H:=H.call hx6;refine AW U (Ai U U (Ai U U (Ai U U (B7 U (Ak U (Ac U (qA (Ar (Ad ?_)))))))));refine Ae U (BA U U (qA (Av _ U ?_ ?_)))
    .intro h44;replace h44:=AR h44;exact absurd h44 (by decide)
    .intro h44;replace h44:=AU h44;refine Ap (Aa (Ad (Ae U (BA U U (qA (Av _ U ?_ ?_))))))
     .intro h45;replace h45:=AR h45;refine Ad (An U (Aj qB (Aew J6) U ?_));rintro v w7 ⟨rfl,hx7⟩;replace H:=H.call hx7;refine AW U (Ai U U (Ai U U (Af NJ U (Bf (.int _ _) HN U U U H at1 (by decide) ?_))));rintro w H;refine Af Kp U (Bf (.int _ _) WV U U U H at1 (by(simp;done)) ?_);rintro w H;refine qA (Au (Af Kp U (AH GH U H at1 U (Kh U U U ?_))));refine Af Kp U (Bf (.int _ _) WV U U U H at1 (by(simp;done)) ?_);rintro w H;refine qA ?_;refine⟨(),rfl,trivial,?_⟩;rw[hp1,hq1,htR.symm.trans hrt];exact H
     .intro h45;replace h45:=AU h45;exact absurd U h45
   .intro h43;obtain⟨-,-,rfl,rfl⟩:=hT.resolve_right (fun h=>by rw[h.1]at h43;exact absurd h43 (by decide));refine Ap (Aa ?_);exact⟨(),rfl,trivial,H⟩
  .rintro - j43 w H;refine Ad (AH Dm U H at2 U (Ae U (Kh U U U ?_)));refine Aj qB (Xt _ (O.call H.ext).dev hlen ⟨hm,by omega⟩ (gl+1)) U ?_;rintro v w ⟨bs,m1,m2,o1,o2,bp,ba,bt,rfl,hm1,hm2,HE⟩;replace H:=H.callEnt HE.ext (fun x hx=>⟨HE.blk x hx,(HE.own x hx).resolve_left (by simp)⟩) HE.nd;refine AW U (Ai U U (Ai U U (Bi Ahu H ?_)));rintro b14 w - H;refine Bf (.pointer _) Ahp U U U H at0 (by decide) ?_;rintro w H;refine Ac U (qA (Ar (Ad (Ae U (Be U U (qA (Av _ U ?_ ?_)))))))
   .intro h2;replace h2:=Bv h2;exact absurd U h2
   .intro h2;replace h2:=Bw h2;refine Ap (Aa (Ad (CG [.pointer _,.pointer _,.pointer _] U (CG [.pointer _,.pointer _,.pointer _] U (Cc (nwF b14 b5 b1) Pa WU Abk H ?_)))));rintro b82 w - H;have hall:=(fun y hy=>(H.own y hy).resolve_left (by simp));have hbs9:wI.heap.size<=bs:=hall (bs,Bl CU (CN (ptr bd) Gi (ptr bp) (ptr bt) (gl+1) (-1) m1 m2 0 false)) (by simp);refine Aj qB (App (Y:=[(m2,o2),(m1,o1)]++(pgB bp ba m++trB bt bd bp)) ⟨O.call H.ext,ZW H (fun x h=>(O.own x h).2) (.cons_cons _ (.cons_cons _ (.cons _ (List.Sublist.refl _)))),Grown.call H.ext⟩ g hl hR.2 hpq hqq ⟨by omega,hgn⟩ (qaw O.ext.size hbs9) hbs9) U ?_;rintro v w ⟨e,rfl,he⟩;clear H;obtain⟨rfl,F1,bj,J,FY2,G2⟩:=he.resolve_right (fun h=>h.2);clear he;refine Ac U (qA (Ar (Ad (Ae U (Be U U (qA (Av _ U ?_ ?_)))))))
    .intro h3;replace h3:=Bv h3;exact absurd U h3
    .intro h3;replace h3:=Bw h3;refine Ap (Aa (Ad (Bd F6 U ((by rw[Aq (Fo.at FY2 (k:=1) rfl)];rfl)) ?_)));refine B7 U (Ac U (qA (A6 (Cs (v1:=(.pointer _)) (v2:=(.int _ _)) U U U U ?_))));have gs:=(g.save0 hl (gl+1) (tpB (-1) pq qq) (by omega) hgn (by rw[DZ];decide)).2.2;have hmN:(List.replicate m 0).length=m:=qa8;have hp6:=FY2.nd.sublist (List.drop_sublist 4 _)
     have hge:∀q∈[bs,m1,m2,bp,ba,bt],wI.heap.size<=q:=fun q hq=>by
      have h9:∃o,(q,o)∈([(bs,Bl CU (CN (ptr bd) Gi (ptr bp) (ptr bt) (gl+1) (-1) m1 m2 0 false)),(m2,o2),(m1,o1)]++(pgB bp ba m++trB bt bd bp)):=by
       simp only[qac,qam,or_false]at hq
       rcases hq with rfl|rfl|rfl|rfl|rfl|rfl
       .exact⟨_,qaf ..⟩
       .exact⟨o1,by simp⟩
       .exact⟨o2,by simp⟩
       .exact⟨Bl TPg [.slice (some ⟨ba,0,none⟩) m m],by simp⟩
       .exact⟨Bl TSt ((List.replicate m 0).map stv),by simp⟩
       .exact⟨Bl TT (Qd bd bp 362),by simp⟩
      obtain⟨o,ho⟩:=h9;have:=hall (q,o) (qaj _ (qaj _ (qax _ ho)));dsimp only at this;omega
     refine⟨⟨bd,bs,bj,bp,ba,bt,m1,m2,fun y=>y<wI.heap.size⟩,F1,rfl,rfl,⟨J,by rw[gs.len];exact gs,⟨[],o1,o2,Acj FY2 (fun y hy=>?_) ?_,⟨hm1,(fun q hq=>by cases hq),fun q hq=>by cases hq⟩,rfl,hm2⟩,fun q hq=>qaw O.ext.size (hge q hq),by simp,(fun q hq=>by cases hq),by simp,fun y hy=>qau hy G2.1.size⟩,⟨G2.1,fun y hy=>hy.elim (G2.2 y) fun h => .inr (hge y h)⟩,fun y hy=>hy⟩
     .simp only[Sp.blk,qa8,qac,qam,or_false]at hy
      rcases hy with rfl|rfl|rfl|rfl|rfl|rfl <;> simp
     .simp only[Sp.blk,qa8];exact(List.Perm.pairwise_iff (fun h=>Ne.symm h) ((List.Perm.swap _ _ _).cons _)).1 hp6
end
open Go.GV Go.Proofs.Tryz Go.Maps Go.Sort Go.Shelf Go.RowKit
def CF{α:Type}(m:List (Byt × α)):List Byt:=(m.map (·.1)).mergeSort fun x y=>decide (x<=y)
theorem Mu{α:Type}(m:List (Byt × α)):(CF m).length=m.length:=by rw[CF,qcu,qai]
theorem Ae0(mb:Option Nat)(w:World):Ret prog 66 #[.map mb] w fun v w'=>v=.func (.func 104) #[] #[.pointer (some ⟨w.heap.size,0,none⟩)]/\w'=w.alloc (Bl 91 [.map mb]):=by
 have h:=AnyZ.keys_in keysS Fence.wide 5 trivial rfl mb w;exact CallsIn.mono (callsIn_wide.2 (callsIn_wide.1 h)) fun e w' ⟨h1,h2⟩=>⟨_,h1,rfl,h2⟩
theorem Yf{w:World}{bx bm:Nat}{m:List (Byt × Value)}{o:Obj}(hx:w.heap[bx]?=some (Bl 91 [.map (some bm)]))(hb:w.heap[bm]?=some o)(hM:Ek str m o)(nd:(m.map (·.1)).Nodup)(hsz:m.length<=100000)(hr:∀p∈m,p.1.length<=32) :
  Ret prog 65 #[.func (.func 104) #[] #[.pointer (some ⟨bx,0,none⟩)]] w fun v w'=>∃a c,v=.slice a (CF m).length c/\Rd w' a 1 (fun x:Byt=>[str x]) (CF m)/\(CF m).length<=c/\(CF m=[]\/w.heap.size<=(adr a).block)/\Ext [] w w':=by
 obtain⟨D0,hown,hperm,hsize⟩:=PP (P:=prog) FA hb hM nd (qaw hsz (by decide)) (fun p hp=>qaw (hr p hp) (by decide))
 have hseq:SeqGives Fence.wide 2 prog 104 #[.pointer (some ⟨bx,0,none⟩)] encStr (fun ss=>ss.Perm (strKeys D0)) (Maps.size D0) w :=
  AnyZ.keys_gives (ρ:=keysS_ren) { keysS with } Fence.wide _ trivial rfl (by omega) bx bm m.length D0 w (Al hx) (by rw[Aq hx];rfl) hown
 have cS:=AnyZ.sorted_in sortedS Fence.wide 5 trivial trivial trivial trivial rfl (by omega) (sortsS _) (enters_of func103 (by kernel_rfl) rfl) 104 #[.pointer (some ⟨bx,0,none⟩)] trivial (enters_of func104 (by kernel_rfl) rfl) _ (Maps.size D0) (by rw[hsize];exact qaw hsz (by decide)) (by rw[hsize];omega) _ hseq;refine CallsIn.mono (callsIn_wide.2 (callsIn_wide.1 cS)) ?_;rintro e w' ⟨v,ss,rfl,hS,hrow,_,hbel⟩;have he:ss.mergeSort (fun x y=>decide (x<=y))=CF m:=mergeSort_of_perm (hS.trans hperm);rw[he]at hrow;obtain⟨a,c,rfl,R,hc,hnew⟩:=PQ (by rw[<-he,qcu]) hrow;exact⟨_,rfl,a,c,rfl,R,hc,hnew,Kl hbel⟩
section
variable {w:World}{bd:Nat}{A:Dev}{F:Mut}
theorem ZX(D:DevAt w bd A F)(hmay:K3 A=0)(hE:EG A≠0){mx:Nat}(hfew:Few A mx)(hl:A.B.length<=100000:=by decide)(hmx:mx<1000000000000:=by decide):Ret prog 19 #[ptr bd] w fun v w'=>v=.tuple #[.pointer none,.int .i64 (EG A)]/\Ext [] w w':=by
 obtain⟨w0,rfl,H⟩:=qE w;refine A8 (fn:=f19) func19 U [ptr bd] U (Ad (Cu _ (.pointer _) U U H ?_));rintro b1 w - H;refine B7 U (Ac U (qA (Ar (Ad (AH Dm U H at0 U (Aj qB (VW (D.keep0 H.ext) (hl:=hl)) U ?_))))));rintro v w ⟨rfl,rfl⟩;rw[hmay];refine Ac U (qA (Ad (Ae U (Be U U (qA (Av _ U ?_ ?_))))))
 .intro h1;replace h1:=Bv h1;exact absurd U h1
 .intro h1;replace h1:=Bw h1;refine Ap (Aa (Ad (AH Dm U H at0 U (Aj qB (Als hfew hmx (D.keep0 H.ext)) U ?_))));rintro v w ⟨a23,c23,rfl,R23,-,hx23⟩;replace H:=H.call hx23;refine AW U (Ai U U (Ai U U (Ai U U (Ac U (Ak U (Ac U (qA (Ar (Ad ?_)))))))));refine Ae U (Be U U (qA (Av _ U ?_ ?_)))
  .intro h2;replace h2:=Bv h2;refine Ad (Ae U (B7 U (Ac U (qA (A6 (Ao (Cs (v1:=(.pointer _)) (v2:=(.int _ _)) U U U U ?_)))))));exact⟨rfl,H.ext⟩
  .intro h2;replace h2:=Bw h2;exact absurd h2 hE
end
theorem Acm(k v:Byt)(w:World):Ret prog 30 #[str k,str v] w fun r w'=>Ext [] w w'/\∃m:Wm,r=.agg (CE m).toArray/\m.x=⟨k,v,false⟩/\Rd w' m.ka 1 B8 k/\Rd w' m.va 1 B8 v/\k.length<=m.kc/\v.length<=m.vc/\(k=[]\/w.heap.size<=(adr m.ka).block)/\(v=[]\/w.heap.size<=(adr m.va).block):=by
 obtain⟨w0,rfl,H⟩:=qE w;refine A8 (fn:=f30) func30 U [str k,str v] U (Ad (Bi F7 H ?_));rintro b4 w - H;refine qA (Ad (Ce U (KU (l:=k) U FA AX Hm U ?_)));rintro b6 c6 w hb6 hc6 hx6 R6;have hs6:=H.size;have hb46:=Al (H.get at0);replace H:=H.call hx6;refine Ce U (KU (l:=v) U FA AX Hm U ?_);rintro b8 c8 w8 hb8 hc8 hx8 R8;have hs8:=H.size;have hb48:=Al (H.get at0);replace H:=H.call hx8;replace R6:=R6.ext0 hx8;have HX:=H.ext;have hb4:=(H.own _ (qaf ..)).resolve_left (by simp);have hb4':=Al (H.get at0);replace H:=Ctx.start1 (H.get at0);refine B5 (CE ⟨some ⟨b6,0,none⟩,c6,some ⟨b8,0,none⟩,c8,⟨k,v,false⟩⟩) PW F7 ?_;refine Bo Cw U U U (by exact FV ⟨some ⟨b6,0,none⟩,c6,some ⟨b8,0,none⟩,c8,⟨k,v,false⟩⟩) H at0 U ?_;rintro w H;refine qA (A6 (N6 U U U RO Cw H at0 U ?_))
 exact⟨HX.then H.ext fun x hx => .inr (by rw[qaa.1 hx];exact hb4),_,rfl,rfl,R6.ext H.ext (by simp[adr];omega),R8.ext H.ext (by simp[adr];omega),hc6,hc8,.inr (by show _<=b6;omega),.inr (by show _<=b8;omega)⟩
end Go.Proofs.YtcpgbcabmcbclaaGreatDoor
