/- Part 5 of the proof. -/
import Derived.Test.YtcpgbcabmcbclaaGreatDoorPart4
import Derived.Lib.Bytealg
set_option maxRecDepth 20000
set_option maxHeartbeats 4000000
namespace Go.Proofs.YtcpgbcabmcbclaaGreatDoor
open Go.GV Go.Proofs.Tryz
attribute [local irreducible] Ay W Wq Wt
def TR:Nat:=0
def TB:Nat:=0
def RB(n bb cb:Nat)(left:Int)(on:Bool):List Value:=[.slice (some ⟨bb,0,none⟩) n cb,.int .i64 left,.bool on]
@[simp] theorem RB_len (n bb cb:Nat) (left:Int) (on:Bool):(RB n bb cb left on).length=3:=rfl
def LooseS(w:World)(role:Nat->Nat)(k:Nat)(v:Value)(l:List Byt):Prop :=
 ∃a n c full,v=.slice a n c/\OS a n c 1 full (l.map str)/\∀x∈ent a 9 full,w.heap[x.1]?=some x.2/\role x.1=5+k
structure RefR(w:World)(rd:Nat)(A:Dev)(role:Nat->Nat)(bb cb:Nat)(full:List Value):Prop where
 lt:∀x,role x≠0->x<w.heap.size
 rr:role rd=1
 rb:role bb=2
 hd:w.heap[rd]?=some (Bl TR (RB A.B.length bb cb A.left A.on))
 hb:w.heap[bb]?=some (Bl TB full)
 len:full.length=cb*2
 cap:A.B.length<=cb
 part:∀i p,A.B[i]?=some p->full[2*i]?=some (str p.1)/\∃v,full[2*i+1]?=some v/\LooseS w role i v p.2
 wf:Wf A
def RefAt(w:World)(rd:Nat)(A:Dev)(F:Nat->Prop):Prop:=∃role bb cb full,RefR w rd A role bb cb full/\∀x,role x≠0->F x
theorem LooseS.keep{w w':World}{role role':Nat->Nat}{k:Nat}{v:Value}{l:List Byt}{S:List Nat}(h:LooseS w role k v l)(hx:Ext S w w')(hS:∀x∈S,role x≠5+k)(hr5:∀x,role x=5+k->role' x=5+k):LooseS w' role' k v l:=by
 obtain⟨a,n,c,full,rfl,O,hb⟩:=h;refine⟨a,n,c,full,rfl,O,fun x hx'=>?_⟩;obtain⟨h6,h7⟩:=hb x hx';exact⟨by rw[hx.block x.1 (Al h6) fun h=>hS _ h h7];exact h6,hr5 _ h7⟩
theorem RefAt.keep{w w':World}{rd:Nat}{A:Dev}{F:Nat->Prop}(h:RefAt w rd A F){S:List Nat}(hx:Ext S w w')(hS:∀x∈S,¬F x):RefAt w' rd A F:=by
 obtain⟨role,bb,cb,full,D,hF⟩:=h;have hS':∀x∈S,role x=0:=fun x hx=>Classical.byContradiction fun h=>hS x hx (hF x h)
 have hb:∀{b:Nat} {o:Obj},w.heap[b]?=some o->role b≠0->w'.heap[b]?=some o:=fun{b o} h1 h2=>by
  rw[hx.block b (Al h1) fun h=>h2 (hS' b h)];exact h1
 refine⟨role,bb,cb,full,⟨fun x h=>qas (D.lt x h) hx.size,D.rr,D.rb,hb D.hd (by rw[D.rr];decide),hb D.hb (by rw[D.rb];decide),D.len,D.cap,fun i p hp=>?_,D.wf⟩,hF⟩;obtain⟨h1,v,h2,h3⟩:=D.part i p hp;exact⟨h1,v,h2,h3.keep hx (fun x h=>by rw[hS' x h];omega) fun _ h=>h⟩
theorem RefAt.keep0{w w':World}{rd:Nat}{A:Dev}{F:Nat->Prop}(h:RefAt w rd A F)(hx:Ext [] w w'):RefAt w' rd A F:=h.keep hx (by simp)
theorem RefAt.mono{w:World}{rd:Nat}{A:Dev}{F G:Nat->Prop}(h:RefAt w rd A F)(hG:∀x,F x->G x):RefAt w rd A G :=
 let ⟨role,bb,cb,full,D,hF⟩:=h;⟨role,bb,cb,full,D,fun x hx=>hG x (hF x hx)⟩
theorem RefAt.wf{w:World}{rd:Nat}{A:Dev}{F:Nat->Prop}(h:RefAt w rd A F):Wf A:=let ⟨_,_,_,_,D,_⟩:=h;D.wf
theorem RefR.turn{w w':World}{rd:Nat}{A A':Dev}{role:Nat->Nat}{bb cb:Nat}{full:List Value}(D:RefR w rd A role bb cb full)(hx:Ext [rd] w w')(hd:w'.heap[rd]?=some (Bl TR (RB A'.B.length bb cb A'.left A'.on)))(hB:A'.B=A.B)(wf:Wf A'):RefR w' rd A' role bb cb full:=by
 have hs:∀x∈[rd],role x=1:=fun x h=>by rw[qab.1 h];exact D.rr
 refine⟨fun x h=>qas (D.lt x h) hx.size,D.rr,D.rb,hd,?_,D.len,by rw[hB];exact D.cap,fun i p hp=>?_,wf⟩
 .rw[hx.block bb (Al D.hb) fun h=>by have:=hs _ h;rw[D.rb]at this;omega];exact D.hb
 .rw[hB]at hp;obtain⟨h1,v,h2,h3⟩:=D.part i p hp;exact⟨h1,v,h2,h3.keep hx (fun x h=>by rw[hs x h];omega) fun _ h=>h⟩
theorem RefR.put{w w':World}{rd:Nat}{A:Dev}{role role':Nat->Nat}{bb cb:Nat}{full:List Value}(D:RefR w rd A role bb cb full){k:Nat}{p:Byt × List Byt}{S:List Nat}{full':List Value}{v:Value}(hk:k<A.B.length)(hx:Ext S w w')(hS:∀x∈S,role x=2\/role x=5+k)(hb':w'.heap[bb]?=some (Bl TB full'))(hlen:full'.length=full.length)(h0:full'[2*k]?=some (str p.1))(h1:full'[2*k+1]?=some v)(hrest:∀i,i≠2*k->i≠2*k+1->full'[i]?=full[i]?)(hv:LooseS w' role' k v p.2)(hold:∀x,role x≠0->role' x=role x)(hlt:∀x,role' x≠0->x<w'.heap.size)(wf:Wf { A with B:=A.B.set k p }):RefR w' rd { A with B:=A.B.set k p } role' bb cb full':=by
 refine⟨hlt,by rw[hold _ (by rw[D.rr];decide),D.rr],by rw[hold _ (by rw[D.rb];decide),D.rb],?_,hb',by rw[hlen,D.len],by rw[qcb];exact D.cap,fun i q hq=>?_,wf⟩
 .rw[hx.block rd (Al D.hd) fun h=>by have:=hS _ h;rw[D.rr]at this;omega,qcb];exact D.hd
 .have hq':(A.B.set k p)[i]?=some q:=hq;rw[qc1]at hq'
  by_cases hik:k=i
  .subst hik;rw[if_pos rfl,if_pos hk]at hq';cases hq';exact⟨h0,v,h1,hv⟩
  .rw[if_neg hik]at hq';obtain⟨a1,u,a2,a3⟩:=D.part i q hq';refine⟨by rw[hrest _ (by omega) (by omega)];exact a1,u,by rw[hrest _ (by omega) (by omega)];exact a2,a3.keep hx (fun x h=>by have:=hS x h;omega) fun x h=>by rw[hold x (by omega),h]⟩
def sureB(B:List (Byt × List Byt))(i:Nat):List (Byt × List Byt):=(B.take i).map (fun p=>(stands p,[]))++B.drop i
theorem Wf.set{A:Dev}(h:Wf A){k:Nat}{p:Byt × List Byt}(h1:p.1.length=512)(h2:∀b∈p.2,b.length=512):Wf { A with B:=A.B.set k p }:=by
 refine⟨by rw[qcb];exact h.lo,by rw[qcb];exact h.hi,h.left,h.left2,fun q hq=>?_,fun q hq x hx=>?_⟩
 .rcases qe0 hq with hq|rfl
  .exact h.sure q hq
  .exact h1
 .rcases qe0 hq with hq|rfl
  .exact h.loose q hq x hx
  .exact h2 x hx
def cellsN(i:Nat):List Value:=(List.replicate i [str zeros,Value.slice none 0 0]).flatten
def Lp(b:List UInt8):Nat:=numN ((Cg b).take 8)
def DW(k:Int)(b:List UInt8):Bool :=
 decide (DX b=0) && (decide ((Fa b).toNat=1) && (decide (8<=(Cg b).length) && (decide ((Cg b).length<=488) && (decide (1<=Lp b) && (decide (Lp b<=4611686018427387904) && decide (((Lp b % 2:Nat):Int)=k))))))
def C2(k:Int)(b:List UInt8):Nat:=bif DW k b then Lp b else 0
def Di(k:Int)(b:List UInt8):List UInt8:=bif DW k b then(Cg b).drop 8 else[]
theorem Aa6{b:List UInt8}{w w':World}{v:Value}(h:Lk b w v w'):∃k a c m,v=.tuple #[bv k,.slice a (List.length m) c,.int .i64 (DX b)]/\Ext [] w w'/\Rd w' a 1 B8 m/\m.length<=c/\(DX b=0->k=Fa b/\m=Cg b)/\m.length<=505:=by
 rcases h with⟨h0,rfl,hx⟩|⟨h0,s,rfl,F⟩
 .exact⟨0,none,0,[],rfl,hx,Rd.nil,qae _,fun h=>absurd h h0,by simp⟩
 .obtain⟨a,c,rfl,R,hc⟩:=Fresh.rdB F;refine⟨_,a,c,_,by rw[h0],F.ext,R,hc,fun _=>⟨rfl,rfl⟩,?_⟩;have h1:(Cg b).length<=(GU b).length:=by rw[Cg,qay];exact Nat.min_le_right _ _
  have h2:(GU b).length<=505:=by rw[GU,qay];exact Nat.min_le_left _ _
  omega
theorem Aei(b:List UInt8):Lp b<18446744073709551616:=by
 have h:=Il ((Cg b).take 8);have h2:256 ^ ((Cg b).take 8).length<=256 ^ 8:=qcl (by omega) (by rw[qay];omega);have h3:(256:Nat) ^ 8=18446744073709551616:=by decide
 unfold Lp;omega
def TE(k:Int)(b:List UInt8)(w:World)(v:Value)(w':World):Prop :=
 ∃a c,v=.agg #[.int .u64 (C2 k b:Int),.slice a (Di k b).length c]/\Rd w' a 1 B8 (Di k b)/\(Di k b).length<=c/\(Di k b=[]\/w.heap.size<=(adr a).block)/\Ext [] w w'
theorem Aa7(l:List UInt8):∃(g8:Nat) (n9:Int),EB l 0 8=.tuple #[.int .u64 (g8:Int),.int .i64 n9,.int .i64 (Cz l 0 8)]/\(Cz l 0 8=0->g8=numN (l.take 8)/\n9=8):=by
 by_cases h:Cz l 0 8=0
 .refine⟨numN (l.take 8),8,?_,fun _=>⟨rfl,rfl⟩⟩;rw[EB,h];rfl
 .refine⟨0,0,?_,fun h'=>absurd h' h⟩;rw[EB,qag h];rfl
theorem Mw{k:Int}{b:List UInt8}{w w':World}(h:DW k b=false)(hx:Ext [] w w'):TE k b w (.agg #[.int .u64 0,.slice none 0 0]) w' :=
 ⟨none,0,by rw[C2,Di,h];rfl,by rw[Di,h];exact Rd.nil,by rw[Di,h];exact qae _,.inl (by rw[Di,h];rfl),hx⟩
theorem Aej(k:Int)(a:Option Addr)(c n:Nat)(b:List UInt8)(w:World)(R:Rd w a 1 B8 b)(hn:b.length=n)(hm:n<=9223372036854775799:=by omega)(hc:b.length<=c:=by omega):
  Ret prog 73 #[.int .i64 k,.slice a n c] w fun v w'=>TE k b w v w':=by
 subst hn;obtain⟨w0,rfl,H⟩:=qE w;have hgl:=Aei b;refine Ax (fn:=f73) func73 U [.int .i64 k,.slice a b.length c] U (Ad (Bf Jj H ?_));rintro b4 w - H;refine qA (Ad (Aj U (Ah qB (RZ a c b.length b _ (R.ext0 H.ext) U (hm:=hm) hc) U ?_)));rintro v w P;obtain⟨kd,a6,c6,m,rfl,hx,R6,hc6,hP,hm5⟩:=Aa6 P;replace H:=H.call hx;refine AL U (Ag U U (Ag U U (Ag U U (Ac U (Ai U (Ac U (qA (Aq (Ad (B5 (α:=Unit) 268304384 (fun _=>[(27,.bool (!(decide (DX b=0) && (decide (kd.toNat=1) && decide (m.length<=488)))))]) (fun _ w'=>Ctx w0 [] w' [(b4,Bl 117 [.int .u64 0,.slice none 0 0])]/\Ext [] w w') U ?_ ?_))))))))))
 .refine Ae U (AN U U (A4 U (AU 19 U ?_ ?_)))
  .intro h1;replace h1:=Bh h1;refine Ak U (Ak U (AR U (.bool _) U (A4 U (Ak U (Ak U (Ak U (AR U (.bool _) U (Ab ?_))))))));exact⟨rfl,(),rfl,⟨qac Value.bool (by rw[qap];simp_all;try omega),trivial⟩,⟨H,.refl _ _⟩⟩
  .intro h2;replace h2:=Bi h2;refine Ae U (AN U U (AJ U (.bool _) U (A4 U (AU 23 U ?_ ?_))))
   .intro h3;replace h3:=Bh h3;refine Ak U (Ak U (Ak U (AR U (.bool _) U (Ab ?_))));exact⟨rfl,(),rfl,⟨qac Value.bool (by rw[qap];simp_all;try omega),trivial⟩,⟨H,.refl _ _⟩⟩
   .intro h4;replace h4:=Bi h4;refine Aj U (AP AO U (BP U U (AJ U (.bool _) U (Ab ?_))));exact⟨rfl,(),rfl,⟨qac Value.bool (by rw[qap];simp_all;try omega),trivial⟩,⟨H,.refl _ _⟩⟩
 rintro - j27 w ⟨H,hxj⟩;replace R6:=R6.ext0 hxj;refine Ar _ U ?_ ?_
 .intro h1;replace h1:=Cs h1
  have hr:DW k b=false:=by
   rw[qd0];intro hc;simp only[DW,qao,qaq]at hc;obtain⟨h2,h3,_,h4,_⟩:=hc;obtain⟨rfl,rfl⟩:=hP h2;simp[h2,h3,h4]at h1
  refine Ad (Bw [.int .u64 0,.slice none 0 0] RQ Jj ?_);refine Bc FD U U U (by simp[AX]) H at0 U ?_;rintro w H;refine qA (Aw (An (KO U U U Ml FD H at0 U ?_)));exact Mw hr H.ext
 .intro h1;replace h1:=Cu h1;simp only[qao,qaq]at h1;obtain⟨h2,h3,h4⟩:=h1;obtain⟨rfl,rfl⟩:=hP h2
  have hte:Cz (Cg b) 0 8=bif decide (8<=(Cg b).length)then 0 else 5:=by
   unfold Cz;rw[qai (show(0:Int)<=((Cg b).length:Int)by omega)]
   cases hd:decide (8<=(Cg b).length)with
   |true=>rw[qaq]at hd;rw[qai (show(8:Int)<=((Cg b).length:Int) - 0 by omega)];rfl
   |false=>rw[qc9]at hd;rw[qag (show ¬(8:Int)<=((Cg b).length:Int) - 0 by omega)];rfl
  refine Ap (Aa (Ad (Aj U (Ah qB (Fq a6 c6 (Cg b).length (Cg b) 0 8 _ R6 U hc6) U ?_))));rintro v w ⟨rfl,hx⟩;obtain⟨g8,n9,htv,hg8⟩:∃(g8:Nat) (n9:Int),EB (Cg b) 0 8=.tuple #[.int .u64 (g8:Int),.int .i64 n9,.int .i64 (Cz (Cg b) 0 8)]/\(Cz (Cg b) 0 8=0->g8=Lp b/\n9=8):=Aa7 (Cg b);rw[htv];replace H:=H.call hx;replace R6:=R6.ext0 hx;refine AL U (Ag U U (Ag U U (Ag U U (Ac U (Ac U (Ac U (qA (Aq (Ad ?_)))))))));refine Ae U (AN U U (qA (Ar _ U ?_ ?_)))
  .intro h5;replace h5:=Bh h5
   have hr:DW k b=false:=by
    rw[qd0];intro hc;simp only[DW,qao,qaq]at hc;rw[hte,qai hc.2.2.1]at h5;exact h5 U
   refine Ad (Bw [.int .u64 0,.slice none 0 0] RQ Jj ?_);refine Bc FD U U U (by simp[AX]) H at0 U ?_;rintro w H;refine qA (Aw (An (KO U U U Ml FD H at0 U ?_)));exact Mw hr H.ext
  .intro h5;replace h5:=Bi h5;obtain⟨rfl,rfl⟩:=hg8 h5
   have h8:8<=(Cg b).length:=by
    refine Classical.byContradiction fun hc=>?_;rw[hte,qag hc]at h5;cases h5
   have R8:=R6.cut 8 c6 hc6;refine Ap (Aa (Ad (Ae U (Aj U (Ae U (EV U AO C0 U U ?_))))));refine Ah qB (XP _ (c6 - 8) ((Cg b).length - 8) ((Cg b).drop 8) _ R8 (by rw[qbe])) U ?_;rintro v w ⟨F,-⟩;have hlt:=H.lt at0;obtain⟨a42,c42,rfl,R42,hc42,hnew⟩:=Fresh.newB F;replace H:=H.call F.ext;have h4c:=H.get at0;have hw4:w0.heap.size<=b4:=(H.own _ (qad ..)).elim (fun h=>by cases h) id;have H0:=H.ext;obtain⟨wr,rfl⟩:=qD w;replace H:=Ctx.start1 h4c;refine Bw [.int .u64 (Lp b:Int),.slice a42 ((Cg b).drop 8).length c42] RQ Jj (Bf Jj H ?_);rintro b10 w - H;refine Bc FD U U U (by simp[AX]) H at0 U ?_;rintro w H
   refine qA (Aq (Ad (B5 (α:=Unit) 1152903912420802560 (fun _=>[(59,.bool (!(decide (1<=Lp b) && (decide (Lp b<=4611686018427387904) && decide (((Lp b % 2:Nat):Int)=k)))))]) (fun _ w'=>Ctx wr [b4] w' [(b10,Bl 117 [.int .u64 (Lp b:Int),.slice a42 ((Cg b).drop 8).length c42]),(b4,Bl 117 [.int .u64 0,.slice none 0 0])]) U ?_ ?_)))
   .refine Af GQ U (AG FT U H at0 U (Bp U U (A4 U (AU 47 U ?_ ?_))))
    .intro h5;replace h5:=AV h5;refine Ak U (Ak U (Ak U (AR U (.bool _) U (A4 U (Ak U (Ak U (Ak U (Ak U (Ak U ?_)))))))));refine Ak U (AR U (.bool _) U (Ab ?_));exact⟨rfl,(),rfl,⟨qac Value.bool (by rw[qap];simp_all;try omega),trivial⟩,H⟩
    .intro h6;replace h6:=AW h6;refine Af GQ U (AG FT U H at0 U (BP U U (AJ U (.bool _) U (A4 U (AU 52 U ?_ ?_)))))
     .intro h7;replace h7:=AV h7;refine Ak U (Ak U (Ak U (Ak U (Ak U (Ak U (AR U (.bool _) U (Ab ?_)))))));exact⟨rfl,(),rfl,⟨qac Value.bool (by rw[qap];simp_all;try omega),trivial⟩,H⟩
     .intro h8;replace h8:=AW h8;refine Af GQ U (AG FT U H at0 U (UR U U U ?_));refine DQ U Fy EO (Ae U (AN U U (AJ U (.bool _) U (Ab ?_))));exact⟨rfl,(),rfl,⟨qac Value.bool (by rw[qap];simp_all;try omega),trivial⟩,H⟩
   rintro - j59 w H;refine Ar _ U ?_ ?_
   .intro h6;replace h6:=Cs h6
    have hr:DW k b=false:=by
     rw[qd0];intro hc;simp only[DW,qao,qaq]at hc;simp[hc.2.2.2.2.1,hc.2.2.2.2.2.1,hc.2.2.2.2.2.2]at h6
    refine Ad (Bw [.int .u64 0,.slice none 0 0] RQ Jj ?_);refine Bc FD U U U (by simp[AX]) H at1 U ?_;rintro w H;refine qA (Aw (An (KO U U U Ml FD H at1 U ?_)));exact Mw hr (H0.then H.ext (by intro x hx;rw[qab]at hx;subst hx;exact .inr hw4))
   .intro h6;replace h6:=Cu h6
    have hr:DW k b=true:=by
     simp only[qao,qaq]at h6;simp only[DW,qao,qaq];exact⟨h2,h3,h8,h4,h6.1,h6.2.1,h6.2.2⟩
    refine Ap (Aa (Ad (BH Ml FD U H at0 U (Bc FD U U U (by simp[AX]) H at1 U ?_))));rintro w H;refine qA (Aw (KO U U U Ml FD H at1 U ?_));have R9:=Rd.newer R42 hnew H.ext (by intro x hx;rw[qab]at hx;subst hx;exact hlt);refine⟨a42,c42,?_,?_,?_,?_,H0.then H.ext (by intro x hx;rw[qab]at hx;subst hx;exact .inr hw4)⟩
    .rw[C2,Di,hr];rfl
    .rw[Di,hr];exact R9
    .rw[Di,hr];exact hc42
    .rw[Di,hr];exact hnew.imp id fun h=>by omega
def OfPost(k:Int)(b:List UInt8)(w:World)(v:Value)(w':World):Prop :=
 ∃a c,v=.tuple #[.int .u64 (C2 k b:Int),.slice a (Di k b).length c]/\Rd w' a 1 B8 (Di k b)/\(Di k b).length<=c/\Ext [] w w'
def CU(gen:Nat)(body:Byt):Byt:=CY 1 (AZ gen 8++body)
def Gr(gen:Nat):Int:=((gen % 2:Nat):Int)
def Jp(A:Dev)(gen:Nat)(body:Byt):Int :=
 bif decide (gen<1) || (decide (4611686018427387904<gen) || decide (A.B.length<2))then 1 else bif decide (480<body.length)then 6 else
  bif decide (CS A (Gr gen) (CU gen body)=0)then FE (Cf A (Gr gen) (CU gen body))else CS A (Gr gen) (CU gen body)
def DI(A:Dev)(gen:Nat)(body:Byt):Dev :=
 bif decide (gen<1) || (decide (4611686018427387904<gen) || decide (A.B.length<2))then A else bif decide (480<body.length)then A else
  bif decide (CS A (Gr gen) (CU gen body)=0)then CT (Cf A (Gr gen) (CU gen body))else Cf A (Gr gen) (CU gen body)
def at'(A:Dev)(k:Nat):Byt:=stands (A.B.getD k (zeros,[]))
def DT(A:Dev):Int:=bif A.on then(bif decide (A.B.length<2)then 1 else bif decide (C2 0 (at' A 0)=0) && decide (C2 1 (at' A 1)=0)then 4 else 0)else 8
def Gc(A:Dev):Nat:=bif decide (DT A=0)then(bif decide (C2 1 (at' A 1)<C2 0 (at' A 0))then C2 0 (at' A 0)else C2 1 (at' A 1))else 0
def Dj(A:Dev):Byt:=bif decide (DT A=0)then(bif decide (C2 1 (at' A 1)<C2 0 (at' A 0))then Di 0 (at' A 0)else Di 1 (at' A 1))else[]
theorem TF{F:Nat->Prop}{a b c:World}(h1:a.heap.size<=b.heap.size):∀x,grow F b c x->grow F a c x:=by
 rintro x (h|h)
 .exact .inl h
 .exact .inr ⟨by omega,h.2⟩
theorem XW(n k:Nat):AZ n (k+1)=AZ (n / 256) k++[UInt8.ofNat n]:=by
 unfold AZ;rw[List.range_succ,qa0]
 congr 1
 .refine qc7 fun i hi=>?_;have hi':=qdk.1 hi;rw[Nat.div_div_eq_div_mul,show(256:Nat)=2 ^ 8 from rfl,<-Nat.pow_add]
  congr 3
  omega
 .simp
theorem Ea(k:Nat):∀n,numN (AZ n k)=n % 256 ^ k:=by
 induction k with
 |zero=>intro n;simp[AZ,numN,Nat.mod_one]
 |succ k ih =>
  intro n;rw[XW,Qn,ih];have h1:(UInt8.ofNat n).toNat=n % 256:=by simp[UInt8.toNat_ofNat']
  rw[h1,qdy,qdu (256 ^ k) 256,Nat.mod_mul];omega
theorem Vy(k:UInt8){l:List UInt8}(h:l.length<=505):GS (CY k l)=true:=by
 have hl:=En (k:=k) h;have hh:=Oz (k:=k) h;unfold GS;rw[hl];have h1:(CY k l).take (512 - 4)=FZ k l:=by unfold CY;rw[show 512 - 4=508 from rfl];exact MU hh
 have h2:(CY k l).drop (512 - 4)=le4 (RT (FZ k l)).toNat:=by
  unfold CY;rw[qd5 (by omega),qb6 (by omega),qa7]
 rw[h1,h2,Aaz (RT (FZ k l)).isLt];simp
theorem JT(k:UInt8)(l:List UInt8):Fa (CY k l)=k:=rfl
theorem TG(k:UInt8){l:List UInt8}(h:l.length<=505):IF (CY k l)=l.length:=by
 unfold IF
 have h1:((CY k l).drop 1).take 2=AZ l.length 2:=by
  unfold CY FZ;rw[qb8,List.drop_one,List.tail_cons,qa1,qce (Nat.le_of_eq (AM _ _).symm),qa3 (Nat.le_of_eq (AM _ _))]
 rw[h1,Ea,qa6 (by omega)]
theorem Qt(k:UInt8){l:List UInt8}(h:l.length<=505):GU (CY k l)=l++List.replicate (505 - l.length) 0:=by
 unfold GU CY FZ
 have h1:(k::(AZ l.length 2++(l++List.replicate (505 - l.length) 0))++le4 (RT (k::(AZ l.length 2++(l++List.replicate (505 - l.length) 0)))).toNat) =
   (k::AZ l.length 2)++((l++List.replicate (505 - l.length) 0)++le4 (RT (k::(AZ l.length 2++(l++List.replicate (505 - l.length) 0)))).toNat):=by simp
 rw[h1,qd5 (by simp[AM]),qb6 (by simp[AM]),qa7,qce (by simp;omega),qa3 (by simp;omega)]
theorem HQ(k:UInt8){l:List UInt8}(h:l.length<=505):Cg (CY k l)=l:=by
 rw[Cg,Qt k h,TG k h,qce (qae _),qa3 (qae _)]
theorem JU{k:UInt8}{l:List UInt8}(hk:k.toNat≠0)(h:l.length<=505):DX (CY k l)=0:=by
 refine W8 ?_ ?_
 .rw[En h,Vy k h];rfl
 .unfold MV;rw[JT,TG k h,Qt k h,qd5 (qae _),qb6 (qae _),qa7,qag hk,qai h,(Aay _).2 (by simp)];rfl
theorem Jq(gen:Nat){body:Byt}(h:body.length<=480):(AZ gen 8++body).length<=505:=by rw[qam,AM];omega
theorem XX(gen:Nat){body:Byt}(h:body.length<=480):(CU gen body).length=512:=En (Jq gen h)
theorem TH{gen:Nat}{body:Byt}(h:body.length<=480)(hg:gen<=4611686018427387904):Lp (CU gen body)=gen:=by
 unfold Lp CU;rw[HQ 1 (Jq gen h),qce (by rw[AM];exact qae _),qa3 (by rw[AM];exact qae _),Ea,qa6 (by omega)]
theorem WD{gen:Nat}{body:Byt}(h:body.length<=480)(h1:1<=gen)(hg:gen<=4611686018427387904):DW (Gr gen) (CU gen body)=true:=by
 unfold DW;have hb:Cg (CU gen body)=AZ gen 8++body:=HQ 1 (Jq gen h);have hl:(AZ gen 8++body).length=8+body.length:=by rw[qam,AM]
 rw[TH h hg,hb,hl,show DX (CU gen body)=0 from JU (by decide) (Jq gen h),show Fa (CU gen body)=1 from JT ..];simp[Gr];omega
theorem Vz{gen:Nat}{body:Byt}(h:body.length<=480)(h1:1<=gen:=by decide)(hg:gen<=4611686018427387904:=by decide):C2 (Gr gen) (CU gen body)=gen:=by
 rw[C2,WD h h1 hg,cond_true,TH h hg]
theorem V0{gen:Nat}{body:Byt}(h:body.length<=480)(h1:1<=gen:=by decide)(hg:gen<=4611686018427387904:=by decide):Di (Gr gen) (CU gen body)=body:=by
 rw[Di,WD h h1 hg,cond_true,show Cg (CU gen body)=AZ gen 8++body from HQ 1 (Jq gen h),qd5 (by rw[AM];exact qae _),qb6 (by rw[AM];exact qae _),qa7]
theorem Ah1{k:Int}{b:Byt}(h:(Fa b).toNat≠1:=by decide):DW k b=false:=by
 unfold DW;rw[qag h,Bool.false_and,qdz]
theorem Gd(k:Int):C2 k zeros=0:=by
 rw[C2,Ah1 (b:=zeros)];rfl
def calm(B:List Byt)(left:Int):Dev:=⟨B.map fun b=>(b,[]),left,true⟩
theorem OK(B:List Byt)(left:Int):(calm B left).B.length=B.length:=by simp[calm]
theorem Aa8(n:Nat):Dd n=calm (List.replicate n zeros) (-1):=by simp[Dd,calm]
theorem JV(B:List Byt)(left:Int)(k:Nat):at' (calm B left) k=B.getD k zeros:=by
 unfold at' calm;simp only[qa5,qax];cases B[k]? <;> rfl
theorem XY(B:List Byt){left:Int}(h:left≠0):(calm B left).less=calm B (if left = -1 then -1 else left - 1):=by
 unfold Dev.less calm;simp only[if_neg h]
 split
 .rename_i h1;rw[h1]
 .rfl
theorem XZ(B:List Byt)(left:Int):(calm B left).goes=decide (left=0):=rfl
theorem Aek(gen:Nat):Gr gen=0\/Gr gen=1:=by unfold Gr;omega
theorem Aa9(gen:Nat):(Gr gen).toNat=gen % 2:=by unfold Gr;omega
theorem Aba{B:List Byt}{left:Int}(gen:Nat)(h:2<=B.length):(calm B left).has (Gr gen)=true:=by
 unfold Dev.has;rw[OK];have:=Aek gen;simp only[qao,qaq];omega
def EQ(B:List Byt)(k:Nat)(b:Byt)(left:Int)(on:Bool):Dev:=⟨(B.map fun b=>(b,([]:List Byt))).modify k fun p=>(p.1,p.2++[b]),left,on⟩
theorem TI(B:List Byt)(k:Nat)(b:Byt)(left:Int):HN (EQ B k b left true)=calm (B.set k b) left:=by
 unfold HN EQ calm;simp only[Dev.mk.injEq,and_true];apply qck;intro i;simp only[qax,qcd,qc1]
 by_cases hik:k=i
 .subst hik;simp only[if_true]
  by_cases hk:k<B.length
  .rw[if_pos hk,qa9 hk];rfl
  .rw[if_neg hk,qbu (by omega)];rfl
 .simp only[if_neg hik];cases B[i]? <;> rfl
theorem V1{B:List Byt}{left:Int}(gen:Nat){b:Byt}(h:2<=B.length)(hb:b.length=512):CS (calm B left) (Gr gen) b=(if left=0 then 8 else 0) /\
  Cf (calm B left) (Gr gen) b=if left=0 then⟨(calm B left).B,left,false⟩else EQ B (gen % 2) b (if left = -1 then -1 else left - 1) true:=by
 unfold CS Cf;rw[Aba gen h,qai hb,XZ]
 by_cases h0:left=0
 .subst h0;exact⟨rfl,rfl⟩
 .rw[qag h0,if_neg h0,if_neg h0,XY B h0,Aa9];exact⟨rfl,rfl⟩
theorem Sf(B:List Byt)(k:Nat)(b:Byt)(left:Int):FE (EQ B k b left true)=(if left=0 then 8 else 0) /\
  CT (EQ B k b left true)=if left=0 then EQ B k b left false else calm (B.set k b) (if left = -1 then -1 else left - 1):=by
 unfold FE CT;show(bif true then bif decide (left=0)then(8:Int)else 0 else 8)=_/\(bif true then bif decide (left=0)then(EQ B k b left true).less else HN (EQ B k b left true).less else EQ B k b left true)=_
 by_cases h0:left=0
 .subst h0;exact⟨rfl,rfl⟩
 .rw[qag h0,if_neg h0,if_neg h0];refine⟨rfl,?_⟩;show HN (EQ B k b left true).less=_
  have:(EQ B k b left true).less=EQ B k b (if left = -1 then -1 else left - 1) true:=by
   unfold Dev.less EQ;simp only[if_neg h0]
   split
   .rename_i h1;rw[h1]
   .rfl
  rw[this,TI]
theorem Ya{B:List Byt}{left:Int}{gen:Nat}{body:Byt}(h:2<=B.length)(h1:1<=gen)(hg:gen<=4611686018427387904)(hb:body.length<=480)(hl : -1<=left) :
  Jp (calm B left) gen body=(if left=0\/left=1 then 8 else 0) /\
  DI (calm B left) gen body=if left=0 then⟨(calm B left).B,left,false⟩else if left=1 then EQ B (gen % 2) (CU gen body) 0 false else calm (B.set (gen % 2) (CU gen body)) (if left = -1 then -1 else left - 2):=by
 obtain⟨hw1,hw2⟩:=V1 (left:=left) gen (b:=CU gen body) h (XX gen hb);unfold Jp DI;rw[OK,qag (show ¬gen<1 by omega),qag (show ¬4611686018427387904<gen by omega),qag (show ¬B.length<2 by omega),qag (show ¬480<body.length by omega),hw1,hw2]
 by_cases h0:left=0
 .subst h0;exact⟨rfl,rfl⟩
 .simp only[if_neg h0,Bool.or_false,cond_false,decide_true,cond_true];obtain⟨hf1,hf2⟩:=Sf B (gen % 2) (CU gen body) (if left = -1 then -1 else left - 1);rw[hf1,hf2]
  by_cases hm:left = -1
  .subst hm;exact⟨rfl,rfl⟩
  .simp only[if_neg hm]
   by_cases h1:left=1
   .subst h1;exact⟨rfl,rfl⟩
   .rw[if_neg (show ¬left - 1=0 by omega),if_neg (show ¬left - 1=0 by omega),if_neg (show ¬(left=0\/left=1)by omega),if_neg h1,if_neg (show ¬left - 1 = -1 by omega)];exact⟨rfl,by congr 1;omega⟩
theorem Yb{B:List Byt}{left:Int}(h:2<=B.length):DT (calm B left)=(bif decide (C2 0 (B.getD 0 zeros)=0) && decide (C2 1 (B.getD 1 zeros)=0)then 4 else 0):=by
 unfold DT;rw[OK,JV,JV,qag (show ¬B.length<2 by omega)];rfl
theorem DevAt.hd{w:World}{bd:Nat}{A:Dev}{F:Nat->Prop}(h:DevAt w bd A F):∃bs bm,w.heap[bd]?=some (Bl TD (DB A.B.length bs bm A.left A.on)) :=
 let ⟨_,bs,bm,_,_,_,D,_⟩:=h;⟨bs,bm,D.hd⟩
theorem Ael{w:World}{bd:Nat}{A:Dev}{F:Nat->Prop}(gen:Nat)(hgen:gen<18446744073709551616)(a:Option Addr)(c n:Nat)(body:Byt)(R:Rd w a 1 B8 body)(hn:body.length=n)(hm:n<=140737488351231)(hlt:∀x,F x->x<w.heap.size){mx:Nat}(hfew:Few A mx)(hmx:mx<1000000000000)(DA:DevAt w bd A F) :
  Ret prog 39 #[ptr bd,.int .u64 (gen:Int),.slice a n c] w fun v w'=>v=.int .i64 (Jp A gen body)/\DevAt w' bd (DI A gen body) (grow F w w')/\Turn F w w':=by
 subst hn;obtain⟨w0,rfl⟩:=qD w;obtain⟨bs,bm,hhd⟩:=DA.hd;refine Ax (fn:=f39) func39 U [.pointer (some ⟨bd,0,none⟩),.int .u64 (gen:Int),.slice a body.length c] U ?_;refine Ad (Ac U (qA (Aq (Ad (Ao U (BC I0 U ?_))))));refine qA (Br U (Ap (Aa (Aq (Ad (B5 (α:=Unit) 8384512 (fun _=>[(22,.bool (decide (gen<1) || (decide (4611686018427387904<gen) || decide (A.B.length<2))))]) (fun _ w'=>w0=w') U ?_ ?_))))))
 .refine Ae U (Bp U U (A4 U (AU 14 U ?_ ?_)))
  .intro h1;replace h1:=AV h1;refine Ak U (Ak U (AR U (.bool _) U (A4 U (Ak U (Ak U (Ak U (AR U (.bool _) U (Ab ?_))))))));exact⟨rfl,(),rfl,⟨qac Value.bool (by rw[qap];simp_all;try omega),trivial⟩,rfl⟩
  .intro h2;replace h2:=AW h2;refine Ae U (BP U U (AJ U (.bool _) U (A4 U (AU 18 U ?_ ?_))))
   .intro h3;replace h3:=AV h3;refine Ak U (Ak U (Ak U (AR U (.bool _) U (Ab ?_))));exact⟨rfl,(),rfl,⟨qac Value.bool (by rw[qap];simp_all;try omega),trivial⟩,rfl⟩
   .intro h4;replace h4:=AW h4;refine Ao U (Ah qB (Ga hhd) U ?_);rintro v w ⟨rfl,rfl⟩;refine Bp U U (AJ U (.bool _) U (Ab ?_));exact⟨rfl,(),rfl,⟨qac Value.bool (by rw[qap];simp_all;try omega),trivial⟩,rfl⟩
 rintro - j22 w rfl;refine Ar _ U ?_ ?_
 .intro h1;refine Ad (Ac U (qA (Aw (An (AE (v:=(.int _ _)) U U U ?_)))));exact⟨by rw[Jp,h1];rfl,by rw[DI,h1];exact DA.mono fun x h => .inl h,.of0 (.refl _ _)⟩
 .intro h1;refine Ap (Aa (Aq (Ad (Aj U (AP AO U (BP U U (qA (Ar _ U ?_ ?_))))))))
  .intro h2;replace h2:=AV h2;have h2':decide (480<body.length)=true:=qai (by omega);refine Ad (Ac U (qA (Aw (An (AE (v:=(.int _ _)) U U U ?_)))));exact⟨by rw[Jp,h1,h2'];rfl,by rw[DI,h1,h2'];exact DA.mono fun x h => .inl h,.of0 (.refl _ _)⟩
  .intro h2;replace h2:=AW h2;have h2':decide (480<body.length)=false:=qag (by omega);have hlr:(AZ gen 8++body).length<=505:=by rw[qam,AM];omega
   have hse:F4 1 (AZ gen 8++body)=0:=by
    rw[F4,qag (show ¬(1:UInt8).toNat=0 by decide),qag (by omega)];rfl
   have hb5:(CU gen body).length=512:=En hlr;have hB0:Ku [] gen 8=AZ gen 8:=by rw[Ku,show FX 8=true by decide];rfl
   refine Ap (Aa (Ad (Ae U (Ah qB (EP none 0 0 [] gen 8 w0 Rd.nil U hgen) U ?_))));rintro v w F28;obtain⟨a28,n28,c28,full28,rfl,O28,hb28⟩:=F28.ex;have hx28:=F28.ext;rw[hB0]at O28;obtain rfl:n28=8:=by have h9:=O28.llen;rw[qan,AM]at h9;omega
   have H:=(Ctx.start w0 []).callEnt hx28 hb28 IZ;refine Aj U (Eu (L:=[]) U AO AO C0 Oe H3 U (body.map bv) U U H O28 (by simp) (GM body) (Rd.appB (R.ext0 H.ext)) ?_);rintro a30 c30 full30 w H O;rw[<-qa0]at O;have R30:=OS.rdB O (fun x hx=>H.blk x (by simpa using hx));have hx30:=H.ext;refine Ah qB (RX 1 a30 c30 _ _ _ R30 (by rw[qam,AM])) U ?_;rintro v w P31;rw[Jl,hse]at P31;obtain⟨s31,rfl,B31⟩:∃s,v=.tuple #[s,.int .i64 0]/\Bytes _ w s (CU gen body):=(P31.elim (fun h=>absurd rfl h.1) fun h=>h.2);obtain⟨a31,c31,rfl,R31,hc31,hn31⟩:=B31.ex;have hx:=hx30.trans B31.ext;have hn31':w0.heap.size<=(adr a31).block:=qav hx30.size hn31;have DA1:=DA.keep0 hx;rw[hb5];refine AL U (Ag U U (Ag U U (Ai U (Ac U (qA (Aq (Ad (Ae U (AN U U ?_)))))))))
   refine qA (Br U (Ap (Aa (Aq (Ad (Ao U (Ae U (UR U U U ?_))))))));rw[show(gen:Int) % 2=Gr gen from by unfold Gr;omega];refine DQ U Fy EO (h1:=by unfold Gr;omega) (h2:=by unfold Gr;omega) ?_;refine Aj U (Ah qB (Mr (Gr gen) a31 c31 512 (CU gen body) R31 hb5 (.inr fun h=>by have:=hlt _ h;omega) hfew DA1) U ?_);rintro v w9 ⟨rfl,DA2,hT⟩;refine Ac U (qA (Ad (Ae U (AN U U (qA (Ar _ U ?_ ?_))))))
   .intro h3;replace h3:=Bh h3;have h3':decide (CS A (Gr gen) (CU gen body)=0)=false:=qag h3;refine Ad (Ae U (Ac U (qA (Aw (An (AE (v:=(.int _ _)) U U U ?_))))));exact⟨by rw[Jp,h1,h2',h3'];rfl,by rw[DI,h1,h2',h3'];exact DA2.mono (TF hx.size),Turn.trans (.of0 hx) hT (fun x h => .inl h)⟩
   .intro h3;replace h3:=Bi h3;have h3':decide (CS A (Gr gen) (CU gen body)=0)=true:=qai h3;refine Ap (Aa (Ad (Ao U (Ah qB (Mv (HP hfew _ _) DA2) U ?_))));rintro v w10 ⟨rfl,DA3,hT3⟩;refine Ac U (qA (Aw (AE (v:=(.int _ _)) U U U ?_)));have hs1:=hx.size;have hs2:=hT.size;have hs3:=hT3.size;have hg:∀x,grow F w w9 x->grow F w0 w10 x:=fun x h=>h.elim .inl fun h => .inr ⟨by omega,by omega⟩;refine⟨by rw[Jp,h1,h2',h3'];rfl,by rw[DI,h1,h2',h3'];exact DA3.mono hg,Turn.trans (Turn.trans (.of0 hx) hT fun x h => .inl h) hT3 fun x h=>?_⟩
    .rcases h with h|h
     .exact .inl h
     .exact .inr (by omega)
def Ge(A:Dev):Nat->Nat × Byt
 |0=>(0,[])
 |k+1=>if(Ge A k).1<C2 k (at' A k)then(C2 k (at' A k),Di k (at' A k))else Ge A k
theorem Qu{k:Int}{b:Byt}(h:C2 k b≠0):((C2 k b % 2:Nat):Int)=k:=by
 unfold C2 at h |-
 cases hr:DW k b with
 |false=>rw[hr]at h;exact absurd rfl h
 |true =>
  rw[cond_true];unfold DW at hr;simp only[qao,qaq]at hr;exact hr.2.2.2.2.2.2
theorem OL{k:Int}{b:Byt}(h:C2 k b=0):Di k b=[]:=by
 unfold C2 at h;unfold Di
 cases hr:DW k b with
 |false=>rfl
 |true =>
  rw[hr,cond_true]at h;unfold DW at hr;simp only[qao,qaq]at hr;omega
theorem Yc{A:Dev}(ho:A.on=true)(hl:2<=A.B.length:=by omega):(if(Ge A 2).1=0 then DT A=4 else DT A=0)/\Gc A=(Ge A 2).1/\Dj A=(Ge A 2).2:=by
 have he:DT A=bif decide (C2 0 (at' A 0)=0) && decide (C2 1 (at' A 1)=0)then 4 else 0:=by
  unfold DT;rw[ho,qag (show ¬A.B.length<2 by omega)];rfl
 have h2:Ge A 2=if(Ge A 1).1<C2 1 (at' A 1)then(C2 1 (at' A 1),Di 1 (at' A 1))else Ge A 1:=rfl;have h1:Ge A 1=if 0<C2 0 (at' A 0)then(C2 0 (at' A 0),Di 0 (at' A 0))else(0,[]):=rfl;have p0:=Qu (k:=0) (b:=at' A 0);have p1:=Qu (k:=1) (b:=at' A 1);have n0:=OL (k:=0) (b:=at' A 0);have n1:=OL (k:=1) (b:=at' A 1);unfold Gc Dj;rw[h2,h1,he];generalize C2 0 (at' A 0)=g0 at *;generalize C2 1 (at' A 1)=g1 at *;generalize Di 0 (at' A 0)=l0 at *;generalize Di 1 (at' A 1)=l1 at *
 by_cases z0:g0=0
 .subst z0
  by_cases z1:g1=0
  .subst z1;exact⟨rfl,rfl,rfl⟩
  .have hp:0<g1:=by omega
   simp[z1,hp]
 .have hp0:0<g0:=by omega
  by_cases z1:g1=0
  .subst z1;simp[z0,hp0]
  .have hne:g0≠g1:=by have:=p0 z0;have:=p1 z1;omega
   simp only[if_pos hp0,qag z0,Bool.false_and,cond_false]
   by_cases hlt:g0<g1
   .simp only[if_pos hlt,qag (show ¬g1<g0 by omega),cond_false,if_neg z1];exact⟨trivial,rfl,rfl⟩
   .simp only[if_neg hlt,qai (show g1<g0 by omega),cond_true,if_neg z0];exact⟨trivial,rfl,rfl⟩
theorem Rd.rootX{w w':World}{a a2:Option Addr}{l:Byt}{b t n c:Nat}{g:Int}(R:Rd w a 1 B8 l)(hb:w.heap[b]?=some (Bl t [.int .u64 g,.slice a2 n c]))(he:Ext [b] w w'):Rd w' a 1 B8 l:=by
 cases l with
 |nil=>exact Rd.nil
 |cons x l =>
  refine R.ext he fun h=>?_;have h1:=R.cell 0 x rfl 0 (bv x) rfl (by decide);rw[qab.1 h,Au hb]at h1;have h2:=qaf h1;simp[bv]at h2
theorem OM{w:World}{bd:Nat}{A:Dev}{F:Nat->Prop}{mx:Nat}(hfew:Few A mx)(DA:DevAt w bd A F)(hmx:mx<1000000000000:=by decide):
  Ret prog 32 #[ptr bd] w fun v w'=>∃a c,v=.tuple #[.int .u64 (Gc A:Int),.slice a (Dj A).length c,.int .i64 (DT A)]/\Rd w' a 1 B8 (Dj A)/\(Dj A).length<=c/\(Dj A=[]\/w.heap.size<=(adr a).block)/\Ext [] w w':=by
 obtain⟨w0,rfl⟩:=qD w;obtain⟨bs,bm,hhd⟩:=DA.hd;have H:=Ctx.start w0 [];refine Ax (fn:=f32) func32 U [.pointer (some ⟨bd,0,none⟩)] U ?_;refine Ad (Ac U (Ai U (Ac U (qA (Aq (AB (Ad (Ao U (BC I0 U ?_)))))))));refine Am U (qA (Br U (Ad (Ao U (Ah qB (Qp hhd) U ?_)))));rintro v w ⟨rfl,rfl⟩;refine Cc U (Am U (qA (Ar _ U ?_ ?_)))
 .intro h1;replace h1:=Cs h1;have ho:A.on=false:=by simpa using h1
  have he:DT A=8:=by rw[DT,ho];rfl
  refine Ad (Ac U (Ai U (Ac U (qA (Aw (AK (An (Ci (v1:=(.int _ _)) (v2:=(.slice _ _ _)) (v3:=(.int _ _)) U U U U U ?_))))))));exact⟨none,0,by rw[Gc,Dj,he];rfl,by rw[Dj,he];exact Rd.nil,by rw[Dj,he];exact qae _,.inl (by rw[Dj,he];rfl),H.ext⟩
 .intro h1;replace h1:=Cu h1;have ho:A.on=true:=by simpa using h1
  refine Ad (Ao U (Ah qB (Ga hhd) U ?_));rintro v w ⟨rfl,rfl⟩;refine Bp U U (Am U (qA (Ar _ U ?_ ?_)))
  .intro h2;replace h2:=AV h2;have he:DT A=1:=by rw[DT,ho,qai (show A.B.length<2 by omega)];rfl
   refine Ad (Ac U (Ai U (Ac U (qA (Aw (AK (An (Ci (v1:=(.int _ _)) (v2:=(.slice _ _ _)) (v3:=(.int _ _)) U U U U U ?_))))))));exact⟨none,0,by rw[Gc,Dj,he];rfl,by rw[Dj,he];exact Rd.nil,by rw[Dj,he];exact qae _,.inl (by rw[Dj,he];rfl),H.ext⟩
  .intro h2;replace h2:=AW h2;refine Ap (AH (Aa (Ad (Bf Jj H ?_))));rintro b5 w - H;refine qA (Aq (Ad (Ae U (qA (AB ?_)))));obtain⟨hE2,hG2,hL2⟩:=Yc ho;refine BE 8796090926044 (α:=Nat × Option Addr × Nat) (fun x=>[(21,.int .i64 x.1)]) (fun x w'=>x.1<=2/\Ctx w0 [] w' [(b5,Bl 117 [.int .u64 ((Ge A x.1).1:Int),.slice x.2.1 (Ge A x.1).2.length x.2.2])]/\Rd w' x.2.1 1 B8 (Ge A x.1).2/\(Ge A x.1).2.length<=x.2.2/\((Ge A x.1).2=[]\/w0.heap.size<=(adr x.2.1).block)) (fun x=>2 - x.1) (0,none,0) U ?_ ?_ ?_
   .exact⟨rfl,trivial⟩
   .exact⟨qal _,H,Rd.nil,qae _,.inl rfl⟩
   .rintro⟨i,a,c⟩ j w ⟨hi,H,R,hcc,hnw⟩;dsimp only at hi H R hcc hnw;dsimp only;refine Ad (Bp U U (qA (Aq (Ar _ U ?_ ?_))))
    .intro h3;replace h3:=AV h3
     have hrE:F6 A (i:Int)=0:=by
      unfold F6 Dev.has;rw[ho,qai (show(0:Int)<=i by omega),qai (show(i:Int)<A.B.length by omega)];rfl
     have hrB:Fb A (i:Int)=at' A i:=by
      unfold Fb at';rw[hrE];rfl
     have hlen:(at' A i).length=512:=Io DA.wf (Ll);have hb1:Ge A (i+1)=if(Ge A i).1<C2 i (at' A i)then(C2 i (at' A i),Di i (at' A i))else Ge A i:=rfl;refine Ap (Aa (Aq (AB (Ad (Ae U (Ac U (qA (Ad (Ao U (Ae U ?_))))))))));refine Ah qB (OG (i:Int) hfew (DA.keep0 H.ext)) U ?_;rintro v w ⟨s27,rfl,F27⟩;rw[hrB]at F27;obtain⟨a27,c27,rfl,R27,hc27⟩:=Fresh.rdB F27;replace H:=H.call F27.ext;replace R:=R.ext0 F27.ext;rw[hrE,hlen];refine AL U (Ag U U (Ag U U (Ai U (Ac U (qA (Aq (Ad (Ae U (AN U U ?_)))))))));refine qA (Br U (Ap (Aa (Ad (Ae U (Aj U (Ah qB (Aej (i:Int) a27 c27 512 (at' A i) _ R27 hlen) U ?_)))))));have hsz0:=H.size;rintro v w ⟨a35,c35,rfl,R35,hc35,hnw35,hx35⟩;replace H:=H.call hx35;replace R:=R.ext0 hx35;have H0:=H;have hb5:=H.get at0
     have hn5:w0.heap.size<=b5:=(H.own _ (qad ..)).elim (fun h=>by cases h) id;replace H:=Ctx.start1 (H.get at0);refine Bf Jj H ?_;rintro b9 w - H;refine Bc FD U U U (by simp[AX]) H at0 U ?_;rintro w H;refine qA (Ad (Af GQ U (AG FT U H at0 U (Af GQ U (AG FT U H at1 U (BP U U (qA (Ar _ U ?_ ?_))))))))
     .intro h4;replace h4:=AV h4;rw[if_pos (by omega)]at hb1;refine A5 (BH Ml FD U H at0 U (Bc FD U U U (by simp[AX]) H at1 U ?_));rintro w H;refine Ab (AH (Aa (A5 (A8 U U ?_))));refine Ae U (qA ?_);have hx9:Ext [] w0 w:=H0.ext.then H.ext fun x h => .inr (by rw[qab.1 h];exact hn5);replace H0:=((Ctx.start w0 []).call hx9).add (H.get at1) (.inr hn5) (by simp);exact⟨(i+1,a35,c35),rfl,⟨rfl,trivial⟩,⟨by dsimp only;omega,by dsimp only;rw[hb1];exact H0,by dsimp only;rw[hb1];exact Rd.rootX R35 hb5 H.ext,by dsimp only;rw[hb1];exact hc35,by dsimp only;rw[hb1];exact hnw35.imp id fun h=>by omega⟩,by dsimp only;omega⟩
     .intro h4;replace h4:=AW h4;rw[if_neg (by omega)]at hb1;refine Ap (AH (Aa (A5 (A8 U U ?_))));refine Ae U (qA ?_);have hx9:Ext [] w0 w:=H0.ext.then H.ext fun x h => .inr (by rw[qab.1 h];exact hn5);replace H0:=((Ctx.start w0 []).call hx9).add (H.get at1) (.inr hn5) (by simp);exact⟨(i+1,a,c),rfl,⟨rfl,trivial⟩,⟨by dsimp only;omega,by dsimp only;rw[hb1];exact H0,by dsimp only;rw[hb1];exact Rd.rootX R hb5 H.ext,by dsimp only;rw[hb1];exact hcc,by dsimp only;rw[hb1];exact hnw⟩,by dsimp only;omega⟩
    .intro h3;replace h3:=AW h3;have hi2:i=2:=by omega
     subst hi2;refine B9 (A6 (A6 (Bd (Aa (Aq (Ad (Af GQ U (AG FT U H at0 U (B6 U U (qA (Ar _ U ?_ ?_)))))))))))
     .intro h4;replace h4:=AV h4;rw[if_pos (by omega)]at hE2;refine Ad (Ac U (Ai U (Ac U (qA (Aw (An (Ci (v1:=(.int _ _)) (v2:=(.slice _ _ _)) (v3:=(.int _ _)) U U U U U ?_)))))));exact⟨none,0,by rw[Gc,Dj,hE2];rfl,by rw[Dj,hE2];exact Rd.nil,by rw[Dj,hE2];exact qae _,.inl (by rw[Dj,hE2];rfl),H.ext⟩
     .intro h4;replace h4:=AW h4;rw[if_neg (by omega)]at hE2;refine Ap (Aa (IV (fun x=>x=_) mixed U ?_));refine C4 GQ U (Wh U FT U (by rintro _ rfl;exact H.drew) at0 U ?_);refine C4 Aae U (Wh U BF U (by rintro _ rfl;exact H.drew) at0 U ?_);refine EW U (PW U U (EW U (Kf ?_)));rintro _ rfl;replace H:=H.drew;refine Aw (Ci (v1:=(.int _ _)) (v2:=(.slice _ _ _)) (v3:=(.int _ _)) U U U U U ?_);exact⟨a,c,by rw[hE2,hG2,hL2],by rw[hL2];exact R.ext0 (Ext.drew _ _),by rw[hL2];exact hcc,by rw[hL2];exact hnw,H.ext⟩
theorem Aem{w:World}{bd:Nat}{A:Dev}{F:Nat->Prop}{mx:Nat}(hfew:Few A mx)(hmx:mx<1000000000000)(DA:DevAt w bd A F) :
  Ret prog 32 #[ptr bd] w fun v w'=>∃a c,v=.tuple #[.int .u64 (Gc A:Int),.slice a (Dj A).length c,.int .i64 (DT A)]/\Rd w' a 1 B8 (Dj A)/\(Dj A=[]\/w.heap.size<=(adr a).block)/\Ext [] w w' :=
 (OM hfew (hmx:=hmx) DA).mono fun _ _ ⟨a,c,h1,h2,_,h3⟩=>⟨a,c,h1,h2,h3⟩
theorem Abb{w0 w:World}{bd:Nat}{A:Dev}{F:Nat->Prop}(O:Own w0 w bd A F)(gen:Nat)(a:Option Addr)(c n:Nat)(body:Byt)(R:Rd w a 1 B8 body)(hn:body.length=n)(hm:n<=140737488351231){mx:Nat}(hfew:Few A mx)(hgen:gen<18446744073709551616:=by omega)(hmx:mx<1000000000000:=by decide):
  Ret prog 39 #[ptr bd,.int .u64 (gen:Int),.slice a n c] w fun v w'=>v=.int .i64 (Jp A gen body)/\∃F',Own w0 w' bd (DI A gen body) F'/\Grown F F' w w' :=
 (Ael gen hgen a c n body R hn hm (fun x h=>(O.own x h).2) hfew hmx O.dev).mono fun _ _ ⟨hv,hd,ht⟩=>⟨hv,_,O.grow hd ht⟩
theorem TK{B:List Byt}{left:Int}{g0 g1:Nat}{l0 l1:Byt}(hl:2<=B.length)(h0:C2 0 (B.getD 0 zeros)=g0)(h1:C2 1 (B.getD 1 zeros)=g1)(hl0:g1<g0->Di 0 (B.getD 0 zeros)=l0)(hl1:g0<=g1->0<g1->Di 1 (B.getD 1 zeros)=l1) :
  DT (calm B left)=(if g0=0/\g1=0 then 4 else 0)/\Gc (calm B left)=(if g1<g0 then g0 else g1)/\Dj (calm B left)=(if g1<g0 then l0 else if g1=0 then[]else l1):=by
 have he:DT (calm B left)=(if g0=0/\g1=0 then 4 else 0):=by
  rw[Yb hl,h0,h1]
  by_cases z0:g0=0 <;> by_cases z1:g1=0 <;> simp[z0,z1]
 refine⟨he,?_,?_⟩
 .rw[Gc,he,JV,JV,h0,h1]
  by_cases hlt:g1<g0
  .simp[hlt,show ¬g0=0 by omega]
  .by_cases z1:g1=0
   .have:g0=0:=by omega
    subst z1;subst this;rfl
   .simp[hlt,z1]
 .rw[Dj,he,JV,JV,h0,h1]
  by_cases hlt:g1<g0
  .simpa[hlt,show ¬g0=0 by omega]using hl0 hlt
  .by_cases z1:g1=0
   .have:g0=0:=by omega
    subst z1;subst this;rfl
   .simpa[hlt,z1]using hl1 (by omega) (by omega)
theorem Aen{P:Program}{r:Option Nat}{ops rest:List Oper}{Q:Exit->Env->World->Prop}{e:Env}{w:World}{dst:Option Tmp}{ty:TypeId}{pos:String}{af:Array Edge}{g:Option (Nat × Bool)}{t t2:TypeId}{x y:Operand}{a b:Int}(hg:AC ⟨dst,.binOp .quo t x y t2,ty,pos,af,g⟩ ops e=true)(hx:ev e x=.int .i64 a)(hy:ev e y=.int .i64 b)(hr : -9223372036854775808<=a.tdiv b/\a.tdiv b<=9223372036854775807)(h:Ay P r ops Q rest (put e dst (.int .i64 (a.tdiv b))) w)(hb:0<b:=by decide):Ay P r ops Q (⟨dst,.binOp .quo t x y t2,ty,pos,af,g⟩::rest) e w :=
 Ba hg rfl (BG hx hy (v := .int .i64 (a.tdiv b)) (by simp[binOp,Op.intDiv,show ¬b=0 from by omega,(DU (show(-9223372036854775808:Int)<=a.tdiv b from hr.1) (show a.tdiv b<=(9223372036854775807:Int)from hr.2):IntKind.i64.wrap (a.tdiv b)=a.tdiv b)])) h
def Lq(n:Int):Int:=max 0 (n - 362) / 2
def DJ(n:Int):Int:=if Lq n<40 then 0 else(4*Lq n / 5 - 1)*251
theorem TL{n:Int}(h:0<=n/\n<=100000):0<=Lq n/\Lq n<=50000:=by unfold Lq;omega
theorem Aeo(n:Int)(h:0<=n/\n<=100000)(w:World):Ret prog 70 #[.int .i64 n] w fun v w'=>v=.int .i64 (Lq n)/\w=w':=by
 obtain⟨w0,rfl⟩:=qD w;refine Ax (fn:=f70) func70 U [.int .i64 n] U (Ad (Ac U (qA (Ad (Ae U (Bx U U ?_))))));refine Nq U U U (NI U U U (show _<=(9223372036854775807:Int)by omega) ?_);refine Ac U (qA (Aw (AE (v:=(.int _ _)) U U U ?_)));exact⟨rfl,rfl⟩
theorem HR(n:Int)(h:0<=n/\n<=100000)(w:World):Ret prog 24 #[.int .i64 n] w fun v w'=>v=.int .i64 (DJ n)/\w=w':=by
 obtain⟨w0,rfl⟩:=qD w;have hb:=TL h;refine Ax (fn:=f24) func24 U [.int .i64 n] U (Ad (Ac U (qA (Ad (Ae U (Ah qB (Aeo n h _) U ?_))))));rintro v w ⟨rfl,rfl⟩;refine Ac U (qA (Aq (Ad (Ae U (Bp U U (qA (Ar _ U ?_ ?_)))))))
 .intro h1;replace h1:=AV h1;refine Ad (Ac U (qA (Aw (An (AE (v:=(.int _ _)) U U U ?_)))));exact⟨qac (Value.int .i64) (if_pos h1).symm,rfl⟩
 .intro h1;replace h1:=AW h1;refine Ap (Aa (Ad (Ae U (EL U U ?_))));refine NI U U U (show _<=(9223372036854775807:Int)by omega) (Bx U U ?_);refine EL U U (Ac U (qA (Aw (AE (v:=(.int _ _)) U U U ?_))));exact⟨qac (Value.int .i64) (if_neg h1).symm,rfl⟩
theorem Yd(n:Int)(h:0<=n/\n<=100000)(w:World):Ret prog 11 #[.int .i64 n] w fun v w'=>v=.int .i64 (DJ n)/\w=w':=by
 obtain⟨w0,rfl⟩:=qD w;have hb:=TL h
 have ht:(n - 362).tdiv 2=if n<362 then -((362 - n) / 2)else(n - 362) / 2:=by
  split
  .rename_i h1
   rw[show n - 362 = -(362 - n)by omega,Int.neg_tdiv,qev (by omega)]
  .exact qev (by omega)
 have hh:Lq n=if n<362 then 0 else(n - 362) / 2:=by
  unfold Lq
  split <;> omega
 refine Ax (fn:=Tryz.f11) func11 U [.int .i64 n] U (Ad (Ac U (qA (Ad (Ae U (Bx U U ?_))))));refine Aen U U U (by rw[ht];split <;> omega) ?_;rw[ht];refine Ac U (qA (Aq (Ad (B5 (α:=Unit) 8064 (fun _=>[(12,.bool (decide (n<362\/Lq n<40)))]) (fun _ w'=>w0=w') U ?_ ?_))))
 .refine Ae U (Bp U U (A4 U (AU 9 U ?_ ?_)))
  .intro h1;replace h1:=AV h1;refine Ak U (Ak U (AR U (.bool _) U (Ab ?_)));exact⟨rfl,(),rfl,⟨qac Value.bool (by rw[qap];simp_all;try omega),trivial⟩,rfl⟩
  .intro h2;replace h2:=AW h2;refine Ae U (Bp U U (AJ U (.bool _) U (Ab ?_)));exact⟨rfl,(),rfl,⟨qac Value.bool (by rw[qap];simp_all;try omega),trivial⟩,rfl⟩
 rintro - j12 w rfl;refine Ar _ U ?_ ?_
 .intro h1;have h1:=qc0 h1;refine Ad (Ac U (qA (Aw (An (AE (v:=(.int _ _)) U U U ?_)))));refine⟨qac (Value.int .i64) ?_,rfl⟩;unfold DJ;rw[if_pos]
  rcases h1 with h1|h1
  .rw[hh,if_pos h1];decide
  .exact h1
 .intro h1;have h1:=qde h1;have hn:¬n<362:=fun h=>h1 (.inl h);rw[if_neg hn]at hh |-;rw[<-hh];refine Ap (Aa (Ad (Ae U (EL U U ?_))));refine NI U U U (show _<=(9223372036854775807:Int)by omega) (Bx U U ?_);refine EL U U (Ac U (qA (Aw (AE (v:=(.int _ _)) U U U ?_))));exact⟨qac (Value.int .i64) (if_neg fun h=>h1 (.inr h)).symm,rfl⟩
def Fs(A:Dev):Int:=if A.on=false then 8 else if DJ A.B.length=0 then 1 else 0
theorem Lt{w:World}{bd:Nat}{A:Dev}{F:Nat->Prop}(D:DevAt w bd A F)(hl:A.B.length<=100000):Ret prog 31 #[ptr bd] w fun v w'=>v=.int .i64 (Fs A)/\w=w':=by
 obtain⟨w0,rfl⟩:=qD w;obtain⟨bs,bm,hhd⟩:=D.hd;refine Ax (fn:=Tryz.f31) func31 U [.pointer (some ⟨bd,0,none⟩)] U ?_;refine Ad (Ac U (qA (Aq (AB (Ad (Ao U (BC I0 U ?_)))))));refine Am U (qA (Br U (Ad (Ao U (Ah qB (Qp hhd) U ?_)))));rintro v w ⟨rfl,rfl⟩;refine Cc U (Am U (qA (Ar _ U ?_ ?_)))
 .intro h1;replace h1:=Cs h1;refine Ad (Ac U (qA (Aw (AK (An (AE (v:=(.int _ _)) U U U ?_))))));exact⟨qac (Value.int .i64) (by unfold Fs;simp_all),rfl⟩
 .intro h2;replace h2:=Cu h2;refine Ad (Ao U (Ah qB (Ga hhd) U ?_));rintro v w ⟨rfl,rfl⟩;refine Ah qB (HR _ (by omega) _) U ?_;rintro v w ⟨rfl,rfl⟩;refine B6 U U (Am U (qA (Ar _ U ?_ ?_)))
  .intro h3;replace h3:=AV h3;refine Ad (Ac U (qA (Aw (AK (An (AE (v:=(.int _ _)) U U U ?_))))));exact⟨qac (Value.int .i64) (by unfold Fs;simp_all),rfl⟩
  .intro h4;replace h4:=AW h4;refine Ap (AH (Aa (Ad (Ac U (qA (Aw (AE (v:=(.int _ _)) U U U ?_)))))));exact⟨qac (Value.int .i64) (by unfold Fs;simp_all),rfl⟩
theorem TN(w:World):Ret prog 31 #[.pointer none] w fun v w'=>v=.int .i64 2/\w=w':=by
 refine Ax (fn:=Tryz.f31) func31 U [.pointer none] U (Ad (Ac U (qA (Aq (AB (Ad (Ao U (BC I0 U ?_))))))));refine Am U (qA (Eg U (Ad (Ac U (qA (Aw (AK (An (AE (v:=(.int _ _)) U U U ?_)))))))));exact⟨rfl,rfl⟩
theorem HS(w:World):Ret prog 42 #[.pointer none] w fun v w'=>v=.int .i64 2/\w=w':=by
 refine Ax (fn:=f42) func42 U [.pointer none] U (Ad (Ac U (qA (Aq (AB (Ad (Ao U (BC W5 U ?_))))))));refine Am U (qA (Eg U (Ad (Ac U (qA (Aw (AK (An (AE (v:=(.int _ _)) U U U ?_)))))))));exact⟨rfl,rfl⟩
theorem Abc(w:World)(v:Value)(hv:∃a n c,v=.slice a n c):Ret prog 26 #[.pointer none,v] w fun v w'=>v=.tuple #[.slice none 0 0,.bool false,.int .i64 2]/\w=w':=by
 obtain⟨a,n,c,rfl⟩:=hv;obtain⟨w0,rfl⟩:=qD w;refine Ax (fn:=f26) func26 U [.pointer none,.slice a n c] U (Ad (Ai U (Am U (Ac U (qA (Aq (Ad (Ao U (Ah qB (HS _) U ?_)))))))));rintro v w ⟨rfl,rfl⟩;refine Ac U (qA (Ad (Ae U (AN U U (qA (Ar _ U ?_ ?_))))))
 .intro h1;replace h1:=Bh h1;refine Ad (Ae U (Ai U (Am U (Ac U (qA (Aw (An (Ci (v1:=(.slice _ _ _)) (v2:=(.bool _)) (v3:=(.int _ _)) U U U U U ?_))))))));exact⟨rfl,rfl⟩
 .intro h1;replace h1:=Bi h1;cases h1
abbrev Ds:List UInt8->List UInt8->Int:=Go.Lib.compareBytes
theorem My:∀a:List UInt8,Ds a a=0
 | []=>rfl
 |x::a=>by
  show(if x<x then _ else if x<x then _ else Ds a a)=0;rw[if_neg (UInt8.lt_irrefl x),if_neg (UInt8.lt_irrefl x)];exact My a
theorem GH(x y:UInt8)(a b:List UInt8):Ds (x::a) (y::b)=if x<y then -1 else if y<x then 1 else Ds a b:=rfl
theorem Ip:∀a b:List UInt8,Ds a b = -1\/Ds a b=0\/Ds a b=1
 | [],[] => .inr (.inl rfl)
 | [],_::_ => .inl rfl
 |_::_,[] => .inr (.inr rfl)
 |x::a,y::b=>by
  rw[GH]
  split
  .exact .inl U
  .split
   .exact .inr (.inr U)
   .exact Ip a b
theorem Nx:∀{a b:List UInt8},Ds a b=0->a=b
 | [],[],_=>rfl
 | [],_::_,h=>by cases h
 |_::_,[],h=>by cases h
 |x::a,y::b,h=>by
  rw[GH]at h
  split at h
  .cases h
  .rename_i h1
   split at h
   .cases h
   .rename_i h2
    rw[Nx h,show x=y from UInt8.le_antisymm (UInt8.not_lt.1 h2) (UInt8.not_lt.1 h1)]
theorem Qv:∀a b:List UInt8,Ds b a = - Ds a b
 | [],[]=>rfl
 | [],_::_=>rfl
 |_::_,[]=>rfl
 |x::a,y::b=>by
  rw[GH,GH]
  by_cases h:x<y
  .rw[if_pos h,if_neg (fun h2=>UInt8.lt_irrefl x (UInt8.lt_trans h h2)),if_pos h];rfl
  .rw[if_neg h]
   by_cases h2:y<x
   .rw[if_pos h2,if_pos h2,if_neg h]
   .rw[if_neg h2,if_neg h2,if_neg h];exact Qv a b
def ltB(a b:List UInt8):Prop:=Ds a b = -1
instance (a b:List UInt8):Decidable (ltB a b):=inferInstanceAs (Decidable (Ds a b = -1))
theorem FG(a:List UInt8):¬ltB a a:=fun h=>by rw[ltB,My]at h;cases h
theorem Fc:∀{a b c:List UInt8},ltB a b->ltB b c->ltB a c
 | [],[],_,h,_=>by cases h
 | [],_::_,[],_,h=>by cases h
 | [],_::_,_::_,_,_=>rfl
 |_::_,[],_,h,_=>by cases h
 |_::_,_::_,[],_,h=>by cases h
 |x::a,y::b,z::c,h1,h2=>by
  unfold ltB at h1 h2 |-;rw[GH]at h1 h2 |-
  by_cases hxy:x<y
  .by_cases hyz:y<z
   .rw[if_pos (UInt8.lt_trans hxy hyz)]
   .rw[if_neg hyz]at h2
    by_cases hzy:z<y
    .rw[if_pos hzy]at h2;cases h2
    .have:y=z:=UInt8.le_antisymm (UInt8.not_lt.1 hzy) (UInt8.not_lt.1 hyz)
     subst this;rw[if_pos hxy]
  .rw[if_neg hxy]at h1
   by_cases hyx:y<x
   .rw[if_pos hyx]at h1;cases h1
   .rw[if_neg hyx]at h1
    have:x=y:=UInt8.le_antisymm (UInt8.not_lt.1 hyx) (UInt8.not_lt.1 hxy)
    subst this
    by_cases hyz:x<z
    .rw[if_pos hyz]
    .rw[if_neg hyz]at h2 |-
     by_cases hzy:z<x
     .rw[if_pos hzy]at h2;cases h2
     .rw[if_neg hzy]at h2 |-;exact Fc h1 h2
theorem Ex{a b:List UInt8}(h:ltB a b):¬ltB b a:=fun h2=>FG a (Fc h h2)
theorem Abd{a b:List UInt8}:Ds a b=1↔ltB b a:=by
 unfold ltB;rw[Qv a b];omega
theorem Lu(a b:List UInt8):ltB a b\/a=b\/ltB b a:=by
 rcases Ip a b with h|h|h
 .exact .inl h
 .exact .inr (.inl (Nx h))
 .exact .inr (.inr (Abd.1 h))
theorem FH{a b:List UInt8}(h:ltB a b):a≠b:=fun e=>FG b (e ▸ h)
theorem Sh{a b:List UInt8}:Ds a b<=0↔¬ltB b a:=by
 rw[<-Abd];rcases Ip a b with h|h|h <;> omega
theorem Lv{a b:List UInt8}:Ds a b<0↔ltB a b:=by
 unfold ltB;rcases Ip a b with h|h|h <;> omega
theorem WE{a b:List UInt8}:0<=Ds a b↔¬ltB a b:=by
 rw[<-Lv];omega
theorem Abe{a b c:List UInt8}(h1:ltB a b)(h2:¬ltB c b):ltB a c:=by
 rcases Lu b c with h|h|h
 .exact Fc h1 h
 .exact h ▸ h1
 .exact absurd h h2
abbrev Pr:=List UInt8 × List UInt8
def Rising(L:List Pr):Prop:=L.Pairwise fun x y=>ltB x.1 y.1
def H8(L:List Pr)(k v:List UInt8):List Pr:=L.filter (fun p=>decide (ltB p.1 k))++(k,v)::L.filter (fun p=>decide (ltB k p.1))
def IG(L:List Pr)(k:List UInt8):List Pr:=L.filter fun p => !decide (p.1=k)
def Fe(L:List Pr)(k:List UInt8):Option (List UInt8):=(L.find? fun p=>decide (p.1=k)).map (·.2)
theorem Dy{α:Type}{f:α->Bool}{l:List α}(h:∀x∈l,f x=true):l.filter f=l:=List.filter_eq_self.2 h
theorem Gf{α:Type}{f:α->Bool}{l:List α}(h:∀x∈l,f x=false):l.filter f=[]:=List.filter_eq_nil_iff.2 fun x hx=>by rw[h x hx];simp
theorem Abf{A L B:List Pr}{k v:List UInt8}(hA:∀p∈A,ltB p.1 k)(hB:∀p∈B,ltB k p.1):H8 (A++(L++B)) k v=A++(H8 L k v++B):=by
 have f1:B.filter (fun p=>decide (ltB p.1 k))=[]:=Gf fun p hp=>qag (Ex (hB p hp));have f2:A.filter (fun p=>decide (ltB k p.1))=[]:=Gf fun p hp=>qag (Ex (hA p hp));have f3:A.filter (fun p=>decide (ltB p.1 k))=A:=Dy fun p hp=>qai (hA p hp);have f4:B.filter (fun p=>decide (ltB k p.1))=B:=Dy fun p hp=>qai (hB p hp);unfold H8;rw[qbj,qbj,qbj,qbj,f1,f2,f3,f4,qa2,qa7,qa1,qa1,qb8]
theorem Abg{A L B:List Pr}{k:List UInt8}(hA:∀p∈A,ltB p.1 k)(hB:∀p∈B,ltB k p.1):IG (A++(L++B)) k=A++(IG L k++B):=by
 have f1:A.filter (fun p => !decide (p.1=k))=A:=Dy fun p hp=>by rw[qag (FH (hA p hp))];rfl
 have f2:B.filter (fun p => !decide (p.1=k))=B:=Dy fun p hp=>by rw[qag (fun e=>FH (hB p hp) e.symm)];rfl
 unfold IG;rw[qbj,qbj,f1,f2]
theorem Abh{A L B:List Pr}{k:List UInt8}(hA:∀p∈A,ltB p.1 k)(hB:∀p∈B,ltB k p.1):Fe (A++(L++B)) k=Fe L k:=by
 have f1:A.find? (fun p=>decide (p.1=k))=none:=qd6.2 fun p hp=>by simpa using FH (hA p hp)
 have f2:B.find? (fun p=>decide (p.1=k))=none:=qd6.2 fun p hp=>by simpa using fun e=>FH (hB p hp) e.symm
 unfold Fe;rw[qd7,qd7,f1,f2,Option.none_or,Option.or_none]
theorem Abi{L:List Pr}{k v:List UInt8}{p:Pr}(h:p∈H8 L k v):p=(k,v)\/p∈L:=by
 unfold H8 at h
 rcases qat.1 h with h|h
 .exact .inr ((qbg.1 h).1)
 .rcases qaa.1 h with h|h
  .exact .inl h
  .exact .inr ((qbg.1 h).1)
theorem Abj{L:List Pr}{k:List UInt8}{p:Pr}(h:p∈IG L k):p∈L:=(qbg.1 h).1
theorem Js{L:List Pr}(h:Rising L)(k v:List UInt8):Rising (H8 L k v):=by
 unfold Rising H8;rw[qch];refine⟨h.sublist qer,?_,fun x hx y hy=>?_⟩
 .rw[qbh];exact⟨fun y hy=>by simpa using(qbg.1 hy).2,h.sublist qer⟩
 .have h1:ltB x.1 k:=by simpa using(qbg.1 hx).2
  rcases qaa.1 hy with rfl|hy
  .exact h1
  .exact Fc h1 (by simpa using(qbg.1 hy).2)
theorem Jt{L:List Pr}(h:Rising L)(k:List UInt8):Rising (IG L k):=h.sublist qer
theorem TO(L:List Pr)(k v:List UInt8)(_:Rising L):(H8 L k v).length<=L.length+1:=by
 unfold H8
 have:∀L:List Pr,(L.filter fun p=>decide (ltB p.1 k)).length+(L.filter fun p=>decide (ltB k p.1)).length<=L.length:=by
  intro L
  induction L with
  |nil=>exact qae _
  |cons p L ih =>
   have ih:=ih;rw[qbo,qbo,qaw]
   by_cases h1:ltB p.1 k
   .rw[qai h1,qag (Ex h1)];simp only[if_true,qc5,if_false,qaw];omega
   .rw[qag h1];simp only[qc5,if_false]
    split
    .rw[qaw];omega
    .omega
 rw[qam,qaw,<-qb9];exact Nat.succ_le_succ (this L)
theorem TP(L:List Pr)(k:List UInt8):(IG L k).length<=L.length:=List.length_filter_le ..
theorem Fd{L:List Pr}(h:Rising L){k v:List UInt8}:Fe L k=some v↔(k,v)∈L:=by
 unfold Fe
 induction L with
 |nil=>simp
 |cons p L ih =>
  have hp:=(qbh.1 h);rw[qcu]
  by_cases e:p.1=k
  .rw[qai e];simp only[qbd,qba,qaa];constructor
   .rintro rfl;exact .inl (by rw[<-e])
   .rintro(h1|h1)
    .rw[<-h1]
    .exact absurd (e:p.1=k) (FH (hp.1 _ h1))
  .rw[qag e];simp only[qaa];rw[ih hp.2];exact⟨.inr,fun h1=>h1.elim (fun h1=>absurd (by rw[<-h1]) e) id⟩
theorem Ye{L:List Pr}{k:List UInt8}(h:Fe L k=none):IG L k=L:=by
 refine Dy fun p hp=>?_;unfold Fe at h;rw[Option.map_eq_none_iff,qd6]at h
 simpa using h p hp
theorem Rising.append{A B:List Pr}:Rising (A++B)↔Rising A/\Rising B/\∀x∈A,∀y∈B,ltB x.1 y.1:=qch
structure It where
 key:List UInt8
 val:List UInt8
 page:Nat
def Cn(inner:Bool)(x:It):Nat:=bif inner then 6+x.key.length else 4+x.key.length+x.val.length
def AQ(inner:Bool)(l:List It):Nat:=(l.map (Cn inner)).sum
def DY(inner:Bool)(x:It):List UInt8:=bif inner then AZ x.page 4++(AZ x.key.length 2++x.key)else AZ x.key.length 2++x.key++(AZ x.val.length 2++x.val)
def Gg(inner:Bool)(l:List It):List UInt8:=AZ l.length 2++l.flatMap (DY inner)
def Gh(inner:Bool)(l:List It):UInt8:=if inner=true/\l≠[]then 3 else 2
theorem Qw(inner:Bool)(x:It):(DY inner x).length=Cn inner x:=by
 cases inner <;> simp[DY,Cn,AM] <;> omega
theorem flat_len(inner:Bool)(l:List It):(l.flatMap (DY inner)).length=AQ inner l:=by
 induction l with
 |nil=>rfl
 |cons x l ih=>rw[qcc,qam,Qw,ih];rfl
theorem JW(inner:Bool)(l:List It):(Gg inner l).length=2+AQ inner l:=by rw[Gg,qam,AM,flat_len]
theorem Bs(inner:Bool)(a b:List It):AQ inner (a++b)=AQ inner a+AQ inner b:=by simp[AQ]
theorem Cr(inner:Bool)(x:It)(b:List It):AQ inner (x::b)=Cn inner x+AQ inner b:=by simp[AQ]
def tbO(b:List UInt8)(at':Nat):Option (List UInt8 × Nat) :=
 if Cz b at' 2=0 then(if at'+2+numN ((b.drop at').take 2)<=b.length then some ((b.drop (at'+2)).take (numN ((b.drop at').take 2)),at'+2+numN ((b.drop at').take 2))else none)else none
def Kx(inner:Bool)(b:List UInt8)(at':Nat):Option (It × Nat) :=
 if inner=true then
  (if Cz b at' 4=0 then(match tbO b (at'+4)with
   |some (k,n)=>some (⟨k,[],numN ((b.drop at').take 4)⟩,n)
   |none=>none)else none)
 else match tbO b at' with
  |some (k,n)=>(match tbO b n with
   |some (v,m)=>some (⟨k,v,0⟩,m)
   |none=>none)
  |none=>none
def Ed(inner:Bool)(b:List UInt8):Nat->Nat->Option (List It × Nat)
 |0,at'=>some ([],at')
 |n+1,at'=>match Kx inner b at' with
  |none=>none
  |some (x,m)=>match Ed inner b n m with
   |none=>none
   |some (l,e)=>some (x::l,e)
def TQ(inner:Bool)(b:List UInt8):Option (List It × Nat)->Option (Bool × List It)
 |some r=>if r.2=b.length/\r.1≠[]then some (inner,r.1)else none
 |none=>none
def DK(b:List UInt8):Option (Bool × List It) :=
 if DX b=0/\Cz (Cg b) 0 2=0/\((Fa b).toNat=2\/(Fa b).toNat=3)then
  TQ (decide ((Fa b).toNat=3)) (Cg b) (Ed (decide ((Fa b).toNat=3)) (Cg b) (numN ((Cg b).take 2)) 2)
 else none
theorem WF{b:List UInt8}{at':Nat}{k:Nat}(hk:FX k=true:=by decide):Cz b (at':Int) (k:Int)=0↔at'+k<=b.length:=by
 unfold Cz;rw[hk]
 by_cases h1:at'<=b.length
 .rw[qai (show(0:Int)<=(at':Int)by omega),qai (show(at':Int)<=(b.length:Int)by omega)]
  by_cases h2:at'+k<=b.length
  .rw[qai (show(k:Int)<=(b.length:Int) - (at':Int)by omega)];simp[h2]
  .rw[qag (show ¬(k:Int)<=(b.length:Int) - (at':Int)by omega)];simp[h2]
 .rw[qag (show ¬(at':Int)<=(b.length:Int)by omega)];simp;omega
theorem WG{b:List UInt8}{at':Nat}:Cz b (at':Int) 2=0↔at'+2<=b.length:=WF (k:=2)
theorem Aep{b:List UInt8}{at':Nat}:Cz b (at':Int) 4=0↔at'+4<=b.length:=WF (k:=4)
theorem ON{α:Type}{a b:List α}{n:Nat}(h:a.length=n):(a++b).drop n=b:=by subst h;simp
theorem Lw{α:Type}{a b:List α}{n:Nat}(h:a.length=n):(a++b).take n=a:=by subst h;simp
theorem Lz{A s B:List UInt8}{at':Nat}(ha:A.length=at')(hs:s.length<65536):tbO (A++(AZ s.length 2++(s++B))) at'=some (s,at'+2+s.length):=by
 have e1:(A++(AZ s.length 2++(s++B))).drop at'=AZ s.length 2++(s++B):=ON ha;have e2:(AZ s.length 2++(s++B)).take 2=AZ s.length 2:=Lw (AM ..);have e3:numN (AZ s.length 2)=s.length:=by rw[Ea];exact qa6 (by omega)
 have e4:(A++(AZ s.length 2++(s++B))).drop (at'+2)=s++B:=by
  rw[<-qa1];exact ON (by rw[qam,AM,ha])
 have e5:(A++(AZ s.length 2++(s++B))).length=at'+2+s.length+B.length:=by simp[AM,ha];omega
 unfold tbO;rw[if_pos (WG.2 (by omega)),e1,e2,e3,if_pos (by omega),e4,Lw rfl]
def OkI(inner:Bool)(x:It):Prop:=x.key.length<65536/\x.val.length<65536/\x.page<4294967296/\(if inner=true then x.val=[]else x.page=0)
theorem Yf{inner:Bool}{x:It}(hx:OkI inner x){A B:List UInt8}{at':Nat}(ha:A.length=at'):Kx inner (A++(DY inner x++B)) at'=some (x,at'+Cn inner x):=by
 obtain⟨hk,hv,hp,hc⟩:=hx;obtain⟨key,val,page⟩:=x
 cases inner with
 |true =>
  simp only[if_true]at hc;subst hc;have e0:A++(DY true ⟨key,[],page⟩++B)=A++(AZ page 4++(AZ key.length 2++(key++B))):=by simp[DY]
  have e1:(A++(AZ page 4++(AZ key.length 2++(key++B)))).drop at'=AZ page 4++(AZ key.length 2++(key++B)):=ON ha;have e2:(AZ page 4++(AZ key.length 2++(key++B))).take 4=AZ page 4:=Lw (AM ..);have e3:numN (AZ page 4)=page:=by rw[Ea];exact qa6 (by omega)
  have e4:tbO (A++(AZ page 4++(AZ key.length 2++(key++B)))) (at'+4)=some (key,at'+4+2+key.length):=by
   rw[<-qa1];exact Lz (by rw[qam,AM,ha]) hk
  have e5:(A++(AZ page 4++(AZ key.length 2++(key++B)))).length=at'+6+key.length+B.length:=by simp[AM,ha];omega
  unfold Kx;rw[e0,if_pos rfl,if_pos (Aep.2 (by omega)),e4];simp only[e1,e2,e3,Cn,cond_true];rw[show at'+4+2+key.length=at'+(6+key.length)by omega]
 |false =>
  simp only[qc5,if_false]at hc;subst hc;have e0:A++(DY false ⟨key,val,0⟩++B)=A++(AZ key.length 2++(key++(AZ val.length 2++(val++B)))):=by simp[DY]
  have e1:=Lz (s:=key) (B:=AZ val.length 2++(val++B)) ha hk
  have e2:tbO (A++(AZ key.length 2++(key++(AZ val.length 2++(val++B))))) (at'+2+key.length)=some (val,at'+2+key.length+2+val.length):=by
   rw[show A++(AZ key.length 2++(key++(AZ val.length 2++(val++B))))=(A++(AZ key.length 2++key))++(AZ val.length 2++(val++B))by simp];exact Lz (by simp[AM,ha];omega) hv
  unfold Kx;rw[e0,if_neg (by simp),e1];simp only[e2,Cn,cond_false];rw[show at'+2+key.length+2+val.length=at'+(4+key.length+val.length)by omega]
theorem L4{inner:Bool}:∀{l:List It} (_:∀x∈l,OkI inner x) {A:List UInt8} {at':Nat} (_:A.length=at'),Ed inner (A++l.flatMap (DY inner)) l.length at'=some (l,at'+AQ inner l)
 | [],_,A,at',_=>rfl
 |x::l,hl,A,at',ha=>by
  have h1:=Yf (hl x (qad ..)) (B:=l.flatMap (DY inner)) ha;have h2:=L4 (l:=l) (fun y hy=>hl y (qah _ hy)) (A:=A++DY inner x) (at':=at'+Cn inner x) (by rw[qam,Qw,ha]);rw[qa1]at h2;rw[qcc,qaw];unfold Ed;rw[h1];simp only[h2,Cr];rw[qb9]
theorem V2{inner:Bool}{l:List It}(hl:∀x∈l,OkI inner x)(hne:l≠[])(ht:AQ inner l<=503):DK (CY (Gh inner l) (Gg inner l))=some (inner,l):=by
 have hbl:=JW inner l;have hk:(Gh inner l).toNat=if inner=true then 3 else 2:=by unfold Gh;cases inner <;> simp[hne] <;> rfl
 have hk0:(Gh inner l).toNat≠0:=by rw[hk];split <;> omega
 have o1:=JU (k:=Gh inner l) (l:=Gg inner l) hk0 (by omega);have o2:=JT (Gh inner l) (Gg inner l);have hb:=HQ (Gh inner l) (l:=Gg inner l) (by omega)
 have hlen:l.length<=AQ inner l:=by
  have:∀l:List It,l.length<=AQ inner l:=by
   intro l
   induction l with
   |nil=>exact qae _
   |cons x l ih =>
    have h1:1<=Cn inner x:=by
     cases inner
     .simp only[Cn,cond_false];omega
     .simp only[Cn,cond_true];omega
    rw[Cr,qaw];omega
  exact this l
 have hd:decide ((Gh inner l).toNat=3)=inner:=by rw[hk];cases inner <;> rfl
 unfold DK;rw[o2,hb];have ht2:(Gg inner l).take 2=AZ l.length 2:=Lw (AM ..);have hn:numN (AZ l.length 2)=l.length:=by rw[Ea];exact qa6 (by omega)
 have hp:=L4 hl (A:=AZ l.length 2) (at':=2) (AM ..);rw[if_pos ⟨o1,(WG (b:=Gg inner l) (at':=0)).2 (by omega),by rw[hk];split <;> simp⟩,ht2,hn,hd];rw[show Gg inner l=AZ l.length 2++l.flatMap (DY inner)from rfl,hp];show(if _ then _ else _)=_;rw[if_pos ⟨by rw[<-JW];rfl,hne⟩]
abbrev Mut:=Nat->Prop
def Old(w:World):Mut:=fun x=>x<w.heap.size
theorem Si{w:World}{α:Type}{a:Option Addr}{s:Nat}{enc:α->List Value}{l:List α}(R:Rd w a s enc l)(he:∀x∈l,(enc x).length=s)(hs:0<s:=by decide):l=[]\/(adr a).block<w.heap.size:=by
 cases l with
 |nil=>exact .inl rfl
 |cons x l =>
  have h1:=he x (qad ..);obtain⟨v,hv⟩:=AY (l:=enc x) (i:=0);exact .inr (World.block_lt_of_cell? w ⟨(adr a).block,_,none⟩ (R.cell 0 x U 0 v hv (by omega)))
theorem Abk(a:Option Addr)(c i s:Nat):(adr (DV a c i s)).block=(adr a).block:=by
 unfold DV;split
 .rfl
 .cases a with
  |none=>rfl
  |some p =>
   obtain⟨b,o,sp⟩:=p;show(adr (some (Addr.add ⟨b,o,sp⟩ (i*s)))).block=b;unfold Addr.add
   by_cases h:i*s=0 <;> simp[h,adr]
section
variable {w w' w0:World}{M M':Mut}{a:Option Addr}{l:Byt}
theorem Rdx.fresh(R:Rd w' a 1 B8 l)(h:l=[]\/w.heap.size<=(adr a).block):Rdx w' (Old w) a l:=⟨R,h.imp id fun h h2=>by unfold Old at h2;omega⟩
theorem Rdx.weak(h:Rdx w M a l)(hM:∀x,M' x->M x):Rdx w M' a l:=⟨h.1,h.2.imp id fun h h2=>h (hM _ h2)⟩
theorem Rdx.past{w1 w2:World}{S:List Nat}(X:Rdx w (Old w1) a l)(he:Ext S w w2)(hS:∀x∈S,x<w1.heap.size):Rdx w2 (Old w1) a l:=by
 obtain⟨R,hn⟩:=X
 rcases hn with rfl|hn
 .exact⟨Rd.nil,.inl rfl⟩
 .exact⟨R.ext he fun h=>hn (hS _ h),.inr hn⟩
theorem Rdx.nil:Rdx w M none []:=⟨Rd.nil,.inl rfl⟩
end
structure Im where
 ka:Option Addr
 kc:Nat
 va:Option Addr
 vc:Nat
 it:It
def Im.enc(m:Im):List Value:=[.slice m.ka m.it.key.length m.kc,.slice m.va m.it.val.length m.vc,.int .i64 (m.it.page:Int)]
theorem Im.oneE(m:Im):∀v∈m.enc,AX v=true:=fun v hv=>by
 simp only[Im.enc,qaa,qaj,or_false]at hv
 rcases hv with rfl|rfl|rfl <;> rfl
structure Im.Ok(w:World)(M:Mut)(m:Im):Prop where
 k:Rdx w M m.ka m.it.key
 v:Rdx w M m.va m.it.val
 kc:m.it.key.length<=m.kc
 vc:m.it.val.length<=m.vc
structure Its(w:World)(M:Mut)(a:Option Addr)(n c:Nat)(L:List It):Prop where
 ex:∃ms:List Im,Rd w a 3 Im.enc ms/\(ms=[]\/¬M (adr a).block)/\ms.map (·.it)=L/\∀m∈ms,m.Ok w M
 num:n=L.length
 le:n<=c
section
variable {w w' w0:World}{M M':Mut}{a:Option Addr}{n c:Nat}{L:List It}{m:Im}
theorem Im.Ok.turn(h:m.Ok w M)(t:Grown M M' w w'):m.Ok w' M':=⟨h.k.turn t,h.v.turn t,h.kc,h.vc⟩
theorem Im.Ok.call(h:m.Ok w M)(hx:Ext [] w w'):m.Ok w' M:=⟨h.k.call hx,h.v.call hx,h.kc,h.vc⟩
theorem Im.Ok.weak(h:m.Ok w M)(hM:∀x,M' x->M x):m.Ok w M':=⟨h.k.weak hM,h.v.weak hM,h.kc,h.vc⟩
theorem Its.nil:Its w M none 0 0 []:=⟨⟨[],Rd.nil,.inl rfl,rfl,fun m h=>by cases h⟩,rfl,qae _⟩
theorem Its.turn(h:Its w M a n c L)(t:Grown M M' w w'):Its w' M' a n c L:=by
 obtain⟨ms,R,hs,hl,hm⟩:=h.ex;refine⟨⟨ms,?_,?_,hl,fun m hx=>(hm m hx).turn t⟩,h.num,h.le⟩
 .rcases hs with rfl|hs
  .exact Rd.nil
  .obtain⟨⟨S,hS,hx⟩,_⟩:=t;exact R.ext hx fun h=>hs (hS _ h)
 .rcases hs with rfl|hs
  .exact .inl U
  .rcases Si R (fun x _=>rfl)with h0|h0
   .exact .inl h0
   .exact .inr fun h5=>(t.2 _ h5).elim hs fun h6=>by omega
theorem Its.call(h:Its w M a n c L)(hx:Ext [] w w'):Its w' M a n c L:=by
 obtain⟨ms,R,hs,hl,hm⟩:=h.ex;exact⟨⟨ms,R.ext0 hx,hs,hl,fun m hm'=>(hm m hm').call hx⟩,h.num,h.le⟩
theorem Its.weak(h:Its w M a n c L)(hM:∀x,M' x->M x):Its w M' a n c L:=by
 obtain⟨ms,R,hs,hl,hm⟩:=h.ex;exact⟨⟨ms,R,hs.imp id fun h h2=>h (hM _ h2),hl,fun m hm'=>(hm m hm').weak hM⟩,h.num,h.le⟩
theorem Its.take(h:Its w M a n c L){k:Nat}(hk:k<=n):Its w M a k c (L.take k):=by
 obtain⟨ms,R,hs,hl,hm⟩:=h.ex;have hn:=h.num;have hc:=h.le;refine⟨⟨ms.take k,R.take k,hs.imp (fun h=>by rw[h,List.take_nil]) id,by rw[List.map_take,hl],fun m hx=>hm m (qbm hx)⟩,?_,by omega⟩;rw[qay];omega
theorem Its.drop(h:Its w M a n c L){k:Nat}(hk:k<=n):Its w M (DV a c k 3) (n - k) (c - k) (L.drop k):=by
 obtain⟨ms,R,hs,hl,hm⟩:=h.ex;have hn:=h.num;have hc:=h.le;have hml:ms.length=n:=by rw[hn,<-hl,qan]
 refine⟨⟨ms.drop k,R.cut k c (by omega),?_,by rw[qd8,hl],fun m hx=>hm m (qcr hx)⟩,?_,by omega⟩
 .rw[Abk];exact hs.imp (fun h=>by rw[h,List.drop_nil]) id
 .rw[qbe];omega
end
theorem Iq{w:World}(a b:Option Addr)(c d n m:Nat)(x y:Byt)(Rx:Rd w a 1 B8 x)(Ry:Rd w b 1 B8 y)(hn:x.length=n)(hm:y.length=m) :
  Ret prog 127 #[.slice a n c,.slice b m d] w fun v w'=>v=.int .i64 (Ds x y)/\w=w':=by
 subst hn hm;refine Ax (fn:=f127) func127 U [.slice a x.length c,.slice b y.length d] U (Ad (Ac U (qA (Ad (Aj U (Aj U (XD (l:=[.slice a x.length c,.slice b y.length d]) (v := .int .i64 (Ds x y)) U (by rw[run_callFunc_extern func154 (by kernel_rfl) (by kernel_rfl) (by kernel_rfl) (e:=Extern.BytealgCompare.compare) (by kernel_rfl),RG Rx Ry];rfl) U ?_)))))));refine Ac U (qA (Aw (AE (v:=(.int _ _)) U U U ?_)));exact⟨rfl,rfl⟩
def BR(L:List It)(key:Byt):Nat:=(L.tail.takeWhile fun x=>decide (Ds x.key key<=0)).length
theorem FP{α:Type}{p:α->Bool}:∀{l:List α} {i:Nat},(∀j x,j<i->l[j]?=some x->p x=true)->i<=l.length->(∀x,l[i]?=some x->p x=false)->(l.takeWhile p).length=i
 | [],i,_,hi,_=>by simp at hi;subst hi;rfl
 |x::l,0,_,_,h=>by rw[qcn,h x rfl];rfl
 |x::l,i+1,h,hi,h2=>by
  rw[qcn,h 0 x (by omega) rfl];simp only[if_true,qaw];rw[FP (l:=l) (i:=i) (fun j y hj hy=>h (j+1) y (by omega) hy) (by simpa using hi) fun y hy=>h2 y hy]
theorem Im.at{ms:List Im}{L:List It}(hl:ms.map (·.it)=L){i:Nat}{x:Im}(h:ms[i]?=some x):L[i]?=some x.it:=by rw[<-hl,qax,h];rfl
theorem TS{w:World}{M:Mut}{a:Option Addr}{n c:Nat}{L:List It}(I:Its w M a n c L)(ka:Option Addr)(kc kn:Nat)(key:Byt)(Rk:Rd w ka 1 B8 key)(hk:key.length=kn)(hm:n<=1000000:=by omega):
  Ret prog 182 #[.slice a n c,.slice ka kn kc] w fun v w'=>v=.int .i64 (BR L key:Int)/\w=w':=by
 subst hk;obtain⟨w0,rfl⟩:=qD w;obtain⟨ms,R,-,hl,hok⟩:=I.ex;have hnum:=I.num;have hml:ms.length=n:=by rw[hnum,<-hl,qan]
 refine Ax (fn:=f182) func182 U [.slice a n c,.slice ka key.length kc] U ?_;refine Ad (Ac U (qA (Ad (Ac U (qA (Aq (AB (BE 16777184 (α:=Nat) (fun i=>[(5,.int .i64 (i:Int))]) (fun i w'=>w0=w'/\(i=0\/i+1<=n)/\∀j x,j<i->L.tail[j]?=some x->Ds x.key key<=0) (fun i=>n - i) 0 U ?_ ?_ ?_))))))))
 .exact⟨rfl,trivial⟩
 .exact⟨rfl,.inl rfl,fun j x h=>absurd h (qcw _)⟩
 .rintro i j w ⟨rfl,hi,hb⟩;refine Aq (Ad (Ae U (A8 U U ?_)));refine Aj U (AP Bu U (Bp U U (A4 U (AU 11 U ?_ ?_))))
  .intro h1;replace h1:=AV h1;obtain⟨x,hx⟩:=AY (l:=ms) (i:=i+1);have hxL:=Im.at hl hx;have hxo:=hok x (qaf hx);have hti:L.tail[i]?=some x.it:=by rw[List.getElem?_tail];exact hxL
   refine Aj U (Ae U (A8 U U ?_));refine Bo R Bu Bn U U (Af El U (Bq BF U (R.fld hx U (j:=0) U) ?_));refine Aj U (Ah qB (Iq x.ka ka x.kc kc _ _ x.it.key key hxo.k.1 Rk U U) U ?_);rintro v w ⟨rfl,rfl⟩;refine Rh U U U (AR U (.bool _) U (qA (Ar _ U ?_ ?_)))
   .intro h2;replace h2:=AV h2;refine Ap (Aa (AB (A5 (Ae U (A8 U U ?_)))));refine Ac U (Ab (AH (Aa ?_)));refine⟨i+1,rfl,⟨rfl,trivial⟩,⟨rfl,.inr (by omega),fun j y hj hy=>?_⟩,by omega⟩
    rcases qbl j i with h3|h3
    .exact hb j y h3 hy
    .obtain rfl:j=i:=by omega
     rw[hti]at hy;cases hy;exact h2
   .intro h2;replace h2:=AW h2;refine B9 (A6 (A6 (Bd (Aa (Ad (Ae U (Ac U (qA (Aw (AE (v:=(.int _ _)) U U U ?_))))))))));refine⟨?_,rfl⟩;rw[BR,FP (i:=i) (fun j y hj hy=>qai (hb j y hj hy)) (by rw[qes];omega) fun y hy=>?_];rw[hti]at hy;cases hy;exact qag (by omega)
  .intro h1;replace h1:=AW h1;refine Ak U (Ak U (Ak U (Ak U (Ak U (Ak U (Ak U (Ak U (Ak U (AJ U (.bool _) U ?_)))))))));refine qA (Br U (B9 (A6 (A6 (Bd (Aa (Ad (Ae U (Ac U (qA (Aw (AE (v:=(.int _ _)) U U U ?_))))))))))));refine⟨?_,rfl⟩;rw[BR,FP (i:=i) (fun j y hj hy=>qai (hb j y hj hy)) (by rw[qes];omega) fun y hy=>?_];have:=(qar.1 hy).1;rw[qes]at this;omega
def bsN(L:List It)(key:Byt)(i j:Nat):Nat :=
 if h:i<j then(if Ds ((L[(i+j) / 2]?.map (·.key)).getD []) key<0 then bsN L key ((i+j) / 2+1) j else bsN L key i ((i+j) / 2))else i
termination_by j - i
def Cd(L:List It)(key:Byt):Nat:=bsN L key 0 L.length
def Ee(L:List It)(key:Byt):Bool:=match L[Cd L key]? with|some x=>decide (Ds x.key key=0)|none=>false
theorem V3{L:List It}{key:Byt}{i j:Nat}(h:i<j):bsN L key i j=if Ds ((L[(i+j) / 2]?.map (·.key)).getD []) key<0 then bsN L key ((i+j) / 2+1) j else bsN L key i ((i+j) / 2):=by
 rw[bsN,dif_pos h]
theorem L6{L:List It}{key:Byt}{i j:Nat}(h:j<=i:=by omega):bsN L key i j=i:=by
 rw[bsN,dif_neg (by omega)]
theorem Qx{w:World}{M:Mut}{x:Im}(hx:x.Ok w M)(ka:Option Addr)(kc kn:Nat)(key:Byt)(Rk:Rd w ka 1 B8 key)(hk:key.length=kn) :
  Ret prog 179 #[.agg x.enc.toArray,.slice ka kn kc] w fun v w'=>v=.int .i64 (Ds x.it.key key)/\Ext [] w w':=by
 subst hk;obtain⟨w0,rfl,H⟩:=qE w;refine Ax (fn:=f179) func179 U [.agg x.enc.toArray,.slice ka key.length kc] U (Ad (BN x.enc (.agg _) U U H ?_));rintro b2 w - H;refine Ac U (qA (Ad (Af El U (AG BF U H at0 U (Aj U (Ah qB (Iq x.ka ka x.kc kc _ _ x.it.key key (hx.k.1.ext0 H.ext) (Rk.ext0 H.ext) U U) U ?_))))));rintro v w ⟨rfl,rfl⟩;refine Ac U (qA (Aw (AE (v:=(.int _ _)) U U U ?_)));exact⟨rfl,H.ext⟩
theorem Yg{w:World}{M:Mut}{a:Option Addr}{n c:Nat}{L:List It}(I:Its w M a n c L)(ka:Option Addr)(kc kn:Nat)(key:Byt)(Rk:Rd w ka 1 B8 key)(hk:key.length=kn)(hm:n<=1000000) :
  Ret prog 178 #[.slice a n c,.slice ka kn kc,.func (.func 179) #[] #[]] w fun v w'=>v=.tuple #[.int .i64 (Cd L key:Int),.bool (Ee L key)]/\Ext [] w w':=by
 subst hk;obtain⟨w0,rfl⟩:=qD w;obtain⟨ms,R,-,hl,hok⟩:=I.ex;have hnum:=I.num;have hml:ms.length=n:=by rw[hnum,<-hl,qan]
 refine Ax (fn:=f178) func178 U [.slice a n c,.slice ka key.length kc,.func (.func 179) #[] #[]] U (Ad (Ac U (Am U (qA (Ad (Aj U (AP Bu U (Ac U (qA (Ad ?_))))))))));refine Ae U (Ac U (Ac U (qA (Aq (AB (BE 34359709184 (α:=Nat × Nat) (fun s=>[(9,.int .i64 (s.1:Int)),(10,.int .i64 (s.2:Int))]) (fun s w'=>Ext [] w0 w'/\s.1<=s.2/\s.2<=n/\bsN L key s.1 s.2=Cd L key) (fun s=>s.2 - s.1) (0,n) U ?_ ?_ ?_))))))
 .exact⟨rfl,rfl,trivial⟩
 .exact⟨.refl _ _,qal _,qae _,by rw[Cd,<-hnum]⟩
 .rintro⟨i,k⟩ j w ⟨hx,hik,hk,hbs⟩;dsimp only at hx hik hk hbs;dsimp only;refine Aq (Ad (Ae U (Ae U (Bp U U (qA (Ar _ U ?_ ?_))))))
  .intro h1;replace h1:=AV h1;obtain⟨h,hh⟩:=qD ((i+k) / 2 ^ 1);have hh2:h=(i+k) / 2:=hh;obtain⟨x,hx5⟩:=AY (l:=ms) (i:=h);have hxL:=Im.at hl hx5;have hxo:=hok x (qaf hx5);rw[V3 (by omega),<-hh2,hxL]at hbs;simp only[qbd,qda]at hbs;refine Ap (Aa (AB (Ad (Ae U (Ae U (A8 U U ?_))))));refine CR U EO Agi (NP (n:=1) U U U ?_);refine DQ U Agi EO (Ac U (qA ?_));rw[<-hh];refine Ad (B4 (.func _ _ _) U ?_);refine Aj U (Ae U (Bo R Bu Bn U U ?_));refine EK _ Dg Bn U U ((R.ext0 hx).row hx5 U) (Aj U (IX U U qB (Qx (hxo.call hx) ka kc _ key (Rk.ext0 hx) U) U ?_));rintro v w2 ⟨rfl,hx30⟩;refine Bp U U (qA (Ar _ U ?_ ?_))
   .intro h2;replace h2:=AV h2;rw[if_pos h2]at hbs;refine A5 (Ae U (A8 U U ?_));refine Ac U (Ab (AH (Aa ?_)));exact⟨(h+1,k),rfl,⟨rfl,rfl,trivial⟩,⟨hx.trans hx30,by dsimp only;omega,hk,hbs⟩,by dsimp only;omega⟩
   .intro h2;replace h2:=AW h2;rw[if_neg (by omega)]at hbs;refine A5 (Ae U (Ac U (Ab (AH (Aa ?_)))));exact⟨(i,h),rfl,⟨rfl,rfl,trivial⟩,⟨hx.trans hx30,by dsimp only;omega,by dsimp only;omega,hbs⟩,by dsimp only;omega⟩
  .intro h1;replace h1:=AW h1;rw[L6]at hbs;refine B9 (A6 (A6 (Bd (Aa (Ad (Ae U (Ae U (Ae U (Bp U U (A4 U (AU 39 U ?_ ?_)))))))))))
   .intro h2;replace h2:=AV h2;obtain⟨x,hx5⟩:=AY (l:=ms) (i:=i);have hxL:=Im.at hl hx5;have hxo:=hok x (qaf hx5);refine B4 (.func _ _ _) U (Aj U (Ae U (Bo R Bu Bn U U ?_)));refine EK _ Dg Bn U U ((R.ext0 hx).row hx5 U) (Aj U (IX U U qB (Qx (hxo.call hx) ka kc _ key (Rk.ext0 hx) U) U ?_));rintro v w2 ⟨rfl,hx46⟩;refine B6 U U (AR U (.bool _) U (Ac U (Am U (qA (Aw (BA (v1:=(.int _ _)) (v2:=(.bool _)) U U U U ?_))))));refine⟨?_,hx.trans hx46⟩;rw[Ee,<-hbs,hxL]
   .intro h2;replace h2:=AW h2;refine Ak U (Ak U (Ak U (Ak U (Ak U (Ak U (Ak U (Ak U (AJ U (.bool _) U (Ac U ?_)))))))));refine Am U (qA (Aw (BA (v1:=(.int _ _)) (v2:=(.bool _)) U U U U ?_)));refine⟨?_,hx⟩;have hnone:L[i]?=none:=qbu (by omega);rw[Ee,<-hbs,hnone]
theorem OO{w:World}{M:Mut}{a:Option Addr}{n c:Nat}{L:List It}(I:Its w M a n c L)(ka:Option Addr)(kc kn:Nat)(key:Byt)(Rk:Rd w ka 1 B8 key)(hk:key.length=kn)(hm:n<=1000000:=by omega):
  Ret prog 146 #[.slice a n c,.slice ka kn kc] w fun v w'=>v=.tuple #[.int .i64 (Cd L key:Int),.bool (Ee L key)]/\Ext [] w w':=by
 subst hk;refine Ax (fn:=f146) func146 U [.slice a n c,.slice ka key.length kc] U (Ad (Ac U (Am U (qA (Ad (Aj U (Aj U (Ah qB (Yg I ka kc _ key Rk U hm) U ?_))))))));rintro v w2 ⟨rfl,hx8⟩;refine Ag U U (Ag U U (Ac U (Am U (qA (Aw (BA (v1:=(.int _ _)) (v2:=(.bool _)) U U U U ?_))))));exact⟨rfl,hx8⟩
theorem TU{w:World}{M:Mut}(inner:Bool)(a:Option Addr)(n c:Nat){x:Im}(hx:x.Ok w M)(hk:x.it.key.length<=1000000:=by omega)(hv:x.it.val.length<=1000000:=by omega):
  Ret prog 156 #[.agg #[.bool inner,.slice a n c],.agg x.enc.toArray] w fun v w'=>v=.int .i64 (Cn inner x.it:Int)/\Ext [] w w':=by
 obtain⟨w0,rfl,H⟩:=qE w;refine Ax (fn:=f156) func156 U [.agg #[.bool inner,.slice a n c],.agg x.enc.toArray] U (Ad (BN [.bool inner,.slice a n c] (.agg _) U U H ?_));rintro b2 w - H;refine BN x.enc (.agg _) U U H ?_;rintro b3 w - H;refine Ac U (qA (Aq (Ad (Af Dh U (AG Gp U H at1 U (qA (Ar _ U ?_ ?_)))))))
 .intro h1;subst h1;refine Ad (Af El U (AG BF U H at0 U (AP AO U (A8 U U ?_))));refine Ac U (qA (Aw (An (AE (v:=(.int _ _)) U U U ?_))));exact⟨rfl,H.ext⟩
 .intro h1;subst h1;refine Ap (Aa (Ad (Af El U (AG BF U H at0 U (AP AO U (A8 U U ?_))))));refine Af Ji U (AG BF U H at0 U (AP AO U (A8 U U ?_)));refine Ac U (qA (Aw (AE (v:=(.int _ _)) U U U ?_)));exact⟨rfl,H.ext⟩
abbrev SB:=Option Addr × Byt × Nat
def Abl(x:SB):List Value:=[.slice x.1 x.2.1.length x.2.2]
def RdS(w:World)(x:SB):Prop:=Rd w x.1 1 B8 x.2.1/\x.2.1.length<=x.2.2
theorem RdS.ext0{w w':World}{x:SB}(h:RdS w x)(hx:Ext [] w w'):RdS w' x:=⟨h.1.ext0 hx,h.2⟩
def CA(b:Byt):UInt8:=bif decide (DX b=0)then Fa b else 0
def Bv(b:Byt):Byt:=bif decide (DX b=0)then Cg b else[]
theorem Aeq{b:Byt}{w w':World}{v:Value}(h:Lk b w v w'):∃a c,v=.tuple #[bv (CA b),.slice a (Bv b).length c,.int .i64 (DX b)]/\Ext [] w w'/\Rd w' a 1 B8 (Bv b)/\(Bv b).length<=c:=by
 rcases h with⟨h,rfl,hx⟩|⟨h,s,rfl,F⟩
 .exact⟨none,0,by rw[CA,Bv,qag h];rfl,hx,by rw[Bv,qag h];exact Rd.nil,by rw[Bv,qag h];exact qae _⟩
 .obtain⟨a,c,rfl,R,hc⟩:=Fresh.rdB F;exact⟨a,c,by rw[CA,Bv,h];rfl,F.ext,by rw[Bv,h];exact R,by rw[Bv,h];exact hc⟩
theorem Mz(b:Byt):(Bv b).length<=505:=by
 unfold Bv;cases decide (DX b=0)
 .exact qal _
 .show(Cg b).length<=505;unfold Cg GU;rw[qay,qay];omega
theorem Abm(k:Nat)(w:World)(hk:k<=100000000000:=by omega):Ret prog 141 #[.slice none 0 0,.int .i64 (k:Int)] w fun v w'=>∃a c full,v=.slice a 0 c/\Ctx w [] w' (ent a 5 full)/\OS a 0 c 1 full []:=by
 obtain⟨w0,rfl,H⟩:=qE w;refine Ax (fn:=f141) func141 U [.slice none 0 0,.int .i64 (k:Int)] U (Ad (Ai U (qA (Aq (Ad (Ae U (Bp U U ?_)))))));rw[qag (show ¬(k:Int)<0 by omega)];refine qA (Br U (Ap (Aa (Aq (Ad (Ae U (Aj U (Ro U AO U (Aj U (AP AO U ?_))))))))));refine Bx U U (Bx U U ?_);rw[show(k:Int) - (((0:Nat):Int) - ((0:Nat):Int))=(k:Int)by omega];refine Ac U (qA (Ad (Ae U (BP U U (qA (Ar _ U ?_ ?_))))))
 .intro h1;replace h1:=AV h1;refine A5 (Aj U (Aj U (Ro U AO U (DP AO C0 U U ?_))));refine Ae U (Tg U AO EO C0 Oe H3 U U U H ?_);rintro b c full w H O hkc;refine Aj U (AP AO U (DP AO C0 U U ?_));refine Ai U (qA (Ad (Aj U (Ai U (qA (Aw (AE (v:=(.slice _ _ _)) U U U ?_)))))));exact⟨some ⟨b,0,none⟩,c,full,rfl,H,O⟩
 .intro h1;replace h1:=AW h1;refine Ap (Aa (Ad (Aj U (Ai U (qA (Aw (AE (v:=(.slice _ _ _)) U U U ?_)))))));exact⟨none,0,[],rfl,H,OS.nil⟩
theorem M1{α β:Type}{l:List α}{i:Nat}{x:α}(f:α->List β)(h:l[i]?=some x):(l.take (i+1)).flatMap f=(l.take i).flatMap f++f x:=by
 rw[Bt h,qcg,qdm]
theorem LA{α:Type}{l:List α}{i:Nat}{x:α}(f:α->Nat)(h:l[i]?=some x):((l.take (i+1)).map f).sum=((l.take i).map f).sum+f x:=by
 rw[Bt h,qa0,List.sum_append];simp
theorem LB{α:Type}(l:List α)(i:Nat)(f:α->Nat):((l.take i).map f).sum<=(l.map f).sum:=by
 have h:(l.map f).sum=((l.take i).map f).sum+((l.drop i).map f).sum:=by rw[<-List.sum_append,<-qa0,qbp]
 omega
theorem LC{α β:Type}(l:List α)(f:α->List β):(l.flatMap f).length=(l.map fun x=>(f x).length).sum:=by
 rw[List.length_flatMap]
theorem V4{w:World}{a:Option Addr}{n c:Nat}(xs:List SB)(R:Rd w a 1 Abl xs)(hx:∀x∈xs,RdS w x)(hn:n=xs.length)(hm:n<=1000000)(hs:(xs.map fun x=>x.2.1.length).sum<=10000000000:=by omega):
  Ret prog 116 #[.slice a n c] w fun v w'=>Fresh w w' 5 1 v ((xs.flatMap fun x=>x.2.1).map bv):=by
 subst hn;obtain⟨w0,rfl,H⟩:=qE w;refine Ax (fn:=f116) func116 U [.slice a xs.length c] U (Ad (Ai U (qA (Ad (Ac U (qA (Aq (Ad (Aj U (AP DR U ?_))))))))));refine Ae U (qA (AB (BE 8386600 (α:=Nat) (fun i=>[(11,.int .i64 (i:Int)),(3,.int .i64 ((((xs.take i).map fun x=>x.2.1.length).sum:Nat):Int))]) (fun i w'=>w0=w'/\i<=xs.length) (fun i=>xs.length - i) 0 U ?_ ?_ ?_)))
 .exact⟨rfl,rfl,trivial⟩
 .exact⟨rfl,qal _⟩
 .rintro i j w ⟨rfl,hi⟩;refine Ad (Bp U U (qA (Aq (Ar _ U ?_ ?_))))
  .intro h1;replace h1:=AV h1;obtain⟨x,hx1⟩:=AY (l:=xs) (i:=i);have hsn:=LA (fun x:SB=>x.2.1.length) hx1;have hst:=LB xs (i+1) (fun x:SB=>x.2.1.length);refine Ap (Aa (Aq (AB (Ad (Bo R DR Ez U U (hn:=by rfl) ?_)))));refine Bq BF U (R.fld hx1 U (j:=0) U) (Ai U (qA (Ad (Ae U (Aj U (AP AO U (A8 U U ?_)))))));refine Ac U (qA (Ad (Ae U (Bp U U ?_))));rw[qag (show ¬(_:Int)<0 by omega)];refine qA (Br U (Ap (AH (Aa (A5 (A8 U U ?_))))));refine Ae U (qA ?_);exact⟨i+1,rfl,⟨rfl,qac (Value.int .i64) (by rw[hsn];rfl),trivial⟩,⟨rfl,by omega⟩,by omega⟩
  .intro h1;replace h1:=AW h1;have hii:i=xs.length:=by omega
   subst hii;rw[qbf];refine B9 (A6 (A6 (Bd (Aa (Ad (Ae U (Ah qB (Abm _ _) U ?_)))))));rintro v w ⟨a24,c24,full24,rfl,H,O⟩;refine Ai U (qA (Aq (Ad (Aj U (AP DR U (Ae U (qA (AB (BE 34225520960 (α:=Nat × Option Addr × Nat × List Value) (fun s=>[(27,.int .i64 (s.1:Int)),(6,.slice s.2.1 ((xs.take s.1).flatMap fun x=>x.2.1).length s.2.2.1)]) (fun s w'=>s.1<=xs.length/\Ctx w0 [] w' (ent s.2.1 5 s.2.2.2)/\OS s.2.1 ((xs.take s.1).flatMap fun x=>x.2.1).length s.2.2.1 1 s.2.2.2 (((xs.take s.1).flatMap fun x=>x.2.1).map bv)) (fun s=>xs.length - s.1) (0,a24,c24,full24) U ?_ ?_ ?_)))))))))
   .exact⟨rfl,rfl,trivial⟩
   .exact⟨qal _,H,O⟩
   .rintro⟨i,a6,c6,full6⟩ j w ⟨hi,H,O⟩;dsimp only at hi H O;dsimp only;refine Ad (Bp U U (qA (Aq (Ar _ U ?_ ?_))))
    .intro h2;replace h2:=AV h2;obtain⟨x,hx1⟩:=AY (l:=xs) (i:=i);have hxs:=hx x (qaf hx1);have hsn:=LA (fun x:SB=>x.2.1.length) hx1;have hst:=LB xs (i+1) (fun x:SB=>x.2.1.length);have hfl:=LC (xs.take i) (fun x:SB=>x.2.1);have hfs:=M1 (fun x:SB=>x.2.1) hx1;refine Ap (Aa (Aq (AB (Ad (Bo R DR Ez U U (hn:=by rfl) ?_)))));refine Bq BF U ((R.ext0 H.ext).fld hx1 U (j:=0) U) (Ai U (qA (A5 (Aj U (Aj U (Eu (L:=[]) U AO AO C0 Oe H3 U (x.2.1.map bv) U U H O (by simp) (GM _) (Rd.appB (hxs.1.ext0 H.ext)) ?_))))));rintro a7 c7 full7 w H O;rw[<-qa0,<-hfs]at O;rw[<-qam,<-hfs]at O;rw[<-qam,<-hfs];refine Ai U (Ab (AH (Aa (A5 (A8 U U ?_)))));refine Ae U (qA ?_)
     exact⟨(i+1,a7,c7,full7),rfl,⟨rfl,rfl,trivial⟩,⟨by dsimp only;omega,H,O⟩,by dsimp only;omega⟩
    .intro h2;replace h2:=AW h2;have hii:i=xs.length:=by omega
     subst hii;rw[qbf]at O;rw[qbf];refine B9 (A6 (A6 (Bd (Aa (Ad (Aj U (Ai U (qA (Aw (AE (v:=(.slice _ _ _)) U U U ?_))))))))));exact Ctx.fresh (L:=[]) H O
theorem Abn(k:Nat)(w:World)(hk:k<=100000000000:=by omega):Ret prog 180 #[.slice none 0 0,.int .i64 (k:Int)] w fun v w'=>∃a c full,v=.slice a 0 c/\Ctx w [] w' (ent a 185 full)/\OS a 0 c 3 full []:=by
 obtain⟨w0,rfl,H⟩:=qE w;refine Ax (fn:=f180) func180 U [.slice none 0 0,.int .i64 (k:Int)] U (Ad (Ai U (qA (Aq (Ad (Ae U (Bp U U ?_)))))));rw[qag (show ¬(k:Int)<0 by omega)];refine qA (Br U (Ap (Aa (Aq (Ad (Ae U (Aj U (Ro U Bu U (Aj U (AP Bu U ?_))))))))));refine Bx U U (Bx U U ?_);rw[show(k:Int) - (((0:Nat):Int) - ((0:Nat):Int))=(k:Int)by omega];refine Ac U (qA (Ad (Ae U (BP U U (qA (Ar _ U ?_ ?_))))))
 .intro h1;replace h1:=AV h1;refine A5 (Aj U (Aj U (Ro U Bu U (DP Bu Bn U U ?_))));refine Ae U (Tg U Bu EO Bn RH Dn U U U H ?_);rintro b c full w H O hkc;refine Aj U (AP Bu U (DP Bu Bn U U ?_));refine Ai U (qA (Ad (Aj U (Ai U (qA (Aw (AE (v:=(.slice _ _ _)) U U U ?_)))))));exact⟨some ⟨b,0,none⟩,c,full,rfl,H,O⟩
 .intro h1;replace h1:=AW h1;refine Ap (Aa (Ad (Aj U (Ai U (qA (Aw (AE (v:=(.slice _ _ _)) U U U ?_)))))));exact⟨none,0,[],rfl,H,OS.nil⟩
abbrev SI:=Option Addr × List It × Nat
def M6(x:SI):List Value:=[.slice x.1 x.2.1.length x.2.2]
theorem Im.one(ms:List Im):∀v∈ms.flatMap Im.enc,AX v=true:=fun v hv=>by
 obtain⟨m,_,hv⟩:=List.mem_flatMap.1 hv;simp only[Im.enc,qaa,qaj,or_false]at hv
 rcases hv with rfl|rfl|rfl <;> rfl
theorem Im.flat_len(ms:List Im):(ms.flatMap Im.enc).length=ms.length*3:=by
 rw[List.length_flatMap]
 induction ms with
 |nil=>rfl
 |cons m ms ih=>rw[qau,qco,ih,qaw];show 3+_=_;omega
theorem FI{w:World}{M:Mut}(hM:∀x,M x->x<w.heap.size){a:Option Addr}{n c:Nat}(xs:List SI)(R:Rd w a 1 M6 xs)(hx:∀x∈xs,Its w M x.1 x.2.1.length x.2.2 x.2.1)(hn:n=xs.length)(hs:(xs.map fun x=>x.2.1.length).sum<=100000000)(hm:n<=1000000:=by omega):
  Ret prog 147 #[.slice a n c] w fun v w'=>∃a' c',v=.slice a' (xs.flatMap fun x=>x.2.1).length c'/\Its w' M a' (xs.flatMap fun x=>x.2.1).length c' (xs.flatMap fun x=>x.2.1)/\Ext [] w w':=by
 subst hn;obtain⟨w0,rfl,H⟩:=qE w;refine Ax (fn:=f147) func147 U [.slice a xs.length c] U (Ad (Ai U (qA (Ad (Ac U (qA (Aq (Ad (Aj U (AP Hx U ?_))))))))));refine Ae U (qA (AB (BE 8386600 (α:=Nat) (fun i=>[(11,.int .i64 (i:Int)),(3,.int .i64 ((((xs.take i).map fun x=>x.2.1.length).sum:Nat):Int))]) (fun i w'=>w0=w'/\i<=xs.length) (fun i=>xs.length - i) 0 U ?_ ?_ ?_)))
 .exact⟨rfl,rfl,trivial⟩
 .exact⟨rfl,qal _⟩
 .rintro i j w ⟨rfl,hi⟩;refine Ad (Bp U U (qA (Aq (Ar _ U ?_ ?_))))
  .intro h1;replace h1:=AV h1;obtain⟨x,hx1⟩:=AY (l:=xs) (i:=i);have hsn:=LA (fun x:SI=>x.2.1.length) hx1;have hst:=LB xs (i+1) (fun x:SI=>x.2.1.length);refine Ap (Aa (Aq (AB (Ad (Bo R Hx Da U U (hn:=by rfl) ?_)))));refine Bq BV U (R.fld hx1 U (j:=0) U) (Ai U (qA (Ad (Ae U (Aj U (AP Bu U (A8 U U ?_)))))));refine Ac U (qA (Ad (Ae U (Bp U U ?_))));rw[qag (show ¬(_:Int)<0 by omega)];refine qA (Br U (Ap (AH (Aa (A5 (A8 U U ?_))))));refine Ae U (qA ?_);exact⟨i+1,rfl,⟨rfl,qac (Value.int .i64) (by rw[hsn];rfl),trivial⟩,⟨rfl,by omega⟩,by omega⟩
  .intro h1;replace h1:=AW h1;have hii:i=xs.length:=by omega
   subst hii;rw[qbf];refine B9 (A6 (A6 (Bd (Aa (Ad (Ae U (Ah qB (Abn _ _) U ?_)))))));rintro v w ⟨a24,c24,full24,rfl,H,O⟩;refine Ai U (qA (Aq (Ad (Aj U (AP Hx U (Ae U (qA (AB (BE 34225520960 (α:=Nat × Option Addr × Nat × List Value × List Im) (fun s=>[(27,.int .i64 (s.1:Int)),(6,.slice s.2.1 s.2.2.2.2.length s.2.2.1)]) (fun s w'=>s.1<=xs.length/\Ctx w0 [] w' (ent s.2.1 185 s.2.2.2.1)/\OS s.2.1 s.2.2.2.2.length s.2.2.1 3 s.2.2.2.1 (s.2.2.2.2.flatMap Im.enc)/\s.2.2.2.2.map (·.it)=(xs.take s.1).flatMap (fun x=>x.2.1)/\∀m∈s.2.2.2.2,m.Ok w0 M) (fun s=>xs.length - s.1) (0,a24,c24,full24,[]) U ?_ ?_ ?_)))))))))
   .exact⟨rfl,rfl,trivial⟩
   .exact⟨qal _,H,O,rfl,fun m hm=>by cases hm⟩
   .rintro⟨i,a6,c6,full6,ms⟩ j w ⟨hi,H,O,hms,hmo⟩;dsimp only at hi H O hms hmo;dsimp only;refine Ad (Bp U U (qA (Aq (Ar _ U ?_ ?_))))
    .intro h2;replace h2:=AV h2;obtain⟨x,hx1⟩:=AY (l:=xs) (i:=i);obtain⟨ns,Rn,-,hnl,hno⟩:=(hx x (qaf hx1)).ex;have hnn:ns.length=x.2.1.length:=by rw[<-hnl,qan]
     have hsn:=LA (fun x:SI=>x.2.1.length) hx1;have hst:=LB xs (i+1) (fun x:SI=>x.2.1.length);have hfl:=LC (xs.take i) (fun x:SI=>x.2.1);have hml:ms.length=((xs.take i).flatMap fun x=>x.2.1).length:=by rw[<-hms,qan]
     have hfs:=M1 (fun x:SI=>x.2.1) hx1;refine Ap (Aa (Aq (AB (Ad (Bo R Hx Da U U (hn:=by rfl) ?_)))));refine Bq BV U ((R.ext0 H.ext).fld hx1 U (j:=0) U) (Ai U (qA (A5 (Aj U (Aj U (Eu (L:=[]) U Bu Bu Bn RH Dn U (ns.flatMap Im.enc) U U H O (by rw[Im.flat_len,hnn]) (Im.one _) ((Rn.ext0 H.ext).app (fun _ _=>rfl) (by decide)) ?_))))));rintro a7 c7 full7 w H O;rw[<-qcg,<-hnn,<-qam]at O;rw[<-hnn,<-qam];refine Ai U (Ab (AH (Aa (A5 (A8 U U ?_)))));refine Ae U (qA ?_);refine⟨(i+1,a7,c7,full7,ms++ns),rfl,⟨rfl,rfl,trivial⟩,⟨by dsimp only;omega,H,O,by dsimp only;rw[qa0,hms,hnl,hfs],fun m hm=>?_⟩,by dsimp only;omega⟩
     rcases qat.1 hm with hm|hm
     .exact hmo m hm
     .exact hno m hm
    .intro h2;replace h2:=AW h2;have hii:i=xs.length:=by omega
     subst hii;rw[qbf]at hms;have hml:ms.length=(xs.flatMap fun x=>x.2.1).length:=by rw[<-hms,qan]
     have Rm:=OS.rd O (fun x hx=>H.blk x hx) (fun _ _=>rfl) (by decide);refine B9 (A6 (A6 (Bd (Aa (Ad (Aj U (Ai U (qA (Aw (AE (v:=(.slice _ _ _)) U U U ?_))))))))));refine⟨a6,c6,by rw[hml],⟨⟨ms,Rm,?_,hms,fun m hm=>(hmo m hm).call H.ext⟩,rfl,by rw[<-hml];exact O.le⟩,H.ext⟩
     have hq:∀q:Addr,a6=some q->w0.heap.size<=q.block:=fun q hq=>by
      subst hq;exact(H.own (q.block,_) (qab.2 U)).elim (fun h=>by cases h) id
     cases ha6:a6 with
     |none=>exact .inl (qa8 (by have h8:=O.le;have h9:=O.none' ha6;omega))
     |some q=>exact .inr fun hqM=>absurd (hM _ hqM) (Nat.not_lt.2 (hq q ha6))
theorem LD{inner:Bool}{L:List It}(h:∀x∈L,x.key.length<=65535/\x.val.length<=65535):AQ inner L<=131076*L.length:=by
 induction L with
 |nil=>exact qal _
 |cons x L ih =>
  have h1:=h x (qad ..);have h2:=ih fun y hy=>h y (qah _ hy)
  have h3:Cn inner x<=131076:=by
   cases inner
   .simp only[Cn,cond_false];omega
   .simp only[Cn,cond_true];omega
  rw[Cr,qaw];omega
theorem OP{inner:Bool}{L:List It}{i:Nat}{x:It}(h:L[i]?=some x):AQ inner (L.take (i+1))=AQ inner (L.take i)+Cn inner x:=by
 rw[Bt h,Bs,Cr];rfl
def NB(inner:Bool)(a:Option Addr)(n c:Nat):List Value:=[.bool inner,.slice a n c]
theorem TV{w:World}{M:Mut}(inner:Bool){a:Option Addr}{n c:Nat}{L:List It}(I:Its w M a n c L)(hm:n<=1000000)(hsz:∀x∈L,x.key.length<=65535/\x.val.length<=65535) :
  Ret prog 155 #[.agg #[.bool inner,.slice a n c]] w fun v w'=>v=.int .i64 (AQ inner L:Int)/\Ext [] w w':=by
 obtain⟨w0,rfl,H⟩:=qE w;obtain⟨ms,R,-,hl,hok⟩:=I.ex;have hnum:=I.num;have hml:ms.length=n:=by rw[hnum,<-hl,qan]
 refine Ax (fn:=f155) func155 U [.agg #[.bool inner,.slice a n c]] U (Ad (BN (NB inner a n c) (.agg _) U U H ?_));rintro b1 w - H;refine Ac U (qA (Aq (Ad (Af B0 U (AG BV U H at0 U (AP Bu U (Ae U (qA (AB ?_)))))))));obtain⟨wb,rfl⟩:=qD w;have hb1:=H.get at0;have hxb:=H.ext;have hnode:∀{z:World},Ext [] wb z->z.heap[b1]?=some (Bl 183 (NB inner a n c)):=fun{z} h=>by rw[h.block b1 (Al hb1) (by simp)];exact hb1
 refine BE 261908 (α:=Nat) (fun i=>[(8,.int .i64 (i:Int)),(2,.int .i64 (AQ inner (L.take i):Int))]) (fun i w'=>i<=n/\Ext [] wb w') (fun i=>n - i) 0 U ?_ ?_ ?_
 .exact⟨rfl,rfl,trivial⟩
 .exact⟨qal _,.refl _ _⟩
 .rintro i j w ⟨hi,hx⟩;have H:=Ctx.start w [];refine Ad (Bp U U (qA (Aq (Ar _ U ?_ ?_))))
  .intro h1;replace h1:=AV h1;obtain⟨x,hx1⟩:=AY (l:=ms) (i:=i);have hxL:=Im.at hl hx1;have hxo:=hok x (qaf hx1);have hxs:=hsz x.it (qaf hxL);have hts:=OP (inner:=inner) hxL;have htl:=LD (inner:=inner) (L:=L.take i) fun y hy=>hsz y (qbm hy);have hlt:=qay (i:=i) (l:=L)
   have hsx:Cn inner x.it<=131076:=by
    cases inner
    .simp only[Cn,cond_false];omega
    .simp only[Cn,cond_true];omega
   refine Ap (Aa (Aq (AB (Ad (Bo R Bu Bn U U ?_)))));refine EK x.enc Dg Bn U U ((R.ext0 (hxb.trans hx)).row hx1 U) (Bf Dn H ?_);rintro b4 w - H;refine Bc Bn U U U (by exact Im.oneE _) H at0 U ?_;rintro w H;refine qA (A5 (Ae U (EK (NB inner a n c) BJ Bm U U (fun j v hv=>by rw[Au (hnode (hx.trans H.ext)),qa4];exact hv) ?_)));refine BH Dg Bn U H at0 U (Ah qB (TU inner a n c (hxo.call ((hxb.trans hx).trans H.ext))) U ?_);rintro v w ⟨rfl,hx15⟩;replace H:=H.call hx15;refine A8 U U (Ac U (Ab (AH (Aa (A5 (A8 U U ?_))))));refine Ae U (qA ?_);exact⟨i+1,rfl,⟨rfl,qac (Value.int .i64) (by rw[hts];rfl),trivial⟩,⟨by omega,hx.trans H.ext⟩,by omega⟩
  .intro h1;replace h1:=AW h1;have hii:i=n:=by omega
   subst hii;rw[hnum,qbf];refine B9 (A6 (A6 (Bd (Aa (Ad (Ae U (Ac U (qA (Aw (AE (v:=(.int _ _)) U U U ?_))))))))));exact⟨rfl,hxb.trans hx⟩
theorem Agm(l:Byt)(n:Nat):Ku l n 2=l++AZ n 2:=by rw[Ku,show FX 2=true by decide];rfl
theorem Ep(a:Option Addr)(c m:Nat)(b:Byt)(sa:Option Addr)(sc sn:Nat)(s:Byt)(w:World)(R:Rd w a 1 B8 b)(hb:b.length=m)(hm:m<=1000000000)(Rs:Rd w sa 1 B8 s)(hs:s.length=sn)(hc:sn<=sc)(hn:sn<=65535:=by omega):
  Ret prog 85 #[.slice a m c,.slice sa sn sc] w fun v w'=>∃x,v=.tuple #[x,.int .i64 0]/\Fresh w w' 5 1 x ((b++(AZ s.length 2++s)).map bv):=by
 subst hb hs;obtain⟨w0,rfl⟩:=qD w;refine Ax (fn:=f85) func85 U [.slice a b.length c,.slice sa s.length sc] U (Ad (Ai U (Ac U (qA (Aq (Ad (Aj U (AP AO U (BP U U ?_)))))))));rw[qag (show ¬(65535:Int)<(s.length:Int)by omega)];refine qA (Br U (Ap (Aa (Ad (Aj U (Aj U (AP AO U (CR U EO Fy ?_))))))));refine Ah qB (EP a c _ b s.length 2 _ R U (hm:=by omega) (by omega)) U ?_;rintro v w F13;rw[Agm]at F13;obtain⟨a13,c13,rfl,R13,hc13⟩:=Fresh.rdB F13;have H:=Ctx.start w [];refine Aj U (BM (L:=[]) [.slice a13 (b++AZ s.length 2).length c13,.slice sa s.length sc] DR Ez Qi H ?_);rintro b15 w2 - H;have hl2:(([(a13,b++AZ s.length 2,c13),(sa,s,sc)]:List SB).map fun x=>x.2.1.length).sum=b.length+2+s.length:=(by simp[AM];try omega)
 refine Ah qB (V4 [(a13,b++AZ s.length 2,c13),(sa,s,sc)] (Rd.of_bl (r:=[]) (H.get at0) U (fun _ _=>rfl)) (fun x hx=>?_) U (by simp)) U ?_
 rotate_left
 rintro v w3 F16;obtain⟨a16,c16,rfl,R16,hc16⟩:=Fresh.rdB F16;refine Ai U (Ac U (qA (Aw (BA (v1:=(.slice _ _ _)) (v2:=(.int _ _)) U U U U ?_))))
 .refine⟨_,rfl,?_⟩;have F:=Fresh.since F16 (F13.ext.trans H.ext)
  simpa using F
 .rcases qaa.1 hx with rfl|hx
  .exact⟨R13.ext0 H.ext,hc13⟩
  .rw[qab.1 hx];exact⟨(Rs.ext0 F13.ext).ext0 H.ext,hc⟩
theorem Qy(b:Byt)(at' k:Nat):∃(g nx:Nat),EB b (at':Int) (k:Int)=.tuple #[.int .u64 (g:Int),.int .i64 (nx:Int),.int .i64 (Cz b (at':Int) (k:Int))]/\g<256 ^ k/\nx<=at'+k/\(Cz b (at':Int) (k:Int)=0->g=numN ((b.drop at').take k)/\nx=at'+k):=by
 by_cases h:Cz b (at':Int) (k:Int)=0
 .refine⟨numN ((b.drop at').take k),at'+k,?_,?_,qae _,fun _=>⟨rfl,rfl⟩⟩
  .rw[EB,h];rfl
  .have h1:=Il ((b.drop at').take k);have h2:((b.drop at').take k).length<=k:=by rw[qay];omega
   exact qas h1 (qcl (by omega) h2)
 .refine⟨0,0,?_,Nat.pow_pos (by omega),by omega,fun h'=>absurd h' h⟩;rw[EB,qag h];rfl
theorem Qz(b:Byt)(at':Nat):∃(g nx:Nat),EB b (at':Int) 2=.tuple #[.int .u64 (g:Int),.int .i64 (nx:Int),.int .i64 (Cz b (at':Int) 2)]/\g<65536/\nx<=at'+2/\(Cz b (at':Int) 2=0->g=numN ((b.drop at').take 2)/\nx=at'+2):=Qy b at' 2
theorem Yh(b:Byt)(at':Nat):∃(g nx:Nat),EB b (at':Int) 4=.tuple #[.int .u64 (g:Int),.int .i64 (nx:Int),.int .i64 (Cz b (at':Int) 4)]/\g<4294967296/\nx<=at'+4/\(Cz b (at':Int) 4=0->g=numN ((b.drop at').take 4)/\nx=at'+4):=Qy b at' 4
theorem Ft(a:Option Addr)(c m:Nat)(b:Byt)(at':Nat)(w:World)(R:Rd w a 1 B8 b)(hb:b.length=m)(hc:m<=c)(hm:m<=1000000000:=by omega)(ha:at'<=1000000000:=by omega):
  Ret prog 101 #[.slice a m c,.int .i64 (at':Int)] w fun v w'=>∃sa s sc nx e,v=.tuple #[.slice sa (List.length s) sc,.int .i64 ((nx:Nat):Int),.int .i64 e]/\Ext [] w w'/\Rdx w' (Old w) sa s/\s.length<=sc/\s.length<=b.length/\nx<=b.length/\(e=0->tbO b at'=some (s,nx))/\(e≠0->tbO b at'=none/\s=[]):=by
 subst hb;obtain⟨w0,rfl⟩:=qD w;obtain⟨g,nx,htv,hg,hnx,h0⟩:=Qz b at';refine Ax (fn:=f101) func101 U [.slice a b.length c,.int .i64 (at':Int)] U (Ad (Ai U (Ac U (Ac U (qA (Ad (Aj U (Ae U (Ah qB (Fq a c _ b (at':Int) 2 _ R U hc) U ?_)))))))));rintro v w ⟨rfl,hx12⟩;rw[htv];refine AL U (Ag U U (Ag U U (Ag U U (Ac U (Ac U (Ac U (qA (Aq (Ad ?_)))))))));refine Ae U (AN U U (qA (Ar _ U ?_ ?_)))
 .intro h1;replace h1:=Bh h1;have hn:tbO b at'=none:=by unfold tbO;rw[if_neg h1]
  refine Ad (Ae U (Ai U (Ac U (Ac U (qA (Aw (An (Ci (v1:=(.slice _ _ _)) (v2:=(.int _ _)) (v3:=(.int _ _)) U U U U U ?_))))))));exact⟨none,[],0,0,_,rfl,hx12,Rdx.nil,qae _,qal _,qal _,fun h=>absurd h h1,fun _=>⟨hn,rfl⟩⟩
 .intro h1;replace h1:=Bi h1;obtain⟨hg2,hnx2⟩:=h0 h1;subst hnx2;have ht:tbO b at'=if at'+2+g<=b.length then some ((b.drop (at'+2)).take g,at'+2+g)else none:=by unfold tbO;rw[if_pos h1,<-hg2]
  refine Ap (Aa (Aq (Ad (Ae U (Ae U (DQ U Fy EO ?_))))));refine A8 U U ?_;rw[show((at'+2:Nat):Int)+(g:Int)=((at'+2+g:Nat):Int)by omega];refine Ac U (qA (Ad (Ae U (Aj U (AP AO U (BP U U (qA (Ar _ U ?_ ?_))))))))
  .intro h2;replace h2:=AV h2;rw[if_neg (by omega)]at ht;refine Ad (Ai U (Ac U (Ac U (qA (Aw (An (Ci (v1:=(.slice _ _ _)) (v2:=(.int _ _)) (v3:=(.int _ _)) U U U U U ?_)))))));exact⟨none,[],0,0,5,rfl,hx12,Rdx.nil,qae _,qal _,qal _,fun h=>absurd h (by decide),fun _=>⟨ht,rfl⟩⟩
  .intro h2;replace h2:=AW h2;rw[if_pos (by omega)]at ht;have R2:Rd w (DV a c (at'+2) 1) 1 B8 ((b.drop (at'+2)).take g):=((R.ext0 hx12).cut (at'+2) c hc).take g;have hl2:((b.drop (at'+2)).take g).length=g:=by rw[qay,qbe];omega
   refine Ap (Aa (Ad (Aj U (Ae U (Ae U (Hw U AO C0 U U U ?_))))));rw[qbi,qbi,show at'+2+g - (at'+2)=g by omega];refine Ah qB (HM _ _ g _ _ R2 hl2) U ?_;rintro v w3 ⟨F31,-⟩;obtain⟨a31,c31,rfl,R31,hc31,hn31⟩:=Fresh.newB F31;refine Ae U (Ai U (Ac U (Ac U (qA (Aw (Ci (v1:=(.slice _ _ _)) (v2:=(.int _ _)) (v3:=(.int _ _)) U U U U U ?_))))));have hsz:=hx12.size;exact⟨a31,_,c31,at'+2+g,0,rfl,hx12.trans F31.ext,⟨R31,hn31.imp id fun h h2=>by unfold Old at h2;omega⟩,hc31,by rw[hl2];omega,by omega,fun _=>ht,fun h=>absurd rfl h⟩
theorem Old.mono{w w':World}{S:List Nat}(hx:Ext S w w'):∀x,Old w x->Old w' x:=fun _ h=>qas h hx.size
theorem Ah2(inner:Bool)(a:Option Addr)(c m:Nat)(b:Byt)(at':Nat)(w:World)(R:Rd w a 1 B8 b)(hb:b.length=m)(hc:m<=c)(hm:m<=100000000:=by omega)(ha:at'<=100000000:=by omega):
  Ret prog 211 #[.bool inner,.slice a m c,.int .i64 (at':Int)] w fun v w'=>∃(x:Im) (nx:Nat) (e:Int),v=.tuple #[.agg x.enc.toArray,.int .i64 (nx:Int),.int .i64 e]/\Ext [] w w'/\x.Ok w' (Old w)/\nx<=b.length/\x.it.key.length<=b.length/\x.it.val.length<=b.length/\x.it.page<4294967296/\(e=0->Kx inner b at'=some (x.it,nx))/\(e≠0->Kx inner b at'=none):=by
 subst hb;obtain⟨w0,rfl,H⟩:=qE w;refine Ax (fn:=f211) func211 U [.bool inner,.slice a b.length c,.int .i64 (at':Int)] U (Ad (Bf Dn H ?_));rintro b6 w - H;refine Ac U (Ac U (qA (Aq (Ad (A4 U (qA (Ar _ U ?_ ?_)))))))
 .intro hi;subst hi;obtain⟨g,nx,htv,hg,hnx,h0⟩:=Yh b at';refine Ad (Aj U (Ae U (Ah qB (Fq a c _ b (at':Int) 4 _ (R.ext0 H.ext) U hc) U ?_)));rintro v w ⟨rfl,hx16⟩;rw[htv];replace H:=H.call hx16;refine AL U (Ag U U (Ag U U (Ag U U (Ac U (Ac U (Ac U (qA (Aq (Ad ?_)))))))));refine Ae U (AN U U (qA (Ar _ U ?_ ?_)))
  .intro h1;replace h1:=Bh h1;refine Ad (BH Dg Bn U H at0 U (Ae U (Bc Bn U U U (by simp[AX]) H at0 U ?_)));rintro w H;refine Ac U (Ac U (qA (Aw (An (An (KV U U U Dg Bn H at0 U (show _=(.int _ _)from rfl) (show _=(.int _ _)from rfl) ?_))))));refine⟨⟨none,0,none,0,⟨[],[],0⟩⟩,0,_,rfl,H.ext,⟨Rdx.nil,Rdx.nil,qae _,qae _⟩,qal _,qal _,qal _,by decide,fun h=>absurd h h1,fun _=>?_⟩;unfold Kx;rw[if_pos rfl,if_neg h1]
  .intro h1;replace h1:=Bi h1;obtain⟨hg2,hnx2⟩:=h0 h1;subst hnx2;refine Ap (Aa (A5 (Ae U (DQ U Fy EO ?_))));refine Ae U (Af Fm U (Bk (.int _ _) H1 U U U H at0 (by decide) ?_));rintro w H;refine Ac U (qA (Ad (Aj U (Ae U (Ah qB (Ft a c _ b (at'+4) _ (R.ext0 H.ext) U hc) U ?_)))));have hxw:=H.ext;have hb6:=H.lt (k:=0) rfl;rintro v w3 ⟨sa,s,sc,ny,e,rfl,hx31,X31,hsc,hsl,hny,he0,he1⟩;have Hold:=H.call hx31;replace H:=Ctx.startL (fun x hx=>Hold.blk x hx) Hold.nd;have hge:=(Hold.own _ (qad ..)).elim (fun h=>by cases h) id;refine AL U (Ag U U (Ag U U (Ag U U (Af El U (Bk (.slice _ _ _) Ez U U U H at0 (by(simp;done)) ?_)))));rintro w H;refine Ac U (Ac U (qA (Aq (Ad (Ae U (B6 U U (A4 U (AU 38 U ?_ ?_))))))))
   .intro h2;replace h2:=AV h2;refine A4 U (Cc U (AR U (.bool _) U (qA (Br U (Ap (Aa (Ad (BH Dg Bn U H at0 U (Ae U (Ae U ?_))))))))));refine Bc Bn U U U (by simp[AX]) H at0 U ?_;rintro w H;refine Ac U (Ac U (qA (Aw (KV U U U Dg Bn H at0 U (show _=(.int _ _)from rfl) (show _=(.int _ _)from rfl) ?_))));have X:=(X31.past H.ext (fun x hx=>by rw[qab.1 hx];exact hb6)).weak (Old.mono hxw);refine⟨⟨sa,sc,none,0,⟨s,[],g⟩⟩,ny,e,rfl,Hold.ext.then H.ext (fun x hx => .inr (by rw[qab.1 hx];exact hge)),⟨X,Rdx.nil,hsc,qae _⟩,hny,hsl,qal _,hg,fun h=>?_,fun h=>absurd h2 h⟩;unfold Kx;rw[if_pos rfl,if_pos h1,he0 h,<-hg2]
   .intro h2;replace h2:=AW h2;refine Ak U (Ak U (AJ U (.bool _) U (qA (Br U (Ap (Aa (Ad (BH Dg Bn U H at0 U (Ae U (Ae U ?_))))))))));refine Bc Bn U U U (by simp[AX]) H at0 U ?_;rintro w H;refine Ac U (Ac U (qA (Aw (KV U U U Dg Bn H at0 U (show _=(.int _ _)from rfl) (show _=(.int _ _)from rfl) ?_))));have X:=(X31.past H.ext (fun x hx=>by rw[qab.1 hx];exact hb6)).weak (Old.mono hxw);refine⟨⟨sa,sc,none,0,⟨s,[],g⟩⟩,ny,e,rfl,Hold.ext.then H.ext (fun x hx => .inr (by rw[qab.1 hx];exact hge)),⟨X,Rdx.nil,hsc,qae _⟩,hny,hsl,qal _,hg,fun h=>absurd h h2,fun _=>?_⟩;unfold Kx;rw[if_pos rfl,if_pos h1,(he1 h2).1]
 .intro hi;subst hi;refine Ap (Aa (Ad (Aj U (Ae U (Ah qB (Ft a c _ b at' _ (R.ext0 H.ext) U hc) U ?_)))));have hxw:=H.ext;have hb6:=H.lt (k:=0) rfl;rintro v w3 ⟨sa,s,sc,ny,e,rfl,hx31,X31,hsc,hsl,hny,he0,he1⟩;have Hold:=H.call hx31;replace H:=Ctx.startL (fun x hx=>Hold.blk x hx) Hold.nd;have hge:=(Hold.own _ (qad ..)).elim (fun h=>by cases h) id;refine AL U (Ag U U (Ag U U (Ag U U (Af El U (Bk (.slice _ _ _) Ez U U U H at0 (by decide) ?_)))));rintro w H;refine Ac U (Ac U (qA (Aq (Ad (Ae U (B6 U U (A4 U (AU 38 U ?_ ?_))))))))
  .intro h2;replace h2:=AV h2;have hx3:=Hold.ext;refine A4 U (Cc U (AR U (.bool _) U (qA (Eg U (A5 (Aj U (Ae U ?_)))))));have hE0:Ext [] w0 _:=Hold.ext.then H.ext (fun x hx => .inr (by rw[qab.1 hx];exact hge));refine Ah qB (Ft a c _ b ny _ (R.ext0 hE0) U hc) U ?_;have hb6b:=H.lt (k:=0) rfl;rintro v w5 ⟨va,t,vc,nz,e2,rfl,hx45,X45,hvc,hvl,hnz,hf0,hf1⟩;have Hold2:=H.call hx45;replace H:=Ctx.startL (fun x hx=>Hold2.blk x hx) Hold2.nd;refine AL U (Ag U U (Ag U U (Ag U U (Af Ji U (Bk (.slice _ _ _) Ez U U U H at0 (by(simp;done)) ?_)))));rintro w H;refine Ac U (Ac U (qA (Ad (BH Dg Bn U H at0 U (Ae U (Ae U (Bc Bn U U U (by simp[AX]) H at0 U ?_)))))));rintro w H;refine Ac U (Ac U (qA (Aw (KV U U U Dg Bn H at0 U (show _=(.int _ _)from rfl) (show _=(.int _ _)from rfl) ?_))))
   have X1:=((X31.past Hold2.ext (fun x hx=>by rw[qab.1 hx];exact hb6)).past H.ext (fun x hx=>by rw[qab.1 hx];exact hb6)).weak (Old.mono hxw);have X2:=(X45.past H.ext (fun x hx=>by rw[qab.1 hx];exact hb6b)).weak (Old.mono hE0);refine⟨⟨sa,sc,va,vc,⟨s,t,0⟩⟩,nz,e2,rfl,(Hold.ext.then Hold2.ext (fun x hx => .inr (by rw[qab.1 hx];exact hge))).then H.ext (fun x hx => .inr (by rw[qab.1 hx];exact hge)),⟨X1,X2,hsc,hvc⟩,hnz,hsl,hvl,(by show 0<4294967296;decide),fun h=>?_,fun h=>?_⟩
   .unfold Kx;rw[if_neg (by simp),he0 h2];simp only[hf0 h]
   .unfold Kx;rw[if_neg (by simp),he0 h2];simp only[(hf1 h).1]
  .intro h2;replace h2:=AW h2;refine Ak U (Ak U (AJ U (.bool _) U (qA (Br U (Ap (Aa (Ad (BH Dg Bn U H at0 U (Ae U (Ae U ?_))))))))));refine Bc Bn U U U (by simp[AX]) H at0 U ?_;rintro w H;refine Ac U (Ac U (qA (Aw (KV U U U Dg Bn H at0 U (show _=(.int _ _)from rfl) (show _=(.int _ _)from rfl) ?_))));have X:=(X31.past H.ext (fun x hx=>by rw[qab.1 hx];exact hb6)).weak (Old.mono hxw);refine⟨⟨sa,sc,none,0,⟨s,[],0⟩⟩,ny,e,rfl,Hold.ext.then H.ext (fun x hx => .inr (by rw[qab.1 hx];exact hge)),⟨X,Rdx.nil,hsc,qae _⟩,hny,hsl,qal _,(by show 0<4294967296;decide),fun h=>absurd h h2,fun _=>?_⟩;unfold Kx;rw[if_neg (by simp),(he1 h2).1]
theorem Ah3(l:Byt)(n:Nat):Ku l n 4=l++AZ n 4:=by rw[Ku,show FX 4=true by decide];rfl
theorem Abo(inner:Bool)(L:List It)(i:Nat)(hi:i=L.length):Value.int .u8 (if inner=true/\0<i then 3 else 2)=bv (Gh inner L):=by
 subst hi;unfold Gh bv
 cases inner with
 |false=>rfl
 |true =>
  cases L with
  |nil=>rfl
  |cons x L=>simp
theorem Abp{w:World}{M:Mut}(inner:Bool){a:Option Addr}{n c:Nat}{L:List It}(I:Its w M a n c L)(hm:n<=1000)(hsz:∀x∈L,x.key.length<=65535/\x.val.length<=65535)(hpgs:∀x∈L,x.page<9223372036854775808) :
  Ret prog 158 #[.agg #[.bool inner,.slice a n c]] w fun v w'=>Jl (Gh inner L) (Gg inner L) w v w':=by
 obtain⟨w0,rfl,H⟩:=qE w;obtain⟨ms,R,-,hl,hok⟩:=I.ex;have hnum:=I.num;have hml:ms.length=n:=by rw[hnum,<-hl,qan]
 refine Ax (fn:=f158) func158 U [.agg #[.bool inner,.slice a n c]] U (Ad (BN (NB inner a n c) (.agg _) U U H ?_));rintro b1 w - H;refine Ai U (Ac U (qA (Ad (Af B0 U (AG BV U H at0 U (AP Bu U (CR U EO Fy ?_)))))));refine Ah qB (EP none 0 0 [] n 2 _ Rd.nil U (by omega)) U ?_;rintro v w F12;rw[Agm,qa7]at F12;obtain⟨a12,c12,rfl,R12,hc12⟩:=Fresh.rdB F12;replace H:=H.call F12.ext;refine Ai U (Ac U (qA (Aq (Ad (Af B0 U (AG BV U H at0 U (AP Bu U (Ae U (qA ?_)))))))));refine AB ?_;obtain⟨wb,rfl⟩:=qD w;have hb1:=H.get at0;have hxb:=H.ext;have hnode:∀{z:World},Ext [] wb z->z.heap[b1]?=some (Bl 183 (NB inner a n c)):=fun{z} h=>by rw[h.block b1 (Al hb1) (by simp)];exact hb1
 have hlen0:(AZ n 2).length=2:=AM ..;refine BE 35184372023472 (α:=Nat × Option Addr × Nat) (fun s=>[(16,.int .i64 (s.1:Int)),(4,.slice s.2.1 (AZ n 2++(L.take s.1).flatMap (DY inner)).length s.2.2),(5,.int .u8 (if inner=true/\0<s.1 then 3 else 2))]) (fun s w'=>s.1<=n/\Ext [] wb w'/\Rd w' s.2.1 1 B8 (AZ n 2++(L.take s.1).flatMap (DY inner))) (fun s=>n - s.1) (0,a12,c12) U ?_ ?_ ?_
 .exact⟨rfl,qac (fun k=>Value.slice a12 k c12) (show(AZ n 2).length=_ by simp),qac (Value.int .u8) (show(2:Int)=_ by simp),trivial⟩
 .exact⟨qal _,.refl _ _,by simpa using R12⟩
 .rintro⟨i,a4,c4⟩ j w ⟨hi,hx,R4⟩;dsimp only at hi hx R4;dsimp only;have H:=Ctx.start w [];refine Ad (Bp U U (qA (Aq (Ar _ U ?_ ?_))))
  .intro h1;replace h1:=AV h1;obtain⟨x,hx1⟩:=AY (l:=ms) (i:=i);have hxL:=Im.at hl hx1;have hxo:=hok x (qaf hx1);have hxs:=hsz x.it (qaf hxL);have hfs:(L.take (i+1)).flatMap (DY inner)=(L.take i).flatMap (DY inner)++DY inner x.it:=M1 _ hxL;have htl:=LD (inner:=inner) (L:=L.take i) fun y hy=>hsz y (qbm hy);have hlt:=qay (i:=i) (l:=L);have hal:(AZ n 2++(L.take i).flatMap (DY inner)).length=2+AQ inner (L.take i):=by rw[qam,AM,flat_len]
   obtain⟨acc,hacc⟩:=qD (AZ n 2++(L.take i).flatMap (DY inner));rw[<-hacc]at R4 hal |-;have hpg:x.it.page<9223372036854775808:=hpgs x.it (qaf hxL);refine Ap (Aa (Aq (AB (Ad (Bo R Bu Bn U U ?_)))));refine EK x.enc Dg Bn U U ((R.ext0 (hxb.trans hx)).row hx1 U) (Bf Dn H ?_);rintro b7 w - H;refine Bc Bn U U U (by exact Im.oneE _) H at0 U ?_;rintro w H;refine qA (Aq (Ad (Af Dh U (Bq Gp U (Au (hnode (hx.trans H.ext)) (0+0)) ?_))));refine qA (Ar _ U ?_ ?_)
   .intro h2;refine Ad (Ac U (qA (A5 (Aj U (Af Fm U (AG DE U H at0 U (CR U EO Fy ?_)))))));refine Ah qB (EP a4 c4 _ acc x.it.page 4 _ (R4.ext0 H.ext) U (hm:=by omega) (by omega)) U ?_;rintro v w F26;rw[Ah3]at F26;obtain⟨a26,c26,rfl,R26,hc26⟩:=Fresh.rdB F26;replace H:=H.call F26.ext;refine Ai U (qA (Ad (Aj U (Af El U (AG BF U H at0 U (Ah qB (Ep a26 c26 _ (acc++AZ x.it.page 4) x.ka x.kc _ x.it.key _ R26 U (by rw[qam,AM];omega) (hxo.k.1.ext0 ((hxb.trans hx).trans H.ext)) U hxo.kc) U ?_))))));rintro v w ⟨y,rfl,F31⟩;obtain⟨a31,c31,rfl,R31,hc31⟩:=Fresh.rdB F31;replace H:=H.call F31.ext;refine AL U (Ag U U (Ag U U (Ai U (qA (Ad (Af Dh U (Bq Gp U (Au (hnode (hx.trans H.ext)) (0+0)) ?_)))))));refine Cc U ?_;rw[h2];refine qA (Br U (Ap (AH (Aa (A5 (A8 U U ?_))))))
    refine Ae U (qA ?_)
    have he:acc++AZ x.it.page 4++(AZ x.it.key.length 2++x.it.key)=AZ n 2++(L.take (i+1)).flatMap (DY true):=by
     rw[<-h2,hfs,hacc,h2];simp[DY]
    rw[he]at R31;refine⟨(i+1,a31,c31),rfl,⟨rfl,qac (fun k=>Value.slice a31 k c31) (qac List.length he),qac (Value.int .u8) (show(3:Int)=_ by simp),trivial⟩,⟨by dsimp only;omega,hx.trans H.ext,R31⟩,by dsimp only;omega⟩
   .intro h2;refine Ap (Aa (Ad (Aj U (Af El U (AG BF U H at0 U (Ah qB (Ep a4 c4 _ acc x.ka x.kc _ x.it.key _ (R4.ext0 H.ext) U (by omega) (hxo.k.1.ext0 ((hxb.trans hx).trans H.ext)) U hxo.kc) U ?_))))));rintro v w ⟨y,rfl,F31⟩;obtain⟨a31,c31,rfl,R31,hc31⟩:=Fresh.rdB F31;replace H:=H.call F31.ext;refine AL U (Ag U U (Ag U U (Ai U (qA (Ad (Af Dh U (Bq Gp U (Au (hnode (hx.trans H.ext)) (0+0)) ?_)))))));refine Cc U ?_;rw[h2];refine qA (Eg U (A5 (Aj U (Af Ji U (AG BF U H at0 U ?_)))));have hl5:(acc++(AZ x.it.key.length 2++x.it.key)).length=acc.length+(2+x.it.key.length):=(by rw[qam,qam,AM]);refine Ah qB (Ep a31 c31 _ (acc++(AZ x.it.key.length 2++x.it.key)) x.va x.vc _ x.it.val _ R31 U (by omega) (hxo.v.1.ext0 ((hxb.trans hx).trans H.ext)) U hxo.vc) U ?_;rintro v w ⟨y,rfl,F41⟩
    obtain⟨a41,c41,rfl,R41,hc41⟩:=Fresh.rdB F41;replace H:=H.call F41.ext;refine AL U (Ag U U (Ag U U (Ai U (Ab (AH (Aa (A5 (A8 U U ?_))))))));refine Ae U (qA ?_)
    have he:acc++(AZ x.it.key.length 2++x.it.key)++(AZ x.it.val.length 2++x.it.val)=AZ n 2++(L.take (i+1)).flatMap (DY false):=by
     rw[<-h2,hfs,hacc,h2];simp[DY]
    rw[he]at R41;refine⟨(i+1,a41,c41),rfl,⟨rfl,qac (fun k=>Value.slice a41 k c41) (qac List.length he),qac (Value.int .u8) (show(if false=true/\0<i then(3:Int)else 2)=(if false=true/\0<i+1 then(3:Int)else 2)by simp),trivial⟩,⟨by dsimp only;omega,hx.trans H.ext,R41⟩,by dsimp only;omega⟩
  .intro h1;replace h1:=AW h1;have hii:i=n:=by omega
   subst hii;have hLi:L.take i=L:=by rw[hnum,qbf]
   have hbody:AZ i 2++(L.take i).flatMap (DY inner)=Gg inner L:=by rw[hLi,Gg,<-hnum]
   have hbl:=JW inner L;have htl:=LD (inner:=inner) hsz;rw[hbody]at R4 |-;rw[Abo inner L i hnum];refine B9 (A6 (A6 (Bd (Aa (Ad (Ae U (Aj U (Ah qB (RX (Gh inner L) a4 c4 _ (Gg inner L) _ R4 U) U ?_))))))));rintro v w3 SP;obtain⟨sa,sn,sc,e,rfl⟩:∃sa sn sc e,v=.tuple #[.slice sa sn sc,.int .i64 e]:=by(rcases SP with⟨_,rfl,_⟩|⟨_,s,rfl,B⟩;exact⟨_,_,_,_,rfl⟩;obtain⟨a9,c9,rfl,-⟩:=B.ex;exact⟨_,_,_,_,rfl⟩)
   refine Ag U U (Ag U U (Ai U (Ac U (qA (Aw (BA (v1:=(.slice _ _ _)) (v2:=(.int _ _)) U U U U ?_))))));have hxx:=hxb.trans hx;have hsz:=hxx.size
   rcases SP with⟨h1,h2,h3⟩|⟨h1,s,h2,B⟩
   .exact .inl ⟨h1,h2,hxx.trans h3⟩
   .obtain⟨a9,c9,h5,R9,h6,h7⟩:=B.ex;exact .inr ⟨h1,s,h2,⟨⟨a9,c9,h5,R9,h6,qav hsz h7⟩,hxx.trans B.ext⟩⟩
end Go.Proofs.YtcpgbcabmcbclaaGreatDoor
