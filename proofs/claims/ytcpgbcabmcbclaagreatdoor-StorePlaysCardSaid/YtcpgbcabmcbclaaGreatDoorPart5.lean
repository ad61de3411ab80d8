/- Part 5 of the proof. -/
import Derived.Test.YtcpgbcabmcbclaaGreatDoorPart4
import Derived.Lib.Bytealg
set_option maxRecDepth 20000
set_option maxHeartbeats 4000000
namespace Go.Proofs.YtcpgbcabmcbclaaGreatDoor
open Go.GV Go.Proofs.Tryz
attribute [local irreducible] AA W Wq Wt
def TR:Nat:=0
def TB:Nat:=0
def RB(n bb cb:Nat)(left:Int)(on:Bool):List Value:=[.slice (some ⟨bb,0,none⟩) n cb,.int .i64 left,.bool on]
@[simp] theorem RB_len (n bb cb:Nat) (left:Int) (on:Bool):(RB n bb cb left on).length=3:=rfl
def LooseS(w:World)(role:Nat->Nat)(k:Nat)(v:Value)(l:List Byt):Prop :=
 ∃a n c full,v=.slice a n c/\OS a n c 1 full (l.map str)/\∀x∈ent a 9 full,w.heap[x.1]?=some x.2/\role x.1=5+k
structure RefR(w:World)(rd:Nat)(A:Dev)(role:Nat->Nat)(bb cb:Nat)(full:List Value):Prop where
 lt:∀x,role x≠0->x<w.heap.size
 rr:role rd=1
 rb:role bb=2
 hd:w.heap[rd]?=some (Bl TR (RB A.B.length bb cb A.left A.on))
 hb:w.heap[bb]?=some (Bl TB full)
 len:full.length=cb*2
 cap:A.B.length<=cb
 part:∀i p,A.B[i]?=some p->full[2*i]?=some (str p.1)/\∃v,full[2*i+1]?=some v/\LooseS w role i v p.2
 wf:Wf A
def RefAt(w:World)(rd:Nat)(A:Dev)(F:Nat->Prop):Prop:=∃role bb cb full,RefR w rd A role bb cb full/\∀x,role x≠0->F x
theorem LooseS.keep{w w':World}{role role':Nat->Nat}{k:Nat}{v:Value}{l:List Byt}{S:List Nat}(h:LooseS w role k v l)(hx:Ext S w w')(hS:∀x∈S,role x≠5+k)(hr5:∀x,role x=5+k->role' x=5+k):LooseS w' role' k v l:=by
 obtain⟨a,n,c,full,rfl,O,hb⟩:=h;refine⟨a,n,c,full,rfl,O,fun x hx'=>?_⟩;obtain⟨h6,h7⟩:=hb x hx';exact⟨by rw[hx.block x.1 (Al h6) fun h=>hS _ h h7];exact h6,hr5 _ h7⟩
theorem RefAt.keep{w w':World}{rd:Nat}{A:Dev}{F:Nat->Prop}(h:RefAt w rd A F){S:List Nat}(hx:Ext S w w')(hS:∀x∈S,¬F x):RefAt w' rd A F:=by
 obtain⟨role,bb,cb,full,D,hF⟩:=h;have hS':∀x∈S,role x=0:=fun x hx=>Classical.byContradiction fun h=>hS x hx (hF x h)
 have hb:∀{b:Nat} {o:Obj},w.heap[b]?=some o->role b≠0->w'.heap[b]?=some o:=fun{b o} h1 h2=>by
  rw[hx.block b (Al h1) fun h=>h2 (hS' b h)];exact h1
 refine⟨role,bb,cb,full,⟨fun x h=>qau (D.lt x h) hx.size,D.rr,D.rb,hb D.hd (by rw[D.rr];decide),hb D.hb (by rw[D.rb];decide),D.len,D.cap,fun i p hp=>?_,D.wf⟩,hF⟩;obtain⟨h1,v,h2,h3⟩:=D.part i p hp;exact⟨h1,v,h2,h3.keep hx (fun x h=>by rw[hS' x h];omega) fun _ h=>h⟩
theorem RefAt.keep0{w w':World}{rd:Nat}{A:Dev}{F:Nat->Prop}(h:RefAt w rd A F)(hx:Ext [] w w'):RefAt w' rd A F:=h.keep hx (by simp)
theorem RefAt.mono{w:World}{rd:Nat}{A:Dev}{F G:Nat->Prop}(h:RefAt w rd A F)(hG:∀x,F x->G x):RefAt w rd A G :=
 let ⟨role,bb,cb,full,D,hF⟩:=h;⟨role,bb,cb,full,D,fun x hx=>hG x (hF x hx)⟩
theorem RefAt.wf{w:World}{rd:Nat}{A:Dev}{F:Nat->Prop}(h:RefAt w rd A F):Wf A:=let ⟨_,_,_,_,D,_⟩:=h;D.wf
theorem RefR.turn{w w':World}{rd:Nat}{A A':Dev}{role:Nat->Nat}{bb cb:Nat}{full:List Value}(D:RefR w rd A role bb cb full)(hx:Ext [rd] w w')(hd:w'.heap[rd]?=some (Bl TR (RB A'.B.length bb cb A'.left A'.on)))(hB:A'.B=A.B)(wf:Wf A'):RefR w' rd A' role bb cb full:=by
 have hs:∀x∈[rd],role x=1:=fun x h=>by rw[qaa.1 h];exact D.rr
 refine⟨fun x h=>qau (D.lt x h) hx.size,D.rr,D.rb,hd,?_,D.len,by rw[hB];exact D.cap,fun i p hp=>?_,wf⟩
 .rw[hx.block bb (Al D.hb) fun h=>by have:=hs _ h;rw[D.rb]at this;omega];exact D.hb
 .rw[hB]at hp;obtain⟨h1,v,h2,h3⟩:=D.part i p hp;exact⟨h1,v,h2,h3.keep hx (fun x h=>by rw[hs x h];omega) fun _ h=>h⟩
theorem RefR.put{w w':World}{rd:Nat}{A:Dev}{role role':Nat->Nat}{bb cb:Nat}{full:List Value}(D:RefR w rd A role bb cb full){k:Nat}{p:Byt × List Byt}{S:List Nat}{full':List Value}{v:Value}(hk:k<A.B.length)(hx:Ext S w w')(hS:∀x∈S,role x=2\/role x=5+k)(hb':w'.heap[bb]?=some (Bl TB full'))(hlen:full'.length=full.length)(h0:full'[2*k]?=some (str p.1))(h1:full'[2*k+1]?=some v)(hrest:∀i,i≠2*k->i≠2*k+1->full'[i]?=full[i]?)(hv:LooseS w' role' k v p.2)(hold:∀x,role x≠0->role' x=role x)(hlt:∀x,role' x≠0->x<w'.heap.size)(wf:Wf { A with B:=A.B.set k p }):RefR w' rd { A with B:=A.B.set k p } role' bb cb full':=by
 refine⟨hlt,by rw[hold _ (by rw[D.rr];decide),D.rr],by rw[hold _ (by rw[D.rb];decide),D.rb],?_,hb',by rw[hlen,D.len],by rw[qch];exact D.cap,fun i q hq=>?_,wf⟩
 .rw[hx.block rd (Al D.hd) fun h=>by have:=hS _ h;rw[D.rr]at this;omega,qch];exact D.hd
 .have hq':(A.B.set k p)[i]?=some q:=hq;rw[qc6]at hq'
  by_cases hik:k=i
  .subst hik;rw[if_pos rfl,if_pos hk]at hq';cases hq';exact⟨h0,v,h1,hv⟩
  .rw[if_neg hik]at hq';obtain⟨a1,u,a2,a3⟩:=D.part i q hq';refine⟨by rw[hrest _ (by omega) (by omega)];exact a1,u,by rw[hrest _ (by omega) (by omega)];exact a2,a3.keep hx (fun x h=>by have:=hS x h;omega) fun x h=>by rw[hold x (by omega),h]⟩
def sureB(B:List (Byt × List Byt))(i:Nat):List (Byt × List Byt):=(B.take i).map (fun p=>(stands p,[]))++B.drop i
theorem Wf.set{A:Dev}(h:Wf A){k:Nat}{p:Byt × List Byt}(h1:p.1.length=512)(h2:∀b∈p.2,b.length=512):Wf { A with B:=A.B.set k p }:=by
 refine⟨by rw[qch];exact h.lo,by rw[qch];exact h.hi,h.left,h.left2,fun q hq=>?_,fun q hq x hx=>?_⟩
 .rcases qfe hq with hq|rfl
  .exact h.sure q hq
  .exact h1
 .rcases qfe hq with hq|rfl
  .exact h.loose q hq x hx
  .exact h2 x hx
def cellsN(i:Nat):List Value:=(List.replicate i [str zeros,Value.slice none 0 0]).flatten
def NS(b:List UInt8):Nat:=numN ((CS b).take 8)
def Fb(k:Int)(b:List UInt8):Bool :=
 decide (Fe b=0) && (decide ((GK b).toNat=1) && (decide (8<=(CS b).length) && (decide ((CS b).length<=488) && (decide (1<=NS b) && (decide (NS b<=4611686018427387904) && decide (((NS b % 2:Nat):Int)=k))))))
def Cy(k:Int)(b:List UInt8):Nat:=bif Fb k b then NS b else 0
def DG(k:Int)(b:List UInt8):List UInt8:=bif Fb k b then(CS b).drop 8 else[]
theorem Aif{b:List UInt8}{w w':World}{v:Value}(h:NN b w v w'):∃k a c m,v=.tuple #[bv k,.slice a (List.length m) c,.int .i64 (Fe b)]/\Ext [] w w'/\Rd w' a 1 B8 m/\m.length<=c/\(Fe b=0->k=GK b/\m=CS b)/\m.length<=505:=by
 rcases h with⟨h0,rfl,hx⟩|⟨h0,s,rfl,F⟩
 .exact⟨0,none,0,[],rfl,hx,Rd.nil,qae _,fun h=>absurd h h0,by simp⟩
 .obtain⟨a,c,rfl,R,hc⟩:=Fresh.rdB F;refine⟨_,a,c,_,by rw[h0],F.ext,R,hc,fun _=>⟨rfl,rfl⟩,?_⟩;have h1:(CS b).length<=(IY b).length:=by rw[CS,qa0];exact Nat.min_le_right _ _
  have h2:(IY b).length<=505:=by rw[IY,qa0];exact Nat.min_le_left _ _
  omega
theorem Alo(b:List UInt8):NS b<18446744073709551616:=by
 have h:=Kr ((CS b).take 8);have h2:256 ^ ((CS b).take 8).length<=256 ^ 8:=qc2 (by omega) (by rw[qa0];omega);have h3:(256:Nat) ^ 8=18446744073709551616:=by decide
 unfold NS;omega
def Xb(k:Int)(b:List UInt8)(w:World)(v:Value)(w':World):Prop :=
 ∃a c,v=.agg #[.int .u64 (Cy k b:Int),.slice a (DG k b).length c]/\Rd w' a 1 B8 (DG k b)/\(DG k b).length<=c/\(DG k b=[]\/w.heap.size<=(adr a).block)/\Ext [] w w'
theorem Aig(l:List UInt8):∃(g8:Nat) (n9:Int),Gh l 0 8=.tuple #[.int .u64 (g8:Int),.int .i64 n9,.int .i64 (Di l 0 8)]/\(Di l 0 8=0->g8=numN (l.take 8)/\n9=8):=by
 by_cases h:Di l 0 8=0
 .refine⟨numN (l.take 8),8,?_,fun _=>⟨rfl,rfl⟩⟩;rw[Gh,h];rfl
 .refine⟨0,0,?_,fun h'=>absurd h' h⟩;rw[Gh,qag h];rfl
theorem Ph{k:Int}{b:List UInt8}{w w':World}(h:Fb k b=false)(hx:Ext [] w w'):Xb k b w (.agg #[.int .u64 0,.slice none 0 0]) w' :=
 ⟨none,0,by rw[Cy,DG,h];rfl,by rw[DG,h];exact Rd.nil,by rw[DG,h];exact qae _,.inl (by rw[DG,h];rfl),hx⟩
theorem Alp(k:Int)(a:Option Addr)(c n:Nat)(b:List UInt8)(w:World)(R:Rd w a 1 B8 b)(hn:b.length=n)(hm:n<=9223372036854775799:=by omega)(hc:b.length<=c:=by omega):
  Ret prog 73 #[.int .i64 k,.slice a n c] w fun v w'=>Xb k b w v w':=by
 subst hn;obtain⟨w0,rfl,H⟩:=qE w;have hgl:=Alo b;refine A8 (fn:=f73) func73 U [.int .i64 k,.slice a b.length c] U (Ad (Bi Le H ?_));rintro b4 w - H;refine qA (Ad (Ah U (Aj qB (VR a c b.length b _ (R.ext0 H.ext) U (hm:=hm) hc) U ?_)));rintro v w P;obtain⟨kd,a6,c6,m,rfl,hx,R6,hc6,hP,hm5⟩:=Aif P;replace H:=H.call hx;refine AW U (Ai U U (Ai U U (Ai U U (Ac U (Ak U (Ac U (qA (Ar (Ad (BG (α:=Unit) 268304384 (fun _=>[(27,.bool (!(decide (Fe b=0) && (decide (kd.toNat=1) && decide (m.length<=488)))))]) (fun _ w'=>Ctx w0 [] w' [(b4,Bl 117 [.int .u64 0,.slice none 0 0])]/\Ext [] w w') U ?_ ?_))))))))))
 .refine Ae U (Be U U (AF U (AQ 19 U ?_ ?_)))
  .intro h1;replace h1:=Bv h1;refine Ag U (Ag U (AN U (.bool _) U (AF U (Ag U (Ag U (Ag U (AN U (.bool _) U (Ab ?_))))))));exact⟨rfl,(),rfl,⟨qab Value.bool (by rw[qar];simp_all;try omega),trivial⟩,⟨H,.refl _ _⟩⟩
  .intro h2;replace h2:=Bw h2;refine Ae U (Be U U (AM U (.bool _) U (AF U (AQ 23 U ?_ ?_))))
   .intro h3;replace h3:=Bv h3;refine Ag U (Ag U (Ag U (AN U (.bool _) U (Ab ?_))));exact⟨rfl,(),rfl,⟨qab Value.bool (by rw[qar];simp_all;try omega),trivial⟩,⟨H,.refl _ _⟩⟩
   .intro h4;replace h4:=Bw h4;refine Ah U (AO AX U (BZ U U (AM U (.bool _) U (Ab ?_))));exact⟨rfl,(),rfl,⟨qab Value.bool (by rw[qar];simp_all;try omega),trivial⟩,⟨H,.refl _ _⟩⟩
 rintro - j27 w ⟨H,hxj⟩;replace R6:=R6.ext0 hxj;refine Av _ U ?_ ?_
 .intro h1;replace h1:=C8 h1
  have hr:Fb k b=false:=by
   rw[qec];intro hc;simp only[Fb,qao,qaq]at hc;obtain⟨h2,h3,_,h4,_⟩:=hc;obtain⟨rfl,rfl⟩:=hP h2;simp[h2,h3,h4]at h1
  refine Ad (B5 [.int .u64 0,.slice none 0 0] VJ Le ?_);refine Bo Hu U U U (by simp[Bh]) H at0 U ?_;rintro w H;refine qA (A6 (Ao (N6 U U U OW Hu H at0 U ?_)));exact Ph hr H.ext
 .intro h1;replace h1:=CA h1;simp only[qao,qaq]at h1;obtain⟨h2,h3,h4⟩:=h1;obtain⟨rfl,rfl⟩:=hP h2
  have hte:Di (CS b) 0 8=bif decide (8<=(CS b).length)then 0 else 5:=by
   unfold Di;rw[qal (show(0:Int)<=((CS b).length:Int)by omega)]
   cases hd:decide (8<=(CS b).length)with
   |true=>rw[qaq]at hd;rw[qal (show(8:Int)<=((CS b).length:Int) - 0 by omega)];rfl
   |false=>rw[qct]at hd;rw[qag (show ¬(8:Int)<=((CS b).length:Int) - 0 by omega)];rfl
  refine Ap (Aa (Ad (Ah U (Aj qB (He a6 c6 (CS b).length (CS b) 0 8 _ R6 U hc6) U ?_))));rintro v w ⟨rfl,hx⟩;obtain⟨g8,n9,htv,hg8⟩:∃(g8:Nat) (n9:Int),Gh (CS b) 0 8=.tuple #[.int .u64 (g8:Int),.int .i64 n9,.int .i64 (Di (CS b) 0 8)]/\(Di (CS b) 0 8=0->g8=NS b/\n9=8):=Aig (CS b);rw[htv];replace H:=H.call hx;replace R6:=R6.ext0 hx;refine AW U (Ai U U (Ai U U (Ai U U (Ac U (Ac U (Ac U (qA (Ar (Ad ?_)))))))));refine Ae U (Be U U (qA (Av _ U ?_ ?_)))
  .intro h5;replace h5:=Bv h5
   have hr:Fb k b=false:=by
    rw[qec];intro hc;simp only[Fb,qao,qaq]at hc;rw[hte,qal hc.2.2.1]at h5;exact h5 U
   refine Ad (B5 [.int .u64 0,.slice none 0 0] VJ Le ?_);refine Bo Hu U U U (by simp[Bh]) H at0 U ?_;rintro w H;refine qA (A6 (Ao (N6 U U U OW Hu H at0 U ?_)));exact Ph hr H.ext
  .intro h5;replace h5:=Bw h5;obtain⟨rfl,rfl⟩:=hg8 h5
   have h8:8<=(CS b).length:=by
    refine Classical.byContradiction fun hc=>?_;rw[hte,qag hc]at h5;cases h5
   have R8:=R6.cut 8 c6 hc6;refine Ap (Aa (Ad (Ae U (Ah U (Ae U (FB AX CJ U U ?_))))));refine Aj qB (Adh _ (c6 - 8) ((CS b).length - 8) ((CS b).drop 8) _ R8 (by rw[qbg])) U ?_;rintro v w ⟨F,-⟩;have hlt:=H.lt at0;obtain⟨a42,c42,rfl,R42,hc42,hnew⟩:=Fresh.newB F;replace H:=H.call F.ext;have h4c:=H.get at0;have hw4:w0.heap.size<=b4:=(H.own _ (qaf ..)).elim (fun h=>by cases h) id;have H0:=H.ext;obtain⟨wr,rfl⟩:=qD w;replace H:=Ctx.start1 h4c;refine B5 [.int .u64 (NS b:Int),.slice a42 ((CS b).drop 8).length c42] VJ Le (Bi Le H ?_);rintro b10 w - H;refine Bo Hu U U U (by simp[Bh]) H at0 U ?_;rintro w H
   refine qA (Ar (Ad (BG (α:=Unit) 1152903912420802560 (fun _=>[(59,.bool (!(decide (1<=NS b) && (decide (NS b<=4611686018427387904) && decide (((NS b % 2:Nat):Int)=k)))))]) (fun _ w'=>Ctx wr [b4] w' [(b10,Bl 117 [.int .u64 (NS b:Int),.slice a42 ((CS b).drop 8).length c42]),(b4,Bl 117 [.int .u64 0,.slice none 0 0])]) U ?_ ?_)))
   .refine Af IV U (AH GH U H at0 U (Bj U U (AF U (AQ 47 U ?_ ?_))))
    .intro h5;replace h5:=AR h5;refine Ag U (Ag U (Ag U (AN U (.bool _) U (AF U (Ag U (Ag U (Ag U (Ag U (Ag U ?_)))))))));refine Ag U (AN U (.bool _) U (Ab ?_));exact⟨rfl,(),rfl,⟨qab Value.bool (by rw[qar];simp_all;try omega),trivial⟩,H⟩
    .intro h6;replace h6:=AU h6;refine Af IV U (AH GH U H at0 U (BZ U U (AM U (.bool _) U (AF U (AQ 52 U ?_ ?_)))))
     .intro h7;replace h7:=AR h7;refine Ag U (Ag U (Ag U (Ag U (Ag U (Ag U (AN U (.bool _) U (Ab ?_)))))));exact⟨rfl,(),rfl,⟨qab Value.bool (by rw[qar];simp_all;try omega),trivial⟩,H⟩
     .intro h8;replace h8:=AU h8;refine Af IV U (AH GH U H at0 U (YT U U U ?_));refine EX U Hn Gs (Ae U (Be U U (AM U (.bool _) U (Ab ?_))));exact⟨rfl,(),rfl,⟨qab Value.bool (by rw[qar];simp_all;try omega),trivial⟩,H⟩
   rintro - j59 w H;refine Av _ U ?_ ?_
   .intro h6;replace h6:=C8 h6
    have hr:Fb k b=false:=by
     rw[qec];intro hc;simp only[Fb,qao,qaq]at hc;simp[hc.2.2.2.2.1,hc.2.2.2.2.2.1,hc.2.2.2.2.2.2]at h6
    refine Ad (B5 [.int .u64 0,.slice none 0 0] VJ Le ?_);refine Bo Hu U U U (by simp[Bh]) H at1 U ?_;rintro w H;refine qA (A6 (Ao (N6 U U U OW Hu H at1 U ?_)));exact Ph hr (H0.then H.ext (by intro x hx;rw[qaa]at hx;subst hx;exact .inr hw4))
   .intro h6;replace h6:=CA h6
    have hr:Fb k b=true:=by
     simp only[qao,qaq]at h6;simp only[Fb,qao,qaq];exact⟨h2,h3,h8,h4,h6.1,h6.2.1,h6.2.2⟩
    refine Ap (Aa (Ad (BO OW Hu U H at0 U (Bo Hu U U U (by simp[Bh]) H at1 U ?_))));rintro w H;refine qA (A6 (N6 U U U OW Hu H at1 U ?_));have R9:=Rd.newer R42 hnew H.ext (by intro x hx;rw[qaa]at hx;subst hx;exact hlt);refine⟨a42,c42,?_,?_,?_,?_,H0.then H.ext (by intro x hx;rw[qaa]at hx;subst hx;exact .inr hw4)⟩
    .rw[Cy,DG,hr];rfl
    .rw[DG,hr];exact R9
    .rw[DG,hr];exact hc42
    .rw[DG,hr];exact hnew.imp id fun h=>by omega
def OfPost(k:Int)(b:List UInt8)(w:World)(v:Value)(w':World):Prop :=
 ∃a c,v=.tuple #[.int .u64 (Cy k b:Int),.slice a (DG k b).length c]/\Rd w' a 1 B8 (DG k b)/\(DG k b).length<=c/\Ext [] w w'
def DH(gen:Nat)(body:Byt):Byt:=DR 1 (Bq gen 8++body)
def Ii(gen:Nat):Int:=((gen % 2:Nat):Int)
def GO(A:Dev)(gen:Nat)(body:Byt):Int :=
 bif decide (gen<1) || (decide (4611686018427387904<gen) || decide (A.B.length<2))then 1 else bif decide (480<body.length)then 6 else
  bif decide (Dr A (Ii gen) (DH gen body)=0)then Ds (CD A (Ii gen) (DH gen body))else Dr A (Ii gen) (DH gen body)
def EB(A:Dev)(gen:Nat)(body:Byt):Dev :=
 bif decide (gen<1) || (decide (4611686018427387904<gen) || decide (A.B.length<2))then A else bif decide (480<body.length)then A else
  bif decide (Dr A (Ii gen) (DH gen body)=0)then Cq (CD A (Ii gen) (DH gen body))else CD A (Ii gen) (DH gen body)
def at'(A:Dev)(k:Nat):Byt:=stands (A.B.getD k (zeros,[]))
def EG(A:Dev):Int:=bif A.on then(bif decide (A.B.length<2)then 1 else bif decide (Cy 0 (at' A 0)=0) && decide (Cy 1 (at' A 1)=0)then 4 else 0)else 8
def F8(A:Dev):Nat:=bif decide (EG A=0)then(bif decide (Cy 1 (at' A 1)<Cy 0 (at' A 0))then Cy 0 (at' A 0)else Cy 1 (at' A 1))else 0
def DS(A:Dev):Byt:=bif decide (EG A=0)then(bif decide (Cy 1 (at' A 1)<Cy 0 (at' A 0))then DG 0 (at' A 0)else DG 1 (at' A 1))else[]
theorem Xc{F:Nat->Prop}{a b c:World}(h1:a.heap.size<=b.heap.size):∀x,grow F b c x->grow F a c x:=by
 rintro x (h|h)
 .exact .inl h
 .exact .inr ⟨by omega,h.2⟩
theorem Ado(n k:Nat):Bq n (k+1)=Bq (n / 256) k++[UInt8.ofNat n]:=by
 unfold Bq;rw[List.range_succ,qay]
 congr 1
 .refine qc0 fun i hi=>?_;have hi':=qdc.1 hi;rw[Nat.div_div_eq_div_mul,show(256:Nat)=2 ^ 8 from rfl,<-Nat.pow_add]
  congr 3
  omega
 .simp
theorem Fm(k:Nat):∀n,numN (Bq n k)=n % 256 ^ k:=by
 induction k with
 |zero=>intro n;simp[Bq,numN,Nat.mod_one]
 |succ k ih =>
  intro n;rw[Ado,U7,ih];have h1:(UInt8.ofNat n).toNat=n % 256:=by simp[UInt8.toNat_ofNat']
  rw[h1,qd9,qd8 (256 ^ k) 256,Nat.mod_mul];omega
theorem Z4(k:UInt8){l:List UInt8}(h:l.length<=505):IX (DR k l)=true:=by
 have hl:=FH (k:=k) h;have hh:=Sl (k:=k) h;unfold IX;rw[hl];have h1:(DR k l).take (512 - 4)=HQ k l:=by unfold DR;rw[show 512 - 4=508 from rfl];exact PZ hh
 have h2:(DR k l).drop (512 - 4)=le4 (VK (HQ k l)).toNat:=by
  unfold DR;rw[qei (by omega),qb8 (by omega),qa7]
 rw[h1,h2,Ah7 (VK (HQ k l)).isLt];simp
theorem Mf(k:UInt8)(l:List UInt8):GK (DR k l)=k:=rfl
theorem Xd(k:UInt8){l:List UInt8}(h:l.length<=505):KE (DR k l)=l.length:=by
 unfold KE
 have h1:((DR k l).drop 1).take 2=Bq l.length 2:=by
  unfold DR HQ;rw[qbx,List.drop_one,List.tail_cons,qa1,qcs (Nat.le_of_eq (Ba _ _).symm),qa6 (Nat.le_of_eq (Ba _ _))]
 rw[h1,Fm,qba (by omega)]
theorem UC(k:UInt8){l:List UInt8}(h:l.length<=505):IY (DR k l)=l++List.replicate (505 - l.length) 0:=by
 unfold IY DR HQ
 have h1:(k::(Bq l.length 2++(l++List.replicate (505 - l.length) 0))++le4 (VK (k::(Bq l.length 2++(l++List.replicate (505 - l.length) 0)))).toNat) =
   (k::Bq l.length 2)++((l++List.replicate (505 - l.length) 0)++le4 (VK (k::(Bq l.length 2++(l++List.replicate (505 - l.length) 0)))).toNat):=by simp
 rw[h1,qei (by simp[Ba]),qb8 (by simp[Ba]),qa7,qcs (by simp;omega),qa6 (by simp;omega)]
theorem JQ(k:UInt8){l:List UInt8}(h:l.length<=505):CS (DR k l)=l:=by
 rw[CS,UC k h,Xd k h,qcs (qae _),qa6 (qae _)]
theorem Mg{k:UInt8}{l:List UInt8}(hk:k.toNat≠0)(h:l.length<=505):Fe (DR k l)=0:=by
 refine Abl ?_ ?_
 .rw[FH h,Z4 k h];rfl
 .unfold Qa;rw[Mf,Xd k h,UC k h,qei (qae _),qb8 (qae _),qa7,qag hk,qal h,(Ah6 _).2 (by simp)];rfl
theorem Lk(gen:Nat){body:Byt}(h:body.length<=480):(Bq gen 8++body).length<=505:=by rw[qan,Ba];omega
theorem Adp(gen:Nat){body:Byt}(h:body.length<=480):(DH gen body).length=512:=FH (Lk gen h)
theorem Xe{gen:Nat}{body:Byt}(h:body.length<=480)(hg:gen<=4611686018427387904):NS (DH gen body)=gen:=by
 unfold NS DH;rw[JQ 1 (Lk gen h),qcs (by rw[Ba];exact qae _),qa6 (by rw[Ba];exact qae _),Fm,qba (by omega)]
theorem Abq{gen:Nat}{body:Byt}(h:body.length<=480)(h1:1<=gen)(hg:gen<=4611686018427387904):Fb (Ii gen) (DH gen body)=true:=by
 unfold Fb;have hb:CS (DH gen body)=Bq gen 8++body:=JQ 1 (Lk gen h);have hl:(Bq gen 8++body).length=8+body.length:=by rw[qan,Ba]
 rw[Xe h hg,hb,hl,show Fe (DH gen body)=0 from Mg (by decide) (Lk gen h),show GK (DH gen body)=1 from Mf ..];simp[Ii];omega
theorem Ng{gen:Nat}{body:Byt}(h:body.length<=480)(h1:1<=gen:=by omega)(hg:gen<=4611686018427387904:=by omega):Cy (Ii gen) (DH gen body)=gen:=by
 rw[Cy,Abq h h1 hg,cond_true,Xe h hg]
theorem Nh{gen:Nat}{body:Byt}(h:body.length<=480)(h1:1<=gen:=by omega)(hg:gen<=4611686018427387904:=by omega):DG (Ii gen) (DH gen body)=body:=by
 rw[DG,Abq h h1 hg,cond_true,show CS (DH gen body)=Bq gen 8++body from JQ 1 (Lk gen h),qei (by rw[Ba];exact qae _),qb8 (by rw[Ba];exact qae _),qa7]
theorem Apf{k:Int}{b:Byt}(h:(GK b).toNat≠1:=by decide):Fb k b=false:=by
 unfold Fb;rw[qag h,Bool.false_and,qeb]
theorem GP(k:Int):Cy k zeros=0:=by
 rw[Cy,Apf (b:=zeros)];rfl
def calm(B:List Byt)(left:Int):Dev:=⟨B.map fun b=>(b,[]),left,true⟩
theorem Sz(B:List Byt)(left:Int):(calm B left).B.length=B.length:=by simp[calm]
theorem Mh(B:List Byt)(left:Int)(k:Nat):at' (calm B left) k=B.getD k zeros:=by
 unfold at' calm;simp only[qa9,qas];cases B[k]? <;> rfl
theorem Adq(B:List Byt){left:Int}(h:left≠0):(calm B left).less=calm B (if left = -1 then -1 else left - 1):=by
 unfold Dev.less calm;simp only[if_neg h]
 split
 .rename_i h1;rw[h1]
 .rfl
theorem Adr(B:List Byt)(left:Int):(calm B left).goes=decide (left=0):=rfl
theorem Alq(gen:Nat):Ii gen=0\/Ii gen=1:=by unfold Ii;omega
theorem Aih(gen:Nat):(Ii gen).toNat=gen % 2:=by unfold Ii;omega
theorem Aii{B:List Byt}{left:Int}(gen:Nat)(h:2<=B.length):(calm B left).has (Ii gen)=true:=by
 unfold Dev.has;rw[Sz];have:=Alq gen;simp only[qao,qaq];omega
def Gv(B:List Byt)(k:Nat)(b:Byt)(left:Int)(on:Bool):Dev:=⟨(B.map fun b=>(b,([]:List Byt))).modify k fun p=>(p.1,p.2++[b]),left,on⟩
theorem Xf(B:List Byt)(k:Nat)(b:Byt)(left:Int):Io (Gv B k b left true)=calm (B.set k b) left:=by
 unfold Io Gv calm;simp only[Dev.mk.injEq,and_true];apply qci;intro i;simp only[qas,qcq,qc6]
 by_cases hik:k=i
 .subst hik;simp only[if_true]
  by_cases hk:k<B.length
  .rw[if_pos hk,qbe hk];rfl
  .rw[if_neg hk,qbz (by omega)];rfl
 .simp only[if_neg hik];cases B[i]? <;> rfl
theorem Z5{B:List Byt}{left:Int}(gen:Nat){b:Byt}(h:2<=B.length)(hb:b.length=512):Dr (calm B left) (Ii gen) b=(if left=0 then 8 else 0) /\
  CD (calm B left) (Ii gen) b=if left=0 then⟨(calm B left).B,left,false⟩else Gv B (gen % 2) b (if left = -1 then -1 else left - 1) true:=by
 unfold Dr CD;rw[Aii gen h,qal hb,Adr]
 by_cases h0:left=0
 .subst h0;exact⟨rfl,rfl⟩
 .rw[qag h0,if_neg h0,if_neg h0,Adq B h0,Aih];exact⟨rfl,rfl⟩
theorem VV(B:List Byt)(k:Nat)(b:Byt)(left:Int):Ds (Gv B k b left true)=(if left=0 then 8 else 0) /\
  Cq (Gv B k b left true)=if left=0 then Gv B k b left false else calm (B.set k b) (if left = -1 then -1 else left - 1):=by
 unfold Ds Cq;show(bif true then bif decide (left=0)then(8:Int)else 0 else 8)=_/\(bif true then bif decide (left=0)then(Gv B k b left true).less else Io (Gv B k b left true).less else Gv B k b left true)=_
 by_cases h0:left=0
 .subst h0;exact⟨rfl,rfl⟩
 .rw[qag h0,if_neg h0,if_neg h0];refine⟨rfl,?_⟩;show Io (Gv B k b left true).less=_
  have:(Gv B k b left true).less=Gv B k b (if left = -1 then -1 else left - 1) true:=by
   unfold Dev.less Gv;simp only[if_neg h0]
   split
   .rename_i h1;rw[h1]
   .rfl
  rw[this,Xf]
theorem Ads{B:List Byt}{left:Int}{gen:Nat}{body:Byt}(h:2<=B.length)(h1:1<=gen)(hg:gen<=4611686018427387904)(hb:body.length<=480)(hl : -1<=left) :
  GO (calm B left) gen body=(if left=0\/left=1 then 8 else 0) /\
  EB (calm B left) gen body=if left=0 then⟨(calm B left).B,left,false⟩else if left=1 then Gv B (gen % 2) (DH gen body) 0 false else calm (B.set (gen % 2) (DH gen body)) (if left = -1 then -1 else left - 2):=by
 obtain⟨hw1,hw2⟩:=Z5 (left:=left) gen (b:=DH gen body) h (Adp gen hb);unfold GO EB;rw[Sz,qag (show ¬gen<1 by omega),qag (show ¬4611686018427387904<gen by omega),qag (show ¬B.length<2 by omega),qag (show ¬480<body.length by omega),hw1,hw2]
 by_cases h0:left=0
 .subst h0;exact⟨rfl,rfl⟩
 .simp only[if_neg h0,Bool.or_false,cond_false,decide_true,cond_true];obtain⟨hf1,hf2⟩:=VV B (gen % 2) (DH gen body) (if left = -1 then -1 else left - 1);rw[hf1,hf2]
  by_cases hm:left = -1
  .subst hm;exact⟨rfl,rfl⟩
  .simp only[if_neg hm]
   by_cases h1:left=1
   .subst h1;exact⟨rfl,rfl⟩
   .rw[if_neg (show ¬left - 1=0 by omega),if_neg (show ¬left - 1=0 by omega),if_neg (show ¬(left=0\/left=1)by omega),if_neg h1,if_neg (show ¬left - 1 = -1 by omega)];exact⟨rfl,by congr 1;omega⟩
theorem Adt{B:List Byt}{left:Int}(h:2<=B.length):EG (calm B left)=(bif decide (Cy 0 (B.getD 0 zeros)=0) && decide (Cy 1 (B.getD 1 zeros)=0)then 4 else 0):=by
 unfold EG;rw[Sz,Mh,Mh,qag (show ¬B.length<2 by omega)];rfl
theorem DevAt.hd{w:World}{bd:Nat}{A:Dev}{F:Nat->Prop}(h:DevAt w bd A F):∃bs bm,w.heap[bd]?=some (Bl TD (DB A.B.length bs bm A.left A.on)) :=
 let ⟨_,bs,bm,_,_,_,D,_⟩:=h;⟨bs,bm,D.hd⟩
theorem Alr{w:World}{bd:Nat}{A:Dev}{F:Nat->Prop}(gen:Nat)(hgen:gen<18446744073709551616)(a:Option Addr)(c n:Nat)(body:Byt)(R:Rd w a 1 B8 body)(hn:body.length=n)(hm:n<=140737488351231)(hlt:∀x,F x->x<w.heap.size){mx:Nat}(hfew:Few A mx)(hmx:mx<1000000000000)(DA:DevAt w bd A F) :
  Ret prog 39 #[ptr bd,.int .u64 (gen:Int),.slice a n c] w fun v w'=>v=.int .i64 (GO A gen body)/\DevAt w' bd (EB A gen body) (grow F w w')/\Turn F w w':=by
 subst hn;obtain⟨w0,rfl⟩:=qD w;obtain⟨bs,bm,hhd⟩:=DA.hd;refine A8 (fn:=f39) func39 U [.pointer (some ⟨bd,0,none⟩),.int .u64 (gen:Int),.slice a body.length c] U ?_;refine Ad (Ac U (qA (Ar (Ad (An U (BU MK U ?_))))));refine qA (Bz U (Ap (Aa (Ar (Ad (BG (α:=Unit) 8384512 (fun _=>[(22,.bool (decide (gen<1) || (decide (4611686018427387904<gen) || decide (A.B.length<2))))]) (fun _ w'=>w0=w') U ?_ ?_))))))
 .refine Ae U (Bj U U (AF U (AQ 14 U ?_ ?_)))
  .intro h1;replace h1:=AR h1;refine Ag U (Ag U (AN U (.bool _) U (AF U (Ag U (Ag U (Ag U (AN U (.bool _) U (Ab ?_))))))));exact⟨rfl,(),rfl,⟨qab Value.bool (by rw[qar];simp_all;try omega),trivial⟩,rfl⟩
  .intro h2;replace h2:=AU h2;refine Ae U (BZ U U (AM U (.bool _) U (AF U (AQ 18 U ?_ ?_))))
   .intro h3;replace h3:=AR h3;refine Ag U (Ag U (Ag U (AN U (.bool _) U (Ab ?_))));exact⟨rfl,(),rfl,⟨qab Value.bool (by rw[qar];simp_all;try omega),trivial⟩,rfl⟩
   .intro h4;replace h4:=AU h4;refine An U (Aj qB (Hf hhd) U ?_);rintro v w ⟨rfl,rfl⟩;refine Bj U U (AM U (.bool _) U (Ab ?_));exact⟨rfl,(),rfl,⟨qab Value.bool (by rw[qar];simp_all;try omega),trivial⟩,rfl⟩
 rintro - j22 w rfl;refine Av _ U ?_ ?_
 .intro h1;refine Ad (Ac U (qA (A6 (Ao (AG (v:=(.int _ _)) U U U ?_)))));exact⟨by rw[GO,h1];rfl,by rw[EB,h1];exact DA.mono fun x h => .inl h,.of0 (.refl _ _)⟩
 .intro h1;refine Ap (Aa (Ar (Ad (Ah U (AO AX U (BZ U U (qA (Av _ U ?_ ?_))))))))
  .intro h2;replace h2:=AR h2;have h2':decide (480<body.length)=true:=qal (by omega);refine Ad (Ac U (qA (A6 (Ao (AG (v:=(.int _ _)) U U U ?_)))));exact⟨by rw[GO,h1,h2'];rfl,by rw[EB,h1,h2'];exact DA.mono fun x h => .inl h,.of0 (.refl _ _)⟩
  .intro h2;replace h2:=AU h2;have h2':decide (480<body.length)=false:=qag (by omega);have hlr:(Bq gen 8++body).length<=505:=by rw[qan,Ba];omega
   have hse:GI 1 (Bq gen 8++body)=0:=by
    rw[GI,qag (show ¬(1:UInt8).toNat=0 by decide),qag (by omega)];rfl
   have hb5:(DH gen body).length=512:=FH hlr;have hB0:Nb [] gen 8=Bq gen 8:=by rw[Nb,show HP 8=true by decide];rfl
   refine Ap (Aa (Ad (Ae U (Aj qB (Gt none 0 0 [] gen 8 w0 Rd.nil U hgen) U ?_))));rintro v w F28;obtain⟨a28,n28,c28,full28,rfl,O28,hb28⟩:=F28.ex;have hx28:=F28.ext;rw[hB0]at O28;obtain rfl:n28=8:=by have h9:=O28.llen;rw[qai,Ba]at h9;omega
   have H:=(Ctx.start w0 []).callEnt hx28 hb28 KR;refine Ah U (DQ (L:=[]) U AX AX CJ OZ IW U (body.map bv) U U H O28 (by simp) (Ht body) (Rd.appB (R.ext0 H.ext)) ?_);rintro a30 c30 full30 w H O;rw[<-qay]at O;have R30:=OS.rdB O (fun x hx=>H.blk x (by simpa using hx));have hx30:=H.ext;refine Aj qB (VP 1 a30 c30 _ _ _ R30 (by rw[qan,Ba])) U ?_;rintro v w P31;rw[Lg,hse]at P31;obtain⟨s31,rfl,B31⟩:∃s,v=.tuple #[s,.int .i64 0]/\Bytes _ w s (DH gen body):=(P31.elim (fun h=>absurd rfl h.1) fun h=>h.2);obtain⟨a31,c31,rfl,R31,hc31,hn31⟩:=B31.ex;have hx:=hx30.trans B31.ext;have hn31':w0.heap.size<=(adr a31).block:=qaw hx30.size hn31;have DA1:=DA.keep0 hx;rw[hb5];refine AW U (Ai U U (Ai U U (Ak U (Ac U (qA (Ar (Ad (Ae U (Be U U ?_)))))))))
   refine qA (Bz U (Ap (Aa (Ar (Ad (An U (Ae U (YT U U U ?_))))))));rw[show(gen:Int) % 2=Ii gen from by unfold Ii;omega];refine EX U Hn Gs (h1:=by unfold Ii;omega) (h2:=by unfold Ii;omega) ?_;refine Ah U (Aj qB (Pf (Ii gen) a31 c31 512 (DH gen body) R31 hb5 (.inr fun h=>by have:=hlt _ h;omega) hfew DA1) U ?_);rintro v w9 ⟨rfl,DA2,hT⟩;refine Ac U (qA (Ad (Ae U (Be U U (qA (Av _ U ?_ ?_))))))
   .intro h3;replace h3:=Bv h3;have h3':decide (Dr A (Ii gen) (DH gen body)=0)=false:=qag h3;refine Ad (Ae U (Ac U (qA (A6 (Ao (AG (v:=(.int _ _)) U U U ?_))))));exact⟨by rw[GO,h1,h2',h3'];rfl,by rw[EB,h1,h2',h3'];exact DA2.mono (Xc hx.size),Turn.trans (.of0 hx) hT (fun x h => .inl h)⟩
   .intro h3;replace h3:=Bw h3;have h3':decide (Dr A (Ii gen) (DH gen body)=0)=true:=qal h3;refine Ap (Aa (Ad (An U (Aj qB (Me (Hv hfew _ _) DA2) U ?_))));rintro v w10 ⟨rfl,DA3,hT3⟩;refine Ac U (qA (A6 (AG (v:=(.int _ _)) U U U ?_)));have hs1:=hx.size;have hs2:=hT.size;have hs3:=hT3.size;have hg:∀x,grow F w w9 x->grow F w0 w10 x:=fun x h=>h.elim .inl fun h => .inr ⟨by omega,by omega⟩;refine⟨by rw[GO,h1,h2',h3'];rfl,by rw[EB,h1,h2',h3'];exact DA3.mono hg,Turn.trans (Turn.trans (.of0 hx) hT fun x h => .inl h) hT3 fun x h=>?_⟩
    .rcases h with h|h
     .exact .inl h
     .exact .inr (by omega)
def HS(A:Dev):Nat->Nat × Byt
 |0=>(0,[])
 |k+1=>if(HS A k).1<Cy k (at' A k)then(Cy k (at' A k),DG k (at' A k))else HS A k
theorem UD{k:Int}{b:Byt}(h:Cy k b≠0):((Cy k b % 2:Nat):Int)=k:=by
 unfold Cy at h |-
 cases hr:Fb k b with
 |false=>rw[hr]at h;exact absurd rfl h
 |true =>
  rw[cond_true];unfold Fb at hr;simp only[qao,qaq]at hr;exact hr.2.2.2.2.2.2
theorem S5{k:Int}{b:Byt}(h:Cy k b=0):DG k b=[]:=by
 unfold Cy at h;unfold DG
 cases hr:Fb k b with
 |false=>rfl
 |true =>
  rw[hr,cond_true]at h;unfold Fb at hr;simp only[qao,qaq]at hr;omega
theorem Adu{A:Dev}(ho:A.on=true)(hl:2<=A.B.length:=by omega):(if(HS A 2).1=0 then EG A=4 else EG A=0)/\F8 A=(HS A 2).1/\DS A=(HS A 2).2:=by
 have he:EG A=bif decide (Cy 0 (at' A 0)=0) && decide (Cy 1 (at' A 1)=0)then 4 else 0:=by
  unfold EG;rw[ho,qag (show ¬A.B.length<2 by omega)];rfl
 have h2:HS A 2=if(HS A 1).1<Cy 1 (at' A 1)then(Cy 1 (at' A 1),DG 1 (at' A 1))else HS A 1:=rfl;have h1:HS A 1=if 0<Cy 0 (at' A 0)then(Cy 0 (at' A 0),DG 0 (at' A 0))else(0,[]):=rfl;have p0:=UD (k:=0) (b:=at' A 0);have p1:=UD (k:=1) (b:=at' A 1);have n0:=S5 (k:=0) (b:=at' A 0);have n1:=S5 (k:=1) (b:=at' A 1);unfold F8 DS;rw[h2,h1,he];generalize Cy 0 (at' A 0)=g0 at *;generalize Cy 1 (at' A 1)=g1 at *;generalize DG 0 (at' A 0)=l0 at *;generalize DG 1 (at' A 1)=l1 at *
 by_cases z0:g0=0
 .subst z0
  by_cases z1:g1=0
  .subst z1;exact⟨rfl,rfl,rfl⟩
  .have hp:0<g1:=by omega
   simp[z1,hp]
 .have hp0:0<g0:=by omega
  by_cases z1:g1=0
  .subst z1;simp[z0,hp0]
  .have hne:g0≠g1:=by have:=p0 z0;have:=p1 z1;omega
   simp only[if_pos hp0,qag z0,Bool.false_and,cond_false]
   by_cases hlt:g0<g1
   .simp only[if_pos hlt,qag (show ¬g1<g0 by omega),cond_false,if_neg z1];exact⟨trivial,rfl,rfl⟩
   .simp only[if_neg hlt,qal (show g1<g0 by omega),cond_true,if_neg z0];exact⟨trivial,rfl,rfl⟩
theorem Rd.rootX{w w':World}{a a2:Option Addr}{l:Byt}{b t n c:Nat}{g:Int}(R:Rd w a 1 B8 l)(hb:w.heap[b]?=some (Bl t [.int .u64 g,.slice a2 n c]))(he:Ext [b] w w'):Rd w' a 1 B8 l:=by
 cases l with
 |nil=>exact Rd.nil
 |cons x l =>
  refine R.ext he fun h=>?_;have h1:=R.cell 0 x rfl 0 (bv x) rfl (by decide);rw[qaa.1 h,Aq hb]at h1;have h2:=qad h1;simp[bv]at h2
theorem S7{w:World}{bd:Nat}{A:Dev}{F:Nat->Prop}{mx:Nat}(hfew:Few A mx)(DA:DevAt w bd A F)(hmx:mx<1000000000000:=by decide):
  Ret prog 32 #[ptr bd] w fun v w'=>∃a c,v=.tuple #[.int .u64 (F8 A:Int),.slice a (DS A).length c,.int .i64 (EG A)]/\Rd w' a 1 B8 (DS A)/\(DS A).length<=c/\(DS A=[]\/w.heap.size<=(adr a).block)/\Ext [] w w':=by
 obtain⟨w0,rfl⟩:=qD w;obtain⟨bs,bm,hhd⟩:=DA.hd;have H:=Ctx.start w0 [];refine A8 (fn:=f32) func32 U [.pointer (some ⟨bd,0,none⟩)] U ?_;refine Ad (Ac U (Ak U (Ac U (qA (Ar (AB (Ad (An U (BU MK U ?_)))))))));refine Am U (qA (Bz U (Ad (An U (Aj qB (U8 hhd) U ?_)))));rintro v w ⟨rfl,rfl⟩;refine Cl U (Am U (qA (Av _ U ?_ ?_)))
 .intro h1;replace h1:=C8 h1;have ho:A.on=false:=by simpa using h1
  have he:EG A=8:=by rw[EG,ho];rfl
  refine Ad (Ac U (Ak U (Ac U (qA (A6 (AK (Ao (CX (v1:=(.int _ _)) (v2:=(.slice _ _ _)) (v3:=(.int _ _)) U U U U U ?_))))))));exact⟨none,0,by rw[F8,DS,he];rfl,by rw[DS,he];exact Rd.nil,by rw[DS,he];exact qae _,.inl (by rw[DS,he];rfl),H.ext⟩
 .intro h1;replace h1:=CA h1;have ho:A.on=true:=by simpa using h1
  refine Ad (An U (Aj qB (Hf hhd) U ?_));rintro v w ⟨rfl,rfl⟩;refine Bj U U (Am U (qA (Av _ U ?_ ?_)))
  .intro h2;replace h2:=AR h2;have he:EG A=1:=by rw[EG,ho,qal (show A.B.length<2 by omega)];rfl
   refine Ad (Ac U (Ak U (Ac U (qA (A6 (AK (Ao (CX (v1:=(.int _ _)) (v2:=(.slice _ _ _)) (v3:=(.int _ _)) U U U U U ?_))))))));exact⟨none,0,by rw[F8,DS,he];rfl,by rw[DS,he];exact Rd.nil,by rw[DS,he];exact qae _,.inl (by rw[DS,he];rfl),H.ext⟩
  .intro h2;replace h2:=AU h2;refine Ap (AE (Aa (Ad (Bi Le H ?_))));rintro b5 w - H;refine qA (Ar (Ad (Ae U (qA (AB ?_)))));obtain⟨hE2,hG2,hL2⟩:=Adu ho;refine B6 8796090926044 (α:=Nat × Option Addr × Nat) (fun x=>[(21,.int .i64 x.1)]) (fun x w'=>x.1<=2/\Ctx w0 [] w' [(b5,Bl 117 [.int .u64 ((HS A x.1).1:Int),.slice x.2.1 (HS A x.1).2.length x.2.2])]/\Rd w' x.2.1 1 B8 (HS A x.1).2/\(HS A x.1).2.length<=x.2.2/\((HS A x.1).2=[]\/w0.heap.size<=(adr x.2.1).block)) (fun x=>2 - x.1) (0,none,0) U ?_ ?_ ?_
   .exact⟨rfl,trivial⟩
   .exact⟨qak _,H,Rd.nil,qae _,.inl rfl⟩
   .rintro⟨i,a,c⟩ j w ⟨hi,H,R,hcc,hnw⟩;dsimp only at hi H R hcc hnw;dsimp only;refine Ad (Bj U U (qA (Ar (Av _ U ?_ ?_))))
    .intro h3;replace h3:=AR h3
     have hrE:GL A (i:Int)=0:=by
      unfold GL Dev.has;rw[ho,qal (show(0:Int)<=i by omega),qal (show(i:Int)<A.B.length by omega)];rfl
     have hrB:GM A (i:Int)=at' A i:=by
      unfold GM at';rw[hrE];rfl
     have hlen:(at' A i).length=512:=Ks DA.wf (NO);have hb1:HS A (i+1)=if(HS A i).1<Cy i (at' A i)then(Cy i (at' A i),DG i (at' A i))else HS A i:=rfl;refine Ap (Aa (Ar (AB (Ad (Ae U (Ac U (qA (Ad (An U (Ae U ?_))))))))));refine Aj qB (Ss (i:Int) hfew (DA.keep0 H.ext)) U ?_;rintro v w ⟨s27,rfl,F27⟩;rw[hrB]at F27;obtain⟨a27,c27,rfl,R27,hc27⟩:=Fresh.rdB F27;replace H:=H.call F27.ext;replace R:=R.ext0 F27.ext;rw[hrE,hlen];refine AW U (Ai U U (Ai U U (Ak U (Ac U (qA (Ar (Ad (Ae U (Be U U ?_)))))))));refine qA (Bz U (Ap (Aa (Ad (Ae U (Ah U (Aj qB (Alp (i:Int) a27 c27 512 (at' A i) _ R27 hlen) U ?_)))))));have hsz0:=H.size;rintro v w ⟨a35,c35,rfl,R35,hc35,hnw35,hx35⟩;replace H:=H.call hx35;replace R:=R.ext0 hx35;have H0:=H;have hb5:=H.get at0
     have hn5:w0.heap.size<=b5:=(H.own _ (qaf ..)).elim (fun h=>by cases h) id;replace H:=Ctx.start1 (H.get at0);refine Bi Le H ?_;rintro b9 w - H;refine Bo Hu U U U (by simp[Bh]) H at0 U ?_;rintro w H;refine qA (Ad (Af IV U (AH GH U H at0 U (Af IV U (AH GH U H at1 U (BZ U U (qA (Av _ U ?_ ?_))))))))
     .intro h4;replace h4:=AR h4;rw[if_pos (by omega)]at hb1;refine Au (BO OW Hu U H at0 U (Bo Hu U U U (by simp[Bh]) H at1 U ?_));rintro w H;refine Ab (AE (Aa (Au (Ay U U ?_))));refine Ae U (qA ?_);have hx9:Ext [] w0 w:=H0.ext.then H.ext fun x h => .inr (by rw[qaa.1 h];exact hn5);replace H0:=((Ctx.start w0 []).call hx9).add (H.get at1) (.inr hn5) (by simp);exact⟨(i+1,a35,c35),rfl,⟨rfl,trivial⟩,⟨by dsimp only;omega,by dsimp only;rw[hb1];exact H0,by dsimp only;rw[hb1];exact Rd.rootX R35 hb5 H.ext,by dsimp only;rw[hb1];exact hc35,by dsimp only;rw[hb1];exact hnw35.imp id fun h=>by omega⟩,by dsimp only;omega⟩
     .intro h4;replace h4:=AU h4;rw[if_neg (by omega)]at hb1;refine Ap (AE (Aa (Au (Ay U U ?_))));refine Ae U (qA ?_);have hx9:Ext [] w0 w:=H0.ext.then H.ext fun x h => .inr (by rw[qaa.1 h];exact hn5);replace H0:=((Ctx.start w0 []).call hx9).add (H.get at1) (.inr hn5) (by simp);exact⟨(i+1,a,c),rfl,⟨rfl,trivial⟩,⟨by dsimp only;omega,by dsimp only;rw[hb1];exact H0,by dsimp only;rw[hb1];exact Rd.rootX R hb5 H.ext,by dsimp only;rw[hb1];exact hcc,by dsimp only;rw[hb1];exact hnw⟩,by dsimp only;omega⟩
    .intro h3;replace h3:=AU h3;have hi2:i=2:=by omega
     subst hi2;refine B2 (Aw (Aw (AZ (Aa (Ar (Ad (Af IV U (AH GH U H at0 U (BA U U (qA (Av _ U ?_ ?_)))))))))))
     .intro h4;replace h4:=AR h4;rw[if_pos (by omega)]at hE2;refine Ad (Ac U (Ak U (Ac U (qA (A6 (Ao (CX (v1:=(.int _ _)) (v2:=(.slice _ _ _)) (v3:=(.int _ _)) U U U U U ?_)))))));exact⟨none,0,by rw[F8,DS,hE2];rfl,by rw[DS,hE2];exact Rd.nil,by rw[DS,hE2];exact qae _,.inl (by rw[DS,hE2];rfl),H.ext⟩
     .intro h4;replace h4:=AU h4;rw[if_neg (by omega)]at hE2;refine Ap (Aa (J9 (fun x=>x=_) mixed U ?_));refine BP IV U (Aau U GH U (by rintro _ rfl;exact H.drew) at0 U ?_);refine BP Ahk U (Aau U B1 U (by rintro _ rfl;exact H.drew) at0 U ?_);refine EO U (Uo U U (EO U (Js ?_)));rintro _ rfl;replace H:=H.drew;refine A6 (CX (v1:=(.int _ _)) (v2:=(.slice _ _ _)) (v3:=(.int _ _)) U U U U U ?_);exact⟨a,c,by rw[hE2,hG2,hL2],by rw[hL2];exact R.ext0 (Ext.drew _ _),by rw[hL2];exact hcc,by rw[hL2];exact hnw,H.ext⟩
theorem Als{w:World}{bd:Nat}{A:Dev}{F:Nat->Prop}{mx:Nat}(hfew:Few A mx)(hmx:mx<1000000000000)(DA:DevAt w bd A F) :
  Ret prog 32 #[ptr bd] w fun v w'=>∃a c,v=.tuple #[.int .u64 (F8 A:Int),.slice a (DS A).length c,.int .i64 (EG A)]/\Rd w' a 1 B8 (DS A)/\(DS A=[]\/w.heap.size<=(adr a).block)/\Ext [] w w' :=
 (S7 hfew (hmx:=hmx) DA).mono fun _ _ ⟨a,c,h1,h2,_,h3⟩=>⟨a,c,h1,h2,h3⟩
theorem Xg{w0 w:World}{bd:Nat}{A:Dev}{F:Nat->Prop}(O:Own w0 w bd A F)(gen:Nat)(hgen:gen<18446744073709551616)(a:Option Addr)(c n:Nat)(body:Byt)(R:Rd w a 1 B8 body)(hn:body.length=n)(hm:n<=140737488351231){mx:Nat}(hfew:Few A mx)(hmx:mx<1000000000000) :
  Ret prog 39 #[ptr bd,.int .u64 (gen:Int),.slice a n c] w fun v w'=>v=.int .i64 (GO A gen body)/\∃F',Own w0 w' bd (EB A gen body) F'/\Grown F F' w w' :=
 (Alr gen hgen a c n body R hn hm (fun x h=>(O.own x h).2) hfew hmx O.dev).mono fun _ _ ⟨hv,hd,ht⟩=>⟨hv,_,O.grow hd ht⟩
theorem Aij{B:List Byt}{left:Int}{g0 g1:Nat}{l0 l1:Byt}(hl:2<=B.length)(h0:Cy 0 (B.getD 0 zeros)=g0)(h1:Cy 1 (B.getD 1 zeros)=g1)(hl0:g1<g0->DG 0 (B.getD 0 zeros)=l0)(hl1:g0<=g1->0<g1->DG 1 (B.getD 1 zeros)=l1) :
  EG (calm B left)=(if g0=0/\g1=0 then 4 else 0)/\F8 (calm B left)=(if g1<g0 then g0 else g1)/\DS (calm B left)=(if g1<g0 then l0 else if g1=0 then[]else l1):=by
 have he:EG (calm B left)=(if g0=0/\g1=0 then 4 else 0):=by
  rw[Adt hl,h0,h1]
  by_cases z0:g0=0 <;> by_cases z1:g1=0 <;> simp[z0,z1]
 refine⟨he,?_,?_⟩
 .rw[F8,he,Mh,Mh,h0,h1]
  by_cases hlt:g1<g0
  .simp[hlt,show ¬g0=0 by omega]
  .by_cases z1:g1=0
   .have:g0=0:=by omega
    subst z1;subst this;rfl
   .simp[hlt,z1]
 .rw[DS,he,Mh,Mh,h0,h1]
  by_cases hlt:g1<g0
  .simpa[hlt,show ¬g0=0 by omega]using hl0 hlt
  .by_cases z1:g1=0
   .have:g0=0:=by omega
    subst z1;subst this;rfl
   .simpa[hlt,z1]using hl1 (by omega) (by omega)
theorem Alt{P:Program}{r:Option Nat}{ops rest:List Oper}{Q:Exit->Env->World->Prop}{e:Env}{w:World}{dst:Option Tmp}{ty:TypeId}{pos:String}{af:Array Edge}{g:Option (Nat × Bool)}{t t2:TypeId}{x y:Operand}{a b:Int}(hg:AJ ⟨dst,.binOp .quo t x y t2,ty,pos,af,g⟩ ops e=true)(hx:ev e x=.int .i64 a)(hy:ev e y=.int .i64 b)(hr : -9223372036854775808<=a.tdiv b/\a.tdiv b<=9223372036854775807)(h:AA P r ops Q rest (put e dst (.int .i64 (a.tdiv b))) w)(hb:0<b:=by decide):AA P r ops Q (⟨dst,.binOp .quo t x y t2,ty,pos,af,g⟩::rest) e w :=
 Bt hg rfl (BR hx hy (v := .int .i64 (a.tdiv b)) (by simp[binOp,Op.intDiv,show ¬b=0 from by omega,(EJ (show(-9223372036854775808:Int)<=a.tdiv b from hr.1) (show a.tdiv b<=(9223372036854775807:Int)from hr.2):IntKind.i64.wrap (a.tdiv b)=a.tdiv b)])) h
def Jx(n:Int):Int:=max 0 (n - 362) / 2
def Da(n:Int):Int:=if Jx n<40 then 0 else(4*Jx n / 5 - 1)*251
theorem Xh{n:Int}(h:0<=n/\n<=100000):0<=Jx n/\Jx n<=50000:=by unfold Jx;omega
theorem Abr(n:Int)(h:0<=n/\n<=100000)(w:World):Ret prog 70 #[.int .i64 n] w fun v w'=>v=.int .i64 (Jx n)/\w=w':=by
 obtain⟨w0,rfl⟩:=qD w;refine A8 (fn:=f70) func70 U [.int .i64 n] U (Ad (Ac U (qA (Ad (Ae U (BD U U ?_))))));refine Qz U U U (QT U U U (show _<=(9223372036854775807:Int)by omega) ?_);refine Ac U (qA (A6 (AG (v:=(.int _ _)) U U U ?_)));exact⟨rfl,rfl⟩
theorem Ll(n:Int)(w:World)(h:0<=n/\n<=100000:=by decide):Ret prog 24 #[.int .i64 n] w fun v w'=>v=.int .i64 (Da n)/\w=w':=by
 obtain⟨w0,rfl⟩:=qD w;have hb:=Xh h;refine A8 (fn:=f24) func24 U [.int .i64 n] U (Ad (Ac U (qA (Ad (Ae U (Aj qB (Abr n h _) U ?_))))));rintro v w ⟨rfl,rfl⟩;refine Ac U (qA (Ar (Ad (Ae U (Bj U U (qA (Av _ U ?_ ?_)))))))
 .intro h1;replace h1:=AR h1;refine Ad (Ac U (qA (A6 (Ao (AG (v:=(.int _ _)) U U U ?_)))));exact⟨qab (Value.int .i64) (if_pos h1).symm,rfl⟩
 .intro h1;replace h1:=AU h1;refine Ap (Aa (Ad (Ae U (Gp U U ?_))));refine QT U U U (show _<=(9223372036854775807:Int)by omega) (BD U U ?_);refine Gp U U (Ac U (qA (A6 (AG (v:=(.int _ _)) U U U ?_))));exact⟨qab (Value.int .i64) (if_neg h1).symm,rfl⟩
theorem Adv(n:Int)(h:0<=n/\n<=100000)(w:World):Ret prog 11 #[.int .i64 n] w fun v w'=>v=.int .i64 (Da n)/\w=w':=by
 obtain⟨w0,rfl⟩:=qD w;have hb:=Xh h
 have ht:(n - 362).tdiv 2=if n<362 then -((362 - n) / 2)else(n - 362) / 2:=by
  split
  .rename_i h1
   rw[show n - 362 = -(362 - n)by omega,Int.neg_tdiv,qeu (by omega)]
  .exact qeu (by omega)
 have hh:Jx n=if n<362 then 0 else(n - 362) / 2:=by
  unfold Jx
  split <;> omega
 refine A8 (fn:=Tryz.f11) func11 U [.int .i64 n] U (Ad (Ac U (qA (Ad (Ae U (BD U U ?_))))));refine Alt U U U (by rw[ht];split <;> omega) ?_;rw[ht];refine Ac U (qA (Ar (Ad (BG (α:=Unit) 8064 (fun _=>[(12,.bool (decide (n<362\/Jx n<40)))]) (fun _ w'=>w0=w') U ?_ ?_))))
 .refine Ae U (Bj U U (AF U (AQ 9 U ?_ ?_)))
  .intro h1;replace h1:=AR h1;refine Ag U (Ag U (AN U (.bool _) U (Ab ?_)));exact⟨rfl,(),rfl,⟨qab Value.bool (by rw[qar];simp_all;try omega),trivial⟩,rfl⟩
  .intro h2;replace h2:=AU h2;refine Ae U (Bj U U (AM U (.bool _) U (Ab ?_)));exact⟨rfl,(),rfl,⟨qab Value.bool (by rw[qar];simp_all;try omega),trivial⟩,rfl⟩
 rintro - j12 w rfl;refine Av _ U ?_ ?_
 .intro h1;have h1:=qb6 h1;refine Ad (Ac U (qA (A6 (Ao (AG (v:=(.int _ _)) U U U ?_)))));refine⟨qab (Value.int .i64) ?_,rfl⟩;unfold Da;rw[if_pos]
  rcases h1 with h1|h1
  .rw[hh,if_pos h1];decide
  .exact h1
 .intro h1;have h1:=qcx h1;have hn:¬n<362:=fun h=>h1 (.inl h);rw[if_neg hn]at hh |-;rw[<-hh];refine Ap (Aa (Ad (Ae U (Gp U U ?_))));refine QT U U U (show _<=(9223372036854775807:Int)by omega) (BD U U ?_);refine Gp U U (Ac U (qA (A6 (AG (v:=(.int _ _)) U U U ?_))));exact⟨qab (Value.int .i64) (if_neg fun h=>h1 (.inr h)).symm,rfl⟩
def K3(A:Dev):Int:=if A.on=false then 8 else if Da A.B.length=0 then 1 else 0
theorem VW{w:World}{bd:Nat}{A:Dev}{F:Nat->Prop}(D:DevAt w bd A F)(hl:A.B.length<=100000:=by omega):Ret prog 31 #[ptr bd] w fun v w'=>v=.int .i64 (K3 A)/\w=w':=by
 obtain⟨w0,rfl⟩:=qD w;obtain⟨bs,bm,hhd⟩:=D.hd;refine A8 (fn:=Tryz.f31) func31 U [.pointer (some ⟨bd,0,none⟩)] U ?_;refine Ad (Ac U (qA (Ar (AB (Ad (An U (BU MK U ?_)))))));refine Am U (qA (Bz U (Ad (An U (Aj qB (U8 hhd) U ?_)))));rintro v w ⟨rfl,rfl⟩;refine Cl U (Am U (qA (Av _ U ?_ ?_)))
 .intro h1;replace h1:=C8 h1;refine Ad (Ac U (qA (A6 (AK (Ao (AG (v:=(.int _ _)) U U U ?_))))));exact⟨qab (Value.int .i64) (by unfold K3;simp_all),rfl⟩
 .intro h2;replace h2:=CA h2;refine Ad (An U (Aj qB (Hf hhd) U ?_));rintro v w ⟨rfl,rfl⟩;refine Aj qB (Ll _ (h:=by omega) _) U ?_;rintro v w ⟨rfl,rfl⟩;refine BA U U (Am U (qA (Av _ U ?_ ?_)))
  .intro h3;replace h3:=AR h3;refine Ad (Ac U (qA (A6 (AK (Ao (AG (v:=(.int _ _)) U U U ?_))))));exact⟨qab (Value.int .i64) (by unfold K3;simp_all),rfl⟩
  .intro h4;replace h4:=AU h4;refine Ap (AE (Aa (Ad (Ac U (qA (A6 (AG (v:=(.int _ _)) U U U ?_)))))));exact⟨qab (Value.int .i64) (by unfold K3;simp_all),rfl⟩
abbrev DU:List UInt8->List UInt8->Int:=Go.Lib.compareBytes
theorem Mi:∀a:List UInt8,DU a a=0
 | []=>rfl
 |x::a=>by
  show(if x<x then _ else if x<x then _ else DU a a)=0;rw[if_neg (UInt8.lt_irrefl x),if_neg (UInt8.lt_irrefl x)];exact Mi a
theorem GQ(x y:UInt8)(a b:List UInt8):DU (x::a) (y::b)=if x<y then -1 else if y<x then 1 else DU a b:=rfl
theorem Kt:∀a b:List UInt8,DU a b = -1\/DU a b=0\/DU a b=1
 | [],[] => .inr (.inl rfl)
 | [],_::_ => .inl rfl
 |_::_,[] => .inr (.inr rfl)
 |x::a,y::b=>by
  rw[GQ]
  split
  .exact .inl U
  .split
   .exact .inr (.inr U)
   .exact Kt a b
theorem NT:∀{a b:List UInt8},DU a b=0->a=b
 | [],[],_=>rfl
 | [],_::_,h=>by cases h
 |_::_,[],h=>by cases h
 |x::a,y::b,h=>by
  rw[GQ]at h
  split at h
  .cases h
  .rename_i h1
   split at h
   .cases h
   .rename_i h2
    rw[NT h,show x=y from UInt8.le_antisymm (UInt8.not_lt.1 h2) (UInt8.not_lt.1 h1)]
theorem UE:∀a b:List UInt8,DU b a = - DU a b
 | [],[]=>rfl
 | [],_::_=>rfl
 |_::_,[]=>rfl
 |x::a,y::b=>by
  rw[GQ,GQ]
  by_cases h:x<y
  .rw[if_pos h,if_neg (fun h2=>UInt8.lt_irrefl x (UInt8.lt_trans h h2)),if_pos h];rfl
  .rw[if_neg h]
   by_cases h2:y<x
   .rw[if_pos h2,if_pos h2,if_neg h]
   .rw[if_neg h2,if_neg h2,if_neg h];exact UE a b
def ltB(a b:List UInt8):Prop:=DU a b = -1
instance (a b:List UInt8):Decidable (ltB a b):=inferInstanceAs (Decidable (DU a b = -1))
theorem Hw(a:List UInt8):¬ltB a a:=fun h=>by rw[ltB,Mi]at h;cases h
theorem ET:∀{a b c:List UInt8},ltB a b->ltB b c->ltB a c
 | [],[],_,h,_=>by cases h
 | [],_::_,[],_,h=>by cases h
 | [],_::_,_::_,_,_=>rfl
 |_::_,[],_,h,_=>by cases h
 |_::_,_::_,[],_,h=>by cases h
 |x::a,y::b,z::c,h1,h2=>by
  unfold ltB at h1 h2 |-;rw[GQ]at h1 h2 |-
  by_cases hxy:x<y
  .by_cases hyz:y<z
   .rw[if_pos (UInt8.lt_trans hxy hyz)]
   .rw[if_neg hyz]at h2
    by_cases hzy:z<y
    .rw[if_pos hzy]at h2;cases h2
    .have:y=z:=UInt8.le_antisymm (UInt8.not_lt.1 hzy) (UInt8.not_lt.1 hyz)
     subst this;rw[if_pos hxy]
  .rw[if_neg hxy]at h1
   by_cases hyx:y<x
   .rw[if_pos hyx]at h1;cases h1
   .rw[if_neg hyx]at h1
    have:x=y:=UInt8.le_antisymm (UInt8.not_lt.1 hyx) (UInt8.not_lt.1 hxy)
    subst this
    by_cases hyz:x<z
    .rw[if_pos hyz]
    .rw[if_neg hyz]at h2 |-
     by_cases hzy:z<x
     .rw[if_pos hzy]at h2;cases h2
     .rw[if_neg hzy]at h2 |-;exact ET h1 h2
theorem Fp{a b:List UInt8}(h:ltB a b):¬ltB b a:=fun h2=>Hw a (ET h h2)
theorem Aik{a b:List UInt8}:DU a b=1↔ltB b a:=by
 unfold ltB;rw[UE a b];omega
theorem Mj(a b:List UInt8):ltB a b\/a=b\/ltB b a:=by
 rcases Kt a b with h|h|h
 .exact .inl h
 .exact .inr (.inl (NT h))
 .exact .inr (.inr (Aik.1 h))
theorem Hx{a b:List UInt8}(h:ltB a b):a≠b:=fun e=>Hw b (e ▸ h)
theorem VX{a b:List UInt8}:DU a b<=0↔¬ltB b a:=by
 rw[<-Aik];rcases Kt a b with h|h|h <;> omega
theorem Iw{a b:List UInt8}:DU a b<0↔ltB a b:=by
 unfold ltB;rcases Kt a b with h|h|h <;> omega
theorem Q7{a b:List UInt8}:0<=DU a b↔¬ltB a b:=by
 rw[<-Iw];omega
theorem Ail{a b c:List UInt8}(h1:ltB a b)(h2:¬ltB c b):ltB a c:=by
 rcases Mj b c with h|h|h
 .exact ET h1 h
 .exact h ▸ h1
 .exact absurd h h2
abbrev Pr:=List UInt8 × List UInt8
def Rising(L:List Pr):Prop:=L.Pairwise fun x y=>ltB x.1 y.1
def HU(L:List Pr)(k v:List UInt8):List Pr:=L.filter (fun p=>decide (ltB p.1 k))++(k,v)::L.filter (fun p=>decide (ltB k p.1))
def JD(L:List Pr)(k:List UInt8):List Pr:=L.filter fun p => !decide (p.1=k)
def DO(L:List Pr)(k:List UInt8):Option (List UInt8):=(L.find? fun p=>decide (p.1=k)).map (·.2)
theorem Eo{α:Type}{f:α->Bool}{l:List α}(h:∀x∈l,f x=true):l.filter f=l:=List.filter_eq_self.2 h
theorem FJ{α:Type}{f:α->Bool}{l:List α}(h:∀x∈l,f x=false):l.filter f=[]:=List.filter_eq_nil_iff.2 fun x hx=>by rw[h x hx];simp
theorem Aim{A L B:List Pr}{k v:List UInt8}(hA:∀p∈A,ltB p.1 k)(hB:∀p∈B,ltB k p.1):HU (A++(L++B)) k v=A++(HU L k v++B):=by
 have f1:B.filter (fun p=>decide (ltB p.1 k))=[]:=FJ fun p hp=>qag (Fp (hB p hp));have f2:A.filter (fun p=>decide (ltB k p.1))=[]:=FJ fun p hp=>qag (Fp (hA p hp));have f3:A.filter (fun p=>decide (ltB p.1 k))=A:=Eo fun p hp=>qal (hA p hp);have f4:B.filter (fun p=>decide (ltB k p.1))=B:=Eo fun p hp=>qal (hB p hp);unfold HU;rw[qbn,qbn,qbn,qbn,f1,f2,f3,f4,qa3,qa7,qa1,qa1,qbx]
theorem Ain{A L B:List Pr}{k:List UInt8}(hA:∀p∈A,ltB p.1 k)(hB:∀p∈B,ltB k p.1):JD (A++(L++B)) k=A++(JD L k++B):=by
 have f1:A.filter (fun p => !decide (p.1=k))=A:=Eo fun p hp=>by rw[qag (Hx (hA p hp))];rfl
 have f2:B.filter (fun p => !decide (p.1=k))=B:=Eo fun p hp=>by rw[qag (fun e=>Hx (hB p hp) e.symm)];rfl
 unfold JD;rw[qbn,qbn,f1,f2]
theorem Aio{A L B:List Pr}{k:List UInt8}(hA:∀p∈A,ltB p.1 k)(hB:∀p∈B,ltB k p.1):DO (A++(L++B)) k=DO L k:=by
 have f1:A.find? (fun p=>decide (p.1=k))=none:=qej.2 fun p hp=>by simpa using Hx (hA p hp)
 have f2:B.find? (fun p=>decide (p.1=k))=none:=qej.2 fun p hp=>by simpa using fun e=>Hx (hB p hp) e.symm
 unfold DO;rw[qek,qek,f1,f2,Option.none_or,Option.or_none]
theorem Xi{L:List Pr}{k v:List UInt8}{p:Pr}(h:p∈HU L k v):p=(k,v)\/p∈L:=by
 unfold HU at h
 rcases qat.1 h with h|h
 .exact .inr ((qbj.1 h).1)
 .rcases qac.1 h with h|h
  .exact .inl h
  .exact .inr ((qbj.1 h).1)
theorem Xj{L:List Pr}{k:List UInt8}{p:Pr}(h:p∈JD L k):p∈L:=(qbj.1 h).1
theorem GR{L:List Pr}(h:Rising L)(k v:List UInt8):Rising (HU L k v):=by
 unfold Rising HU;rw[qca];refine⟨h.sublist qe0,?_,fun x hx y hy=>?_⟩
 .rw[qbh];exact⟨fun y hy=>by simpa using(qbj.1 hy).2,h.sublist qe0⟩
 .have h1:ltB x.1 k:=by simpa using(qbj.1 hx).2
  rcases qac.1 hy with rfl|hy
  .exact h1
  .exact ET h1 (by simpa using(qbj.1 hy).2)
theorem HV{L:List Pr}(h:Rising L)(k:List UInt8):Rising (JD L k):=h.sublist qe0
theorem Xl(L:List Pr)(k v:List UInt8)(_:Rising L):(HU L k v).length<=L.length+1:=by
 unfold HU
 have:∀L:List Pr,(L.filter fun p=>decide (ltB p.1 k)).length+(L.filter fun p=>decide (ltB k p.1)).length<=L.length:=by
  intro L
  induction L with
  |nil=>exact qae _
  |cons p L ih =>
   have ih:=ih;rw[qbk,qbk,qav]
   by_cases h1:ltB p.1 k
   .rw[qal h1,qag (Fp h1)];simp only[if_true,qdn,if_false,qav];omega
   .rw[qag h1];simp only[qdn,if_false]
    split
    .rw[qav];omega
    .omega
 rw[qan,qav,<-qcl];exact Nat.succ_le_succ (this L)
theorem Xn(L:List Pr)(k:List UInt8):(JD L k).length<=L.length:=qel ..
theorem EU{L:List Pr}(h:Rising L){k v:List UInt8}:DO L k=some v↔(k,v)∈L:=by
 unfold DO
 induction L with
 |nil=>simp
 |cons p L ih =>
  have hp:=(qbh.1 h);rw[qda]
  by_cases e:p.1=k
  .rw[qal e];simp only[qbd,qbb,qac];constructor
   .rintro rfl;exact .inl (by rw[<-e])
   .rintro(h1|h1)
    .rw[<-h1]
    .exact absurd (e:p.1=k) (Hx (hp.1 _ h1))
  .rw[qag e];simp only[qac];rw[ih hp.2];exact⟨.inr,fun h1=>h1.elim (fun h1=>absurd (by rw[<-h1]) e) id⟩
theorem UF{L:List Pr}{k:List UInt8}(h:DO L k=none):JD L k=L:=by
 refine Eo fun p hp=>?_;unfold DO at h;rw[Option.map_eq_none_iff,qej]at h
 simpa using h p hp
theorem Rising.append{A B:List Pr}:Rising (A++B)↔Rising A/\Rising B/\∀x∈A,∀y∈B,ltB x.1 y.1:=qca
structure It where
 key:List UInt8
 val:List UInt8
 page:Nat
def CM(inner:Bool)(x:It):Nat:=bif inner then 6+x.key.length else 4+x.key.length+x.val.length
def Bc(inner:Bool)(l:List It):Nat:=(l.map (CM inner)).sum
def Ff(inner:Bool)(x:It):List UInt8:=bif inner then Bq x.page 4++(Bq x.key.length 2++x.key)else Bq x.key.length 2++x.key++(Bq x.val.length 2++x.val)
def HW(inner:Bool)(l:List It):List UInt8:=Bq l.length 2++l.flatMap (Ff inner)
def HY(inner:Bool)(l:List It):UInt8:=if inner=true/\l≠[]then 3 else 2
theorem UG(inner:Bool)(x:It):(Ff inner x).length=CM inner x:=by
 cases inner <;> simp[Ff,CM,Ba] <;> omega
theorem flat_len(inner:Bool)(l:List It):(l.flatMap (Ff inner)).length=Bc inner l:=by
 induction l with
 |nil=>rfl
 |cons x l ih=>rw[qcc,qan,UG,ih];rfl
theorem Ml(inner:Bool)(l:List It):(HW inner l).length=2+Bc inner l:=by rw[HW,qan,Ba,flat_len]
theorem BB(inner:Bool)(a b:List It):Bc inner (a++b)=Bc inner a+Bc inner b:=by simp[Bc]
theorem Dc(inner:Bool)(x:It)(b:List It):Bc inner (x::b)=CM inner x+Bc inner b:=by simp[Bc]
def tbO(b:List UInt8)(at':Nat):Option (List UInt8 × Nat) :=
 if Di b at' 2=0 then(if at'+2+numN ((b.drop at').take 2)<=b.length then some ((b.drop (at'+2)).take (numN ((b.drop at').take 2)),at'+2+numN ((b.drop at').take 2))else none)else none
def Ni(inner:Bool)(b:List UInt8)(at':Nat):Option (It × Nat) :=
 if inner=true then
  (if Di b at' 4=0 then(match tbO b (at'+4)with
   |some (k,n)=>some (⟨k,[],numN ((b.drop at').take 4)⟩,n)
   |none=>none)else none)
 else match tbO b at' with
  |some (k,n)=>(match tbO b n with
   |some (v,m)=>some (⟨k,v,0⟩,m)
   |none=>none)
  |none=>none
def Fv(inner:Bool)(b:List UInt8):Nat->Nat->Option (List It × Nat)
 |0,at'=>some ([],at')
 |n+1,at'=>match Ni inner b at' with
  |none=>none
  |some (x,m)=>match Fv inner b n m with
   |none=>none
   |some (l,e)=>some (x::l,e)
def Xo(inner:Bool)(b:List UInt8):Option (List It × Nat)->Option (Bool × List It)
 |some r=>if r.2=b.length/\r.1≠[]then some (inner,r.1)else none
 |none=>none
def Es(b:List UInt8):Option (Bool × List It) :=
 if Fe b=0/\Di (CS b) 0 2=0/\((GK b).toNat=2\/(GK b).toNat=3)then
  Xo (decide ((GK b).toNat=3)) (CS b) (Fv (decide ((GK b).toNat=3)) (CS b) (numN ((CS b).take 2)) 2)
 else none
theorem Abs{b:List UInt8}{at':Nat}{k:Nat}(hk:HP k=true:=by decide):Di b (at':Int) (k:Int)=0↔at'+k<=b.length:=by
 unfold Di;rw[hk]
 by_cases h1:at'<=b.length
 .rw[qal (show(0:Int)<=(at':Int)by omega),qal (show(at':Int)<=(b.length:Int)by omega)]
  by_cases h2:at'+k<=b.length
  .rw[qal (show(k:Int)<=(b.length:Int) - (at':Int)by omega)];simp[h2]
  .rw[qag (show ¬(k:Int)<=(b.length:Int) - (at':Int)by omega)];simp[h2]
 .rw[qag (show ¬(at':Int)<=(b.length:Int)by omega)];simp;omega
theorem Abt{b:List UInt8}{at':Nat}:Di b (at':Int) 2=0↔at'+2<=b.length:=Abs (k:=2)
theorem Alu{b:List UInt8}{at':Nat}:Di b (at':Int) 4=0↔at'+4<=b.length:=Abs (k:=4)
theorem S8{α:Type}{a b:List α}{n:Nat}(h:a.length=n):(a++b).drop n=b:=by subst h;simp
theorem NU{α:Type}{a b:List α}{n:Nat}(h:a.length=n):(a++b).take n=a:=by subst h;simp
theorem NV{A s B:List UInt8}{at':Nat}(ha:A.length=at')(hs:s.length<65536):tbO (A++(Bq s.length 2++(s++B))) at'=some (s,at'+2+s.length):=by
 have e1:(A++(Bq s.length 2++(s++B))).drop at'=Bq s.length 2++(s++B):=S8 ha;have e2:(Bq s.length 2++(s++B)).take 2=Bq s.length 2:=NU (Ba ..);have e3:numN (Bq s.length 2)=s.length:=by rw[Fm];exact qba (by omega)
 have e4:(A++(Bq s.length 2++(s++B))).drop (at'+2)=s++B:=by
  rw[<-qa1];exact S8 (by rw[qan,Ba,ha])
 have e5:(A++(Bq s.length 2++(s++B))).length=at'+2+s.length+B.length:=by simp[Ba,ha];omega
 unfold tbO;rw[if_pos (Abt.2 (by omega)),e1,e2,e3,if_pos (by omega),e4,NU rfl]
def OkI(inner:Bool)(x:It):Prop:=x.key.length<65536/\x.val.length<65536/\x.page<4294967296/\(if inner=true then x.val=[]else x.page=0)
theorem Adw{inner:Bool}{x:It}(hx:OkI inner x){A B:List UInt8}{at':Nat}(ha:A.length=at'):Ni inner (A++(Ff inner x++B)) at'=some (x,at'+CM inner x):=by
 obtain⟨hk,hv,hp,hc⟩:=hx;obtain⟨key,val,page⟩:=x
 cases inner with
 |true =>
  simp only[if_true]at hc;subst hc;have e0:A++(Ff true ⟨key,[],page⟩++B)=A++(Bq page 4++(Bq key.length 2++(key++B))):=by simp[Ff]
  have e1:(A++(Bq page 4++(Bq key.length 2++(key++B)))).drop at'=Bq page 4++(Bq key.length 2++(key++B)):=S8 ha;have e2:(Bq page 4++(Bq key.length 2++(key++B))).take 4=Bq page 4:=NU (Ba ..);have e3:numN (Bq page 4)=page:=by rw[Fm];exact qba (by omega)
  have e4:tbO (A++(Bq page 4++(Bq key.length 2++(key++B)))) (at'+4)=some (key,at'+4+2+key.length):=by
   rw[<-qa1];exact NV (by rw[qan,Ba,ha]) hk
  have e5:(A++(Bq page 4++(Bq key.length 2++(key++B)))).length=at'+6+key.length+B.length:=by simp[Ba,ha];omega
  unfold Ni;rw[e0,if_pos rfl,if_pos (Alu.2 (by omega)),e4];simp only[e1,e2,e3,CM,cond_true];rw[show at'+4+2+key.length=at'+(6+key.length)by omega]
 |false =>
  simp only[qdn,if_false]at hc;subst hc;have e0:A++(Ff false ⟨key,val,0⟩++B)=A++(Bq key.length 2++(key++(Bq val.length 2++(val++B)))):=by simp[Ff]
  have e1:=NV (s:=key) (B:=Bq val.length 2++(val++B)) ha hk
  have e2:tbO (A++(Bq key.length 2++(key++(Bq val.length 2++(val++B))))) (at'+2+key.length)=some (val,at'+2+key.length+2+val.length):=by
   rw[show A++(Bq key.length 2++(key++(Bq val.length 2++(val++B))))=(A++(Bq key.length 2++key))++(Bq val.length 2++(val++B))by simp];exact NV (by simp[Ba,ha];omega) hv
  unfold Ni;rw[e0,if_neg (by simp),e1];simp only[e2,CM,cond_false];rw[show at'+2+key.length+2+val.length=at'+(4+key.length+val.length)by omega]
theorem NW{inner:Bool}:∀{l:List It} (_:∀x∈l,OkI inner x) {A:List UInt8} {at':Nat} (_:A.length=at'),Fv inner (A++l.flatMap (Ff inner)) l.length at'=some (l,at'+Bc inner l)
 | [],_,A,at',_=>rfl
 |x::l,hl,A,at',ha=>by
  have h1:=Adw (hl x (qaf ..)) (B:=l.flatMap (Ff inner)) ha;have h2:=NW (l:=l) (fun y hy=>hl y (qaj _ hy)) (A:=A++Ff inner x) (at':=at'+CM inner x) (by rw[qan,UG,ha]);rw[qa1]at h2;rw[qcc,qav];unfold Fv;rw[h1];simp only[h2,Dc];rw[qcl]
theorem Z6{inner:Bool}{l:List It}(hl:∀x∈l,OkI inner x)(hne:l≠[])(ht:Bc inner l<=503):Es (DR (HY inner l) (HW inner l))=some (inner,l):=by
 have hbl:=Ml inner l;have hk:(HY inner l).toNat=if inner=true then 3 else 2:=by unfold HY;cases inner <;> simp[hne] <;> rfl
 have hk0:(HY inner l).toNat≠0:=by rw[hk];split <;> omega
 have o1:=Mg (k:=HY inner l) (l:=HW inner l) hk0 (by omega);have o2:=Mf (HY inner l) (HW inner l);have hb:=JQ (HY inner l) (l:=HW inner l) (by omega)
 have hlen:l.length<=Bc inner l:=by
  have:∀l:List It,l.length<=Bc inner l:=by
   intro l
   induction l with
   |nil=>exact qae _
   |cons x l ih =>
    have h1:1<=CM inner x:=by
     cases inner
     .simp only[CM,cond_false];omega
     .simp only[CM,cond_true];omega
    rw[Dc,qav];omega
  exact this l
 have hd:decide ((HY inner l).toNat=3)=inner:=by rw[hk];cases inner <;> rfl
 unfold Es;rw[o2,hb];have ht2:(HW inner l).take 2=Bq l.length 2:=NU (Ba ..);have hn:numN (Bq l.length 2)=l.length:=by rw[Fm];exact qba (by omega)
 have hp:=NW hl (A:=Bq l.length 2) (at':=2) (Ba ..);rw[if_pos ⟨o1,(Abt (b:=HW inner l) (at':=0)).2 (by omega),by rw[hk];split <;> simp⟩,ht2,hn,hd];rw[show HW inner l=Bq l.length 2++l.flatMap (Ff inner)from rfl,hp];show(if _ then _ else _)=_;rw[if_pos ⟨by rw[<-Ml];rfl,hne⟩]
abbrev Mut:=Nat->Prop
def Old(w:World):Mut:=fun x=>x<w.heap.size
theorem Pi{w:World}{α:Type}{a:Option Addr}{s:Nat}{enc:α->List Value}{l:List α}(R:Rd w a s enc l)(he:∀x∈l,(enc x).length=s)(hs:0<s:=by decide):l=[]\/(adr a).block<w.heap.size:=by
 cases l with
 |nil=>exact .inl rfl
 |cons x l =>
  have h1:=he x (qaf ..);obtain⟨v,hv⟩:=AP (l:=enc x) (i:=0);exact .inr (World.block_lt_of_cell? w ⟨(adr a).block,_,none⟩ (R.cell 0 x U 0 v hv (by omega)))
theorem Aip(a:Option Addr)(c i s:Nat):(adr (EH a c i s)).block=(adr a).block:=by
 unfold EH;split
 .rfl
 .cases a with
  |none=>rfl
  |some p =>
   obtain⟨b,o,sp⟩:=p;show(adr (some (Addr.add ⟨b,o,sp⟩ (i*s)))).block=b;unfold Addr.add
   by_cases h:i*s=0 <;> simp[h,adr]
section
variable {w w' w0:World}{M M':Mut}{a:Option Addr}{l:Byt}
theorem Rdx.fresh(R:Rd w' a 1 B8 l)(h:l=[]\/w.heap.size<=(adr a).block):Rdx w' (Old w) a l:=⟨R,h.imp id fun h h2=>by unfold Old at h2;omega⟩
theorem Rdx.weak(h:Rdx w M a l)(hM:∀x,M' x->M x):Rdx w M' a l:=⟨h.1,h.2.imp id fun h h2=>h (hM _ h2)⟩
theorem Rdx.past{w1 w2:World}{S:List Nat}(X:Rdx w (Old w1) a l)(he:Ext S w w2)(hS:∀x∈S,x<w1.heap.size):Rdx w2 (Old w1) a l:=by
 obtain⟨R,hn⟩:=X
 rcases hn with rfl|hn
 .exact⟨Rd.nil,.inl rfl⟩
 .exact⟨R.ext he fun h=>hn (hS _ h),.inr hn⟩
theorem Rdx.nil:Rdx w M none []:=⟨Rd.nil,.inl rfl⟩
end
structure Im where
 ka:Option Addr
 kc:Nat
 va:Option Addr
 vc:Nat
 it:It
def Im.enc(m:Im):List Value:=[.slice m.ka m.it.key.length m.kc,.slice m.va m.it.val.length m.vc,.int .i64 (m.it.page:Int)]
theorem Im.oneE(m:Im):∀v∈m.enc,Bh v=true:=fun v hv=>by
 simp only[Im.enc,qac,qam,or_false]at hv
 rcases hv with rfl|rfl|rfl <;> rfl
structure Im.Ok(w:World)(M:Mut)(m:Im):Prop where
 k:Rdx w M m.ka m.it.key
 v:Rdx w M m.va m.it.val
 kc:m.it.key.length<=m.kc
 vc:m.it.val.length<=m.vc
structure Its(w:World)(M:Mut)(a:Option Addr)(n c:Nat)(L:List It):Prop where
 ex:∃ms:List Im,Rd w a 3 Im.enc ms/\(ms=[]\/¬M (adr a).block)/\ms.map (·.it)=L/\∀m∈ms,m.Ok w M
 num:n=L.length
 le:n<=c
section
variable {w w' w0:World}{M M':Mut}{a:Option Addr}{n c:Nat}{L:List It}{m:Im}
theorem Im.Ok.turn(h:m.Ok w M)(t:Grown M M' w w'):m.Ok w' M':=⟨h.k.turn t,h.v.turn t,h.kc,h.vc⟩
theorem Im.Ok.call(h:m.Ok w M)(hx:Ext [] w w'):m.Ok w' M:=⟨h.k.call hx,h.v.call hx,h.kc,h.vc⟩
theorem Im.Ok.weak(h:m.Ok w M)(hM:∀x,M' x->M x):m.Ok w M':=⟨h.k.weak hM,h.v.weak hM,h.kc,h.vc⟩
theorem Its.nil:Its w M none 0 0 []:=⟨⟨[],Rd.nil,.inl rfl,rfl,fun m h=>by cases h⟩,rfl,qae _⟩
theorem Its.turn(h:Its w M a n c L)(t:Grown M M' w w'):Its w' M' a n c L:=by
 obtain⟨ms,R,hs,hl,hm⟩:=h.ex;refine⟨⟨ms,?_,?_,hl,fun m hx=>(hm m hx).turn t⟩,h.num,h.le⟩
 .rcases hs with rfl|hs
  .exact Rd.nil
  .obtain⟨⟨S,hS,hx⟩,_⟩:=t;exact R.ext hx fun h=>hs (hS _ h)
 .rcases hs with rfl|hs
  .exact .inl U
  .rcases Pi R (fun x _=>rfl)with h0|h0
   .exact .inl h0
   .exact .inr fun h5=>(t.2 _ h5).elim hs fun h6=>by omega
theorem Its.call(h:Its w M a n c L)(hx:Ext [] w w'):Its w' M a n c L:=by
 obtain⟨ms,R,hs,hl,hm⟩:=h.ex;exact⟨⟨ms,R.ext0 hx,hs,hl,fun m hm'=>(hm m hm').call hx⟩,h.num,h.le⟩
theorem Its.weak(h:Its w M a n c L)(hM:∀x,M' x->M x):Its w M' a n c L:=by
 obtain⟨ms,R,hs,hl,hm⟩:=h.ex;exact⟨⟨ms,R,hs.imp id fun h h2=>h (hM _ h2),hl,fun m hm'=>(hm m hm').weak hM⟩,h.num,h.le⟩
theorem Its.take(h:Its w M a n c L){k:Nat}(hk:k<=n):Its w M a k c (L.take k):=by
 obtain⟨ms,R,hs,hl,hm⟩:=h.ex;have hn:=h.num;have hc:=h.le;refine⟨⟨ms.take k,R.take k,hs.imp (fun h=>by rw[h,List.take_nil]) id,by rw[List.map_take,hl],fun m hx=>hm m (qbq hx)⟩,?_,by omega⟩;rw[qa0];omega
theorem Its.drop(h:Its w M a n c L){k:Nat}(hk:k<=n):Its w M (EH a c k 3) (n - k) (c - k) (L.drop k):=by
 obtain⟨ms,R,hs,hl,hm⟩:=h.ex;have hn:=h.num;have hc:=h.le;have hml:ms.length=n:=by rw[hn,<-hl,qai]
 refine⟨⟨ms.drop k,R.cut k c (by omega),?_,by rw[qd0,hl],fun m hx=>hm m (qcy hx)⟩,?_,by omega⟩
 .rw[Aip];exact hs.imp (fun h=>by rw[h,List.drop_nil]) id
 .rw[qbg];omega
end
theorem IZ{w:World}(a b:Option Addr)(c d n m:Nat)(x y:Byt)(Rx:Rd w a 1 B8 x)(Ry:Rd w b 1 B8 y)(hn:x.length=n)(hm:y.length=m) :
  Ret prog 127 #[.slice a n c,.slice b m d] w fun v w'=>v=.int .i64 (DU x y)/\w=w':=by
 subst hn hm;refine A8 (fn:=f127) func127 U [.slice a x.length c,.slice b y.length d] U (Ad (Ac U (qA (Ad (Ah U (Ah U (Ada (l:=[.slice a x.length c,.slice b y.length d]) (v := .int .i64 (DU x y)) U (by rw[run_callFunc_extern func154 (by kernel_rfl) (by kernel_rfl) (by kernel_rfl) (e:=Extern.BytealgCompare.compare) (by kernel_rfl),VG Rx Ry];rfl) U ?_)))))));refine Ac U (qA (A6 (AG (v:=(.int _ _)) U U U ?_)));exact⟨rfl,rfl⟩
def Cf(L:List It)(key:Byt):Nat:=(L.tail.takeWhile fun x=>decide (DU x.key key<=0)).length
theorem HJ{α:Type}{p:α->Bool}:∀{l:List α} {i:Nat},(∀j x,j<i->l[j]?=some x->p x=true)->i<=l.length->(∀x,l[i]?=some x->p x=false)->(l.takeWhile p).length=i
 | [],i,_,hi,_=>by simp at hi;subst hi;rfl
 |x::l,0,_,_,h=>by rw[qc4,h x rfl];rfl
 |x::l,i+1,h,hi,h2=>by
  rw[qc4,h 0 x (by omega) rfl];simp only[if_true,qav];rw[HJ (l:=l) (i:=i) (fun j y hj hy=>h (j+1) y (by omega) hy) (by simpa using hi) fun y hy=>h2 y hy]
theorem Im.at{ms:List Im}{L:List It}(hl:ms.map (·.it)=L){i:Nat}{x:Im}(h:ms[i]?=some x):L[i]?=some x.it:=by rw[<-hl,qas,h];rfl
theorem Xp{w:World}{M:Mut}{a:Option Addr}{n c:Nat}{L:List It}(I:Its w M a n c L)(ka:Option Addr)(kc kn:Nat)(key:Byt)(Rk:Rd w ka 1 B8 key)(hk:key.length=kn)(hm:n<=1000000:=by omega):
  Ret prog 182 #[.slice a n c,.slice ka kn kc] w fun v w'=>v=.int .i64 (Cf L key:Int)/\w=w':=by
 subst hk;obtain⟨w0,rfl⟩:=qD w;obtain⟨ms,R,-,hl,hok⟩:=I.ex;have hnum:=I.num;have hml:ms.length=n:=by rw[hnum,<-hl,qai]
 refine A8 (fn:=f182) func182 U [.slice a n c,.slice ka key.length kc] U ?_;refine Ad (Ac U (qA (Ad (Ac U (qA (Ar (AB (B6 16777184 (α:=Nat) (fun i=>[(5,.int .i64 (i:Int))]) (fun i w'=>w0=w'/\(i=0\/i+1<=n)/\∀j x,j<i->L.tail[j]?=some x->DU x.key key<=0) (fun i=>n - i) 0 U ?_ ?_ ?_))))))))
 .exact⟨rfl,trivial⟩
 .exact⟨rfl,.inl rfl,fun j x h=>absurd h (qc3 _)⟩
 .rintro i j w ⟨rfl,hi,hb⟩;refine Ar (Ad (Ae U (Ay U U ?_)));refine Ah U (AO Bu U (Bj U U (AF U (AQ 11 U ?_ ?_))))
  .intro h1;replace h1:=AR h1;obtain⟨x,hx⟩:=AP (l:=ms) (i:=i+1);have hxL:=Im.at hl hx;have hxo:=hok x (qad hx);have hti:L.tail[i]?=some x.it:=by rw[List.getElem?_tail];exact hxL
   refine Ah U (Ae U (Ay U U ?_));refine AY R Bu Bn U U (Af FF U (Bd B1 U (R.fld hx U (j:=0) U) ?_));refine Ah U (Aj qB (IZ x.ka ka x.kc kc _ _ x.it.key key hxo.k.1 Rk U U) U ?_);rintro v w ⟨rfl,rfl⟩;refine MU U U (AN U (.bool _) U (qA (Av _ U ?_ ?_)))
   .intro h2;replace h2:=AR h2;refine Ap (Aa (AB (Au (Ae U (Ay U U ?_)))));refine Ac U (Ab (AE (Aa ?_)));refine⟨i+1,rfl,⟨rfl,trivial⟩,⟨rfl,.inr (by omega),fun j y hj hy=>?_⟩,by omega⟩
    rcases qbr j i with h3|h3
    .exact hb j y h3 hy
    .obtain rfl:j=i:=by omega
     rw[hti]at hy;cases hy;exact h2
   .intro h2;replace h2:=AU h2;refine B2 (Aw (Aw (AZ (Aa (Ad (Ae U (Ac U (qA (A6 (AG (v:=(.int _ _)) U U U ?_))))))))));refine⟨?_,rfl⟩;rw[Cf,HJ (i:=i) (fun j y hj hy=>qal (hb j y hj hy)) (by rw[qe1];omega) fun y hy=>?_];rw[hti]at hy;cases hy;exact qag (by omega)
  .intro h1;replace h1:=AU h1;refine Ag U (Ag U (Ag U (Ag U (Ag U (Ag U (Ag U (Ag U (Ag U (AM U (.bool _) U ?_)))))))));refine qA (Bz U (B2 (Aw (Aw (AZ (Aa (Ad (Ae U (Ac U (qA (A6 (AG (v:=(.int _ _)) U U U ?_))))))))))));refine⟨?_,rfl⟩;rw[Cf,HJ (i:=i) (fun j y hj hy=>qal (hb j y hj hy)) (by rw[qe1];omega) fun y hy=>?_];have:=(qap.1 hy).1;rw[qe1]at this;omega
def bsN(L:List It)(key:Byt)(i j:Nat):Nat :=
 if h:i<j then(if DU ((L[(i+j) / 2]?.map (·.key)).getD []) key<0 then bsN L key ((i+j) / 2+1) j else bsN L key i ((i+j) / 2))else i
termination_by j - i
def CK(L:List It)(key:Byt):Nat:=bsN L key 0 L.length
def Fw(L:List It)(key:Byt):Bool:=match L[CK L key]? with|some x=>decide (DU x.key key=0)|none=>false
theorem Z7{L:List It}{key:Byt}{i j:Nat}(h:i<j):bsN L key i j=if DU ((L[(i+j) / 2]?.map (·.key)).getD []) key<0 then bsN L key ((i+j) / 2+1) j else bsN L key i ((i+j) / 2):=by
 rw[bsN,dif_pos h]
theorem NX{L:List It}{key:Byt}{i j:Nat}(h:j<=i:=by omega):bsN L key i j=i:=by
 rw[bsN,dif_neg (by omega)]
theorem UH{w:World}{M:Mut}{x:Im}(hx:x.Ok w M)(ka:Option Addr)(kc kn:Nat)(key:Byt)(Rk:Rd w ka 1 B8 key)(hk:key.length=kn) :
  Ret prog 179 #[.agg x.enc.toArray,.slice ka kn kc] w fun v w'=>v=.int .i64 (DU x.it.key key)/\Ext [] w w':=by
 subst hk;obtain⟨w0,rfl,H⟩:=qE w;refine A8 (fn:=f179) func179 U [.agg x.enc.toArray,.slice ka key.length kc] U (Ad (Cu x.enc (.agg _) U U H ?_));rintro b2 w - H;refine Ac U (qA (Ad (Af FF U (AH B1 U H at0 U (Ah U (Aj qB (IZ x.ka ka x.kc kc _ _ x.it.key key (hx.k.1.ext0 H.ext) (Rk.ext0 H.ext) U U) U ?_))))));rintro v w ⟨rfl,rfl⟩;refine Ac U (qA (A6 (AG (v:=(.int _ _)) U U U ?_)));exact⟨rfl,H.ext⟩
theorem Adx{w:World}{M:Mut}{a:Option Addr}{n c:Nat}{L:List It}(I:Its w M a n c L)(ka:Option Addr)(kc kn:Nat)(key:Byt)(Rk:Rd w ka 1 B8 key)(hk:key.length=kn)(hm:n<=1000000) :
  Ret prog 178 #[.slice a n c,.slice ka kn kc,.func (.func 179) #[] #[]] w fun v w'=>v=.tuple #[.int .i64 (CK L key:Int),.bool (Fw L key)]/\Ext [] w w':=by
 subst hk;obtain⟨w0,rfl⟩:=qD w;obtain⟨ms,R,-,hl,hok⟩:=I.ex;have hnum:=I.num;have hml:ms.length=n:=by rw[hnum,<-hl,qai]
 refine A8 (fn:=f178) func178 U [.slice a n c,.slice ka key.length kc,.func (.func 179) #[] #[]] U (Ad (Ac U (Am U (qA (Ad (Ah U (AO Bu U (Ac U (qA (Ad ?_))))))))));refine Ae U (Ac U (Ac U (qA (Ar (AB (B6 34359709184 (α:=Nat × Nat) (fun s=>[(9,.int .i64 (s.1:Int)),(10,.int .i64 (s.2:Int))]) (fun s w'=>Ext [] w0 w'/\s.1<=s.2/\s.2<=n/\bsN L key s.1 s.2=CK L key) (fun s=>s.2 - s.1) (0,n) U ?_ ?_ ?_))))))
 .exact⟨rfl,rfl,trivial⟩
 .exact⟨.refl _ _,qak _,qae _,by rw[CK,<-hnum]⟩
 .rintro⟨i,k⟩ j w ⟨hx,hik,hk,hbs⟩;dsimp only at hx hik hk hbs;dsimp only;refine Ar (Ad (Ae U (Ae U (Bj U U (qA (Av _ U ?_ ?_))))))
  .intro h1;replace h1:=AR h1;obtain⟨h,hh⟩:=qD ((i+k) / 2 ^ 1);have hh2:h=(i+k) / 2:=hh;obtain⟨x,hx5⟩:=AP (l:=ms) (i:=h);have hxL:=Im.at hl hx5;have hxo:=hok x (qad hx5);rw[Z7 (by omega),<-hh2,hxL]at hbs;simp only[qbd,qdr]at hbs;refine Ap (Aa (AB (Ad (Ae U (Ae U (Ay U U ?_))))));refine DN U Gs Anw (Rh (n:=1) U U U ?_);refine EX U Anw Gs (Ac U (qA ?_));rw[<-hh];refine Ad (DY U (.func _ _ _) U ?_);refine Ah U (Ae U (AY R Bu Bn U U ?_));refine EN _ Dq Bn U U ((R.ext0 hx).row hx5 U) (Ah U (KP U U qB (UH (hxo.call hx) ka kc _ key (Rk.ext0 hx) U) U ?_));rintro v w2 ⟨rfl,hx30⟩;refine Bj U U (qA (Av _ U ?_ ?_))
   .intro h2;replace h2:=AR h2;rw[if_pos h2]at hbs;refine Au (Ae U (Ay U U ?_));refine Ac U (Ab (AE (Aa ?_)));exact⟨(h+1,k),rfl,⟨rfl,rfl,trivial⟩,⟨hx.trans hx30,by dsimp only;omega,hk,hbs⟩,by dsimp only;omega⟩
   .intro h2;replace h2:=AU h2;rw[if_neg (by omega)]at hbs;refine Au (Ae U (Ac U (Ab (AE (Aa ?_)))));exact⟨(i,h),rfl,⟨rfl,rfl,trivial⟩,⟨hx.trans hx30,by dsimp only;omega,by dsimp only;omega,hbs⟩,by dsimp only;omega⟩
  .intro h1;replace h1:=AU h1;rw[NX]at hbs;refine B2 (Aw (Aw (AZ (Aa (Ad (Ae U (Ae U (Ae U (Bj U U (AF U (AQ 39 U ?_ ?_)))))))))))
   .intro h2;replace h2:=AR h2;obtain⟨x,hx5⟩:=AP (l:=ms) (i:=i);have hxL:=Im.at hl hx5;have hxo:=hok x (qad hx5);refine DY U (.func _ _ _) U (Ah U (Ae U (AY R Bu Bn U U ?_)));refine EN _ Dq Bn U U ((R.ext0 hx).row hx5 U) (Ah U (KP U U qB (UH (hxo.call hx) ka kc _ key (Rk.ext0 hx) U) U ?_));rintro v w2 ⟨rfl,hx46⟩;refine BA U U (AN U (.bool _) U (Ac U (Am U (qA (A6 (Cs (v1:=(.int _ _)) (v2:=(.bool _)) U U U U ?_))))));refine⟨?_,hx.trans hx46⟩;rw[Fw,<-hbs,hxL]
   .intro h2;replace h2:=AU h2;refine Ag U (Ag U (Ag U (Ag U (Ag U (Ag U (Ag U (Ag U (AM U (.bool _) U (Ac U ?_)))))))));refine Am U (qA (A6 (Cs (v1:=(.int _ _)) (v2:=(.bool _)) U U U U ?_)));refine⟨?_,hx⟩;have hnone:L[i]?=none:=qbz (by omega);rw[Fw,<-hbs,hnone]
theorem SC{w:World}{M:Mut}{a:Option Addr}{n c:Nat}{L:List It}(I:Its w M a n c L)(ka:Option Addr)(kc kn:Nat)(key:Byt)(Rk:Rd w ka 1 B8 key)(hk:key.length=kn)(hm:n<=1000000:=by omega):
  Ret prog 146 #[.slice a n c,.slice ka kn kc] w fun v w'=>v=.tuple #[.int .i64 (CK L key:Int),.bool (Fw L key)]/\Ext [] w w':=by
 subst hk;refine A8 (fn:=f146) func146 U [.slice a n c,.slice ka key.length kc] U (Ad (Ac U (Am U (qA (Ad (Ah U (Ah U (Aj qB (Adx I ka kc _ key Rk U hm) U ?_))))))));rintro v w2 ⟨rfl,hx8⟩;refine Ai U U (Ai U U (Ac U (Am U (qA (A6 (Cs (v1:=(.int _ _)) (v2:=(.bool _)) U U U U ?_))))));exact⟨rfl,hx8⟩
theorem SD{w:World}{M:Mut}(inner:Bool)(a:Option Addr)(n c:Nat){x:Im}(hx:x.Ok w M)(hk:x.it.key.length<=1000000:=by omega)(hv:x.it.val.length<=1000000:=by omega):
  Ret prog 156 #[.agg #[.bool inner,.slice a n c],.agg x.enc.toArray] w fun v w'=>v=.int .i64 (CM inner x.it:Int)/\Ext [] w w':=by
 obtain⟨w0,rfl,H⟩:=qE w;refine A8 (fn:=f156) func156 U [.agg #[.bool inner,.slice a n c],.agg x.enc.toArray] U (Ad (Cu [.bool inner,.slice a n c] (.agg _) U U H ?_));rintro b2 w - H;refine Cu x.enc (.agg _) U U H ?_;rintro b3 w - H;refine Ac U (qA (Ar (Ad (Af Dy U (AH Ge U H at1 U (qA (Av _ U ?_ ?_)))))))
 .intro h1;subst h1;refine Ad (Af FF U (AH B1 U H at0 U (AO AX U (Ay U U ?_))));refine Ac U (qA (A6 (Ao (AG (v:=(.int _ _)) U U U ?_))));exact⟨rfl,H.ext⟩
 .intro h1;subst h1;refine Ap (Aa (Ad (Af FF U (AH B1 U H at0 U (AO AX U (Ay U U ?_))))));refine Af Ld U (AH B1 U H at0 U (AO AX U (Ay U U ?_)));refine Ac U (qA (A6 (AG (v:=(.int _ _)) U U U ?_)));exact⟨rfl,H.ext⟩
abbrev SB:=Option Addr × Byt × Nat
def Aiq(x:SB):List Value:=[.slice x.1 x.2.1.length x.2.2]
def RdS(w:World)(x:SB):Prop:=Rd w x.1 1 B8 x.2.1/\x.2.1.length<=x.2.2
theorem RdS.ext0{w w':World}{x:SB}(h:RdS w x)(hx:Ext [] w w'):RdS w' x:=⟨h.1.ext0 hx,h.2⟩
def Dt(b:Byt):UInt8:=bif decide (Fe b=0)then GK b else 0
def BE(b:Byt):Byt:=bif decide (Fe b=0)then CS b else[]
theorem Alw{b:Byt}{w w':World}{v:Value}(h:NN b w v w'):∃a c,v=.tuple #[bv (Dt b),.slice a (BE b).length c,.int .i64 (Fe b)]/\Ext [] w w'/\Rd w' a 1 B8 (BE b)/\(BE b).length<=c:=by
 rcases h with⟨h,rfl,hx⟩|⟨h,s,rfl,F⟩
 .exact⟨none,0,by rw[Dt,BE,qag h];rfl,hx,by rw[BE,qag h];exact Rd.nil,by rw[BE,qag h];exact qae _⟩
 .obtain⟨a,c,rfl,R,hc⟩:=Fresh.rdB F;exact⟨a,c,by rw[Dt,BE,h];rfl,F.ext,by rw[BE,h];exact R,by rw[BE,h];exact hc⟩
theorem Pj(b:Byt):(BE b).length<=505:=by
 unfold BE;cases decide (Fe b=0)
 .exact qak _
 .show(CS b).length<=505;unfold CS IY;rw[qa0,qa0];omega
theorem Air(k:Nat)(w:World)(hk:k<=100000000000:=by omega):Ret prog 141 #[.slice none 0 0,.int .i64 (k:Int)] w fun v w'=>∃a c full,v=.slice a 0 c/\Ctx w [] w' (ent a 5 full)/\OS a 0 c 1 full []:=by
 obtain⟨w0,rfl,H⟩:=qE w;refine A8 (fn:=f141) func141 U [.slice none 0 0,.int .i64 (k:Int)] U (Ad (Ak U (qA (Ar (Ad (Ae U (Bj U U ?_)))))));rw[qag (show ¬(k:Int)<0 by omega)];refine qA (Bz U (Ap (Aa (Ar (Ad (Ae U (Ah U (V7 U AX U (Ah U (AO AX U ?_))))))))));refine BD U U (BD U U ?_);rw[show(k:Int) - (((0:Nat):Int) - ((0:Nat):Int))=(k:Int)by omega];refine Ac U (qA (Ad (Ae U (BZ U U (qA (Av _ U ?_ ?_))))))
 .intro h1;replace h1:=AR h1;refine Au (Ah U (Ah U (V7 U AX U (Eg AX CJ U U ?_))));refine Ae U (WH U AX Gs CJ OZ IW U U U H ?_);rintro b c full w H O hkc;refine Ah U (AO AX U (Eg AX CJ U U ?_));refine Ak U (qA (Ad (Ah U (Ak U (qA (A6 (AG (v:=(.slice _ _ _)) U U U ?_)))))));exact⟨some ⟨b,0,none⟩,c,full,rfl,H,O⟩
 .intro h1;replace h1:=AU h1;refine Ap (Aa (Ad (Ah U (Ak U (qA (A6 (AG (v:=(.slice _ _ _)) U U U ?_)))))));exact⟨none,0,[],rfl,H,OS.nil⟩
theorem Pm{α β:Type}{l:List α}{i:Nat}{x:α}(f:α->List β)(h:l[i]?=some x):(l.take (i+1)).flatMap f=(l.take i).flatMap f++f x:=by
 rw[Bp h,qbc,qb0]
theorem NY{α:Type}{l:List α}{i:Nat}{x:α}(f:α->Nat)(h:l[i]?=some x):((l.take (i+1)).map f).sum=((l.take i).map f).sum+f x:=by
 rw[Bp h,qay,List.sum_append];simp
theorem NZ{α:Type}(l:List α)(i:Nat)(f:α->Nat):((l.take i).map f).sum<=(l.map f).sum:=by
 have h:(l.map f).sum=((l.take i).map f).sum+((l.drop i).map f).sum:=by rw[<-List.sum_append,<-qay,qbl]
 omega
theorem Oa{α β:Type}(l:List α)(f:α->List β):(l.flatMap f).length=(l.map fun x=>(f x).length).sum:=by
 rw[List.length_flatMap]
theorem Z8{w:World}{a:Option Addr}{n c:Nat}(xs:List SB)(R:Rd w a 1 Aiq xs)(hx:∀x∈xs,RdS w x)(hn:n=xs.length)(hm:n<=1000000)(hs:(xs.map fun x=>x.2.1.length).sum<=10000000000:=by omega):
  Ret prog 116 #[.slice a n c] w fun v w'=>Fresh w w' 5 1 v ((xs.flatMap fun x=>x.2.1).map bv):=by
 subst hn;obtain⟨w0,rfl,H⟩:=qE w;refine A8 (fn:=f116) func116 U [.slice a xs.length c] U (Ad (Ak U (qA (Ad (Ac U (qA (Ar (Ad (Ah U (AO EZ U ?_))))))))));refine Ae U (qA (AB (B6 8386600 (α:=Nat) (fun i=>[(11,.int .i64 (i:Int)),(3,.int .i64 ((((xs.take i).map fun x=>x.2.1.length).sum:Nat):Int))]) (fun i w'=>w0=w'/\i<=xs.length) (fun i=>xs.length - i) 0 U ?_ ?_ ?_)))
 .exact⟨rfl,rfl,trivial⟩
 .exact⟨rfl,qak _⟩
 .rintro i j w ⟨rfl,hi⟩;refine Ad (Bj U U (qA (Ar (Av _ U ?_ ?_))))
  .intro h1;replace h1:=AR h1;obtain⟨x,hx1⟩:=AP (l:=xs) (i:=i);have hsn:=NY (fun x:SB=>x.2.1.length) hx1;have hst:=NZ xs (i+1) (fun x:SB=>x.2.1.length);refine Ap (Aa (Ar (AB (Ad (AY R EZ Gg U U (hn:=by rfl) ?_)))));refine Bd B1 U (R.fld hx1 U (j:=0) U) (Ak U (qA (Ad (Ae U (Ah U (AO AX U (Ay U U ?_)))))));refine Ac U (qA (Ad (Ae U (Bj U U ?_))));rw[qag (show ¬(_:Int)<0 by omega)];refine qA (Bz U (Ap (AE (Aa (Au (Ay U U ?_))))));refine Ae U (qA ?_);exact⟨i+1,rfl,⟨rfl,qab (Value.int .i64) (by rw[hsn];rfl),trivial⟩,⟨rfl,by omega⟩,by omega⟩
  .intro h1;replace h1:=AU h1;have hii:i=xs.length:=by omega
   subst hii;rw[qbf];refine B2 (Aw (Aw (AZ (Aa (Ad (Ae U (Aj qB (Air _ _) U ?_)))))));rintro v w ⟨a24,c24,full24,rfl,H,O⟩;refine Ak U (qA (Ar (Ad (Ah U (AO EZ U (Ae U (qA (AB (B6 34225520960 (α:=Nat × Option Addr × Nat × List Value) (fun s=>[(27,.int .i64 (s.1:Int)),(6,.slice s.2.1 ((xs.take s.1).flatMap fun x=>x.2.1).length s.2.2.1)]) (fun s w'=>s.1<=xs.length/\Ctx w0 [] w' (ent s.2.1 5 s.2.2.2)/\OS s.2.1 ((xs.take s.1).flatMap fun x=>x.2.1).length s.2.2.1 1 s.2.2.2 (((xs.take s.1).flatMap fun x=>x.2.1).map bv)) (fun s=>xs.length - s.1) (0,a24,c24,full24) U ?_ ?_ ?_)))))))))
   .exact⟨rfl,rfl,trivial⟩
   .exact⟨qak _,H,O⟩
   .rintro⟨i,a6,c6,full6⟩ j w ⟨hi,H,O⟩;dsimp only at hi H O;dsimp only;refine Ad (Bj U U (qA (Ar (Av _ U ?_ ?_))))
    .intro h2;replace h2:=AR h2;obtain⟨x,hx1⟩:=AP (l:=xs) (i:=i);have hxs:=hx x (qad hx1);have hsn:=NY (fun x:SB=>x.2.1.length) hx1;have hst:=NZ xs (i+1) (fun x:SB=>x.2.1.length);have hfl:=Oa (xs.take i) (fun x:SB=>x.2.1);have hfs:=Pm (fun x:SB=>x.2.1) hx1;refine Ap (Aa (Ar (AB (Ad (AY R EZ Gg U U (hn:=by rfl) ?_)))));refine Bd B1 U ((R.ext0 H.ext).fld hx1 U (j:=0) U) (Ak U (qA (Au (Ah U (Ah U (DQ (L:=[]) U AX AX CJ OZ IW U (x.2.1.map bv) U U H O (by simp) (Ht _) (Rd.appB (hxs.1.ext0 H.ext)) ?_))))));rintro a7 c7 full7 w H O;rw[<-qay,<-hfs]at O;rw[<-qan,<-hfs]at O;rw[<-qan,<-hfs];refine Ak U (Ab (AE (Aa (Au (Ay U U ?_)))));refine Ae U (qA ?_)
     exact⟨(i+1,a7,c7,full7),rfl,⟨rfl,rfl,trivial⟩,⟨by dsimp only;omega,H,O⟩,by dsimp only;omega⟩
    .intro h2;replace h2:=AU h2;have hii:i=xs.length:=by omega
     subst hii;rw[qbf]at O;rw[qbf];refine B2 (Aw (Aw (AZ (Aa (Ad (Ah U (Ak U (qA (A6 (AG (v:=(.slice _ _ _)) U U U ?_))))))))));exact Ctx.fresh (L:=[]) H O
theorem Ais(k:Nat)(w:World)(hk:k<=100000000000:=by omega):Ret prog 180 #[.slice none 0 0,.int .i64 (k:Int)] w fun v w'=>∃a c full,v=.slice a 0 c/\Ctx w [] w' (ent a 185 full)/\OS a 0 c 3 full []:=by
 obtain⟨w0,rfl,H⟩:=qE w;refine A8 (fn:=f180) func180 U [.slice none 0 0,.int .i64 (k:Int)] U (Ad (Ak U (qA (Ar (Ad (Ae U (Bj U U ?_)))))));rw[qag (show ¬(k:Int)<0 by omega)];refine qA (Bz U (Ap (Aa (Ar (Ad (Ae U (Ah U (V7 U Bu U (Ah U (AO Bu U ?_))))))))));refine BD U U (BD U U ?_);rw[show(k:Int) - (((0:Nat):Int) - ((0:Nat):Int))=(k:Int)by omega];refine Ac U (qA (Ad (Ae U (BZ U U (qA (Av _ U ?_ ?_))))))
 .intro h1;replace h1:=AR h1;refine Au (Ah U (Ah U (V7 U Bu U (Eg Bu Bn U U ?_))));refine Ae U (WH U Bu Gs Bn Kn C2 U U U H ?_);rintro b c full w H O hkc;refine Ah U (AO Bu U (Eg Bu Bn U U ?_));refine Ak U (qA (Ad (Ah U (Ak U (qA (A6 (AG (v:=(.slice _ _ _)) U U U ?_)))))));exact⟨some ⟨b,0,none⟩,c,full,rfl,H,O⟩
 .intro h1;replace h1:=AU h1;refine Ap (Aa (Ad (Ah U (Ak U (qA (A6 (AG (v:=(.slice _ _ _)) U U U ?_)))))));exact⟨none,0,[],rfl,H,OS.nil⟩
abbrev SI:=Option Addr × List It × Nat
def Ob(x:SI):List Value:=[.slice x.1 x.2.1.length x.2.2]
theorem Im.one(ms:List Im):∀v∈ms.flatMap Im.enc,Bh v=true:=fun v hv=>by
 obtain⟨m,_,hv⟩:=qem.1 hv;simp only[Im.enc,qac,qam,or_false]at hv
 rcases hv with rfl|rfl|rfl <;> rfl
theorem Im.flat_len(ms:List Im):(ms.flatMap Im.enc).length=ms.length*3:=by
 rw[List.length_flatMap]
 induction ms with
 |nil=>rfl
 |cons m ms ih=>rw[qaz,qc5,ih,qav];show 3+_=_;omega
theorem Gw{w:World}{M:Mut}(hM:∀x,M x->x<w.heap.size){a:Option Addr}{n c:Nat}(xs:List SI)(R:Rd w a 1 Ob xs)(hx:∀x∈xs,Its w M x.1 x.2.1.length x.2.2 x.2.1)(hn:n=xs.length)(hs:(xs.map fun x=>x.2.1.length).sum<=100000000)(hm:n<=1000000:=by omega):
  Ret prog 147 #[.slice a n c] w fun v w'=>∃a' c',v=.slice a' (xs.flatMap fun x=>x.2.1).length c'/\Its w' M a' (xs.flatMap fun x=>x.2.1).length c' (xs.flatMap fun x=>x.2.1)/\Ext [] w w':=by
 subst hn;obtain⟨w0,rfl,H⟩:=qE w;refine A8 (fn:=f147) func147 U [.slice a xs.length c] U (Ad (Ak U (qA (Ad (Ac U (qA (Ar (Ad (Ah U (AO IU U ?_))))))))));refine Ae U (qA (AB (B6 8386600 (α:=Nat) (fun i=>[(11,.int .i64 (i:Int)),(3,.int .i64 ((((xs.take i).map fun x=>x.2.1.length).sum:Nat):Int))]) (fun i w'=>w0=w'/\i<=xs.length) (fun i=>xs.length - i) 0 U ?_ ?_ ?_)))
 .exact⟨rfl,rfl,trivial⟩
 .exact⟨rfl,qak _⟩
 .rintro i j w ⟨rfl,hi⟩;refine Ad (Bj U U (qA (Ar (Av _ U ?_ ?_))))
  .intro h1;replace h1:=AR h1;obtain⟨x,hx1⟩:=AP (l:=xs) (i:=i);have hsn:=NY (fun x:SI=>x.2.1.length) hx1;have hst:=NZ xs (i+1) (fun x:SI=>x.2.1.length);refine Ap (Aa (Ar (AB (Ad (AY R IU CP U U (hn:=by rfl) ?_)))));refine Bd BT U (R.fld hx1 U (j:=0) U) (Ak U (qA (Ad (Ae U (Ah U (AO Bu U (Ay U U ?_)))))));refine Ac U (qA (Ad (Ae U (Bj U U ?_))));rw[qag (show ¬(_:Int)<0 by omega)];refine qA (Bz U (Ap (AE (Aa (Au (Ay U U ?_))))));refine Ae U (qA ?_);exact⟨i+1,rfl,⟨rfl,qab (Value.int .i64) (by rw[hsn];rfl),trivial⟩,⟨rfl,by omega⟩,by omega⟩
  .intro h1;replace h1:=AU h1;have hii:i=xs.length:=by omega
   subst hii;rw[qbf];refine B2 (Aw (Aw (AZ (Aa (Ad (Ae U (Aj qB (Ais _ _) U ?_)))))));rintro v w ⟨a24,c24,full24,rfl,H,O⟩;refine Ak U (qA (Ar (Ad (Ah U (AO IU U (Ae U (qA (AB (B6 34225520960 (α:=Nat × Option Addr × Nat × List Value × List Im) (fun s=>[(27,.int .i64 (s.1:Int)),(6,.slice s.2.1 s.2.2.2.2.length s.2.2.1)]) (fun s w'=>s.1<=xs.length/\Ctx w0 [] w' (ent s.2.1 185 s.2.2.2.1)/\OS s.2.1 s.2.2.2.2.length s.2.2.1 3 s.2.2.2.1 (s.2.2.2.2.flatMap Im.enc)/\s.2.2.2.2.map (·.it)=(xs.take s.1).flatMap (fun x=>x.2.1)/\∀m∈s.2.2.2.2,m.Ok w0 M) (fun s=>xs.length - s.1) (0,a24,c24,full24,[]) U ?_ ?_ ?_)))))))))
   .exact⟨rfl,rfl,trivial⟩
   .exact⟨qak _,H,O,rfl,fun m hm=>by cases hm⟩
   .rintro⟨i,a6,c6,full6,ms⟩ j w ⟨hi,H,O,hms,hmo⟩;dsimp only at hi H O hms hmo;dsimp only;refine Ad (Bj U U (qA (Ar (Av _ U ?_ ?_))))
    .intro h2;replace h2:=AR h2;obtain⟨x,hx1⟩:=AP (l:=xs) (i:=i);obtain⟨ns,Rn,-,hnl,hno⟩:=(hx x (qad hx1)).ex;have hnn:ns.length=x.2.1.length:=by rw[<-hnl,qai]
     have hsn:=NY (fun x:SI=>x.2.1.length) hx1;have hst:=NZ xs (i+1) (fun x:SI=>x.2.1.length);have hfl:=Oa (xs.take i) (fun x:SI=>x.2.1);have hml:ms.length=((xs.take i).flatMap fun x=>x.2.1).length:=by rw[<-hms,qai]
     have hfs:=Pm (fun x:SI=>x.2.1) hx1;refine Ap (Aa (Ar (AB (Ad (AY R IU CP U U (hn:=by rfl) ?_)))));refine Bd BT U ((R.ext0 H.ext).fld hx1 U (j:=0) U) (Ak U (qA (Au (Ah U (Ah U (DQ (L:=[]) U Bu Bu Bn Kn C2 U (ns.flatMap Im.enc) U U H O (by rw[Im.flat_len,hnn]) (Im.one _) ((Rn.ext0 H.ext).app (fun _ _=>rfl) (by decide)) ?_))))));rintro a7 c7 full7 w H O;rw[<-qbc,<-hnn,<-qan]at O;rw[<-hnn,<-qan];refine Ak U (Ab (AE (Aa (Au (Ay U U ?_)))));refine Ae U (qA ?_);refine⟨(i+1,a7,c7,full7,ms++ns),rfl,⟨rfl,rfl,trivial⟩,⟨by dsimp only;omega,H,O,by dsimp only;rw[qay,hms,hnl,hfs],fun m hm=>?_⟩,by dsimp only;omega⟩
     rcases qat.1 hm with hm|hm
     .exact hmo m hm
     .exact hno m hm
    .intro h2;replace h2:=AU h2;have hii:i=xs.length:=by omega
     subst hii;rw[qbf]at hms;have hml:ms.length=(xs.flatMap fun x=>x.2.1).length:=by rw[<-hms,qai]
     have Rm:=OS.rd O (fun x hx=>H.blk x hx) (fun _ _=>rfl) (by decide);refine B2 (Aw (Aw (AZ (Aa (Ad (Ah U (Ak U (qA (A6 (AG (v:=(.slice _ _ _)) U U U ?_))))))))));refine⟨a6,c6,by rw[hml],⟨⟨ms,Rm,?_,hms,fun m hm=>(hmo m hm).call H.ext⟩,rfl,by rw[<-hml];exact O.le⟩,H.ext⟩
     have hq:∀q:Addr,a6=some q->w0.heap.size<=q.block:=fun q hq=>by
      subst hq;exact(H.own (q.block,_) (qaa.2 U)).elim (fun h=>by cases h) id
     cases ha6:a6 with
     |none=>exact .inl (qa4 (by have h8:=O.le;have h9:=O.none' ha6;omega))
     |some q=>exact .inr fun hqM=>absurd (hM _ hqM) (Nat.not_lt.2 (hq q ha6))
theorem Lm{inner:Bool}{L:List It}(h:∀x∈L,x.key.length<=65535/\x.val.length<=65535):Bc inner L<=131076*L.length:=by
 induction L with
 |nil=>exact qak _
 |cons x L ih =>
  have h1:=h x (qaf ..);have h2:=ih fun y hy=>h y (qaj _ hy)
  have h3:CM inner x<=131076:=by
   cases inner
   .simp only[CM,cond_false];omega
   .simp only[CM,cond_true];omega
  rw[Dc,qav];omega
theorem SE{inner:Bool}{L:List It}{i:Nat}{x:It}(h:L[i]?=some x):Bc inner (L.take (i+1))=Bc inner (L.take i)+CM inner x:=by
 rw[Bp h,BB,Dc];rfl
def NB(inner:Bool)(a:Option Addr)(n c:Nat):List Value:=[.bool inner,.slice a n c]
theorem SH{w:World}{M:Mut}(inner:Bool){a:Option Addr}{n c:Nat}{L:List It}(I:Its w M a n c L)(hm:n<=1000000)(hsz:∀x∈L,x.key.length<=65535/\x.val.length<=65535) :
  Ret prog 155 #[.agg #[.bool inner,.slice a n c]] w fun v w'=>v=.int .i64 (Bc inner L:Int)/\Ext [] w w':=by
 obtain⟨w0,rfl,H⟩:=qE w;obtain⟨ms,R,-,hl,hok⟩:=I.ex;have hnum:=I.num;have hml:ms.length=n:=by rw[hnum,<-hl,qai]
 refine A8 (fn:=f155) func155 U [.agg #[.bool inner,.slice a n c]] U (Ad (Cu (NB inner a n c) (.agg _) U U H ?_));rintro b1 w - H;refine Ac U (qA (Ar (Ad (Af Br U (AH BT U H at0 U (AO Bu U (Ae U (qA (AB ?_)))))))));obtain⟨wb,rfl⟩:=qD w;have hb1:=H.get at0;have hxb:=H.ext;have hnode:∀{z:World},Ext [] wb z->z.heap[b1]?=some (Bl 183 (NB inner a n c)):=fun{z} h=>by rw[h.block b1 (Al hb1) (by simp)];exact hb1
 refine B6 261908 (α:=Nat) (fun i=>[(8,.int .i64 (i:Int)),(2,.int .i64 (Bc inner (L.take i):Int))]) (fun i w'=>i<=n/\Ext [] wb w') (fun i=>n - i) 0 U ?_ ?_ ?_
 .exact⟨rfl,rfl,trivial⟩
 .exact⟨qak _,.refl _ _⟩
 .rintro i j w ⟨hi,hx⟩;have H:=Ctx.start w [];refine Ad (Bj U U (qA (Ar (Av _ U ?_ ?_))))
  .intro h1;replace h1:=AR h1;obtain⟨x,hx1⟩:=AP (l:=ms) (i:=i);have hxL:=Im.at hl hx1;have hxo:=hok x (qad hx1);have hxs:=hsz x.it (qad hxL);have hts:=SE (inner:=inner) hxL;have htl:=Lm (inner:=inner) (L:=L.take i) fun y hy=>hsz y (qbq hy);have hlt:=qa0 (i:=i) (l:=L)
   have hsx:CM inner x.it<=131076:=by
    cases inner
    .simp only[CM,cond_false];omega
    .simp only[CM,cond_true];omega
   refine Ap (Aa (Ar (AB (Ad (AY R Bu Bn U U ?_)))));refine EN x.enc Dq Bn U U ((R.ext0 (hxb.trans hx)).row hx1 U) (Bi C2 H ?_);rintro b4 w - H;refine Bo Bn U U U (by exact Im.oneE _) H at0 U ?_;rintro w H;refine qA (Au (Ae U (EN (NB inner a n c) BQ Bg U U (fun j v hv=>by rw[Aq (hnode (hx.trans H.ext)),qa2];exact hv) ?_)));refine BO Dq Bn U H at0 U (Aj qB (SD inner a n c (hxo.call ((hxb.trans hx).trans H.ext))) U ?_);rintro v w ⟨rfl,hx15⟩;replace H:=H.call hx15;refine Ay U U (Ac U (Ab (AE (Aa (Au (Ay U U ?_))))));refine Ae U (qA ?_);exact⟨i+1,rfl,⟨rfl,qab (Value.int .i64) (by rw[hts];rfl),trivial⟩,⟨by omega,hx.trans H.ext⟩,by omega⟩
  .intro h1;replace h1:=AU h1;have hii:i=n:=by omega
   subst hii;rw[hnum,qbf];refine B2 (Aw (Aw (AZ (Aa (Ad (Ae U (Ac U (qA (A6 (AG (v:=(.int _ _)) U U U ?_))))))))));exact⟨rfl,hxb.trans hx⟩
theorem An1(l:Byt)(n:Nat):Nb l n 2=l++Bq n 2:=by rw[Nb,show HP 2=true by decide];rfl
theorem FK(a:Option Addr)(c m:Nat)(b:Byt)(sa:Option Addr)(sc sn:Nat)(s:Byt)(w:World)(R:Rd w a 1 B8 b)(hb:b.length=m)(hm:m<=1000000000)(Rs:Rd w sa 1 B8 s)(hs:s.length=sn)(hc:sn<=sc)(hn:sn<=65535:=by omega):
  Ret prog 85 #[.slice a m c,.slice sa sn sc] w fun v w'=>∃x,v=.tuple #[x,.int .i64 0]/\Fresh w w' 5 1 x ((b++(Bq s.length 2++s)).map bv):=by
 subst hb hs;obtain⟨w0,rfl⟩:=qD w;refine A8 (fn:=f85) func85 U [.slice a b.length c,.slice sa s.length sc] U (Ad (Ak U (Ac U (qA (Ar (Ad (Ah U (AO AX U (BZ U U ?_)))))))));rw[qag (show ¬(65535:Int)<(s.length:Int)by omega)];refine qA (Bz U (Ap (Aa (Ad (Ah U (Ah U (AO AX U (DN U Gs Hn ?_))))))));refine Aj qB (Gt a c _ b s.length 2 _ R U (hm:=by omega) (by omega)) U ?_;rintro v w F13;rw[An1]at F13;obtain⟨a13,c13,rfl,R13,hc13⟩:=Fresh.rdB F13;have H:=Ctx.start w [];refine Ah U (Cc (L:=[]) [.slice a13 (b++Bq s.length 2).length c13,.slice sa s.length sc] EZ Gg U3 H ?_);rintro b15 w2 - H;have hl2:(([(a13,b++Bq s.length 2,c13),(sa,s,sc)]:List SB).map fun x=>x.2.1.length).sum=b.length+2+s.length:=(by simp[Ba];try omega)
 refine Aj qB (Z8 [(a13,b++Bq s.length 2,c13),(sa,s,sc)] (Rd.of_bl (r:=[]) (H.get at0) U (fun _ _=>rfl)) (fun x hx=>?_) U (by simp)) U ?_
 rotate_left
 rintro v w3 F16;obtain⟨a16,c16,rfl,R16,hc16⟩:=Fresh.rdB F16;refine Ak U (Ac U (qA (A6 (Cs (v1:=(.slice _ _ _)) (v2:=(.int _ _)) U U U U ?_))))
 .refine⟨_,rfl,?_⟩;have F:=Fresh.since F16 (F13.ext.trans H.ext)
  simpa using F
 .rcases qac.1 hx with rfl|hx
  .exact⟨R13.ext0 H.ext,hc13⟩
  .rw[qaa.1 hx];exact⟨(Rs.ext0 F13.ext).ext0 H.ext,hc⟩
theorem UI(b:Byt)(at' k:Nat):∃(g nx:Nat),Gh b (at':Int) (k:Int)=.tuple #[.int .u64 (g:Int),.int .i64 (nx:Int),.int .i64 (Di b (at':Int) (k:Int))]/\g<256 ^ k/\nx<=at'+k/\(Di b (at':Int) (k:Int)=0->g=numN ((b.drop at').take k)/\nx=at'+k):=by
 by_cases h:Di b (at':Int) (k:Int)=0
 .refine⟨numN ((b.drop at').take k),at'+k,?_,?_,qae _,fun _=>⟨rfl,rfl⟩⟩
  .rw[Gh,h];rfl
  .have h1:=Kr ((b.drop at').take k);have h2:((b.drop at').take k).length<=k:=by rw[qa0];omega
   exact qau h1 (qc2 (by omega) h2)
 .refine⟨0,0,?_,Nat.pow_pos (by omega),by omega,fun h'=>absurd h' h⟩;rw[Gh,qag h];rfl
theorem UJ(b:Byt)(at':Nat):∃(g nx:Nat),Gh b (at':Int) 2=.tuple #[.int .u64 (g:Int),.int .i64 (nx:Int),.int .i64 (Di b (at':Int) 2)]/\g<65536/\nx<=at'+2/\(Di b (at':Int) 2=0->g=numN ((b.drop at').take 2)/\nx=at'+2):=UI b at' 2
theorem Ady(b:Byt)(at':Nat):∃(g nx:Nat),Gh b (at':Int) 4=.tuple #[.int .u64 (g:Int),.int .i64 (nx:Int),.int .i64 (Di b (at':Int) 4)]/\g<4294967296/\nx<=at'+4/\(Di b (at':Int) 4=0->g=numN ((b.drop at').take 4)/\nx=at'+4):=UI b at' 4
theorem Hg(a:Option Addr)(c m:Nat)(b:Byt)(at':Nat)(w:World)(R:Rd w a 1 B8 b)(hb:b.length=m)(hc:m<=c)(hm:m<=1000000000:=by omega)(ha:at'<=1000000000:=by omega):
  Ret prog 101 #[.slice a m c,.int .i64 (at':Int)] w fun v w'=>∃sa s sc nx e,v=.tuple #[.slice sa (List.length s) sc,.int .i64 ((nx:Nat):Int),.int .i64 e]/\Ext [] w w'/\Rdx w' (Old w) sa s/\s.length<=sc/\s.length<=b.length/\nx<=b.length/\(e=0->tbO b at'=some (s,nx))/\(e≠0->tbO b at'=none/\s=[]):=by
 subst hb;obtain⟨w0,rfl⟩:=qD w;obtain⟨g,nx,htv,hg,hnx,h0⟩:=UJ b at';refine A8 (fn:=f101) func101 U [.slice a b.length c,.int .i64 (at':Int)] U (Ad (Ak U (Ac U (Ac U (qA (Ad (Ah U (Ae U (Aj qB (He a c _ b (at':Int) 2 _ R U hc) U ?_)))))))));rintro v w ⟨rfl,hx12⟩;rw[htv];refine AW U (Ai U U (Ai U U (Ai U U (Ac U (Ac U (Ac U (qA (Ar (Ad ?_)))))))));refine Ae U (Be U U (qA (Av _ U ?_ ?_)))
 .intro h1;replace h1:=Bv h1;have hn:tbO b at'=none:=by unfold tbO;rw[if_neg h1]
  refine Ad (Ae U (Ak U (Ac U (Ac U (qA (A6 (Ao (CX (v1:=(.slice _ _ _)) (v2:=(.int _ _)) (v3:=(.int _ _)) U U U U U ?_))))))));exact⟨none,[],0,0,_,rfl,hx12,Rdx.nil,qae _,qak _,qak _,fun h=>absurd h h1,fun _=>⟨hn,rfl⟩⟩
 .intro h1;replace h1:=Bw h1;obtain⟨hg2,hnx2⟩:=h0 h1;subst hnx2;have ht:tbO b at'=if at'+2+g<=b.length then some ((b.drop (at'+2)).take g,at'+2+g)else none:=by unfold tbO;rw[if_pos h1,<-hg2]
  refine Ap (Aa (Ar (Ad (Ae U (Ae U (EX U Hn Gs ?_))))));refine Ay U U ?_;rw[show((at'+2:Nat):Int)+(g:Int)=((at'+2+g:Nat):Int)by omega];refine Ac U (qA (Ad (Ae U (Ah U (AO AX U (BZ U U (qA (Av _ U ?_ ?_))))))))
  .intro h2;replace h2:=AR h2;rw[if_neg (by omega)]at ht;refine Ad (Ak U (Ac U (Ac U (qA (A6 (Ao (CX (v1:=(.slice _ _ _)) (v2:=(.int _ _)) (v3:=(.int _ _)) U U U U U ?_)))))));exact⟨none,[],0,0,5,rfl,hx12,Rdx.nil,qae _,qak _,qak _,fun h=>absurd h (by decide),fun _=>⟨ht,rfl⟩⟩
  .intro h2;replace h2:=AU h2;rw[if_pos (by omega)]at ht;have R2:Rd w (EH a c (at'+2) 1) 1 B8 ((b.drop (at'+2)).take g):=((R.ext0 hx12).cut (at'+2) c hc).take g;have hl2:((b.drop (at'+2)).take g).length=g:=by rw[qa0,qbg];omega
   refine Ap (Aa (Ad (Ah U (Ae U (Ae U (JA U AX CJ U U U ?_))))));rw[qbp,qbp,show at'+2+g - (at'+2)=g by omega];refine Aj qB (JN _ _ g _ _ R2 hl2) U ?_;rintro v w3 ⟨F31,-⟩;obtain⟨a31,c31,rfl,R31,hc31,hn31⟩:=Fresh.newB F31;refine Ae U (Ak U (Ac U (Ac U (qA (A6 (CX (v1:=(.slice _ _ _)) (v2:=(.int _ _)) (v3:=(.int _ _)) U U U U U ?_))))));have hsz:=hx12.size;exact⟨a31,_,c31,at'+2+g,0,rfl,hx12.trans F31.ext,⟨R31,hn31.imp id fun h h2=>by unfold Old at h2;omega⟩,hc31,by rw[hl2];omega,by omega,fun _=>ht,fun h=>absurd rfl h⟩
theorem Old.mono{w w':World}{S:List Nat}(hx:Ext S w w'):∀x,Old w x->Old w' x:=fun _ h=>qau h hx.size
theorem Apg(inner:Bool)(a:Option Addr)(c m:Nat)(b:Byt)(at':Nat)(w:World)(R:Rd w a 1 B8 b)(hb:b.length=m)(hc:m<=c)(hm:m<=100000000:=by omega)(ha:at'<=100000000:=by omega):
  Ret prog 211 #[.bool inner,.slice a m c,.int .i64 (at':Int)] w fun v w'=>∃(x:Im) (nx:Nat) (e:Int),v=.tuple #[.agg x.enc.toArray,.int .i64 (nx:Int),.int .i64 e]/\Ext [] w w'/\x.Ok w' (Old w)/\nx<=b.length/\x.it.key.length<=b.length/\x.it.val.length<=b.length/\x.it.page<4294967296/\(e=0->Ni inner b at'=some (x.it,nx))/\(e≠0->Ni inner b at'=none):=by
 subst hb;obtain⟨w0,rfl,H⟩:=qE w;refine A8 (fn:=f211) func211 U [.bool inner,.slice a b.length c,.int .i64 (at':Int)] U (Ad (Bi C2 H ?_));rintro b6 w - H;refine Ac U (Ac U (qA (Ar (Ad (AF U (qA (Av _ U ?_ ?_)))))))
 .intro hi;subst hi;obtain⟨g,nx,htv,hg,hnx,h0⟩:=Ady b at';refine Ad (Ah U (Ae U (Aj qB (He a c _ b (at':Int) 4 _ (R.ext0 H.ext) U hc) U ?_)));rintro v w ⟨rfl,hx16⟩;rw[htv];replace H:=H.call hx16;refine AW U (Ai U U (Ai U U (Ai U U (Ac U (Ac U (Ac U (qA (Ar (Ad ?_)))))))));refine Ae U (Be U U (qA (Av _ U ?_ ?_)))
  .intro h1;replace h1:=Bv h1;refine Ad (BO Dq Bn U H at0 U (Ae U (Bo Bn U U U (by simp[Bh]) H at0 U ?_)));rintro w H;refine Ac U (Ac U (qA (A6 (Ao (Ao (NA U U U Dq Bn H at0 U (show _=(.int _ _)from rfl) (show _=(.int _ _)from rfl) ?_))))));refine⟨⟨none,0,none,0,⟨[],[],0⟩⟩,0,_,rfl,H.ext,⟨Rdx.nil,Rdx.nil,qae _,qae _⟩,qak _,qak _,qak _,by decide,fun h=>absurd h h1,fun _=>?_⟩;unfold Ni;rw[if_pos rfl,if_neg h1]
  .intro h1;replace h1:=Bw h1;obtain⟨hg2,hnx2⟩:=h0 h1;subst hnx2;refine Ap (Aa (Au (Ae U (EX U Hn Gs ?_))));refine Ae U (Af Gf U (Bf (.int _ _) HN U U U H at0 (by decide) ?_));rintro w H;refine Ac U (qA (Ad (Ah U (Ae U (Aj qB (Hg a c _ b (at'+4) _ (R.ext0 H.ext) U hc) U ?_)))));have hxw:=H.ext;have hb6:=H.lt (k:=0) rfl;rintro v w3 ⟨sa,s,sc,ny,e,rfl,hx31,X31,hsc,hsl,hny,he0,he1⟩;have Hold:=H.call hx31;replace H:=Ctx.startL (fun x hx=>Hold.blk x hx) Hold.nd;have hge:=(Hold.own _ (qaf ..)).elim (fun h=>by cases h) id;refine AW U (Ai U U (Ai U U (Ai U U (Af FF U (Bf (.slice _ _ _) Gg U U U H at0 (by(simp;done)) ?_)))));rintro w H;refine Ac U (Ac U (qA (Ar (Ad (Ae U (BA U U (AF U (AQ 38 U ?_ ?_))))))))
   .intro h2;replace h2:=AR h2;refine AF U (Cl U (AN U (.bool _) U (qA (Bz U (Ap (Aa (Ad (BO Dq Bn U H at0 U (Ae U (Ae U ?_))))))))));refine Bo Bn U U U (by simp[Bh]) H at0 U ?_;rintro w H;refine Ac U (Ac U (qA (A6 (NA U U U Dq Bn H at0 U (show _=(.int _ _)from rfl) (show _=(.int _ _)from rfl) ?_))));have X:=(X31.past H.ext (fun x hx=>by rw[qaa.1 hx];exact hb6)).weak (Old.mono hxw);refine⟨⟨sa,sc,none,0,⟨s,[],g⟩⟩,ny,e,rfl,Hold.ext.then H.ext (fun x hx => .inr (by rw[qaa.1 hx];exact hge)),⟨X,Rdx.nil,hsc,qae _⟩,hny,hsl,qak _,hg,fun h=>?_,fun h=>absurd h2 h⟩;unfold Ni;rw[if_pos rfl,if_pos h1,he0 h,<-hg2]
   .intro h2;replace h2:=AU h2;refine Ag U (Ag U (AM U (.bool _) U (qA (Bz U (Ap (Aa (Ad (BO Dq Bn U H at0 U (Ae U (Ae U ?_))))))))));refine Bo Bn U U U (by simp[Bh]) H at0 U ?_;rintro w H;refine Ac U (Ac U (qA (A6 (NA U U U Dq Bn H at0 U (show _=(.int _ _)from rfl) (show _=(.int _ _)from rfl) ?_))));have X:=(X31.past H.ext (fun x hx=>by rw[qaa.1 hx];exact hb6)).weak (Old.mono hxw);refine⟨⟨sa,sc,none,0,⟨s,[],g⟩⟩,ny,e,rfl,Hold.ext.then H.ext (fun x hx => .inr (by rw[qaa.1 hx];exact hge)),⟨X,Rdx.nil,hsc,qae _⟩,hny,hsl,qak _,hg,fun h=>absurd h h2,fun _=>?_⟩;unfold Ni;rw[if_pos rfl,if_pos h1,(he1 h2).1]
 .intro hi;subst hi;refine Ap (Aa (Ad (Ah U (Ae U (Aj qB (Hg a c _ b at' _ (R.ext0 H.ext) U hc) U ?_)))));have hxw:=H.ext;have hb6:=H.lt (k:=0) rfl;rintro v w3 ⟨sa,s,sc,ny,e,rfl,hx31,X31,hsc,hsl,hny,he0,he1⟩;have Hold:=H.call hx31;replace H:=Ctx.startL (fun x hx=>Hold.blk x hx) Hold.nd;have hge:=(Hold.own _ (qaf ..)).elim (fun h=>by cases h) id;refine AW U (Ai U U (Ai U U (Ai U U (Af FF U (Bf (.slice _ _ _) Gg U U U H at0 (by decide) ?_)))));rintro w H;refine Ac U (Ac U (qA (Ar (Ad (Ae U (BA U U (AF U (AQ 38 U ?_ ?_))))))))
  .intro h2;replace h2:=AR h2;have hx3:=Hold.ext;refine AF U (Cl U (AN U (.bool _) U (qA (EI U (Au (Ah U (Ae U ?_)))))));have hE0:Ext [] w0 _:=Hold.ext.then H.ext (fun x hx => .inr (by rw[qaa.1 hx];exact hge));refine Aj qB (Hg a c _ b ny _ (R.ext0 hE0) U hc) U ?_;have hb6b:=H.lt (k:=0) rfl;rintro v w5 ⟨va,t,vc,nz,e2,rfl,hx45,X45,hvc,hvl,hnz,hf0,hf1⟩;have Hold2:=H.call hx45;replace H:=Ctx.startL (fun x hx=>Hold2.blk x hx) Hold2.nd;refine AW U (Ai U U (Ai U U (Ai U U (Af Ld U (Bf (.slice _ _ _) Gg U U U H at0 (by(simp;done)) ?_)))));rintro w H;refine Ac U (Ac U (qA (Ad (BO Dq Bn U H at0 U (Ae U (Ae U (Bo Bn U U U (by simp[Bh]) H at0 U ?_)))))));rintro w H;refine Ac U (Ac U (qA (A6 (NA U U U Dq Bn H at0 U (show _=(.int _ _)from rfl) (show _=(.int _ _)from rfl) ?_))))
   have X1:=((X31.past Hold2.ext (fun x hx=>by rw[qaa.1 hx];exact hb6)).past H.ext (fun x hx=>by rw[qaa.1 hx];exact hb6)).weak (Old.mono hxw);have X2:=(X45.past H.ext (fun x hx=>by rw[qaa.1 hx];exact hb6b)).weak (Old.mono hE0);refine⟨⟨sa,sc,va,vc,⟨s,t,0⟩⟩,nz,e2,rfl,(Hold.ext.then Hold2.ext (fun x hx => .inr (by rw[qaa.1 hx];exact hge))).then H.ext (fun x hx => .inr (by rw[qaa.1 hx];exact hge)),⟨X1,X2,hsc,hvc⟩,hnz,hsl,hvl,(by show 0<4294967296;decide),fun h=>?_,fun h=>?_⟩
   .unfold Ni;rw[if_neg (by simp),he0 h2];simp only[hf0 h]
   .unfold Ni;rw[if_neg (by simp),he0 h2];simp only[(hf1 h).1]
  .intro h2;replace h2:=AU h2;refine Ag U (Ag U (AM U (.bool _) U (qA (Bz U (Ap (Aa (Ad (BO Dq Bn U H at0 U (Ae U (Ae U ?_))))))))));refine Bo Bn U U U (by simp[Bh]) H at0 U ?_;rintro w H;refine Ac U (Ac U (qA (A6 (NA U U U Dq Bn H at0 U (show _=(.int _ _)from rfl) (show _=(.int _ _)from rfl) ?_))));have X:=(X31.past H.ext (fun x hx=>by rw[qaa.1 hx];exact hb6)).weak (Old.mono hxw);refine⟨⟨sa,sc,none,0,⟨s,[],0⟩⟩,ny,e,rfl,Hold.ext.then H.ext (fun x hx => .inr (by rw[qaa.1 hx];exact hge)),⟨X,Rdx.nil,hsc,qae _⟩,hny,hsl,qak _,(by show 0<4294967296;decide),fun h=>absurd h h2,fun _=>?_⟩;unfold Ni;rw[if_neg (by simp),(he1 h2).1]
theorem Aph(l:Byt)(n:Nat):Nb l n 4=l++Bq n 4:=by rw[Nb,show HP 4=true by decide];rfl
theorem Ait(inner:Bool)(L:List It)(i:Nat)(hi:i=L.length):Value.int .u8 (if inner=true/\0<i then 3 else 2)=bv (HY inner L):=by
 subst hi;unfold HY bv
 cases inner with
 |false=>rfl
 |true =>
  cases L with
  |nil=>rfl
  |cons x L=>simp
theorem Aiu{w:World}{M:Mut}(inner:Bool){a:Option Addr}{n c:Nat}{L:List It}(I:Its w M a n c L)(hm:n<=1000)(hsz:∀x∈L,x.key.length<=65535/\x.val.length<=65535)(hpgs:∀x∈L,x.page<9223372036854775808) :
  Ret prog 158 #[.agg #[.bool inner,.slice a n c]] w fun v w'=>Lg (HY inner L) (HW inner L) w v w':=by
 obtain⟨w0,rfl,H⟩:=qE w;obtain⟨ms,R,-,hl,hok⟩:=I.ex;have hnum:=I.num;have hml:ms.length=n:=by rw[hnum,<-hl,qai]
 refine A8 (fn:=f158) func158 U [.agg #[.bool inner,.slice a n c]] U (Ad (Cu (NB inner a n c) (.agg _) U U H ?_));rintro b1 w - H;refine Ak U (Ac U (qA (Ad (Af Br U (AH BT U H at0 U (AO Bu U (DN U Gs Hn ?_)))))));refine Aj qB (Gt none 0 0 [] n 2 _ Rd.nil U (by omega)) U ?_;rintro v w F12;rw[An1,qa7]at F12;obtain⟨a12,c12,rfl,R12,hc12⟩:=Fresh.rdB F12;replace H:=H.call F12.ext;refine Ak U (Ac U (qA (Ar (Ad (Af Br U (AH BT U H at0 U (AO Bu U (Ae U (qA ?_)))))))));refine AB ?_;obtain⟨wb,rfl⟩:=qD w;have hb1:=H.get at0;have hxb:=H.ext;have hnode:∀{z:World},Ext [] wb z->z.heap[b1]?=some (Bl 183 (NB inner a n c)):=fun{z} h=>by rw[h.block b1 (Al hb1) (by simp)];exact hb1
 have hlen0:(Bq n 2).length=2:=Ba ..;refine B6 35184372023472 (α:=Nat × Option Addr × Nat) (fun s=>[(16,.int .i64 (s.1:Int)),(4,.slice s.2.1 (Bq n 2++(L.take s.1).flatMap (Ff inner)).length s.2.2),(5,.int .u8 (if inner=true/\0<s.1 then 3 else 2))]) (fun s w'=>s.1<=n/\Ext [] wb w'/\Rd w' s.2.1 1 B8 (Bq n 2++(L.take s.1).flatMap (Ff inner))) (fun s=>n - s.1) (0,a12,c12) U ?_ ?_ ?_
 .exact⟨rfl,qab (fun k=>Value.slice a12 k c12) (show(Bq n 2).length=_ by simp),qab (Value.int .u8) (show(2:Int)=_ by simp),trivial⟩
 .exact⟨qak _,.refl _ _,by simpa using R12⟩
 .rintro⟨i,a4,c4⟩ j w ⟨hi,hx,R4⟩;dsimp only at hi hx R4;dsimp only;have H:=Ctx.start w [];refine Ad (Bj U U (qA (Ar (Av _ U ?_ ?_))))
  .intro h1;replace h1:=AR h1;obtain⟨x,hx1⟩:=AP (l:=ms) (i:=i);have hxL:=Im.at hl hx1;have hxo:=hok x (qad hx1);have hxs:=hsz x.it (qad hxL);have hfs:(L.take (i+1)).flatMap (Ff inner)=(L.take i).flatMap (Ff inner)++Ff inner x.it:=Pm _ hxL;have htl:=Lm (inner:=inner) (L:=L.take i) fun y hy=>hsz y (qbq hy);have hlt:=qa0 (i:=i) (l:=L);have hal:(Bq n 2++(L.take i).flatMap (Ff inner)).length=2+Bc inner (L.take i):=by rw[qan,Ba,flat_len]
   obtain⟨acc,hacc⟩:=qD (Bq n 2++(L.take i).flatMap (Ff inner));rw[<-hacc]at R4 hal |-;have hpg:x.it.page<9223372036854775808:=hpgs x.it (qad hxL);refine Ap (Aa (Ar (AB (Ad (AY R Bu Bn U U ?_)))));refine EN x.enc Dq Bn U U ((R.ext0 (hxb.trans hx)).row hx1 U) (Bi C2 H ?_);rintro b7 w - H;refine Bo Bn U U U (by exact Im.oneE _) H at0 U ?_;rintro w H;refine qA (Ar (Ad (Af Dy U (Bd Ge U (Aq (hnode (hx.trans H.ext)) (0+0)) ?_))));refine qA (Av _ U ?_ ?_)
   .intro h2;refine Ad (Ac U (qA (Au (Ah U (Af Gf U (AH DV U H at0 U (DN U Gs Hn ?_)))))));refine Aj qB (Gt a4 c4 _ acc x.it.page 4 _ (R4.ext0 H.ext) U (hm:=by omega) (by omega)) U ?_;rintro v w F26;rw[Aph]at F26;obtain⟨a26,c26,rfl,R26,hc26⟩:=Fresh.rdB F26;replace H:=H.call F26.ext;refine Ak U (qA (Ad (Ah U (Af FF U (AH B1 U H at0 U (Aj qB (FK a26 c26 _ (acc++Bq x.it.page 4) x.ka x.kc _ x.it.key _ R26 U (by rw[qan,Ba];omega) (hxo.k.1.ext0 ((hxb.trans hx).trans H.ext)) U hxo.kc) U ?_))))));rintro v w ⟨y,rfl,F31⟩;obtain⟨a31,c31,rfl,R31,hc31⟩:=Fresh.rdB F31;replace H:=H.call F31.ext;refine AW U (Ai U U (Ai U U (Ak U (qA (Ad (Af Dy U (Bd Ge U (Aq (hnode (hx.trans H.ext)) (0+0)) ?_)))))));refine Cl U ?_;rw[h2];refine qA (Bz U (Ap (AE (Aa (Au (Ay U U ?_))))))
    refine Ae U (qA ?_)
    have he:acc++Bq x.it.page 4++(Bq x.it.key.length 2++x.it.key)=Bq n 2++(L.take (i+1)).flatMap (Ff true):=by
     rw[<-h2,hfs,hacc,h2];simp[Ff]
    rw[he]at R31;refine⟨(i+1,a31,c31),rfl,⟨rfl,qab (fun k=>Value.slice a31 k c31) (qab List.length he),qab (Value.int .u8) (show(3:Int)=_ by simp),trivial⟩,⟨by dsimp only;omega,hx.trans H.ext,R31⟩,by dsimp only;omega⟩
   .intro h2;refine Ap (Aa (Ad (Ah U (Af FF U (AH B1 U H at0 U (Aj qB (FK a4 c4 _ acc x.ka x.kc _ x.it.key _ (R4.ext0 H.ext) U (by omega) (hxo.k.1.ext0 ((hxb.trans hx).trans H.ext)) U hxo.kc) U ?_))))));rintro v w ⟨y,rfl,F31⟩;obtain⟨a31,c31,rfl,R31,hc31⟩:=Fresh.rdB F31;replace H:=H.call F31.ext;refine AW U (Ai U U (Ai U U (Ak U (qA (Ad (Af Dy U (Bd Ge U (Aq (hnode (hx.trans H.ext)) (0+0)) ?_)))))));refine Cl U ?_;rw[h2];refine qA (EI U (Au (Ah U (Af Ld U (AH B1 U H at0 U ?_)))));have hl5:(acc++(Bq x.it.key.length 2++x.it.key)).length=acc.length+(2+x.it.key.length):=(by rw[qan,qan,Ba]);refine Aj qB (FK a31 c31 _ (acc++(Bq x.it.key.length 2++x.it.key)) x.va x.vc _ x.it.val _ R31 U (by omega) (hxo.v.1.ext0 ((hxb.trans hx).trans H.ext)) U hxo.vc) U ?_;rintro v w ⟨y,rfl,F41⟩
    obtain⟨a41,c41,rfl,R41,hc41⟩:=Fresh.rdB F41;replace H:=H.call F41.ext;refine AW U (Ai U U (Ai U U (Ak U (Ab (AE (Aa (Au (Ay U U ?_))))))));refine Ae U (qA ?_)
    have he:acc++(Bq x.it.key.length 2++x.it.key)++(Bq x.it.val.length 2++x.it.val)=Bq n 2++(L.take (i+1)).flatMap (Ff false):=by
     rw[<-h2,hfs,hacc,h2];simp[Ff]
    rw[he]at R41;refine⟨(i+1,a41,c41),rfl,⟨rfl,qab (fun k=>Value.slice a41 k c41) (qab List.length he),qab (Value.int .u8) (show(if false=true/\0<i then(3:Int)else 2)=(if false=true/\0<i+1 then(3:Int)else 2)by simp),trivial⟩,⟨by dsimp only;omega,hx.trans H.ext,R41⟩,by dsimp only;omega⟩
  .intro h1;replace h1:=AU h1;have hii:i=n:=by omega
   subst hii;have hLi:L.take i=L:=by rw[hnum,qbf]
   have hbody:Bq i 2++(L.take i).flatMap (Ff inner)=HW inner L:=by rw[hLi,HW,<-hnum]
   have hbl:=Ml inner L;have htl:=Lm (inner:=inner) hsz;rw[hbody]at R4 |-;rw[Ait inner L i hnum];refine B2 (Aw (Aw (AZ (Aa (Ad (Ae U (Ah U (Aj qB (VP (HY inner L) a4 c4 _ (HW inner L) _ R4 U) U ?_))))))));rintro v w3 SP;obtain⟨sa,sn,sc,e,rfl⟩:∃sa sn sc e,v=.tuple #[.slice sa sn sc,.int .i64 e]:=by(rcases SP with⟨_,rfl,_⟩|⟨_,s,rfl,B⟩;exact⟨_,_,_,_,rfl⟩;obtain⟨a9,c9,rfl,-⟩:=B.ex;exact⟨_,_,_,_,rfl⟩)
   refine Ai U U (Ai U U (Ak U (Ac U (qA (A6 (Cs (v1:=(.slice _ _ _)) (v2:=(.int _ _)) U U U U ?_))))));have hxx:=hxb.trans hx;have hsz:=hxx.size
   rcases SP with⟨h1,h2,h3⟩|⟨h1,s,h2,B⟩
   .exact .inl ⟨h1,h2,hxx.trans h3⟩
   .obtain⟨a9,c9,h5,R9,h6,h7⟩:=B.ex;exact .inr ⟨h1,s,h2,⟨⟨a9,c9,h5,R9,h6,qaw hsz h7⟩,hxx.trans B.ext⟩⟩
end Go.Proofs.YtcpgbcabmcbclaaGreatDoor
