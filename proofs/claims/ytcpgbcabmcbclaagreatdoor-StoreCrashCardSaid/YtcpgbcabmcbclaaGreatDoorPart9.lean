/- Part 9 of the proof. -/
import Derived.Test.YtcpgbcabmcbclaaGreatDoorPart8
import Derived.Ground.GgzProg
import Derived.Ground.SlgmProg
set_option maxRecDepth 20000
set_option maxHeartbeats 2000000
namespace Go.Proofs.YtcpgbcabmcbclaaGreatDoor
open Go.GV Go.Proofs.Tryz
def Fg(i:Bool):List It->List It->List (List It)->List (List It) × List It
 | [],part,l=>(l,part)
 |x::M,part,l=>if 503<Bd i part+CK i x then Fg i M [x] (l++[part])else Fg i M (part++[x]) l
def Tj(q:List It):List It:=q.drop (q.length - 1)
def Aaf(i:Bool)(l:List (List It))(part:List It):List (List It) :=
 if i=true/\part.length=1/\l≠[]then l.take (l.length - 1)++[(l.getLastD []).take ((l.getLastD []).length - 1)]++[Tj (l.getLastD [])++part]else l++[part]
def Dl(i:Bool)(M:List It):List (List It):=Aaf i (Fg i M [] []).1 (Fg i M [] []).2
def Np(i:Bool):Nat:=if i=true then 38 else 164
structure Pk(i:Bool)(l:List (List It))(part:List It):Prop where
 full:∀q∈l,Bd i q<=503/\503<Bd i q+Np i
 le:Bd i part<=503
 ne:l≠[]->part≠[]
 num:503*l.length+Bd i part<=2*(Bd i l.flatten+Bd i part)
 sz:∀q∈l,∀x∈q,CK i x<=Np i
section
variable {i:Bool}{l:List (List It)}{part M:List It}
theorem Ack(i:Bool):Np i<=164:=by unfold Np;split <;> omega
theorem Wu(i:Bool)(x:It):Bd i [x]=CK i x:=by rw[Da];rfl
theorem Ap1(i:Bool):Pk i [] []:=⟨(fun q h=>by cases h),qak _,(fun h=>absurd rfl h),qae _,fun q h=>by cases h⟩
theorem Nq:∀{M:List It} {part:List It} {l:List (List It)},Pk i l part->(∀x∈part,CK i x<=Np i)->(∀x∈M,CK i x<=Np i) ->
  Pk i (Fg i M part l).1 (Fg i M part l).2/\(Fg i M part l).1.flatten++(Fg i M part l).2=l.flatten++(part++M)/\(M≠[]->(Fg i M part l).2≠[])
 | [],part,l,h,hp,hM=>⟨h,by simp[Fg],fun h=>absurd rfl h⟩
 |x::M,part,l,h,hp,hM=>by
  have hx:=hM x (qaf ..);have hm:=Ack i;have hM2:∀y∈M,CK i y<=Np i:=fun y hy=>hM y (qai _ hy);unfold Fg
  split
  .rename_i h1
   have hpk:Pk i (l++[part]) [x]:=by
    refine⟨fun q hq=>?_,by rw[Wu];omega,fun _=>by simp,?_,fun q hq=>?_⟩
    .rcases qau.1 hq with hq|hq
     .exact h.full q hq
     .rw[qaa.1 hq];exact⟨h.le,by omega⟩
    .have:=h.num;rw[qan,qbu,qcv,BA,Wu,qcw];omega
    .rcases qau.1 hq with hq|hq
     .exact h.sz q hq
     .rw[qaa.1 hq];exact hp
   obtain⟨a1,a2,a3⟩:=Nq (M:=M) hpk (fun y hy=>by rw[qaa.1 hy];exact hx) hM2;refine⟨a1,by rw[a2];simp,fun _=>?_⟩
   cases M with
   |nil=>simp[Fg]
   |cons y M=>exact a3 (by simp)
  .rename_i h1
   have hpk:Pk i l (part++[x]):=by
    refine⟨h.full,by rw[BA,Wu];omega,fun _=>by simp,?_,h.sz⟩;have:=h.num;rw[BA,Wu];omega
   obtain⟨a1,a2,a3⟩:=Nq (M:=M) hpk (fun y hy=>by
    rcases qau.1 hy with hy|hy
    .exact hp y hy
    .rw[qaa.1 hy];exact hx) hM2
   refine⟨a1,by rw[a2];simp,fun _=>?_⟩
   cases M with
   |nil=>simp[Fg]
   |cons y M=>exact a3 (by simp)
theorem MS(h:l≠[]):l=l.take (l.length - 1)++[l.getLastD []]:=by
 have h1:=qfh h;rw[List.dropLast_eq_take]at h1;rw[List.getLastD_eq_getLast?,List.getLast?_eq_some_getLast h,qdr];exact h1.symm
theorem Lz(q:List It):q.take (q.length - 1)++Tj q=q:=qbj ..
theorem Vi(hM:Many i M)(hs:∀x∈M,CK i x<=Np i) :
  (Dl i M).flatten=M/\(∀a∈Dl i M,Many i a/\Bd i a<=503)/\1<=(Dl i M).length/\503*((Dl i M).length - 1)<2*Bd i M:=by
 obtain⟨h1,h2,h3⟩:=Nq (M:=M) (Ap1 i) (fun x h=>by cases h) hs;replace h3:=h3 hM.ne;rw[List.flatten_nil,qa7,qa7]at h2;obtain⟨l,hl⟩:=qD ((Fg i M [] []).1);obtain⟨part,hpt⟩:=qD ((Fg i M [] []).2);unfold Dl;rw[<-hl,<-hpt]at h1 h2 |-;rw[<-hpt]at h3;have hsp:∀x∈part,CK i x<=Np i:=fun x hx=>hs x (by rw[<-h2];exact qax _ hx);have htot:Bd i M=Bd i l.flatten+Bd i part:=by rw[<-h2,BA]
 have hpp:4<=Bd i part:=by have h5:=IY i part;have h6:=qbv.2 h3;omega
 have hnum:=h1.num
 have hfat:∀q∈l,q≠[]:=fun q hq e=>by
  have h5:=(h1.full q hq).2;have h6:=Ack i;rw[e]at h5
  have:Bd i []=0:=rfl
  omega
 unfold Aaf
 split
 .rename_i hf
  obtain⟨hi,hp1,hl0⟩:=hf;subst hi;have hsl:=MS hl0;obtain⟨q,hq⟩:=qD (l.getLastD []);rw[<-hq]at hsl |-;have hqm:q∈l:=by rw[hsl];exact qax _ (qaa.2 rfl)
  have hqf:=(h1.full q hqm);have hqs:=Fp (inner:=true) (m:=38) (l:=q) (h1.sz q hqm);have h38:Np true=38:=rfl
  have hql:13<=q.length:=by
   rcases qbr q.length 13 with h5|h5
   .have:38*q.length<=38*12:=qb6 _ (by omega)
    omega
   .exact h5
  have hla:(Tj q).length=1:=by unfold Tj;rw[qbg];omega
  have hls:∀x∈Tj q++part,CK true x<=38:=fun x hx=>(qau.1 hx).elim (fun h=>h1.sz q hqm x (qcy h)) (hsp x)
  have hlen:l.length=(l.take (l.length - 1)).length+1:=by
   have h5:=qab List.length hsl;rw[qan]at h5;exact h5
  refine⟨?_,fun a ha=>?_,?_,?_⟩
  .rw[<-h2]
   conv=>rhs;rw[hsl]
   rw[qcv,qcv,qcv,qcw,qcw,qcw,qa1,<-qa1 (q.take _),Lz,qa1]
  .rcases qau.1 ha with ha|ha
   .rcases qau.1 ha with ha|ha
    .have ham:=qbp ha;have haf:=h1.full a ham;have has:=Fp (inner:=true) (m:=38) (l:=a) (h1.sz a ham);refine⟨?_,haf.1⟩;show 2<=a.length
     rcases qbr a.length 2 with h5|h5
     .have:38*a.length<=38*1:=qb6 _ (by omega)
      omega
     .exact h5
    .rw[qaa.1 ha];have h5:=BA true (q.take (q.length - 1)) (Tj q);rw[Lz]at h5;refine⟨?_,by omega⟩;show 2<=_;rw[qa0];omega
   .rw[qaa.1 ha];have h5:=Fp (inner:=true) (m:=38) hls;rw[qan,hla,hp1]at h5;refine⟨?_,by omega⟩;show 2<=_;rw[qan,hla,hp1];omega
  .simp
  .rw[qan,qan,qbu,qbu];omega
 .rename_i hf
  refine⟨by rw[qcv,qcw,h2],fun a ha=>?_,by simp,?_⟩
  .rcases qau.1 ha with ha|ha
   .have haf:=h1.full a ha;refine⟨?_,haf.1⟩;unfold Many
    split
    .rename_i hi
     subst hi;have has:=Fp (inner:=true) (m:=38) (l:=a) (h1.sz a ha);have h38:Np true=38:=rfl
     rcases qbr a.length 2 with h5|h5
     .have:38*a.length<=38*1:=qb6 _ (by omega)
      omega
     .exact h5
    .exact hfat a ha
   .rw[qaa.1 ha];refine⟨?_,h1.le⟩;unfold Many at hM |-
    split
    .rename_i hi
     rw[if_pos hi]at hM;have h6:=qbv.2 h3
     rcases qbr part.length 2 with h5|h5
     .by_cases hl0:l=[]
      .rw[hl0]at h2;rw[<-h2]at hM;exact hM
      .exact absurd ⟨hi,by omega,hl0⟩ hf
     .exact h5
    .exact h3
  .rw[qan,qbu];omega
end
theorem Vj{fr h:Nat}{i:Bool}:∀{Hs:List (List It)} {c:Ch} {acc:List It} {L:List Pr} {S:List Nat},Part (RD c.A fr) h i Hs.flatten L S->OkP L->Held c.P S->On fr c->(∀a∈Hs,Many i a/\Bd i a<=503)->c.A.left = -1->Hs.length<=DF c.P ->
  ∃t K S',CI fr c (C4 fr i Hs c acc).2.1 t []/\t.length=Hs.length/\(C4 fr i Hs c acc).1=0/\On fr (C4 fr i Hs c acc).2.1/\(C4 fr i Hs c acc).2.2=acc++K/\K.length=Hs.length/\Kids (Lies (RD (C4 fr i Hs c acc).2.1.A fr) h) K L S'/\S'.Perm (S++t)/\Held (C4 fr i Hs c acc).2.1.P S'
 | [],c,acc,L,S,hp,ho,hh,hn,hm,hl,hf=>by
  have hLS:L=[]/\S=[]:=by
   cases h with
   |zero =>
    obtain⟨_,he,rfl⟩:=hp
    cases L with
    |nil=>exact⟨rfl,rfl⟩
    |cons _ _=>cases he
   |succ h=>exact hp.2
  obtain⟨rfl,rfl⟩:=hLS;exact⟨[],[],[],CI.refl _ _,rfl,rfl,hn,by simp[C4],rfl,⟨rfl,rfl⟩,by simp,fun x hx=>by cases hx⟩
 |a::Hs,c,acc,L,S,hp,ho,hh,hn,hm,hl,hf=>by
  rw[qe5]at hp;obtain⟨La,Lb,Sa,Sb,rfl,rfl,pa,pb⟩:=hp.append;have hoa:OkP La:=fun p hp=>ho p (qa5 _ hp);have hob:OkP Lb:=fun p hp=>ho p (qax _ hp);have hha:Held c.P Sa:=hh.sub fun x hx=>qa5 _ hx;have hhb:Held c.P Sb:=hh.sub fun x hx=>qax _ hx;obtain⟨hma,hta⟩:=hm a (qaf ..);rw[qaw]at hf;obtain⟨t,w1,w2,w3⟩:=Mq pa hoa hha hn hma hta
  rcases w3 with⟨h7,rfl,h8,h9,h10⟩|h7
  .have hfr:=w1.free;rw[qbu]at hfr;obtain⟨t',K,S',v1,v2,v3,v4,v5,v6,v7,v8,v9⟩:=Vj (Hs:=Hs) (acc:=acc++[⟨Gu a,[],Ci c.P⟩]) (pb.frame (w1.rd hhb)) hob (hhb.keep w1) h8 (fun b hb=>hm b (qai _ hb)) (w1.left hl) (by omega)
   have hput:C4 fr i (a::Hs) c acc=C4 fr i Hs (wrC fr c i a).2 (acc++[⟨Gu a,[],Ci c.P⟩]):=by
    conv=>lhs;unfold C4
    rw[if_pos h7]
   rw[hput];have hCI:=w1.trans v1;refine⟨[Ci c.P]++t',⟨Gu a,[],Ci c.P⟩::K,(Ci c.P::Sa)++S',hCI,by rw[qan,v2];simp;omega,v3,v4,by rw[v5];simp,by simp[v6],?_,?_,?_⟩
   .exact⟨La,Lb,Ci c.P::Sa,S',rfl,rfl,h9.frame (v1.rd (w1.held.app (hha.keep w1))),h10,rfl,v7⟩
   .have h1:((Ci c.P::Sa)++S').Perm (([Ci c.P]++Sa)++(t'++Sb)):=qfg _ (v8.trans qcn);exact h1.trans (perm_front.trans qcn)
   .exact((w1.held.app (hha.keep w1)).keep v1).app v9
  .exfalso
   rcases h7 with⟨_,h7⟩|⟨_,h7⟩
   .exact h7 hl
   .omega
def FL:Nat->Nat->Nat
 |0,lv=>lv
 |n+1,lv=>lv+if 1<lv then FL n (2*lv*38 / 503+1)else 0
def okF(c:Ch)(i:Bool)(M:List It):Bool :=
 decide (M.length<=100000) && (decide (c.tk.length+(Dl i M).length<=50000) && ((M.all fun x=>decide (x.key.length<=65535) && (decide (x.val.length<=65535) && (decide (x.page<9223372036854775808) && decide (CK i x<=503)))) && (Dl i M).all fun h=>decide (h≠[]) && decide (h.length<=1000)))
def Cg(fr:Nat):Nat->Ch->Bool->List It->Int × Ch × Int
 |0,c,_,_=>(99,c,-1)
 |n+1,c,i,M =>
  if okF c i M=false then(99,c,-1)
  else if(C4 fr i (Dl i M) c []).1≠0 then((C4 fr i (Dl i M) c []).1,(C4 fr i (Dl i M) c []).2.1,-1)
  else if(C4 fr i (Dl i M) c []).2.2.length=1 then(0,(C4 fr i (Dl i M) c []).2.1,(Cq (C4 fr i (Dl i M) c []).2.2 0:Int))
  else Cg fr n (C4 fr i (Dl i M) c []).2.1 true (C4 fr i (Dl i M) c []).2.2
theorem Tk(n lv:Nat):lv<=FL n lv:=by
 cases n with
 |zero=>exact qae _
 |succ n=>unfold FL;omega
theorem Tl{fr:Nat}:∀{n h:Nat} {c:Ch} {i:Bool} {M:List It} {L:List Pr} {S:List Nat} (lv:Nat),lv<=n->n<=1500->Part (RD c.A fr) h i M L S->OkP L->Held c.P S->On fr c->Many i M->c.A.left = -1->2*Bd i M / 503+1<=lv->FL n lv<=DF c.P->c.tk.length+DF c.P<=5000 ->
  ∃t,CI fr c (Cg fr n c i M).2.1 t []/\t.length<=FL n lv/\(Cg fr n c i M).1=0/\On fr (Cg fr n c i M).2.1/\∃S',Root (RD (Cg fr n c i M).2.1.A fr) (Cg fr n c i M).2.2 L S'/\S'.Perm (S++t)/\Held (Cg fr n c i M).2.1.P S'
 |0,h,c,i,M,L,S,lv,hlv,hn15,hp,ho,hh,hn,hm,hl,h3,hf,htk=>by omega
 |n+1,h,c,i,M,L,S,lv,hlv,hn15,hp,ho,hh,hn,hm,hl,h3,hf,htk=>by
  have hx:=hp.ok ho hh hn.few
  have hsz:∀x∈M,CK i x<=Np i:=fun x hx'=>by
   obtain⟨_,h4,h5⟩:=hx x hx';unfold Np
   split
   .rename_i hi;exact h5 hi
   .exact h4
  obtain⟨f1,f2,f3,f4⟩:=Vi hm hsz;have hklv:(Dl i M).length<=lv:=by omega
  have hfl:lv<=FL (n+1) lv:=Tk _ _
  have hok:okF c i M=true:=by
   have hM:=IY i M;unfold okF;simp only[qao,qap,qb0];refine⟨by omega,by omega,fun x hx'=>?_,fun a ha=>?_⟩
   .obtain⟨⟨h4,h5,h6,_⟩,h7,_⟩:=hx x hx';omega
   .have h4:=IY i a;have h5:=(f2 a ha).2;exact⟨(f2 a ha).1.ne,by omega⟩
  obtain⟨t,K,S',p1,p2,p3,p4,p5,p6,p7,p8,p9⟩:=Vj (Hs:=Dl i M) (acc:=[]) (by rw[f1];exact hp) ho hh hn f2 hl (by omega);rw[qa7]at p5;unfold Cg;rw[if_neg (by rw[hok];simp),if_neg (by rw[p3];simp)]
  split
  .rename_i h1
   refine⟨t,p1,by omega,rfl,p4,S',?_,p8,p9⟩;rw[p5]at h1 |-
   match K,h1 with
   | [z],_ =>
    obtain⟨L1,L2,S1,S2,rfl,rfl,k1,k2,k3,rfl,rfl⟩:=p7;rw[qa3,qa3];exact .inr ⟨h,z.page,rfl,k1⟩
  .rename_i h1
   rw[p5]at h1 |-;have hK2:2<=K.length:=by omega
   have hlv2:1<lv:=by omega
   have hmg:FL (n+1) lv=lv+FL n (2*lv*38 / 503+1):=by
    conv=>lhs;unfold FL
    rw[if_pos hlv2]
   rw[hmg]at hf |-;have hfree:=p1.free;have htk2:(C4 fr i (Dl i M) c []).2.1.tk.length=c.tk.length+t.length:=by rw[p1.tk,qan]
   have hP1:Part (RD (C4 fr i (Dl i M) c []).2.1.A fr) (h+1) true K L S':=⟨rfl,p7⟩;have hKs:=Fp (inner:=true) (m:=38) (l:=K) fun x hx'=>((hP1.ok ho p9 p4.few) x hx').2.2 rfl
   have hle:2*Bd true K / 503+1<=2*lv*38 / 503+1:=by
    have h5:2*Bd true K<=2*lv*38:=by
     have:38*K.length<=38*lv:=qb6 _ (by omega)
     omega
    have:=Nat.div_le_div_right (c:=503) h5;omega
   obtain⟨t',b1,b2,b3,b4,S'',b5,b6,b7⟩:=Tl (n:=n) (2*lv*38 / 503+1) (by omega) (by omega) hP1 ho p9 p4 (show 2<=K.length from hK2) (p1.left hl) hle (by omega) (by omega);have hCI:=p1.trans b1;refine⟨t++t',hCI,by rw[qan];omega,b3,b4,S'',b5,?_,b7⟩;rw[<-qa1];exact b6.trans (p8.append_right _)
def Tm(L:List Pr)(i:Nat):Prop:=∃p,L[i]?=some p/\Dh p.1.length p.2.length=true/\∀q,0<i->L[i - 1]?=some q->ltB q.1 p.1
def B0(L:List Pr):Nat:=(L.map fun p=>4+p.1.length+p.2.length).sum
theorem Tn(L:List Pr):Bd false (L.map BL)=B0 L:=by
 induction L with
 |nil=>rfl
 |cons p L ih =>
  rw[qay,Da,ih];unfold B0;rw[qay,qc5];rfl
structure Built(A:Dev)(P:List Nat)(L:List Pr)(e root:Int)(A':Dev)(P':List Nat):Prop where
 ok:e=0
 tree:TreeAt 10 A' P' root L
 on:A'.on=true
 left:A'.left = -1
 blen:A'.B.length=A.B.length
 len:P'.length=P.length
 cnt:∃S,Root (RD A' 10) root L S/\S.Nodup/\(∀x:Nat,x∈S↔P'[x]?=some 1\/P'[x]?=some 2)/\S.length<=FL 1500 (2*B0 L / 503+1)
def QC(A:Dev)(P:List Nat)(L:List Pr):Int × Ch × Int:=Cg 10 1500 ⟨A,P,[],[]⟩ false (L.map BL)
theorem Yb:∀{n m lv:Nat},lv<=m->FL n lv<=2*m
 |0,m,lv,h=>by show lv<=_;omega
 |n+1,m,lv,h=>by
  unfold FL
  split
  .have:=Yb (n:=n) (m:=lv / 2) (lv:=2*lv*38 / 503+1) (by omega);omega
  .omega
theorem built{n:Nat}{L:List Pr}(hn:n=1500)(hL:L.length<=1000)(ho:OkP L)(hr:Rising L)(hne:L≠[]) :
  Built (Fu (10+n)) (List.replicate n 0) L (QC (Fu (10+n)) (List.replicate n 0) L).1 (QC (Fu (10+n)) (List.replicate n 0) L).2.2 (QC (Fu (10+n)) (List.replicate n 0) L).2.1.A (DH (QC (Fu (10+n)) (List.replicate n 0) L).2.1 0).P/\(QC (Fu (10+n)) (List.replicate n 0) L).2.1.tk.length<=1400:=by
 have hb:B0 L<=164*L.length:=by
  have:∀L:List Pr,OkP L->B0 L<=164*L.length:=by
   intro L
   induction L with
   |nil=>intro _;exact qak _
   |cons p L ih =>
    intro ho;obtain⟨h1,h2,h3⟩:=ho p (qaf ..);have:=ih fun q hq=>ho q (qai _ hq);unfold B0 at this |-;rw[qay,qc5,qaw];omega
  exact this L ho
 have hfree:DF (List.replicate n 0)=n:=by
  unfold DF;rw[List.countP_replicate];exact if_pos (by decide)
 have hblen:(Fu (10+n)).B.length=10+n:=qba ..;have hplen:(List.replicate n 0:List Nat).length=n:=qba ..;have hmost:=Yb (n:=1500) (m:=653) (lv:=2*B0 L / 503+1) (by omega);obtain⟨t,b1,b2,b3,b4,S',b5,b6,b7⟩:=Tl (fr:=10) (n:=1500) (h:=0) (c:=⟨Fu (10+n),List.replicate n 0,[],[]⟩) (i:=false) (M:=L.map BL) (L:=L) (S:=[]) (2*B0 L / 503+1) (by omega) (qae _) ⟨rfl,rfl,rfl⟩ ho (fun x h=>by cases h) ⟨rfl,by dsimp only;omega,by dsimp only;omega⟩ (show L.map BL≠[]from fun e=>hne (List.map_eq_nil_iff.1 e)) rfl (by rw[Tn];exact qae _) (by dsimp only;omega) (by dsimp only;rw[hfree];show 0+n<=5000;omega)
 have hP:(DH (QC (Fu (10+n)) (List.replicate n 0) L).2.1 0).P=(QC (Fu (10+n)) (List.replicate n 0) L).2.1.P:=by
  have hg:(QC (Fu (10+n)) (List.replicate n 0) L).2.1.gn=[]:=by
   show(Cg 10 1500 ⟨Fu (10+n),List.replicate n 0,[],[]⟩ false (L.map BL)).2.1.gn=[];rw[b1.gn];rfl
  show((if(0:Int)≠0 then _ else(QC (Fu (10+n)) (List.replicate n 0) L).2.1.gn).foldl EE _)=_;rw[if_neg (by simp),hg];rfl
 rw[hP];rw[qa7]at b6
 have hS:∀x:Nat,x∈S'↔(QC (Fu (10+n)) (List.replicate n 0) L).2.1.P[x]?=some 1\/(QC (Fu (10+n)) (List.replicate n 0) L).2.1.P[x]?=some 2:=fun x=>by
  have h1:=b1.now x;rw[b6.mem_iff];show _↔(Cg 10 1500 ⟨Fu (10+n),List.replicate n 0,[],[]⟩ false (L.map BL)).2.1.P[x]?=some 1\/(Cg 10 1500 ⟨Fu (10+n),List.replicate n 0,[],[]⟩ false (L.map BL)).2.1.P[x]?=some 2;rw[h1]
  by_cases hx:x∈t
  .rw[if_pos hx];exact⟨fun _ => .inr rfl,fun _=>hx⟩
  .rw[if_neg hx];refine⟨fun h=>absurd h hx,fun h=>?_⟩;have h0:∀{s:Nat},(List.replicate n 0)[x]?=some s->s=0:=fun h=>List.eq_of_mem_replicate (qad h)
   rcases h with h|h
   .have:=h0 h;omega
   .have:=h0 h;omega
 have htk:(QC (Fu (10+n)) (List.replicate n 0) L).2.1.tk.length<=1400:=by
  show(Cg 10 1500 ⟨Fu (10+n),List.replicate n 0,[],[]⟩ false (L.map BL)).2.1.tk.length<=1400;rw[b1.tk];simp only[qa7];omega
 exact⟨⟨b3,⟨⟨S',b5,b6.nodup_iff.2 b1.nd,hS⟩,hr,ho⟩,b4.on,b1.left rfl,b1.blen,b1.len,S',b5,b6.nodup_iff.2 b1.nd,hS,by rw[b6.length_eq];exact b2⟩,htk⟩
structure Res9(A:Dev)(P:List Nat)(L':List Pr)(e r':Int)(A':Dev)(P':List Nat)(mx:Nat):Prop where
 aft:After 362 A P A' P'
 few:Few A' mx
 out:(e=0/\A'.on=true/\TreeAt 362 A' P' r' L')\/(e=8/\A.left ≠ -1/\A'.on=false)\/(e=7/\A'.on=true)
section
variable {A:Dev}{P:List Nat}{root:Int}{L:List Pr}{key val:Byt}{mx:Nat}
theorem Vk{G:List It->List It}{g:List Pr->List Pr}(act:Acts key G g)(hr:∀L,Rising L->Rising (g L))(T:TreeAt 362 A P root L)(hon:A.on=true)(hl:362+P.length<=A.B.length)(hP:P.length<=2000)(hfew:Few A mx) :
  Res9 A P (g L) (DG 362 A P root key G).1 (DG 362 A P root key G).2.1 (DG 362 A P root key G).2.2.A (DG 362 A P root key G).2.2.P (mx+40):=by
 have ht:=Ya (fr:=362) (P:=P) (root:=root) (key:=key) (G:=G) hon;obtain⟨h1,h2⟩:=Vc act hr T hon hl hP (hm24 hP);refine⟨h1,Ve hfew,?_⟩
 rcases h2 with⟨h3,h4,h5⟩|⟨_,h4,h3⟩
 .exact .inl ⟨h3,h4,h5⟩
 .rcases h3 with⟨h3,h5⟩|⟨h3,h5⟩
  .rw[h3]at ht;exact .inr (.inl ⟨h3,h5,ht.off⟩)
  .exact .inr (.inr ⟨h3,ht.on (by rw[h3];decide)⟩)
theorem Aj2(T:TreeAt 362 A P root L)(hon:A.on=true)(hl:362+P.length<=A.B.length)(hP:P.length<=2000)(hfew:Few A mx)(hk:Dh key.length val.length=true) :
  Res9 A P (HO L key val) (JQ 362 A P root key val).1 (JQ 362 A P root key val).2.1 (JQ 362 A P root key val).2.2.1 (JQ 362 A P root key val).2.2.2 (mx+40):=by
 obtain⟨S,td,-,-⟩:=T.told hon hl hP;unfold JQ;rw[if_neg (by rw[td.may];simp),if_pos hk];unfold Dh at hk;simp only[qao,qap]at hk;exact Vk (g:=fun L=>HO L key val) (XU hk.1 hk.2.1 hk.2.2) (fun L h=>GI h key val) T hon hl hP hfew
theorem Aj3(T:TreeAt 362 A P root L)(hon:A.on=true)(hl:362+P.length<=A.B.length)(hP:P.length<=2000)(hfew:Few A mx)(hk:Dh key.length 0=true) :
  Res9 A P (JA L key) (Hg 362 A P root key).1 (Hg 362 A P root key).2.1 (Hg 362 A P root key).2.2.2.1 (Hg 362 A P root key).2.2.2.2 (mx+40):=by
 have hget:=XX (key:=key) T hon hl hP;rw[if_pos hk]at hget;unfold Hg;rw[hget,if_neg (by simp)]
 cases hg:DQ L key with
 |none =>
  rw[if_pos (show((0,(none:Option Byt)):Int × Option Byt).2.isSome=false from rfl),UL hg];exact⟨After.refl _ _ _,hfew.mono (by omega),.inl ⟨rfl,hon,T⟩⟩
 |some u =>
  rw[if_neg (by simp)];exact Vk (g:=fun L=>JA L key) (XV key) (fun L h=>HP h key) T hon hl hP hfew
end
theorem To{fr h:Nat}{i:Bool}:∀{Hs:List (List It)} {c:Ch} {acc:List It} {L:List Pr} {S:List Nat},Part (RD c.A fr) h i Hs.flatten L S->OkP L->Held c.P S->On fr c->(∀a∈Hs,Many i a/\Bd i a<=503)->Hs.length<=DF c.P ->
  ∃t,CI fr c (C4 fr i Hs c acc).2.1 t []/\(((C4 fr i Hs c acc).1=8/\c.A.left ≠ -1)\/∃K S',t.length=Hs.length/\(C4 fr i Hs c acc).1=0/\On fr (C4 fr i Hs c acc).2.1/\(C4 fr i Hs c acc).2.2=acc++K/\K.length=Hs.length/\Kids (Lies (RD (C4 fr i Hs c acc).2.1.A fr) h) K L S'/\S'.Perm (S++t)/\Held (C4 fr i Hs c acc).2.1.P S')
 | [],c,acc,L,S,hp,ho,hh,hn,hm,hf=>by
  have hLS:L=[]/\S=[]:=by
   cases h with
   |zero =>
    obtain⟨_,he,rfl⟩:=hp
    cases L with
    |nil=>exact⟨rfl,rfl⟩
    |cons _ _=>cases he
   |succ h=>exact hp.2
  obtain⟨rfl,rfl⟩:=hLS;exact⟨[],CI.refl _ _,.inr ⟨[],[],rfl,rfl,hn,by simp[C4],rfl,⟨rfl,rfl⟩,by simp,fun x hx=>by cases hx⟩⟩
 |a::Hs,c,acc,L,S,hp,ho,hh,hn,hm,hf=>by
  rw[qe5]at hp;obtain⟨La,Lb,Sa,Sb,rfl,rfl,pa,pb⟩:=hp.append;have hoa:OkP La:=fun p hp=>ho p (qa5 _ hp);have hob:OkP Lb:=fun p hp=>ho p (qax _ hp);have hha:Held c.P Sa:=hh.sub fun x hx=>qa5 _ hx;have hhb:Held c.P Sb:=hh.sub fun x hx=>qax _ hx;obtain⟨hma,hta⟩:=hm a (qaf ..);rw[qaw]at hf;obtain⟨t,w1,w2,w3⟩:=Mq pa hoa hha hn hma hta
  rcases w3 with⟨h7,rfl,h8,h9,h10⟩|h7
  .have hfr:=w1.free;rw[qbu]at hfr
   have hput:C4 fr i (a::Hs) c acc=C4 fr i Hs (wrC fr c i a).2 (acc++[⟨Gu a,[],Ci c.P⟩]):=by
    conv=>lhs;unfold C4
    rw[if_pos h7]
   rw[hput];obtain⟨t',v1,v⟩:=To (Hs:=Hs) (acc:=acc++[⟨Gu a,[],Ci c.P⟩]) (pb.frame (w1.rd hhb)) hob (hhb.keep w1) h8 (fun b hb=>hm b (qai _ hb)) (by omega);have hCI:=w1.trans v1;refine⟨[Ci c.P]++t',hCI,?_⟩
   rcases v with⟨v,vl⟩|⟨K,S',v2,v3,v4,v5,v6,v7,v8,v9⟩
   .exact .inl ⟨v,fun h=>vl (w1.left h)⟩
   .refine .inr ⟨⟨Gu a,[],Ci c.P⟩::K,(Ci c.P::Sa)++S',by rw[qan,v2];simp;omega,v3,v4,by rw[v5];simp,by simp[v6],?_,?_,?_⟩
    .exact⟨La,Lb,Ci c.P::Sa,S',rfl,rfl,h9.frame (v1.rd (w1.held.app (hha.keep w1))),h10,rfl,v7⟩
    .have h1:((Ci c.P::Sa)++S').Perm (([Ci c.P]++Sa)++(t'++Sb)):=qfg _ (v8.trans qcn);exact h1.trans (perm_front.trans qcn)
    .exact((w1.held.app (hha.keep w1)).keep v1).app v9
  .rcases h7 with⟨h7,h8⟩|⟨_,h7⟩
   .have hput:C4 fr i (a::Hs) c acc=((wrC fr c i a).1,(wrC fr c i a).2,[]):=by
     conv=>lhs;unfold C4
     rw[if_neg (by rw[h7];decide)]
    rw[hput];exact⟨t,w1,.inl ⟨h7,h8⟩⟩
   .omega
theorem Qw{fr:Nat}:∀{n h:Nat} {c:Ch} {i:Bool} {M:List It} {L:List Pr} {S:List Nat} (lv:Nat),lv<=n->n<=1500->Part (RD c.A fr) h i M L S->OkP L->Held c.P S->On fr c->Many i M->2*Bd i M / 503+1<=lv->FL n lv<=DF c.P->c.tk.length+DF c.P<=5000 ->
  ∃t,CI fr c (Cg fr n c i M).2.1 t []/\(((Cg fr n c i M).1=8/\c.A.left ≠ -1)\/(t.length<=FL n lv/\(Cg fr n c i M).1=0/\On fr (Cg fr n c i M).2.1/\∃S',Root (RD (Cg fr n c i M).2.1.A fr) (Cg fr n c i M).2.2 L S'/\S'.Perm (S++t)/\Held (Cg fr n c i M).2.1.P S'))
 |0,h,c,i,M,L,S,lv,hlv,hn15,hp,ho,hh,hn,hm,h3,hf,htk=>by omega
 |n+1,h,c,i,M,L,S,lv,hlv,hn15,hp,ho,hh,hn,hm,h3,hf,htk=>by
  have hx:=hp.ok ho hh hn.few
  have hsz:∀x∈M,CK i x<=Np i:=fun x hx'=>by
   obtain⟨_,h4,h5⟩:=hx x hx';unfold Np
   split
   .rename_i hi;exact h5 hi
   .exact h4
  obtain⟨f1,f2,f3,f4⟩:=Vi hm hsz;have hklv:(Dl i M).length<=lv:=by omega
  have hfl:lv<=FL (n+1) lv:=Tk _ _
  have hok:okF c i M=true:=by
   have hM:=IY i M;unfold okF;simp only[qao,qap,qb0];refine⟨by omega,by omega,fun x hx'=>?_,fun a ha=>?_⟩
   .obtain⟨⟨h4,h5,h6,_⟩,h7,_⟩:=hx x hx';omega
   .have h4:=IY i a;have h5:=(f2 a ha).2;exact⟨(f2 a ha).1.ne,by omega⟩
  obtain⟨t,p1,p⟩:=To (Hs:=Dl i M) (acc:=[]) (by rw[f1];exact hp) ho hh hn f2 (by omega)
  rcases p with⟨p,pl⟩|⟨K,S',p2,p3,p4,p5,p6,p7,p8,p9⟩
  .refine⟨t,?_,.inl ⟨?_,pl⟩⟩ <;> unfold Cg <;> rw[if_neg (by rw[hok];simp),if_pos (by rw[p];decide)]
   .exact p1
   .exact p
  .rw[qa7]at p5;unfold Cg;rw[if_neg (by rw[hok];simp),if_neg (by rw[p3];simp)]
   split
   .rename_i h1
    refine⟨t,p1,.inr ⟨by omega,rfl,p4,S',?_,p8,p9⟩⟩;rw[p5]at h1 |-
    match K,h1 with
    | [z],_ =>
     obtain⟨L1,L2,S1,S2,rfl,rfl,k1,k2,k3,rfl,rfl⟩:=p7;rw[qa3,qa3];exact .inr ⟨h,z.page,rfl,k1⟩
   .rename_i h1
    rw[p5]at h1 |-;have hK2:2<=K.length:=by omega
    have hlv2:1<lv:=by omega
    have hmg:FL (n+1) lv=lv+FL n (2*lv*38 / 503+1):=by
     conv=>lhs;unfold FL
     rw[if_pos hlv2]
    rw[hmg]at hf |-;have hfree:=p1.free;have htk2:(C4 fr i (Dl i M) c []).2.1.tk.length=c.tk.length+t.length:=by rw[p1.tk,qan]
    have hP1:Part (RD (C4 fr i (Dl i M) c []).2.1.A fr) (h+1) true K L S':=⟨rfl,p7⟩;have hKs:=Fp (inner:=true) (m:=38) (l:=K) fun x hx'=>((hP1.ok ho p9 p4.few) x hx').2.2 rfl
    have hle:2*Bd true K / 503+1<=2*lv*38 / 503+1:=by
     have h5:2*Bd true K<=2*lv*38:=by
      have:38*K.length<=38*lv:=qb6 _ (by omega)
      omega
     have:=Nat.div_le_div_right (c:=503) h5;omega
    obtain⟨t',b1,b⟩:=Qw (n:=n) (2*lv*38 / 503+1) (by omega) (by omega) hP1 ho p9 p4 (show 2<=K.length from hK2) hle (by omega) (by omega);have hCI:=p1.trans b1;refine⟨t++t',hCI,?_⟩
    rcases b with⟨b,bl⟩|⟨b2,b3,b4,S'',b5,b6,b7⟩
    .exact .inl ⟨b,fun h=>bl (p1.left h)⟩
    .refine .inr ⟨by rw[qan];omega,b3,b4,S'',b5,?_,b7⟩;rw[<-qa1];exact b6.trans (p8.append_right _)
theorem Ou{fr:Nat}:∀{n:Nat} {c:Ch} {i:Bool} {M:List It},c.A.on=true->Tells (Cg fr n c i M).2.1.A (Cg fr n c i M).1
 |0,c,i,M,h => .ok h (show(99:Int)≠8 by decide)
 |n+1,c,i,M,h=>by
  have h1:=Nn (fr:=fr) (i:=i) (Hs:=Dl i M) (acc:=[]) h;unfold Cg
  split
  .exact .ok h (show(99:Int)≠8 by decide)
  .split
   .exact h1
   .rename_i h0
    have h2:=h1.on (by rw[Classical.not_not.1 h0];decide)
    split
    .exact .ok h2 (show(0:Int)≠8 by decide)
    .exact Ou h2
theorem Yc{fr:Nat}{c:Ch}{inner:Bool}{M:List It}{m:Nat}(h:Few c.A (m+c.tk.length)):Few (wrC fr c inner M).2.A (m+(wrC fr c inner M).2.tk.length):=by
 unfold wrC
 split
 .exact h
 .split
  .rw[qan];exact h.mono (by rw[qbu];omega)
  .rw[qan];exact Hy h _ _
theorem Vl{fr:Nat}{i:Bool}{m:Nat}:∀{Hs:List (List It)} {c:Ch} {acc:List It},Few c.A (m+c.tk.length)->Few (C4 fr i Hs c acc).2.1.A (m+(C4 fr i Hs c acc).2.1.tk.length)
 | [],_,_,h=>h
 |x::Hs,c,acc,h=>by
  unfold C4
  split
  .exact Vl (Yc h)
  .exact Yc h
theorem Qx{fr m:Nat}:∀{n:Nat} {c:Ch} {i:Bool} {M:List It},Few c.A (m+c.tk.length)->Few (Cg fr n c i M).2.1.A (m+(Cg fr n c i M).2.1.tk.length)
 |0,_,_,_,h=>h
 |n+1,c,i,M,h=>by
  have h1:=Vl (fr:=fr) (i:=i) (Hs:=Dl i M) (acc:=[]) h;unfold Cg
  split
  .exact h
  .split
   .exact h1
   .split
    .exact h1
    .exact Qx h1
theorem Aag:∀lv,lv<200->FL 1500 lv<=max 40 ((5*lv+3) / 4):=by decide +kernel
end Go.Proofs.YtcpgbcabmcbclaaGreatDoor
namespace Go.Proofs
open Go.RowKit Go.Maps Go.Sort Go.Shelf
def Tryz.keysS_ren : Go.Shelf.Ren := ⟨fun | 7 => 66 | 10 => 104 | n => n, fun | 23 => 91 | 26 => 9 | 3 => 24 | 28 => 110 | 0 => 0 | 27 => 109 | 33 => 156 | 4 => 4 | n => n, fun | n => n⟩
theorem Tryz.keysS : Go.Proofs.SlLaysZ.n7 Tryz.prog Tryz.keysS_ren := {
  mixed := by kernel_rfl
  f7 := ⟨Tryz.f66.name, by decide, Tryz.func66.trans (congrArg some (by kernel_rfl))⟩
  f10 := ⟨Tryz.f104.name, by decide, Tryz.func104.trans (congrArg some (by kernel_rfl))⟩
  t0 := Tryz.underlying0
  a0 := Tryz.isAgg0
  z0 := Tryz.sizeOf0
  v0 := Tryz.zeroValue0
  t4 := Tryz.underlying4
  a4 := Tryz.isAgg4
  z4 := Tryz.sizeOf4
  v4 := Tryz.zeroValue4
  t23 := Tryz.underlying91
  a23 := Tryz.isAgg91
  z23 := Tryz.sizeOf91
  v23 := Tryz.zeroValue91
  t26 := Tryz.underlying9
  a26 := Tryz.isAgg9
  z26 := Tryz.sizeOf9
  v26 := Tryz.zeroValue9
  t27 := Tryz.underlying109
  a27 := Tryz.isAgg109
  z27 := Tryz.sizeOf109
  v27 := Tryz.zeroValue109
  t28 := Tryz.underlying110
  a28 := Tryz.isAgg110
  z28 := Tryz.sizeOf110
  v28 := Tryz.zeroValue110
  t33 := Tryz.underlying156
  a33 := Tryz.isAgg156
  z33 := Tryz.sizeOf156
  v33 := Tryz.zeroValue156 }
def Tryz.keysT_ren : Go.Shelf.Ren := ⟨fun | 7 => 119 | 10 => 143 | n => n, fun | 23 => 92 | 26 => 9 | 3 => 3 | 28 => 110 | 0 => 0 | 27 => 109 | 33 => 156 | 4 => 4 | n => n, fun | n => n⟩
theorem Tryz.keysT : Go.Proofs.SlLaysZ.n7 Tryz.prog Tryz.keysT_ren := {
  mixed := by kernel_rfl
  f7 := ⟨Tryz.f119.name, by decide, Tryz.func119.trans (congrArg some (by kernel_rfl))⟩
  f10 := ⟨Tryz.f143.name, by decide, Tryz.func143.trans (congrArg some (by kernel_rfl))⟩
  t0 := Tryz.underlying0
  a0 := Tryz.isAgg0
  z0 := Tryz.sizeOf0
  v0 := Tryz.zeroValue0
  t4 := Tryz.underlying4
  a4 := Tryz.isAgg4
  z4 := Tryz.sizeOf4
  v4 := Tryz.zeroValue4
  t23 := Tryz.underlying92
  a23 := Tryz.isAgg92
  z23 := Tryz.sizeOf92
  v23 := Tryz.zeroValue92
  t26 := Tryz.underlying9
  a26 := Tryz.isAgg9
  z26 := Tryz.sizeOf9
  v26 := Tryz.zeroValue9
  t27 := Tryz.underlying109
  a27 := Tryz.isAgg109
  z27 := Tryz.sizeOf109
  v27 := Tryz.zeroValue109
  t28 := Tryz.underlying110
  a28 := Tryz.isAgg110
  z28 := Tryz.sizeOf110
  v28 := Tryz.zeroValue110
  t33 := Tryz.underlying156
  a33 := Tryz.isAgg156
  z33 := Tryz.sizeOf156
  v33 := Tryz.zeroValue156 }
def Tryz.sortedS_ren : Go.Shelf.Ren := ⟨fun | 6 => 65 | 8 => 102 | 9 => 103 | 11 => 135 | 13 => 137 | 12 => 136 | 23 => 169 | 24 => 170 | 14 => 160 | 15 => 161 | 16 => 162 | 17 => 163 | 18 => 164 | 19 => 165 | 20 => 166 | 21 => 167 | 22 => 168 | 25 => 192 | 26 => 193 | 27 => 194 | 28 => 195 | 29 => 196 | 30 => 197 | 31 => 208 | n => n, fun | 26 => 9 | 28 => 110 | 24 => 107 | 0 => 0 | 3 => 3 | 37 => 54 | 48 => 164 | 50 => 74 | 4 => 4 | 40 => 218 | 39 => 217 | 45 => 135 | 5 => 5 | 9 => 9 | 51 => 248 | 55 => 252 | 57 => 265 | 58 => 266 | 33 => 156 | n => n, fun | n => n⟩
theorem Tryz.sortedS : Go.Proofs.SlLaysZ.n6 Tryz.prog Tryz.sortedS_ren := {
  mixed := by kernel_rfl
  f6 := ⟨Tryz.f65.name, by decide, Tryz.func65.trans (congrArg some (by kernel_rfl))⟩
  f8 := ⟨Tryz.f102.name, by decide, Tryz.func102.trans (congrArg some (by kernel_rfl))⟩
  f11 := ⟨Tryz.f135.name, by decide, Tryz.func135.trans (congrArg some (by kernel_rfl))⟩
  t0 := Tryz.underlying0
  a0 := Tryz.isAgg0
  z0 := Tryz.sizeOf0
  v0 := Tryz.zeroValue0
  t24 := Tryz.underlying107
  a24 := Tryz.isAgg107
  z24 := Tryz.sizeOf107
  v24 := Tryz.zeroValue107
  t26 := Tryz.underlying9
  a26 := Tryz.isAgg9
  z26 := Tryz.sizeOf9
  v26 := Tryz.zeroValue9
  t28 := Tryz.underlying110
  a28 := Tryz.isAgg110
  z28 := Tryz.sizeOf110
  v28 := Tryz.zeroValue110
  i26 := by kernel_rfl }
def Tryz.sortS_ren : Go.Shelf.Ren := ⟨fun | 6 => 103 | 8 => 137 | 9 => 136 | 19 => 169 | 20 => 170 | 21 => 160 | 22 => 161 | 23 => 162 | 24 => 163 | 25 => 164 | 26 => 165 | 27 => 166 | 28 => 167 | 29 => 168 | 36 => 192 | 31 => 193 | 32 => 194 | 37 => 195 | 38 => 196 | 39 => 197 | 41 => 208 | n => n, fun | 27 => 107 | 29 => 9 | 3 => 3 | 32 => 54 | 26 => 107 | 0 => 0 | 44 => 164 | 46 => 74 | 4 => 4 | 36 => 218 | 35 => 217 | 41 => 135 | 5 => 5 | 9 => 9 | 53 => 248 | 57 => 252 | 63 => 265 | 64 => 266 | n => n, fun | n => n⟩
theorem Tryz.sortS : Go.Proofs.SlLaysM.n6 Tryz.prog Tryz.sortS_ren := {
  mixed := by kernel_rfl
  f6 := ⟨Tryz.f103.name, by decide, Tryz.func103.trans (congrArg some (by kernel_rfl))⟩
  f8 := Tryz.func137.trans (congrArg some (by kernel_rfl))
  f9 := ⟨Tryz.f136.name, by decide, Tryz.func136.trans (congrArg some (by kernel_rfl))⟩
  f19 := Tryz.func169.trans (congrArg some (by kernel_rfl))
  f20 := Tryz.func170.trans (congrArg some (by kernel_rfl))
  f21 := ⟨Tryz.f160.name, by decide, Tryz.func160.trans (congrArg some (by kernel_rfl))⟩
  f22 := ⟨Tryz.f161.name, by decide, Tryz.func161.trans (congrArg some (by kernel_rfl))⟩
  f23 := ⟨Tryz.f162.name, by decide, Tryz.func162.trans (congrArg some (by kernel_rfl))⟩
  f24 := ⟨Tryz.f163.name, by decide, Tryz.func163.trans (congrArg some (by kernel_rfl))⟩
  f25 := ⟨Tryz.f164.name, by decide, Tryz.func164.trans (congrArg some (by kernel_rfl))⟩
  f26 := ⟨Tryz.f165.name, by decide, Tryz.func165.trans (congrArg some (by kernel_rfl))⟩
  f27 := ⟨Tryz.f166.name, by decide, Tryz.func166.trans (congrArg some (by kernel_rfl))⟩
  f28 := ⟨Tryz.f167.name, by decide, Tryz.func167.trans (congrArg some (by kernel_rfl))⟩
  f29 := ⟨Tryz.f168.name, by decide, Tryz.func168.trans (congrArg some (by kernel_rfl))⟩
  f31 := Tryz.func193.trans (congrArg some (by kernel_rfl))
  f32 := Tryz.func194.trans (congrArg some (by kernel_rfl))
  f36 := ⟨Tryz.f192.name, by decide, Tryz.func192.trans (congrArg some (by kernel_rfl))⟩
  f37 := ⟨Tryz.f195.name, by decide, Tryz.func195.trans (congrArg some (by kernel_rfl))⟩
  f38 := ⟨Tryz.f196.name, by decide, Tryz.func196.trans (congrArg some (by kernel_rfl))⟩
  f39 := ⟨Tryz.f197.name, by decide, Tryz.func197.trans (congrArg some (by kernel_rfl))⟩
  f41 := ⟨Tryz.f208.name, by decide, Tryz.func208.trans (congrArg some (by kernel_rfl))⟩
  t0 := Tryz.underlying0
  a0 := Tryz.isAgg0
  z0 := Tryz.sizeOf0
  v0 := Tryz.zeroValue0
  t3 := Tryz.underlying3
  a3 := Tryz.isAgg3
  z3 := Tryz.sizeOf3
  v3 := Tryz.zeroValue3
  t4 := Tryz.underlying4
  a4 := Tryz.isAgg4
  z4 := Tryz.sizeOf4
  v4 := Tryz.zeroValue4
  t5 := Tryz.underlying5
  a5 := Tryz.isAgg5
  z5 := Tryz.sizeOf5
  v5 := Tryz.zeroValue5
  t9 := Tryz.underlying9
  a9 := Tryz.isAgg9
  z9 := Tryz.sizeOf9
  v9 := Tryz.zeroValue9
  t26 := Tryz.underlying107
  a26 := Tryz.isAgg107
  z26 := Tryz.sizeOf107
  v26 := Tryz.zeroValue107
  t27 := Tryz.underlying107
  a27 := Tryz.isAgg107
  z27 := Tryz.sizeOf107
  v27 := Tryz.zeroValue107
  t29 := Tryz.underlying9
  a29 := Tryz.isAgg9
  z29 := Tryz.sizeOf9
  v29 := Tryz.zeroValue9
  t32 := Tryz.underlying54
  a32 := Tryz.isAgg54
  z32 := Tryz.sizeOf54
  v32 := Tryz.zeroValue54
  t35 := Tryz.underlying217
  a35 := Tryz.isAgg217
  z35 := Tryz.sizeOf217
  v35 := Tryz.zeroValue217
  t36 := Tryz.underlying218
  a36 := Tryz.isAgg218
  z36 := Tryz.sizeOf218
  v36 := Tryz.zeroValue218
  t41 := Tryz.underlying135
  a41 := Tryz.isAgg135
  z41 := Tryz.sizeOf135
  v41 := Tryz.zeroValue135
  t44 := Tryz.underlying164
  a44 := Tryz.isAgg164
  z44 := Tryz.sizeOf164
  v44 := Tryz.zeroValue164
  t46 := Tryz.underlying74
  a46 := Tryz.isAgg74
  z46 := Tryz.sizeOf74
  v46 := Tryz.zeroValue74
  t53 := Tryz.underlying248
  a53 := Tryz.isAgg248
  z53 := Tryz.sizeOf248
  v53 := Tryz.zeroValue248
  t57 := Tryz.underlying252
  a57 := Tryz.isAgg252
  z57 := Tryz.sizeOf252
  v57 := Tryz.zeroValue252
  t63 := Tryz.underlying265
  a63 := Tryz.isAgg265
  z63 := Tryz.sizeOf265
  v63 := Tryz.zeroValue265
  t64 := Tryz.underlying266
  a64 := Tryz.isAgg266
  z64 := Tryz.sizeOf266
  v64 := Tryz.zeroValue266 }

theorem Tryz.sortsS (m : Nat) : AnyZ.SortsIn Tryz.prog Tryz.sortedS_ren Fence.wide m :=
  ⟨fun blk off cap ss W hH hblk hsz => callsIn_wide.2 (AnyM.slices_Sort_string Tryz.sortS blk off cap ss W hH hblk hsz),
   fun p cap W => callsIn_wide.2 (AnyM.slices_Sort_string_none Tryz.sortS p cap W)⟩
end Go.Proofs
namespace Go.Proofs.YtcpgbcabmcbclaaGreatDoor
open Go.GV Go.Proofs.Tryz
attribute [local irreducible] AB W Wq Wt
def TR:Nat:=0
def TB:Nat:=0
def RB(n bb cb:Nat)(left:Int)(on:Bool):List Value:=[.slice (some ⟨bb,0,none⟩) n cb,.int .i64 left,.bool on]
@[simp] theorem RB_len (n bb cb:Nat) (left:Int) (on:Bool):(RB n bb cb left on).length=3:=rfl
def LooseS(w:World)(role:Nat->Nat)(k:Nat)(v:Value)(l:List Byt):Prop :=
 ∃a n c full,v=.slice a n c/\OS a n c 1 full (l.map str)/\∀x∈ent a 9 full,w.heap[x.1]?=some x.2/\role x.1=5+k
structure RefR(w:World)(rd:Nat)(A:Dev)(role:Nat->Nat)(bb cb:Nat)(full:List Value):Prop where
 lt:∀x,role x≠0->x<w.heap.size
 rr:role rd=1
 rb:role bb=2
 hd:w.heap[rd]?=some (Bl TR (RB A.B.length bb cb A.left A.on))
 hb:w.heap[bb]?=some (Bl TB full)
 len:full.length=cb*2
 cap:A.B.length<=cb
 part:∀i p,A.B[i]?=some p->full[2*i]?=some (str p.1)/\∃v,full[2*i+1]?=some v/\LooseS w role i v p.2
 wf:Wf A
def RefAt(w:World)(rd:Nat)(A:Dev)(F:Nat->Prop):Prop:=∃role bb cb full,RefR w rd A role bb cb full/\∀x,role x≠0->F x
theorem LooseS.keep{w w':World}{role role':Nat->Nat}{k:Nat}{v:Value}{l:List Byt}{S:List Nat}(h:LooseS w role k v l)(hx:Ext S w w')(hS:∀x∈S,role x≠5+k)(hr5:∀x,role x=5+k->role' x=5+k):LooseS w' role' k v l:=by
 obtain⟨a,n,c,full,rfl,O,hb⟩:=h;refine⟨a,n,c,full,rfl,O,fun x hx'=>?_⟩;obtain⟨h6,h7⟩:=hb x hx';exact⟨by rw[hx.block x.1 (Al h6) fun h=>hS _ h h7];exact h6,hr5 _ h7⟩
theorem RefAt.keep{w w':World}{rd:Nat}{A:Dev}{F:Nat->Prop}(h:RefAt w rd A F){S:List Nat}(hx:Ext S w w')(hS:∀x∈S,¬F x):RefAt w' rd A F:=by
 obtain⟨role,bb,cb,full,D,hF⟩:=h;have hS':∀x∈S,role x=0:=fun x hx=>Classical.byContradiction fun h=>hS x hx (hF x h)
 have hb:∀{b:Nat} {o:Obj},w.heap[b]?=some o->role b≠0->w'.heap[b]?=some o:=fun{b o} h1 h2=>by
  rw[hx.block b (Al h1) fun h=>h2 (hS' b h)];exact h1
 refine⟨role,bb,cb,full,⟨fun x h=>qas (D.lt x h) hx.size,D.rr,D.rb,hb D.hd (by rw[D.rr];decide),hb D.hb (by rw[D.rb];decide),D.len,D.cap,fun i p hp=>?_,D.wf⟩,hF⟩;obtain⟨h1,v,h2,h3⟩:=D.part i p hp;exact⟨h1,v,h2,h3.keep hx (fun x h=>by rw[hS' x h];omega) fun _ h=>h⟩
theorem RefAt.keep0{w w':World}{rd:Nat}{A:Dev}{F:Nat->Prop}(h:RefAt w rd A F)(hx:Ext [] w w'):RefAt w' rd A F:=h.keep hx (by simp)
theorem RefAt.mono{w:World}{rd:Nat}{A:Dev}{F G:Nat->Prop}(h:RefAt w rd A F)(hG:∀x,F x->G x):RefAt w rd A G :=
 let ⟨role,bb,cb,full,D,hF⟩:=h;⟨role,bb,cb,full,D,fun x hx=>hG x (hF x hx)⟩
theorem RefAt.wf{w:World}{rd:Nat}{A:Dev}{F:Nat->Prop}(h:RefAt w rd A F):Wf A:=let ⟨_,_,_,_,D,_⟩:=h;D.wf
theorem RefR.turn{w w':World}{rd:Nat}{A A':Dev}{role:Nat->Nat}{bb cb:Nat}{full:List Value}(D:RefR w rd A role bb cb full)(hx:Ext [rd] w w')(hd:w'.heap[rd]?=some (Bl TR (RB A'.B.length bb cb A'.left A'.on)))(hB:A'.B=A.B)(wf:Wf A'):RefR w' rd A' role bb cb full:=by
 have hs:∀x∈[rd],role x=1:=fun x h=>by rw[qaa.1 h];exact D.rr
 refine⟨fun x h=>qas (D.lt x h) hx.size,D.rr,D.rb,hd,?_,D.len,by rw[hB];exact D.cap,fun i p hp=>?_,wf⟩
 .rw[hx.block bb (Al D.hb) fun h=>by have:=hs _ h;rw[D.rb]at this;omega];exact D.hb
 .rw[hB]at hp;obtain⟨h1,v,h2,h3⟩:=D.part i p hp;exact⟨h1,v,h2,h3.keep hx (fun x h=>by rw[hs x h];omega) fun _ h=>h⟩
theorem RefR.put{w w':World}{rd:Nat}{A:Dev}{role role':Nat->Nat}{bb cb:Nat}{full:List Value}(D:RefR w rd A role bb cb full){k:Nat}{p:Byt × List Byt}{S:List Nat}{full':List Value}{v:Value}(hk:k<A.B.length)(hx:Ext S w w')(hS:∀x∈S,role x=2\/role x=5+k)(hb':w'.heap[bb]?=some (Bl TB full'))(hlen:full'.length=full.length)(h0:full'[2*k]?=some (str p.1))(h1:full'[2*k+1]?=some v)(hrest:∀i,i≠2*k->i≠2*k+1->full'[i]?=full[i]?)(hv:LooseS w' role' k v p.2)(hold:∀x,role x≠0->role' x=role x)(hlt:∀x,role' x≠0->x<w'.heap.size)(wf:Wf { A with B:=A.B.set k p }):RefR w' rd { A with B:=A.B.set k p } role' bb cb full':=by
 refine⟨hlt,by rw[hold _ (by rw[D.rr];decide),D.rr],by rw[hold _ (by rw[D.rb];decide),D.rb],?_,hb',by rw[hlen,D.len],by rw[qch];exact D.cap,fun i q hq=>?_,wf⟩
 .rw[hx.block rd (Al D.hd) fun h=>by have:=hS _ h;rw[D.rr]at this;omega,qch];exact D.hd
 .have hq':(A.B.set k p)[i]?=some q:=hq;rw[qc6]at hq'
  by_cases hik:k=i
  .subst hik;rw[if_pos rfl,if_pos hk]at hq';cases hq';exact⟨h0,v,h1,hv⟩
  .rw[if_neg hik]at hq';obtain⟨a1,u,a2,a3⟩:=D.part i q hq';refine⟨by rw[hrest _ (by omega) (by omega)];exact a1,u,by rw[hrest _ (by omega) (by omega)];exact a2,a3.keep hx (fun x h=>by have:=hS x h;omega) fun x h=>by rw[hold x (by omega),h]⟩
def sureB(B:List (Byt × List Byt))(i:Nat):List (Byt × List Byt):=(B.take i).map (fun p=>(stands p,[]))++B.drop i
theorem Wf.set{A:Dev}(h:Wf A){k:Nat}{p:Byt × List Byt}(h1:p.1.length=512)(h2:∀b∈p.2,b.length=512):Wf { A with B:=A.B.set k p }:=by
 refine⟨by rw[qch];exact h.lo,by rw[qch];exact h.hi,h.left,h.left2,fun q hq=>?_,fun q hq x hx=>?_⟩
 .rcases qfd hq with hq|rfl
  .exact h.sure q hq
  .exact h1
 .rcases qfd hq with hq|rfl
  .exact h.loose q hq x hx
  .exact h2 x hx
def cellsN(i:Nat):List Value:=(List.replicate i [str zeros,Value.slice none 0 0]).flatten
def Ov(b:List UInt8):Nat:=numN ((CR b).take 8)
def Fb(k:Int)(b:List UInt8):Bool :=
 decide (Fd b=0) && (decide ((GF b).toNat=1) && (decide (8<=(CR b).length) && (decide ((CR b).length<=488) && (decide (1<=Ov b) && (decide (Ov b<=4611686018427387904) && decide (((Ov b % 2:Nat):Int)=k))))))
def Cy(k:Int)(b:List UInt8):Nat:=bif Fb k b then Ov b else 0
def DI(k:Int)(b:List UInt8):List UInt8:=bif Fb k b then(CR b).drop 8 else[]
theorem Aj4{b:List UInt8}{w w':World}{v:Value}(h:NR b w v w'):∃k a c m,v=.tuple #[bv k,.slice a (List.length m) c,.int .i64 (Fd b)]/\Ext [] w w'/\Rd w' a 1 B8 m/\m.length<=c/\(Fd b=0->k=GF b/\m=CR b)/\m.length<=505:=by
 rcases h with⟨h0,rfl,hx⟩|⟨h0,s,rfl,F⟩
 .exact⟨0,none,0,[],rfl,hx,Rd.nil,qae _,fun h=>absurd h h0,by simp⟩
 .obtain⟨a,c,rfl,R,hc⟩:=Fresh.rdB F;refine⟨_,a,c,_,by rw[h0],F.ext,R,hc,fun _=>⟨rfl,rfl⟩,?_⟩;have h1:(CR b).length<=(IR b).length:=by rw[CR,qa0];exact Nat.min_le_right _ _
  have h2:(IR b).length<=505:=by rw[IR,qa0];exact Nat.min_le_left _ _
  omega
theorem Ami(b:List UInt8):Ov b<18446744073709551616:=by
 have h:=Kr ((CR b).take 8);have h2:256 ^ ((CR b).take 8).length<=256 ^ 8:=qc2 (by omega) (by rw[qa0];omega);have h3:(256:Nat) ^ 8=18446744073709551616:=by decide
 unfold Ov;omega
def Yd(k:Int)(b:List UInt8)(w:World)(v:Value)(w':World):Prop :=
 ∃a c,v=.agg #[.int .u64 (Cy k b:Int),.slice a (DI k b).length c]/\Rd w' a 1 B8 (DI k b)/\(DI k b).length<=c/\(DI k b=[]\/w.heap.size<=(adr a).block)/\Ext [] w w'
theorem Aj5(l:List UInt8):∃(g8:Nat) (n9:Int),Gi l 0 8=.tuple #[.int .u64 (g8:Int),.int .i64 n9,.int .i64 (Dj l 0 8)]/\(Dj l 0 8=0->g8=numN (l.take 8)/\n9=8):=by
 by_cases h:Dj l 0 8=0
 .refine⟨numN (l.take 8),8,?_,fun _=>⟨rfl,rfl⟩⟩;rw[Gi,h];rfl
 .refine⟨0,0,?_,fun h'=>absurd h' h⟩;rw[Gi,qag h];rfl
theorem PA{k:Int}{b:List UInt8}{w w':World}(h:Fb k b=false)(hx:Ext [] w w'):Yd k b w (.agg #[.int .u64 0,.slice none 0 0]) w' :=
 ⟨none,0,by rw[Cy,DI,h];rfl,by rw[DI,h];exact Rd.nil,by rw[DI,h];exact qae _,.inl (by rw[DI,h];rfl),hx⟩
theorem Amj(k:Int)(a:Option Addr)(c n:Nat)(b:List UInt8)(w:World)(R:Rd w a 1 B8 b)(hn:b.length=n)(hm:n<=9223372036854775799:=by omega)(hc:b.length<=c:=by omega):
  Ret prog 73 #[.int .i64 k,.slice a n c] w fun v w'=>Yd k b w v w':=by
 subst hn;obtain⟨w0,rfl,H⟩:=qE w;have hgl:=Ami b;refine A6 (fn:=f73) func73 U [.int .i64 k,.slice a b.length c] U (Ad (Bj Lf H ?_));rintro b4 w - H;refine qA (Ad (Aj U (Ai qB (Wd a c b.length b _ (R.ext0 H.ext) U (hm:=hm) hc) U ?_)));rintro v w P;obtain⟨kd,a6,c6,m,rfl,hx,R6,hc6,hP,hm5⟩:=Aj4 P;replace H:=H.call hx;refine AQ U (Ah U U (Ah U U (Ah U U (Ac U (Ak U (Ac U (qA (Aq (Ad (BE (α:=Unit) 268304384 (fun _=>[(27,.bool (!(decide (Fd b=0) && (decide (kd.toNat=1) && decide (m.length<=488)))))]) (fun _ w'=>Ctx w0 [] w' [(b4,Bl 117 [.int .u64 0,.slice none 0 0])]/\Ext [] w w') U ?_ ?_))))))))))
 .refine Ae U (Ba U U (AA U (AR 19 U ?_ ?_)))
  .intro h1;replace h1:=Bu h1;refine Ag U (Ag U (AN U (.bool _) U (AA U (Ag U (Ag U (Ag U (AN U (.bool _) U (Ab ?_))))))));exact⟨rfl,(),rfl,⟨qab Value.bool (by rw[qar];simp_all;try omega),trivial⟩,⟨H,.refl _ _⟩⟩
  .intro h2;replace h2:=Bv h2;refine Ae U (Ba U U (AK U (.bool _) U (AA U (AR 23 U ?_ ?_))))
   .intro h3;replace h3:=Bu h3;refine Ag U (Ag U (Ag U (AN U (.bool _) U (Ab ?_))));exact⟨rfl,(),rfl,⟨qab Value.bool (by rw[qar];simp_all;try omega),trivial⟩,⟨H,.refl _ _⟩⟩
   .intro h4;replace h4:=Bv h4;refine Aj U (AP AX U (BZ U U (AK U (.bool _) U (Ab ?_))));exact⟨rfl,(),rfl,⟨qab Value.bool (by rw[qar];simp_all;try omega),trivial⟩,⟨H,.refl _ _⟩⟩
 rintro - j27 w ⟨H,hxj⟩;replace R6:=R6.ext0 hxj;refine Au _ U ?_ ?_
 .intro h1;replace h1:=Cz h1
  have hr:Fb k b=false:=by
   rw[qec];intro hc;simp only[Fb,qao,qap]at hc;obtain⟨h2,h3,_,h4,_⟩:=hc;obtain⟨rfl,rfl⟩:=hP h2;simp[h2,h3,h4]at h1
  refine Ad (B2 [.int .u64 0,.slice none 0 0] VW Lf ?_);refine Bo Hu U U U (by simp[Bi]) H at0 U ?_;rintro w H;refine qA (Ax (Ao (NA U U U Pb Hu H at0 U ?_)));exact PA hr H.ext
 .intro h1;replace h1:=C0 h1;simp only[qao,qap]at h1;obtain⟨h2,h3,h4⟩:=h1;obtain⟨rfl,rfl⟩:=hP h2
  have hte:Dj (CR b) 0 8=bif decide (8<=(CR b).length)then 0 else 5:=by
   unfold Dj;rw[qal (show(0:Int)<=((CR b).length:Int)by omega)]
   cases hd:decide (8<=(CR b).length)with
   |true=>rw[qap]at hd;rw[qal (show(8:Int)<=((CR b).length:Int) - 0 by omega)];rfl
   |false=>rw[qct]at hd;rw[qag (show ¬(8:Int)<=((CR b).length:Int) - 0 by omega)];rfl
  refine Ap (Aa (Ad (Aj U (Ai qB (Hd a6 c6 (CR b).length (CR b) 0 8 _ R6 U hc6) U ?_))));rintro v w ⟨rfl,hx⟩;obtain⟨g8,n9,htv,hg8⟩:∃(g8:Nat) (n9:Int),Gi (CR b) 0 8=.tuple #[.int .u64 (g8:Int),.int .i64 n9,.int .i64 (Dj (CR b) 0 8)]/\(Dj (CR b) 0 8=0->g8=Ov b/\n9=8):=Aj5 (CR b);rw[htv];replace H:=H.call hx;replace R6:=R6.ext0 hx;refine AQ U (Ah U U (Ah U U (Ah U U (Ac U (Ac U (Ac U (qA (Aq (Ad ?_)))))))));refine Ae U (Ba U U (qA (Au _ U ?_ ?_)))
  .intro h5;replace h5:=Bu h5
   have hr:Fb k b=false:=by
    rw[qec];intro hc;simp only[Fb,qao,qap]at hc;rw[hte,qal hc.2.2.1]at h5;exact h5 U
   refine Ad (B2 [.int .u64 0,.slice none 0 0] VW Lf ?_);refine Bo Hu U U U (by simp[Bi]) H at0 U ?_;rintro w H;refine qA (Ax (Ao (NA U U U Pb Hu H at0 U ?_)));exact PA hr H.ext
  .intro h5;replace h5:=Bv h5;obtain⟨rfl,rfl⟩:=hg8 h5
   have h8:8<=(CR b).length:=by
    refine Classical.byContradiction fun hc=>?_;rw[hte,qag hc]at h5;cases h5
   have R8:=R6.cut 8 c6 hc6;refine Ap (Aa (Ad (Ae U (Aj U (Ae U (F8 AX CT U U ?_))))));refine Ai qB (Ady _ (c6 - 8) ((CR b).length - 8) ((CR b).drop 8) _ R8 (by rw[qbg])) U ?_;rintro v w ⟨F,-⟩;have hlt:=H.lt at0;obtain⟨a42,c42,rfl,R42,hc42,hnew⟩:=Fresh.newB F;replace H:=H.call F.ext;have h4c:=H.get at0;have hw4:w0.heap.size<=b4:=(H.own _ (qaf ..)).elim (fun h=>by cases h) id;have H0:=H.ext;obtain⟨wr,rfl⟩:=qD w;replace H:=Ctx.start1 h4c;refine B2 [.int .u64 (Ov b:Int),.slice a42 ((CR b).drop 8).length c42] VW Lf (Bj Lf H ?_);rintro b10 w - H;refine Bo Hu U U U (by simp[Bi]) H at0 U ?_;rintro w H
   refine qA (Aq (Ad (BE (α:=Unit) 1152903912420802560 (fun _=>[(59,.bool (!(decide (1<=Ov b) && (decide (Ov b<=4611686018427387904) && decide (((Ov b % 2:Nat):Int)=k)))))]) (fun _ w'=>Ctx wr [b4] w' [(b10,Bl 117 [.int .u64 (Ov b:Int),.slice a42 ((CR b).drop 8).length c42]),(b4,Bl 117 [.int .u64 0,.slice none 0 0])]) U ?_ ?_)))
   .refine Af IM U (AH GC U H at0 U (Bn U U (AA U (AR 47 U ?_ ?_))))
    .intro h5;replace h5:=AV h5;refine Ag U (Ag U (Ag U (AN U (.bool _) U (AA U (Ag U (Ag U (Ag U (Ag U (Ag U ?_)))))))));refine Ag U (AN U (.bool _) U (Ab ?_));exact⟨rfl,(),rfl,⟨qab Value.bool (by rw[qar];simp_all;try omega),trivial⟩,H⟩
    .intro h6;replace h6:=AW h6;refine Af IM U (AH GC U H at0 U (BZ U U (AK U (.bool _) U (AA U (AR 52 U ?_ ?_)))))
     .intro h7;replace h7:=AV h7;refine Ag U (Ag U (Ag U (Ag U (Ag U (Ag U (AN U (.bool _) U (Ab ?_)))))));exact⟨rfl,(),rfl,⟨qab Value.bool (by rw[qar];simp_all;try omega),trivial⟩,H⟩
     .intro h8;replace h8:=AW h8;refine Af IM U (AH GC U H at0 U (Ro U U U ?_));refine Ej U Hn Ge (Ae U (Ba U U (AK U (.bool _) U (Ab ?_))));exact⟨rfl,(),rfl,⟨qab Value.bool (by rw[qar];simp_all;try omega),trivial⟩,H⟩
   rintro - j59 w H;refine Au _ U ?_ ?_
   .intro h6;replace h6:=Cz h6
    have hr:Fb k b=false:=by
     rw[qec];intro hc;simp only[Fb,qao,qap]at hc;simp[hc.2.2.2.2.1,hc.2.2.2.2.2.1,hc.2.2.2.2.2.2]at h6
    refine Ad (B2 [.int .u64 0,.slice none 0 0] VW Lf ?_);refine Bo Hu U U U (by simp[Bi]) H at1 U ?_;rintro w H;refine qA (Ax (Ao (NA U U U Pb Hu H at1 U ?_)));exact PA hr (H0.then H.ext (by intro x hx;rw[qaa]at hx;subst hx;exact .inr hw4))
   .intro h6;replace h6:=C0 h6
    have hr:Fb k b=true:=by
     simp only[qao,qap]at h6;simp only[Fb,qao,qap];exact⟨h2,h3,h8,h4,h6.1,h6.2.1,h6.2.2⟩
    refine Ap (Aa (Ad (BN Pb Hu U H at0 U (Bo Hu U U U (by simp[Bi]) H at1 U ?_))));rintro w H;refine qA (Ax (NA U U U Pb Hu H at1 U ?_));have R9:=Rd.newer R42 hnew H.ext (by intro x hx;rw[qaa]at hx;subst hx;exact hlt);refine⟨a42,c42,?_,?_,?_,?_,H0.then H.ext (by intro x hx;rw[qaa]at hx;subst hx;exact .inr hw4)⟩
    .rw[Cy,DI,hr];rfl
    .rw[DI,hr];exact R9
    .rw[DI,hr];exact hc42
    .rw[DI,hr];exact hnew.imp id fun h=>by omega
def OfPost(k:Int)(b:List UInt8)(w:World)(v:Value)(w':World):Prop :=
 ∃a c,v=.tuple #[.int .u64 (Cy k b:Int),.slice a (DI k b).length c]/\Rd w' a 1 B8 (DI k b)/\(DI k b).length<=c/\Ext [] w w'
def DJ(gen:Nat)(body:Byt):Byt:=DT 1 (Bq gen 8++body)
def Ie(gen:Nat):Int:=((gen % 2:Nat):Int)
def GN(A:Dev)(gen:Nat)(body:Byt):Int :=
 bif decide (gen<1) || (decide (4611686018427387904<gen) || decide (A.B.length<2))then 1 else bif decide (480<body.length)then 6 else
  bif decide (Dt A (Ie gen) (DJ gen body)=0)then Du (CE A (Ie gen) (DJ gen body))else Dt A (Ie gen) (DJ gen body)
def EG(A:Dev)(gen:Nat)(body:Byt):Dev :=
 bif decide (gen<1) || (decide (4611686018427387904<gen) || decide (A.B.length<2))then A else bif decide (480<body.length)then A else
  bif decide (Dt A (Ie gen) (DJ gen body)=0)then Cp (CE A (Ie gen) (DJ gen body))else CE A (Ie gen) (DJ gen body)
def at'(A:Dev)(k:Nat):Byt:=stands (A.B.getD k (zeros,[]))
def EK(A:Dev):Int:=bif A.on then(bif decide (A.B.length<2)then 1 else bif decide (Cy 0 (at' A 0)=0) && decide (Cy 1 (at' A 1)=0)then 4 else 0)else 8
def F6(A:Dev):Nat:=bif decide (EK A=0)then(bif decide (Cy 1 (at' A 1)<Cy 0 (at' A 0))then Cy 0 (at' A 0)else Cy 1 (at' A 1))else 0
def DU(A:Dev):Byt:=bif decide (EK A=0)then(bif decide (Cy 1 (at' A 1)<Cy 0 (at' A 0))then DI 0 (at' A 0)else DI 1 (at' A 1))else[]
theorem Ye{F:Nat->Prop}{a b c:World}(h1:a.heap.size<=b.heap.size):∀x,grow F b c x->grow F a c x:=by
 rintro x (h|h)
 .exact .inl h
 .exact .inr ⟨by omega,h.2⟩
theorem L4(gen:Nat){body:Byt}(h:body.length<=480):(Bq gen 8++body).length<=505:=by rw[qan,AZ];omega
theorem Aeu(gen:Nat){body:Byt}(h:body.length<=480):(DJ gen body).length=512:=FF (L4 gen h)
theorem Yf{gen:Nat}{body:Byt}(h:body.length<=480)(hg:gen<=4611686018427387904):Ov (DJ gen body)=gen:=by
 unfold Ov DJ;rw[JN 1 (L4 gen h),qcs (by rw[AZ];exact qae _),qa6 (by rw[AZ];exact qae _),Fm,qa9 (by omega)]
theorem Acl{gen:Nat}{body:Byt}(h:body.length<=480)(h1:1<=gen)(hg:gen<=4611686018427387904):Fb (Ie gen) (DJ gen body)=true:=by
 unfold Fb;have hb:CR (DJ gen body)=Bq gen 8++body:=JN 1 (L4 gen h);have hl:(Bq gen 8++body).length=8+body.length:=by rw[qan,AZ]
 rw[Yf h hg,hb,hl,show Fd (DJ gen body)=0 from Mm (by decide) (L4 gen h),show GF (DJ gen body)=1 from Ml ..];simp[Ie];omega
theorem Nr{gen:Nat}{body:Byt}(h:body.length<=480)(h1:1<=gen:=by omega)(hg:gen<=4611686018427387904:=by omega):Cy (Ie gen) (DJ gen body)=gen:=by
 rw[Cy,Acl h h1 hg,cond_true,Yf h hg]
theorem Ns{gen:Nat}{body:Byt}(h:body.length<=480)(h1:1<=gen:=by omega)(hg:gen<=4611686018427387904:=by omega):DI (Ie gen) (DJ gen body)=body:=by
 rw[DI,Acl h h1 hg,cond_true,show CR (DJ gen body)=Bq gen 8++body from JN 1 (L4 gen h),qef (by rw[AZ];exact qae _),qb7 (by rw[AZ];exact qae _),qa7]
theorem Ap2{k:Int}{b:Byt}(h:(GF b).toNat≠1:=by decide):Fb k b=false:=by
 unfold Fb;rw[qag h,Bool.false_and,qeb]
theorem GO(k:Int):Cy k zeros=0:=by
 rw[Cy,Ap2 (b:=zeros)];rfl
def calm(B:List Byt)(left:Int):Dev:=⟨B.map fun b=>(b,[]),left,true⟩
theorem Tq(B:List Byt)(left:Int):(calm B left).B.length=B.length:=by simp[calm]
theorem My(B:List Byt)(left:Int)(k:Nat):at' (calm B left) k=B.getD k zeros:=by
 unfold at' calm;simp only[qa8,qat];cases B[k]? <;> rfl
theorem Aev(B:List Byt){left:Int}(h:left≠0):(calm B left).less=calm B (if left = -1 then -1 else left - 1):=by
 unfold Dev.less calm;simp only[if_neg h]
 split
 .rename_i h1;rw[h1]
 .rfl
theorem Aew(B:List Byt)(left:Int):(calm B left).goes=decide (left=0):=rfl
theorem Amk(gen:Nat):Ie gen=0\/Ie gen=1:=by unfold Ie;omega
theorem Aj6(gen:Nat):(Ie gen).toNat=gen % 2:=by unfold Ie;omega
theorem Aj7{B:List Byt}{left:Int}(gen:Nat)(h:2<=B.length):(calm B left).has (Ie gen)=true:=by
 unfold Dev.has;rw[Tq];have:=Amk gen;simp only[qao,qap];omega
def Gv(B:List Byt)(k:Nat)(b:Byt)(left:Int)(on:Bool):Dev:=⟨(B.map fun b=>(b,([]:List Byt))).modify k fun p=>(p.1,p.2++[b]),left,on⟩
theorem Yg(B:List Byt)(k:Nat)(b:Byt)(left:Int):Ig (Gv B k b left true)=calm (B.set k b) left:=by
 unfold Ig Gv calm;simp only[Dev.mk.injEq,and_true];apply qci;intro i;simp only[qat,qcq,qc6]
 by_cases hik:k=i
 .subst hik;simp only[if_true]
  by_cases hk:k<B.length
  .rw[if_pos hk,qbd hk];rfl
  .rw[if_neg hk,qbz (by omega)];rfl
 .simp only[if_neg hik];cases B[i]? <;> rfl
theorem Aah{B:List Byt}{left:Int}(gen:Nat){b:Byt}(h:2<=B.length)(hb:b.length=512):Dt (calm B left) (Ie gen) b=(if left=0 then 8 else 0) /\
  CE (calm B left) (Ie gen) b=if left=0 then⟨(calm B left).B,left,false⟩else Gv B (gen % 2) b (if left = -1 then -1 else left - 1) true:=by
 unfold Dt CE;rw[Aj7 gen h,qal hb,Aew]
 by_cases h0:left=0
 .subst h0;exact⟨rfl,rfl⟩
 .rw[qag h0,if_neg h0,if_neg h0,Aev B h0,Aj6];exact⟨rfl,rfl⟩
theorem Wv(B:List Byt)(k:Nat)(b:Byt)(left:Int):Du (Gv B k b left true)=(if left=0 then 8 else 0) /\
  Cp (Gv B k b left true)=if left=0 then Gv B k b left false else calm (B.set k b) (if left = -1 then -1 else left - 1):=by
 unfold Du Cp;show(bif true then bif decide (left=0)then(8:Int)else 0 else 8)=_/\(bif true then bif decide (left=0)then(Gv B k b left true).less else Ig (Gv B k b left true).less else Gv B k b left true)=_
 by_cases h0:left=0
 .subst h0;exact⟨rfl,rfl⟩
 .rw[qag h0,if_neg h0,if_neg h0];refine⟨rfl,?_⟩;show Ig (Gv B k b left true).less=_
  have:(Gv B k b left true).less=Gv B k b (if left = -1 then -1 else left - 1) true:=by
   unfold Dev.less Gv;simp only[if_neg h0]
   split
   .rename_i h1;rw[h1]
   .rfl
  rw[this,Yg]
theorem Aex{B:List Byt}{left:Int}{gen:Nat}{body:Byt}(h:2<=B.length)(h1:1<=gen)(hg:gen<=4611686018427387904)(hb:body.length<=480)(hl : -1<=left) :
  GN (calm B left) gen body=(if left=0\/left=1 then 8 else 0) /\
  EG (calm B left) gen body=if left=0 then⟨(calm B left).B,left,false⟩else if left=1 then Gv B (gen % 2) (DJ gen body) 0 false else calm (B.set (gen % 2) (DJ gen body)) (if left = -1 then -1 else left - 2):=by
 obtain⟨hw1,hw2⟩:=Aah (left:=left) gen (b:=DJ gen body) h (Aeu gen hb);unfold GN EG;rw[Tq,qag (show ¬gen<1 by omega),qag (show ¬4611686018427387904<gen by omega),qag (show ¬B.length<2 by omega),qag (show ¬480<body.length by omega),hw1,hw2]
 by_cases h0:left=0
 .subst h0;exact⟨rfl,rfl⟩
 .simp only[if_neg h0,Bool.or_false,cond_false,decide_true,cond_true];obtain⟨hf1,hf2⟩:=Wv B (gen % 2) (DJ gen body) (if left = -1 then -1 else left - 1);rw[hf1,hf2]
  by_cases hm:left = -1
  .subst hm;exact⟨rfl,rfl⟩
  .simp only[if_neg hm]
   by_cases h1:left=1
   .subst h1;exact⟨rfl,rfl⟩
   .rw[if_neg (show ¬left - 1=0 by omega),if_neg (show ¬left - 1=0 by omega),if_neg (show ¬(left=0\/left=1)by omega),if_neg h1,if_neg (show ¬left - 1 = -1 by omega)];exact⟨rfl,by congr 1;omega⟩
theorem Aey{B:List Byt}{left:Int}(h:2<=B.length):EK (calm B left)=(bif decide (Cy 0 (B.getD 0 zeros)=0) && decide (Cy 1 (B.getD 1 zeros)=0)then 4 else 0):=by
 unfold EK;rw[Tq,My,My,qag (show ¬B.length<2 by omega)];rfl
theorem DevAt.hd{w:World}{bd:Nat}{A:Dev}{F:Nat->Prop}(h:DevAt w bd A F):∃bs bm,w.heap[bd]?=some (Bl TD (DB A.B.length bs bm A.left A.on)) :=
 let ⟨_,bs,bm,_,_,_,D,_⟩:=h;⟨bs,bm,D.hd⟩
theorem Aml{w:World}{bd:Nat}{A:Dev}{F:Nat->Prop}(gen:Nat)(hgen:gen<18446744073709551616)(a:Option Addr)(c n:Nat)(body:Byt)(R:Rd w a 1 B8 body)(hn:body.length=n)(hm:n<=140737488351231)(hlt:∀x,F x->x<w.heap.size){mx:Nat}(hfew:Few A mx)(hmx:mx<1000000000000)(DA:DevAt w bd A F) :
  Ret prog 39 #[ptr bd,.int .u64 (gen:Int),.slice a n c] w fun v w'=>v=.int .i64 (GN A gen body)/\DevAt w' bd (EG A gen body) (grow F w w')/\Turn F w w':=by
 subst hn;obtain⟨w0,rfl⟩:=qD w;obtain⟨bs,bm,hhd⟩:=DA.hd;refine A6 (fn:=f39) func39 U [.pointer (some ⟨bd,0,none⟩),.int .u64 (gen:Int),.slice a body.length c] U ?_;refine Ad (Ac U (qA (Aq (Ad (Am U (BW MM U ?_))))));refine qA (Bz U (Ap (Aa (Aq (Ad (BE (α:=Unit) 8384512 (fun _=>[(22,.bool (decide (gen<1) || (decide (4611686018427387904<gen) || decide (A.B.length<2))))]) (fun _ w'=>w0=w') U ?_ ?_))))))
 .refine Ae U (Bn U U (AA U (AR 14 U ?_ ?_)))
  .intro h1;replace h1:=AV h1;refine Ag U (Ag U (AN U (.bool _) U (AA U (Ag U (Ag U (Ag U (AN U (.bool _) U (Ab ?_))))))));exact⟨rfl,(),rfl,⟨qab Value.bool (by rw[qar];simp_all;try omega),trivial⟩,rfl⟩
  .intro h2;replace h2:=AW h2;refine Ae U (BZ U U (AK U (.bool _) U (AA U (AR 18 U ?_ ?_))))
   .intro h3;replace h3:=AV h3;refine Ag U (Ag U (Ag U (AN U (.bool _) U (Ab ?_))));exact⟨rfl,(),rfl,⟨qab Value.bool (by rw[qar];simp_all;try omega),trivial⟩,rfl⟩
   .intro h4;replace h4:=AW h4;refine Am U (Ai qB (He hhd) U ?_);rintro v w ⟨rfl,rfl⟩;refine Bn U U (AK U (.bool _) U (Ab ?_));exact⟨rfl,(),rfl,⟨qab Value.bool (by rw[qar];simp_all;try omega),trivial⟩,rfl⟩
 rintro - j22 w rfl;refine Au _ U ?_ ?_
 .intro h1;refine Ad (Ac U (qA (Ax (Ao (AG (v:=(.int _ _)) U U U ?_)))));exact⟨by rw[GN,h1];rfl,by rw[EG,h1];exact DA.mono fun x h => .inl h,.of0 (.refl _ _)⟩
 .intro h1;refine Ap (Aa (Aq (Ad (Aj U (AP AX U (BZ U U (qA (Au _ U ?_ ?_))))))))
  .intro h2;replace h2:=AV h2;have h2':decide (480<body.length)=true:=qal (by omega);refine Ad (Ac U (qA (Ax (Ao (AG (v:=(.int _ _)) U U U ?_)))));exact⟨by rw[GN,h1,h2'];rfl,by rw[EG,h1,h2'];exact DA.mono fun x h => .inl h,.of0 (.refl _ _)⟩
  .intro h2;replace h2:=AW h2;have h2':decide (480<body.length)=false:=qag (by omega);have hlr:(Bq gen 8++body).length<=505:=by rw[qan,AZ];omega
   have hse:GD 1 (Bq gen 8++body)=0:=by
    rw[GD,qag (show ¬(1:UInt8).toNat=0 by decide),qag (by omega)];rfl
   have hb5:(DJ gen body).length=512:=FF hlr;have hB0:Ng [] gen 8=Bq gen 8:=by rw[Ng,show HM 8=true by decide];rfl
   refine Ap (Aa (Ad (Ae U (Ai qB (Gr none 0 0 [] gen 8 w0 Rd.nil U hgen) U ?_))));rintro v w F28;obtain⟨a28,n28,c28,full28,rfl,O28,hb28⟩:=F28.ex;have hx28:=F28.ext;rw[hB0]at O28;obtain rfl:n28=8:=by have h9:=O28.llen;rw[qaj,AZ]at h9;omega
   have H:=(Ctx.start w0 []).callEnt hx28 hb28 KR;refine Aj U (DS (L:=[]) U AX AX CT Pf IP U (body.map bv) U U H O28 (by simp) (Ht body) (Rd.appB (R.ext0 H.ext)) ?_);rintro a30 c30 full30 w H O;rw[<-qaz]at O;have R30:=OS.rdB O (fun x hx=>H.blk x (by simpa using hx));have hx30:=H.ext;refine Ai qB (Wb 1 a30 c30 _ _ _ R30 (by rw[qan,AZ])) U ?_;rintro v w P31;rw[Lh,hse]at P31;obtain⟨s31,rfl,B31⟩:∃s,v=.tuple #[s,.int .i64 0]/\Bytes _ w s (DJ gen body):=(P31.elim (fun h=>absurd rfl h.1) fun h=>h.2);obtain⟨a31,c31,rfl,R31,hc31,hn31⟩:=B31.ex;have hx:=hx30.trans B31.ext;have hn31':w0.heap.size<=(adr a31).block:=qav hx30.size hn31;have DA1:=DA.keep0 hx;rw[hb5];refine AQ U (Ah U U (Ah U U (Ak U (Ac U (qA (Aq (Ad (Ae U (Ba U U ?_)))))))))
   refine qA (Bz U (Ap (Aa (Aq (Ad (Am U (Ae U (Ro U U U ?_))))))));rw[show(gen:Int) % 2=Ie gen from by unfold Ie;omega];refine Ej U Hn Ge (h1:=by unfold Ie;omega) (h2:=by unfold Ie;omega) ?_;refine Aj U (Ai qB (Po (Ie gen) a31 c31 512 (DJ gen body) R31 hb5 (.inr fun h=>by have:=hlt _ h;omega) hfew DA1) U ?_);rintro v w9 ⟨rfl,DA2,hT⟩;refine Ac U (qA (Ad (Ae U (Ba U U (qA (Au _ U ?_ ?_))))))
   .intro h3;replace h3:=Bu h3;have h3':decide (Dt A (Ie gen) (DJ gen body)=0)=false:=qag h3;refine Ad (Ae U (Ac U (qA (Ax (Ao (AG (v:=(.int _ _)) U U U ?_))))));exact⟨by rw[GN,h1,h2',h3'];rfl,by rw[EG,h1,h2',h3'];exact DA2.mono (Ye hx.size),Turn.trans (.of0 hx) hT (fun x h => .inl h)⟩
   .intro h3;replace h3:=Bv h3;have h3':decide (Dt A (Ie gen) (DJ gen body)=0)=true:=qal h3;refine Ap (Aa (Ad (Am U (Ai qB (Mo (Hy hfew _ _) DA2) U ?_))));rintro v w10 ⟨rfl,DA3,hT3⟩;refine Ac U (qA (Ax (AG (v:=(.int _ _)) U U U ?_)));have hs1:=hx.size;have hs2:=hT.size;have hs3:=hT3.size;have hg:∀x,grow F w w9 x->grow F w0 w10 x:=fun x h=>h.elim .inl fun h => .inr ⟨by omega,by omega⟩;refine⟨by rw[GN,h1,h2',h3'];rfl,by rw[EG,h1,h2',h3'];exact DA3.mono hg,Turn.trans (Turn.trans (.of0 hx) hT fun x h => .inl h) hT3 fun x h=>?_⟩
    .rcases h with h|h
     .exact .inl h
     .exact .inr (by omega)
def HU(A:Dev):Nat->Nat × Byt
 |0=>(0,[])
 |k+1=>if(HU A k).1<Cy k (at' A k)then(Cy k (at' A k),DI k (at' A k))else HU A k
theorem Vm{k:Int}{b:Byt}(h:Cy k b≠0):((Cy k b % 2:Nat):Int)=k:=by
 unfold Cy at h |-
 cases hr:Fb k b with
 |false=>rw[hr]at h;exact absurd rfl h
 |true =>
  rw[cond_true];unfold Fb at hr;simp only[qao,qap]at hr;exact hr.2.2.2.2.2.2
theorem Ts{k:Int}{b:Byt}(h:Cy k b=0):DI k b=[]:=by
 unfold Cy at h;unfold DI
 cases hr:Fb k b with
 |false=>rfl
 |true =>
  rw[hr,cond_true]at h;unfold Fb at hr;simp only[qao,qap]at hr;omega
theorem Aez{A:Dev}(ho:A.on=true)(hl:2<=A.B.length:=by omega):(if(HU A 2).1=0 then EK A=4 else EK A=0)/\F6 A=(HU A 2).1/\DU A=(HU A 2).2:=by
 have he:EK A=bif decide (Cy 0 (at' A 0)=0) && decide (Cy 1 (at' A 1)=0)then 4 else 0:=by
  unfold EK;rw[ho,qag (show ¬A.B.length<2 by omega)];rfl
 have h2:HU A 2=if(HU A 1).1<Cy 1 (at' A 1)then(Cy 1 (at' A 1),DI 1 (at' A 1))else HU A 1:=rfl;have h1:HU A 1=if 0<Cy 0 (at' A 0)then(Cy 0 (at' A 0),DI 0 (at' A 0))else(0,[]):=rfl;have p0:=Vm (k:=0) (b:=at' A 0);have p1:=Vm (k:=1) (b:=at' A 1);have n0:=Ts (k:=0) (b:=at' A 0);have n1:=Ts (k:=1) (b:=at' A 1);unfold F6 DU;rw[h2,h1,he];generalize Cy 0 (at' A 0)=g0 at *;generalize Cy 1 (at' A 1)=g1 at *;generalize DI 0 (at' A 0)=l0 at *;generalize DI 1 (at' A 1)=l1 at *
 by_cases z0:g0=0
 .subst z0
  by_cases z1:g1=0
  .subst z1;exact⟨rfl,rfl,rfl⟩
  .have hp:0<g1:=by omega
   simp[z1,hp]
 .have hp0:0<g0:=by omega
  by_cases z1:g1=0
  .subst z1;simp[z0,hp0]
  .have hne:g0≠g1:=by have:=p0 z0;have:=p1 z1;omega
   simp only[if_pos hp0,qag z0,Bool.false_and,cond_false]
   by_cases hlt:g0<g1
   .simp only[if_pos hlt,qag (show ¬g1<g0 by omega),cond_false,if_neg z1];exact⟨trivial,rfl,rfl⟩
   .simp only[if_neg hlt,qal (show g1<g0 by omega),cond_true,if_neg z0];exact⟨trivial,rfl,rfl⟩
theorem Rd.rootX{w w':World}{a a2:Option Addr}{l:Byt}{b t n c:Nat}{g:Int}(R:Rd w a 1 B8 l)(hb:w.heap[b]?=some (Bl t [.int .u64 g,.slice a2 n c]))(he:Ext [b] w w'):Rd w' a 1 B8 l:=by
 cases l with
 |nil=>exact Rd.nil
 |cons x l =>
  refine R.ext he fun h=>?_;have h1:=R.cell 0 x rfl 0 (bv x) rfl (by decide);rw[qaa.1 h,Ar hb]at h1;have h2:=qad h1;simp[bv]at h2
theorem Tt{w:World}{bd:Nat}{A:Dev}{F:Nat->Prop}{mx:Nat}(hfew:Few A mx)(DA:DevAt w bd A F)(hmx:mx<1000000000000:=by decide):
  Ret prog 32 #[ptr bd] w fun v w'=>∃a c,v=.tuple #[.int .u64 (F6 A:Int),.slice a (DU A).length c,.int .i64 (EK A)]/\Rd w' a 1 B8 (DU A)/\(DU A).length<=c/\(DU A=[]\/w.heap.size<=(adr a).block)/\Ext [] w w':=by
 obtain⟨w0,rfl⟩:=qD w;obtain⟨bs,bm,hhd⟩:=DA.hd;have H:=Ctx.start w0 [];refine A6 (fn:=f32) func32 U [.pointer (some ⟨bd,0,none⟩)] U ?_;refine Ad (Ac U (Ak U (Ac U (qA (Aq (AE (Ad (Am U (BW MM U ?_)))))))));refine An U (qA (Bz U (Ad (Am U (Ai qB (Pn hhd) U ?_)))));rintro v w ⟨rfl,rfl⟩;refine BX U (An U (qA (Au _ U ?_ ?_)))
 .intro h1;replace h1:=Cz h1;have ho:A.on=false:=by simpa using h1
  have he:EK A=8:=by rw[EK,ho];rfl
  refine Ad (Ac U (Ak U (Ac U (qA (Ax (AL (Ao (CX (v1:=(.int _ _)) (v2:=(.slice _ _ _)) (v3:=(.int _ _)) U U U U U ?_))))))));exact⟨none,0,by rw[F6,DU,he];rfl,by rw[DU,he];exact Rd.nil,by rw[DU,he];exact qae _,.inl (by rw[DU,he];rfl),H.ext⟩
 .intro h1;replace h1:=C0 h1;have ho:A.on=true:=by simpa using h1
  refine Ad (Am U (Ai qB (He hhd) U ?_));rintro v w ⟨rfl,rfl⟩;refine Bn U U (An U (qA (Au _ U ?_ ?_)))
  .intro h2;replace h2:=AV h2;have he:EK A=1:=by rw[EK,ho,qal (show A.B.length<2 by omega)];rfl
   refine Ad (Ac U (Ak U (Ac U (qA (Ax (AL (Ao (CX (v1:=(.int _ _)) (v2:=(.slice _ _ _)) (v3:=(.int _ _)) U U U U U ?_))))))));exact⟨none,0,by rw[F6,DU,he];rfl,by rw[DU,he];exact Rd.nil,by rw[DU,he];exact qae _,.inl (by rw[DU,he];rfl),H.ext⟩
  .intro h2;replace h2:=AW h2;refine Ap (AF (Aa (Ad (Bj Lf H ?_))));rintro b5 w - H;refine qA (Aq (Ad (Ae U (qA (AE ?_)))));obtain⟨hE2,hG2,hL2⟩:=Aez ho;refine B7 8796090926044 (α:=Nat × Option Addr × Nat) (fun x=>[(21,.int .i64 x.1)]) (fun x w'=>x.1<=2/\Ctx w0 [] w' [(b5,Bl 117 [.int .u64 ((HU A x.1).1:Int),.slice x.2.1 (HU A x.1).2.length x.2.2])]/\Rd w' x.2.1 1 B8 (HU A x.1).2/\(HU A x.1).2.length<=x.2.2/\((HU A x.1).2=[]\/w0.heap.size<=(adr x.2.1).block)) (fun x=>2 - x.1) (0,none,0) U ?_ ?_ ?_
   .exact⟨rfl,trivial⟩
   .exact⟨qak _,H,Rd.nil,qae _,.inl rfl⟩
   .rintro⟨i,a,c⟩ j w ⟨hi,H,R,hcc,hnw⟩;dsimp only at hi H R hcc hnw;dsimp only;refine Ad (Bn U U (qA (Aq (Au _ U ?_ ?_))))
    .intro h3;replace h3:=AV h3
     have hrE:GK A (i:Int)=0:=by
      unfold GK Dev.has;rw[ho,qal (show(0:Int)<=i by omega),qal (show(i:Int)<A.B.length by omega)];rfl
     have hrB:GL A (i:Int)=at' A i:=by
      unfold GL at';rw[hrE];rfl
     have hlen:(at' A i).length=512:=Kt DA.wf (NW);have hb1:HU A (i+1)=if(HU A i).1<Cy i (at' A i)then(Cy i (at' A i),DI i (at' A i))else HU A i:=rfl;refine Ap (Aa (Aq (AE (Ad (Ae U (Ac U (qA (Ad (Am U (Ae U ?_))))))))));refine Ai qB (SE (i:Int) hfew (DA.keep0 H.ext)) U ?_;rintro v w ⟨s27,rfl,F27⟩;rw[hrB]at F27;obtain⟨a27,c27,rfl,R27,hc27⟩:=Fresh.rdB F27;replace H:=H.call F27.ext;replace R:=R.ext0 F27.ext;rw[hrE,hlen];refine AQ U (Ah U U (Ah U U (Ak U (Ac U (qA (Aq (Ad (Ae U (Ba U U ?_)))))))));refine qA (Bz U (Ap (Aa (Ad (Ae U (Aj U (Ai qB (Amj (i:Int) a27 c27 512 (at' A i) _ R27 hlen) U ?_)))))));have hsz0:=H.size;rintro v w ⟨a35,c35,rfl,R35,hc35,hnw35,hx35⟩;replace H:=H.call hx35;replace R:=R.ext0 hx35;have H0:=H;have hb5:=H.get at0
     have hn5:w0.heap.size<=b5:=(H.own _ (qaf ..)).elim (fun h=>by cases h) id;replace H:=Ctx.start1 (H.get at0);refine Bj Lf H ?_;rintro b9 w - H;refine Bo Hu U U U (by simp[Bi]) H at0 U ?_;rintro w H;refine qA (Ad (Af IM U (AH GC U H at0 U (Af IM U (AH GC U H at1 U (BZ U U (qA (Au _ U ?_ ?_))))))))
     .intro h4;replace h4:=AV h4;rw[if_pos (by omega)]at hb1;refine Av (BN Pb Hu U H at0 U (Bo Hu U U U (by simp[Bi]) H at1 U ?_));rintro w H;refine Ab (AF (Aa (Av (A7 U U ?_))));refine Ae U (qA ?_);have hx9:Ext [] w0 w:=H0.ext.then H.ext fun x h => .inr (by rw[qaa.1 h];exact hn5);replace H0:=((Ctx.start w0 []).call hx9).add (H.get at1) (.inr hn5) (by simp);exact⟨(i+1,a35,c35),rfl,⟨rfl,trivial⟩,⟨by dsimp only;omega,by dsimp only;rw[hb1];exact H0,by dsimp only;rw[hb1];exact Rd.rootX R35 hb5 H.ext,by dsimp only;rw[hb1];exact hc35,by dsimp only;rw[hb1];exact hnw35.imp id fun h=>by omega⟩,by dsimp only;omega⟩
     .intro h4;replace h4:=AW h4;rw[if_neg (by omega)]at hb1;refine Ap (AF (Aa (Av (A7 U U ?_))));refine Ae U (qA ?_);have hx9:Ext [] w0 w:=H0.ext.then H.ext fun x h => .inr (by rw[qaa.1 h];exact hn5);replace H0:=((Ctx.start w0 []).call hx9).add (H.get at1) (.inr hn5) (by simp);exact⟨(i+1,a,c),rfl,⟨rfl,trivial⟩,⟨by dsimp only;omega,by dsimp only;rw[hb1];exact H0,by dsimp only;rw[hb1];exact Rd.rootX R hb5 H.ext,by dsimp only;rw[hb1];exact hcc,by dsimp only;rw[hb1];exact hnw⟩,by dsimp only;omega⟩
    .intro h3;replace h3:=AW h3;have hi2:i=2:=by omega
     subst hi2;refine B3 (Ay (Ay (Bb (Aa (Aq (Ad (Af IM U (AH GC U H at0 U (B6 U U (qA (Au _ U ?_ ?_)))))))))))
     .intro h4;replace h4:=AV h4;rw[if_pos (by omega)]at hE2;refine Ad (Ac U (Ak U (Ac U (qA (Ax (Ao (CX (v1:=(.int _ _)) (v2:=(.slice _ _ _)) (v3:=(.int _ _)) U U U U U ?_)))))));exact⟨none,0,by rw[F6,DU,hE2];rfl,by rw[DU,hE2];exact Rd.nil,by rw[DU,hE2];exact qae _,.inl (by rw[DU,hE2];rfl),H.ext⟩
     .intro h4;replace h4:=AW h4;rw[if_neg (by omega)]at hE2;refine Ap (Aa (J7 (fun x=>x=_) mixed U ?_));refine BP IM U (Abc U GC U (by rintro _ rfl;exact H.drew) at0 U ?_);refine BP Ah2 U (Abc U B4 U (by rintro _ rfl;exact H.drew) at0 U ?_);refine EO U (U0 U U (EO U (Jo ?_)));rintro _ rfl;replace H:=H.drew;refine Ax (CX (v1:=(.int _ _)) (v2:=(.slice _ _ _)) (v3:=(.int _ _)) U U U U U ?_);exact⟨a,c,by rw[hE2,hG2,hL2],by rw[hL2];exact R.ext0 (Ext.drew _ _),by rw[hL2];exact hcc,by rw[hL2];exact hnw,H.ext⟩
theorem Amm{w:World}{bd:Nat}{A:Dev}{F:Nat->Prop}{mx:Nat}(hfew:Few A mx)(hmx:mx<1000000000000)(DA:DevAt w bd A F) :
  Ret prog 32 #[ptr bd] w fun v w'=>∃a c,v=.tuple #[.int .u64 (F6 A:Int),.slice a (DU A).length c,.int .i64 (EK A)]/\Rd w' a 1 B8 (DU A)/\(DU A=[]\/w.heap.size<=(adr a).block)/\Ext [] w w' :=
 (Tt hfew (hmx:=hmx) DA).mono fun _ _ ⟨a,c,h1,h2,_,h3⟩=>⟨a,c,h1,h2,h3⟩
theorem Yh{w0 w:World}{bd:Nat}{A:Dev}{F:Nat->Prop}(O:Own w0 w bd A F)(gen:Nat)(hgen:gen<18446744073709551616)(a:Option Addr)(c n:Nat)(body:Byt)(R:Rd w a 1 B8 body)(hn:body.length=n)(hm:n<=140737488351231){mx:Nat}(hfew:Few A mx)(hmx:mx<1000000000000) :
  Ret prog 39 #[ptr bd,.int .u64 (gen:Int),.slice a n c] w fun v w'=>v=.int .i64 (GN A gen body)/\∃F',Own w0 w' bd (EG A gen body) F'/\Grown F F' w w' :=
 (Aml gen hgen a c n body R hn hm (fun x h=>(O.own x h).2) hfew hmx O.dev).mono fun _ _ ⟨hv,hd,ht⟩=>⟨hv,_,O.grow hd ht⟩
theorem Aj8{B:List Byt}{left:Int}{g0 g1:Nat}{l0 l1:Byt}(hl:2<=B.length)(h0:Cy 0 (B.getD 0 zeros)=g0)(h1:Cy 1 (B.getD 1 zeros)=g1)(hl0:g1<g0->DI 0 (B.getD 0 zeros)=l0)(hl1:g0<=g1->0<g1->DI 1 (B.getD 1 zeros)=l1) :
  EK (calm B left)=(if g0=0/\g1=0 then 4 else 0)/\F6 (calm B left)=(if g1<g0 then g0 else g1)/\DU (calm B left)=(if g1<g0 then l0 else if g1=0 then[]else l1):=by
 have he:EK (calm B left)=(if g0=0/\g1=0 then 4 else 0):=by
  rw[Aey hl,h0,h1]
  by_cases z0:g0=0 <;> by_cases z1:g1=0 <;> simp[z0,z1]
 refine⟨he,?_,?_⟩
 .rw[F6,he,My,My,h0,h1]
  by_cases hlt:g1<g0
  .simp[hlt,show ¬g0=0 by omega]
  .by_cases z1:g1=0
   .have:g0=0:=by omega
    subst z1;subst this;rfl
   .simp[hlt,z1]
 .rw[DU,he,My,My,h0,h1]
  by_cases hlt:g1<g0
  .simpa[hlt,show ¬g0=0 by omega]using hl0 hlt
  .by_cases z1:g1=0
   .have:g0=0:=by omega
    subst z1;subst this;rfl
   .simpa[hlt,z1]using hl1 (by omega) (by omega)
theorem Amn{P:Program}{r:Option Nat}{ops rest:List Oper}{Q:Exit->Env->World->Prop}{e:Env}{w:World}{dst:Option Tmp}{ty:TypeId}{pos:String}{af:Array Edge}{g:Option (Nat × Bool)}{t t2:TypeId}{x y:Operand}{a b:Int}(hg:AJ ⟨dst,.binOp .quo t x y t2,ty,pos,af,g⟩ ops e=true)(hx:ev e x=.int .i64 a)(hy:ev e y=.int .i64 b)(hr : -9223372036854775808<=a.tdiv b/\a.tdiv b<=9223372036854775807)(h:AB P r ops Q rest (put e dst (.int .i64 (a.tdiv b))) w)(hb:0<b:=by decide):AB P r ops Q (⟨dst,.binOp .quo t x y t2,ty,pos,af,g⟩::rest) e w :=
 Bt hg rfl (BU hx hy (v := .int .i64 (a.tdiv b)) (by simp[binOp,Op.intDiv,show ¬b=0 from by omega,(EM (show(-9223372036854775808:Int)<=a.tdiv b from hr.1) (show a.tdiv b<=(9223372036854775807:Int)from hr.2):IntKind.i64.wrap (a.tdiv b)=a.tdiv b)])) h
def Jx(n:Int):Int:=max 0 (n - 362) / 2
def Cu(n:Int):Int:=if Jx n<40 then 0 else(4*Jx n / 5 - 1)*251
theorem Yi{n:Int}(h:0<=n/\n<=100000):0<=Jx n/\Jx n<=50000:=by unfold Jx;omega
theorem Acm(n:Int)(h:0<=n/\n<=100000)(w:World):Ret prog 70 #[.int .i64 n] w fun v w'=>v=.int .i64 (Jx n)/\w=w':=by
 obtain⟨w0,rfl⟩:=qD w;refine A6 (fn:=f70) func70 U [.int .i64 n] U (Ad (Ac U (qA (Ad (Ae U (BB U U ?_))))));refine N9 U U U (Ri U U U (show _<=(9223372036854775807:Int)by omega) ?_);refine Ac U (qA (Ax (AG (v:=(.int _ _)) U U U ?_)));exact⟨rfl,rfl⟩
theorem L6(n:Int)(w:World)(h:0<=n/\n<=100000:=by decide):Ret prog 24 #[.int .i64 n] w fun v w'=>v=.int .i64 (Cu n)/\w=w':=by
 obtain⟨w0,rfl⟩:=qD w;have hb:=Yi h;refine A6 (fn:=f24) func24 U [.int .i64 n] U (Ad (Ac U (qA (Ad (Ae U (Ai qB (Acm n h _) U ?_))))));rintro v w ⟨rfl,rfl⟩;refine Ac U (qA (Aq (Ad (Ae U (Bn U U (qA (Au _ U ?_ ?_)))))))
 .intro h1;replace h1:=AV h1;refine Ad (Ac U (qA (Ax (Ao (AG (v:=(.int _ _)) U U U ?_)))));exact⟨qab (Value.int .i64) (if_pos h1).symm,rfl⟩
 .intro h1;replace h1:=AW h1;refine Ap (Aa (Ad (Ae U (Gn U U ?_))));refine Ri U U U (show _<=(9223372036854775807:Int)by omega) (BB U U ?_);refine Gn U U (Ac U (qA (Ax (AG (v:=(.int _ _)) U U U ?_))));exact⟨qab (Value.int .i64) (if_neg h1).symm,rfl⟩
theorem Ae0(n:Int)(h:0<=n/\n<=100000)(w:World):Ret prog 11 #[.int .i64 n] w fun v w'=>v=.int .i64 (Cu n)/\w=w':=by
 obtain⟨w0,rfl⟩:=qD w;have hb:=Yi h
 have ht:(n - 362).tdiv 2=if n<362 then -((362 - n) / 2)else(n - 362) / 2:=by
  split
  .rename_i h1
   rw[show n - 362 = -(362 - n)by omega,Int.neg_tdiv,qes (by omega)]
  .exact qes (by omega)
 have hh:Jx n=if n<362 then 0 else(n - 362) / 2:=by
  unfold Jx
  split <;> omega
 refine A6 (fn:=Tryz.f11) func11 U [.int .i64 n] U (Ad (Ac U (qA (Ad (Ae U (BB U U ?_))))));refine Amn U U U (by rw[ht];split <;> omega) ?_;rw[ht];refine Ac U (qA (Aq (Ad (BE (α:=Unit) 8064 (fun _=>[(12,.bool (decide (n<362\/Jx n<40)))]) (fun _ w'=>w0=w') U ?_ ?_))))
 .refine Ae U (Bn U U (AA U (AR 9 U ?_ ?_)))
  .intro h1;replace h1:=AV h1;refine Ag U (Ag U (AN U (.bool _) U (Ab ?_)));exact⟨rfl,(),rfl,⟨qab Value.bool (by rw[qar];simp_all;try omega),trivial⟩,rfl⟩
  .intro h2;replace h2:=AW h2;refine Ae U (Bn U U (AK U (.bool _) U (Ab ?_)));exact⟨rfl,(),rfl,⟨qab Value.bool (by rw[qar];simp_all;try omega),trivial⟩,rfl⟩
 rintro - j12 w rfl;refine Au _ U ?_ ?_
 .intro h1;have h1:=qb5 h1;refine Ad (Ac U (qA (Ax (Ao (AG (v:=(.int _ _)) U U U ?_)))));refine⟨qab (Value.int .i64) ?_,rfl⟩;unfold Cu;rw[if_pos]
  rcases h1 with h1|h1
  .rw[hh,if_pos h1];decide
  .exact h1
 .intro h1;have h1:=qcx h1;have hn:¬n<362:=fun h=>h1 (.inl h);rw[if_neg hn]at hh |-;rw[<-hh];refine Ap (Aa (Ad (Ae U (Gn U U ?_))));refine Ri U U U (show _<=(9223372036854775807:Int)by omega) (BB U U ?_);refine Gn U U (Ac U (qA (Ax (AG (v:=(.int _ _)) U U U ?_))));exact⟨qab (Value.int .i64) (if_neg fun h=>h1 (.inr h)).symm,rfl⟩
def KB(A:Dev):Int:=if A.on=false then 8 else if Cu A.B.length=0 then 1 else 0
theorem Ww{w:World}{bd:Nat}{A:Dev}{F:Nat->Prop}(D:DevAt w bd A F)(hl:A.B.length<=100000:=by omega):Ret prog 31 #[ptr bd] w fun v w'=>v=.int .i64 (KB A)/\w=w':=by
 obtain⟨w0,rfl⟩:=qD w;obtain⟨bs,bm,hhd⟩:=D.hd;refine A6 (fn:=Tryz.f31) func31 U [.pointer (some ⟨bd,0,none⟩)] U ?_;refine Ad (Ac U (qA (Aq (AE (Ad (Am U (BW MM U ?_)))))));refine An U (qA (Bz U (Ad (Am U (Ai qB (Pn hhd) U ?_)))));rintro v w ⟨rfl,rfl⟩;refine BX U (An U (qA (Au _ U ?_ ?_)))
 .intro h1;replace h1:=Cz h1;refine Ad (Ac U (qA (Ax (AL (Ao (AG (v:=(.int _ _)) U U U ?_))))));exact⟨qab (Value.int .i64) (by unfold KB;simp_all),rfl⟩
 .intro h2;replace h2:=C0 h2;refine Ad (Am U (Ai qB (He hhd) U ?_));rintro v w ⟨rfl,rfl⟩;refine Ai qB (L6 _ (h:=by omega) _) U ?_;rintro v w ⟨rfl,rfl⟩;refine B6 U U (An U (qA (Au _ U ?_ ?_)))
  .intro h3;replace h3:=AV h3;refine Ad (Ac U (qA (Ax (AL (Ao (AG (v:=(.int _ _)) U U U ?_))))));exact⟨qab (Value.int .i64) (by unfold KB;simp_all),rfl⟩
  .intro h4;replace h4:=AW h4;refine Ap (AF (Aa (Ad (Ac U (qA (Ax (AG (v:=(.int _ _)) U U U ?_)))))));exact⟨qab (Value.int .i64) (by unfold KB;simp_all),rfl⟩
theorem Wx{I:Nat->World->Prop}{E:Int->World->Prop}{bl:Nat}(fs:List Value)(w:World)(hl:fs.length<=100)(hI:I 0 w)(hb:∀i w',I i w'->w'.heap[bl]?=some (Bl 46 fs))(hfs:∀v∈fs,∃f fi caps,v=.func (.func f) fi caps)(hf:∀i f fi caps w',fs[i]?=some (.func (.func f) fi caps)->I i w'->Aw prog f=true/\Ret prog f (fi++caps) w' fun v w''=>∃e,v=.int .i64 e/\((e=0/\I (i+1) w'')\/(e≠0/\E e w''))) :
  Ret prog 37 #[.slice (some ⟨bl,0,none⟩) fs.length fs.length] w fun v w'=>∃e,v=.int .i64 e/\((e=0/\I fs.length w')\/(e≠0/\E e w')):=by
 obtain⟨w0,rfl⟩:=qD w;refine A6 (fn:=f37) func37 U [.slice (some ⟨bl,0,none⟩) fs.length fs.length] U ?_;refine Ad (Ac U (qA (Aq (Ad (Aj U (AP Pg U (Ae U (qA (AE ?_)))))))));refine B7 261940 (α:=Nat) (fun i=>[(8,.int .i64 (i:Int))]) (fun i w'=>i<=fs.length/\I i w') (fun i=>fs.length - i) 0 U ?_ ?_ ?_
 .exact⟨rfl,trivial⟩
 .exact⟨qak _,hI⟩
 .clear hI;rintro i j w ⟨hi,hI⟩;refine Ad (Bn U U (qA (Aq (Au _ U ?_ ?_))))
  .intro h1;replace h1:=AV h1;obtain⟨x,hx⟩:=AO (l:=fs) (i:=i);obtain⟨f,fi,caps,rfl⟩:=hfs x (qad hx);obtain⟨hc,hr⟩:=hf i f fi caps w hx hI;rw[show fi++caps=(fi++caps).toList.toArray from(Array.toArray_toList).symm]at hr;refine Ap (Aa (Aq (AE (Ad (Ca Pg Xp U U ?_)))));refine Be ag_46 U ((by rw[Ar (hb i w hI),qa2,qcj];exact hx)) ?_;refine El U (.func _ _ _) U (qA (Ad (Ee U (.func _ _ _) U ?_)));refine KP U U hc hr (by simp) ?_;rintro v w ⟨e,rfl,he⟩;refine Ac U (qA (Ad (Ae U (Ba U U (qA (Au _ U ?_ ?_))))))
   .intro h2;replace h2:=Bu h2;refine Ad (Ae U (Ac U (qA (Ax (AL (Ao (Ao (AL (Ao (AG (v:=(.int _ _)) U U U ?_))))))))));exact⟨e,rfl,.inr ⟨h2,(he.resolve_left fun h=>h2 h.1).2⟩⟩
   .intro h2;replace h2:=Bv h2;refine Ap (AF (Aa (Av (A7 U U ?_))));refine Ae U (qA ?_);exact⟨i+1,rfl,⟨rfl,trivial⟩,⟨by omega,(he.resolve_right fun h=>h.1 h2).2⟩,by omega⟩
  .intro h1;replace h1:=AW h1;obtain rfl:i=fs.length:=by omega
   refine B3 (Ay (Ay (Bb (Aa (Ad (Ac U (qA (Ax (AG (v:=(.int _ _)) U U U ?_)))))))));exact⟨0,rfl,.inl ⟨rfl,hI⟩⟩
theorem Aj9{I:Nat->World->Prop}{E:Int->World->Prop}{bl:Nat}(fs:List Value)(w:World)(hl:fs.length<=100)(hI:I 0 w)(hb:∀i w',I i w'->w'.heap[bl]?=some (Bl 46 fs))(hfs:∀v∈fs,∃f caps,v=.func (.func f) #[] caps)(hf:∀i f caps w',fs[i]?=some (.func (.func f) #[] caps)->I i w'->Aw prog f=true/\Ret prog f caps w' fun v w''=>∃e,v=.int .i64 e/\((e=0/\I (i+1) w'')\/(e≠0/\E e w''))) :
  Ret prog 37 #[.slice (some ⟨bl,0,none⟩) fs.length fs.length] w fun v w'=>∃e,v=.int .i64 e/\((e=0/\I fs.length w')\/(e≠0/\E e w')) :=
 Wx fs w hl hI hb (fun v hv=>let ⟨f,caps,h⟩:=hfs v hv;⟨f,#[],caps,h⟩) fun i f fi caps w' hi h=>by
  obtain⟨f',caps',h'⟩:=hfs _ (qad hi)
  injection h' with h1 h2 h3
  subst h2;rw[Array.empty_append];exact hf i f caps w' hi h
abbrev CN(vd vj vp vt:Value)(gen:Nat)(root:Int)(m1 m2:Nat)(n:Int)(dead:Bool):List Value:=[vd,vj,vp,vt,.int .u64 (gen:Int),.int .i64 root,.map (some m1),.map (some m2),.int .i64 n,.bool dead]
abbrev Gl:Value := .pointer none
abbrev CU:TypeId:=94
abbrev pgB(bp ba m:Nat):List (Nat × Obj):=[(bp,Bl TPg [.slice (some ⟨ba,0,none⟩) m m]),(ba,Bl TSt ((List.replicate m 0).map stv))]
theorem Ap3{w0 w:World}{S:List Nat}{L:List (Nat × Obj)}{bp ba m:Nat}(H:Ctx w0 S w (pgB bp ba m++L))(hm:m<=4096):PgAt w bp ba (List.replicate m 0):=by
 have hn:=H.nd;refine⟨by rw[H.get at0,qba],H.get at1,fun e=>by simp[e]at hn,fun s hs=>by rw[(qeg.1 hs).2];decide,by rw[qba];exact hm⟩
section
variable {w0 w:World}{b16 b2 b6 bs bd bm1 bm2 bsu bma m:Nat}{left:Int}{on:Bool}{gen:Nat}{o1 o2:Obj}{fv:List Value}
abbrev emB(b16 b2 b6 bs bd bm1 bm2 gen:Nat)(fv:List Value)(vp vt:Value)(o1 o2:Obj):List (Nat × Obj):=[(b16,Bl 46 fv),(b6,Bl 31 [ptr bs]),(bs,Bl CU (CN (ptr bd) Gl vp vt gen (-1) bm1 bm2 0 false)),(bm2,o2),(bm1,o1),(b2,Bl 27 [ptr bd])]
theorem Ae1(hd:w0.heap[bd]?=some (Bl TD (DB (m+362) bsu bma left on)))(hm:1<=m/\m<=4096)(H:Ctx w0 [] w (emB b16 b2 b6 bs bd bm1 bm2 gen fv Gl Gl o1 o2)) :
  Ret prog 77 #[ptr b2,ptr b6] w fun v w'=>v=.int .i64 0/\∃bp ba,Ctx w0 [] w' (emB b16 b2 b6 bs bd bm1 bm2 gen fv (ptr bp) Gl o1 o2++pgB bp ba m):=by
 refine A6 (fn:=Tryz.f77) func77 U [ptr b2,ptr b6] U ?_;refine Ad (Ac U (qA (BR [([0,1],2),([3],4),([5,6,7,8,9],10),([],11)] (fun z=>(z.heap[b6]?=some (Bl 31 [ptr bs])/\z.heap[b2]?=some (Bl 27 [ptr bd]))) [10,11] mixed (⟨H.drew.get at1,H.drew.get at5⟩) ?_)));refine AC U U (BG Fc U (fun _ hx=>(by rw[Ar hx.1];rfl)) ?_);refine BG Dn U (fun _ hx=>(by rw[Ar hx.2];rfl)) ?_;refine AU ?_;replace H:=H.drew;refine Ai qB (He (H.ext.to hd (by simp))) U ?_;rintro v w ⟨rfl,rfl⟩;refine Ab (Bc (⟨H.get at1,H.get at5⟩) (AC U U ?_));refine Iu U U U (AU ?_);rw[show((m+362:Nat):Int) - 362=((m:Nat):Int)by omega];refine Ai qB (Al9 m hm.1 hm.2 _) U ?_;rintro v w ⟨bp,ba,rfl,P,hx8,hbp,hba⟩
 replace H:Ctx w0 [] w (emB b16 b2 b6 bs bd bm1 bm2 gen fv Gl Gl o1 o2++pgB bp ba m):=H.callEnt hx8 (fun x hx=>by simp only[qac,qam,or_false]at hx;rcases hx with rfl|rfl;exact⟨by have:=P.hd;rw[qba]at this;exact this,hbp⟩;exact⟨P.st,hba⟩) (by simpa using P.ne);refine Ab (Bc (⟨H.get at1,H.get at5⟩) (AC U U ?_));refine Ij U (CA U U (CA U U (Bg U (AD Js U (AU (Bf (.pointer _) sz_89 U U U H at2 (by(simp;done)) ?_))))));rintro w H;refine Ab (De U (AC U U ?_));refine AU (Ac U (Ab (De U (B1 (Ad (Ae U (Ac U (qA (Ax (AG (v:=(.int _ _)) U U U ?_))))))))));exact⟨rfl,bp,ba,H⟩
abbrev trB(bt bd bp:Nat):List (Nat × Obj):=[(bt,Bl TT (Qq bd bp 362))]
theorem Ae2{bp ba:Nat}{F:Nat->Prop}{A:Dev}(D:DevAt w0 bd A F)(hl:A.B.length=m+362)(hm:1<=m/\m<=4096)(H:Ctx w0 [] w (emB b16 b2 b6 bs bd bm1 bm2 gen fv (ptr bp) Gl o1 o2++pgB bp ba m)) :
  Ret prog 79 #[ptr b2,ptr b6] w fun v w'=>v=.int .i64 0/\∃bt,Ctx w0 [] w' (emB b16 b2 b6 bs bd bm1 bm2 gen fv (ptr bp) (ptr bt) o1 o2++(pgB bp ba m++trB bt bd bp)):=by
 have hp:∀{w':World} {S:List Nat},Ctx w0 S w' ((emB b16 b2 b6 bs bd bm1 bm2 gen fv (ptr bp) Gl o1 o2)++pgB bp ba m)->PgAt w' bp ba (List.replicate m 0):=fun H=>Ap3 (L:=[]) (by rw[qa3];exact H.right) hm.2;refine A6 (fn:=f79) func79 U [ptr b2,ptr b6] U ?_;refine Ad (Ac U (qA (BR [([0,1,2,3,4,5],6),([7,8,9,10,11],12),([],13)] (fun z=>(z.heap[b6]?=some (Bl 31 [ptr bs])/\z.heap[b2]?=some (Bl 27 [ptr bd])/\z.heap[bs]?=some (Bl CU (CN (ptr bd) Gl (ptr bp) Gl gen (-1) bm1 bm2 0 false)))) [12,13] mixed (⟨H.drew.get at1,H.drew.get at5,H.drew.get at2⟩) ?_)));refine AC U U (BG Fc U (fun _ hx=>(by rw[Ar hx.1];rfl)) ?_);refine BG Dn U (fun _ hx=>(by rw[Ar hx.2.1];rfl)) ?_;refine BG Fc U (fun _ hx=>(by rw[Ar hx.1];rfl)) ?_;refine Bg U (AD Js U (BG K3 U (fun _ hx=>(by rw[Ar hx.2.2];rfl)) ?_));refine AU ?_
 replace H:=H.drew;refine Ai qB (Amh (D.keep0 H.ext) (hp H) 362 (by decide) (by decide)) U ?_;rintro v w ⟨hx10,hT⟩;obtain⟨-,bt,rfl,hbt,hbtw⟩:=hT.resolve_left (by(rintro⟨h,-⟩;rw[hl,qba]at h;omega));replace H:Ctx w0 [] w (emB b16 b2 b6 bs bd bm1 bm2 gen fv (ptr bp) Gl o1 o2++(pgB bp ba m++trB bt bd bp)):=(by rw[<-qa1];exact H.callEnt hx10 (fun x hx=>by rw[qaa.1 hx];exact⟨hbt,hbtw⟩) (by simp));refine Ab (Bc (⟨H.get at1,H.get at5,H.get at2⟩) (AC U U ?_));refine Ij U (CA U U (CA U U (Bg U (AD Kq U (AU (Bf (.pointer _) sz_90 U U U H at2 (by(simp;done)) ?_))))));rintro w H;refine Ab (De U (AC U U ?_));refine AU (Ac U (Ab (De U (B1 (Ad (Ae U (Ac U (qA (Ax (AG (v:=(.int _ _)) U U U ?_))))))))));exact⟨rfl,bt,H⟩
def emI(w0:World)(b16 b2 b6 bs bd bm1 bm2 gen m:Nat)(fv:List Value)(o1 o2:Obj):Nat->World->Prop
 |0,w'=>Ctx w0 [] w' (emB b16 b2 b6 bs bd bm1 bm2 gen fv Gl Gl o1 o2)
 |1,w'=>∃bp ba,Ctx w0 [] w' (emB b16 b2 b6 bs bd bm1 bm2 gen fv (ptr bp) Gl o1 o2++pgB bp ba m)
 |_,w'=>∃bp ba bt,Ctx w0 [] w' (emB b16 b2 b6 bs bd bm1 bm2 gen fv (ptr bp) (ptr bt) o1 o2++(pgB bp ba m++trB bt bd bp))
theorem Ap4{i:Nat}(h:emI w0 b16 b2 b6 bs bd bm1 bm2 gen m fv o1 o2 i w):w.heap[b16]?=some (Bl 46 fv):=by
 match i,h with
 |0,h=>exact h.get at0
 |1,⟨_,_,h⟩=>exact h.left.get at0
 |_+2,⟨_,_,_,h⟩=>exact h.left.get at0
theorem emAll{F:Nat->Prop}{A:Dev}(D:DevAt w0 bd A F)(hl:A.B.length=m+362)(hm:1<=m/\m<=4096)(H:Ctx w0 [] w (emB b16 b2 b6 bs bd bm1 bm2 gen [.func (.func 77) #[] #[ptr b2,ptr b6],.func (.func 79) #[] #[ptr b2,ptr b6]] Gl Gl o1 o2)) :
  Ret prog 37 #[.slice (some ⟨b16,0,none⟩) 2 2] w fun v w'=>∃e,v=.int .i64 e/\((e=0/\emI w0 b16 b2 b6 bs bd bm1 bm2 gen m [.func (.func 77) #[] #[ptr b2,ptr b6],.func (.func 79) #[] #[ptr b2,ptr b6]] o1 o2 2 w')\/(e≠0/\False)):=by
 obtain⟨dn,ds,hhd⟩:=D.hd;refine Aj9 (E:=fun _ _=>False) [.func (.func 77) #[] #[ptr b2,ptr b6],.func (.func 79) #[] #[ptr b2,ptr b6]] w (by simp) (I:=emI w0 b16 b2 b6 bs bd bm1 bm2 gen m _ o1 o2) H (fun i w' h=>Ap4 h) (fun v hv=>?_) (fun i f caps w' hi h=>?_)
 .simp only[qac,qam,or_false]at hv
  rcases hv with rfl|rfl <;> exact⟨_,_,rfl⟩
 .match i,hi,h with
  |0,hi,h =>
   cases hi;exact⟨by kernel_rfl,(Ae1 (by rw[<-hl];exact hhd) hm h).mono fun v w'' ⟨hv,hc⟩=>⟨0,hv,.inl ⟨rfl,hc⟩⟩⟩
  |1,hi,⟨bp,ba,h⟩ =>
   cases hi;exact⟨by kernel_rfl,(Ae2 D hl hm h).mono fun v w'' ⟨hv,hc⟩=>⟨0,hv,.inl ⟨rfl,bp,ba,hc⟩⟩⟩
theorem Yj{F:Nat->Prop}{A:Dev}(w:World)(D:DevAt w bd A F)(hl:A.B.length=m+362)(hm:1<=m/\m<=4096)(gen:Nat) :
  Ret prog 36 #[ptr bd,.int .u64 (gen:Int)] w fun v w'=>∃bs bm1 bm2 o1 o2 bp ba bt,v=.tuple #[ptr bs,.int .i64 0]/\En str ([]:List (List UInt8 × Value)) o1/\En str ([]:List (List UInt8 × Value)) o2/\Ctx w [] w' ([(bs,Bl CU (CN (ptr bd) Gl (ptr bp) (ptr bt) gen (-1) bm1 bm2 0 false)),(bm2,o2),(bm1,o1)]++(pgB bp ba m++trB bt bd bp)):=by
 obtain⟨w0,rfl,H⟩:=qE w;obtain⟨dn,ds,hhd⟩:=D.hd;refine A6 (fn:=Tryz.f36) func36 U [ptr bd,.int .u64 (gen:Int)] U (Ad (Cn _ (.pointer _) U U H ?_));rintro b2 w - H;refine Bx U (Ac U (qA (Ad (AH Dn U H at0 U (Ae U (KX (κ:=List UInt8) str U H ?_))))));rintro b10 o10 w hM1 H;refine KX (κ:=List UInt8) str U H ?_;rintro b11 o11 w hM2 H;refine B2 (CN (ptr bd) Gl Gl Gl gen (-1) b10 b11 0 false) pl_94 zc_94 (Cn (CN (ptr bd) Gl Gl Gl gen (-1) b10 b11 0 false) (.agg _) U U H ?_);rintro bs w - H;refine Bj Aic H ?_;rintro b6 w - H;refine Bf (.pointer _) Ah7 U U U H at0 (by decide) ?_;rintro w H
 refine qA (Ad (CG [.pointer _,.pointer _] U (CG [.pointer _,.pointer _] U (Cb [.func (.func 77) #[] #[ptr b2,ptr b6],.func (.func 79) #[] #[ptr b2,ptr b6]] Pg Xp Abz H ?_))));rintro b16 w - H;refine Ai qB (emAll D hl hm H) U ?_;rintro v w ⟨e,rfl,he⟩;clear H;obtain⟨rfl,bp,ba,bt,H9⟩:=he.resolve_right (fun h=>h.2);have H:=H9.left;refine Ac U (qA (Ad (AH Fc U H at1 U (Ae U (Bx U (Ac U (qA (Ax (Ce (v1:=(.pointer _)) (v2:=(.int _ _)) U U U U ?_)))))))));refine⟨bs,b10,b11,o10,o11,bp,ba,bt,rfl,hM1,hM2,H9.sub (fun x hx=>?_) ?_⟩
 .simp only[qau,qac,qam,or_false]at hx |-
  rcases hx with(h|h|h)|(h|h)|h <;> simp[h]
 .have h:=H9.nd;simp only[qbx,qa7,qbh,qac]at h |-;simp_all
end
def blkI(n:Int):Int:=max 1 ((max n 0+480 - 1) / 480)+1
def blk(n:Nat):Nat:=max 1 ((n+479) / 480)+1
theorem Je(n:Nat):blkI (n:Int)=(blk n:Int):=by unfold blkI blk;omega
theorem Et(n:Nat):2<=blk n:=by unfold blk;omega
theorem PB(n:Nat):blk n<=n+2:=by unfold blk;omega
theorem Gw(n:Int)(w:World)(h:n<=9000000000000000000:=by omega):Ret prog 45 #[.int .i64 n] w fun v w'=>v=.int .i64 (blkI n)/\w=w':=by
 refine A6 (fn:=f45) func45 U [.int .i64 n] U (Ad (Ac U (qA (Ad (Ae U (N9 U U U ?_))))));refine A7 U U (BB U U ?_);refine Ri U U U (show _<=(9223372036854775807:Int)by omega) (N9 U U U ?_);refine A7 U U (Ac U (qA (Ax (AG (v:=(.int _ _)) U U U ?_))));exact⟨rfl,rfl⟩
def Ew(m f z at':Int)(seq:Nat):Bool:=decide (0<=f) && (decide (2<=z) && (decide (z<=m) && (decide (f<=m - z) && (decide (0<=at') && (decide (at'<z) && (decide (1<=seq) && decide (seq<=4611686018427387904)))))))
def Yk(n:Nat)(c:UInt8):Byt:=(List.range n).map fun i=>c+UInt8.ofNat (i % 7)
theorem Vn(n:Nat)(c:UInt8):(Yk n c).length=n:=by simp[Yk]
structure Jr where
 frm:Nat
 size:Nat
 at':Nat
 seq:Nat
 taken:Nat
 dead:Bool
def TJ:Nat:=124
def JB(bd:Nat)(J:Jr):List Value:=[ptr bd,.int .i64 (J.frm:Int),.int .i64 (J.size:Int),.int .i64 (J.at':Int),.int .u64 (J.seq:Int),.int .i64 (J.taken:Int),.bool J.dead]
structure Jr.Ok(J:Jr):Prop where
 s1:2<=J.size
 s2:J.frm+J.size<=4096
 a:J.at'<J.size
 t:J.taken<=J.size
 q:J.seq<=9000000000000000000
def Jr.place(J:Jr)(i:Nat):Nat:=J.frm+(J.at'+i) % J.size
theorem Jr.Ok.place{J:Jr}(h:J.Ok)(i:Nat):J.place i<J.frm+J.size:=by
 have:=qbl (J.at'+i) (show 0<J.size by have:=h.s1;omega);unfold Jr.place;omega
theorem Vo{w:World}{bj bd:Nat}{J:Jr}(h:w.heap[bj]?=some (Bl TJ (JB bd J)))(hJ:J.Ok)(i:Nat)(hi:i<=1000000) :
  Ret prog 109 #[ptr bj,.int .i64 (i:Int)] w fun v w'=>v=.int .i64 (J.place i:Int)/\Ext [] w w':=by
 obtain⟨w0,rfl,H⟩:=qE w;have h1:=hJ.s1;have h2:=hJ.s2;have h3:=hJ.a;have hm:=qbl (J.at'+i) (show 0<J.size by omega);refine A6 (fn:=f109) func109 U [.pointer (some ⟨bj,0,none⟩),.int .i64 (i:Int)] U ?_;refine Ad (Ac U (qA (J7 (fun x=>x=_) mixed U ?_)));refine GZ U (Eo U (BP Ah3 U (HZ DW U (by rintro _ rfl;exact(Ctx.old0 H.drew (Ar h _))) ?_)));refine GZ U (Eo U (BP NK U (HZ DW U (by rintro _ rfl;exact(Ctx.old0 H.drew (Ar h _))) ?_)));refine DM U (Fi U U ?_);refine GZ U (Eo U (BP NJ U (HZ DW U (by rintro _ rfl;exact(Ctx.old0 H.drew (Ar h _))) ?_)));refine q_rem U U U (by omega) (by omega) ?_;rw[show((J.at':Int)+(i:Int)) % (J.size:Int)=(((J.at'+i) % J.size:Nat):Int)by rw[Int.natCast_emod,Int.natCast_add]]
 refine Fi U U (EO U (Jo ?_));rintro _ rfl;replace H:=H.drew;refine Ax (AG (v:=(.int _ _)) U U U ?_);exact⟨qab (Value.int .i64) (by unfold Jr.place;omega),H.ext⟩
def CY(q i:Nat)(p:Byt):Byt:=(Bq q 8++Bq i 4)++p
def Hk(q:Nat)(s:Byt):Byt:=(Bq q 8++Bq (blk s.length - 1) 4)++Bq s.length 4
theorem Nt(q i:Nat)(p:Byt):(CY q i p).length=12+p.length:=by simp[CY,AZ];omega
theorem Yl(q:Nat)(s:Byt):(Hk q s).length=16:=by simp[Hk,AZ]
theorem Ym(l:Byt)(n:Nat):Ng l n 4=l++Bq n 4:=by rw[Ng,show HM 4=true by decide];rfl
theorem Aka(l:Byt)(n:Nat):Ng l n 8=l++Bq n 8:=by rw[Ng,show HM 8=true by decide];rfl
theorem Tu{w:World}{bj bd:Nat}{J:Jr}(h:w.heap[bj]?=some (Bl TJ (JB bd J)))(hJ:J.Ok)(i:Nat)(a:Option Addr)(c n:Nat)(p:Byt)(R:Rd w a 1 B8 p)(hn:p.length=n)(hi:i<=1000000:=by omega)(hm:n<=1000000:=by decide):
  Ret prog 111 #[ptr bj,.int .i64 (i:Int),.slice a n c] w fun v w'=>Fresh w w' 5 1 v ((CY J.seq i p).map bv):=by
 subst hn;obtain⟨w0,rfl,H⟩:=qE w;have hq:=hJ.q;refine A6 (fn:=f111) func111 U [.pointer (some ⟨bj,0,none⟩),.int .i64 (i:Int),.slice a p.length c] U ?_;refine Ad (Ak U (qA (Ad (Am U (A8 U (Af KZ U (Be GC U (Ctx.old0 H (Ar h _)) ?_)))))));refine Ai qB (Gr none 0 0 [] J.seq 8 w0 Rd.nil U (by omega)) U ?_;rintro v w F12;rw[Aka,qa7]at F12;obtain⟨a12,c12,rfl,R12,hc12⟩:=Fresh.rdB F12;rw[AZ];refine Ae U (DP U Ge Hn ?_);refine Ai qB (Gr a12 c12 8 (Bq J.seq 8) i 4 w R12 (AZ _ _) (by omega)) U ?_;rintro v w F15;rw[Ym]at F15;replace F15:=Fresh.since F15 F12.ext;obtain⟨a15,n15,c15,full15,rfl,O15,hb15⟩:=F15.ex;have hx15:=F15.ext;obtain rfl:n15=12:=by have h9:=O15.llen;rw[qaj,qan,AZ,AZ]at h9;omega
 replace H:=(Ctx.start w0 []).callEnt hx15 hb15 KR;refine Ak U (qA (Ad (Aj U (Aj U (DS (L:=[]) U AX AX CT Pf IP U (p.map bv) U U H O15 (by simp) (Ht p) (Rd.appB (R.ext0 H.ext)) ?_)))));rintro a18 c18 full18 w H O;rw[<-qaz]at O;refine Ak U (qA (Ax (AG (v:=(.slice _ _ _)) U U U ?_)));exact Ctx.fresh (L:=[]) H O
theorem Akb{w:World}{bj bd:Nat}{J:Jr}(h:w.heap[bj]?=some (Bl TJ (JB bd J)))(hJ:J.Ok)(a:Option Addr)(c n:Nat)(s:Byt)(hn:s.length=n)(hm:n<=1000000000000:=by omega):
  Ret prog 113 #[ptr bj,.slice a n c] w fun v w'=>Fresh w w' 5 1 v ((Hk J.seq s).map bv):=by
 subst hn;obtain⟨w0,rfl,H⟩:=qE w;have hq:=hJ.q;have hb2:=Et s.length;have hb3:=PB s.length;refine A6 (fn:=f113) func113 U [.pointer (some ⟨bj,0,none⟩),.slice a s.length c] U ?_;refine Ad (Ak U (qA (Ad (Am U (A8 U (Af KZ U (Be GC U (Ctx.old0 H (Ar h _)) ?_)))))));refine Ai qB (Gr none 0 0 [] J.seq 8 w0 Rd.nil U (by omega)) U ?_;rintro v w F10;rw[Aka,qa7]at F10;obtain⟨a10,c10,rfl,R10,hc10⟩:=Fresh.rdB F10;rw[AZ];refine Aj U (AP AX U (Ai qB (Gw (s.length:Int) w) U ?_));rintro v w ⟨rfl,rfl⟩;rw[Je];refine BB U U ?_;rw[show((blk s.length:Int) - 1)=((blk s.length - 1:Nat):Int)by omega];refine DP U Ge Hn (Ai qB (Gr a10 c10 8 (Bq J.seq 8) (blk s.length - 1) 4 _ R10 (AZ _ _) (by omega)) U ?_)
 rintro v w F16;rw[Ym]at F16;replace F16:=Fresh.since F16 F10.ext;obtain⟨a16,c16,rfl,R16,hc16⟩:=Fresh.rdB F16;rw[qan,AZ,AZ];refine Ak U (qA (Ad (Aj U (Aj U (AP AX U (DP U Ge Hn ?_))))));refine Ai qB (Gr a16 c16 12 (Bq J.seq 8++Bq (blk s.length - 1) 4) s.length 4 _ R16 (by rw[qan,AZ,AZ]) (by omega)) U ?_;rintro v w F21;rw[Ym]at F21;obtain⟨a21,n21,c21,full21,rfl,O21,hb21⟩:=F21.ex;refine Ak U (qA (Ax (AG (v:=(.slice _ _ _)) U U U ?_)));exact Fresh.since F21 F16.ext
theorem Yn{w:World}(a b:Option Addr)(c d n m:Nat)(x y:Byt)(Rx:Rd w a 1 B8 x)(Ry:Rd w b 1 B8 y)(hn:x.length=n)(hm:y.length=m) :
  Ret prog 112 #[.slice a n c,.slice b m d] w fun v w'=>v=.bool (decide (x=y))/\w=w':=by
 subst hn hm;refine A6 (fn:=f112) func112 U [.slice a x.length c,.slice b y.length d] U (Ad (An U (qA (Ad (Aj U (Kk (l:=x) AX GR F7 U Rx ?_))))));refine Aj U (Kk (l:=y) AX GR F7 U Ry ?_);refine RJ (l:=x) (m:=y) U U U (An U (qA (Ax (AG (v:=(.bool _)) U U U ?_))));exact⟨rfl,rfl⟩
def Tv(x y:Byt):Bool:=decide (y.length<=x.length) && decide (x.take y.length=y)
theorem Ae3{w:World}(a b:Option Addr)(c d n m:Nat)(x y:Byt)(Rx:Rd w a 1 B8 x)(Ry:Rd w b 1 B8 y)(hn:x.length=n)(hm:y.length=m)(hc:n<=c) :
  Ret prog 110 #[.slice a n c,.slice b m d] w fun v w'=>v=.bool (Tv x y)/\w=w':=by
 subst hn hm;refine A6 (fn:=f110) func110 U [.slice a x.length c,.slice b y.length d] U (Ad (An U (qA (Ad (Aj U (AP AX U (Aj U (AP AX U (IE U U (AA U ?_))))))))));refine AR 10 U ?_ ?_
 .intro h1;replace h1:=AV h1;have hl:y.length<=x.length:=by omega
  refine Aj U (Aj U (AP AX U (Ei AX CT U U ?_)));refine Aj U (Ai qB (Yn a b c d y.length y.length (x.take y.length) y (Rx.take _) Ry (by rw[qa0];omega) U) U ?_);rintro v w ⟨rfl,rfl⟩;refine AN U (.bool _) U (An U (qA (Ax (AG (v:=(.bool _)) U U U ?_))));exact⟨by rw[Tv,qal hl];rfl,rfl⟩
 .intro h1;replace h1:=AW h1;refine Ag U (Ag U (Ag U (Ag U (Ag U (Ag U (AK U (.bool _) U (An U (qA (Ax (AG (v:=(.bool _)) U U U ?_))))))))));exact⟨by rw[Tv,qag (show ¬y.length<=x.length by omega)];rfl,rfl⟩
def Ow(A:Dev)(J:Jr)(i:Nat)(k:UInt8)(b:Byt):Int:=Dt A (J.place i:Int) (DT k b)
def Kv(A:Dev)(J:Jr)(i:Nat)(k:UInt8)(b:Byt):Dev:=CE A (J.place i:Int) (DT k b)
theorem Acn{w:World}{bj bd:Nat}{J:Jr}{A:Dev}{F:Nat->Prop}(h:w.heap[bj]?=some (Bl TJ (JB bd J)))(hJ:J.Ok)(i:Nat)(k:UInt8)(a:Option Addr)(c n:Nat)(b:Byt)(R:Rd w a 1 B8 b)(hn:b.length=n)(hm:n<=505)(hlt:∀x,F x->x<w.heap.size)(hFj:¬F bj){mx:Nat}(hfew:Few A mx)(DA:DevAt w bd A F)(hi:i<=1000000:=by omega)(hk:k.toNat≠0:=by decide)(hmx:mx<=1000000000000:=by omega):
  Ret prog 118 #[ptr bj,.int .i64 (i:Int),bv k,.slice a n c] w fun v w'=>v=.int .i64 (Ow A J i k b)/\DevAt w' bd (Kv A J i k b) (grow F w w')/\Turn F w w':=by
 subst hn;obtain⟨w0,rfl⟩:=qD w
 have hse:GD k b=0:=by
  rw[GD,qag hk,qag (by omega)];rfl
 have h5:(DT k b).length=512:=FF hm;refine A6 (fn:=f118) func118 U [.pointer (some ⟨bj,0,none⟩),.int .i64 (i:Int),bv k,.slice a b.length c] U ?_;refine Ad (Ac U (qA (Ad (Ee U (bv k) U ?_))));refine Aj U (Ai qB (Wb k a c _ _ _ R U) U ?_);rintro v w P14;rw[Lh,hse]at P14;obtain⟨s14,rfl,B14⟩:∃s,v=.tuple #[s,.int .i64 0]/\Bytes _ w s (DT k b):=(P14.elim (fun h=>absurd rfl h.1) fun h=>h.2);obtain⟨a14,c14,rfl,R14,hc14,hn14⟩:=B14.ex;have hx:=B14.ext;have DA1:=DA.keep0 hx;rw[h5];have hj1:w.heap[bj]?=some (Bl TJ (JB bd J)):=by rw[hx.block bj (Al h) (by simp)];exact h
 refine AQ U (Ah U U (Ah U U (Ak U (Ac U (qA (Aq (Ad (Ae U (Ba U U ?_)))))))));refine qA (Bz U (Ap (Aa (BR [([0,1,2,3,4,5,7],6),([],8),([],9)] (fun z=>z.heap[bj]?=some (Bl TJ (JB bd J))) [] mixed (hj1) ?_))));refine AC U U (Cs U (Bg U (AD NI U (BG Dn U (fun _ hx=>Ar hx (0+0)) ?_))));refine Cs U (B9 U (BF U (AU ?_)))
 skip
 refine Ai qB (Vo (show(World.drew w).heap[bj]?=_ from hj1) hJ i hi) U ?_;rintro v w8 ⟨rfl,hx8⟩;have DA2:=(DA1.keep0 (Ext.drew [] w)).keep0 hx8;have R15:=(R14.ext0 (Ext.drew [] w)).ext0 hx8;have hj8:w8.heap[bj]?=some (Bl TJ (JB bd J)):=by rw[hx8.block bj (Al hj1) (by simp)];exact hj1
 refine Ab (Bc (hj8) (AC U U ?_));refine AU (Ai qB (Po (J.place i:Int) a14 c14 512 (DT k b) R15 h5 (.inr fun h=>by have:=hlt _ h;omega) hfew (hmx:=hmx) DA2) U ?_);rintro v w9 ⟨rfl,DA3,hT⟩;have hj9:w9.heap[bj]?=some (Bl TJ (JB bd J)):=by obtain⟨S,hS,hx9⟩:=hT;rw[hx9.block bj (Al hj8) (fun h=>hFj (hS _ h))];exact hj8
 refine Ab (Bc (hj9) (AC U U ?_));refine AU (Ac U (Ab (Bc (hj9) (B1 (Ax (AG (v:=(.int _ _)) U U U ?_))))));have hxx:=(hx.trans (Ext.drew [] w)).trans hx8;exact⟨rfl,DA3.mono (Ye hxx.size),Turn.trans (.of0 hxx) hT fun x h => .inl h⟩
abbrev tpC(root:Int)(p q:Nat):List Value:=[.int .i64 root,.int .i64 (p:Int),.int .u64 (q:Int)]
def tpB(root:Int)(p q:Nat):Byt:=Bq (root+1).toNat 4++(Bq p 4++Bq q 8)
theorem Eg(root:Int)(p q:Nat):(tpB root p q).length=16:=by simp[tpB,AZ]
theorem Aco(root:Int)(p q:Nat)(w:World)(hr : -1<=root/\root<=4294967294)(hp:p<4294967296)(hq:q<18446744073709551616) :
  Ret prog 40 #[.agg (tpC root p q).toArray] w fun v w'=>Fresh w w' 5 1 v ((tpB root p q).map bv):=by
 obtain⟨w0,rfl⟩:=qD w;obtain⟨n,hn⟩:∃n:Nat,root+1=n:=⟨(root+1).toNat,by omega⟩;have H:=Ctx.start w0 [];refine A6 (fn:=f40) func40 U [.agg (tpC root p q).toArray] U (Ad (Cn (tpC root p q) (.agg _) U U H ?_));rintro b1 w - H;refine Ak U (qA (Ad (Af Abw U (AH DW U H at0 U (A7 U U ?_)))));rw[hn];refine DP U Ge Hn (Ai qB (Gr none 0 0 [] n 4 _ Rd.nil U (by omega)) U ?_);rintro v w F;rw[Ym,qa7]at F;obtain⟨a8,n8,c8,f8,rfl,O8,h8⟩:=F.ex;obtain rfl:n8=4:=(by have:=O8.llen;rw[qaj,AZ]at this;omega);replace H:=H.callEnt F.ext h8 KR;refine Ak U (qA (Ad (Aj U (Af NN U (AH DW U H at0 U (DP U Ge Hn ?_))))))
 refine Ai qB (Gr a8 c8 4 (Bq n 4) p 4 _ (OS.rdB O8 fun x hx=>H.blk x (qax _ hx)) (AZ _ _) (by omega)) U ?_;rintro v w F2;rw[Ym]at F2;obtain⟨a13,n13,c13,f13,rfl,O13,h13⟩:=F2.ex;obtain rfl:n13=8:=(by have:=O13.llen;rw[qaj,qan,AZ,AZ]at this;omega);replace H:=H.callEnt F2.ext h13 KR;refine Ak U (qA (Ad (Aj U (Af Kp U (AH GC U H at0 U (Ai qB (Gr a13 c13 8 (Bq n 4++Bq p 4) q 8 _ (OS.rdB O13 fun x hx=>H.blk x (qax _ hx)) (by rw[qan,AZ,AZ]) hq) U ?_))))));rintro v w F3;rw[Aka,qa1]at F3;have hx0:=H.ext;obtain⟨a17,n17,c17,f17,rfl,O17,h17⟩:=F3.ex;refine Ak U (qA (Ax (AG (v:=(.slice _ _ _)) U U U ?_)));have hb:tpB root p q=Bq n 4++(Bq p 4++Bq q 8):=by unfold tpB;rw[hn];rfl
 rw[hb];exact Fresh.since F3 hx0
def tpR(b:Byt):List Value:=if b.length=16 then tpC ((numN (b.take 4):Int) - 1) (numN ((b.drop 4).take 4)) (numN ((b.drop 8).take 8))else tpC 0 0 0
theorem Aai{b:Byt}(h:b.length=16)(p k:Nat)(hk:k=4\/k=8)(hp:p+k<=16:=by decide):Gi b (p:Int) (k:Int)=.tuple #[.int .u64 (numN ((b.drop p).take k):Int),.int .i64 ((p:Int)+(k:Int)),.int .i64 0]:=by
 have:Dj b (p:Int) (k:Int)=0:=by
  unfold Dj;rw[qal (show(0:Int)<=(p:Int)by omega),qal (show(p:Int)<=(b.length:Int)by omega),qal (show(k:Int)<=(b.length:Int) - (p:Int)by omega)]
  rcases hk with rfl|rfl <;> rfl
 unfold Gi;rw[this];rfl
theorem Acp{b:Byt}(k:Nat)(l:Byt)(hl:l=b.take k)(hk:k<=4:=by decide):numN l<4294967296:=by
 subst hl;have h1:=Kr (b.take k);have h2:(b.take k).length<=4:=by rw[qa0];omega
 have h3:256 ^ (b.take k).length<=256 ^ 4:=qc2 (by omega) h2;have h4:(256:Nat) ^ 4=4294967296:=by decide
 omega
theorem Yo(a:Option Addr)(c:Nat)(b:Byt)(w:World)(R:Rd w a 1 B8 b)(hc:b.length<=c)(_:b.length<=100000:=by omega):
  Ret prog 33 #[.slice a b.length c] w fun v w'=>v=.tuple #[.agg (tpR b).toArray,.bool (decide (b.length=16))]/\Ext [] w w':=by
 obtain⟨w0,rfl,H⟩:=qE w;refine A6 (fn:=Tryz.f33) func33 U [.slice a b.length c] U (Ad (Bj Su H ?_));rintro b2 w - H;refine An U (qA (Aq (Ad (Aj U (AP AX U (Ba U U (qA (Au _ U ?_ ?_))))))))
 .intro h1;replace h1:=Bu h1;have h1:¬b.length=16:=fun h=>h1 (by omega);refine Ad (BN Abn NP U H at0 U (Bo NP U U U (by simp[Bi]) H at0 U ?_));rintro w H;refine An U (qA (Ax (Ao (Dx U U U Abn NP H at0 U (show _=(.bool _)from rfl) ?_))));exact⟨by rw[tpR,if_neg h1,qag h1];rfl,H.ext⟩
 .intro h1;replace h1:=Bv h1;have h1:b.length=16:=by omega
  have n1:=Acp (b:=b) 4 _ rfl;have n2:=Acp (b:=b.drop 4) 4 _ rfl;refine Ap (Aa (Ad (Aj U (Ai qB (Hd a c _ b ((0:Nat):Int) ((4:Nat):Int) _ (R.ext0 H.ext) U hc) U ?_))));rintro v w ⟨rfl,hx19⟩;replace H:=H.call hx19;rw[Aai h1 0 4 (.inl rfl),List.drop_zero];refine AQ U (Ah U U (Ah U U (Ah U U (Ac U (Ac U (Ac U (qA (Ad (Aj U ?_)))))))));refine Ai qB (Hd a c _ b ((4:Nat):Int) ((4:Nat):Int) _ (R.ext0 H.ext) U hc) U ?_;rintro v w ⟨rfl,hx25⟩;replace H:=H.call hx25;rw[Aai h1 4 4 (.inl rfl)];refine AQ U (Ah U U (Ah U U (Ah U U (Ac U (Ac U (Ac U (qA (Ad (Aj U ?_)))))))));refine Ai qB (Hd a c _ b ((8:Nat):Int) ((8:Nat):Int) _ (R.ext0 H.ext) U hc) U ?_;rintro v w ⟨rfl,hx31⟩;replace H:=H.call hx31;rw[Aai h1 8 8 (.inr rfl)]
  refine AQ U (Ah U U (Ah U U (Ah U U (Ac U (Ac U (Ac U (qA (Ad (Ae U ?_)))))))));refine Ej U Hn Ge (BB U U ?_);refine Ae U (Ej U Hn Ge ?_);refine Ae U (B2 (tpC ((numN (b.take 4):Int) - 1) (numN ((b.drop 4).take 4)) (numN ((b.drop 8).take 8))) Ah5 Su ?_);refine Bo NP U U U (by simp[Bi]) H at0 U ?_;rintro w H;refine An U (qA (Ax (Dx U U U Abn NP H at0 U (show _=(.bool _)from rfl) ?_)));exact⟨by rw[tpR,if_pos h1,qal h1],H.ext⟩
structure Wr where
 k:Byt
 v:Byt
 d:Bool
structure Wm where
 ka:Option Addr
 kc:Nat
 va:Option Addr
 vc:Nat
 x:Wr
def CO(m:Wm):List Value:=[.slice m.ka m.x.k.length m.kc,.slice m.va m.x.v.length m.vc,.bool m.x.d]
theorem FW(m:Wm):∀v∈CO m,Bi v=true:=fun v hv=>by
 simp only[CO,qac,qam,or_false]at hv
 rcases hv with rfl|rfl|rfl <;> rfl
structure Wm.Ok(w:World)(M:Mut)(m:Wm):Prop where
 k:Rdx w M m.ka m.x.k
 v:Rdx w M m.va m.x.v
 kc:m.x.k.length<=m.kc
 vc:m.x.v.length<=m.vc
structure Wrs(w:World)(M:Mut)(a:Option Addr)(n c:Nat)(L:List Wr):Prop where
 ex:∃ps:List Wm,Rd w a 3 CO ps/\(ps=[]\/¬M (adr a).block)/\ps.map (·.x)=L/\∀m∈ps,m.Ok w M
 num:n=L.length
 le:n<=c
theorem Wm.Ok.call{w w':World}{M:Mut}{m:Wm}(h:m.Ok w M)(hx:Ext [] w w'):m.Ok w' M:=⟨h.k.call hx,h.v.call hx,h.kc,h.vc⟩
theorem Wm.Ok.turn{w w':World}{M M':Mut}{m:Wm}(h:m.Ok w M)(t:Grown M M' w w'):m.Ok w' M':=⟨h.k.turn t,h.v.turn t,h.kc,h.vc⟩
theorem Wrs.turn{w w':World}{M M':Mut}{a:Option Addr}{n c:Nat}{L:List Wr}(h:Wrs w M a n c L)(t:Grown M M' w w'):Wrs w' M' a n c L:=by
 obtain⟨ps,R,hs,hl,hm⟩:=h.ex;obtain⟨R',hs'⟩:=Rd.turnM R hs (by decide) (fun _ _=>rfl) t;exact⟨⟨ps,R',hs',hl,fun m hx=>(hm m hx).turn t⟩,h.num,h.le⟩
def Yp(d:Bool):Nat:=bif d then 1 else 0
def wrB(x:Wr):Byt:=Bq (Yp x.d) 1++((Bq x.k.length 2++x.k)++(Bq x.v.length 2++x.v))
def opB(L:List Wr):Byt:=L.flatMap wrB
def Wr.Few(x:Wr):Prop:=x.k.length<=32/\x.v.length<=128
theorem Wy(x:Wr):(wrB x).length=5+x.k.length+x.v.length:=by simp[wrB,AZ];omega
theorem Ox:∀{L:List Wr},(∀x∈L,x.Few)->(opB L).length<=165*L.length
 | [],_=>qae _
 |x::L,h=>by
  have h1:=Ox (L:=L) fun y hy=>h y (qai _ hy);have h2:=h x (qaf ..);have h3:=Wy x;unfold opB at h1 |-;rw[qcc,qan,h3,qaw];unfold Wr.Few at h2;omega
theorem Yq{L:List Wr}{i:Nat}{x:Wr}(h:L[i]?=some x):opB (L.take (i+1))=opB (L.take i)++wrB x:=by
 unfold opB;rw[Bp h,qbf,qb8]
theorem Aok(l:List UInt8)(n:Nat):Ng l n 1=l++Bq n 1:=rfl
theorem JT(x y:Byt)(a:Option Addr)(c:Nat)(w:World)(h:x.length<=100000:=by omega)(h2:y.length<=100000:=by omega):Ret prog 84 #[str x,.slice a y.length c] w fun v w'=>v=.int .i64 (((x.length+y.length+4:Nat)):Int)/\w=w':=by
 obtain⟨w0,rfl⟩:=qD w;refine A6 (fn:=Tryz.f84) func84 U [str x,.slice a y.length c] U (Ad (Ac U (qA (Ad (Cd U (VS U F7 U ?_))))));refine Aj U (AP AX U (A7 U U ?_));refine A7 U U (Ac U (qA (Ax (AG (v:=(.int _ _)) U U U ?_))));exact⟨qab (Value.int .i64) (by simp;try omega),rfl⟩
theorem Amo{M:Mut}(w:World)(a:Option Addr)(n c:Nat)(L:List Wr)(X:Wrs w M a n c L)(hL:∀x∈L,x.Few)(hn:n<=1000:=by omega):
  Ret prog 44 #[.slice a n c] w fun v w'=>∃a' c',v=.slice a' (opB L).length c'/\Rd w' a' 1 B8 (opB L)/\(opB L=[]\/w.heap.size<=(adr a').block)/\(opB L).length<=c'/\Ext [] w w':=by
 obtain⟨w0,rfl⟩:=qD w;obtain⟨ps,R,-,hl,hp⟩:=X.ex;have hnL:=X.num;have hpn:ps.length=n:=by rw[hnL,<-hl,qaj]
 refine A6 (fn:=f44) func44 U [.slice a n c] U (Ad (Ak U (qA (Ad (Ak U (qA (Aq (Ad (Aj U (AP CD U ?_))))))))));refine Ae U (qA (AE (B7 8589934184 (α:=Nat × Option Addr × Nat) (fun s=>[(9,.int .i64 (s.1:Int)),(3,.slice s.2.1 (opB (L.take s.1)).length s.2.2)]) (fun s w'=>s.1<=n/\Ext [] w0 w'/\Rd w' s.2.1 1 B8 (opB (L.take s.1))/\(opB (L.take s.1)=[]\/w0.heap.size<=(adr s.2.1).block)/\(opB (L.take s.1)).length<=s.2.2) (fun s=>n - s.1) (0,none,0) U ?_ ?_ ?_)))
 .exact⟨rfl,rfl,trivial⟩
 .exact⟨qak _,Ext.refl _ _,Rd.nil,.inl rfl,qae _⟩
 .rintro⟨i,a3,c3⟩ j w1 ⟨hi,hx,R3,h3,hc3⟩;dsimp only at hi hx R3 h3 hc3;dsimp only;have H:=Ctx.start w1 [];refine Ad (Bn U U (qA (Aq (Au _ U ?_ ?_))))
  .intro h1;replace h1:=AV h1;obtain⟨m,hm⟩:=AO (l:=ps) (i:=i);have hok:=hp m (qad hm);have hxL:L[i]?=some m.x:=by rw[<-hl,qat,hm];rfl
   have hfew:=hL _ (qad hxL)
   have hlen:(opB (L.take i)).length<=165000:=by
    have h5:=Ox (L:=L.take i) fun x hx=>hL x (qbp hx);have h6:=List.length_take_le i L;omega
   have hs:=Yq hxL;unfold Wr.Few at hfew;refine Ap (Aa (Aq (AE (Ad (AY R CD CQ U U ?_)))));refine EY _ RZ CQ U U ((R.ext0 hx).row hm U) (Bj Fy H ?_);rintro b5 w - H;refine Bo CQ U U U (by exact FW m) H at0 U ?_;rintro w H;refine qA (Ad (Ac U (qA (Aq (Ad (Af Jp U (AH Gf U H at0 U (qA (Au _ U ?_ ?_)))))))))
   .intro hd;refine Av (Ac U (qA (Ad (Aj U (Ae U (Ai qB (Gr a3 c3 _ (opB (L.take i)) 1 1 _ (R3.ext0 H.ext) U (hm:=by omega) (by decide)) U ?_))))));rintro v w F17;rw[Aok]at F17;obtain⟨a17,c17,rfl,R17,hc17⟩:=Fresh.rdB F17;replace H:=H.call F17.ext;refine Ak U (qA (Ad (Aj U (Af FT U (AH B4 U H at0 U (Ai qB (FI a17 c17 _ _ m.ka m.kc _ m.x.k _ R17 U (by simp[AZ];omega) ((hok.k.1.ext0 hx).ext0 H.ext) U hok.kc) U ?_))))));rintro v w ⟨x22,rfl,F22⟩;obtain⟨a22,c22,rfl,R22,hc22⟩:=Fresh.rdB F22;replace H:=H.call F22.ext;refine AQ U (Ah U U (Ah U U (Ak U (qA (Av (Aj U (Af FU U (AH B4 U H at0 U (Ai qB (FI a22 c22 _ _ m.va m.vc _ m.x.v _ R22 U (by simp[AZ];omega) ((hok.v.1.ext0 hx).ext0 H.ext) U hok.vc) U ?_)))))))));rintro v w ⟨x29,rfl,F29⟩
    rw[qa1,qa1,show Bq 1 1++((Bq m.x.k.length 2++m.x.k)++(Bq m.x.v.length 2++m.x.v))=wrB m.x by(unfold wrB;rw[hd];rfl),<-hs]at F29;have hx29:=hx.trans H.ext;obtain⟨a29,c29,rfl,R29,hc29,h29⟩:=Fresh.newB (Fresh.since F29 hx29);replace H:=H.call F29.ext;refine AQ U (Ah U U (Ah U U (Ak U (Ab (AF (Aa (Av (A7 U U ?_))))))));refine Ae U (qA ?_);exact⟨(i+1,a29,c29),rfl,⟨rfl,rfl,trivial⟩,⟨by dsimp only;omega,hx.trans H.ext,R29,h29,hc29⟩,by dsimp only;omega⟩
   .intro hd;refine Ap (Aa (Ad (Aj U (Ae U (Ai qB (Gr a3 c3 _ (opB (L.take i)) 0 1 _ (R3.ext0 H.ext) U (hm:=by omega) (by decide)) U ?_)))));rintro v w F17;rw[Aok]at F17;obtain⟨a17,c17,rfl,R17,hc17⟩:=Fresh.rdB F17;replace H:=H.call F17.ext;refine Ak U (qA (Ad (Aj U (Af FT U (AH B4 U H at0 U (Ai qB (FI a17 c17 _ _ m.ka m.kc _ m.x.k _ R17 U (by simp[AZ];omega) ((hok.k.1.ext0 hx).ext0 H.ext) U hok.kc) U ?_))))));rintro v w ⟨x22,rfl,F22⟩;obtain⟨a22,c22,rfl,R22,hc22⟩:=Fresh.rdB F22;replace H:=H.call F22.ext;refine AQ U (Ah U U (Ah U U (Ak U (qA (Av (Aj U (Af FU U (AH B4 U H at0 U (Ai qB (FI a22 c22 _ _ m.va m.vc _ m.x.v _ R22 U (by simp[AZ];omega) ((hok.v.1.ext0 hx).ext0 H.ext) U hok.vc) U ?_)))))))));rintro v w ⟨x29,rfl,F29⟩
    rw[qa1,qa1,show Bq 0 1++((Bq m.x.k.length 2++m.x.k)++(Bq m.x.v.length 2++m.x.v))=wrB m.x by(unfold wrB;rw[hd];rfl),<-hs]at F29;have hx29:=hx.trans H.ext;obtain⟨a29,c29,rfl,R29,hc29,h29⟩:=Fresh.newB (Fresh.since F29 hx29);replace H:=H.call F29.ext;refine AQ U (Ah U U (Ah U U (Ak U (Ab (AF (Aa (Av (A7 U U ?_))))))));refine Ae U (qA ?_);exact⟨(i+1,a29,c29),rfl,⟨rfl,rfl,trivial⟩,⟨by dsimp only;omega,hx.trans H.ext,R29,h29,hc29⟩,by dsimp only;omega⟩
  .intro h1;replace h1:=AW h1;obtain rfl:i=n:=by omega
   refine B3 (Ay (Ay (Bb (Aa (Ad (Aj U (Ak U (qA (Ax (AG (v:=(.slice _ _ _)) U U U ?_))))))))));have ht:L.take i=L:=qa6 (by omega);rw[ht]at R3 h3 hc3 |-;exact⟨a3,c3,rfl,R3,h3,hc3,hx⟩
end Go.Proofs.YtcpgbcabmcbclaaGreatDoor
