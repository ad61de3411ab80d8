/- Part 13 of the proof. -/
import Derived.Test.YtffclglpjlcojaaGreatPart12
import Derived.Test.YtffclglpjlcojaaGreatRows
set_option maxRecDepth 20000
set_option maxHeartbeats 4000000
namespace Go.Proofs.YtffclglpjlcojaaGreat
open Go.GV Go.Proofs.Tryz
attribute [local irreducible] AG W Wq Wt
theorem Agm{w w1 w':World}{m m':Lm}{s s':Ld}{T:Nat->Prop}{k:Ak}{P:List (Nat × Obj)}{a:Option Addr}{n c:Nat}{code:Int}{l:List Int}(H:Ctx w (CT m s) w1 (P++LL m' s'))(F:Fresh w1 w' 2 1 (.slice a n c) (l.map Dj))(hst:Cr s k s' (rp l code))(hI:LdIn w' m' s' (fun x=>T x\/x∈CT m' s'))(hbl:m'.bl=m.bl):G1 w m s T k (.tuple #[.slice a n c,.int .i64 code]) w':=by
 obtain⟨a',n',c',full,hv,OF,hb⟩:=F.ex;cases hv;have H1:Ctx w (CT m s) w1 (LL m' s'):=H.right;exact⟨a,n,c,full,code,l,s',m',rfl,OF,hst,H1.callEnt F.ext hb FY,fun x hx=>qa0 H1.size (hb x hx).2,hI,hbl⟩
theorem YR(xs:List Int){i:Nat}{x:Int}(h:xs[i]?=some x):IL xs (i+1)=IL xs i+(if 0<x then 1 else 0):=by
 show IL xs i+one (0<xs.getD i 0)=_;rw[Bs h]
 by_cases hx:0<x
 .rw[Gz hx,if_pos hx]
 .rw[FN hx,if_neg hx]
theorem U9(xs:List Int):∀i,0<=IL xs i/\IL xs i<=i
 |0=>⟨qax _,qax _⟩
 |i+1=>by
  have h:=U9 xs i;show 0<=IL xs i+one (0<xs.getD i 0)/\IL xs i+one (0<xs.getD i 0)<=((i+1:Nat):Int)
  by_cases hx:0<xs.getD i 0
  .rw[Gz hx];omega
  .rw[FN hx];omega
theorem Alo{m:Lm}{s:Ld}{x:Nat}(h:x∈(LX m.ba m.a s.acs.length m.c m.full m.bd m.b s.nx m.o).map (fun x:Nat × Obj=>x.1)):x∈CT m s:=qah _ (qah _ h)
theorem Rx{m:Lm}{s:Ld}{T:Nat->Prop}{k:Ak}(hk:k.kd=10\/k.kd=11)(_:AkIn k)(w:World)(I:LdIn w m s T)(H0:Ctx w (CT m s) w (LL m s)) :
  Ret prog 38 #[ptr m.bl,.agg (BA k).toArray] w (G1 w m s T k):=by
 obtain⟨w0,rfl⟩:=qD w;obtain⟨bl,ba,bd,br,b,a,c,full,o,arch⟩:=m;obtain⟨S0,hS0⟩:=qD (CT ⟨bl,ba,bd,br,b,a,c,full,o,arch⟩ s);have H:Ctx w0 S0 w0 ((bl,Bl 73 [ptr ba,ptr bd,ptr br,.int .i64 s.day])::(br,Bl 135 arch)::(ba,Bl 129 [.slice a s.acs.length c])::(bd,Bl 132 (DU b s.nx))::(b,o)::ent a 108 full):=by rw[hS0];exact H0
 have hn16:=(Co.1 I.ok.ac).1;have hbdb:bd≠b:=H.ne (i:=3) (j:=4) rfl rfl (by decide);have hno:0<=s.no/\s.no<=4611686018427387904:=by have:=I.ok.kept;omega
 have hstep:∀s' p,((4611686018427387904<=s.no/\s'=s/\p=⟨6,[]⟩) \/
  (s.no<4611686018427387904/\∃r,PlanR s.acs s.ds (decide (k.kd=11)) r/\s'=Qo s r /\
   p=⟨0,[IntKind.i64.wrap (s.no+1),Fy (opn s.ds) r.fl (opn s.ds).length,IL (r.fl.take (opn s.ds).length) (opn s.ds).length]⟩))->Cr s k s' p:=fun s' p h=>by
  unfold Cr;rw[if_pos hk];exact h
 obtain⟨h64,-,h3d,htot⟩:=Fb I.ok.du;have hBr:=LM I.ok.ac I.ok.du I.ok.bk;have hbr:D5 (s.acs.map Dz) s.ds=true:=(Ix).2 hBr;refine Ay (fn:=f38) func38 U [.pointer (some ⟨bl,0,none⟩),.agg (BA k).toArray] U ?_;refine Ad (Br (BA k) (.agg _) U U H ?_);rintro b3 w - H;refine A4 U (Ae U (qA (Ao (Ad (Ax U (AE U (Ah KT U (AB Q9 U H at1 U (Al qB (Adq _ (H.get at2) I.no) U ?_)))))))));rintro v w ⟨rfl,hx19⟩;replace H:=H.call hx19;refine CG U U (qA (An _ U ?_ ?_))
 .intro h1;replace h1:=AM h1;refine Ad (A4 U (Ae U (qA (A7 (Av (BR (v1:=(.slice _ _ _)) (v2:=(.int _ _)) U U U U ?_))))));subst hS0;exact DM (P:=[_]) (m':=⟨bl,ba,bd,br,b,a,c,full,o,arch⟩) (s':=s) (l:=[]) (code:=6) I H (I5 _) (hstep _ _ (.inl ⟨h1,rfl,rfl⟩)) I.O I.M I.ok U U U U
 .intro h1;replace h1:=AN h1;have hno1:s.no<4611686018427387904:=by omega
  refine Aq (Aa (DQ 68717379776 (α:=Nat × Rnd × RSl × Int) (fun z=>[(6,ptr z.1),(7,.int .i64 z.2.2.2)]) (fun z w'=>z.2.2.2=0/\PlanR s.acs s.ds (decide (k.kd=11)) z.2.1/\RAt w' z.2.1 z.2.2.1/\ROff z.2.2.1 z.2.1 (fun x=>x<w0.heap.size\/x=z.1)/\Ctx w0 S0 w' ((z.1,Bl 127 (B0 z.2.1 z.2.2.1))::(b3,Bl 25 (BA k))::(bl,Bl 73 [ptr ba,ptr bd,ptr br,.int .i64 s.day])::(br,Bl 135 arch)::(ba,Bl 129 [.slice a s.acs.length c])::(bd,Bl 132 (DU b s.nx))::(b,o)::ent a 108 full)) U ?_ ?_))
  .skip
   refine Ot (.two [0,1,2,3,4,5,6,7,8,9,10] 11 (.one [12,13,14] 15 (.one [] 16 (.one [] 17 .stop))) 15 (.one [] 11 (.one [12,13,14] 16 (.one [] 17 .stop)))) (fun z=>z.heap[b3]?=some (Bl 25 (BA k))/\z.heap[bl]?=some (Bl 73 [ptr ba,ptr bd,ptr br,.int .i64 s.day])) Bq (⟨H.drew.get at0,H.drew.get at1⟩) ?_;refine IP U U U (BF U (Bg U (Ap GQ U (B3 ID U (fun _ hx=>(by rw[Aj hx.2];rfl)) ?_))));refine BF U (Bg U (Ap FV U (B3 Hx U (fun _ hx=>(by rw[Aj hx.2];rfl)) ?_)));refine Ap EA U (B3 Km U (fun _ hx=>(by rw[Aj hx.1];rfl)) ?_);refine Agz U U U (AR ?_);replace H:=H.drew;refine⟨?_,?_⟩
   .skip
    refine Al qB (WV I.ok.ac I.ok.du (decide (k.kd=11)) _ ⟨a,c,H.get at3,OS.rd (t:=108) I.O (fun y hy=>H.blk y (qal [_,_,_,_,_,_] hy)) (fun _ _=>rfl) (by decide)⟩ ⟨b,s.nx,o,H.get at4,H.get at5,I.M⟩) U ?_;rintro v w ⟨hx33,⟨hb,-⟩|⟨-,r,q,rfl,P,RA,hoff⟩⟩
    (rw[hbr]at hb;cases hb)
    have hsz:=H.size;have H9:=H.call hx33;have hsz9:=hx33.size;clear H;obtain⟨w9,rfl,H⟩:=qE w;refine Ab (BU (by exact⟨H.ext.to (H9.get at0) (by simp),H.ext.to (H9.get at1) (by simp)⟩) ?_);refine BS U U (DK U (Bv U U (Bv U U (AR (AU Fi H ?_)))));rintro b6 w - H;refine Ab (BU (by exact⟨H.ext.to (H9.get at0) (by simp),H.ext.to (H9.get at1) (by simp)⟩) ?_);refine BS U U (AR (Bj C1 U U U (by exact(by simp[AZ])) H at0 U ?_));rintro w H;refine Ab (BU (by exact⟨H.ext.to (H9.get at0) (by simp),H.ext.to (H9.get at1) (by simp)⟩) ?_);refine BS U U (AR (Ae U (Ab (BU (by exact⟨H.ext.to (H9.get at0) (by simp),H.ext.to (H9.get at1) (by simp)⟩) ?_))));refine Ej (Aa ?_);have hb6:w9.heap.size<=b6:=(H.own _ (qai ..)).elim (fun h=>by cases h) id
    exact⟨(b6,r,q,0),rfl,⟨rfl,rfl,trivial⟩,rfl,P,RA.ext0 H.ext,(hoff.or RA.lt).mono fun x hx=>hx.elim (fun h => .inl (qaw h hsz)) (fun h => .inr (h ▸ hb6)),Ctx.mid (B:=[]) (L:=[]) H9 H⟩
   .skip
    refine AU Fi H ?_;rintro b6 w - H;refine Ab (BU (by exact⟨H.get at1,H.get at2⟩) ?_);refine BS U U (AR (Al qB (WV I.ok.ac I.ok.du (decide (k.kd=11)) _ ⟨a,c,H.get at4,OS.rd (t:=108) I.O (fun y hy=>H.blk y (qal [_,_,_,_,_,_,_] hy)) (fun _ _=>rfl) (by decide)⟩ ⟨b,s.nx,o,H.get at5,H.get at6,I.M⟩) U ?_));rintro v w ⟨hx33,⟨hb,-⟩|⟨-,r,q,rfl,P,RA,hoff⟩⟩
    (rw[hbr]at hb;cases hb)
    have hsz:=H.size;have hlt:=AY (H.get at0);have H9:=H.call hx33;clear H;obtain⟨w9,rfl⟩:=qD w;have H:=Ctx.start1 (H9.get at0);refine Ab (BU (by exact⟨H.ext.to (H9.get at1) (by rw[qab];exact H9.ne (i:=1) (j:=0) rfl rfl (by decide)),H.ext.to (H9.get at2) (by rw[qab];exact H9.ne (i:=2) (j:=0) rfl rfl (by decide))⟩) ?_);refine BS U U (DK U (Bv U U (Bv U U (AR (Bj C1 U U U (by exact(by simp[AZ])) H at0 U ?_)))));rintro w H;refine Ab (BU (by exact⟨H.ext.to (H9.get at1) (by rw[qab];exact H9.ne (i:=1) (j:=0) rfl rfl (by decide)),H.ext.to (H9.get at2) (by rw[qab];exact H9.ne (i:=2) (j:=0) rfl rfl (by decide))⟩) ?_);refine BS U U ?_
    refine AR (Ae U (Ab (BU (by exact⟨H.ext.to (H9.get at1) (by rw[qab];exact H9.ne (i:=1) (j:=0) rfl rfl (by decide)),H.ext.to (H9.get at2) (by rw[qab];exact H9.ne (i:=2) (j:=0) rfl rfl (by decide))⟩) ?_)));refine Ej (Aa ?_);exact⟨(b6,r,q,0),rfl,⟨rfl,rfl,trivial⟩,rfl,P,RA.ext H.ext (hoff.mono fun x hx=>by rw[qab.1 hx];exact hlt),hoff.mono fun x hx=>hx.elim (fun h=>qaw h hsz) (fun h=>by rw[h];exact hlt),Ctx.mid (B:=[]) (L:=[_]) H9 H⟩
  .rintro⟨b6,r,q,e7⟩ j7 w ⟨he7,P,RA,hoff,H⟩;dsimp only at he7 P RA hoff H;obtain⟨hC,hokR⟩:=Alj I.ok P hno1;have F0:=GK I.ok.ac I.ok.du hC;have hB:=Adh P;have hmy:∀d∈s.ds,Es d=true:=fun d hd=>((GS I.ok.du).1 d hd).1;have hids:r.ids.length=(opn s.ds).length:=by rw[P.ids,qak]
   have hol:=IK s.ds;have hle:(opn s.ds).length<=r.fl.length:=by have:=F0.pay.1;rw[qbm]at this;omega
   have hlow:∀x∈CT ⟨bl,ba,bd,br,b,a,c,full,o,arch⟩ s,x<w0.heap.size:=fun x hx=>I.low x (I.own x hx);have hlx:∀x∈(LX ba a s.acs.length c full bd b s.nx o).map (fun x:Nat × Obj=>x.1),x<w0.heap.size:=fun x hx=>hlow x (Alo (m:=⟨bl,ba,bd,br,b,a,c,full,o,arch⟩) hx);obtain⟨xs,hxs⟩:=qD (r.fl.take (opn s.ds).length);have hxl:xs.length=(opn s.ds).length:=by rw[hxs,qbm];omega
   have hmayR:NM { r with day:=s.day }=true:=by
    unfold NM;dsimp only;rw[P.chk,hids,qar (show(opn s.ds).length<=64 by omega),qar I.ok.day.1];rfl
   refine Ao (Ad (Af U (Cv U U (qA (An _ U ?_ ?_)))))
   .intro h2;replace h2:=Cy h2;exact absurd he7 h2
   .intro h2;replace h2:=Cz h2;refine Aq (Aa (Ad (Ax U (AE U (Ah FV U (AB Hx U H at2 U (Al qB (M6 _ (H.get at5) (H.get at6) I.M (KD I.ok.du)) U ?_)))))));rintro v w ⟨ds',hSd,Fd⟩;have hde:=MB hSd (JL h3d).2.1;rw[hde]at Fd;obtain⟨a3,c3,rfl,R3,hn3,-,hx43⟩:=MJ Fd (fun _ _=>rfl);have hl6:=AY (H.get at0);have hlr:=AY (H.get at3);have hs43:=H.size;replace RA:=RA.ext0 hx43;replace H:=H.call hx43;refine A4 U (qA (Ao ?_));have hn3':s.ds≠[]->(adr a3).block∉(LX ba a s.acs.length c full bd b s.nx o).map (fun x:Nat × Obj=>x.1):=fun hne hm=>by have:=hn3 hne;have:=hlx _ hm;omega
    refine Cq [([0,1,2,3,4,5,6,7,8],9),([],10)] (fun z=>z.heap[b6]?=some (Bl 127 (B0 r q))/\z.heap[bl]?=some (Bl 73 [ptr ba,ptr bd,ptr br,.int .i64 s.day])) [9,10] Bq (⟨H.drew.get at0,H.drew.get at2⟩) ?_;refine AH U U (BF U (Bg U (Ap GQ U (B3 ID U (fun _ hx=>(by rw[Aj hx.2];rfl)) ?_))));refine BF U (Bg U (Ap FV U (B3 Hx U (fun _ hx=>(by rw[Aj hx.2];rfl)) ?_)));refine Gh _ E7 C1 U U (fun _ hx=>(Ca (b:=b6) (t:=127) (l:=B0 r q) hx.1 0 (B0 r q) rfl)) (AR ?_);replace H:=H.drew;replace RA:=RA.ext0 (Ext.drew [] _);replace R3:=R3.ext0 (Ext.drew [] _);replace H:Ctx w0 S0 _ ([(b6,Bl 127 (B0 r q)),(b3,Bl 25 (BA k)),(bl,Bl 73 [ptr ba,ptr bd,ptr br,.int .i64 s.day]),(br,Bl 135 arch)]++(LX ba a s.acs.length c full bd b s.nx o++[])):=(by rw[qa3];exact H)
    refine Al qB (YE I.ok.ac I.ok.du H I.O I.M RA (hoff.mono fun x hx => .inl (hlx x hx)) hB) U ?_;rintro v w ⟨rfl,full',o',O',M',hxA,H7⟩;replace RA:=RA.ext hxA (hoff.mono fun x hx => .inl (hlx x hx));replace R3:=R3.ext' hxA hn3';rw[qa3]at H7;replace H:=H7;refine Ab (B5 U (AH U U ?_));refine AR (Ae U (Ab (B5 U (BG ?_))));obtain⟨hap1,-,hap3⟩:=Lh (r:=r) I.ok.ac I.ok.du;rw[<-hap3]at O' H;refine Ad (Af U (Cv U U (qA (An _ U ?_ ?_))))
    .intro h4;replace h4:=Cy h4;exact absurd hC h4
    .intro h4;replace h4:=Cz h4;refine Aq (Aa (Ad (Ah E0 U (BQ _ C7 Cp U U ((Ca (b:=b6) (t:=127) (l:=B0 r q) (H.get at0) 4 [.int .i64 r.N,.slice q.aE r.es.length q.cE] U)) ?_))));refine Ah Dq U (Ah EU U (AB BN U H at0 U (Ah Eh U (AB FE U H at0 U (Ba Bh U (Al qB (WN r.N q.aE q.aF _ _ _ _ _ r.fl _ RA.F U RA.fc hB.fl) U ?_))))));rintro v w Fp;rw[show SG ((r.ids.length:Nat):Int) r.fl.length=(opn s.ds).length by unfold SG;omega,<-hxs,<-Zc]at Fp;obtain⟨a9,c9,rfl,Rp,hn9,-,hx65⟩:=MJ Fp (fun _ _=>rfl);have hp6:=AY (H.get at0);have hpr:=AY (H.get at3);replace RA:=RA.ext0 hx65;replace R3:=R3.ext0 hx65;replace H:=H.call hx65;refine A4 U (qA (Ad (Ae U (qA (Ao (Ad (A2 U (Ba AV U (Af U ?_)))))))));refine qA (A1 ?_);have H8:=H;obtain⟨w1,rfl⟩:=qD w;clear H;have H:=Ctx.start w1 []
     refine Bt 150820579546649294022656 (α:=Nat) (fun i=>[(11,.int .i64 (IL xs i)),(68,.int .i64 (i:Int))]) (fun i w'=>i<=xs.length/\Ctx w1 [] w' []) (fun i=>xs.length - i) 0 U ?_ ?_ ?_
     .exact⟨rfl,rfl,trivial⟩
     .exact⟨qaj _,H⟩
     .clear H;rintro i j w ⟨hi,H⟩;refine Ad (Bm U U (qA (Ao (An _ U ?_ ?_))))
      .intro h5;replace h5:=AM h5;obtain⟨x,hx⟩:=AA (l:=xs) (i:=i);have hsb:=U9 xs i;have hst:=YR xs hx;refine Aq (Aa (Ao (A1 (Ad (Be (Rp.ext0 H.ext) AV B2 U U (by rfl) ?_)))));refine Bc Bw U (((Rp.ext0 H.ext).one (f:=Dj) hx)) ?_;refine Ae U (qA (Ad (Af U (CD U U (qA (An _ U ?_ ?_))))))
       .intro h6;replace h6:=AM h6;refine A0 (Af U (Az U U ?_));refine Ae U (Ab (A8 (Aa (A0 (Az U U ?_)))));refine Af U (qA ?_);exact⟨i+1,rfl,⟨qaa (Value.int .i64) (by rw[hst,if_pos h6]),rfl,trivial⟩,⟨by omega,H⟩,by omega⟩
       .intro h6;replace h6:=AN h6;refine Aq (A8 (Aa (A0 (Az U U ?_))));refine Af U (qA ?_);exact⟨i+1,rfl,⟨qaa (Value.int .i64) (by rw[hst,if_neg h6,qc2]),rfl,trivial⟩,⟨by omega,H⟩,by omega⟩
      .intro h5;replace h5:=AN h5;obtain rfl:i=xs.length:=by omega
       replace RA:=RA.ext0 H.ext;replace R3:=R3.ext0 H.ext;replace Rp:=Rp.ext0 H.ext;replace H8:=H8.call H.ext;clear H;obtain⟨w2,rfl⟩:=qD w;have H:=Ctx.start1 (H8.get at0);refine Bp (Am (Am (AO (Aa (Ad (Ax U (AE U (Ah Mu U (Bc Bw U ((H.old (Aj (H8.get at2) _) (by rw[qab];exact H8.ne (i:=2) (j:=0) rfl rfl (by decide)))) ?_)))))))));refine Ah Jh U (Ct (.int _ _) B2 U U U H at0 (by(simp;done)) ?_);rintro w H;refine qA ?_;replace RA:=RA.ext H.ext (hoff.mono fun x hx=>by rw[qab.1 hx];exact .inr rfl);replace R3:=R3.ext' H.ext (fun hne hm=>by have:=hn3 hne;rw[qab.1 hm]at this;omega);replace Rp:=Rp.ext' H.ext (fun hne hm=>by have:=hn9 hne;rw[qab.1 hm]at this;omega);replace H:Ctx w2 [b6] w [(b6,Bl 127 (B0 { r with day:=s.day } q))]:=H;replace H:=Ctx.mid (B:=[]) (L:=[_]) H8 H;clear H8
       refine Cq [([0,1,2,3,4],5),([6,7,8,9],10)] (fun z=>z.heap[b6]?=some (Bl 127 (B0 { r with day:=s.day } q))/\z.heap[bl]?=some (Bl 73 [ptr ba,ptr bd,ptr br,.int .i64 s.day])) [5,10] Bq (⟨H.drew.get at0,H.drew.get at2⟩) ?_;refine AH U U (BF U (Bg U (Ap KT U (B3 Q9 U (fun _ hx=>(by rw[Aj hx.2];rfl)) ?_))));refine Gh _ E7 C1 U U (fun _ hx=>(Ca (b:=b6) (t:=127) (l:=B0 { r with day:=s.day } q) hx.1 0 (B0 { r with day:=s.day } q) rfl)) (AR ?_);replace H:=H.drew;replace RA:=RA.ext0 (Ext.drew [] _);replace R3:=R3.ext0 (Ext.drew [] _);replace Rp:=Rp.ext0 (Ext.drew [] _);have hsA:=H.size;refine Al qB (Agk (n:=s.rn.length) (no:=s.no) (arch:=arch) { r with day:=s.day } q _ (RA.no r.no s.day) (hB.no r.no s.day) (H.get at3) I.len I.n I.no I.ok.kept.1 ⟨hno.1,hno1⟩ hmayR) U ?_;rintro v w ⟨rfl,q2,H7,RA2,hoff2⟩
       replace R3:=R3.ext' H7.ext (fun hne hm=>by have:=hn3 hne;rw[qab.1 hm]at this;omega);replace Rp:=Rp.ext' H7.ext (fun hne hm=>by have:=hn9 hne;rw[qab.1 hm]at this;omega);replace H:=Ctx.mid (B:=[_,_,_]) (L:=[_]) H H7;refine Ab (B5 U (AH U U ?_));refine DK U (Bv U U (Bv U U (KS U U (AR (Ae U (Ab (B5 U (BG ?_))))))));have H8:=H;obtain⟨wB,rfl⟩:=qD w;clear H;have H:=Ctx.start wB [];refine Ad (Af U (GZ U U Fk XJ ?_));refine A2 U (A2 U (Al qB (Adw a3 a9 _ _ _ _ s.ds xs _ R3 U Rp U (hxs ▸ F0.pay) (fun d hd=>hmy d (qbd.1 hd).1) (qbg (WS fun d hd=>by have:=DA (hmy d hd);omega) htot)) U ?_));rintro v w ⟨rfl,hx95⟩;replace H:=H.call hx95
       refine Af U (D0 ([s.no+1,Fy (opn s.ds) xs (opn s.ds).length,IL xs xs.length].map Dj) AV B2 E5 H ?_);rintro b97 w - H;refine Af U (A4 U (Ae U (qA (A7 (BR (v1:=(.slice _ _ _)) (v2:=(.int _ _)) U U U U ?_)))));have H17:=H;have hw:IntKind.i64.wrap (s.no+1)=s.no+1:=Dg (show(-9223372036854775808:Int)<=s.no+1 by omega) (show s.no+1<=(9223372036854775807:Int)by omega);subst hS0;exact Agm (P:=[_,_]) (m':=⟨bl,ba,bd,br,b,a,c,full',o',Jw arch s.rn.length { r with no:=s.no+1,day:=s.day } q2⟩) (s':=Qo s r) (l:=[s.no+1,Fy (opn s.ds) xs (opn s.ds).length,IL xs xs.length]) (code:=0) H8 (GM (n:=3) H17 U) (hstep _ _ (.inr ⟨hno1,r,P,rfl,by rw[hw,hxl,hxs,VL _ (qan _)];rfl⟩)) (I.rnd (H8.ext.then H17.ext (by simp)) I.own hokR O' M' (RA2.ext0 H17.ext) hoff2 hsA) U
def Adx(w:World)(m:Lm)(s:Ld)(T:Nat->Prop)(k:Ak)(v:Value)(w':World):Prop :=
 ∃a n c full p s' m' T',v=.agg #[.int .i64 p.e,.slice a n c]/\OS a n c 1 full (p.n.map Dj)/\Cr s k s' p/\Ctx w (CT m s) w' (LL m' s'++ent a 2 full)/\LdIn w' m' s' T'/\Grows T T' w/\m'.bl=m.bl/\∀x∈ent a 2 full,w.heap.size<=x.1
abbrev fnV(f:FuncId):Value := .func (.func f) #[] #[]
abbrev doT:List Value:=[.nilFunc,fnV 29,fnV 30,fnV 31,fnV 32,fnV 33,fnV 34,fnV 35,fnV 36,fnV 37,fnV 38,fnV 38,fnV 39,fnV 40,fnV 41,fnV 42]
def DoFn(k:Ak)(f:FuncId):Prop:=doT[k.kd.toNat]?=some (fnV f)/\Au prog f=true/\∀{m:Lm} {s:Ld} {T:Nat->Prop} (w:World) (_:LdIn w m s T) (_:Ctx w (CT m s) w (LL m s)),Ret prog f #[ptr m.bl,.agg (BA k).toArray] w (G1 w m s T k)
theorem Alp{k:Ak}(hin:AkIn k)(h0:k.kd≠0)(h16:k.kd<16):∃f,DoFn k f:=by
 have hkd:=hin.kd;have hc:k.kd=1\/k.kd=2\/k.kd=3\/k.kd=4\/k.kd=5\/k.kd=6\/k.kd=7\/k.kd=8\/k.kd=9\/k.kd=10\/k.kd=11\/k.kd=12\/k.kd=13\/k.kd=14\/k.kd=15:=by omega
 rcases hc with h|h|h|h|h|h|h|h|h|h|h|h|h|h|h
 .exact⟨_,by rw[h];rfl,qB,fun w I H=>Adn h hin w I H⟩
 .exact⟨_,by rw[h];rfl,qB,fun w I H=>Adi h hin w I H⟩
 .exact⟨_,by rw[h];rfl,qB,fun w I H=>Adj h hin w I H⟩
 .exact⟨_,by rw[h];rfl,qB,fun w I H=>Agg h hin w I H⟩
 .exact⟨_,by rw[h];rfl,qB,fun w I H=>Agh h hin w I H⟩
 .exact⟨_,by rw[h];rfl,qB,fun w I H=>Adk h hin w I H⟩
 .exact⟨_,by rw[h];rfl,qB,fun w I H=>U5 h hin w I H⟩
 .exact⟨_,by rw[h];rfl,qB,fun w I H=>VS h hin w I H⟩
 .exact⟨_,by rw[h];rfl,qB,fun w I H=>Ado h hin w I H⟩
 .exact⟨_,by rw[h];rfl,qB,fun w I H=>Rx (.inl h) hin w I H⟩
 .exact⟨_,by rw[h];rfl,qB,fun w I H=>Rx (.inr h) hin w I H⟩
 .exact⟨_,by rw[h];rfl,qB,fun w I H=>Adl h hin w I H⟩
 .exact⟨_,by rw[h];rfl,qB,fun w I H=>YO h hin w I H⟩
 .exact⟨_,by rw[h];rfl,qB,fun w I H=>Agi h hin w I H⟩
 .exact⟨_,by rw[h];rfl,qB,fun w I H=>YQ h hin w I H⟩
theorem Ady{s:Ld}{k:Ak}(h:k.kd=0\/16<=k.kd):Cr s k s ⟨1,[]⟩:=by
 have h1:Et s k=s:=by
  unfold Et;iterate 9 rw[if_neg (by omega)]
 have h2:ET s k=⟨1,[]⟩:=by
  unfold ET;iterate 13 rw[if_neg (by omega)]
 unfold Cr;rw[if_neg (by omega)];exact⟨h1.symm,h2.symm⟩
theorem VV{w w':World}{m m':Lm}{s s':Ld}{T T':Nat->Prop}{k:Ak}{P:List (Nat × Obj)}{a:Option Addr}{n c:Nat}{full:List Value}{p:Rp}(_:LdIn w m s T)(H:Ctx w (CT m s) w' (P++(LL m' s'++ent a 2 full)))(O:OS a n c 1 full (p.n.map Dj))(hst:Cr s k s' p)(I7:LdIn w' m' s' T')(g:Grows T T' w)(hbl:m'.bl=m.bl/\∀x∈ent a 2 full,w.heap.size<=x.1) :
  Adx w m s T k (.agg #[.int .i64 p.e,.slice a n c]) w':=⟨a,n,c,full,p,s',m',T',rfl,O,hst,H.right,I7,g,hbl⟩
abbrev dL:List Nat:=[23,24,25,26,27,28,29,22,30,31,6]
theorem Alq:∀i j,i<11->j<11->dL.getD i 0=dL.getD j 0->i=j:=fun i j hi hj h=>by
 have h1:∀a b:Fin 11,dL.getD a.val 0=dL.getD b.val 0->a=b:=by decide
 exact qaa Fin.val (h1 ⟨i,hi⟩ ⟨j,hj⟩ h)
abbrev dA:Nat->List Nat:=ancT 11 [[],[0],[0,1],[0,1,2],[],[],[0,1,2,3,4,5],[0,1,2,3,4,5,6],[0,1,2,3,4,5,6,7],[0,1,2,3,4,5,6,7],[0,1,2,3,4,5,6,7,8]]
def gD(b3 b5 bl:Nat)(k:Ak)(f:FuncId)(R:Value->Value->World->Prop):Nat->(Nat->Value)->World->Prop
 |0,V,_=>V 0=.pointer (some ⟨b3,0+0,none⟩)
 |1,V,_=>V 1=.int .u8 k.kd
 |2,V,_=>V 2=.pointer (some ⟨b5,0+k.kd.toNat*1,none⟩)
 |3,V,_=>V 3=fnV f
 |4,V,_=>V 4=.pointer (some ⟨bl,0,none⟩)
 |5,V,_=>V 5=.agg (BA k).toArray
 |6,V,w=>∃x y,V 6=.tuple #[x,y]/\R x y w
 |7,V,_=>V 7=V 6
 |8,V,_=>∃x y,V 7=.tuple #[x,y]/\V 8=x
 |9,V,_=>∃x y,V 7=.tuple #[x,y]/\V 9=y
 |10,V,_=>V 10=V 8
 |_,_,_=>True
theorem Alr{b3 b5 bl:Nat}{k:Ak}{f:FuncId}{R:Value->Value->World->Prop}:∀(i j:Nat) (v:Value) (V:Nat->Value) (w:World),i<11->j≠i->j∉dA i->gD b3 b5 bl k f R i V w->gD b3 b5 bl k f R i (Ml V j v) w
 |0,j,v,V,w,_,h1,_,h=>(D9 (Ne.symm h1)).trans h
 |1,j,v,V,w,_,h1,_,h=>(D9 (Ne.symm h1)).trans h
 |2,j,v,V,w,_,h1,_,h=>(D9 (Ne.symm h1)).trans h
 |3,j,v,V,w,_,h1,_,h=>(D9 (Ne.symm h1)).trans h
 |4,j,v,V,w,_,h1,_,h=>(D9 (Ne.symm h1)).trans h
 |5,j,v,V,w,_,h1,_,h=>(D9 (Ne.symm h1)).trans h
 |6,j,v,V,w,_,h1,_,h=>by
  obtain⟨x,y,h3,h4⟩:=h;exact⟨x,y,(D9 (Ne.symm h1)).trans h3,h4⟩
 |7,j,v,V,w,_,h1,h2,h=>by
  have h6:j≠6:=fun e=>h2 (by rw[e];decide);exact((D9 (Ne.symm h1)).trans h).trans (D9 (Ne.symm h6)).symm
 |8,j,v,V,w,_,h1,h2,h=>by
  have h7:j≠7:=fun e=>h2 (by rw[e];decide);obtain⟨x,y,h3,h4⟩:=h;exact⟨x,y,(D9 (Ne.symm h7)).trans h3,(D9 (Ne.symm h1)).trans h4⟩
 |9,j,v,V,w,_,h1,h2,h=>by
  have h7:j≠7:=fun e=>h2 (by rw[e];decide);obtain⟨x,y,h3,h4⟩:=h;exact⟨x,y,(D9 (Ne.symm h7)).trans h3,(D9 (Ne.symm h1)).trans h4⟩
 |10,j,v,V,w,_,h1,h2,h=>by
  have h8:j≠8:=fun e=>h2 (by rw[e];decide);exact((D9 (Ne.symm h1)).trans h).trans (D9 (Ne.symm h8)).symm
 |i+11,_,_,_,_,h,_,_,_=>by omega
theorem gD_w{b3 b5 bl:Nat}{k:Ak}{f:FuncId}{R:Value->Value->World->Prop}:∀(i:Nat) (V:Nat->Value) (w w':World),i<11->i≠6->6∉dA i->gD b3 b5 bl k f R i V w->gD b3 b5 bl k f R i V w'
 |0,_,_,_,_,_,_,h=>h
 |1,_,_,_,_,_,_,h=>h
 |2,_,_,_,_,_,_,h=>h
 |3,_,_,_,_,_,_,h=>h
 |4,_,_,_,_,_,_,h=>h
 |5,_,_,_,_,_,_,h=>h
 |6,_,_,_,_,h,_,_=>absurd rfl h
 |7,_,_,_,_,_,_,h=>h
 |8,_,_,_,_,_,_,h=>h
 |9,_,_,_,_,_,_,h=>h
 |10,_,_,_,_,_,_,h=>h
 |i+11,_,_,_,h,_,_,_=>by omega
structure DoZ where
 a:Option Addr
 n:Nat
 c:Nat
 full:List Value
 code:Int
 l:List Int
 s:Ld
 m:Lm
theorem Als{m:Lm}{s:Ld}{T:Nat->Prop}{k:Ak}(hin:AkIn k)(hdo:k.kd≠0->k.kd<16->∃f,DoFn k f)(w:World)(I:LdIn w m s T)(H0:Ctx w (CT m s) w (LL m s)) :
  Ret prog 9 #[ptr m.bl,.agg (BA k).toArray] w (Adx w m s T k):=by
 obtain⟨w0,rfl⟩:=qD w;have hkd:=hin.kd;obtain⟨S0,hS0⟩:=qD (CT m s);have H:Ctx w0 S0 w0 (LL m s):=by rw[hS0];exact H0
 refine Ay (fn:=Tryz.f9) func9 U [.pointer (some ⟨m.bl,0,none⟩),.agg (BA k).toArray] U ?_;refine Ad (Br (BA k) (.agg _) U U H ?_);rintro b3 w - H;refine AU Gk H ?_;rintro b4 w - H;refine qA (Ao (Ad (Ax U (Cu Wv U ?_))));refine qA (An _ U ?_ ?_)
 .intro h1;cases h1
 .intro h1;refine Aq (Aa (Ad (X8 doT U Ag5 Ahm Ahp ?_)));refine AU Ahp H ?_;rintro b5 w - H;refine Bj sz_76 U U U (by exact(by simp[AZ])) H at0 U ?_;rintro w H;refine qA (Ao (Ad (BV (α:=Unit) 2093056 (fun _=>[(20,.bool ((decide (k.kd=0) || decide (16<=k.kd))))]) (fun _ w'=>Ctx w0 S0 w' ((b5,Bl 76 doT)::(b4,Bl 33 [.int .i64 0,.slice none 0 0])::(b3,Bl 25 (BA k))::LL m s)) U ?_ ?_)))
  .refine Ah EA U (AB Km U H at2 U (BP U U (Aw U (AK 15 U ?_ ?_))))
   .intro h1;replace h1:=AM h1;refine Ag U (Ag U (Ag U (Ag U (A6 U (.bool _) U (Ab ?_)))));exact⟨rfl,(),rfl,⟨qaa Value.bool (by rw[qad];simp_all;try omega),trivial⟩,H⟩
   .intro h2;replace h2:=AN h2;refine Ah EA U (AB Km U H at2 U (GZ U U un_5 Ph ?_));refine CG U U (A9 U (.bool _) U (Ab ?_));exact⟨rfl,(),rfl,⟨qaa Value.bool (by rw[qad];simp_all;try omega),trivial⟩,H⟩
  rintro - j20 w H;refine An _ U ?_ ?_
  .intro h2;have h2':k.kd=0\/16<=k.kd:=by simpa using h2
   refine Ad (Bx [.int .i64 1,.slice none 0 0] Aaf Gk ?_);refine Bj Dy U U U (by exact(by simp[AZ])) H at1 U ?_;rintro w H;refine qA (A7 (Av (Mg U U U Hw Dy H at1 U ?_)));have H17:=H;subst hS0;exact VV (P:=[_,_,_]) (m':=m) (s':=s) (T':=T) (p:=⟨1,[]⟩) (full:=[]) I (H17.app_nil) OS.nil (Ady h2') (I.grow H17.ext (fun x hx => .inl (I.own x hx)) (Grows.refl _ _) fun x hx=>qaw (I.low x hx) H17.size) (Grows.refl _ _) ⟨rfl,fun x hx=>by cases hx⟩
  .intro h2;have h2':¬(k.kd=0\/16<=k.kd):=by simpa using h2
   obtain⟨f,hf1,hf2,hf3⟩:=hdo (fun h=>h2' (.inl h)) (by omega)
   have hown:∀x,x∈[b5,b4,b3]->T x\/w0.heap.size<=x:=fun x hx=>by
    simp only[qae,qaq,or_false]at hx
    rcases hx with rfl|rfl|rfl
    .exact(H.own (_,_) (qac at0)).imp_left fun h=>I.own _ (hS0 ▸ h)
    .exact(H.own (_,_) (qac at1)).imp_left fun h=>I.own _ (hS0 ▸ h)
    .exact(H.own (_,_) (qac at2)).imp_left fun h=>I.own _ (hS0 ▸ h)
   have hlt:∀x,x∈[b5,b4,b3]->x<w.heap.size:=fun x hx=>by
    simp only[qae,qaq,or_false]at hx
    rcases hx with rfl|rfl|rfl
    .exact AY (H.get at0)
    .exact AY (H.get at1)
    .exact AY (H.get at2)
   have g1:Grows T (fun x=>T x\/x∈[b5,b4,b3]) w0:=⟨fun x hx => .inl hx,fun x hx=>hx.elim .inl (hown x)⟩;have I1:LdIn w m s (fun x=>T x\/x∈[b5,b4,b3]):=I.grow H.ext (fun x hx => .inl (I.own x (hS0 ▸ hx))) g1 fun x hx=>hx.elim (fun h=>qaw (I.low x h) H.size) (hlt x);refine Aq (Aa (DQ 4290773184 (α:=DoZ) (fun z=>[(6,.slice z.a z.n z.c),(7,.int .i64 z.code)]) (fun z w'=>OS z.a z.n z.c 1 z.full (z.l.map Dj)/\Cr s k z.s (rp z.l z.code)/\Ctx w0 S0 w' ((b5,Bl 76 doT)::(b4,Bl 33 [.int .i64 0,.slice none 0 0])::(b3,Bl 25 (BA k))::(LL z.m z.s++ent z.a 2 z.full))/\LdIn w' z.m z.s (fun x=>(T x\/x∈[b5,b4,b3])\/x∈CT z.m z.s)/\z.m.bl=m.bl/\∀x∈ent z.a 2 z.full,w0.heap.size<=x.1) U ?_ ?_))
   .skip
    have H9:=H.drew;have I2:=I1.grow (Ext.drew [] _) (fun x hx=>by cases hx) (Grows.refl _ _) I1.low;refine Aeu (n:=11) (N:=12) (anc:=dA) 6 (fun i=>dL.getD i 0) (gD b3 b5 m.bl k f (fun x y w'=>∃z:DoZ,x=.slice z.a z.n z.c/\y=.int .i64 z.code/\OS z.a z.n z.c 1 z.full (z.l.map Dj)/\Cr s k z.s (rp z.l z.code)/\Ctx w0 S0 w' ((b5,Bl 76 doT)::(b4,Bl 33 [.int .i64 0,.slice none 0 0])::(b3,Bl 25 (BA k))::(LL z.m z.s++ent z.a 2 z.full))/\LdIn w' z.m z.s (fun x=>(T x\/x∈[b5,b4,b3])\/x∈CT z.m z.s)/\z.m.bl=m.bl/\∀x∈ent z.a 2 z.full,w0.heap.size<=x.1)) (show Tryz.prog.follows .mixedOrders=true by kernel_rfl) U (XF _) Alq Alr gD_w ?_ ?_ ?_
    .intro i o e' w' V hi hic ho hold hg hG hw;have h3:e'.g 3=.pointer (some ⟨b3,0,none⟩):=(hold 3 ((by decide:∀j,j<11->3≠dL.getD j 0))).trans rfl;have h5:e'.g 5=.pointer (some ⟨b5,0,none⟩):=(hold 5 ((by decide:∀j,j<11->5≠dL.getD j 0))).trans rfl;have h0:e'.g 0=.pointer (some ⟨m.bl,0,none⟩):=(hold 0 ((by decide:∀j,j<11->0≠dL.getD j 0))).trans rfl;have hcs:i=0\/i=1\/i=2\/i=3\/i=4\/i=5\/i=7\/i=8\/i=9\/i=10:=by omega
     rcases hcs with rfl|rfl|rfl|rfl|rfl|rfl|rfl|rfl|rfl|rfl
     .cases qam ho;exact Ah (off:=0) (by kernel_rfl) h3 (Ab ⟨_,rfl,rfl,Eb ..⟩)
     .cases qam ho;have hww:=hw (by decide);subst hww;exact Bc Km ((hg 0 (by decide)).trans (hG 0 (by decide))) (v := .int .u8 k.kd) (by rw[Aj (H9.get at2)];rfl) (Ab ⟨_,rfl,rfl,Eb ..⟩)
     .cases qam ho;exact Nz U Ag5 Ahm h5 ((hg 1 (by decide)).trans (hG 1 (by decide))) (Ab ⟨_,rfl,rfl,Eb ..⟩)
     .cases qam ho;have hww:=hw (by decide);subst hww;exact Bc ag_74 ((hg 2 (by decide)).trans (hG 2 (by decide))) (v:=fnV f) (by rw[Aj (H9.get at0),qa4,qc3];exact hf1) (Ab ⟨_,rfl,rfl,Eb ..⟩)
     .cases qam ho;exact CU _ h0 (Ab ⟨_,rfl,rfl,Eb ..⟩)
     .cases qam ho;have hww:=hw (by decide);subst hww;exact BQ (BA k) Ic EJ h3 U (Ca (b:=b3) (t:=25) (l:=BA k) (H9.get at2) 0 (BA k) U) (Ab ⟨_,rfl,rfl,Eb ..⟩)
     .cases qam ho;exact CU (V 6) (hg 6 (by decide)) (Ab ⟨_,rfl,rfl,(Eb ..).trans (D9 (by decide)).symm⟩)
     .cases qam ho;obtain⟨x,y,h6,-⟩:=hG 6 (by decide);have h7:V 7=.tuple #[x,y]:=(hG 7 (by decide)).trans h6;exact AJ (v:=x) ((hg 7 (by decide)).trans h7) U (Ab ⟨_,rfl,rfl,x,y,(D9 (by decide)).trans h7,Eb ..⟩)
     .cases qam ho;obtain⟨x,y,h6,-⟩:=hG 6 (by decide);have h7:V 7=.tuple #[x,y]:=(hG 7 (by decide)).trans h6;exact AJ (v:=y) ((hg 7 (by decide)).trans h7) U (Ab ⟨_,rfl,rfl,x,y,(D9 (by decide)).trans h7,Eb ..⟩)
     .cases qam ho;exact CX U (V 8) (hg 8 (by decide)) (Ab ⟨_,rfl,rfl,(Eb ..).trans (D9 (by decide)).symm⟩)
    .intro o e' V ho hold hg hG;cases qam ho;refine FI ((hg 3 (by decide)).trans (hG 3 (by decide))) hf2 (hf3 _ I2 (Ctx.lend (Ctx.comm (L:=[_,_,_]) (L':=LL m s) H9))) (show[e'.g 27,e'.g 28]=_ by rw[show e'.g 27=_ from(hg 4 (by decide)).trans (hG 4 (by decide)),show e'.g 28=_ from(hg 5 (by decide)).trans (hG 5 (by decide))]) ?_;rintro v w2 ⟨ar,nr,cr,fr,code,lr,s',m',rfl,Or,hst,H7,hnew,I7,hbl⟩;exact Ab ⟨_,rfl,_,_,Eb ..,⟨ar,nr,cr,fr,code,lr,s',m'⟩,rfl,rfl,Or,hst,(Ctx.back (L1:=LL m s) (Ctx.comm (L:=[_,_,_]) (L':=LL m s) H9) H7).comm,I7,hbl,fun x hx=>qa0 H9.size (hnew x hx)⟩
    .intro e' w' V hds hold hg hG;obtain⟨x,y,h6,z,rfl,rfl,hJ⟩:=hG 6 (by decide);obtain⟨x1,y1,h71,h8⟩:=hG 8 (by decide);obtain⟨x2,y2,h72,h9⟩:=hG 9 (by decide);have h7:V 7=V 6:=hG 7 (by decide);have h10:V 10=V 8:=hG 10 (by decide);rw[h7,h6]at h71 h72;cases h71;cases h72;refine CX U (.int .i64 z.code) ((hg 9 (by decide)).trans h9) (Ab ?_);exact⟨z,hds,⟨(J6 (by decide)).trans ((hg 10 (by decide)).trans (h10.trans h8)),Kh ..,trivial⟩,hJ⟩
   .rintro⟨ar,nr,cr,fr,code,lr,s',m'⟩ j8 w ⟨Or,hst,H8,I7,hbl⟩;dsimp only at Or hst H8 I7 hbl;obtain⟨w2,rfl⟩:=qD w;clear H;have H:=Ctx.start1 (H8.get at1);have hS8:=H8.size
    have g2:Grows T (fun x=>(T x\/x∈[b5,b4,b3])\/x∈CT m' s') w0:=⟨fun x hx => .inl (.inl hx),fun x hx=>hx.elim (fun h=>h.elim .inl (hown x)) fun h=>by
     obtain⟨y,hy,rfl⟩:=qag.1 h
     exact(H8.own y (qal [_,_,_] (qao _ hy))).imp_left fun h=>I.own _ (hS0 ▸ h)⟩
    have h4:∀x∈[b4],((T x\/x∈[b5,b4,b3])\/x∈CT m' s')\/w2.heap.size<=x:=fun x hx=>by rw[qab.1 hx];exact .inl (.inl (.inr (by simp)))
    refine Ao (Ad (Af U (Cv U U (qA (An _ U ?_ ?_)))))
    .intro h3;replace h3:=Cy h3;refine Ad (Af U (Bx [.int .i64 code,.slice none 0 0] Aaf Gk ?_));refine Bj Dy U U U (by exact(by simp[AZ])) H at0 U ?_;rintro w H;refine qA (A7 (Av (Mg U U U Hw Dy H at0 U ?_)));have H17:=H;subst hS0;have hp:rp lr code=⟨code,[]⟩:=Uw h3;rw[hp]at hst;exact VV (P:=[_,_,_]) (m':=m') (s':=s') (p:=⟨code,[]⟩) (full:=[]) I (Ctx.app_nil (Ctx.left (L:=(_::_::_::LL m' s')) (Ctx.mid (B:=[_]) (L:=[_]) H8 H17))) OS.nil hst (I7.grow H17.ext h4 (Grows.refl _ _) fun x hx=>qaw (I7.low x hx) H17.size) g2 ⟨hbl.1,fun x hx=>by cases hx⟩
    .intro h3;replace h3:=Cz h3;obtain rfl:code=0:=h3;refine Aq (Aa (Ad (A2 U (Bx [.int .i64 0,.slice ar nr cr] Aaf Gk ?_))));refine Bj Dy U U U (by exact(by simp[AZ])) H at0 U ?_;rintro w H;refine qA (A7 (Mg U U U Hw Dy H at0 U ?_));have H17:=H;subst hS0;exact VV (P:=[_,_,_]) (m':=m') (s':=s') (p:=⟨0,lr⟩) I (Ctx.mid (B:=[_]) (L:=[_]) H8 H17) Or hst (I7.grow H17.ext h4 (Grows.refl _ _) fun x hx=>qaw (I7.low x hx) H17.size) g2 hbl
theorem do_ok{m:Lm}{s:Ld}{T:Nat->Prop}{k:Ak}(hin:AkIn k)(w:World)(I:LdIn w m s T)(H0:Ctx w (CT m s) w (LL m s)) :
  Ret prog 9 #[ptr m.bl,.agg (BA k).toArray] w (Adx w m s T k):=Als hin (Alp hin) w I H0
theorem Adz{s:Ld}{z y:StZ}(w:World)(Z:StAt w s z)(Y:StAt w s y)(hB:∀r∈s.rn,RBnd r)(hl1:s.acs.length<=1000000:=by omega)(hl2:s.ds.length<=1000000:=by omega)(hl3:s.rn.length<=1000000:=by omega):
  Ret prog 11 #[.agg (stC s z).toArray,.agg (stC s y).toArray] w fun v w'=>v=.bool true/\Ext [] w w':=by
 obtain⟨w0,rfl,H⟩:=qE w;refine Ay (fn:=f11) func11 U [.agg (stC s z).toArray,.agg (stC s y).toArray] U (Ad (Br (stC s z) (.agg _) U U H ?_));rintro b2 w - H;refine Br (stC s y) (.agg _) U U H ?_;rintro b3 w - H;refine Ai U (qA (Ad (BV (α:=Unit) 35184372088816 (fun _=>[(4,.bool (true))]) (fun _ w'=>Ctx w0 [] w' [(b3,Bl 42 (stC s y)),(b2,Bl 42 (stC s z))]) U ?_ ?_)))
 .refine Ah Mr U (AB Bw U H at1 U (Ah Mr U (AB Bw U H at0 U (BP U U (Aw U (AK 10 U ?_ ?_))))))
  .intro h1;replace h1:=AM h1;refine Ah Si U (AB Bz U H at1 U (Ah Si U (AB Bz U H at0 U (BP U U (A6 U (.bool _) U (Aw U (AK 17 U ?_ ?_)))))))
   .intro h2;replace h2:=AM h2;refine Ah Sj U (AB Bz U H at1 U (Ah Sj U (AB Bz U H at0 U (BP U U (A6 U (.bool _) U (Aw U (AK 24 U ?_ ?_)))))))
    .intro h3;replace h3:=AM h3;refine Ah IE U (AB Gi U H at1 U (Ah IE U (AB Gi U H at0 U (Al qB (Yo z.aA y.aA _ z.cA _ y.cA s.acs s.acs _ (Z.A.ext0 H.ext) U hl1 (Y.A.ext0 H.ext) U hl1) U ?_))));rintro v w ⟨rfl,hx29⟩;replace H:=H.call hx29;rw[qar rfl];refine A6 U (.bool _) U (Aw U (AK 31 U ?_ ?_))
     .intro h4;refine Ah Ms U (AB Q8 U H at1 U (Ah Ms U (AB Q8 U H at0 U (Al qB (Yp z.aD y.aD _ z.cD _ y.cD s.ds s.ds _ (Z.D.ext0 H.ext) U hl2 (Y.D.ext0 H.ext) U hl2) U ?_))));rintro v w ⟨rfl,hx36⟩;replace H:=H.call hx36;rw[qar rfl];refine A6 U (.bool _) U (Aw U (AK 38 U ?_ ?_))
      .intro h5;refine Ah NV U (AB Wl U H at1 U (Ah NV U (AB Wl U H at0 U (Al qB (YM z.aR y.aR _ z.cR _ y.cR s.rn z.qs y.qs _ (Z.R.ext0 H.ext) U hl3 (Y.R.ext0 H.ext) U Z.n Y.n (fun x hx=>(Z.K x hx).ext0 H.ext) (fun x hx=>(Y.K x hx).ext0 H.ext) hB) U ?_))));rintro v w ⟨rfl,hx43⟩;replace H:=H.call hx43;refine A6 U (.bool _) U (Ai U (Ab ?_));exact⟨rfl,(),rfl,⟨qaa Value.bool (by rfl),trivial⟩,H⟩
      .intro h6;refine Ag U (Ag U (Ag U (Ag U (Ag U (A9 U (.bool _) U (Ai U (Ab ?_)))))));exact⟨rfl,(),rfl,⟨qaa Value.bool (by(simp_all;done)),trivial⟩,H⟩
     .intro h7;refine Ag U (Ag U (Ag U (Ag U (Ag U (A9 U (.bool _) U (Aw U (Ag U (Ag U (Ag U ?_)))))))));refine Ag U (Ag U (A9 U (.bool _) U (Ai U (Ab ?_))));exact⟨rfl,(),rfl,⟨qaa Value.bool (by(simp_all;done)),trivial⟩,H⟩
    .intro h8;replace h8:=AN h8;refine Ag U (Ag U (Ag U (Ag U (Ag U (A9 U (.bool _) U (Aw U (Ag U (Ag U (Ag U ?_)))))))));refine Ag U (Ag U (A9 U (.bool _) U (Aw U (Ag U (Ag U (Ag U (Ag U (Ag U (A9 U (.bool _) U ?_)))))))));refine Ai U (Ab ?_);exact⟨rfl,(),rfl,⟨qaa Value.bool (by(simp_all;done)),trivial⟩,H⟩
   .intro h9;replace h9:=AN h9;refine Ag U (Ag U (Ag U (Ag U (Ag U (A9 U (.bool _) U (Aw U (Ag U (Ag U (Ag U ?_)))))))));refine Ag U (Ag U (A9 U (.bool _) U (Aw U (Ag U (Ag U (Ag U (Ag U (Ag U (A9 U (.bool _) U ?_)))))))));refine Aw U (Ag U (Ag U (Ag U (Ag U (Ag U (A9 U (.bool _) U (Ai U (Ab ?_))))))));exact⟨rfl,(),rfl,⟨qaa Value.bool (by(simp_all;done)),trivial⟩,H⟩
  .intro h10;replace h10:=AN h10;refine Ag U (Ag U (Ag U (Ag U (Ag U (A9 U (.bool _) U (Aw U (Ag U (Ag U (Ag U ?_)))))))));refine Ag U (Ag U (A9 U (.bool _) U (Aw U (Ag U (Ag U (Ag U (Ag U (Ag U (A9 U (.bool _) U ?_)))))))));refine Aw U (Ag U (Ag U (Ag U (Ag U (Ag U (A9 U (.bool _) U (Aw U (Ag U (Ag U ?_)))))))));refine Ag U (Ag U (Ag U (A9 U (.bool _) U (Ai U (Ab ?_)))));exact⟨rfl,(),rfl,⟨qaa Value.bool (by(simp_all;done)),trivial⟩,H⟩
 rintro - j4 w H;refine A7 (AD (v:=(.bool _)) U U U ?_);exact⟨rfl,H.ext⟩
theorem Ad0(e:Int)(a b:Option Addr)(n m c d:Nat)(l:List Int)(w:World)(R:Rd w a 1 I1 l)(hn:l.length=n)(Ry:Rd w b 1 I1 l)(hm:l.length=m)(hn2:n<=1000000:=by omega):
  Ret prog 10 #[.agg #[.int .i64 e,.slice a n c],.agg #[.int .i64 e,.slice b m d]] w fun v w'=>v=.bool true/\Ext [] w w':=by
 subst hn hm;obtain⟨w0,rfl,H⟩:=qE w;refine Ay (fn:=f10) func10 U [.agg #[.int .i64 e,.slice a l.length c],.agg #[.int .i64 e,.slice b l.length d]] U (Ad (Br [.int .i64 e,.slice a l.length c] (.agg _) U U H ?_));rintro b2 w - H;refine Br [.int .i64 e,.slice b l.length d] (.agg _) U U H ?_;rintro b3 w - H;refine Ai U (qA (Ao (Ad (BV (α:=Unit) 1048512 (fun _=>[(19,.bool (false))]) (fun _ w'=>Ctx w0 [] w' [(b3,Bl 33 [.int .i64 e,.slice b l.length d]),(b2,Bl 33 [.int .i64 e,.slice a l.length c])]) U ?_ ?_))))
 .refine Ah EB U (AB Hd U H at1 U (Ah EB U (AB Hd U H at0 U (Cv U U (Aw U (AK 11 U ?_ ?_))))))
  .intro h1;replace h1:=Cy h1;refine Ag U (Ag U (Ag U (Ag U (Ag U (Ag U (Ag U (A6 U (.bool _) U (Ab ?_))))))));exact⟨rfl,(),rfl,⟨qaa Value.bool (by(simp_all;done)),trivial⟩,H⟩
  .intro h2;replace h2:=Cz h2;refine Ah FU U (AB BN U H at1 U (Ba AV U (Ah FU U (AB BN U H at0 U (Ba AV U (Cv U U (A9 U (.bool _) U (Ab ?_))))))));exact⟨rfl,(),rfl,⟨qaa Value.bool (by(simp_all;done)),trivial⟩,H⟩
 rintro - j19 w H;refine F2 U (Aq (Aa (Ao (Ad (Ae U (qA (A1 (Bt 274876858416 (α:=Nat) (fun i=>[(5,.int .i64 (i:Int))]) (fun i w'=>i<=l.length/\Ctx w0 [] w' [(b3,Bl 33 [.int .i64 e,.slice b l.length d]),(b2,Bl 33 [.int .i64 e,.slice a l.length c])]) (fun i=>l.length - i) 0 U ?_ ?_ ?_))))))))
 .exact⟨rfl,trivial⟩
 .exact⟨qaj _,H⟩
 .clear H;rintro i j w ⟨hi,H⟩;refine Ao (Ad (Af U (Ah FU U (AB BN U H at1 U (Ba AV U (Bm U U (qA (An _ U ?_ ?_))))))))
  .intro h2;replace h2:=AM h2;obtain⟨x,hx⟩:=AA (l:=l) (i:=i);refine Aq (Aa (Ao (A1 (Dw (fun x=>x=_) Bq U ?_))));refine A5 FU U (Cc BN U (by rintro _ rfl;exact H.drew) at1 U ?_);refine AX U (BH R AV B2 U U (by rfl) ?_);refine BX Bw U (by rintro _ rfl;exact(((R.ext0 H.drew.ext).one (f:=Dj) hx))) ?_;refine A5 FU U (Cc BN U (by rintro _ rfl;exact H.drew) at0 U ?_);refine AX U (BH Ry AV B2 U U (by rfl) ?_);refine BX Bw U (by rintro _ rfl;exact(((Ry.ext0 H.drew.ext).one (f:=Dj) hx))) ?_;refine Md U U (BT ?_);rintro _ rfl;replace H:=H.drew;refine An _ U ?_ ?_
   .intro h3;replace h3:=Cy h3;omega
   .intro h3;replace h3:=Cz h3;refine Aq (A8 (Aa (A0 (Af U (Az U U ?_)))));refine Ae U (qA ?_);exact⟨i+1,rfl,⟨rfl,trivial⟩,⟨by omega,H⟩,by omega⟩
  .intro h2;replace h2:=AN h2;refine Bp (Am (Am (AO (Aa (Ad (Ai U (qA (A7 (AD (v:=(.bool _)) U U U ?_)))))))));exact⟨rfl,H.ext⟩
theorem Li(a b:Option Addr)(n m c d:Nat)(l:List Int)(w:World)(R:Rd w a 1 I1 l)(hn:l.length=n)(hn2:n<=1000000)(Ry:Rd w b 1 I1 l)(hm:l.length=m) :
  Ret prog 25 #[.agg #[.int .i64 0,.slice a n c],.slice b m d] w fun v w'=>v=.bool true/\Ext [] w w':=by
 subst hn hm;obtain⟨w0,rfl,H⟩:=qE w;refine Ay (fn:=f25) func25 U [.agg #[.int .i64 0,.slice a l.length c],.slice b l.length d] U (Ad (Br [.int .i64 0,.slice a l.length c] (.agg _) U U H ?_));rintro b2 w - H;refine Ai U (qA (Ao (Ad (BV (α:=Unit) 131008 (fun _=>[(16,.bool (false))]) (fun _ w'=>Ctx w0 [] w' [(b2,Bl 33 [.int .i64 0,.slice a l.length c])]) U ?_ ?_))))
 .refine Ah EB U (AB Hd U H at0 U (Cv U U (Aw U (AK 9 U ?_ ?_))))
  .intro h1;replace h1:=Cy h1;refine Ag U (Ag U (Ag U (Ag U (Ag U (Ag U (A6 U (.bool _) U (Ab ?_)))))));exact⟨rfl,(),rfl,⟨qaa Value.bool (by(simp_all;done)),trivial⟩,H⟩
  .intro h2;replace h2:=Cz h2;refine Ah FU U (AB BN U H at0 U (Ba AV U (A2 U (Ba AV U (Cv U U (A9 U (.bool _) U (Ab ?_)))))));exact⟨rfl,(),rfl,⟨qaa Value.bool (by(simp_all;done)),trivial⟩,H⟩
 rintro - j16 w H;refine F2 U (Aq (Aa (Ao (Ad (Ae U (qA (A1 (Bt 8589803568 (α:=Nat) (fun i=>[(5,.int .i64 (i:Int))]) (fun i w'=>i<=l.length/\Ctx w0 [] w' [(b2,Bl 33 [.int .i64 0,.slice a l.length c])]) (fun i=>l.length - i) 0 U ?_ ?_ ?_))))))))
 .exact⟨rfl,trivial⟩
 .exact⟨qaj _,H⟩
 .clear H;rintro i j w ⟨hi,H⟩;refine Ao (Ad (Af U (A2 U (Ba AV U (Bm U U (qA (An _ U ?_ ?_)))))))
  .intro h2;replace h2:=AM h2;obtain⟨x,hx⟩:=AA (l:=l) (i:=i);refine Aq (Aa (Ao (A1 (Dw (fun x=>x=_) Bq U ?_))));refine A5 FU U (Cc BN U (by rintro _ rfl;exact H.drew) at0 U ?_);refine AX U (BH R AV B2 U U (by rfl) ?_);refine BX Bw U (by rintro _ rfl;exact(((R.ext0 H.drew.ext).one (f:=Dj) hx))) ?_;refine Cm U (AX U (BH Ry AV B2 U U (by rfl) ?_));refine BX Bw U (by rintro _ rfl;exact(((Ry.ext0 H.drew.ext).one (f:=Dj) hx))) ?_;refine Md U U (BT ?_);rintro _ rfl;replace H:=H.drew;refine An _ U ?_ ?_
   .intro h3;replace h3:=Cy h3;omega
   .intro h3;replace h3:=Cz h3;refine Aq (A8 (Aa (A0 (Af U (Az U U ?_)))));refine Ae U (qA ?_);exact⟨i+1,rfl,⟨rfl,trivial⟩,⟨by omega,H⟩,by omega⟩
  .intro h2;replace h2:=AN h2;refine Bp (Am (Am (AO (Aa (Ad (Ai U (qA (A7 (AD (v:=(.bool _)) U U U ?_)))))))));exact⟨rfl,H.ext⟩
theorem Dl{s s':Ld}{k:Ak}{p:Rp}(h:Cr s k s' p)(hk:¬(k.kd=10\/k.kd=11):=by decide):s'=Et s k/\p=ET s k:=by
 unfold Cr at h;rw[if_neg hk]at h;exact h
theorem Ctx.did{w0 w w':World}{S:List Nat}{B E:List (Nat × Obj)}{m m':Lm}{s s':Ld}(H:Ctx w0 S w (B++LL m s))(H7:Ctx w (CT m s) w' (LL m' s'++E)):Ctx w0 S w' ((E++B)++LL m' s'):=by
 have h1:=Ctx.back (L1:=LL m s) (L2:=B) H.comm H7;rw[qaz]at h1;exact h1.comm
structure Led(bl:Nat)(w0 w:World)(B:List (Nat × Obj))(m:Lm)(s:Ld)(T:Nat->Prop):Prop where
 H:Ctx w0 [] w (B++LL m s)
 I:LdIn w m s T
 e:m.bl=bl
theorem Led.next{bl:Nat}{w0 w w':World}{B E:List (Nat × Obj)}{m:Lm}{s:Ld}{T:Nat->Prop}(L:Led bl w0 w B m s T)(H:Ctx w [] w' E):Led bl w0 w' (E++B) m s T :=
 ⟨by rw[qaz];exact Ctx.back (L1:=[]) (L2:=B++LL m s) L.H H,L.I.grow H.ext (by simp) (Grows.refl _ _) fun x hx=>qaw (L.I.low x hx) H.size,L.e⟩
theorem Xn{bl:Nat}{w0 w:World}{B:List (Nat × Obj)}{m:Lm}{s:Ld}{T:Nat->Prop}{k:Ak}(L:Led bl w0 w B m s T)(hin:AkIn k) :
  Ret prog 9 #[ptr bl,.agg (BA k).toArray] w fun v w'=>∃a n c full p s' m' T',v=.agg #[.int .i64 p.e,.slice a n c]/\OS a n c 1 full (p.n.map Dj)/\Cr s k s' p/\Led bl w0 w' (ent a 2 full++B) m' s' T'/\Grows T T' w/\Ext (CT m s) w w'/\∀x∈ent a 2 full,w.heap.size<=x.1:=by
 obtain⟨H,I,e⟩:=L;subst e;refine Ret.mono (do_ok hin w I (Ctx.lend (L1:=LL m s) H.comm)) fun v w' h=>?_;obtain⟨a,n,c,full,p,s',m',T',rfl,O,hst,H7,I7,g,hb,hn⟩:=h;exact⟨a,n,c,full,p,s',m',T',rfl,O,hst,⟨Ctx.did H H7,I7,hb⟩,g,H7.ext,hn⟩
theorem F1{bl:Nat}{w0 w:World}{B:List (Nat × Obj)}{m:Lm}{s:Ld}{T:Nat->Prop}{k:Ak}(L:Led bl w0 w B m s T)(hin:AkIn k) :
  Ret prog 9 #[ptr bl,.agg (BA k).toArray] w fun v w'=>∃a n c full p s' m' T',v=.agg #[.int .i64 p.e,.slice a n c]/\OS a n c 1 full (p.n.map Dj)/\Cr s k s' p/\Led bl w0 w' (ent a 2 full++B) m' s' T'/\Grows T T' w/\Ext (CT m s) w w':=by
 refine Ret.mono (Xn L hin) fun v w' h=>?_;obtain⟨a,n,c,full,p,s',m',T',h1,h2,h3,h4,h5,h6,-⟩:=h;exact⟨a,n,c,full,p,s',m',T',h1,h2,h3,h4,h5,h6⟩
abbrev ak(kd a b x w u id:Int):Ak:=⟨kd,a,b,x,w,u,id⟩
theorem Hz{kd a b x w u id:Int}(h:(0<=kd/\kd<=255)/\(-9223372036854775808<=a/\a<=9223372036854775807)/\(-9223372036854775808<=b/\b<=9223372036854775807)/\(-9223372036854775808<=x/\x<=9223372036854775807)/\(-9223372036854775808<=w/\w<=9223372036854775807)/\(-9223372036854775808<=u/\u<=9223372036854775807)/\(0<=id/\id<=18446744073709551615):=by decide):AkIn ⟨kd,a,b,x,w,u,id⟩:=⟨h.1,h.2.1,h.2.2.1,h.2.2.2.1,h.2.2.2.2.1,h.2.2.2.2.2.1,h.2.2.2.2.2.2⟩
abbrev yA0:List Ac:=[⟨5,0⟩,⟨0,0⟩]
abbrev yA1:List Ac:=[⟨0,0⟩,⟨5,0⟩]
abbrev yD0:List Du:=[⟨1,0,1,9,2,3,false⟩]
abbrev yD1:List Du:=[⟨1,0,1,4,2,3,false⟩]
abbrev yE0:List Ed:=[⟨0,1,9,-2⟩,⟨2,0,5,0⟩,⟨0,2,4503599627370496,0⟩,⟨2,1,0,0⟩,⟨1,2,4503599627370496,0⟩]
theorem ye0:BL (yA0.map Dz) (opn yD0) false=yE0:=by decide
theorem ya0:El yA0=0:=by decide
theorem yd0:ofC yD0 2=0:=by decide
theorem yb0:D5 (yA0.map Dz) yD0=true:=by decide
theorem Alt{r:Rnd}(P:PlanR yA0 yD0 false r):Gb yA0 yD0 r=yA1/\GJ yA0 yD0 r=yD1/\Fy (opn yD0) r.fl (opn yD0).length=10/\IL (r.fl.take (opn yD0).length) (opn yD0).length=1:=by
 have hC:=Rb yb0 P;have F:=GK ya0 yd0 hC;obtain⟨p1,p2,p3,p4⟩:=Y3 P;have hes:=P.es.trans ye0;have hN:r.N=3:=P.N;have hcmp:=P.cmp;have hlen:r.fl.length=5:=by rw[F.len,hes];rfl
 have hg:=JF p1;rw[hN,hes]at p3 p4 hg;obtain⟨x,hx⟩:=qD (flE r.fl);rw[<-hx]at p3 p4;have o0:=p3 0 (by decide);have o1:=p3 1 (by decide);have i0:=p4.in' 0 (by decide);have i1:=p4.in' 1 (by decide);have i2:=p4.in' 2 (by decide);have i3:=p4.in' 3 (by decide)
 have hbest:=Fine.best hg p4 p3 (y:=fun i=>[5,5,0,0,5].getD i 0) (fun i hi=>by
  have hi':i<5:=hi
  match i,hi' with
  |0,_=>decide
  |1,_=>decide
  |2,_=>decide
  |3,_=>decide
  |4,_=>decide) (fun v hv=>by
  have hv':v<3:=hv
  match v,hv' with
  |0,_=>decide
  |1,_=>decide
  |2,_=>decide)
 have hc1:Hi (grE 3 yE0) (fun i=>[5,5,0,0,5].getD i 0) = -10:=by decide
 have hc2:Hi (grE 3 yE0) x = -(2*x 0):=by
  show 0+x 0 * -2+x 1*0+x 2*0+x 3*0+x 4*0=_;omega
 have e0:BD (grE 3 yE0) x 0 = -(x 0)+x 1 - x 2:=by
  show 0+(0 - 1)*x 0+(1 - 0)*x 1+(0 - 1)*x 2+(0 - 0)*x 3+(0 - 0)*x 4=_;omega
 have c1:Ck yE0 1=5:=rfl
 have h5:x 0=5:=by
  rw[hc1,hc2]at hbest;rw[e0]at o0;rw[c1]at i1;omega
 have hby:∀k,byK (yA0.map Dz) (opn yD0) r.cmp r.fl k=(one (1=k) - one (0=k))*5:=fun k=>by
  have:byK (yA0.map Dz) (opn yD0) r.cmp r.fl k=0+(one (1=k) - one (0=k))*x 0:=by rw[hcmp,hx];rfl
  rw[this,h5,Int.zero_add]
 refine⟨?_,?_,?_,?_⟩
 .have hl:=(Lh (r:=r) ya0 yd0).2.2;refine qb0 fun i=>?_
  match i with
  |0=>rw[Ra ya0 yd0 hC (k:=0) rfl,hby];rfl
  |1=>rw[Ra ya0 yd0 hC (k:=1) rfl,hby];rfl
  |i+2=>rw[qa9 (by rw[hl];simp),qa9 (by simp)]
 .unfold GJ;rw[if_pos hC];show Eo yD0 (r.fl.take 1)=_;rw[Rr,<-hx,h5];rfl
 .show 0+2*flE r.fl 0=_;rw[<-hx,h5];rfl
 .show IL (r.fl.take 1) 1=_;rw[Rr,<-hx,h5];rfl
theorem Agn{s':Ld}{p:Rp}(h:Cr ⟨0,yA0,yD0,2,[],0⟩ (ak 10 0 0 0 0 0 0) s' p):(∃K,s'=⟨0,yA1,yD1,2,K,1⟩)/\p=⟨0,[1,10,1]⟩:=by
 unfold Cr at h;rw[if_pos (.inl rfl)]at h
 rcases h with⟨h1,-⟩|⟨-,r,P,rfl,rfl⟩
 .exact absurd h1 (by decide)
 .obtain⟨e1,e2,e3,e4⟩:=Alt P;refine⟨⟨Ju [] { r with no:=0+1,day:=0 },?_⟩,?_⟩
  .unfold Qo;dsimp only;rw[e1,e2];rfl
  .dsimp only;rw[e3,e4];rfl
theorem LQ(w:World):Ret prog 7 #[] w fun v w'=>v=.bool true/\Ext [] w w':=by
 obtain⟨w0,rfl⟩:=qD w;refine Ay (fn:=Tryz.f7) func7 U [] U (Ad (Ai U (qA (Ad (Al qB (MK _) U ?_)))));rintro v w ⟨m0,rfl,H0,I0⟩;obtain⟨bl,hb0⟩:∃b,m0.bl=b:=⟨_,rfl⟩;have L:Led bl w0 w [] m0 s00 (fun x=>x∈CT m0 s00):=⟨H0,I0,hb0⟩;rw[hb0];clear H0 I0 hb0;obtain⟨w1,rfl,H⟩:=qE w;refine B1 U (qA (Ad (Ax U (Bx (BA (ak 1 0 0 0 0 0 0)) G5 FA ?_))))
 replace L:=L.next H
 refine Al qB (F1 (k:=ak 1 0 0 0 0 0 0) L (Hz)) U ?_;clear L H;rintro v w ⟨a1,n1,c1,f1,p1,s1,m1,T1,rfl,O1,hst1,L,-,-⟩;obtain⟨rfl,rfl⟩:s1=⟨0,[⟨0,0⟩],[],1,[],0⟩/\p1=⟨0,[0]⟩:=Dl hst1;clear hst1;obtain⟨w2,rfl,H⟩:=qE w;refine qA (Ad (Ax U (Bx (BA (ak 1 0 0 0 0 0 0)) G5 FA ?_)))
 replace L:=L.next H
 refine Al qB (F1 (k:=ak 1 0 0 0 0 0 0) L (Hz)) U ?_;clear L H;rintro v w ⟨a2,n2,c2,f2,p2,s2,m2,T2,rfl,O2,hst2,L,-,-⟩;obtain⟨rfl,rfl⟩:s2=⟨0,[⟨0,0⟩,⟨0,0⟩],[],1,[],0⟩/\p2=⟨0,[1]⟩:=Dl hst2;clear hst2;obtain⟨w3,rfl,H⟩:=qE w;refine qA (Ad (Ax U (Bx (BA (ak 2 0 0 5 0 0 0)) G5 FA ?_)))
 replace L:=L.next H
 refine Al qB (F1 (k:=ak 2 0 0 5 0 0 0) L (Hz)) U ?_;clear L H;rintro v w ⟨a3,n3,c3,f3,p3,s3,m3,T3,rfl,O3,hst3,L,-,-⟩;obtain⟨rfl,rfl⟩:s3=⟨0,yA0,[],1,[],0⟩/\p3=⟨0,[5,0]⟩:=Dl hst3;clear hst3;obtain⟨w4,rfl,H⟩:=qE w;refine AU Gk H ?_;rintro b2 w - H;refine Bj Dy U U U (by exact(by simp[AZ])) H at0 U ?_;rintro w H;refine qA (Ad (Ax U (Bx (BA (ak 5 0 1 9 2 3 0)) G5 FA ?_)))
 replace L:=L.next H
 refine Al qB (F1 (k:=ak 5 0 1 9 2 3 0) L (Hz)) U ?_;clear L H;rintro v w ⟨a4,n4,c4,f4,p4,s4,m4,T4,rfl,O4,hst4,L,-,-⟩;obtain⟨rfl,rfl⟩:s4=⟨0,yA0,yD0,2,[],0⟩/\p4=⟨0,[1]⟩:=Dl hst4;clear hst4;obtain⟨w5,rfl,H⟩:=qE w;refine AU Gk H ?_;rintro b3 w - H;refine Bj Dy U U U (by exact(by simp[AZ])) H at0 U ?_;rintro w H;refine qA (Ad (Ax U (Bx (BA (ak 10 0 0 0 0 0 0)) G5 FA ?_)))
 replace L:=L.next H
 refine Al qB (F1 (k:=ak 10 0 0 0 0 0 0) L (Hz)) U ?_;clear L H;rintro v w ⟨a5,n5,c5,f5,p5,s5,m5,T5,rfl,O5,hst5,L,-,-⟩;obtain⟨⟨K,rfl⟩,rfl⟩:=Agn hst5;clear hst5;obtain⟨w6,rfl,H⟩:=qE w;refine AU Gk H ?_;rintro b4 w - H;refine Bj Dy U U U (by exact(by simp[AZ])) H at0 U ?_;rintro w H;refine qA (Ad (Ax U (Bx (BA (ak 12 1 0 0 0 0 0)) G5 FA ?_)))
 replace L:=L.next H
 refine Al qB (F1 (k:=ak 12 1 0 0 0 0 0) L (Hz)) U ?_;clear L H;rintro v w ⟨a6,n6,c6,f6,p6,s6,m6,T6,rfl,O6,hst6,L,-,-⟩;obtain⟨rfl,rfl⟩:s6=⟨0,yA1,yD1,2,K,1⟩/\p6=⟨0,[5,0]⟩:=Dl hst6;clear hst6;obtain⟨w7,rfl,H⟩:=qE w;refine AU Gk H ?_;rintro b5 w - H;refine Bj Dy U U U (by exact(by simp[AZ])) H at0 U ?_;rintro w H;refine qA (Ad (Ax U (Bx (BA (ak 13 0 0 0 0 0 0)) G5 FA ?_)))
 replace L:=L.next H
 refine Al qB (F1 (k:=ak 13 0 0 0 0 0 0) L (Hz)) U ?_;clear L H;rintro v w ⟨a7,n7,c7,f7,p7,s7,m7,T7,rfl,O7,hst7,L,-,-⟩;obtain⟨rfl,rfl⟩:s7=⟨0,yA1,yD1,2,K,1⟩/\p7=⟨0,[-4]⟩:=Dl hst7;clear hst7;obtain⟨w8,rfl,H⟩:=qE w;refine AU Gk H ?_;rintro b6 w - H;refine Bj Dy U U U (by exact(by simp[AZ])) H at0 U ?_;rintro w H;refine qA (Ad (Ax U (Bx (BA (ak 9 0 0 0 0 4 0)) G5 FA ?_)))
 replace L:=L.next H
 refine Al qB (F1 (k:=ak 9 0 0 0 0 4 0) L (Hz)) U ?_;clear L H;rintro v w ⟨a8,n8,c8,f8,p8,s8,m8,T8,rfl,O8,hst8,L,-,-⟩;obtain⟨rfl,rfl⟩:s8=⟨4,yA1,[],2,K,1⟩/\p8=⟨0,[1]⟩:=Dl hst8;clear hst8;obtain⟨w9,rfl,H⟩:=qE w;refine AU Gk H ?_;rintro b7 w - H;refine Bj Dy U U U (by exact(by simp[AZ])) H at0 U ?_;rintro w H;refine qA (Ad (Ax U (Bx (BA (ak 9 0 0 0 0 3 0)) G5 FA ?_)))
 replace L:=L.next H
 refine Al qB (F1 (k:=ak 9 0 0 0 0 3 0) L (Hz)) U ?_;clear L H;rintro v w ⟨a9,n9,c9,f9,p9,s9,m9,T9,rfl,O9,hst9,L,-,-⟩;obtain⟨rfl,rfl⟩:s9=⟨4,yA1,[],2,K,1⟩/\p9=⟨3,[]⟩:=Dl hst9;clear hst9;obtain⟨w10,rfl,H⟩:=qE w;refine AU Gk H ?_;rintro b8 w - H;refine Bj Dy U U U (by exact(by simp[AZ])) H at0 U ?_;rintro w H;refine qA ?_
 have L:=L.next H
 obtain⟨wz,rfl⟩:=qD w;have hz:=L.H.ext;have R3:Rd wz a3 1 I1 [5,0]:=O3.rd1 (t:=2) fun x hx=>L.H.blk x (qao _ (by simp[hx]));have h3:=L.H.blk (b2,Bl 33 [.int .i64 0,.slice a3 n3 c3]) (qao _ (by simp));have R4:Rd wz a4 1 I1 [1]:=O4.rd1 (t:=2) fun x hx=>L.H.blk x (qao _ (by simp[hx]));have h4:=L.H.blk (b3,Bl 33 [.int .i64 0,.slice a4 n4 c4]) (qao _ (by simp));have R5:Rd wz a5 1 I1 [1,10,1]:=O5.rd1 (t:=2) fun x hx=>L.H.blk x (qao _ (by simp[hx]));have h5:=L.H.blk (b4,Bl 33 [.int .i64 0,.slice a5 n5 c5]) (qao _ (by simp));have R6:Rd wz a6 1 I1 [5,0]:=O6.rd1 (t:=2) fun x hx=>L.H.blk x (qao _ (by simp[hx]));have h6:=L.H.blk (b5,Bl 33 [.int .i64 0,.slice a6 n6 c6]) (qao _ (by simp))
 have R7:Rd wz a7 1 I1 [-4]:=O7.rd1 (t:=2) fun x hx=>L.H.blk x (qao _ (by simp[hx]));have h7:=L.H.blk (b6,Bl 33 [.int .i64 0,.slice a7 n7 c7]) (qao _ (by simp));have R8:Rd wz a8 1 I1 [1]:=O8.rd1 (t:=2) fun x hx=>L.H.blk x (qao _ (by simp[hx]));have h8:=L.H.blk (b7,Bl 33 [.int .i64 0,.slice a8 n8 c8]) (qao _ (by simp));have h9:=L.H.blk (b8,Bl 33 [.int .i64 3,.slice a9 n9 c9]) (qao _ (by simp));clear L H;have H:=Ctx.start wz [];refine Ad (BQ _ Hw Dy U U ((Ca (b:=b2) (t:=33) (l:=[.int .i64 0,.slice a3 n3 c3]) (H.ext.to h3 (by simp)) 0 [.int .i64 0,.slice a3 n3 c3] U)) ?_);refine D0 ([5,0].map Dj) AV B2 E5 H ?_;rintro y3 w - H
 refine Al qB (Li a3 (some ⟨y3,0,none⟩) n3 _ c3 _ [5,0] _ (R3.ext0 H.ext) O3.num.symm (by have:=O3.num;simp at this;omega) (Rd.of_bl (xs:=([5,0]:List Int)) (enc:=I1) (r:=[]) (H.get at0) U (by decide)) U) U ?_;rintro v w ⟨rfl,hx39⟩;replace H:=H.call hx39;refine Aw U (BQ _ Hw Dy U U ((Ca (b:=b3) (t:=33) (l:=[.int .i64 0,.slice a4 n4 c4]) (H.ext.to h4 (by simp)) 0 [.int .i64 0,.slice a4 n4 c4] U)) ?_);refine Cs ([1].map Dj) (.int .i64 1) AV B2 E5 U U U U H ?_;rintro y4 w - H;refine Al qB (Li a4 (some ⟨y4,0,none⟩) n4 _ c4 _ [1] _ (R4.ext0 H.ext) O4.num.symm (by have:=O4.num;simp at this;omega) (Rd.of_bl (xs:=([1]:List Int)) (enc:=I1) (r:=[]) (H.get at0) U (by decide)) U) U ?_;rintro v w ⟨rfl,hx43⟩;replace H:=H.call hx43
 refine A6 U (.bool _) U (Aw U (BQ _ Hw Dy U U ((Ca (b:=b4) (t:=33) (l:=[.int .i64 0,.slice a5 n5 c5]) (H.ext.to h5 (by simp)) 0 [.int .i64 0,.slice a5 n5 c5] U)) ?_));refine D0 ([1,10,1].map Dj) AV B2 E5 H ?_;rintro y5 w - H;refine Al qB (Li a5 (some ⟨y5,0,none⟩) n5 _ c5 _ [1,10,1] _ (R5.ext0 H.ext) O5.num.symm (by have:=O5.num;simp at this;omega) (Rd.of_bl (xs:=([1,10,1]:List Int)) (enc:=I1) (r:=[]) (H.get at0) U (by decide)) U) U ?_;rintro v w ⟨rfl,hx48⟩;replace H:=H.call hx48;refine A6 U (.bool _) U (Aw U (BQ _ Hw Dy U U ((Ca (b:=b5) (t:=33) (l:=[.int .i64 0,.slice a6 n6 c6]) (H.ext.to h6 (by simp)) 0 [.int .i64 0,.slice a6 n6 c6] U)) ?_));refine D0 ([5,0].map Dj) AV B2 E5 H ?_;rintro y6 w - H
 refine Al qB (Li a6 (some ⟨y6,0,none⟩) n6 _ c6 _ [5,0] _ (R6.ext0 H.ext) O6.num.symm (by have:=O6.num;simp at this;omega) (Rd.of_bl (xs:=([5,0]:List Int)) (enc:=I1) (r:=[]) (H.get at0) U (by decide)) U) U ?_;rintro v w ⟨rfl,hx53⟩;replace H:=H.call hx53;refine A6 U (.bool _) U (Aw U (BQ _ Hw Dy U U ((Ca (b:=b6) (t:=33) (l:=[.int .i64 0,.slice a7 n7 c7]) (H.ext.to h7 (by simp)) 0 [.int .i64 0,.slice a7 n7 c7] U)) ?_));refine Cs ([-4].map Dj) (.int .i64 (-4)) AV B2 E5 U U U U H ?_;rintro y7 w - H;refine Al qB (Li a7 (some ⟨y7,0,none⟩) n7 _ c7 _ [-4] _ (R7.ext0 H.ext) O7.num.symm (by have:=O7.num;simp at this;omega) (Rd.of_bl (xs:=([-4]:List Int)) (enc:=I1) (r:=[]) (H.get at0) U (by decide)) U) U ?_;rintro v w ⟨rfl,hx58⟩;replace H:=H.call hx58
 refine A6 U (.bool _) U (Aw U (BQ _ Hw Dy U U ((Ca (b:=b7) (t:=33) (l:=[.int .i64 0,.slice a8 n8 c8]) (H.ext.to h8 (by simp)) 0 [.int .i64 0,.slice a8 n8 c8] U)) ?_));refine Cs ([1].map Dj) (.int .i64 1) AV B2 E5 U U U U H ?_;rintro y8 w - H;refine Al qB (Li a8 (some ⟨y8,0,none⟩) n8 _ c8 _ [1] _ (R8.ext0 H.ext) O8.num.symm (by have:=O8.num;simp at this;omega) (Rd.of_bl (xs:=([1]:List Int)) (enc:=I1) (r:=[]) (H.get at0) U (by decide)) U) U ?_;rintro v w ⟨rfl,hx63⟩;replace H:=H.call hx63;refine A6 U (.bool _) U (Aw U (Ah EB U (Bc Hd U ((H.old (Aj h9 _) (by simp))) ?_)));refine BP U U (A6 U (.bool _) U (Ai U (qA (A7 (AD (v:=(.bool _)) U U U ?_)))));exact⟨rfl,hz.trans H.ext⟩
theorem ML{s s' s'':Ld}{k:Ak}{p p':Rp}(h:Cr s k s' p)(h2:Cr s k s'' p'):s'=s''/\p=p':=by
 unfold Cr at h h2
 split at h
 .rename_i hk
  rw[if_pos hk]at h2
  rcases h with⟨h3,rfl,rfl⟩|⟨h3,r,P,rfl,rfl⟩
  .rcases h2 with⟨-,rfl,rfl⟩|⟨h4,-⟩
   .exact⟨rfl,rfl⟩
   .omega
  .rcases h2 with⟨h4,-,-⟩|⟨-,r',P',rfl,rfl⟩
   .omega
   .obtain rfl:=Acl P P';exact⟨rfl,rfl⟩
 .rename_i hk
  rw[if_neg hk]at h2;exact⟨h.1.trans h2.1.symm,h.2.trans h2.2.symm⟩
def KI:Ld:=⟨0,[],[],0,[],0⟩
abbrev KL:StZ:=⟨none,0,none,0,none,0,[]⟩
def addF(k:Ak)(p:Rp):Int:=if p.e=0/\k.kd=2 then k.x else 0
def subF(k:Ak)(p:Rp):Int:=if p.e=0/\k.kd=3 then k.x else 0
theorem Led.drop{bl:Nat}{w0 w:World}{B:List (Nat × Obj)}{m:Lm}{s:Ld}{T:Nat->Prop}(L:Led bl w0 w B m s T):Led bl w0 w [] m s T:=⟨L.H.right,L.I,L.e⟩
theorem Led.call{bl:Nat}{w0 w w':World}{B:List (Nat × Obj)}{m:Lm}{s:Ld}{T:Nat->Prop}(L:Led bl w0 w B m s T)(hx:Ext [] w w'):Led bl w0 w' B m s T:=L.next ((Ctx.start w []).call hx)
theorem Led.low{bl:Nat}{w0 w:World}{B:List (Nat × Obj)}{m:Lm}{s:Ld}{T:Nat->Prop}(L:Led bl w0 w B m s T):∀x∈CT m s,x<w.heap.size:=fun x hx=>L.I.low x (L.I.own x hx)
theorem Fg{bl:Nat}{w0 w:World}{B:List (Nat × Obj)}{m:Lm}{s:Ld}{T:Nat->Prop}(L:Led bl w0 w B m s T) :
  Ret prog 12 #[ptr bl] w fun v w'=>Ext [] w w'/\∃z,v=.agg (stC s z).toArray/\StAt w' s z/\StOff s z (fun x=>x<w.heap.size):=by
 obtain⟨H,I,e⟩:=L;subst e;exact YN w I H.right
theorem MN{s s':Ld}{z y:StZ}(w:World)(h:s'=s)(hok:s.Ok)(Z:StAt w s z)(Y:StAt w s' y) :
  Ret prog 11 #[.agg (stC s z).toArray,.agg (stC s' y).toArray] w fun v w'=>v=.bool true/\Ext [] w w':=by
 subst h;have h16:=(Co.1 hok.ac).1;have h64:=(Fb hok.du).1;have h4:=hok.kept.1;exact Adz w Z Y fun r hr=>Od (hok.may r hr)
theorem Led.nextT{bl:Nat}{w0 w w':World}{B E:List (Nat × Obj)}{m:Lm}{s:Ld}{T:Nat->Prop}(L:Led bl w0 w B m s T)(H:Ctx w [] w' E):Led bl w0 w' (E++B) m s (fun x=>T x\/x∈E.map (fun x=>x.1)) :=
 ⟨by rw[qaz];exact Ctx.back (L1:=[]) (L2:=B++LL m s) L.H H,L.I.grow H.ext (by simp) ⟨fun x hx => .inl hx,fun x hx=>hx.imp_right fun h=>by
  obtain⟨y,hy,rfl⟩:=qag.1 h
  exact(H.own y hy).elim (fun h=>by cases h) id⟩ fun x hx=>hx.elim (fun h=>qaw (L.I.low x h) H.size) fun h=>by
  obtain⟨y,hy,rfl⟩:=qag.1 h
  exact AY (H.blk y hy),L.e⟩
theorem Led.notin{bl:Nat}{w0 w:World}{B:List (Nat × Obj)}{m:Lm}{s:Ld}{T:Nat->Prop}(L:Led bl w0 w B m s T){b:Nat}{o:Obj}(h:(b,o)∈B):b∉CT m s/\w0.heap.size<=b:=by
 refine⟨fun hm=>?_,(L.H.own (b,o) (qao _ h)).elim (fun h=>by cases h) id⟩;obtain⟨y,hy,hyb⟩:=qag.1 hm;exact(qbu.1 L.H.nd).2.2 _ h _ hy hyb.symm
theorem StOff.grows{s:Ld}{z:StZ}{T T':Nat->Prop}{w:World}(O:StOff s z T)(Z:StAt w s z)(g:Grows T T' w):StOff s z T':=(O.or Z.lt).mono g.2
open Go.GV Go.Proofs.Tryz Go.ChangeShapes Go.WideShapes
theorem own:ownKnob Tryz.prog.godebug=none:=by kernel_rfl
theorem Xo:laidOutB prog=true:=by kernel_rfl
section
variable {H:Type}{enc:TypeId × Value->H}{w:World}{base:Nat}{spare:Nat->Bool}{held:Bool}
def DuT(d:Du):Prop:=(0<=d.id/\d.id<18446744073709551616)/\I64 d.fr/\I64 d.to/\I64 d.am/\I64 d.we/\I64 d.un
def EdT(e:Ed):Prop:=I64 e.f/\I64 e.t/\I64 e.cap/\I64 e.cost
structure RT(r:Rnd):Prop where
 no:0<=r.no/\r.no<18446744073709551616
 day:I64 r.day
 ids:∀x∈r.ids,0<=x/\x<18446744073709551616
 N:I64 r.N
 es:∀e∈r.es,EdT e
 fl:∀x∈r.fl,I64 x
 pot:∀x∈r.pot,I64 x
end
section
variable {H:Type}{enc:TypeId × Value->H}{w:World}{base:Nat}{spare:Nat->Bool}{held:Bool}
theorem UA:∃fs,Tryz.prog.underlying 25=some (.struct fs)/\(List.range 7).map (fun i=>fs[i]?.map fun f=>(f.type,f.offset))=[some (5,0),some (3,1),some (3,2),some (2,3),some (2,4),some (2,5),some (23,6)]:=⟨_,underlying25,by kernel_rfl⟩
theorem Xp:Tryz.prog.cellsOf 25=7:=by kernel_rfl
theorem Ad1:∀n cs y,DataW.trod enc prog w base spare held n 25 cs=some y->∃k:Ak,cs=BA k/\AkIn k:=by
 intro n cs y h;obtain⟨fs,ht,hf⟩:=UA;have hl:=XH ht h;rw[Xp]at hl;simp only[List.range,List.range.loop,qav,qca,qdb,and_true]at hf;obtain⟨f0,f1,f2,f3,f4,f5,f6⟩:=hf;obtain⟨a,ha,a1,a2⟩:=J8 ht h 0 0 f0 underlying5;obtain⟨b,hb,hb'⟩:=J8 ht h 1 1 f1 underlying3;obtain⟨c,hc,hc'⟩:=J8 ht h 2 2 f2 underlying3;obtain⟨d,hd,hd'⟩:=J8 ht h 3 3 f3 underlying2;obtain⟨e,he,he'⟩:=J8 ht h 4 4 f4 underlying2;obtain⟨f,hf,hf'⟩:=J8 ht h 5 5 f5 underlying2;obtain⟨g,hg,g1,g2⟩:=J8 ht h 6 6 f6 underlying23;refine⟨⟨a,b,c,d,e,f,g⟩,?_,⟨⟨a1,a2⟩,hb',hc',hd',he',hf',g1,g2⟩⟩
 match cs,hl with
 | [_,_,_,_,_,_,_],_ =>
  simp at ha hb hc hd he hf hg;simp[ha,hb,hc,hd,he,hf,hg]
set_option maxRecDepth 100000 in
theorem Ad2{b:Nat}{v:Value}{d:DataW H}{ps:List MemPlace}(hv:Value.okWide prog w .any b 25 v)(h:DataW.Trod enc prog w base spare held 25 v d ps):∃k:Ak,v=.agg (BA k).toArray/\AkIn k:=by
 obtain⟨fs,ht,_⟩:=UA;obtain⟨cs,rfl,_⟩:=okWide_struct ht hv;obtain⟨fuel,hf⟩:=h;obtain⟨k,hx,h1⟩:=Ad1 fuel cs.toList (d,ps) (by simpa[Value.cells]using hf);exact⟨k,by rw[<-hx],h1⟩
set_option maxRecDepth 100000 in
theorem SZ{b:Nat}{v:Value}{d:DataW H}{ps:List MemPlace}(hv:Value.okWide prog w .any b 22 v)(h:DataW.Trod enc prog w base spare held 22 v d ps):∃a c l,v=.slice a l.length c/\Rd w a 7 BA l/\∀x∈l,AkIn x:=by
 obtain⟨a,c,l,h1,h2,-,-,h3⟩:=Aev underlying22 Xp Ad1 (okWide_slice underlying22 hv) h;exact⟨a,c,l,h1,h2,h3⟩
end
end Go.Proofs.YtffclglpjlcojaaGreat
