/- Part 11 of the proof. -/
import Derived.Test.YtffclglpjlcojaaGreatPart10
set_option maxRecDepth 20000
set_option maxHeartbeats 8000000
namespace Go.Proofs.YtffclglpjlcojaaGreat
open Go.GV Go.Proofs.Tryz
attribute [local irreducible] A7 W Wq Wt
theorem Amp{α:Type}(A B C p y q1 q2:α)(E:List α):(A::B::C::(E++[p,y,q1,q2])).Perm (y::C::A::B::p::q1::q2::E):=by
 have h1:(A::B::C::(E++[p,y,q1,q2])).Perm (A::B::C::p::y::q1::q2::E):=((qcv (l₁:=E) (l₂:=[p,y,q1,q2])).cons C |>.cons B).cons A;have h2:(A::B::C::p::y::q1::q2::E).Perm (y::A::B::C::p::q1::q2::E):=qb1 (l₁:=[A,B,C,p]);have h3:(A::B::C::p::q1::q2::E).Perm (C::A::B::p::q1::q2::E):=qb1 (l₁:=[A,B]);exact h1.trans (h2.trans (h3.cons y))
theorem Ctx.turnEnt{w0 w w':World}{S:List Nat}{L:List (Nat × Obj)}{a:Option Addr}{t:TypeId}{full full':List Value}(H:Ctx w0 S w (L++ent a t full))(he:Ext ((ent a t full).map (·.1)) w w')(hb:∀x∈ent a t full',w'.heap[x.1]?=some x.2):Ctx w0 S w' (L++ent a t full'):=by
 have H':Ctx w ((ent a t full).map (·.1)) w' (ent a t full'):=⟨he,hb,Fu,fun x hx=>by
  cases a with
  |none=>simp[ent]at hx
  |some p =>
   simp only[ent,qab]at hx;subst hx
   exact .inl (by simp[ent])⟩
 exact(Ctx.back (Ctx.comm H) H').comm
theorem CX{w:World}{b:Nat}{t:TypeId}{l:List Value}(h:w.heap[b]?=some (Bl t l))(o:Nat)(l':List Value)(hl:(l.drop o).take l'.length=l'):∀j v,l'[j]?=some v->w.cell? ⟨b,o+j,none⟩=some v:=fun j v hv=>by
 rw[Aj h];have hj:=CD hv;rw[<-hl,qb5,if_pos hj,qct]at hv;exact hv
theorem ROff.or{q:RSl}{r:Rnd}{S T:Nat->Prop}(h:ROff q r S)(k:ROff q r T):ROff q r (fun x=>S x\/T x) :=
 ⟨fun g x=>x.elim (h.I g) (k.I g),fun g x=>x.elim (h.E g) (k.E g),fun g x=>x.elim (h.F g) (k.F g),fun g x=>x.elim (h.P g) (k.P g)⟩
structure ApF(acs:List Ac)(ds:List Du)(r:Rnd):Prop where
 B:Bright (acs.map Eh) ds
 N:r.N=(((acs.map Eh).length+1:Nat):Int)
 es:r.es=BO (acs.map Eh) (opn ds) r.cmp
 ids:r.ids=(opn ds).map Du.id
 pay:PayIn (opn ds) (r.fl.take (opn ds).length)
 len:r.fl.length=r.es.length
 by':∀(k:Nat) (a:Ac),acs[k]?=some a->(r.cmp=true->byK (acs.map Eh) (opn ds) r.cmp r.fl k=0) /\ -(Eh a)<=byK (acs.map Eh) (opn ds) r.cmp r.fl k/\byK (acs.map Eh) (opn ds) r.cmp r.fl k<=4503599627370496
 sum:BJ (byK (acs.map Eh) (opn ds) r.cmp r.fl) acs.length=0
 ok:Ma ds ((opn ds).zip (r.fl.take (opn ds).length))
 all:Lp ds ((opn ds).zip (r.fl.take (opn ds).length))=EH ds (r.fl.take (opn ds).length)
theorem Agr{acs:List Ac}{ds:List Du}{nx:Int}{r:Rnd}(_:F9 acs=0)(hd:ofC ds nx=0)(hck:FV r.N r.es r.fl r.pot=true)(hnow:Pn acs ds r=true):ApF acs ds r:=by
 have hm64:=(FJ.1 hd).1;unfold Pn at hnow;simp only[qae,qar]at hnow;obtain⟨h1,h2,h3,h4⟩:=hnow;have hB:=(ID).1 h1;have hN:r.N=(((acs.map Eh).length+1:Nat):Int):=by rw[qal];exact h2.symm
 have hf:=(GY.1 hck).1;rw[hN,<-h3]at hf;obtain⟨f1,f2,f3,f4⟩:=VN (fun x hx=>(CT.1 (hB.may x hx)).1) hB.open'.due hf;have hp:=Akj f1 [] (by rw[qca];exact Lq hd);rw[qca]at hp;rw[qal]at f4;exact⟨hB,hN,h3.symm,h4.symm,f1,by rw[f2,h3],fun k a hk=>f3 k _ (by rw[qa1,hk];rfl),f4,hp.1,hp.2⟩
def Fw(acs:List Ac)(ds:List Du)(r:Rnd):Int:=if FV r.N r.es r.fl r.pot=false then 1 else if Pn acs ds r=false then 3 else 0
def HK(acs:List Ac)(ds:List Du)(r:Rnd):List Ac:=if Fw acs ds r=0 then shA acs (tab (byK (acs.map Eh) (opn ds) r.cmp r.fl) acs.length)else acs
def IE(acs:List Ac)(ds:List Du)(r:Rnd):List Du:=if Fw acs ds r=0 then EH ds (r.fl.take (opn ds).length)else ds
theorem Ke{acs:List Ac}{ds:List Du}{nx:Int}{r:Rnd}(ha:F9 acs=0)(hd:ofC ds nx=0)(h:Fw acs ds r=0):ApF acs ds r:=by
 unfold Fw at h
 cases h1:FV r.N r.es r.fl r.pot with
 |false=>rw[if_pos h1]at h;simp at h
 |true =>
  rw[if_neg (by rw[h1];decide)]at h
  cases h2:Pn acs ds r with
  |false=>rw[if_pos h2]at h;simp at h
  |true=>exact Agr ha hd h1 h2
theorem NW{acs:List Ac}{ds:List Du}{nx:Int}{r:Rnd}(ha:F9 acs=0)(hd:ofC ds nx=0):F9 (HK acs ds r)=0/\ofC (IE acs ds r) nx=0/\(HK acs ds r).length=acs.length:=by
 unfold HK IE
 by_cases h:Fw acs ds r=0
 .rw[if_pos h,if_pos h];have F:=Ke ha hd h;exact⟨(OZ ha (fun k a hk=>(F.by' k a hk).2) F.sum).2,Aki F.pay hd,Ur⟩
 .rw[if_neg h,if_neg h];exact⟨ha,hd,rfl⟩
abbrev LX(bx:Nat)(a:Option Addr)(n c:Nat)(full:List Value)(bd b:Nat)(nx:Int)(o:Obj):List (Nat × Obj):=(bx,Bl 129 [.slice a n c])::(bd,Bl 132 (DU b nx))::(b,o)::ent a 108 full
structure AP7 where
 i:Nat
 o:Obj
theorem Ags{bx bd b c:Nat}{a:Option Addr}{full:List Value}{o:Obj}{acs:List Ac}{ds:List Du}{nx:Int}{r:Rnd}{q:RSl}(ha:F9 acs=0)(hd:ofC ds nx=0)(w:World)(H0:Ctx w ((LX bx a acs.length c full bd b nx o).map (·.1)) w (LX bx a acs.length c full bd b nx o))(O:OS a acs.length c 2 full (acs.flatMap Dl))(hM:Df .u64 (dm ds) o)(RA:RAt w r q)(hoff:ROff q r (·∈(LX bx a acs.length c full bd b nx o).map (·.1)))(hN:I64 r.N)(he:r.es.length<=1000000)(hi:r.ids.length<=1000000)(hf:r.fl.length<=1000000)(hp:r.pot.length<=1000000) :
  Ret prog 81 #[ptr bx,ptr bd,.agg (B9 r q).toArray] w fun v w'=>v=.int .i64 (Fw acs ds r)/\∃full' o',OS a acs.length c 2 full' ((HK acs ds r).flatMap Dl)/\Df .u64 (dm (IE acs ds r)) o' /\
   Ctx w ((LX bx a acs.length c full bd b nx o).map (·.1)) w' (LX bx a acs.length c full' bd b nx o'):=by
 obtain⟨w0,rfl,H⟩:=qE w;have hn16:=(Cv.1 ha).1;have hm64:=(FJ.1 hd).1;have hbx:=H0.get at0;have hbd:=H0.get at1;have hb:=H0.get at2;have RAc:Rd w0 a 2 Dl acs:=OS.rd O (fun x hx=>H0.blk x (qaj _ (qaj _ (qaj _ hx)))) (fun _ _=>rfl) (by decide);have A:AcAt w0 129 bx acs:=⟨a,c,hbx,RAc⟩;have D:DuAt w0 bd ds:=⟨b,nx,o,hbd,hb,hM⟩;obtain⟨ck,hck⟩:=qD (FV r.N r.es r.fl r.pot);obtain⟨nw,hnw⟩:=qD (Pn acs ds r);refine Au (fn:=f81) func81 U [.pointer (some ⟨bx,0,none⟩),.pointer (some ⟨bd,0,none⟩),.agg (B9 r q).toArray] U ?_;refine Ae (Bu [ptr bd] (.pointer _) U U H ?_);rintro b4 w - H;refine Bu (B9 r q) (.agg _) U U H ?_;rintro b5 w - H
 refine Ad U (qA (Ax (A1 (Ae (Ci (α:=Unit) 520192 (fun _=>[(12,.bool (false))]) (fun _ w'=>Ctx w0 [] w' [(b5,Bl 127 (B9 r q)),(b4,Bl 68 [ptr bd])]) U ?_ ?_)))))
 .refine A4 U (Cw OI U ?_);refine A2 U (AR 15 U ?_ ?_)
  .intro h1;refine Ag U (Ag U (AA U (.bool _) U (Ai U (Ab ?_))));exact⟨rfl,(),rfl,⟨qaa Value.bool (by simp_all),trivial⟩,H⟩
  .intro h2;refine AG HO U H at1 U (Cw LV U ?_);refine AJ U (.bool _) U (Ai U (Ab ?_));exact⟨rfl,(),rfl,⟨qaa Value.bool (by rfl),trivial⟩,H⟩
 rintro - j12 w H;refine FE U (Ae (Ah ED U (C9 _ CE Ct U U ((CX (b:=b5) (t:=127) (l:=B9 r q) (H.get at0) 4 [.int .i64 r.N,.slice q.aE r.es.length q.cE] U)) ?_)));refine Ah D6 U (C9 _ Qn KU U U ((CX (b:=b5) (t:=127) (l:=B9 r q) (H.get at0) 6 [.slice q.aF r.fl.length q.cF,.slice q.aP r.pot.length q.cP] U)) ?_);refine Al qB (Vz r.N q.aE q.aF q.aP _ q.cE _ q.cF _ q.cP r.es r.fl r.pot _ (RA.E.ext0 H.ext) U hN (RA.F.ext0 H.ext) U (by omega) (RA.P.ext0 H.ext) U (by omega)) U ?_;rintro v w ⟨rfl,hx24⟩;rw[<-hck];replace H:=H.call hx24;refine BP U (Ai U (qA (Aw _ U ?_ ?_)))
 .intro h1;replace h1:=BM h1;refine Ae (Ad U (qA (A5 (AF (Av (AB (v:=(.int _ _)) U U U ?_))))));have h1':ck=false:=by simpa using h1
  have hC:Fw acs ds r=1:=by unfold Fw;rw[<-hck,if_pos h1']
  unfold HK IE;rw[hC,if_neg (by decide),if_neg (by decide)];exact⟨rfl,full,o,O,hM,H0.call H.ext⟩
 .intro h1;replace h1:=BN h1;have h1':ck=true:=by simpa using h1
  refine Ae (A4 U (AG HO U H at1 U (Cg F1 Da U H at0 U (Al qB (Aqu ha hd _ (A.ext0 H.ext) (D.ext0 H.ext) (RA.ext0 H.ext) he hi) U ?_))));rintro v w ⟨rfl,hx30⟩;rw[<-hnw];replace H:=H.call hx30;refine BP U (Ai U (qA (Aw _ U ?_ ?_)))
  .intro h2;replace h2:=BM h2;refine Ae (Ad U (qA (A5 (AF (Av (AB (v:=(.int _ _)) U U U ?_))))));have h2':nw=false:=by simpa using h2
   have hC:Fw acs ds r=3:=by unfold Fw;rw[<-hck,h1',if_neg (by decide),<-hnw,if_pos h2']
   unfold HK IE;rw[hC,if_neg (by decide),if_neg (by decide)];exact⟨rfl,full,o,O,hM,H0.call H.ext⟩
  .intro h2;replace h2:=BN h2;have h2':nw=true:=by simpa using h2
   have hC:Fw acs ds r=0:=by unfold Fw;rw[<-hck,h1',if_neg (by decide),<-hnw,h2',if_neg (by decide)]
   have F:=Ke ha hd hC;unfold HK IE;rw[hC,if_pos rfl,if_pos rfl];have hSh:=(OZ ha (fun k a hk=>(F.by' k a hk).2) F.sum).1;obtain⟨f,hf0⟩:=qD (fun i=>E0 (grE (((acs.map Eh).length+1:Nat):Int) (BO (acs.map Eh) (opn ds) r.cmp)) (flE r.fl) i:Nat->Nat->Int);have hfe:byK (acs.map Eh) (opn ds) r.cmp r.fl=f (opn ds).length:=by rw[hf0];rfl
   rw[hfe]at hSh |-;have hf00:f 0=fun _=>0:=by rw[hf0];rfl
   obtain⟨m,hm⟩:=qD ((opn ds).length);have hml:m<=64:=by have:=Jc ds;omega
   have hmf:m<=r.fl.length:=by rw[F.len,F.es,Ic];omega
   have hltm:(r.fl.take m).length=m:=by rw[qbb];omega
   have hidl:r.ids.length=m:=by rw[F.ids,qal,hm]
   have hcut:Un (r.ids.length:Int) r.fl.length=m:=by unfold Un;rw[hidl];omega
   rw[<-hm]at hSh |-;refine Ay (A8 (Aa (Ae (A4 U (Al qB (QL (bd:=bx) a acs.length c acs _ (H.ext.to hbx (by simp)) (RAc.ext0 H.ext) U) U ?_)))));rintro v w F33;obtain⟨a33,n33,c33,f33,rfl,O33,-⟩:=F33.ex;obtain rfl:=O33.numN (fun _ _=>rfl) (by decide);replace H:=H.call F33.ext;refine Be EQ U (HY Bf BD Mn Fh U U H ?_);rintro b35 w - H;rw[qbg,Fo]at H;rw[qbg];refine Bc Amk H ?_;rintro b7 w - H;refine Cb (.slice _ _ _) Ame U U U H at0 (by decide) ?_;rintro w H;refine qA (Ae (Cq [.pointer _,.pointer _] U (Dd U (.func _ _ _) U ?_)));refine qA (Ax (Ae (Ah ED U (C9 _ CE Ct U U ((CX (b:=b5) (t:=127) (l:=B9 r q) (H.get at2) 4 [.int .i64 r.N,.slice q.aE r.es.length q.cE] U)) ?_))))
   refine Ah D6 U (Ah Fe U (AG BU U H at2 U (Ah Ew U (AG FS U H at2 U (Be Bh U (Al qB (Zg r.N q.aE q.aF r.es.length q.cE _ q.cF (r.ids.length:Int) r.fl _ (RA.F.ext0 H.ext) U RA.fc hf) U ?_))))));rintro v w F45;rw[hcut]at F45;obtain⟨a45,n45,c45,f45,rfl,O45,hb45⟩:=F45.ex;have hn45:=O45.num;rw[qbb,qcg hmf]at hn45;rw[hn45]at O45 |-;refine Be Bf U (Af U (qA (A1 ?_)));have HFp:=(Ctx.callEnt H0 H.ext (fun x hx=>⟨H.blk x hx,(H.own x hx).elim (fun h=>by cases h) id⟩) H.nd).perm (Amp _ _ _ _ _ _ _ _);have HF:=HFp.call F45.ext;have E9:=H.ext.trans F45.ext
   obtain⟨S9,hS9⟩:=qD (((b35,Bl 2 (List.map (fun _=>Value.int .i64 0) (List.range acs.length)))::(b,o)::(bx,Bl 129 [.slice a acs.length c])::(bd,Bl 132 (DU b nx))::(b7,Bl 31 [.slice (some ⟨b35,0,none⟩) acs.length acs.length])::(b5,Bl 127 (B9 r q))::(b4,Bl 68 [ptr bd])::ent a 108 full).map (·.1));have RPY:Rd w a45 1 I1 (r.fl.take m):=O45.rd1 fun x hx=>(hb45 x hx).1
   have hPY:r.fl.take m≠[]->(adr a45).block∉S9:=fun hne hm9=>by
    obtain⟨z,rfl⟩:=O45.form (by have:=qb2.2 hne;rw[qbb]at this;omega);have h7:=(hb45 (z,Bl 2 f45) (qab.2 rfl)).2;rw[hS9]at hm9;obtain⟨y,hy,hy2⟩:=qah.1 hm9;have h8:=Bd (HFp.blk y hy);dsimp only at h7;have h9:y.1=z:=hy2;omega
   have RA9:=RA.ext0 E9
   have hoff9:ROff q r (·∈S9):=(hoff.or RA.lt).mono fun x hx=>by
    rw[hS9]at hx;obtain⟨y,hy,rfl⟩:=qah.1 hx;exact HFp.own y hy
   clear HFp;obtain⟨w9,rfl⟩:=qD w;replace HF:Ctx w0 ((LX bx a acs.length c full bd b nx o).map (·.1)) w9 (((b35,Bl 2 (List.map (fun _=>Value.int .i64 0) (List.range acs.length)))::(b,o)::(bx,Bl 129 [.slice a acs.length c])::(bd,Bl 132 (DU b nx))::(b7,Bl 31 [.slice (some ⟨b35,0,none⟩) acs.length acs.length])::(b5,Bl 127 (B9 r q))::(b4,Bl 68 [ptr bd])::ent a 108 full)++[]):=by rw[qa0];exact HF
   have H:Ctx w9 S9 w9 ((b35,Bl 2 (List.map (fun _=>Value.int .i64 0) (List.range acs.length)))::(b,o)::(bx,Bl 129 [.slice a acs.length c])::(bd,Bl 132 (DU b nx))::(b7,Bl 31 [.slice (some ⟨b35,0,none⟩) acs.length acs.length])::(b5,Bl 127 (B9 r q))::(b4,Bl 68 [ptr bd])::ent a 108 full):=by rw[hS9];exact Ctx.lend HF
   refine Bw 18446603336221199936 (α:=AP7) (fun t=>[(47,.int .i64 (t.i:Int))]) (fun t w'=>t.i<=m/\Df .u64 (dm (Lp ds (((opn ds).zip (r.fl.take m)).take t.i))) t.o/\Ctx w9 S9 w' ((b35,Bl 2 (BZ (f t.i) acs.length))::(b,t.o)::(bx,Bl 129 [.slice a acs.length c])::(bd,Bl 132 (DU b nx))::(b7,Bl 31 [.slice (some ⟨b35,0,none⟩) acs.length acs.length])::(b5,Bl 127 (B9 r q))::(b4,Bl 68 [ptr bd])::ent a 108 full)) (fun t=>m - t.i) ⟨0,o⟩ U ?_ ?_ ?_
   .exact⟨rfl,trivial⟩
   .refine⟨qaq _,hM,?_⟩;dsimp only;rw[hf00];exact H
   .clear H;rintro⟨i,o1⟩ jj w ⟨hi7,hM1,H⟩;dsimp only at hi7 hM1 H;dsimp only;refine Ae (Bm U U (qA (Ax (Aw _ U ?_ ?_))))
    .intro h3;replace h3:=AM h3;obtain⟨d,hdi⟩:=AE (l:=opn ds) (i:=i);obtain⟨x,hxi⟩:=AE (l:=r.fl) (i:=i);have hxt:(r.fl.take m)[i]?=some x:=by rw[qb5,if_pos (by omega)];exact hxi
     have hid:r.ids[i]?=some d.id:=by rw[F.ids,qa1,hdi];rfl
     have hps:((opn ds).zip (r.fl.take m))[i]?=some (d,x):=by rw[qee];exact⟨hdi,hxt⟩
     have hok:=F.ok;rw[<-hm]at hok;obtain⟨⟨hfd,hheld,hx0,hx1⟩,hnext⟩:=VJ hok hps;dsimp only at hfd hheld hx0 hx1 hnext;have ham7:=(Zh (of_am hd) hok i).1;have hDI:=F.B.open'.due d (qac hdi);rw[qal]at hDI;have hdm:=Ei hDI.1
     have hfb:∀k,-1152921504606846976<=f i k/\f i k<=1152921504606846976:=fun k=>by
      have:=Le (g:=grE (((acs.map Eh).length+1:Nat):Int) (BO (acs.map Eh) (opn ds) r.cmp)) (x:=flE r.fl) (c:=4503599627370496) k (k:=i) fun j hj=>by
       obtain⟨d',hd'⟩:=AE (l:=opn ds) (i:=j);obtain⟨x',hx'⟩:=AE (l:=r.fl) (i:=j);have h1:=F.pay.2 j d' x' hd' (by rw[qb5,if_pos (by omega)];exact hx');have h2:=(Ei (F.B.open'.due d' (qac hd')).1).2.2.2.1;show 0<=r.fl.getD j 0/\r.fl.getD j 0<=_;rw[Bv hx'];omega
      rw[hf0];dsimp only;omega
     have hfs:∀k,f (i+1) k=f i k+(one (d.to.toNat=k) - one (d.fr.toNat=k))*x:=fun k=>by
      rw[hf0];dsimp only;rw[GW,VK (Kd hdi),VL (Kd hdi),show flE r.fl i=x from Bv hxi];rfl
     refine Ay (Aa (Ax (A1 (Ae (Af U (Bg RPY Bf BD U U (by omega) ?_))))));refine Bb B4 U (((RPY.ext' H.ext hPY).fld hxt U (j:=0) U)) (Ad U (Ad U (qA (Ae (C7 (.func _ _ _) U ?_)))));refine Ah Ew U (AG FS U H at5 U (Af U (Bg RA9.I Bh Bq U U (by rfl) ?_)));refine Bb B6 U (((RA9.I.ext' H.ext hoff9.I).fld hid U (j:=0) U)) ?_
     refine Af U (G6 U qB (Ako (f:=f i) (f':=f (i+1)) (x:=x) (d:=d) _ (H.get at6) (H.get at4) (H.get at3) (Ctx.lend (L1:=[_,_]) (L2:=_) H) hM1 (fun h=>by simp only[qai,qau,or_false]at h;exact h.elim (H.ne at6 at0 (by decide)) (H.ne at6 at1 (by decide))) (fun h=>by simp only[qai,qau,or_false]at h;exact h.elim (H.ne at4 at0 (by decide)) (H.ne at4 at1 (by decide))) (fun h=>by simp only[qai,qau,or_false]at h;exact h.elim (H.ne at3 at0 (by decide)) (H.ne at3 at1 (by decide))) hfd hheld ⟨hx0,hx1⟩ ham7 ⟨hdm.1.1,hDI.2.1⟩ ⟨hdm.2.1.1,hDI.2.2⟩ hfb hfs) U ?_);rintro v w ⟨rfl,o2,hM2,H2⟩;replace H:=Ctx.back (L1:=[_,_]) (L2:=_) H H2;rw[<-hnext]at hM2;refine Ad U (qA (Ae (Af U (CK U U (qA (Aw _ U ?_ ?_))))))
     .intro h4;replace h4:=CY h4;exact absurd U h4
     .intro h4;replace h4:=CZ h4;refine Ay (A8 (Aa (A0 (Az U U ?_))));refine Af U (qA ?_);exact⟨⟨i+1,o2⟩,rfl,⟨rfl,trivial⟩,⟨by dsimp only;omega,hM2,H⟩,by dsimp only;omega⟩
    .intro h3;replace h3:=AN h3;obtain rfl:i=m:=by omega
     have hall:=F.all;rw[<-hm]at hall;rw[qc2 (by rw[qde,<-hm,qbb];omega),hall]at hM1;refine Bt (An (An (AK (Aa (Ae (A4 U (AG BU U H at4 U (Al qB (Aa7 (bd:=bx) a (some ⟨b35,0,none⟩) c acs.length acs.length full acs (tab (f i) acs.length) _ (H.get at2) O (fun x hx=>⟨H.blk x (qaf [_,_,_,_,_,_,_] hx),fun h=>(qbx.1 H0.nd).1 x (qaj _ (qaj _ hx)) h.symm⟩) (CB (H.get at0)) (Ds _ _)) U ?_))))))));rintro v w ⟨rfl,full',O',hb',hx66⟩;rw[hSh];refine Ad U (qA (A5 (AB (v:=(.int _ _)) U U U ?_)));have HT:=Ctx.turnEnt (L:=[_,_,_,_,_,_,_]) H hx66 hb';rw[hS9]at HT;have HB:=Ctx.back HF HT;rw[qa0]at HB;exact⟨rfl,full',o1,O',hM1,(HB.perm (Amp _ _ _ _ _ _ _ _).symm).left (L':=[_,_,_,_])⟩
def plc(k:Nat)(d:Du):Int:=one (d.to=(k:Int)) - one (d.fr=(k:Int))
theorem NX{p q:Prop}[Decidable p][Decidable q](h:p↔q):one p=one q:=by
 by_cases hp:p
 .rw[GF hp,GF (h.1 hp)]
 .rw[Gd hp,Gd (fun hq=>hp (h.2 hq))]
def Lr(acs:List Ac)(ds:List Du)(k:Nat):Int:=(acs.getD k a00).ba+C2 (ds.map fun d=>plc k d*d.am)
theorem Abn{acs:List Ac}{ds:List Du}{net:Bool}{r:Rnd}(hb:DS (acs.map Eh) ds=true)(P:PlanR acs ds net r):Fw acs ds r=0:=by
 unfold Fw Pn;rw[P.chk,hb,P.cmp,P.es,P.ids,P.N];simp
theorem Np:∀{ds:List Du} {xs:List Int} {e:Du},e∈EH ds xs->∃d∈ds,e.id=d.id
 | [],_,_,h=>by cases h
 |d::ds,[],e,h=>⟨e,h,rfl⟩
 |d::ds,x::xs,e,h=>by
  unfold EH at h
  split at h
  .rcases qai.1 h with rfl|h
   .exact⟨_,qak ..,rfl⟩
   .obtain⟨d',h1,h2⟩:=Np h;exact⟨d',qaj _ h1,h2⟩
  .split at h
   .obtain⟨d',h1,h2⟩:=Np h;exact⟨d',qaj _ h1,h2⟩
   .rcases qai.1 h with rfl|h
    .exact⟨d,qak ..,rfl⟩
    .obtain⟨d',h1,h2⟩:=Np h;exact⟨d',qaj _ h1,h2⟩
def MgI(ds left:List Du)(i j:Nat):Prop:=j<=left.length/\∃xs,PayIn (opn (ds.drop i)) xs/\left.drop j=EH (ds.drop i) xs
theorem MgI.start{ds:List Du}{xs:List Int}(h:PayIn (opn ds) xs):MgI ds (EH ds xs) 0 0:=⟨qaq _,xs,h,rfl⟩
theorem Kf{α:Type}{l:List α}{i:Nat}{x:α}(h:l[i]?=some x):l.drop i=x::l.drop (i+1):=by
 obtain⟨h1,rfl⟩:=qa8.1 h;exact qdc h1
theorem SV{α:Type}{l m:List α}{j:Nat}{x:α}(h:l.drop j=x::m):l[j]?=some x/\l.drop (j+1)=m:=by
 have h1:(l.drop j)[0]?=some x:=by rw[h];rfl
 rw[qct,qdn]at h1;refine⟨h1,?_⟩;rw[Kf h1]at h;injection h
theorem MgI.step{ds left:List Du}{i j:Nat}{d:Du}(hs:(ds.map (·.id)).Pairwise (·<·))(h:MgI ds left i j)(hd:ds[i]?=some d)(hp:1<=d.am) :
  (∃e,left[j]?=some e/\e.id=d.id/\e.am<=d.am/\1<=e.am/\(d.held=true->e=d)/\MgI ds left (i+1) (j+1)) \/
  (d.held=false/\(∀e,left[j]?=some e->e.id≠d.id)/\MgI ds left (i+1) j):=by
 obtain⟨hj,xs,hP,hl⟩:=h;rw[Kf hd]at hP hl;rw[IC]at hP
 by_cases hh:d.held=true
 .rw[if_pos hh]at hP
  have hl':left.drop j=d::EH (ds.drop (i+1)) xs:=by
   rw[hl];exact IA hh _ _
  obtain⟨g1,g2⟩:=SV hl';exact .inl ⟨d,g1,rfl,qa3 _,hp,fun _=>rfl,CD g1,xs,hP,g2⟩
 .rw[if_neg hh]at hP;obtain⟨x,xs,rfl⟩:=PayIn.cons hP;obtain⟨⟨h0,h1⟩,hP⟩:=PayIn.tail hP;rw[IB hh]at hl
  by_cases hx:d.am=x
  .rw[if_pos hx,qca]at hl;refine .inr ⟨by simpa using hh,fun e he hid=>?_,hj,xs,hP,hl⟩;have h3:=Kf he;rw[hl]at h3;obtain⟨d',hd',hid'⟩:=Np (e:=e) (by rw[h3];exact qak ..);have hs':((ds.drop i).map (·.id)).Pairwise (·<·):=by rw[List.map_drop];exact hs.drop
   rw[Kf hd,qay,qbx]at hs';have:=hs'.1 d'.id (qa4 hd');omega
  .rw[if_neg hx,qck,qca]at hl;obtain⟨g1,g2⟩:=SV hl;exact .inl ⟨_,g1,rfl,by dsimp only;omega,by dsimp only;omega,fun h=>absurd h hh,CD g1,xs,hP,g2⟩
theorem MgI.ends{ds left:List Du}{j:Nat}(h:MgI ds left ds.length j):j=left.length:=by
 obtain⟨hj,xs,-,hl⟩:=h;rw[List.drop_length]at hl;have:=qaa List.length hl;rw[qc1]at this;have h0:(EH [] xs).length=0:=rfl;omega
theorem Zo{F:Nat->Int}{E:Nat}{s:Nat->Nat}(h1:∀i,i<E->s i<E)(h2:∀i,i<E->s (s i)=i):BJ (fun i=>F (s i)) E=BJ F E:=by
 have e1:BJ (fun i=>F (s i)) E=BJ (fun i=>BJ (fun j=>one (s i=j)*F j) E) E:=C4 fun i hi=>(Ia F (h1 i hi)).symm;have e2:=Q4 (fun i j=>one (s i=j)*F j) E E
 have e3:BJ (fun j=>BJ (fun i=>one (s i=j)*F j) E) E=BJ F E:=C4 fun j hj=>by
  have:BJ (fun i=>one (s i=j)*F j) E=BJ (fun i=>one (s j=i)*F j) E:=C4 fun i hi=>by
   rw[NX (p:=s i=j) (q:=s j=i) ⟨fun h=>by rw[<-h,h2 i hi],fun h=>by rw[<-h,h2 j hj]⟩]
  rw[this];exact Ia (fun _=>F j) (h1 j hj)
 rw[e1,<-e3];exact e2
structure Twin(g g':Gr)(cap cap':Nat->Int)(s p:Nat->Nat):Prop where
 N:g'.N=g.N
 E:g'.E=g.E
 s1:∀i,i<g.E->s i<g.E
 s2:∀i,i<g.E->s (s i)=i
 p1:∀v,v<g.N->p v<g.N
 p2:∀v,v<g.N->p (p v)=v
 f:∀i,i<g.E->g'.f (s i)=p (g.f i)
 t:∀i,i<g.E->g'.t (s i)=p (g.t i)
 co:∀i,i<g.E->g'.co (s i)=g.co i
 cap:∀i,i<g.E->cap' (s i)=cap i
theorem Twin.symm{g g':Gr}{cap cap':Nat->Int}{s p:Nat->Nat}(_:g'.Ok)(hg:g.Ok)(T:Twin g g' cap cap' s p):Twin g' g cap' cap s p :=
 ⟨T.N.symm,T.E.symm,fun i hi=>by rw[T.E]at hi |-;exact T.s1 i hi,fun i hi=>by rw[T.E]at hi;exact T.s2 i hi,
  fun v hv=>by rw[T.N]at hv |-;exact T.p1 v hv,fun v hv=>by rw[T.N]at hv;exact T.p2 v hv,
  fun i hi=>by
   rw[T.E]at hi;have h:=T.f (s i) (T.s1 i hi);rw[T.s2 i hi]at h
   rw[h,T.p2 _ (hg.f _ (T.s1 i hi))],
  fun i hi=>by
   rw[T.E]at hi;have h:=T.t (s i) (T.s1 i hi);rw[T.s2 i hi]at h
   rw[h,T.p2 _ (hg.t _ (T.s1 i hi))],
  fun i hi=>by
   rw[T.E]at hi;have h:=T.co (s i) (T.s1 i hi);rw[T.s2 i hi]at h
   exact h.symm,
  fun i hi=>by
   rw[T.E]at hi;have h:=T.cap (s i) (T.s1 i hi);rw[T.s2 i hi]at h
   exact h.symm⟩
theorem Twin.le{g g':Gr}{cap cap' x x' p':Nat->Int}{q:Nat->Int}{s p:Nat->Nat}(T:Twin g g' cap cap' s p)(hg:g.Ok)(h:Fine g cap x q)(h0:∀v,v<g.N->BK g x v=0)(h':Fine g' cap' x' p')(h0':∀v,v<g'.N->BK g' x' v=0):Iz g x<=Iz g' x':=by
 have hc:Iz g (fun i=>x' (s i))=Iz g' x':=by
  unfold Iz;rw[T.E,<-Zo (F:=fun i=>x' i*g'.co i) T.s1 T.s2];exact C4 fun i hi=>by rw[T.co i hi]
 rw[<-hc];refine Fine.best hg h h0 (fun i hi=>?_) fun v hv=>?_
 .have h1:=h'.in' (s i) (by rw[T.E];exact T.s1 i hi);rw[T.cap i hi]at h1;exact h1
 .have h1:=h0' (p v) (by rw[T.N];exact T.p1 v hv);rw[<-h1];unfold BK E0;rw[T.E,<-Zo (F:=fun i=>(one (g'.t i=p v) - one (g'.f i=p v))*x' i) T.s1 T.s2];refine C4 fun i hi=>?_;have hp:∀u,u<g.N->(u=v↔p u=p v):=fun u hu=>⟨fun h=>by rw[h],fun h=>by rw[<-T.p2 u hu,h,T.p2 v hv]⟩;rw[T.t i hi,T.f i hi,NX (hp _ (hg.t i hi)),NX (hp _ (hg.f i hi))]
theorem Twin.eq{g g':Gr}{cap cap' x x' p':Nat->Int}{q:Nat->Int}{s p:Nat->Nat}(T:Twin g g' cap cap' s p)(hg:g.Ok)(hg':g'.Ok)(h:Fine g cap x q)(h0:∀v,v<g.N->BK g x v=0)(h':Fine g' cap' x' p')(h0':∀v,v<g'.N->BK g' x' v=0):Iz g x=Iz g' x' :=
 Int.le_antisymm (T.le hg h h0 h' h0') ((T.symm hg' hg).le hg' h' h0' h h0)
def flip(n:Nat)(a b:Du):Du:={ b with id:=a.id,fr:=(n:Int) - 1 - b.fr,to:=(n:Int) - 1 - b.to }
def turnD(n:Nat)(ds:List Du):List Du:=List.zipWith (flip n) ds ds.reverse
def mirE(n:Nat)(e:Ed):Ed:={ e with f:=(n:Int) - 1 - e.f,t:=(n:Int) - 1 - e.t }
def sigN(n m i:Nat):Nat:=if i<m then m - 1 - i else m+(2*(n - 1 - (i - m) / 2)+(i - m) % 2)
def piN(n v:Nat):Nat:=if v<n then n - 1 - v else v
def costR(r:Rnd):Int:=Iz (grE r.N r.es) (flE r.fl)
theorem VU{f g:Nat->Int}{m:Nat}:∀n,m<=n->(∀i,i<m->f i=g i)->(∀i,m<=i->i<n->f i=0)->BJ f n=BJ g m
 |0,h,_,_=>by
  obtain rfl:m=0:=by omega
  rfl
 |n+1,h,h1,h2=>by
  rcases qap n m with h3|h3
  .obtain rfl:m=n+1:=by omega
   exact C4 h1
  .show BJ f n+f n=_;rw[VU n h3 h1 fun i hi hn=>h2 i hi (by omega),h2 n h3 (by omega),Int.add_zero]
theorem VV{rs:List Int}{os:List Du}{net:Bool}{xs:List Int}(hl:os.length<=xs.length)(v:Nat):∀k,k<=os.length->(∀(i:Nat) (d:Du) (x:Int),i<k->os[i]?=some d->xs[i]?=some x->0<=x/\x<=d.am) ->
  -C2 ((os.map Du.am).take k)<=E0 (grE ((rs.length+1:Nat):Int) (BO rs os net)) (flE xs) k v/\E0 (grE ((rs.length+1:Nat):Int) (BO rs os net)) (flE xs) k v<=C2 ((os.map Du.am).take k)
 |0,_,_=>⟨qa3 _,qa3 _⟩
 |k+1,h,hp=>by
  have ih:=VV (rs:=rs) (net:=net) hl v k (by omega) fun i d x hi=>hp i d x (by omega);obtain⟨d,hd⟩:=AE (l:=os) (i:=k);obtain⟨x,hx⟩:=AE (l:=xs) (i:=k);have h1:=hp k d x (by omega) hd hx;have hm:(os.map Du.am)[k]?=some d.am:=by rw[qa1,hd];rfl
  have h2:∀(p q:Prop) [Decidable p] [Decidable q],-x<=(one p - one q)*x/\(one p - one q)*x<=x:=fun p q _ _=>by
   by_cases hp:p <;> by_cases hq:q <;> simp only[one,if_pos,if_neg,hp,hq,not_false_eq_true] <;> omega
  rw[GW,LF hm,show flE xs k=x from Bv hx];have h3:=h2 ((grE ((rs.length+1:Nat):Int) (BO rs os net)).t k=v) ((grE ((rs.length+1:Nat):Int) (BO rs os net)).f k=v);omega
theorem Akp{rs:List Int}{os:List Du}{net:Bool}{xs:List Int}(hp:PayIn os xs)(v:Nat)(k:Nat)(h:k<=os.length) :
  -C2 ((os.map Du.am).take k)<=E0 (grE ((rs.length+1:Nat):Int) (BO rs os net)) (flE xs) k v/\E0 (grE ((rs.length+1:Nat):Int) (BO rs os net)) (flE xs) k v<=C2 ((os.map Du.am).take k) :=
 VV (Nat.le_of_eq hp.1) v k h fun i d x _=>hp.2 i d x
theorem Abo{xs:List Int}(h:∀x∈xs,0<=x)(k:Nat):C2 (xs.take k)<=C2 xs:=by
 have h1:C2 (xs.take k++xs.drop k)=C2 (xs.take k)+C2 (xs.drop k):=F8 _ _;rw[qbq]at h1;have h2:=Hw (xs:=xs.drop k) fun x hx=>h x (qc7 hx);omega
def Zp(rs:List Int)(net:Bool)(k:Nat):Int:=if net=true then 0 else rs.getD k 0
def VW(rs:List Int)(os:List Du)(net:Bool)(xs:List Int)(k:Nat):Int:=Zp rs net k+byK rs os net xs k
structure PermP(rs:List Int)(ds:List Du)(net:Bool)(xs:List Int):Prop where
 B:Bright rs ds
 pay:PayIn (opn ds) xs
 left:∀k,k<rs.length->0<=VW rs (opn ds) net xs k/\(net=true->VW rs (opn ds) net xs k=0)
def FW(os:List Du)(xs:List Int)(k:Nat):Int:=BJ (fun i=>(os.getD i d00).we*xs.getD i 0) k
theorem Pb{os:List Du}{xs:List Int}{k:Nat}{d:Du}{x:Int}(hd:os[k]?=some d)(hx:xs[k]?=some x):FW os xs (k+1)=FW os xs k+d.we*x:=by
 show FW os xs k+(os.getD k d00).we*xs.getD k 0=_;rw[Bv hd,Bv hx]
theorem Mz{os:List Du}{xs:List Int}(hp:PayIn os xs)(hos:∀d∈os,0<=d.we/\d.we<=1000):∀k,k<=os.length->0<=FW os xs k/\FW os xs k<=1000*C2 ((os.map Du.am).take k)
 |0,_=>⟨qa3 _,qa3 _⟩
 |k+1,h=>by
  have ih:=Mz hp hos k (by omega);have hl:=hp.1;obtain⟨d,hd⟩:=AE (l:=os) (i:=k);obtain⟨x,hx⟩:=AE (l:=xs) (i:=k);have h1:=hp.2 k d x hd hx;have hw:=hos d (qac hd);have hm:(os.map Du.am)[k]?=some d.am:=by rw[qa1,hd];rfl
  have h2:0<=d.we*x:=qds hw.1 h1.1;have h3:d.we*x<=1000*d.am:=qbh (qem hw.2 h1.1) (qdr h1.2 (by decide));rw[Pb hd hx,LF hm];omega
def IF(rs:List Int)(os:List Du)(net:Bool)(xs:List Int)(i:Nat):Int :=
 if i<os.length then flE xs i else if(i - os.length) % 2=0 then max 0 (-byK rs os net xs ((i - os.length) / 2))else max 0 (byK rs os net xs ((i - os.length) / 2))
theorem NY{rs:List Int}{os:List Du}{net:Bool}{xs:List Int}{i:Nat}(h:i<os.length):IF rs os net xs i=flE xs i:=if_pos h
theorem VX(rs:List Int)(os:List Du)(net:Bool)(xs:List Int)(k:Nat):IF rs os net xs (os.length+2*k)=max 0 (-byK rs os net xs k):=by
 unfold IF;rw[if_neg (by omega),if_pos (by omega),show(os.length+2*k - os.length) / 2=k by omega]
theorem SW(rs:List Int)(os:List Du)(net:Bool)(xs:List Int)(k:Nat):IF rs os net xs (os.length+2*k+1)=max 0 (byK rs os net xs k):=by
 unfold IF;rw[if_neg (by omega),if_neg (by omega),show(os.length+2*k+1 - os.length) / 2=k by omega]
theorem Ls{g:Gr}{x y:Nat->Int}(v:Nat):∀k,(∀i,i<k->x i=y i)->E0 g x k v=E0 g y k v
 |0,_=>rfl
 |k+1,h=>by rw[GW,GW,Ls v k fun i hi=>h i (by omega),h k (by omega)]
theorem VY{rs:List Int}{os:List Du}{j:Nat}(hj:j<rs.length):∃x,rs[j]?=some x/\(BO rs os false)[os.length+2*j]?=some ⟨rs.length,j,x,0⟩/\(BO rs os false)[os.length+2*j+1]?=some ⟨j,rs.length,4503599627370496,0⟩:=by
 obtain⟨x,hx⟩:=AE (h:=hj);exact⟨x,hx,LG (Nl hx),by rw[qcm];exact LG (P7 hj)⟩
theorem XM{rs:List Int}{ds:List Du}{net:Bool}{xs:List Int}(P:PermP rs ds net xs):∀v,v<rs.length+1->BK (grE ((rs.length+1:Nat):Int) (BO rs (opn ds) net)) (IF rs (opn ds) net xs) v=0:=by
 have hB:=P.B.right net;have hok:=Li hB;have hN:(grE ((rs.length+1:Nat):Int) (BO rs (opn ds) net)).N=rs.length+1:=by show((rs.length+1:Nat):Int).toNat=_;omega
 have hE:(grE ((rs.length+1:Nat):Int) (BO rs (opn ds) net)).E=(BO rs (opn ds) net).length:=rfl;have hlen:=Ic rs (opn ds) net
 have hb:∀v,v<rs.length->BK (grE ((rs.length+1:Nat):Int) (BO rs (opn ds) net)) (IF rs (opn ds) net xs) v=0:=fun v hv=>by
  have h0:E0 (grE ((rs.length+1:Nat):Int) (BO rs (opn ds) net)) (IF rs (opn ds) net xs) (opn ds).length v=byK rs (opn ds) net xs v:=Ls v _ fun i hi=>NY hi;unfold BK;rw[hE,hlen]
  cases net with
  |true =>
   rw[if_pos rfl,show(opn ds).length+0=(opn ds).length from rfl,h0];have:=(P.left v hv).2 rfl;unfold VW Zp at this;rw[if_pos rfl]at this;omega
  |false =>
   rw[if_neg (by decide),QP (n:=rs.length) (fun j hj=>?_) hv rs.length (qam _),if_pos hv,h0,VX,SW]
   .omega
   .obtain⟨x,-,e1,e2⟩:=VY (os:=opn ds) hj;rw[VK e1,VL e1,VK e2,VL e2];dsimp only;omega
 intro v hv
 rcases qap v rs.length with h|h
 .exact hb v h
 .obtain rfl:v=rs.length:=by omega
  have ha:=over_all _ hok (IF rs (opn ds) net xs);rw[hN]at ha;have h2:BJ (BK (grE ((rs.length+1:Nat):Int) (BO rs (opn ds) net)) (IF rs (opn ds) net xs)) rs.length=BJ (fun _=>0) rs.length:=C4 hb;have h3:BJ (BK (grE ((rs.length+1:Nat):Int) (BO rs (opn ds) net)) (IF rs (opn ds) net xs)) rs.length+BK (grE ((rs.length+1:Nat):Int) (BO rs (opn ds) net)) (IF rs (opn ds) net xs) rs.length=0:=ha;rw[h2,Hs]at h3;omega
theorem SX{rs:List Int}{os:List Du}{net:Bool}{i:Nat}(hi:i<(BO rs os net).length):(∃d,os[i]?=some d/\(BO rs os net)[i]?=some (Mx d)) \/
  (net=false/\∃k x,k<rs.length/\rs[k]?=some x/\((i=os.length+2*k/\(BO rs os net)[i]?=some ⟨rs.length,k,x,0⟩)\/(i=os.length+2*k+1/\(BO rs os net)[i]?=some ⟨k,rs.length,4503599627370496,0⟩))):=by
 have hlen:=Ic rs os net
 rcases qap i os.length with h|h
 .obtain⟨d,hd⟩:=AE (h:=h);exact .inl ⟨d,hd,Kd hd⟩
 .cases net with
  |true=>rw[hlen,if_pos rfl]at hi;omega
  |false =>
   rw[hlen,if_neg (by decide)]at hi;obtain⟨x,hx,e1,e2⟩:=VY (os:=os) (j:=(i - os.length) / 2) (rs:=rs) (by omega);refine .inr ⟨rfl,(i - os.length) / 2,x,by omega,hx,?_⟩
   by_cases hp:(i - os.length) % 2=0
   .exact .inl ⟨by omega,by rw[show os.length+2*((i - os.length) / 2)=i by omega]at e1;exact e1⟩
   .exact .inr ⟨by omega,by rw[show os.length+2*((i - os.length) / 2)+1=i by omega]at e2;exact e2⟩
theorem Abp{rs:List Int}{ds:List Du}{net:Bool}{xs:List Int}(P:PermP rs ds net xs){i:Nat}(hi:i<(BO rs (opn ds) net).length):0<=IF rs (opn ds) net xs i/\IF rs (opn ds) net xs i<=Cs (BO rs (opn ds) net) i:=by
 have htot:=P.B.open'.tot;unfold Cs
 rcases SX hi with⟨d,hd,he⟩|⟨rfl,k,x,hk,hx,⟨rfl,he⟩|⟨rfl,he⟩⟩
 .have hl:=P.pay.1;have hlt:=CD hd;obtain⟨y,hy⟩:=AE (l:=xs) (i:=i);have:=P.pay.2 i d y hd hy;rw[NY hlt,show flE xs i=y from Bv hy,Bv he];exact this
 .rw[VX,Bv he];have h1:=(P.left k hk).1;have h2:=CT.1 (P.B.may x (qac hx));unfold VW Zp at h1;rw[if_neg (by decide),Bv hx]at h1;show 0<=max 0 _/\max 0 _<=x;omega
 .rw[SW,Bv he];have h1:=(Akp (rs:=rs) (net:=false) P.pay k _ (qam _)).2;rw[qc2 (by rw[qal];exact qam _)]at h1;have h2:byK rs (opn ds) false xs k<=4503599627370496:=qbh h1 htot;show 0<=max 0 _/\max 0 _<=(4503599627370496:Int);omega
theorem Pc{rs:List Int}{os:List Du}{net:Bool}{y:Nat->Int}{xs:List Int}(hy:∀i,i<os.length->y i=flE xs i):Iz (grE ((rs.length+1:Nat):Int) (BO rs os net)) y = -FW os xs os.length:=by
 have hlen:=Ic rs os net
 have h1:Iz (grE ((rs.length+1:Nat):Int) (BO rs os net)) y=BJ (fun i => -((os.getD i d00).we*xs.getD i 0)) os.length:=by
  unfold Iz;refine VU (f:=fun i=>y i*(grE ((rs.length+1:Nat):Int) (BO rs os net)).co i) _ (by show os.length<=(BO rs os net).length;omega) (fun i hi=>?_) fun i hi h2=>?_
  .obtain⟨d,hd⟩:=AE (h:=hi)
   (try dsimp only)
   rw[VM (Kd hd),Bv hd,hy i hi];unfold Mx flE;dsimp only;rw[Int.mul_neg,qc6]
  .rcases SX (rs:=rs) (os:=os) (net:=net) (i:=i) h2 with⟨d,hd,he⟩|⟨hn,k,x,hk,hx,⟨hi2,he⟩|⟨hi2,he⟩⟩
   .have:=CD hd;omega
   ·(try dsimp only)
    rw[VM he];exact Int.mul_zero _
   ·(try dsimp only)
    rw[VM he];exact Int.mul_zero _
 rw[h1,P0];rfl
structure RndF(rs:List Int)(ds:List Du)(net:Bool)(r:Rnd):Prop where
 N:r.N=((rs.length+1:Nat):Int)
 es:r.es=BO rs (opn ds) net
 chk:FV r.N r.es r.fl r.pot=true
theorem RndF.fine{rs:List Int}{ds:List Du}{net:Bool}{r:Rnd}(P:RndF rs ds net r):CA r.N r.es=true/\Cu r.N r.es r.fl=true/\(∀v,v<r.N.toNat->BK (grE r.N r.es) (flE r.fl) v=0)/\Fine (grE r.N r.es) (Cs r.es) (flE r.fl) (Fk r.pot):=by
 obtain⟨h1,-,h3⟩:=GY.1 P.chk;obtain⟨h4,h5⟩:=F7 h1;exact⟨(C5 h4).2.1,h4,h5,h3⟩
theorem RndF.best{rs:List Int}{ds:List Du}{net:Bool}{r:Rnd}(P:RndF rs ds net r){xs:List Int}(Q:PermP rs ds net xs):FW (opn ds) xs (opn ds).length<=FW (opn ds) (r.fl) (opn ds).length:=by
 obtain⟨p1,p2,p3,p4⟩:=P.fine;rw[P.N,P.es]at p1 p3 p4;have hN:(grE ((rs.length+1:Nat):Int) (BO rs (opn ds) net)).N=rs.length+1:=by show((rs.length+1:Nat):Int).toNat=_;omega
 have hN2:((rs.length+1:Nat):Int).toNat=rs.length+1:=by omega
 have h:=Fine.best (Li p1) p4 (fun v hv=>p3 v (by rw[hN]at hv;omega)) (y:=IF rs (opn ds) net xs) (fun i hi=>Abp Q hi) fun v hv=>XM Q v (by rw[hN]at hv;exact hv);rw[Pc (xs:=r.fl) fun i _=>rfl,Pc fun i hi=>NY hi]at h;omega
theorem RndF.perm{rs:List Int}{ds:List Du}{net:Bool}{r:Rnd}(P:RndF rs ds net r)(hB:Bright rs ds):PermP rs ds net (r.fl.take (opn ds).length)/\BJ (byK rs (opn ds) net r.fl) rs.length=0/\(∀(k:Nat) (x:Int),rs[k]?=some x->(net=true->byK rs (opn ds) net r.fl k=0) /\ -x<=byK rs (opn ds) net r.fl k/\byK rs (opn ds) net r.fl k<=4503599627370496):=by
 have hc:=(GY.1 P.chk).1;rw[P.N,P.es]at hc;obtain⟨h1,h2,h3,h4⟩:=VN (fun x hx=>(CT.1 (hB.may x hx)).1) hB.open'.due hc;refine⟨⟨hB,h1,fun k hk=>?_⟩,h4,h3⟩
 have hby:byK rs (opn ds) net (r.fl.take (opn ds).length) k=byK rs (opn ds) net r.fl k:=Ls k _ fun i hi=>by
  unfold flE;rw[qbu,qbu,qb5,if_pos hi]
 obtain⟨x,hx⟩:=AE (h:=hk);obtain⟨g1,g2,-⟩:=h3 k x hx;unfold VW Zp;rw[hby]
 cases net with
 |true=>rw[if_pos rfl,g1 rfl];exact⟨by omega,fun _=>by omega⟩
 |false=>rw[if_neg (by decide),Bv hx];exact⟨by omega,fun h=>by cases h⟩
theorem XN{os:List Du}{fl:List Int}:∀k,k<=os.length->FW os (fl.take os.length) k=FW os fl k:=fun k hk=>C4 fun i hi=>by
 rw[qbu (l:=fl.take os.length),qbu (l:=fl),qb5,if_pos (by omega)]
def Agt:List Du->List Int->List Int->List Int
 | [],_,_=>[]
 |_::_,[],ys=>ys
 |d::os,x::xs,ys=>if d.am=x then x::Agt os xs ys else match ys with
  | []=>x::Agt os xs []
  |y::ys=>(x+y)::Agt os xs ys
def Amq:List Du->List Int->List Du
 | [],_=>[]
 |d::ds,[]=>d::ds
 |d::ds,x::xs=>if d.am=x then Amq ds xs else{ d with am:=d.am - x }::Amq ds xs
theorem Nq:∀{ds:List Du} {xs:List Int} {e:Du},e∈EH ds xs->∃d∈ds,e.fr=d.fr/\e.to=d.to/\e.we=d.we
 | [],_,_,h=>by cases h
 |d::ds,[],e,h=>⟨e,h,rfl,rfl,rfl⟩
 |d::ds,x::xs,e,h=>by
  unfold EH at h
  split at h
  .rcases qai.1 h with rfl|h
   .exact⟨_,qak ..,rfl,rfl,rfl⟩
   .obtain⟨d',h1,h2⟩:=Nq h;exact⟨d',qaj _ h1,h2⟩
  .split at h
   .obtain⟨d',h1,h2⟩:=Nq h;exact⟨d',qaj _ h1,h2⟩
   .rcases qai.1 h with rfl|h
    .exact⟨_,qak ..,rfl,rfl,rfl⟩
    .obtain⟨d',h1,h2⟩:=Nq h;exact⟨d',qaj _ h1,h2⟩
theorem VZ{acs:List Ac}{ds:List Du}{nx:Int}{r:Rnd}(ha:F9 acs=0)(hd:ofC ds nx=0)(hC:Fw acs ds r=0):Bright ((HK acs ds r).map Eh) (IE acs ds r):=by
 have F:=Ke ha hd hC;obtain⟨h1,h2,h3⟩:=NW (r:=r) ha hd;refine My h1 h2 fun d hdm=>?_;unfold IE at hdm;rw[if_pos hC]at hdm;obtain⟨d',h4,h5,h6,-⟩:=Nq hdm;have h7:=(F.B.due d' h4).2;rw[qal]at h7;rw[h3];omega
structure Ak where
 kd:Int
 a:Int
 b:Int
 x:Int
 w:Int
 u:Int
 id:Int
structure Ld where
 day:Int
 acs:List Ac
 ds:List Du
 nx:Int
 rn:List Rnd
 no:Int
def Po(r:Rnd):Bool:=FV r.N r.es r.fl r.pot && (decide (r.ids.length<=64) && decide (0<=r.day))
structure Ld.Ok(s:Ld):Prop where
 ac:F9 s.acs=0
 du:ofC s.ds s.nx=0
 bk:∀d∈s.ds,d.fr<s.acs.length/\d.to<s.acs.length
 day:0<=s.day/\s.day<=9223372036854775807
 kept:s.rn.length<=4/\(s.rn.length:Int)<=s.no/\s.no<=4611686018427387904
 nos:∀(i:Nat) (r:Rnd),s.rn[i]?=some r->r.no=s.no - s.rn.length+1+i
 may:∀r∈s.rn,Po r=true
def bas(acs:List Ac):List Int:=acs.map Ac.ba
def LK(acs:List Ac)(k:Int)(a:Ac):List Ac:=acs.set k.toNat a
def GH(acs:List Ac)(k x:Int):Int:=if inA acs k=false then 10 else if(decide (0<x) && Dp x)=false then 1 else if(Fl (bas acs++[x])).2≠0 then 13 else 0
def Fm(acs:List Ac)(k x:Int):List Ac:=if GH acs k x=0 then LK acs k ⟨(D8 acs k).ba+x,(D8 acs k).re⟩else acs
def Gg(acs:List Ac)(k x:Int):Int:=if inA acs k=false then 10 else if(decide (0<x) && Dp x)=false then 1 else if(D8 acs k).ba<x then 12 else 0
def EY(acs:List Ac)(k x:Int):List Ac:=if Gg acs k x=0 then LK acs k ⟨(D8 acs k).ba - x,(D8 acs k).re⟩else acs
def M1(acs:List Ac)(k x:Int):Int:=if inA acs k=false then 10 else if Dp x=false then 1 else 0
def HM(acs:List Ac)(k x:Int):List Ac:=if M1 acs k x=0 then LK acs k ⟨(D8 acs k).ba,x⟩else acs
theorem Hg{acs:List Ac}{k:Int}:inA acs k=true↔0<=k/\k<acs.length:=by
 unfold inA;rw[qae,qar,qar]
theorem FK{acs:List Ac}{k:Int}(h:inA acs k=true):acs[k.toNat]?=some (D8 acs k):=by
 have h1:=Hg.1 h;obtain⟨a,ha⟩:=AE (l:=acs) (i:=k.toNat);unfold D8;rw[if_pos h,ha,Bv ha]
theorem Nr{xs:List Int}:∀{i:Nat} {x y:Int},xs[i]?=some x->C2 (xs.set i y)=C2 xs - x+y:=by
 induction xs with
 |nil=>intro i x y h;cases h
 |cons z xs ih =>
  intro i x y h
  cases i with
  |zero =>
   simp only[qet,qb3]at h;subst h;rw[List.set_cons_zero,Cm,Cm];omega
  |succ i =>
   rw[List.set_cons_succ,Cm,Cm,ih (show xs[i]?=some x from h)];omega
theorem Ns(acs:List Ac)(k:Int)(a:Ac):bas (LK acs k a)=(bas acs).set k.toNat a.ba:=by
 unfold bas LK;rw[List.map_set]
theorem Nt(acs:List Ac)(k:Int)(a:Ac):(LK acs k a).length=acs.length:=by unfold LK;rw[qco]
theorem Us{acs:List Ac}{k:Int}{a:Ac}(h:F9 acs=0)(hk:inA acs k=true)(hm:Nj a=true)(hs:C2 (bas acs) - (D8 acs k).ba+a.ba<=4503599627370496):F9 (LK acs k a)=0:=by
 obtain⟨h1,h2,h3⟩:=Cv.1 h;have h4:=D7.1 h3;have hg:(bas acs)[k.toNat]?=some (D8 acs k).ba:=by unfold bas;rw[qa1,FK hk];rfl
 refine Cv.2 ⟨by rw[Nt];exact h1,fun b hb=>?_,D7.2 ⟨fun x hx=>?_,?_⟩⟩
 .unfold LK at hb
  rcases qew hb with h5|rfl
  .exact h2 b h5
  .exact hm
 .change x∈bas (LK acs k a)at hx
  rw[Ns]at hx
  rcases qew hx with h5|rfl
  .exact h4.1 x h5
  .exact CT.2 (G1.1 hm).1
 .change C2 (bas (LK acs k a))<=_
  rw[Ns,Nr hg];exact hs
theorem J7{acs:List Ac}{k:Int}(h:F9 acs=0)(hk:inA acs k=true):(0<=(D8 acs k).ba/\(D8 acs k).ba<=4503599627370496)/\0<=(D8 acs k).re/\(D8 acs k).re<=4503599627370496 :=
 G1.1 ((Cv.1 h).2.1 _ (qac (FK hk)))
theorem XO{acs:List Ac}(h:F9 acs=0):(∀x∈bas acs,Dp x=true)/\C2 (bas acs)<=4503599627370496:=D7.1 (Cv.1 h).2.2
theorem M4(acs:List Ac)(k x:Int):(GH acs k x≠0/\Fm acs k x=acs)\/(GH acs k x=0/\inA acs k=true/\0<x/\Dp x=true/\(Fl (bas acs++[x])).2=0/\Fm acs k x=LK acs k ⟨(D8 acs k).ba+x,(D8 acs k).re⟩):=by
 by_cases h:GH acs k x=0
 .refine .inr ⟨h,?_⟩;have h2:=h;unfold GH at h2
  cases h3:inA acs k with
  |false=>rw[if_pos h3]at h2;cases h2
  |true =>
   rw[if_neg (by rw[h3];decide)]at h2
   cases h4:(decide (0<x) && Dp x)with
   |false=>rw[if_pos h4]at h2;cases h2
   |true =>
    rw[if_neg (by rw[h4];decide)]at h2;rw[qae,qar]at h4
    by_cases h5:(Fl (bas acs++[x])).2≠0
    .rw[if_pos h5]at h2;cases h2
    .refine⟨rfl,h4.1,h4.2,by omega,?_⟩;unfold Fm;rw[if_pos h]
 .refine .inl ⟨h,?_⟩;unfold Fm;rw[if_neg h]
theorem Zq{acs:List Ac}(h:F9 acs=0)(k x:Int):F9 (Fm acs k x)=0/\(Fm acs k x).length=acs.length/\C2 (bas (Fm acs k x))=C2 (bas acs)+(if GH acs k x=0 then x else 0):=by
 rcases M4 acs k x with⟨h1,h2⟩|⟨h1,hk,hx,hm,ht,h2⟩
 .rw[h2,if_neg h1];exact⟨h,rfl,by omega⟩
 .have hg:=J7 h hk;have h3:=(D7.1 ht).2;rw[F8,Cm]at h3;have h4:C2 ([]:List Int)=0:=rfl;have hmem:(D8 acs k).ba∈bas acs:=qa4 (qac (FK hk));have h5:=VO (fun y hy=>(CT.1 ((XO h).1 y hy)).1) _ hmem;have hx2:=CT.1 hm;rw[h2,if_pos h1];refine⟨Us h hk (G1.2 ⟨⟨by dsimp only;omega,by dsimp only;omega⟩,hg.2⟩) (by dsimp only;omega),Nt ..,?_⟩;rw[Ns,Nr (x:=(D8 acs k).ba) (by unfold bas;rw[qa1,FK hk];rfl)];dsimp only;omega
theorem M5(acs:List Ac)(k x:Int):(Gg acs k x≠0/\EY acs k x=acs)\/(Gg acs k x=0/\inA acs k=true/\0<x/\Dp x=true/\x<=(D8 acs k).ba/\EY acs k x=LK acs k ⟨(D8 acs k).ba - x,(D8 acs k).re⟩):=by
 by_cases h:Gg acs k x=0
 .refine .inr ⟨h,?_⟩;have h2:=h;unfold Gg at h2
  cases h3:inA acs k with
  |false=>rw[if_pos h3]at h2;cases h2
  |true =>
   rw[if_neg (by rw[h3];decide)]at h2
   cases h4:(decide (0<x) && Dp x)with
   |false=>rw[if_pos h4]at h2;cases h2
   |true =>
    rw[if_neg (by rw[h4];decide)]at h2;rw[qae,qar]at h4
    by_cases h5:(D8 acs k).ba<x
    .rw[if_pos h5]at h2;cases h2
    .refine⟨rfl,h4.1,h4.2,by omega,?_⟩;unfold EY;rw[if_pos h]
 .refine .inl ⟨h,?_⟩;unfold EY;rw[if_neg h]
theorem Zr{acs:List Ac}(h:F9 acs=0)(k x:Int):F9 (EY acs k x)=0/\(EY acs k x).length=acs.length/\C2 (bas (EY acs k x))=C2 (bas acs) - (if Gg acs k x=0 then x else 0):=by
 rcases M5 acs k x with⟨h1,h2⟩|⟨h1,hk,hx,hm,hle,h2⟩
 .rw[h2,if_neg h1];exact⟨h,rfl,by omega⟩
 .have hg:=J7 h hk;have h3:=(XO h).2;rw[h2,if_pos h1];refine⟨Us h hk (G1.2 ⟨⟨by dsimp only;omega,by dsimp only;omega⟩,hg.2⟩) (by dsimp only;omega),Nt ..,?_⟩;rw[Ns,Nr (x:=(D8 acs k).ba) (by unfold bas;rw[qa1,FK hk];rfl)];dsimp only;omega
theorem SY(acs:List Ac)(k x:Int):(M1 acs k x≠0/\HM acs k x=acs)\/(M1 acs k x=0/\inA acs k=true/\Dp x=true/\HM acs k x=LK acs k ⟨(D8 acs k).ba,x⟩):=by
 by_cases h:M1 acs k x=0
 .refine .inr ⟨h,?_⟩;have h2:=h;unfold M1 at h2
  cases h3:inA acs k with
  |false=>rw[if_pos h3]at h2;cases h2
  |true =>
   rw[if_neg (by rw[h3];decide)]at h2
   cases h4:Dp x with
   |false=>rw[if_pos h4]at h2;cases h2
   |true =>
    refine⟨rfl,rfl,?_⟩;unfold HM;rw[if_pos h]
 .refine .inl ⟨h,?_⟩;unfold HM;rw[if_neg h]
theorem Agu{acs:List Ac}(h:F9 acs=0)(k x:Int):F9 (HM acs k x)=0/\(HM acs k x).length=acs.length/\C2 (bas (HM acs k x))=C2 (bas acs):=by
 rcases SY acs k x with⟨h1,h2⟩|⟨h1,hk,hm,h2⟩
 .rw[h2];exact⟨h,rfl,rfl⟩
 .have hg:=J7 h hk;have h3:=(XO h).2;have hx:=CT.1 hm;rw[h2];refine⟨Us h hk (G1.2 ⟨hg.1,hx⟩) (by dsimp only;omega),Nt ..,?_⟩;rw[Ns,Nr (x:=(D8 acs k).ba) (by unfold bas;rw[qa1,FK hk];rfl)];dsimp only;omega
theorem Agv{acs:List Ac}(h:F9 acs=0)(hl:acs.length<16):F9 (acs++[a00])=0/\C2 (bas (acs++[a00]))=C2 (bas acs):=by
 obtain⟨h1,h2,h3⟩:=Cv.1 h;have h4:=D7.1 h3
 have h5:C2 ((acs++[a00]).map Ac.ba)=C2 (acs.map Ac.ba):=by
  rw[qav,F8];show C2 (acs.map Ac.ba)+0=_;omega
 refine⟨Cv.2 ⟨by rw[qat,qb9];omega,fun b hb=>?_,D7.2 ⟨fun x hx=>?_,by rw[h5];exact h4.2⟩⟩,h5⟩
 .rcases qbc.1 hb with h6|h6
  .exact h2 b h6
  .rw[qab.1 h6];decide
 .rw[qav]at hx
  rcases qbc.1 hx with h6|h6
  .exact h4.1 x h6
  .rw[qab.1 h6];decide
def Agw(nx fr to x w u:Int):Du:=⟨nx,fr,to,x,w,u,false⟩
def J8(ds:List Du)(nx fr to x w u:Int):Int:=if E7 (Agw nx fr to x w u)=false then 1 else if 64<=ds.length\/4611686018427387904<=nx then 6 else if(Fl (ds.map Du.am++[x])).2≠0 then 13 else 0
def NZ(ds:List Du)(nx fr to x w u:Int):List Du:=if J8 ds nx fr to x w u=0 then ds++[Agw nx fr to x w u]else ds
def QS(ds:List Du)(nx fr to x w u:Int):Int:=if J8 ds nx fr to x w u=0 then nx+1 else nx
def LM(ds:List Du)(k:Int)(b:Bool):Int:=match CQ ds k with
 |none=>11
 |some d=>if d.held=b then 14 else 0
def Jn(ds:List Du)(k:Int)(b:Bool):List Du:=if LM ds k b=0 then ds.map fun d=>if d.id=k then{ d with held:=b }else d else ds
def Pp(ds:List Du)(k:Int):Int:=match CQ ds k with
 |none=>11
 |some _=>0
def Ut(ds:List Du)(k:Int):List Du:=ds.filter fun d => !decide (d.id=k)
def Oa(ds:List Du)(u:Int):List Du:=ds.filter fun d=>decide (u<=d.un)
theorem FA{ds:List Du}{nx:Int}(h:ofC ds nx=0):ds.length<=64/\(1<=nx/\nx<=4611686018427387904)/\Gf nx 0 ds=true/\C2 (ds.map Du.am)<=4503599627370496:=by
 obtain⟨h1,h2,h3,h4⟩:=FJ.1 h;exact⟨h1,h2,h3,(D7.1 h4).2⟩
theorem Uu{nx:Int}:∀{ah:Int} {ds:List Du},Gf nx ah ds=true↔(∀d∈ds,E7 d=true/\ah<d.id/\d.id<nx)/\(ds.map Du.id).Pairwise (·<·)
 |ah,[]=>⟨fun _=>⟨fun _ h=>(by cases h),List.Pairwise.nil⟩,fun _=>rfl⟩
 |ah,x::ds=>by
  simp only[Gf,qae,qar,qay,qbx];rw[Uu];constructor
  .rintro⟨⟨h1,h2,h3⟩,h4,h5⟩;refine⟨fun d hd=>?_,fun y hy=>?_,h5⟩
   .rcases qai.1 hd with rfl|hd
    .exact⟨h1,h2,h3⟩
    .obtain⟨g1,g2,g3⟩:=h4 d hd;exact⟨g1,by omega,g3⟩
   .obtain⟨d,hd,rfl⟩:=qah.1 hy;exact(h4 d hd).2.1
  .rintro⟨h1,h2,h3⟩;obtain⟨g1,g2,g3⟩:=h1 x (qak ..);refine⟨⟨g1,g2,g3⟩,fun d hd=>?_,h3⟩;obtain⟨k1,-,k3⟩:=h1 d (qaj _ hd);exact⟨k1,h2 _ (qa4 hd),k3⟩
theorem Uv{ds:List Du}{nx:Int}(h1:ds.length<=64)(h2:1<=nx/\nx<=4611686018427387904)(h3:∀d∈ds,E7 d=true/\0<d.id/\d.id<nx)(h4:(ds.map Du.id).Pairwise (·<·))(h5:C2 (ds.map Du.am)<=4503599627370496):ofC ds nx=0:=by
 refine FJ.2 ⟨h1,h2,Uu.2 ⟨h3,h4⟩,D7.2 ⟨fun x hx=>?_,h5⟩⟩;obtain⟨d,hd,rfl⟩:=qah.1 hx;have:=Ei (h3 d hd).1;exact CT.2 (by omega)
theorem Ie{ds:List Du}{nx:Int}(h:ofC ds nx=0):(∀d∈ds,E7 d=true/\0<d.id/\d.id<nx)/\(ds.map Du.id).Pairwise (·<·):=Uu.1 (FA h).2.2.1
theorem QT(p:Du->Bool):∀{ds:List Du},(∀d∈ds,0<=d.am)->C2 ((ds.filter p).map Du.am)<=C2 (ds.map Du.am)
 | [],_=>qa3 _
 |d::ds,h=>by
  have ih:=QT p (ds:=ds) fun e he=>h e (qaj _ he);have h0:=h d (qak ..);rw[qbw]
  split
  .rw[qay,qay,Cm,Cm];omega
  .rw[qay,Cm];omega
theorem SZ{ds:List Du}{nx:Int}(h:ofC ds nx=0)(p:Du->Bool):ofC (ds.filter p) nx=0:=by
 obtain⟨h1,h2,-,h4⟩:=FA h;obtain⟨h5,h6⟩:=Ie h;have h7:(ds.filter p).Sublist ds:=List.filter_sublist;refine Uv (qa6 h7.length_le h1) h2 (fun d hd=>h5 d (h7.subset hd)) ?_ (qbh (QT p fun d hd=>by have:=Ei (h5 d hd).1;omega) h4);exact h6.sublist (h7.map _)
theorem Aqv{ds:List Du}{nx:Int}(h:ofC ds nx=0)(fr to x w u:Int):ofC (NZ ds nx fr to x w u) (QS ds nx fr to x w u)=0:=by
 unfold NZ QS
 by_cases hC:J8 ds nx fr to x w u=0
 .rw[if_pos hC,if_pos hC];unfold J8 at hC
  cases hm:E7 (Agw nx fr to x w u)with
  |false=>rw[if_pos hm]at hC;cases hC
  |true =>
   rw[if_neg (by rw[hm];decide)]at hC
   by_cases hl:64<=ds.length\/4611686018427387904<=nx
   .rw[if_pos hl]at hC;cases hC
   .rw[if_neg hl]at hC
    by_cases ht:(Fl (ds.map Du.am++[x])).2≠0
    .rw[if_pos ht]at hC;cases hC
    .obtain⟨h1,h2,-,h4⟩:=FA h;obtain⟨h5,h6⟩:=Ie h;have h7:=(D7.1 (show(Fl (ds.map Du.am++[x])).2=0 by omega)).2;refine Uv (by rw[qat,qb9];omega) (by omega) (fun d hd=>?_) ?_ (by rw[qav];exact h7)
     .rcases qbc.1 hd with h8|h8
      .obtain⟨g1,g2,g3⟩:=h5 d h8;exact⟨g1,g2,by omega⟩
      .rw[qab.1 h8];exact⟨hm,by show 0<nx;omega,by show nx<nx+1;omega⟩
     .rw[qav,qcd];refine⟨h6,List.pairwise_singleton ..,fun y hy z hz=>?_⟩;obtain⟨d,hd,rfl⟩:=qah.1 hy;have hz':z=nx:=by simpa[Agw]using hz
      rw[hz'];exact(h5 d hd).2.2
 .rw[if_neg hC,if_neg hC];exact h
theorem Agx{ds:List Du}{nx:Int}(h:ofC ds nx=0)(k:Int)(b:Bool):ofC (Jn ds k b) nx=0:=by
 unfold Jn
 split
 .obtain⟨h1,h2,-,h4⟩:=FA h;obtain⟨h5,h6⟩:=Ie h
  have hid:(ds.map fun d=>if d.id=k then{ d with held:=b }else d).map Du.id=ds.map Du.id:=by
   rw[qcf];refine qbo fun d _=>?_;show(if d.id=k then({ d with held:=b }:Du)else d).id=d.id
   split <;> rfl
  have ham:(ds.map fun d=>if d.id=k then{ d with held:=b }else d).map Du.am=ds.map Du.am:=by
   rw[qcf];refine qbo fun d _=>?_;show(if d.id=k then({ d with held:=b }:Du)else d).am=d.am
   split <;> rfl
  refine Uv (by rw[qal];exact h1) h2 (fun e he=>?_) (by rw[hid];exact h6) (by rw[ham];exact h4);obtain⟨d,hd,rfl⟩:=qah.1 he;obtain⟨g1,g2,g3⟩:=h5 d hd
  split
  .exact⟨g1,g2,g3⟩
  .exact⟨g1,g2,g3⟩
 .exact h
theorem Agy{ds:List Du}{k:Int}{b:Bool}{n:Nat}(h:∀d∈ds,d.fr<(n:Int)/\d.to<(n:Int)){e:Du}(he:e∈Jn ds k b):e.fr<(n:Int)/\e.to<(n:Int):=by
 unfold Jn at he
 split at he
 .obtain⟨d,hd,rfl⟩:=qah.1 he
  split
  .exact h d hd
  .exact h d hd
 .exact h e he
def Ta:BitVec 32:=0xedb88320#32
def QU(w:BitVec 32):BitVec 32:=(w >>> 1) ^^^ (if w.getLsbD 0 then Ta else 0#32)
def Akq(x:BitVec 32):BitVec 32:=if x.getLsbD 31 then((x ^^^ Ta) <<< 1) ||| 1#32 else x <<< 1
def Er:Nat->BitVec 32->BitVec 32
 |0,w=>w
 |n+1,w=>Er n (QU w)
def Wa:Nat->BitVec 32->BitVec 32
 |0,w=>w
 |n+1,w=>Akq (Wa n w)
def HU(c:UInt8):BitVec 32:=BitVec.ofNat 32 c.toNat
def Agz(w:BitVec 32)(c:UInt8):BitVec 32:=Er 8 (w ^^^ HU c)
def moreW(s:BitVec 32)(l:List UInt8):BitVec 32 := ~~~ (l.foldl Agz (~~~ s))
def sumW(l:List UInt8):BitVec 32:=moreW 0#32 l
theorem Ag0(a b:BitVec 32):QU (a ^^^ b)=QU a ^^^ QU b:=by
 unfold QU;rw[BitVec.getLsbD_xor,BitVec.ushiftRight_xor_distrib];cases a.getLsbD 0 <;> cases b.getLsbD 0 <;> simp only[Bool.xor_false,Bool.xor_true,Bool.not_true,Bool.not_false,if_true,qbk,if_false,BitVec.xor_zero]
 .ac_rfl
 .ac_rfl
 .rw[show a >>> 1 ^^^ Ta ^^^ (b >>> 1 ^^^ Ta)=a >>> 1 ^^^ b >>> 1 ^^^ (Ta ^^^ Ta)by ac_rfl,BitVec.xor_self,BitVec.xor_zero]
theorem Ob:∀(n:Nat) (a b:BitVec 32),Er n (a ^^^ b)=Er n a ^^^ Er n b
 |0,_,_=>rfl
 |n+1,a,b=>by simp only[Er];rw[Ag0,Ob n]
theorem J9:∀(m n:Nat) (w:BitVec 32),Er n (Er m w)=Er (m+n) w
 |0,n,w=>by simp[Er]
 |m+1,n,w=>by rw[Nat.succ_add];simp only[Er];exact J9 m n _
def xorL:List UInt8->List UInt8->List UInt8
 |a::l,b::m=>(a ^^^ b)::xorL l m
 |_,_=>[]
theorem Tb:∀(n:Nat) (w:BitVec 32),(∀i,i<n->w.getLsbD i=false)->Er n w=w >>> n
 |0,w,_=>by simp[Er]
 |n+1,w,h=>by
  have h0:QU w=w >>> 1:=by
   unfold QU;rw[h 0 (by omega)];simp
  simp only[Er];rw[h0,Tb n (w >>> 1) (fun i hi=>by rw[BitVec.getLsbD_ushiftRight];exact h _ (by omega)),<-BitVec.shiftRight_add,qcy 1 n]
theorem Uw(c:UInt8)(n:Nat)(hn:n<=24:=by omega):Er n (HU c <<< n)=HU c:=by
 rw[Tb n _ (fun i hi=>by simp[BitVec.getLsbD_shiftLeft,hi])];have hc:c.toNat<256:=c.toNat_lt;apply BitVec.eq_of_toNat_eq;unfold HU;rw[BitVec.toNat_ushiftRight,BitVec.toNat_shiftLeft,BitVec.toNat_ofNat,qbr (by omega:c.toNat<2 ^ 32),Nat.shiftLeft_eq]
 have h1:c.toNat*2 ^ n<2 ^ 32:=by
  have h2:2 ^ n<=2 ^ 24:=qdi (by omega) hn
  calc c.toNat*2 ^ n<=255*2 ^ 24:=qec (by omega) h2
   _<2 ^ 32:=by decide
 rw[qbr h1,Nat.shiftRight_eq_div_pow,Nat.mul_div_cancel _ (Nat.two_pow_pos n)]
def Amr(a b c d:UInt8):BitVec 32:=HU a ^^^ (HU b <<< 8) ^^^ (HU c <<< 16) ^^^ (HU d <<< 24)
theorem four(w:BitVec 32)(a b c d:UInt8):[a,b,c,d].foldl Agz w=Er 32 (w ^^^ Amr a b c d):=by
 have ha:Er 32 (HU a)=Er 32 (HU a):=rfl
 have hb:Er 24 (HU b)=Er 32 (HU b <<< 8):=by
  rw[<-J9 8 24,Uw b 8]
 have hc:Er 16 (HU c)=Er 32 (HU c <<< 16):=by
  rw[<-J9 16 16,Uw c 16]
 have hd:Er 8 (HU d)=Er 32 (HU d <<< 24):=by
  rw[<-J9 24 8,Uw d 24]
 simp only[qc9,List.foldl_nil,Agz,Ob,J9];rw[hb,hc,hd,show 8+(8+(8+8))=32 from rfl];simp only[Amr,Ob]
 ac_rfl
def burstB(o v:Nat):Bool:=(Wa 32 (BitVec.ofNat 32 v)).toNat % 2 ^ o == 0
theorem P9(b:UInt8):b.toNat<256:=b.toNat_lt
def Ams:List UInt8->Nat
 | []=>0
 |c::l=>c.toNat+256*Ams l
def Aqw(b:List UInt8):Bool:=decide (4<=b.length) && decide ((sumW (b.take (b.length - 4))).toNat=Ams (b.drop (b.length - 4)))
theorem Fresh.rdB{w w':World}{t:Nat}{s:Value}{xs:List UInt8}(h:Fresh w w' t 1 s (xs.map bv)):∃a c,s=.slice a xs.length c/\Rd w' a 1 B8 xs/\xs.length<=c:=by
 obtain⟨a,n,c,full,rfl,O,hb⟩:=h.ex;have hn:=O.num;subst hn;exact⟨a,c,rfl,O.rd1 (t:=t) fun x hx=>(hb x hx).1,O.le⟩
theorem Rd.appB{w:World}{a:Option Addr}{l:List UInt8}(R:Rd w a 1 B8 l):∀j v,(l.map bv)[j]?=some v->∃p,a=some p/\w.cell? (p.add j)=some v:=Rd.app1 (f:=bv) R
theorem OS.rdB{w:World}{a:Option Addr}{n c:Nat}{t:TypeId}{full:List Value}{xs:List UInt8}(h:OS a n c 1 full (xs.map bv))(hb:∀x∈ent a t full,w.heap[x.1]?=some x.2):Rd w a 1 B8 xs:=OS.rd1 h hb
theorem Fresh.since{w0 w w':World}{t s:Nat}{v:Value}{l:List Value}(h:Fresh w w' t s v l)(hx:Ext [] w0 w):Fresh w0 w' t s v l :=
 ⟨let ⟨a,n,c,full,h1,h2,h3⟩:=h.ex;⟨a,n,c,full,h1,h2,fun x hx'=>⟨(h3 x hx').1,qa6 hx.size (h3 x hx').2⟩⟩,hx.trans h.ext⟩
theorem Nu(a:Option Addr)(c n:Nat)(l:List UInt8)(w:World)(R:Rd w a 1 B8 l)(hn:l.length=n)(hm:n<=140737488351232:=by omega):
  Ret prog 58 #[.slice a n c] w fun v w'=>Fresh w w' 5 1 v (l.map bv)/\(a=none->v=.slice none 0 0):=by
 subst hn;obtain⟨w0,rfl,H⟩:=qE w;refine Au (fn:=f58) func58 U [.slice a l.length c] U (Ae (Am U (qA (Ax (Ae (Ap U (Ih U De U (qA (Aw _ U ?_ ?_)))))))))
 .intro h1;have ha:a=none:=by simpa using h1
  subst ha
  have hl:l=[]:=by
   cases l with
   |nil=>rfl
   |cons x l=>obtain⟨b,o,h⟩:=R.some' (by simp);cases h
  subst hl;refine Ae (Am U (qA (A5 (Av (AB (v:=(.slice _ _ _)) U U U ?_)))));exact⟨Fresh.nil H _ _,fun _=>rfl⟩
 .intro h1;refine Ay (Aa (Ae (GQ De IK H ?_)));rintro b5 w H O;refine Ap U (GO U De De IK by_5 Vr U (l.map bv) U U H O (by simp) (Am1 l) (Rd.appB (R.ext0 H.ext)) ?_);rintro a7 c7 full7 w H O;refine Am U (qA (A5 (AB (v:=(.slice _ _ _)) U U U ?_)));exact⟨Ctx.fresh H (by simpa using O),fun h=>by subst h;cases h1⟩
def Kp(k:Int):Bool:=decide (k=1) || (decide (k=2) || (decide (k=4) || decide (k=8)))
theorem Wb{k:Int}(h:Kp k=true):∃n:Nat,k=n/\1<=n/\n<=8:=by
 simp only[Kp,qbf,qar]at h;exact⟨k.toNat,by omega,by omega,by omega⟩
theorem Abq(k:Int):∃z:Int,Option.getD (if k=8 then some (Value.int .i64 64)else if k=4 then some (Value.int .i64 32)else if k=2 then some (Value.int .i64 16)else if k=1 then some (Value.int .i64 8)else none) (Value.int .i64 0)=.int .i64 z/\decide (0<z)=Kp k:=by
 by_cases h8:k=8
 .exact⟨64,by simp[h8],by simp[Kp,h8]⟩
 by_cases h4:k=4
 .exact⟨32,by simp[h4],by simp[Kp,h4]⟩
 by_cases h2:k=2
 .exact⟨16,by simp[h2],by simp[Kp,h2]⟩
 by_cases h1:k=1
 .exact⟨8,by simp[h1],by simp[Kp,h1]⟩
 exact⟨0,by simp[h8,h4,h2,h1],by simp[Kp,h8,h4,h2,h1]⟩
theorem Tc(k:Int)(w:World):Ret prog 163 #[.int .i64 k] w fun v w'=>v=.bool (Kp k)/\Ext [] w w':=by
 obtain⟨w0,rfl,H⟩:=qE w;refine Au (fn:=f163) func163 U [.int .i64 k] U (Ae (Ai U (qA (Ae (Mi .i64 U H ?_)))));rintro b4 o4 w hM H;refine L5 (.int _ _) U Qz Ho U U U H at0 hM ?_;rintro o w hM H;refine L5 (.int _ _) U Qz Ho U U U H at0 hM ?_;rintro o w hM H;refine L5 (.int _ _) U Qz Ho U U U H at0 hM ?_;rintro o w hM H;refine L5 (.int _ _) U Qz Ho U U U H at0 hM ?_;rintro o w hM H;refine UO U U (WU U U (qA (Ae (UO U U (Af U (ZH U Qz Ho zv_3 U U H at0 hM ?_))))));simp only[ZG,Acv];obtain⟨z,hz,hzb⟩:=Abq k;rw[hz];refine C8 U U (Ai U (qA (A5 (AB (v:=(.bool _)) U U U ?_))));exact⟨qaa Value.bool hzb,H.ext⟩
def Co(n k:Nat):List UInt8:=(List.range k).map fun i=>UInt8.ofNat (n / 2 ^ (8*(k - 1 - i)))
theorem Cz(n k:Nat):(Co n k).length=k:=by simp[Co]
theorem Td{n k i:Nat}(h:i<k):(Co n k).take (i+1)=(Co n k).take i++[UInt8.ofNat (n / 2 ^ (8*(k - 1 - i)))]:=Ee (Ec h)
theorem Oc(x:Nat):Value.int .u8 ((x % 256:Nat):Int)=bv (UInt8.ofNat x):=by
 unfold bv;congr 2
def putB(l:List UInt8)(n:Nat)(k:Int):List UInt8:=bif Kp k then l++Co n k.toNat else l
theorem QV(a:Option Addr)(c m:Nat)(l:List UInt8)(n:Nat)(k:Int)(w:World)(R:Rd w a 1 B8 l)(hml:l.length=m)(_:n<18446744073709551616)(hm:m<=140737488351231:=by omega):
  Ret prog 164 #[.slice a m c,.int .u64 (n:Int),.int .i64 k] w fun v w'=>Fresh w w' 5 1 v ((putB l n k).map bv):=by
 subst hml;obtain⟨w0,rfl⟩:=qD w;refine Au (fn:=f164) func164 U [.slice a l.length c,.int .u64 (n:Int),.int .i64 k] U (Ae (Am U (qA (Ae (Ap U (Al qB (Nu a c l.length l _ R U) U ?_))))));rintro v w ⟨F,-⟩;obtain⟨a7,n7,c7,full7,rfl,O,hb⟩:=F.ex;have hn7:n7=l.length:=OS.num O;subst hn7;have H:Ctx w0 [] w (ent a7 5 full7):=⟨F.ext,fun x hx=>(hb x hx).1,Fu,fun x hx => .inr (hb x hx).2⟩;refine Am U (qA (Ax (Ae (Af U (Al qB (Tc k _) U ?_)))));rintro v w ⟨rfl,hx⟩;replace H:=H.call hx;refine BP U (qA (Aw _ U ?_ ?_))
 .intro h1;replace h1:=BM h1;refine Ae (Ap U (Am U (qA (A5 (Av (AB (v:=(.slice _ _ _)) U U U ?_))))));rw[putB,h1];exact Ctx.fresh (L:=[]) H O
 .intro h1;replace h1:=BN h1;obtain⟨q,rfl,hq1,hq8⟩:=Wb h1;rw[putB,h1,show((q:Int)).toNat=q from rfl];refine Ay (Aa (Ax (Ae (Af U (Af U (qA (A1 (Bw 2147418496 (α:=Nat × Option Addr × Nat × List Value) (fun x=>[(16,.int .i64 x.1),(7,.slice x.2.1 (l.length+x.1) x.2.2.1)]) (fun x w'=>x.1<=q/\Ctx w0 [] w' (ent x.2.1 5 x.2.2.2)/\OS x.2.1 (l.length+x.1) x.2.2.1 1 x.2.2.2 ((l++(Co n q).take x.1).map bv)) (fun x=>q - x.1) (0,a7,c7,full7) U ?_ ?_ ?_))))))))
  .exact⟨rfl,rfl,trivial⟩
  .exact⟨qaq _,H,by simpa using O⟩
  .rintro⟨i,a7,c7,full7⟩ j w ⟨hi,H,O⟩;dsimp only at hi H O;dsimp only;refine Ae (Bm U U (qA (Ax (Aw _ U ?_ ?_))))
   .intro h2;replace h2:=AM h2;refine Ay (Aa (Ax (A1 (Ae (Af U (Ad U (qA (A0 (Ap U (Af U ?_))))))))));refine Af U (Bo U U ?_);refine Af U (Bo U U ?_);refine D0 U U ?_;rw[show(8:Int)*((q:Int) - 1 - (i:Int))=((8*(q - 1 - i):Nat):Int)from by omega];refine EJ U U (Oy U U Dc Hr ?_);rw[Oc];refine Cp _ (.int _ _) De IK Vr U U U U H ?_;rintro b28 w - H;refine Cy (L:=[]) De De IK by_5 Vr U U U H O U (by simp[AY]) ?_;rintro a9 c9 full9 w H O;refine Am U (Ab (A8 (Aa (A0 (Az U U ?_)))));refine Af U (qA ?_);refine⟨(i+1,a9,c9,full9),rfl,⟨rfl,rfl,trivial⟩,⟨by omega,H,?_⟩,by dsimp only;omega⟩;dsimp only
    have O':OS a9 (l.length+(i+1)) c9 1 full9 ((l++(Co n q).take i).map bv++[UInt8.ofNat (n / 2 ^ (8*(q - 1 - i)))].map bv):=O;rw[<-qav,qas,<-Td (by omega)]at O';exact O'
   .intro h2;replace h2:=AN h2;have hiq:i=q:=by omega
    subst hiq;refine Bt (An (An (AK (Aa (Ae (Ap U (Am U (qA (A5 (AB (v:=(.slice _ _ _)) U U U ?_))))))))));have hl:(Co n i).take i=Co n i:=qc2 (by rw[Cz];exact qam _);rw[hl]at O;exact Ctx.fresh (L:=[]) H O
def numN(l:List UInt8):Nat:=l.foldl (fun n c=>n*256+c.toNat) 0
theorem Od(l:List UInt8)(c:UInt8):numN (l++[c])=numN l*256+c.toNat:=by simp[numN]
theorem Ux(l:List UInt8):numN l<256 ^ l.length:=by
 have h:∀(l:List UInt8) (n k:Nat),n<256 ^ k->l.foldl (fun n c=>n*256+c.toNat) n<256 ^ (k+l.length):=by
  intro l
  induction l with
  |nil=>intro n k h;simpa using h
  |cons c l ih =>
   intro n k h;have hc:=P9 c;have:=ih (n*256+c.toNat) (k+1) (by rw[Nat.pow_succ];omega)
   simpa[qcm,qcy 1]using this
 have:=h l 0 0 (by simp);rw[qaz]at this;exact this
theorem Ag1{l:List UInt8}{i:Nat}{c:UInt8}(h:l[i]?=some c)(hi:i<8:=by omega):(numN (l.take i)*2 ^ 8 % 18446744073709551616) ||| c.toNat=numN (l.take (i+1)):=by
 have h1:=Ux (l.take i);have hc:=P9 c;have hlen:(l.take i).length<=7:=by rw[qbb];omega
 have h2:256 ^ (l.take i).length<=256 ^ 7:=qdi (by omega) hlen;have h3:(256:Nat) ^ 7=72057594037927936:=by decide
 rw[Ee h,Od,qbr (by omega),Nat.mul_comm,<-Nat.two_pow_add_eq_or_of_lt (by omega)]
def Kq(l:List UInt8)(at' k:Int):Int:=bif Kp k && (decide (0<=at') && decide (at'<=l.length))then(bif decide (k<=(l.length:Int) - at')then 0 else 5)else 1
def Pd(l:List UInt8)(at' k:Int):Value:=bif decide (Kq l at' k=0)then .tuple #[.int .u64 (numN ((l.drop at'.toNat).take k.toNat):Int),.int .i64 (at'+k),.int .i64 0]else .tuple #[.int .u64 0,.int .i64 0,.int .i64 (Kq l at' k)]
theorem Ag2(a:Option Addr)(c m:Nat)(l:List UInt8)(at' k:Int)(w:World)(R:Rd w a 1 B8 l)(hml:l.length=m)(hc:l.length<=c)(hm:m<=9223372036854775799:=by omega):
  Ret prog 131 #[.slice a m c,.int .i64 at',.int .i64 k] w fun v w'=>v=Pd l at' k/\Ext [] w w':=by
 subst hml;obtain⟨w0,rfl,H⟩:=qE w;refine Au (fn:=f131) func131 U [.slice a l.length c,.int .i64 at',.int .i64 k] U (Ae (Ad U (Ad U (Ad U (qA (Ax (A1 (Ax (Ae (Af U ?_))))))))));refine Al qB (Tc k _) U ?_;rintro v w ⟨rfl,hx⟩;replace H:=H.call hx;refine BP U (Ai U (qA (Dj 11 U ?_ ?_)))
 .intro h1;replace h1:=BM h1;have he:Kq l at' k=1:=by unfold Kq;rw[h1];rfl
  refine Ay (Aa (DB U (Ae (Ad U (Ad U (Ad U (qA (A5 (AF (Av (Io (v1:=(.int _ _)) (v2:=(.int _ _)) (v3:=(.int _ _)) U U U U U ?_)))))))))));exact⟨by rw[Pd,he];rfl,H.ext⟩
 .intro h1;replace h1:=BN h1;refine Ae (Af U (Bm U U (Ai U (qA (Dj 11 U ?_ ?_)))))
  .intro h2;replace h2:=AM h2;have he:Kq l at' k=1:=by unfold Kq;rw[qa2 (show ¬0<=at' by omega),qdv,qc4];rfl
   refine Ay (Aa (DB U (Ae (Ad U (Ad U (Ad U (qA (A5 (AF (Av (Io (v1:=(.int _ _)) (v2:=(.int _ _)) (v3:=(.int _ _)) U U U U U ?_)))))))))));exact⟨by rw[Pd,he];rfl,H.ext⟩
  .intro h2;replace h2:=AN h2;refine A0 (Af U (Ap U (Be De U (C8 U U (Ai U (qA (Dj 11 U ?_ ?_)))))))
   .intro h3;replace h3:=AM h3;have he:Kq l at' k=1:=by unfold Kq;rw[qa2 (show ¬at'<=(l.length:Int)by omega),qc4,qc4];rfl
    refine Ae (Ad U (Ad U (Ad U (qA (A5 (AF (Av (Io (v1:=(.int _ _)) (v2:=(.int _ _)) (v3:=(.int _ _)) U U U U U ?_))))))));exact⟨by rw[Pd,he];rfl,H.ext⟩
   .intro h3;replace h3:=AN h3;obtain⟨q,rfl,hq1,hq8⟩:=Wb h1;obtain⟨o,rfl⟩:∃o:Nat,at'=o:=⟨at'.toNat,by omega⟩
    have hE:Kq l (o:Int) (q:Int)=bif decide ((q:Int)<=(l.length:Int) - (o:Int))then 0 else 5:=by
     unfold Kq;rw[h1,qan (show(0:Int)<=(o:Int)by omega),qan (show(o:Int)<=(l.length:Int)by omega)];rfl
    refine Ae (Ap U (Be De U (Af U (Bo U U ?_))));refine Af U (Bm U U (Ai U (qA (Aw _ U ?_ ?_))))
    .intro h4;replace h4:=AM h4;rw[qa2 (by omega)]at hE;refine Ae (Ad U (Ad U (Ad U (qA (A5 (AF (Av (Io (v1:=(.int _ _)) (v2:=(.int _ _)) (v3:=(.int _ _)) U U U U U ?_))))))));exact⟨by rw[Pd,hE];rfl,H.ext⟩
    .intro h4;replace h4:=AN h4;rw[qan (by omega)]at hE;have R':=((R.ext0 H.ext).cut o c hc).take q;have hl:((l.drop o).take q).length=q:=by rw[qbb,qc1];omega
     refine Ay (A8 (Aa (Ae (Af U (Af U (Az U U ?_))))));refine Ad U (qA (Ax (Ae (Ap U (Af U (Af U (Rz U De IK U U U ?_)))))));refine Be De U (Af U (qA (A1 ?_)));rw[show((o:Int)+(q:Int)).toNat - ((o:Int)).toNat=q by omega];refine Bw 70300024702016 (α:=Nat) (fun i=>[(36,.int .i64 i),(6,.int .u64 (numN (((l.drop o).take q).take i):Int))]) (fun i w'=>i<=q/\w=w') (fun i=>q - i) 0 U ?_ ?_ ?_
     .exact⟨rfl,rfl,trivial⟩
     .exact⟨qaq _,rfl⟩
     .rintro i j _ ⟨hi,rfl⟩;refine Ae (Bm U U (qA (Ax (Aw _ U ?_ ?_))))
      .intro h5;replace h5:=AM h5;obtain⟨x,hx⟩:=AE (l:=(l.drop o).take q) (i:=i);have hxb:=P9 x;have hlt:=Ux (((l.drop o).take q).take (i+1));have hst:=Ag1 hx;refine Ay (Aa (Ax (A1 (Ae (Bg R' De IK U U (by omega) ?_)))));refine Bb Kv U (R'.one (f:=bv) hx) (Ad U (qA (A0 (Af U (PW (n:=8) U U U (by omega) ?_)))));refine Af U (D5 U Hr Dc ?_);refine ZJ U U U (qda _ (by decide)) ?_;rw[hst];refine Ad U (Ab (A8 (Aa (A0 (Az U U ?_)))));refine Af U (qA ?_);exact⟨i+1,rfl,⟨rfl,rfl,trivial⟩,⟨by omega,rfl⟩,by omega⟩
      .intro h5;replace h5:=AN h5;have hiq:i=q:=by omega
       subst hiq;rw[show((l.drop o).take i).take i=(l.drop o).take i from qc2 (by omega)];refine Bt (An (An (AK (Aa (Ae (Af U (Af U (Ad U (Ad U (Ad U (qA (A5 (Io (v1:=(.int _ _)) (v2:=(.int _ _)) (v3:=(.int _ _)) U U U U U ?_)))))))))))));exact⟨by rw[Pd,hE];rfl,H.ext⟩
def allZ(l:List UInt8):Bool:=l.all fun b=>b == 0
def le4(s:Nat):List UInt8:=(List.range 4).map fun i=>UInt8.ofNat (s / 2 ^ (8*i))
def Amt(k:UInt8)(l:List UInt8):List UInt8:=k::(Co l.length 2++(l++List.replicate (505 - l.length) 0))
def sealB(k:UInt8)(l:List UInt8):List UInt8:=Amt k l++le4 (sumW (Amt k l)).toNat
def Ag3(k:UInt8)(l:List UInt8):Int:=bif decide (k.toNat=0)then 1 else bif decide (505<l.length)then 6 else 0
structure Bytes(w w':World)(v:Value)(l:List UInt8):Prop where
 ex:∃a c,v=.slice a l.length c/\Rd w' a 1 B8 l/\l.length<=c/\w.heap.size<=(adr a).block
 ext:Ext [] w w'
def SealPost(k:UInt8)(l:List UInt8)(w:World)(v:Value)(w':World):Prop :=
 (Ag3 k l≠0/\v=.tuple #[.slice none 0 0,.int .i64 (Ag3 k l)]/\Ext [] w w') \/
 (Ag3 k l=0/\∃s,v=.tuple #[s,.int .i64 0]/\Bytes w w' s (sealB k l))
def preB(k:UInt8)(l:List UInt8)(z:Nat):List UInt8:=(k::Co l.length 2)++(l++List.replicate z 0)
def Amu(b:List UInt8):UInt8:=(b[0]?).getD 0
def numB(b:List UInt8):Nat:=numN ((b.drop 1).take 2)
def Amv(b:List UInt8):List UInt8:=(b.drop 3).take 505
def bodyB(b:List UInt8):List UInt8:=(Amv b).take (numB b)
def openB(b:List UInt8):Bool := !decide ((Amu b).toNat=0) && (decide (numB b<=505) && allZ ((Amv b).drop (numB b)))
def Ag4(b:List UInt8):Int:=bif !(decide (b.length=512) && Aqw b)then 9 else bif openB b then 0 else 5
def OpenPost(b:List UInt8)(w:World)(v:Value)(w':World):Prop :=
 (Ag4 b≠0/\v=.tuple #[.int .u8 0,.slice none 0 0,.int .i64 (Ag4 b)]/\Ext [] w w') \/
 (Ag4 b=0/\∃s,v=.tuple #[bv (Amu b),s,.int .i64 0]/\Fresh w w' 5 1 s ((bodyB b).map bv))
theorem Abr(n k:Nat):Co n (k+1)=Co (n / 256) k++[UInt8.ofNat n]:=by
 unfold Co;rw[qdx,qav]
 congr 1
 .refine qbo fun i hi=>?_;have hi':=qa5.1 hi;rw[Nat.div_div_eq_div_mul,show(256:Nat)=2 ^ 8 from rfl,<-Nat.pow_add]
  congr 3
  omega
 .simp
theorem Abs(k:Nat):∀n,numN (Co n k)=n % 256 ^ k:=by
 induction k with
 |zero=>intro n;simp[Co,numN,Nat.mod_one]
 |succ k ih =>
  intro n;rw[Abr,Od,ih];have h1:(UInt8.ofNat n).toNat=n % 256:=by simp[UInt8.toNat_ofNat']
  rw[h1,Nat.pow_succ,Nat.mul_comm (256 ^ k) 256,Nat.mod_mul];omega
def w64(n:Int):Nat:=(n % 18446744073709551616).toNat
theorem Lt(n:Int):w64 n<18446744073709551616:=by unfold w64;omega
theorem QW{n:Int}(h0:0<=n:=by omega)(h1:n<18446744073709551616:=by omega):w64 n=n.toNat:=by unfold w64;omega
theorem Hx(n:Int):IntKind.u64.wrap n=((w64 n:Nat):Int):=by
 have h:IntKind.u64.wrap n=n % 18446744073709551616:=rfl;rw[h];unfold w64;omega
def CU(l:List UInt8)(i k:Nat):Nat:=numN ((l.drop i).take k)
theorem HN{l pre post:List UInt8}{n k i:Nat}(h:l=pre++(Co n k++post))(hi:pre.length=i):CU l i k=n % 256 ^ k:=by
 subst h hi;unfold CU;rw[List.drop_left,List.take_append_of_le_length (by rw[Cz];exact qam _),qc2 (by rw[Cz];exact qam _),Abs]
theorem QX(l:List UInt8)(i k:Nat):CU l i k<256 ^ k:=by
 unfold CU;have h1:=Ux ((l.drop i).take k);have h2:((l.drop i).take k).length<=k:=by rw[qbb];omega
 exact qa7 h1 (qdi (by decide) h2)
theorem Abt(l:List UInt8)(i:Nat):CU l i 1<256:=QX l i 1
theorem RM(l:List UInt8)(i:Nat):CU l i 2<65536:=QX l i 2
theorem fld4(l:List UInt8)(i:Nat):CU l i 4<4294967296:=QX l i 4
theorem Wc(l:List UInt8)(i:Nat):CU l i 8<18446744073709551616:=QX l i 8
def sgN(b n:Nat):Int:=if n<b then n else(n:Int) - 2*b
def EK(c n:Nat)(k:Ak):List UInt8:=Co c 4++(Co n 8++(Co (w64 k.kd) 1++(Co (w64 k.a) 1++(Co (w64 k.b) 2++(Co (w64 k.x) 8++(Co (w64 k.w) 2++(Co (w64 k.u) 8++(Co (w64 k.id) 8++[]))))))))
theorem Nv(c n:Nat)(k:Ak):(EK c n k).length=42:=by simp[EK,Cz]
def Ig(l:List UInt8):Ak:=⟨CU l 12 1,CU l 13 1,sgN 32768 (CU l 14 2),sgN 9223372036854775808 (CU l 16 8),CU l 24 2,sgN 9223372036854775808 (CU l 26 8),CU l 34 8⟩
def DZ(l:List UInt8):Bool:=decide (l.length=42) && (decide (1<=CU l 12 1) && decide (CU l 12 1<=15))
structure MayB(k:Ak):Prop where
 kd:1<=k.kd/\k.kd<=15
 a:0<=k.a/\k.a<=255
 b : -32768<=k.b/\k.b<=32767
 x : -9223372036854775808<=k.x/\k.x<=9223372036854775807
 w:0<=k.w/\k.w<=65535
 u : -9223372036854775808<=k.u/\k.u<=9223372036854775807
 id:0<=k.id/\k.id<=18446744073709551615
structure MayP(k:Ak):Prop where
 kd:0<=k.kd/\k.kd<=255
 a:0<=k.a/\k.a<=255
 b : -32768<=k.b/\k.b<=32767
 x : -9223372036854775808<=k.x/\k.x<=9223372036854775807
 w:0<=k.w/\k.w<=65535
 u : -9223372036854775808<=k.u/\k.u<=9223372036854775807
 id:0<=k.id/\k.id<=18446744073709551615
theorem MayB.p{k:Ak}(h:MayB k):MayP k:=⟨⟨qbh (by decide) h.kd.1,qbh h.kd.2 (by decide)⟩,h.a,h.b,h.x,h.w,h.u,h.id⟩
theorem Zs{x:Int}(h : -9223372036854775808<=x/\x<=9223372036854775807):sgN 9223372036854775808 (w64 x % 256 ^ 8)=x:=by
 unfold sgN w64
 split <;> omega
theorem Akr{x:Int}(h : -32768<=x/\x<=32767):sgN 32768 (w64 x % 256 ^ 2)=x:=by
 unfold sgN w64
 split <;> omega
theorem Aks{c n:Nat}{k:Ak}(hc:c<4294967296)(hn:n<18446744073709551616)(h:MayB k):DZ (EK c n k)=true/\CU (EK c n k) 0 4=c/\CU (EK c n k) 4 8=n/\Ig (EK c n k)=k:=by
 obtain⟨kd,a,b,x,w,u,id⟩:=k;obtain⟨h1,h2,h3,h4,h5,h6,h7⟩:=h;dsimp only at h1 h2 h3 h4 h5 h6 h7;have e0:=HN (l:=EK c n ⟨kd,a,b,x,w,u,id⟩) (pre:=[]) (n:=c) (k:=4) (i:=0) rfl rfl;have e1:=HN (l:=EK c n ⟨kd,a,b,x,w,u,id⟩) (pre:=Co c 4) (n:=n) (k:=8) (i:=4) rfl (by rw[Cz]);have e2:=HN (l:=EK c n ⟨kd,a,b,x,w,u,id⟩) (pre:=Co c 4++Co n 8) (n:=w64 kd) (k:=1) (i:=12) (by unfold EK;simp only[qas];rfl) (by simp[Cz]);have e3:=HN (l:=EK c n ⟨kd,a,b,x,w,u,id⟩) (pre:=Co c 4++Co n 8++Co (w64 kd) 1) (n:=w64 a) (k:=1) (i:=13) (by unfold EK;simp only[qas];rfl) (by simp[Cz]);have e4:=HN (l:=EK c n ⟨kd,a,b,x,w,u,id⟩) (pre:=Co c 4++Co n 8++Co (w64 kd) 1++Co (w64 a) 1) (n:=w64 b) (k:=2) (i:=14) (by unfold EK;simp only[qas];rfl) (by simp[Cz])
 have e5:=HN (l:=EK c n ⟨kd,a,b,x,w,u,id⟩) (pre:=Co c 4++Co n 8++Co (w64 kd) 1++Co (w64 a) 1++Co (w64 b) 2) (n:=w64 x) (k:=8) (i:=16) (by unfold EK;simp only[qas];rfl) (by simp[Cz]);have e6:=HN (l:=EK c n ⟨kd,a,b,x,w,u,id⟩) (pre:=Co c 4++Co n 8++Co (w64 kd) 1++Co (w64 a) 1++Co (w64 b) 2++Co (w64 x) 8) (n:=w64 w) (k:=2) (i:=24) (by unfold EK;simp only[qas];rfl) (by simp[Cz]);have e7:=HN (l:=EK c n ⟨kd,a,b,x,w,u,id⟩) (pre:=Co c 4++Co n 8++Co (w64 kd) 1++Co (w64 a) 1++Co (w64 b) 2++Co (w64 x) 8++Co (w64 w) 2) (n:=w64 u) (k:=8) (i:=26) (by unfold EK;simp only[qas];rfl) (by simp[Cz]);have e8:=HN (l:=EK c n ⟨kd,a,b,x,w,u,id⟩) (pre:=Co c 4++Co n 8++Co (w64 kd) 1++Co (w64 a) 1++Co (w64 b) 2++Co (w64 x) 8++Co (w64 w) 2++Co (w64 u) 8) (n:=w64 id) (k:=8) (i:=34) (by unfold EK;simp only[qas];rfl) (by simp[Cz])
 have f2:w64 kd % 256 ^ 1=kd.toNat:=by rw[QW];omega
 have f3:w64 a % 256 ^ 1=a.toNat:=by rw[QW];omega
 have f6:w64 w % 256 ^ 2=w.toNat:=by rw[QW];omega
 have f8:w64 id % 256 ^ 8=id.toNat:=by rw[QW];omega
 rw[f2]at e2;rw[f3]at e3;rw[f6]at e6;rw[f8]at e8;refine⟨?_,e0.trans (qbr (by omega)),e1.trans (qbr (by omega)),?_⟩
 .unfold DZ;rw[Nv,e2,qan rfl,qan (show 1<=kd.toNat by omega),qan (show kd.toNat<=15 by omega)];rfl
 .unfold Ig;rw[e2,e3,e4,e5,e6,e7,e8,Akr h3,Zs h4,Zs h6];rw[qcx (show 0<=kd by omega),qcx h2.1,qcx h5.1,qcx h7.1]
def JA(l:List Int):List UInt8:=l.flatMap fun x=>Co (w64 x) 8
theorem Oe(l:List Int):(JA l).length=8*l.length:=by
 induction l with
 |nil=>rfl
 |cons x l ih =>
  show(Co (w64 x) 8++JA l).length=_;rw[qat,Cz,ih,qa9];omega
theorem XP{l:List Int}{i:Nat}{x:Int}(h:l[i]?=some x):JA (l.take (i+1))=JA (l.take i)++Co (w64 x) 8:=by
 rw[Ee h];unfold JA;rw[qbt,qbz,List.flatMap_nil,qa0]
def Kg(c n:Nat)(e:Int)(l:List Int):List UInt8:=Co c 4++(Co n 8++(Co (w64 e) 1++(Co l.length 1++JA l)))
theorem Nw(c n:Nat)(e:Int)(l:List Int):(Kg c n e l).length=14+8*l.length:=by
 unfold Kg;simp only[qat,Cz,Oe];omega
structure Pa where
 c:Nat
 n:Nat
 ask:List UInt8
 rep:List UInt8
def Kr(xs:List Int)(k:Nat):Int:=BJ (fun i=>one (0<xs.getD i 0)) k
def Ks(rn:List Rnd)(r:Rnd):List Rnd:=(rn++[r]).drop (rn.length - 3)
theorem Wd{rn:List Rnd}(h:rn.length<=4)(r:Rnd):(Ks rn r).length=min (rn.length+1) 4:=by
 unfold Ks;rw[qc1,qat,qb9];omega
theorem Ag5{rn:List Rnd}{r x:Rnd}(h:x∈Ks rn r):x∈rn\/x=r:=by
 have h1:=qc7 h
 rcases qbc.1 h1 with h2|h2
 .exact .inl h2
 .exact .inr (qab.1 h2)
def Uy(s:Ld)(r:Rnd):Ld:=⟨s.day,HK s.acs s.ds r,IE s.acs s.ds r,s.nx,Ks s.rn { r with no:=s.no+1,day:=s.day },s.no+1⟩
theorem Aqx{s:Ld}(h:s.Ok){net:Bool}{r:Rnd}(P:PlanR s.acs s.ds net r)(hno:s.no<4611686018427387904):Fw s.acs s.ds r=0/\(Uy s r).Ok:=by
 have hBr:=My h.ac h.du h.bk;have hol:=Jc s.ds;have h64:=hBr.m64;have hC:Fw s.acs s.ds r=0:=Abn ((ID).2 hBr) P;obtain⟨h1,h2,h3⟩:=NW (r:=r) h.ac h.du;have hB2:=VZ h.ac h.du hC;obtain⟨k1,k2,k3⟩:=h.kept;have hkl:=Wd k1 { r with no:=s.no+1,day:=s.day };refine⟨hC,⟨h1,h2,fun d hd=>?_,h.day,⟨by show(Ks _ _).length<=4;omega,by show((Ks _ _).length:Int)<=s.no+1;omega,by show s.no+1<=_;omega⟩,fun i x hx=>?_,fun x hx=>?_⟩⟩
 .have:=(hB2.due d hd).2;rw[qal]at this;exact this
 .change (Ks s.rn { r with no:=s.no+1,day:=s.day })[i]?=some x at hx
  show x.no=s.no+1 - ((Ks s.rn { r with no:=s.no+1,day:=s.day }).length:Nat)+1+i;have hi:=CD hx;rw[hkl]at hi |-;unfold Ks at hx;rw[qct]at hx
  rcases qap (s.rn.length - 3+i) s.rn.length with h5|h5
  .rw[qcb h5]at hx;have:=h.nos _ x hx;omega
  .rw[qbv h5]at hx;have h6:s.rn.length - 3+i - s.rn.length=0:=by omega
   rw[h6]at hx;cases hx;show s.no+1=_;omega
 .rcases Ag5 hx with h5|rfl
  .exact h.may x h5
  .unfold Po;dsimp only;have hids:r.ids.length=(opn s.ds).length:=by rw[P.ids,qal]
   rw[P.chk,qan (show r.ids.length<=64 by omega),qan h.day.1];rfl
structure Rp where
 e:Int
 n:List Int
def rp(l:List Int)(e:Int):Rp:=if e=0 then⟨0,l⟩else⟨e,[]⟩
theorem We{l:List Int}{e:Int}(h:e≠0):rp l e=⟨e,[]⟩:=if_neg h
def RN(acs:List Ac)(k:Int):List Int:=[(D8 acs k).ba,(D8 acs k).re]
def Pe(b:Bool):Int:=if b=true then 1 else 0
def Uz(s:Ld)(k:Int):Option Rnd:=if k<=s.no/\s.no - k<s.rn.length then s.rn[(k - (s.no - s.rn.length+1)).toNat]? else none
def Kh(r:Rnd)(b:Int):Rp :=
 if b < -1\/(r.es.length:Int)+r.N<=b then⟨1,[]⟩
 else if b = -1 then⟨0,[r.day,Pe r.cmp,r.N,r.es.length,r.ids.length]⟩
 else if(r.es.length:Int)<=b then⟨0,[r.pot.getD (b - r.es.length).toNat 0]⟩
 else⟨0,[(r.es.getD b.toNat e0).f,(r.es.getD b.toNat e0).t,(r.es.getD b.toNat e0).cap,(r.es.getD b.toNat e0).cost,r.fl.getD b.toNat 0,if b<r.ids.length then IntKind.i64.wrap (r.ids.getD b.toNat 0)else 0]⟩
def Fz(s:Ld)(a:Ak):Ld :=
 if a.kd=1 then(if s.acs.length<16 then{ s with acs:=s.acs++[a00] }else s)
 else if a.kd=2 then{ s with acs:=Fm s.acs a.a a.x }
 else if a.kd=3 then{ s with acs:=EY s.acs a.a a.x }
 else if a.kd=4 then{ s with acs:=HM s.acs a.a a.x }
 else if a.kd=5 then(if(inA s.acs a.a && inA s.acs a.b)=true/\s.day<=a.u then{ s with ds:=NZ s.ds s.nx a.a a.b a.x a.w a.u,nx:=QS s.ds s.nx a.a a.b a.x a.w a.u }else s)
 else if a.kd=6 then{ s with ds:=Jn s.ds a.id true }
 else if a.kd=7 then{ s with ds:=Jn s.ds a.id false }
 else if a.kd=8 then{ s with ds:=Ut s.ds a.id }
 else if a.kd=9 then(if s.day<=a.u then{ s with day:=a.u,ds:=Oa s.ds a.u }else s)
 else s
def FC(s:Ld)(a:Ak):Rp :=
 if a.kd=1 then rp [s.acs.length] (if s.acs.length<16 then 0 else 6)
 else if a.kd=2 then rp (RN (Fm s.acs a.a a.x) a.a) (GH s.acs a.a a.x)
 else if a.kd=3 then rp (RN (EY s.acs a.a a.x) a.a) (Gg s.acs a.a a.x)
 else if a.kd=4 then rp (RN (HM s.acs a.a a.x) a.a) (M1 s.acs a.a a.x)
 else if a.kd=5 then(if(inA s.acs a.a && inA s.acs a.b)=false then⟨10,[]⟩else if a.u<s.day then⟨1,[]⟩else rp [IntKind.i64.wrap s.nx] (J8 s.ds s.nx a.a a.b a.x a.w a.u))
 else if a.kd=6 then rp [] (LM s.ds a.id true)
 else if a.kd=7 then rp [] (LM s.ds a.id false)
 else if a.kd=8 then rp [] (Pp s.ds a.id)
 else if a.kd=9 then(if a.u<s.day then⟨3,[]⟩else⟨0,[((s.ds.length - (Oa s.ds a.u).length:Nat):Int)]⟩)
 else if a.kd=12 then(if inA s.acs a.a=true then⟨0,RN s.acs a.a⟩else⟨10,[]⟩)
 else if a.kd=13 then(if inA s.acs a.a=true then⟨0,[Lr s.acs s.ds a.a.toNat]⟩else⟨10,[]⟩)
 else if a.kd=14 then(match CQ s.ds a.id with
  |none=>⟨11,[]⟩
  |some d=>⟨0,[d.fr,d.to,d.am,d.we,d.un,Pe d.held]⟩)
 else if a.kd=15 then(match Uz s a.id with
  |none=>⟨4,[]⟩
  |some r=>Kh r a.b)
 else⟨1,[]⟩
def CN(s:Ld)(a:Ak)(s':Ld)(p:Rp):Prop :=
 if a.kd=10\/a.kd=11 then
  (4611686018427387904<=s.no/\s'=s/\p=⟨6,[]⟩) \/
  (s.no<4611686018427387904/\∃r,PlanR s.acs s.ds (decide (a.kd=11)) r/\s'=Uy s r /\
   p=⟨0,[IntKind.i64.wrap (s.no+1),FW (opn s.ds) r.fl (opn s.ds).length,Kr (r.fl.take (opn s.ds).length) (opn s.ds).length]⟩)
 else s'=Fz s a/\p=FC s a
theorem Ki{s:Ld}(h:s.Ok)(a:Ak)(hu:a.u<=9223372036854775807):(Fz s a).Ok:=by
 unfold Fz
 split
 .split
  .rename_i hl
   exact⟨(Agv h.ac hl).1,h.du,fun d hd=>by have:=h.bk d hd;show _<((s.acs++[a00]).length:Int)/\_<((s.acs++[a00]).length:Int);rw[qat,qb9];omega,h.day,h.kept,h.nos,h.may⟩
  .exact h
 split
 .obtain⟨h1,h2,-⟩:=Zq h.ac a.a a.x;exact⟨h1,h.du,fun d hd=>by show _<((Fm s.acs a.a a.x).length:Int)/\_<((Fm s.acs a.a a.x).length:Int);rw[h2];exact h.bk d hd,h.day,h.kept,h.nos,h.may⟩
 split
 .obtain⟨h1,h2,-⟩:=Zr h.ac a.a a.x;exact⟨h1,h.du,fun d hd=>by show _<((EY s.acs a.a a.x).length:Int)/\_<((EY s.acs a.a a.x).length:Int);rw[h2];exact h.bk d hd,h.day,h.kept,h.nos,h.may⟩
 split
 .obtain⟨h1,h2,-⟩:=Agu h.ac a.a a.x;exact⟨h1,h.du,fun d hd=>by show _<((HM s.acs a.a a.x).length:Int)/\_<((HM s.acs a.a a.x).length:Int);rw[h2];exact h.bk d hd,h.day,h.kept,h.nos,h.may⟩
 split
 .split
  .rename_i hb
   refine⟨h.ac,Aqv h.du ..,fun d hd=>?_,h.day,h.kept,h.nos,h.may⟩
   change d∈NZ s.ds s.nx a.a a.b a.x a.w a.u at hd
   unfold NZ at hd
   split at hd
   .rcases qbc.1 hd with h1|h1
    .exact h.bk d h1
    .rw[qab.1 h1];rw[qae]at hb;exact⟨(Hg.1 hb.1.1).2,(Hg.1 hb.1.2).2⟩
   .exact h.bk d hd
  .exact h
 split
 .exact⟨h.ac,Agx h.du ..,fun d hd=>Agy h.bk hd,h.day,h.kept,h.nos,h.may⟩
 split
 .exact⟨h.ac,Agx h.du ..,fun d hd=>Agy h.bk hd,h.day,h.kept,h.nos,h.may⟩
 split
 .exact⟨h.ac,SZ h.du _,fun d hd=>h.bk d (qbe.1 hd).1,h.day,h.kept,h.nos,h.may⟩
 split
 .split
  .rename_i hd
   exact⟨h.ac,SZ h.du _,fun d hd=>h.bk d (qbe.1 hd).1,⟨qbh h.day.1 hd,hu⟩,h.kept,h.nos,h.may⟩
  .exact h
 .exact h
def fundI(s:Ld)(a:Ak):Int:=(if a.kd=2/\GH s.acs a.a a.x=0 then a.x else 0) - (if a.kd=3/\Gg s.acs a.a a.x=0 then a.x else 0)
theorem add_none{ds:List Du}{nx fr to x w u:Int}(h:J8 ds nx fr to x w u≠0):NZ ds nx fr to x w u=ds/\QS ds nx fr to x w u=nx:=by
 unfold NZ QS;rw[if_neg h,if_neg h];exact⟨rfl,rfl⟩
theorem Wf{ds:List Du}{k:Int}{b:Bool}(h:LM ds k b≠0):Jn ds k b=ds:=by
 unfold Jn;rw[if_neg h]
theorem Ag6{ds:List Du}{k:Int}(h:Pp ds k≠0):Ut ds k=ds:=by
 unfold Pp at h;unfold Ut;rw[List.filter_eq_self];intro d hd
 cases hf:CQ ds k with
 |some e=>rw[hf]at h;exact absurd rfl h
 |none =>
  have h1:=qeo.1 hf d hd
  simpa using h1
abbrev AL(bd:Nat)(x1 x2:Nat × Obj)(a:Option Addr)(n c:Nat)(full:List Value):List (Nat × Obj):=(bd,Bl 129 [.slice a n c])::x1::x2::ent a 108 full
theorem Abu{bd c:Nat}{x1 x2:Nat × Obj}{a:Option Addr}{full:List Value}{acs:List Ac}{S:List Nat}{w0 w:World}(H0:Ctx w0 S w (AL bd x1 x2 a acs.length c full))(O:OS a acs.length c 2 full (acs.flatMap Dl))(hn:acs.length<=1000000:=by omega):
  Ret prog 70 #[ptr bd] w fun v w'=>(16<=acs.length->v=.tuple #[.int .i64 0,.int .i64 6]/\Ctx w0 S w' (AL bd x1 x2 a acs.length c full)) /\
   (acs.length<16->v=.tuple #[.int .i64 (acs.length:Int),.int .i64 0]/\∃a' c' full',OS a' (acs++[a00]).length c' 2 full' ((acs++[a00]).flatMap Dl)/\Ctx w0 S w' (AL bd x1 x2 a' (acs++[a00]).length c' full')):=by
 have H:=H0;refine Au (fn:=f70) func70 U [.pointer (some ⟨bd,0,none⟩)] U ?_;refine Ae (Ad U (Ad U (qA (Ax (A1 (Ae (A4 U (Cw OI U ?_))))))));refine Ai U (qA (Aw _ U ?_ ?_))
 .intro h0;cases h0
 .intro h0;refine Ae (A4 U (A9 U (Ah ES U (AG IU U H at0 U (Be EQ U (CM U U (Ai U (qA (Aw _ U ?_ ?_)))))))))
  .intro h1;replace h1:=AM h1;refine Ae (Ad U (Ad U (qA (A5 (AF (Av (Cf (v1:=(.int _ _)) (v2:=(.int _ _)) U U U U ?_)))))));exact⟨fun _=>⟨rfl,H⟩,fun h=>by omega⟩
  .intro h1;replace h1:=AN h1;refine Ay (A8 (Aa (Ae (A4 U (A4 U (A9 U (Ah ES U (AG IU U H at0 U (BA [.int .i64 0,.int .i64 0] Aeh HA ?_)))))))));refine Cp _ (.agg _) EQ DO HA U U U U H ?_;rintro b20 w - H;refine Cy (L:=[_,_,_]) EQ EQ DO Adj HA U U U H O U (fun v hv=>by simp at hv;rcases hv with rfl|rfl <;> rfl) ?_;rintro a' c' full' w H O;refine A9 U (Ah ES U (Cb (.slice _ _ _) sz_37 U U U H at0 (by(simp;done)) ?_));rintro w H;refine qA (Ae (A4 U (A9 U (Ah ES U (AG IU U H at0 U (Be EQ U (Bo U U ?_)))))));refine Ad U (Ad U (qA (A5 (Cf (v1:=(.int _ _)) (v2:=(.int _ _)) U U U U ?_))));refine⟨fun h=>by omega,fun _=>⟨?_,a',c',full',?_,?_⟩⟩
   .rw[show(((acs.length+1:Nat):Int) - 1)=(acs.length:Int)by omega]
   .rw[qbt,qat];exact O
   .rw[qat];exact H
structure Qk where
 e:Int
 fid:FuncId
 cl:List Value
 b:Bool
abbrev Og(q:Qk):List Value:=[.int .i64 q.e,.func (.func q.fid) #[] q.cl.toArray]
theorem Ag7(q:Qk):∀v∈Og q,AY v=true:=by
 intro v hv
 rcases qai.1 hv with rfl|hv
 .rfl
 .rw[qab.1 hv];rfl
def Pf:List Qk->Int
 | []=>0
 |q::qs=>if q.b=false then q.e else Pf qs
theorem Zt:∀{qs:List Qk} {i:Nat} {q:Qk},qs[i]?=some q->q.b=false->(∀(j:Nat) (p:Qk),j<i->qs[j]?=some p->p.b=true)->Pf qs=q.e
 | [],_,_,h,_,_=>by cases h
 |p::qs,0,q,h,hb,_=>by
  cases h;exact if_pos hb
 |p::qs,i+1,q,h,hb,ha=>by
  unfold Pf;rw[if_neg (by rw[ha 0 p (by omega) rfl];decide)];exact Zt (show qs[i]?=some q from h) hb fun j r hj hr=>ha (j+1) r (by omega) hr
theorem Wg:∀{qs:List Qk},(∀q∈qs,q.b=true)->Pf qs=0
 | [],_=>rfl
 |q::qs,h=>by
  unfold Pf;rw[if_neg (by rw[h q (qak ..)];decide)];exact Wg fun p hp=>h p (qaj _ hp)
def Jo(acs:List Ac)(k:Int)(qs:List Qk):Int:=if inA acs k=false then 10 else Pf qs
def AcsAt(w w':World)(a:Option Addr)(n c:Nat)(full:List Value)(acs:List Ac):Prop :=
 ∃full',OS a n c 2 full' (acs.flatMap Dl)/\(∀x∈ent a 108 full',w'.heap[x.1]?=some x.2)/\Ext ((ent a 108 full).map (·.1)) w w'
theorem QY{bd c cq:Nat}{a aq:Option Addr}{full:List Value}{acs:List Ac}{qs:List Qk}{k:Int}{fid:FuncId}{cl:List Value}{e:Ac}(w:World)(hd:w.heap[bd]?=some (Bl 129 [.slice a acs.length c]))(O:OS a acs.length c 2 full (acs.flatMap Dl))(hb:∀x∈ent a 108 full,w.heap[x.1]?=some x.2)(Rq:Rd w aq 2 Og qs)(hql:qs.length<=1000)(hq:∀q∈qs,Aq prog q.fid=true/\q.e≠0/\∀w',Ext [] w w'->Ret prog q.fid q.cl.toArray w' fun v w''=>v=.bool q.b/\Ext [] w' w'')(hfc:Aq prog fid=true)(hdo:∀q w',a=some ⟨q,0,none⟩->inA acs k=true->Pf qs=0->Ext [] w w'->Ret prog fid (Value.pointer (some ⟨q,0+k.toNat*2,none⟩)::cl).toArray w' fun _ w''=>∃full',OS a acs.length c 2 full' ((LK acs k e).flatMap Dl)/\Ctx w' [q] w'' [(q,Bl 108 full')])(hn:acs.length<=1000000:=by omega):
  Ret prog 103 #[ptr bd,.int .i64 k,.func (.func fid) #[] cl.toArray,.slice aq qs.length cq] w fun v w'=>v=.int .i64 (Jo acs k qs) /\
   AcsAt w w' a acs.length c full (if Jo acs k qs=0 then LK acs k e else acs):=by
 obtain⟨w1,rfl,H⟩:=qE w;have hsame:∀w',Ext [] w1 w'->AcsAt w1 w' a acs.length c full acs:=fun w' hx=>⟨full,O,fun x hxm=>hx.to (hb x hxm) (by simp),hx.mono (by simp)⟩;unfold Jo;refine Au (fn:=f103) func103 U [.pointer (some ⟨bd,0,none⟩),.int .i64 k,.func (.func fid) #[] cl.toArray,.slice aq qs.length cq] U ?_;refine Ae (Ad U (qA (Ax (A1 (Ae (A4 U (Cw OI U ?_)))))));refine Ai U (qA (Aw _ U ?_ ?_))
 .intro h0;cases h0
 .intro h0;refine Ax (Ae (Af U (Bm U U (Ai U (qA (Dj 14 U ?_ ?_))))))
  .intro h1;replace h1:=AM h1
   have hi:inA acs k=false:=by cases h:inA acs k with|false=>rfl|true=>have:=Hg.1 h;omega
   refine Ay (Aa (DB U (Ae (Ad U (qA (A5 (AF (Av (AB (v:=(.int _ _)) U U U ?_)))))))));rw[if_pos hi,if_neg (by decide)];exact⟨rfl,hsame _ H.ext⟩
  .intro h1;replace h1:=AN h1;refine A0 (Af U (A4 U (A9 U (Ah ES U (Bb IU U ((H.old (Aj hd _) (by simp))) ?_)))));refine Be EQ U (CM U U (Ai U (qA (Dj 14 U ?_ ?_))))
   .intro h2;replace h2:=AM h2
    have hi:inA acs k=false:=by cases h:inA acs k with|false=>rfl|true=>have:=Hg.1 h;omega
    refine Ae (Ad U (qA (A5 (AF (Av (AB (v:=(.int _ _)) U U U ?_))))));rw[if_pos hi,if_neg (by decide)];exact⟨rfl,hsame _ H.ext⟩
   .intro h2;replace h2:=AN h2;have hi:inA acs k=true:=Hg.2 (by omega);rw[if_neg (by rw[hi];decide)];refine Ay (A8 (Aa (Ax (Ae (Ap U (Be Qs U (Af U (qA (A1 (Bw 137371845888 (α:=Nat) (fun i=>[(26,.int .i64 (i:Int))]) (fun i w'=>i<=qs.length/\Ctx w1 [] w' []/\∀(j:Nat) (p:Qk),j<i->qs[j]?=some p->p.b=true) (fun i=>qs.length - i) 0 U ?_ ?_ ?_))))))))))
    .exact⟨rfl,trivial⟩
    .exact⟨qaq _,H,fun j p h=>absurd h (qbd _)⟩
    .clear H;rintro i ji w ⟨hii,H,hbb⟩;refine Ae (Bm U U (qA (Ax (Aw _ U ?_ ?_))))
     .intro h3;replace h3:=AM h3;obtain⟨q,hqi⟩:=AE (l:=qs) (i:=i);obtain⟨hqc,hqe,hqr⟩:=hq q (qac hqi);refine Ay (Aa (Ax (A1 (Ae (Bg Rq Qs NM U U (by rfl) ?_)))));refine C9 _ Am6 NM U U ((Rq.ext0 H.ext).row hqi U) (Bc JS H ?_);rintro b10 w - H;refine Bn NM U U U (by exact Ag7 _) H at0 U ?_;rintro w H;refine qA (Ae (Ah Aeg U (AG Alx U H at0 U (G6 U hqc (hqr _ H.ext) U ?_))));rintro v w ⟨rfl,hx32⟩;replace H:=H.call hx32;refine BP U (qA (Aw _ U ?_ ?_))
      .intro h4;replace h4:=BM h4
       have hqb:q.b=false:=by cases hh:q.b with|false=>rfl|true=>rw[hh]at h4;cases h4
       refine Ae (Ah Aef U (AG Sr U H at0 U (Ad U (qA (A5 (AF (Av (Av (AF (Av (AB (v:=(.int _ _)) U U U ?_)))))))))));rw[Zt hqi hqb hbb,if_neg hqe];exact⟨rfl,hsame _ H.ext⟩
      .intro h4;replace h4:=BN h4
       have hqb:q.b=true:=by cases hh:q.b with|true=>rfl|false=>rw[hh]at h4;cases h4
       refine Ay (A8 (Aa (A0 (Az U U ?_))));refine Af U (qA ?_)
       exact⟨i+1,rfl,⟨rfl,trivial⟩,⟨by omega,H.tail,fun j p hj hp=>by
        rcases qap j i with h5|h5
        .exact hbb j p h5 hp
        .obtain rfl:j=i:=by omega
         rw[hqi]at hp;cases hp
         exact hqb⟩,by omega⟩
     .intro h3;replace h3:=AN h3;obtain rfl:i=qs.length:=by omega
      have hC:Pf qs=0:=Wg fun p hp=>by
       obtain⟨j,hj⟩:=qdd hp;exact hbb j p (CD hj) hj
      have hin:=Hg.1 hi;obtain⟨q,hqa⟩:=O.form (by omega);subst hqa;refine Bt (An (An (AK (Aa (Ae (C7 (.func _ _ _) U ?_))))));refine A4 U (A9 U (Ah ES U (Bb IU U ((H.old (Aj hd _) (by simp))) ?_)));refine Af U (Bp EQ DO U U ?_);refine G6 U hfc (hdo q _ U hi hC H.ext) U ?_;rintro v w ⟨full',O',H2⟩;refine qA (Ae (Ad U (qA (A5 (AB (v:=(.int _ _)) U U U ?_)))));rw[hC,if_pos rfl];exact⟨rfl,full',O',fun x hx=>by rw[qab.1 hx];exact H2.get at0,(H.ext.mono (by simp)).trans H2.ext⟩
theorem Ag8{bd c:Nat}{a:Option Addr}{acs:List Ac}{k:Int}{f q:Value}(w:World)(hd:w.heap[bd]?=some (Bl 129 [.slice a acs.length c]))(hi:inA acs k=false) :
  Ret prog 103 #[ptr bd,.int .i64 k,f,q] w fun v w'=>v=.int .i64 10/\Ext [] w w':=by
 obtain⟨w1,rfl,H⟩:=qE w;have hi2:¬(0<=k/\k<acs.length):=fun h=>by rw[Hg.2 h]at hi;cases hi
 refine Au (fn:=f103) func103 U [.pointer (some ⟨bd,0,none⟩),.int .i64 k,f,q] U ?_;refine Ae (Ad U (qA (Ax (A1 (Ae (A4 U (Cw OI U ?_)))))));refine Ai U (qA (Aw _ U ?_ ?_))
 .intro h0;cases h0
 .intro h0;refine Ax (Ae (Af U (Bm U U (Ai U (qA (Dj 14 U ?_ ?_))))))
  .intro h1;replace h1:=AM h1;refine Ay (Aa (DB U (Ae (Ad U (qA (A5 (AF (Av (AB (v:=(.int _ _)) U U U ?_)))))))));exact⟨rfl,H.ext⟩
  .intro h1;replace h1:=AN h1;refine A0 (Af U (A4 U (A9 U (Ah ES U (Bb IU U ((H.old (Aj hd _) (by simp))) ?_)))));refine Be EQ U (CM U U (Ai U (qA (Dj 14 U ?_ ?_))))
   .intro h2;replace h2:=AM h2;refine Ae (Ad U (qA (A5 (AF (Av (AB (v:=(.int _ _)) U U U ?_))))));exact⟨rfl,H.ext⟩
   .intro h2;replace h2:=AN h2;exact absurd ⟨by omega,by omega⟩ hi2
theorem Ag9{bx:Nat}{x:Int}(w:World)(h7:w.heap[bx]?=some (Bl 2 [.int .i64 x])) :
  Ret prog 105 #[ptr bx] w fun v w'=>v=.bool (decide (0<x) && Dp x)/\Ext [] w w':=by
 obtain⟨w0,rfl,H⟩:=qE w;refine Au (fn:=f105) func105 U [.pointer (some ⟨bx,0,none⟩)] U ?_;refine Ae (Ai U (qA (Ae (Bb B4 U ((H.old (Aj h7 _) (by simp))) ?_))));refine C8 U U (A2 U (AR 4 U ?_ ?_))
 .intro h1;replace h1:=AM h1;refine Bb B4 U ((H.old (Aj h7 _) (by simp))) (Al qB (Mw x _) U ?_);rintro v w ⟨rfl,rfl⟩;refine AA U (.bool _) U (Ai U (qA (A5 (AB (v:=(.bool _)) U U U ?_))));exact⟨qaa Value.bool (by rw[qad];simp_all;try omega),H.ext⟩
 .intro h2;replace h2:=AN h2;refine Ag U (Ag U (AJ U (.bool _) U (Ai U (qA (A5 (AB (v:=(.bool _)) U U U ?_))))));exact⟨qaa Value.bool (by rw[qad];simp_all;try omega),H.ext⟩
theorem Aha{bx:Nat}{x:Int}(w:World)(h7:w.heap[bx]?=some (Bl 2 [.int .i64 x])) :
  Ret prog 108 #[ptr bx] w fun v w'=>v=.bool (decide (0<x) && Dp x)/\Ext [] w w':=by
 obtain⟨w0,rfl,H⟩:=qE w;refine Au (fn:=f108) func108 U [.pointer (some ⟨bx,0,none⟩)] U ?_;refine Ae (Ai U (qA (Ae (Bb B4 U ((H.old (Aj h7 _) (by simp))) ?_))));refine C8 U U (A2 U (AR 4 U ?_ ?_))
 .intro h1;replace h1:=AM h1;refine Bb B4 U ((H.old (Aj h7 _) (by simp))) (Al qB (Mw x _) U ?_);rintro v w ⟨rfl,rfl⟩;refine AA U (.bool _) U (Ai U (qA (A5 (AB (v:=(.bool _)) U U U ?_))));exact⟨qaa Value.bool (by rw[qad];simp_all;try omega),H.ext⟩
 .intro h2;replace h2:=AN h2;refine Ag U (Ag U (AJ U (.bool _) U (Ai U (qA (A5 (AB (v:=(.bool _)) U U U ?_))))));exact⟨qaa Value.bool (by rw[qad];simp_all;try omega),H.ext⟩
theorem Akt{bx:Nat}{x:Int}(w:World)(h7:w.heap[bx]?=some (Bl 2 [.int .i64 x])) :
  Ret prog 111 #[ptr bx] w fun v w'=>v=.bool (Dp x)/\Ext [] w w':=by
 obtain⟨w0,rfl,H⟩:=qE w;refine Au (fn:=f111) func111 U [.pointer (some ⟨bx,0,none⟩)] U ?_;refine Ae (Ai U (qA (Ae (Bb B4 U ((H.old (Aj h7 _) (by simp))) ?_))));refine Al qB (Mw x _) U ?_;rintro v w ⟨rfl,rfl⟩;refine Ai U (qA (A5 (AB (v:=(.bool _)) U U U ?_)));exact⟨rfl,H.ext⟩
theorem Ahb{q j bx:Nat}{ba x:Int}{full:List Value}(w:World)(h9:w.heap[q]?=some (Bl 108 full))(hf:full[j]?=some (.int .i64 ba))(h7:w.heap[bx]?=some (Bl 2 [.int .i64 x]))(hne:bx≠q)(hb:0<=ba/\ba<=4503599627370496)(hx:0<=x/\x<=4503599627370496) :
  Ret prog 104 #[.pointer (some ⟨q,j,none⟩),ptr bx] w fun _ w'=>Ctx w [q] w' [(q,Bl 108 (full.set (j+0) (.int .i64 (ba+x))))]:=by
 obtain⟨w0,rfl⟩:=qD w;have H:=Ctx.start1 h9;have hn:bx∉[q]:=by rw[qab];exact hne
 have hj:=CD hf;refine Au (fn:=f104) func104 U [.pointer (some ⟨q,j,none⟩),.pointer (some ⟨bx,0,none⟩)] U ?_;refine Ft [([0,1,2,3,4,5],6),([7],8)] (fun z=>z.heap[q]?=some (Bl 108 full)/\z.heap[bx]?=some (Bl 2 [.int .i64 x])) [8] Br (⟨H.drew.get at0,H.drew.ext.to h7 hn⟩) ?_;refine AD U U (BG U (Ba U (Ao F4 U (B0 B4 U (fun _ hx=>(by rw[Aj hx.1];exact hf)) ?_))));refine B0 B4 U (fun _ hx=>(by rw[Aj hx.2];rfl)) ?_;refine EB U U (AU ?_);replace H:=H.drew;refine A9 U (Ab (BH (⟨H.get at0,H.ext.to h7 hn⟩) (AD U U ?_)));refine Ao F4 U (AU (Cb (.int _ _) BD U U U H at0 (by omega) ?_));rintro w H;refine Ab (Bz U (BF (CV U U ?_)));exact H
theorem Ahc{q j bx:Nat}{ba x:Int}{full:List Value}(w:World)(h9:w.heap[q]?=some (Bl 108 full))(hf:full[j]?=some (.int .i64 ba))(h7:w.heap[bx]?=some (Bl 2 [.int .i64 x]))(hne:bx≠q)(hb:0<=ba/\ba<=4503599627370496)(hx:0<=x/\x<=4503599627370496) :
  Ret prog 107 #[.pointer (some ⟨q,j,none⟩),ptr bx] w fun _ w'=>Ctx w [q] w' [(q,Bl 108 (full.set (j+0) (.int .i64 (ba - x))))]:=by
 obtain⟨w0,rfl⟩:=qD w;have H:=Ctx.start1 h9;have hn:bx∉[q]:=by rw[qab];exact hne
 have hj:=CD hf;refine Au (fn:=f107) func107 U [.pointer (some ⟨q,j,none⟩),.pointer (some ⟨bx,0,none⟩)] U ?_;refine Ft [([0,1,2,3,4,5],6),([7],8)] (fun z=>z.heap[q]?=some (Bl 108 full)/\z.heap[bx]?=some (Bl 2 [.int .i64 x])) [8] Br (⟨H.drew.get at0,H.drew.ext.to h7 hn⟩) ?_;refine AD U U (BG U (Ba U (Ao F4 U (B0 B4 U (fun _ hx=>(by rw[Aj hx.1];exact hf)) ?_))));refine B0 B4 U (fun _ hx=>(by rw[Aj hx.2];rfl)) ?_;refine Fq U U (AU ?_);replace H:=H.drew;refine A9 U (Ab (BH (⟨H.get at0,H.ext.to h7 hn⟩) (AD U U ?_)));refine Ao F4 U (AU (Cb (.int _ _) BD U U U H at0 (by omega) ?_));rintro w H;refine Ab (Bz U (BF (CV U U ?_)));exact H
theorem Aku{q j bx:Nat}{x:Int}{full:List Value}(w:World)(h9:w.heap[q]?=some (Bl 108 full))(hj:j+1<full.length)(h7:w.heap[bx]?=some (Bl 2 [.int .i64 x]))(hne:bx≠q) :
  Ret prog 110 #[.pointer (some ⟨q,j,none⟩),ptr bx] w fun _ w'=>Ctx w [q] w' [(q,Bl 108 (full.set (j+1) (.int .i64 x)))]:=by
 obtain⟨w0,rfl⟩:=qD w;have H:=Ctx.start1 h9;have hn:bx∉[q]:=by rw[qab];exact hne
 refine Au (fn:=f110) func110 U [.pointer (some ⟨q,j,none⟩),.pointer (some ⟨bx,0,none⟩)] U ?_;refine A0 (A4 U (Bb B4 U ((H.old (Aj h7 _) hn)) ?_));refine A9 U (Ah MP U (Cb (.int _ _) BD U U U H at0 (by omega) ?_));rintro w H;refine Ab (CV U U ?_);exact H
theorem Ahd{bx b3 b4 bd c:Nat}{a:Option Addr}{acs:List Ac}{k x:Int}(w:World)(h7:w.heap[bx]?=some (Bl 2 [.int .i64 x]))(h3:w.heap[b3]?=some (Bl 66 [ptr bd]))(h4:w.heap[b4]?=some (Bl 3 [.int .i64 k]))(hd:w.heap[bd]?=some (Bl 129 [.slice a acs.length c]))(R:Rd w a 2 Dl acs)(hi:inA acs k=true) :
  Ret prog 109 #[ptr bx,ptr b3,ptr b4] w fun v w'=>v=.bool (decide (x<=(D8 acs k).ba))/\Ext [] w w':=by
 obtain⟨w0,rfl,H⟩:=qE w;have hin:=Hg.1 hi;have hg:=FK hi;refine Au (fn:=f109) func109 U [.pointer (some ⟨bx,0,none⟩),.pointer (some ⟨b3,0,none⟩),.pointer (some ⟨b4,0,none⟩)] U ?_;refine Ae (Ai U (qA (DT (fun x=>x=_) Br U ?_)));refine BX B4 U (by rintro _ rfl;exact((H.drew.old (Aj h7 _) (by simp)))) ?_;refine BX IV U (by rintro _ rfl;exact((H.drew.old (Aj h3 _) (by simp)))) ?_;refine AZ U (A6 ES U (BX IU U (by rintro _ rfl;exact((H.drew.old (Aj hd _) (by simp)))) ?_));refine BX Cc U (by rintro _ rfl;exact((H.drew.old (Aj h4 _) (by simp)))) ?_;refine BL R EQ DO U U (by rfl) ?_;refine A6 F4 U (BX B4 U (by rintro _ rfl;exact(((R.ext0 H.drew.ext).fld hg rfl (j:=0) rfl))) ?_);refine PS U U (NC U U (BS ?_));rintro _ rfl;replace H:=H.drew
 refine A5 (AB (v:=(.bool _)) U U U ?_);exact⟨rfl,H.ext⟩
theorem Ahe{bx b3 bd c:Nat}{a:Option Addr}{acs:List Ac}{x:Int}(w:World)(h3:w.heap[b3]?=some (Bl 66 [ptr bd]))(h7:w.heap[bx]?=some (Bl 2 [.int .i64 x]))(hd:w.heap[bd]?=some (Bl 129 [.slice a acs.length c]))(R:Rd w a 2 Dl acs)(hn:acs.length<=1000:=by omega):
  Ret prog 106 #[ptr b3,ptr bx] w fun v w'=>v=.bool (decide ((Fl (bas acs++[x])).2=0))/\Ext [] w w':=by
 obtain⟨w0,rfl,H⟩:=qE w;obtain⟨tt,htt⟩:=qD (Fl (bas acs++[x]));rw[<-htt];refine Au (fn:=f106) func106 U [.pointer (some ⟨b3,0,none⟩),.pointer (some ⟨bx,0,none⟩)] U ?_;refine Ae (Ai U (qA (Amx (.two [0,2] 1 (.one [] 3 (.one [] 4 (.one [] 5 (.one [6,7,8] 9 (.one [] 10 .stop))))) 3 (.one [] 1 (.one [] 4 (.one [] 5 (.one [6,7,8] 9 (.one [] 10 .stop)))))) (fun z=>Ext [] w0 z) Br (Ext.drew [] w0) ?_)));refine Jf U U U ?_;refine B0 IV U (fun _ hx=>(by rw[Aj (hx.to h3 (by simp))];rfl)) ?_;refine B0 B4 U (fun _ hx=>(by rw[Aj (hx.to h7 (by simp))];rfl)) ?_;refine AU ?_;replace H:=H.drew;refine⟨?_,?_⟩
 .skip
  refine Al qB (Lo a acs.length c acs _ (H.ext.to hd (by simp)) (R.ext0 H.ext) U) U ?_;rintro v w F;obtain⟨a3,n3,c3,f3,rfl,O3,hb3⟩:=F.ex;have hl3:=O3.llen;rw[qal,qal]at hl3;replace H:=H.callEnt F.ext hb3 Fu;refine Ab (BT (H.ext) (BR U U ?_));refine AU (Cp _ (.int _ _) Bf BD Fh U U U U H ?_);rintro b9 w - H;refine Ab (BT (H.ext) (BR U U ?_));refine AU (Cy (L:=[]) Bf Bf BD Mn Fh U U U H O3 U (by simp[AY]) ?_);rintro a' c' full' w H O;refine Ab (BT (H.ext) (BR U U ?_));refine AU (Al qB (Ng a' (n3+1) c' (bas acs++[x]) _ (OS.rd1 (f:=Eb) (t:=2) (xs:=bas acs++[x]) (by rw[qav];exact O) (fun x hx=>H.blk x (qaf [] hx))) (by unfold bas;rw[qat,qal];show acs.length+1=_;omega)) U ?_);rintro v w ⟨rfl,rfl⟩;rw[<-htt]
  refine Ab (BT (H.ext) (BR U U ?_));refine DH U (Bs U U (Bs U U (AU (Ad U (Ab (BT (H.ext) (BR U U ?_)))))));refine AU (Ad U (Ab (BT (H.ext) (Ey ?_))));refine Ae (Af U (C3 U U (Ai U (qA (A5 (AB (v:=(.bool _)) U U U ?_))))));exact⟨rfl,H.ext⟩
 .skip
  refine Cp _ (.int _ _) Bf BD Fh U U U U H ?_;rintro b9 w - H;refine Ab (BT (H.ext) (BR U U ?_));refine AU (Al qB (Lo a acs.length c acs _ (H.ext.to hd (by simp)) (R.ext0 H.ext) U) U ?_);rintro v w F;obtain⟨a3,n3,c3,f3,rfl,O3,hb3⟩:=F.ex;have hl3:=O3.llen;rw[qal,qal]at hl3;replace H:=H.callEnt F.ext hb3 Fu;refine Ab (BT (H.ext) (BR U U ?_));refine AU (Cy (L:=[]) Bf Bf BD Mn Fh U U U H O3 U (by simp[AY]) ?_);rintro a' c' full' w H O;refine Ab (BT (H.ext) (BR U U ?_));refine AU (Al qB (Ng a' (n3+1) c' (bas acs++[x]) _ (OS.rd1 (f:=Eb) (t:=2) (xs:=bas acs++[x]) (by rw[qav];exact O) (fun x hx=>H.blk x (qaf [] hx))) (by unfold bas;rw[qat,qal];show acs.length+1=_;omega)) U ?_);rintro v w ⟨rfl,rfl⟩;rw[<-htt]
  refine Ab (BT (H.ext) (BR U U ?_));refine DH U (Bs U U (Bs U U (AU (Ad U (Ab (BT (H.ext) (BR U U ?_)))))));refine AU (Ad U (Ab (BT (H.ext) (Ey ?_))));refine Ae (Af U (C3 U U (Ai U (qA (A5 (AB (v:=(.bool _)) U U U ?_))))));exact⟨rfl,H.ext⟩
abbrev AcB(bd:Nat)(a:Option Addr)(n c:Nat)(w:World):Prop:=w.heap[bd]?=some (Bl 129 [.slice a n c])
theorem AcsAt.back{w0 w w':World}{a:Option Addr}{n c:Nat}{full:List Value}{acs:List Ac}(h:AcsAt w w' a n c full acs)(hx:Ext [] w0 w):AcsAt w0 w' a n c full acs:=by
 obtain⟨f,O,hb,he⟩:=h;exact⟨f,O,hb,(hx.mono (by simp)).trans he⟩
theorem AcsAt.of{w w':World}{a:Option Addr}{n c:Nat}{full:List Value}{acs acs':List Ac}(h:AcsAt w w' a n c full acs)(he:acs=acs'):AcsAt w w' a n c full acs':=he ▸ h
abbrev Zu(b3 b5:Nat)(acs:List Ac)(x:Int):List Qk:=[⟨1,105,[ptr b5],decide (0<x) && Dp x⟩,⟨13,106,[ptr b3,ptr b5],decide ((Fl (bas acs++[x])).2=0)⟩]
abbrev Zv(b3 b4 b5:Nat)(acs:List Ac)(k x:Int):List Qk:=[⟨1,108,[ptr b5],decide (0<x) && Dp x⟩,⟨12,109,[ptr b5,ptr b3,ptr b4],decide (x<=(D8 acs k).ba)⟩]
abbrev rsvQ(b5:Nat)(x:Int):List Qk:=[⟨1,111,[ptr b5],Dp x⟩]
theorem Te{b3 b5:Nat}{acs:List Ac}{k x:Int}:Jo acs k (Zu b3 b5 acs x)=GH acs k x:=by
 unfold Jo GH
 cases inA acs k with
 |false=>rfl
 |true =>
  rw[if_neg (by decide),if_neg (by decide)];show(if(decide (0<x) && Dp x)=false then(1:Int)else if decide ((Fl (bas acs++[x])).2=0)=false then 13 else 0)=_
  by_cases h:(Fl (bas acs++[x])).2=0
  .rw[if_neg (show ¬(decide ((Fl (bas acs++[x])).2=0)=false)by simpa using h),if_neg (show ¬(Fl (bas acs++[x])).2≠0 from fun h2=>h2 h)]
  .rw[if_pos (show decide ((Fl (bas acs++[x])).2=0)=false by simpa using h),if_pos h]
theorem Tf{b3 b4 b5:Nat}{acs:List Ac}{k x:Int}:Jo acs k (Zv b3 b4 b5 acs k x)=Gg acs k x:=by
 unfold Jo Gg
 cases inA acs k with
 |false=>rfl
 |true =>
  rw[if_neg (by decide),if_neg (by decide)];show(if(decide (0<x) && Dp x)=false then(1:Int)else if decide (x<=(D8 acs k).ba)=false then 12 else 0)=_
  by_cases h:x<=(D8 acs k).ba
  .rw[if_neg (show ¬(decide (x<=(D8 acs k).ba)=false)by simpa using h),if_neg (show ¬(D8 acs k).ba<x by omega)]
  .rw[if_pos (show decide (x<=(D8 acs k).ba)=false by simpa using h),if_pos (show(D8 acs k).ba<x by omega)]
theorem Ahf{b5:Nat}{acs:List Ac}{k x:Int}:Jo acs k (rsvQ b5 x)=M1 acs k x:=rfl
section
variable {bd c:Nat}{a:Option Addr}{full:List Value}{acs:List Ac}{w:World}
theorem Oh{q:Nat}{k:Int}{w':World}(O:OS (some ⟨q,0,none⟩) acs.length c 2 full (acs.flatMap Dl))(h9:w'.heap[q]?=some (Bl 108 full))(hi:inA acs k=true) :
  full[0+k.toNat*2]?=some (.int .i64 (D8 acs k).ba)/\0+k.toNat*2+1<full.length:=by
 have R:Rd w' (some ⟨q,0,none⟩) 2 Dl acs:=OS.rd (t:=108) O (fun y hy=>by rw[qab.1 hy];exact h9) (fun _ _=>rfl) (by omega);have h1:w'.cell? ⟨q,0+k.toNat*2+0,none⟩=some (.int .i64 (D8 acs k).ba):=R.fld (FK hi) rfl (j:=0) rfl;have h2:w'.cell? ⟨q,0+k.toNat*2+1,none⟩=some (.int .i64 (D8 acs k).re):=R.fld (FK hi) rfl (j:=1) rfl;rw[Aj h9]at h1 h2;exact⟨h1,CD h2⟩
theorem Abv{b3 b5 b14:Nat}{k x:Int}(hd:AcB bd a acs.length c w)(O:OS a acs.length c 2 full (acs.flatMap Dl))(hb:∀x∈ent a 108 full,w.heap[x.1]?=some x.2/\x.1≠b5)(hac:F9 acs=0)(h3:w.heap[b3]?=some (Bl 66 [ptr bd]))(h5:w.heap[b5]?=some (Bl 2 [.int .i64 x]))(h14:w.heap[b14]?=some (Bl 182 ((Zu b3 b5 acs x).flatMap Og))) :
  Ret prog 103 #[ptr bd,.int .i64 k,.func (.func 104) #[] [ptr b5].toArray,.slice (some ⟨b14,0,none⟩) 2 2] w fun v w'=>v=.int .i64 (GH acs k x)/\AcsAt w w' a acs.length c full (Fm acs k x):=by
 have hn16:=(Cv.1 hac).1;have R:Rd w a 2 Dl acs:=OS.rd O (fun y hy=>(hb y hy).1) (fun _ _=>rfl) (by omega);refine Ret.mono (QY (qs:=Zu b3 b5 acs x) (e:=⟨(D8 acs k).ba+x,(D8 acs k).re⟩) w hd O (fun y hy=>(hb y hy).1) (Rd.of_bl h14 (qa0 _).symm fun _ _=>rfl) (show(2:Nat)<=1000 by decide) (fun q hq=>?_) qB fun q w' hqa hi hC hx=>?_) fun v w' h=>?_
 .rcases qai.1 hq with rfl|hq
  .exact⟨qB,(show(1:Int)≠0 by decide),fun w' hx=>Ag9 w' (hx.to h5 (by simp))⟩
  .rw[qab.1 hq];exact⟨qB,(show(13:Int)≠0 by decide),fun w' hx=>Ahe w' (hx.to h3 (by simp)) (hx.to h5 (by simp)) (hx.to hd (by simp)) (R.ext0 hx)⟩
 .subst hqa;obtain⟨h1,h2⟩:=hb (q,Bl 108 full) (qab.2 rfl);have h9:w'.heap[q]?=_:=hx.to h1 (by simp);have hg:=J7 hac hi;have hC2:GH acs k x=0:=by rw[<-Te (b3:=b3) (b5:=b5)];unfold Jo;rw[if_neg (by rw[hi];decide)];exact hC
  rcases M4 acs k x with⟨hc,-⟩|⟨-,-,h0,hm,-⟩
  .exact absurd hC2 hc
  .refine Ret.mono (Ahb w' h9 (Oh O h9 hi).1 (hx.to h5 (by simp)) (fun h=>h2 h.symm) ⟨hg.1.1,hg.1.2⟩ ⟨by omega,(CT.1 hm).2⟩) fun _ w'' H2=>⟨_,?_,H2⟩;rw[show 0+k.toNat*2+0=k.toNat*2+0 by omega];exact OS.setf O (y:=⟨(D8 acs k).ba+x,(D8 acs k).re⟩) (j:=0) (v := .int .i64 ((D8 acs k).ba+x)) (fun _=>rfl) (FK hi) (by decide) U
 .rw[Te]at h;exact⟨h.1,h.2.of (by unfold Fm;rfl)⟩
theorem Abw{b3 b4 b5 b14:Nat}{k x:Int}(hd:AcB bd a acs.length c w)(O:OS a acs.length c 2 full (acs.flatMap Dl))(hb:∀x∈ent a 108 full,w.heap[x.1]?=some x.2/\x.1≠b5)(hac:F9 acs=0)(h3:w.heap[b3]?=some (Bl 66 [ptr bd]))(h4:w.heap[b4]?=some (Bl 3 [.int .i64 k]))(h5:w.heap[b5]?=some (Bl 2 [.int .i64 x]))(h14:w.heap[b14]?=some (Bl 182 ((Zv b3 b4 b5 acs k x).flatMap Og))) :
  Ret prog 103 #[ptr bd,.int .i64 k,.func (.func 107) #[] [ptr b5].toArray,.slice (some ⟨b14,0,none⟩) 2 2] w fun v w'=>v=.int .i64 (Gg acs k x)/\AcsAt w w' a acs.length c full (EY acs k x):=by
 have hn16:=(Cv.1 hac).1;have R:Rd w a 2 Dl acs:=OS.rd O (fun y hy=>(hb y hy).1) (fun _ _=>rfl) (by omega)
 cases hi0:inA acs k with
 |false =>
  refine Ret.mono (Ag8 w hd hi0) fun v w' h=>?_;have hc:Gg acs k x=10:=by unfold Gg;rw[if_pos hi0]
  refine⟨by rw[hc];exact h.1,full,?_,fun y hy=>h.2.to (hb y hy).1 (by simp),h.2.mono (by simp)⟩;unfold EY;rw[if_neg (by rw[hc];decide)];exact O
 |true =>
  refine Ret.mono (QY (qs:=Zv b3 b4 b5 acs k x) (e:=⟨(D8 acs k).ba - x,(D8 acs k).re⟩) w hd O (fun y hy=>(hb y hy).1) (Rd.of_bl h14 (qa0 _).symm fun _ _=>rfl) (show(2:Nat)<=1000 by decide) (fun q hq=>?_) qB fun q w' hqa hi hC hx=>?_) fun v w' h=>?_
  .rcases qai.1 hq with rfl|hq
   .exact⟨qB,(show(1:Int)≠0 by decide),fun w' hx=>Aha w' (hx.to h5 (by simp))⟩
   .rw[qab.1 hq];exact⟨qB,(show(12:Int)≠0 by decide),fun w' hx=>Ahd w' (hx.to h5 (by simp)) (hx.to h3 (by simp)) (hx.to h4 (by simp)) (hx.to hd (by simp)) (R.ext0 hx) hi0⟩
  .subst hqa;obtain⟨h1,h2⟩:=hb (q,Bl 108 full) (qab.2 rfl);have h9:w'.heap[q]?=_:=hx.to h1 (by simp);have hg:=J7 hac hi;have hC2:Gg acs k x=0:=by rw[<-Tf (b3:=b3) (b4:=b4) (b5:=b5)];unfold Jo;rw[if_neg (by rw[hi];decide)];exact hC
   rcases M5 acs k x with⟨hc,-⟩|⟨-,-,h0,hm,-⟩
   .exact absurd hC2 hc
   .refine Ret.mono (Ahc w' h9 (Oh O h9 hi).1 (hx.to h5 (by simp)) (fun h=>h2 h.symm) ⟨hg.1.1,hg.1.2⟩ ⟨by omega,(CT.1 hm).2⟩) fun _ w'' H2=>⟨_,?_,H2⟩;rw[show 0+k.toNat*2+0=k.toNat*2+0 by omega];exact OS.setf O (y:=⟨(D8 acs k).ba - x,(D8 acs k).re⟩) (j:=0) (v := .int .i64 ((D8 acs k).ba - x)) (fun _=>rfl) (FK hi) (by decide) U
  .rw[Tf]at h;exact⟨h.1,h.2.of (by unfold EY;rfl)⟩
theorem Ahg{b5 b14:Nat}{k x:Int}(hd:AcB bd a acs.length c w)(O:OS a acs.length c 2 full (acs.flatMap Dl))(hb:∀x∈ent a 108 full,w.heap[x.1]?=some x.2/\x.1≠b5)(hac:F9 acs=0)(h5:w.heap[b5]?=some (Bl 2 [.int .i64 x]))(h14:w.heap[b14]?=some (Bl 182 ((rsvQ b5 x).flatMap Og))) :
  Ret prog 103 #[ptr bd,.int .i64 k,.func (.func 110) #[] [ptr b5].toArray,.slice (some ⟨b14,0,none⟩) 1 1] w fun v w'=>v=.int .i64 (M1 acs k x)/\AcsAt w w' a acs.length c full (HM acs k x):=by
 have hn16:=(Cv.1 hac).1;refine Ret.mono (QY (qs:=rsvQ b5 x) (e:=⟨(D8 acs k).ba,x⟩) w hd O (fun y hy=>(hb y hy).1) (Rd.of_bl h14 (qa0 _).symm fun _ _=>rfl) (show(1:Nat)<=1000 by decide) (fun q hq=>?_) qB fun q w' hqa hi hC hx=>?_) fun v w' h=>?_
 .rw[qab.1 hq];exact⟨qB,(show(1:Int)≠0 by decide),fun w' hx=>Akt w' (hx.to h5 (by simp))⟩
 .subst hqa;obtain⟨h1,h2⟩:=hb (q,Bl 108 full) (qab.2 rfl);have h9:w'.heap[q]?=_:=hx.to h1 (by simp);refine Ret.mono (Aku w' h9 (Oh O h9 hi).2 (hx.to h5 (by simp)) (fun h=>h2 h.symm)) fun _ w'' H2=>⟨_,?_,H2⟩;rw[show 0+k.toNat*2+1=k.toNat*2+1 by omega];exact OS.setf O (y:=⟨(D8 acs k).ba,x⟩) (j:=1) (v := .int .i64 x) (fun _=>rfl) (FK hi) (by decide) U
 .rw[Ahf]at h;exact⟨h.1,h.2.of (by unfold HM;rfl)⟩
end
theorem Ahh{bd c:Nat}{a:Option Addr}{full:List Value}{acs:List Ac}{k x:Int}(w:World)(hd:AcB bd a acs.length c w)(O:OS a acs.length c 2 full (acs.flatMap Dl))(hb:∀x∈ent a 108 full,w.heap[x.1]?=some x.2)(hac:F9 acs=0) :
  Ret prog 72 #[ptr bd,.int .i64 k,.int .i64 x] w fun v w'=>v=.int .i64 (GH acs k x)/\AcsAt w w' a acs.length c full (Fm acs k x):=by
 obtain⟨w0,rfl,H⟩:=qE w;refine Au (fn:=f72) func72 U [.pointer (some ⟨bd,0,none⟩),.int .i64 k,.int .i64 x] U ?_;refine Ae (Bu _ (.pointer _) U U H ?_);rintro b3 w - H;refine Bu _ (.int _ _) U U H ?_;rintro b5 w - H;refine Ad U (qA (Ae (AG IV U H at1 U (Af U (Cq [ptr b5] U (Cq [ptr b5] U (BA (Og ⟨1,105,[ptr b5],true⟩) Q0 JS ?_)))))));refine Cq [ptr b3,ptr b5] U (BA (Og ⟨13,106,[ptr b3,ptr b5],true⟩) Q0 JS ?_);refine Ef ((Zu b3 b5 acs x).flatMap Og) Qs NM JS H ?_;rintro b14 w - H
 refine Al qB (Abv (H.ext.to hd (by simp)) O (fun y hy=>⟨H.ext.to (hb y hy) (by simp),fun hne=>by have h1:=Bd (hb y hy);rw[hne]at h1;have h2:=(H.own _ (qac at1)).elim (fun h=>by cases h) id;dsimp only at h2;omega⟩) hac (H.get at2) (H.get at1) (H.get at0)) U ?_;rintro v w2 ⟨rfl,A⟩;replace A:=A.back H.ext;refine Ad U (qA (A5 (AB (v:=(.int _ _)) U U U ?_)));exact⟨rfl,A⟩
theorem Ahi{bd c:Nat}{a:Option Addr}{full:List Value}{acs:List Ac}{k x:Int}(w:World)(hd:AcB bd a acs.length c w)(O:OS a acs.length c 2 full (acs.flatMap Dl))(hb:∀x∈ent a 108 full,w.heap[x.1]?=some x.2)(hac:F9 acs=0) :
  Ret prog 73 #[ptr bd,.int .i64 k,.int .i64 x] w fun v w'=>v=.int .i64 (Gg acs k x)/\AcsAt w w' a acs.length c full (EY acs k x):=by
 obtain⟨w0,rfl,H⟩:=qE w;refine Au (fn:=f73) func73 U [.pointer (some ⟨bd,0,none⟩),.int .i64 k,.int .i64 x] U ?_;refine Ae (Bu _ (.pointer _) U U H ?_);rintro b3 w - H;refine Bu _ (.int _ _) U U H ?_;rintro b4 w - H;refine Bu _ (.int _ _) U U H ?_;rintro b5 w - H;refine Ad U (qA (Ae (AG IV U H at2 U (AG Cc U H at1 U (Cq [ptr b5] U (Cq [ptr b5] U (BA (Og ⟨1,108,[ptr b5],true⟩) Q0 JS ?_)))))));refine Cq [ptr b5,ptr b3,ptr b4] U (BA (Og ⟨12,109,[ptr b5,ptr b3,ptr b4],true⟩) Q0 JS ?_);refine Ef ((Zv b3 b4 b5 acs k x).flatMap Og) Qs NM JS H ?_;rintro b14 w - H
 refine Al qB (Abw (H.ext.to hd (by simp)) O (fun y hy=>⟨H.ext.to (hb y hy) (by simp),fun hne=>by have h1:=Bd (hb y hy);rw[hne]at h1;have h2:=(H.own _ (qac at1)).elim (fun h=>by cases h) id;dsimp only at h2;omega⟩) hac (H.get at3) (H.get at2) (H.get at1) (H.get at0)) U ?_;rintro v w2 ⟨rfl,A⟩;replace A:=A.back H.ext;refine Ad U (qA (A5 (AB (v:=(.int _ _)) U U U ?_)));exact⟨rfl,A⟩
theorem Akv{bd c:Nat}{a:Option Addr}{full:List Value}{acs:List Ac}{k x:Int}(w:World)(hd:AcB bd a acs.length c w)(O:OS a acs.length c 2 full (acs.flatMap Dl))(hb:∀x∈ent a 108 full,w.heap[x.1]?=some x.2)(hac:F9 acs=0) :
  Ret prog 74 #[ptr bd,.int .i64 k,.int .i64 x] w fun v w'=>v=.int .i64 (M1 acs k x)/\AcsAt w w' a acs.length c full (HM acs k x):=by
 obtain⟨w0,rfl,H⟩:=qE w;refine Au (fn:=f74) func74 U [.pointer (some ⟨bd,0,none⟩),.int .i64 k,.int .i64 x] U ?_;refine Ae (Bu _ (.int _ _) U U H ?_);rintro b5 w - H;refine Ad U (qA (Ae (A4 U (Af U (Cq [ptr b5] U (Cq [ptr b5] U (BA (Og ⟨1,111,[ptr b5],true⟩) Q0 JS ?_)))))));refine Ef ((rsvQ b5 x).flatMap Og) Qs NM JS H ?_;rintro b14 w - H;refine Al qB (Ahg (H.ext.to hd (by simp)) O (fun y hy=>⟨H.ext.to (hb y hy) (by simp),fun hne=>by have h1:=Bd (hb y hy);rw[hne]at h1;have h2:=(H.own _ (qac at1)).elim (fun h=>by cases h) id;dsimp only at h2;omega⟩) hac (H.get at1) (H.get at0)) U ?_;rintro v w2 ⟨rfl,A⟩;replace A:=A.back H.ext;refine Ad U (qA (A5 (AB (v:=(.int _ _)) U U U ?_)));exact⟨rfl,A⟩
end Go.Proofs.YtffclglpjlcojaaGreat
