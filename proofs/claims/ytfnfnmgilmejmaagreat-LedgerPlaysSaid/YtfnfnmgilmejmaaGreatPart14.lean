/- Part 14 of the proof. -/
import Derived.Test.YtfnfnmgilmejmaaGreatPart13
set_option maxRecDepth 20000
set_option maxHeartbeats 8000000
namespace Go.Proofs.YtfnfnmgilmejmaaGreat
open Go.GV Go.Proofs.Tryz
attribute [local irreducible] A4 W Wq Wt
variable{α:Type}{k:Ak}{f:FuncId}{code d e fr nx to u un we:Int}{s s':Ld}{L N P R' R2:List (Nat × Obj)}{ds:List Du}{l:List Int}{S':List Nat}{qs:List RSl}{rn:List Rnd}{full:List Value}{b b3 b5 bd bl c i n:Nat}{T T':Nat->Prop}{a:Option Addr}{m':Rm}{r:Rnd}{w w' w0 w1 w2:World}
theorem Qy(l:List Int):l.map Cu=l.flatMap I1++[]:=by
 rw[qar]
 induction l with
 |nil=>rfl
 |cons x l ih=>rw[qas,qbw,ih];rfl
def RpNew(w0 w:World)(v:Value)(p:Rp):Prop:=∃a c,v=.agg #[.int .i64 p.e,.slice a p.n.length c]/\Rd w a 1 I1 p.n/\(p.n≠[]->w0.heap.size<=(adr a).block)
theorem RpNew.nil(e:Int):RpNew w0 w (.agg #[.int .i64 e,.slice none 0 0]) ⟨e,[]⟩:=⟨none,0,rfl,Rd.nil,fun h=>absurd rfl h⟩
theorem RpNew.of(H:Ctx w0 [] w ((b,Bl 2 (l.map Cu))::L))(hn:l.length=n):RpNew w0 w (.agg #[.int .i64 0,.slice (some ⟨b,0,none⟩) n n]) ⟨0,l⟩ :=
 ⟨_,n,by rw[<-hn],Rd.of_bl (H.get at0) (Qy l) fun _ _=>rfl,fun _=>(H.own _<|qah ..).elim (fun h=>by cases h) id⟩
theorem Ad8(h:s.Ok){k:Int}(hr:s.rn[i]?=some r)(hk:r.no=k):JA s k=some r:=by
 have h1:=h.nos i r hr;have h2:=BH hr;unfold JA;rw[if_pos<|by omega,show(k - (s.no - s.rn.length+1)).toNat=i by omega];exact hr
theorem Aa7(h:s.Ok){k:Int}(hn:∀r∈s.rn,r.no≠k):JA s k=none:=by
 cases hg:JA s k with
 |none=>rfl
 |some r=>exact absurd (LA h hg).2.2<|hn r (LA h hg).2.1
def Xf(s:Ld)(k b:Int):Rp:=match JA s k with
 |none=>⟨4,[]⟩
 |some r=>ER r b
theorem Xg{m:Rm}{k b:Int}(w:World)(V:Rv m s w)(hok:s.Ok)(hb : -9223372036854775808<=b/\b<=9223372036854775807):Ret prog 130 #[ptr m.bl,.int .u64 k,.int .i64 b] w fun v w'=>Ext [] w w'/\RpNew w w' v (Xf s k b):=by
 obtain⟨w0,rfl⟩:=qD w;have hL:=V.L;have hR:=V.R;have RR:=V.RR;have hq:=V.n;have hK:=V.K;obtain⟨bl,ba,bd,br,a,c,full,ad,cd,fd,ar,o,cr,fr,qs⟩:=m;dsimp only at hL hR RR hq hK;have H:=Ctx.start w0 [];refine iG func130 U ?_;refine Af<|AN qf H ?_;rintro b6 w - H;refine qG 6 ?_;refine A9 qf U ((H.old (Ai hL _)<|by simp))<|Ad U<|Aj qB (Xd (k:=k) _ (H.ext.to hR<|by simp) (RR.ext0 H.ext) hq (by have:=hok.kept.1;omega)) U ?_;rintro v w ⟨hx19,hg⟩;replace H:=H.call hx19;obtain⟨z,q,t,rfl,hg2⟩:∃z q t,v=.tuple #[.agg (AE z q).toArray,.bool t]/\((t=true/\JA s k=some z/\∃i,s.rn[i]?=some z/\(s.rn.zip qs)[i]?=some (z,q))\/(t=false/\JA s k=none)):=hg.elim (fun⟨i,r,q,h1,h2,h3,h4⟩=>⟨r,q,true,h4,.inl ⟨rfl,Ad8 hok h1 h3,i,h1,h2⟩⟩)<|fun⟨h1,z,q,h2⟩=>⟨z,q,false,h2,.inr ⟨rfl,Aa7 hok h1⟩⟩
 refine qG 4 ?_;rintro b7 w - H;refine AM qf U U U (by exact ES _ _) H at0 U ?_;rintro w H;refine qGp 9 ?_ ?_
 .intro h1;refine Af<|Aj qB (EE 4 _) U ?_;rintro v w ⟨rfl,hx24⟩;replace H:=H.call hx24;refine qG 1 ?_;rintro w H;refine qG 5 ?_
  rcases hg2 with⟨rfl,-⟩|⟨-,hg⟩
  .cases h1
  .unfold Xf;rw[hg];exact⟨H.ext,RpNew.nil 4⟩
 .intro h1
  rcases hg2 with⟨-,hg,i,hr,hz⟩|⟨rfl,-⟩
  .have hmr:=hok.may z<|qad hr;obtain⟨hN,hes,hfl,hpot,hids⟩:=Pr hmr;have RA:=hK _<|qad hz;dsimp only at RA;have hC:Xf s k b=ER z b:=by unfold Xf;rw[hg]
   rw[hC];refine qG 11 ?_;replace H:Ctx w0 [] w [(b7,Bl 57 (AE z q)),(b6,Bl 43 [.int .i64 0,.slice none 0 0])]:=H;refine Af<|Bo (α:=Unit) 1098974756864 (fun _=>[(39,.bool<|(decide (b < -1) || decide ((z.es.length:Int)+z.N<=b)))]) (fun _ w'=>Ctx w0 [] w' [(b7,Bl 57 (AE z q)),(b6,Bl 43 [.int .i64 0,.slice none 0 0])]) U ?_ ?_
   .refine qG 3 ?_;refine iC 31 U ?_ ?_
    .intro h1;refine qG 9 ?_;exact⟨rfl,(),rfl,⟨qaa Value.bool (by rw[qac];simp_all;try omega),trivial⟩,H⟩
    .intro h2;refine qG 9 ?_;exact⟨rfl,(),rfl,⟨qaa Value.bool (by rw[qac];simp_all;try omega),trivial⟩,H⟩
   rintro - j39 w H;refine A3 _ U ?_ ?_
   .intro h2;have h2':b < -1\/(z.es.length:Int)+z.N<=b:=by simpa using h2
    refine Af<|Aj qB (EE 1 _) U ?_;rintro v w ⟨rfl,hx40⟩;replace H:=H.call hx40;refine qG 1 ?_;rintro w H;refine qG 5 ?_;unfold ER;rw[if_pos h2'];exact⟨H.ext,RpNew.nil 1⟩
   .intro h2;have h2':¬(b < -1\/(z.es.length:Int)+z.N<=b):=by simpa using h2
    refine qGp 8 ?_ ?_
    .intro h3;have h3':b = -1:=by omega
     refine qGc 10 ?_ ?_
     .intro h4;refine qG 15 ?_;refine Cs ([z.day,GX z.cmp,z.N,(z.es.length:Int),(z.ids.length:Int)].map Cu) qf qf qf (hl:=by rw[h4];kernel_rfl) H ?_;rintro b55 w - H;refine Bd [.int .i64 0,.slice (some ⟨b55,0,none⟩) 5 5] qf qf ?_;refine qG 1 ?_;rintro w H;refine qG 5 ?_;unfold ER;rw[if_neg h2',if_pos h3'];exact⟨H.ext,RpNew.of H rfl⟩
     .intro h4;refine qG 13 ?_;refine Cs ([z.day,GX z.cmp,z.N,(z.es.length:Int),(z.ids.length:Int)].map Cu) qf qf qf (hl:=by rw[h4];kernel_rfl) H ?_;rintro b55 w - H;refine Bd [.int .i64 0,.slice (some ⟨b55,0,none⟩) 5 5] qf qf ?_;refine qG 1 ?_;rintro w H;refine qG 5 ?_;unfold ER;rw[if_neg h2',if_pos h3'];exact⟨H.ext,RpNew.of H rfl⟩
    .intro h3;have h3':¬b = -1:=by omega
     refine qGp 9 ?_ ?_
     .intro h4;obtain⟨y,hy⟩:=Au (l:=z.pot) (i:=(b - (z.es.length:Int)).toNat);refine qG 7 ?_;refine A2 (RA.P.ext0 H.ext) qf qf U U (by rfl)<|A9 qf U (((RA.P.ext0 H.ext).one (f:=Cu) hy)) ?_;refine qG 1 ?_;rintro b68 w - H;refine Bd [.int .i64 0,.slice (some ⟨b68,0,none⟩) 1 1] qf qf ?_;refine qG 1 ?_;rintro w H;refine qG 5 ?_;unfold ER;rw[if_neg h2',if_neg h3',if_pos h4,Bp hy];exact⟨H.ext,RpNew.of (l:=[y]) H rfl⟩
     .intro h4;obtain⟨x,hxe⟩:=Au (l:=z.es) (i:=b.toNat);obtain⟨f,hf⟩:=Au (l:=z.fl) (i:=b.toNat);refine qG 7 ?_;refine A2 (RA.E.ext0 H.ext) qf qf U U (by rfl)<|BC _ qf qf U U (((RA.E.ext0 H.ext).row hxe U))<|AN qf H ?_;rintro b11 w - H;refine AM qf U U U (by exact Eg _) H at0 U ?_;rintro w H;refine qG 7 ?_;replace H:Ctx w0 [] w [(b11,Bl 195 (Co x)),(b7,Bl 57 (AE z q)),(b6,Bl 43 [.int .i64 0,.slice none 0 0])]:=H;refine qGp 8 ?_ ?_
      .intro h5;obtain⟨y,hy⟩:=Au (l:=z.ids) (i:=b.toNat);refine qG 4 ?_
       refine A2 (RA.I.ext0 H.ext) qf qf U U (by rfl)<|A9 qf U (((RA.I.ext0 H.ext).one (f:=F2) hy))<|MD U U qf qf<|Ag U<|qA<|BG [([0,1,2,3,4,5,6,7,8,9,10,11,12,13,14],15),([16],17)] (fun z9=>Ext [] w0 z9/\z9.heap[b11]?=some (Bl 195 (Co x))/\z9.heap[b7]?=some (Bl 57 (AE z q))) [17] AW (⟨H.drew.ext,H.drew.get at0,H.drew.get at1⟩)<|A0 U U<|Ah qf U<|AU qf U (fun _ hx=>(by rw[Ai hx.2.1];rfl))<|Ah qf U<|AU qf U (fun _ hx=>(by rw[Ai hx.2.1];rfl))<|Ah qf U<|AU qf U (fun _ hx=>(by rw[Ai hx.2.1];rfl))<|Ah qf U<|AU qf U (fun _ hx=>(by rw[Ai hx.2.1];rfl))<|Ah qf U<|Ah qf U<|AU qf U (fun _ hx=>(by rw[Ai hx.2.2];rfl))<|AG U<|B4 (RA.F.ext0 H.ext) qf qf U U (by rfl)<|AU qf U (fun _ hx=>((RA.F.ext0 hx.1).one (f:=Cu) hf))<|AG U<|A6 ?_;replace H:=H.drew
       refine Cs ([x.f,x.t,x.cap,x.cost,f,IntKind.i64.wrap y].map Cu) qf qf qf H ?_;rintro b102 w - H;refine Ab<|Bv (⟨H.ext,H.get at1,H.get at2⟩)<|A0 U U ?_;refine Ef [.int .i64 0,.slice (some ⟨b102,0,none⟩) 6 6] qf qf ?_;refine A6<|AM qf U U U (by simp[AF]) H at3 U ?_;rintro w H;refine Ab<|Bw U<|Bu<|Bf<|C1 U U U qf qf H at3 U ?_;unfold ER;rw[if_neg h2',if_neg h3',if_neg<|by omega,Bp hxe,Bp hf,if_pos h5,Bp hy];exact⟨H.ext,RpNew.of H rfl⟩
      .intro h5;refine A1<|Aa<|BG [([0,1,2,3,4,5,6,7,8,9,10,11,12,13,14],15),([16],17)] (fun z9=>Ext [] w0 z9/\z9.heap[b11]?=some (Bl 195 (Co x))/\z9.heap[b7]?=some (Bl 57 (AE z q))) [17] AW (⟨H.drew.ext,H.drew.get at0,H.drew.get at1⟩) ?_;refine A0 U U<|Ah qf U<|AU qf U (fun _ hx=>(by rw[Ai hx.2.1];rfl)) ?_;refine Ah qf U<|AU qf U (fun _ hx=>(by rw[Ai hx.2.1];rfl)) ?_;refine Ah qf U<|AU qf U (fun _ hx=>(by rw[Ai hx.2.1];rfl)) ?_;refine Ah qf U<|AU qf U (fun _ hx=>(by rw[Ai hx.2.1];rfl)) ?_;refine Ah qf U<|Ah qf U<|AU qf U (fun _ hx=>(by rw[Ai hx.2.2];rfl)) ?_;refine AG U<|B4 (RA.F.ext0 H.ext) qf qf U U (by rfl) ?_;refine AU qf U (fun _ hx=>((RA.F.ext0 hx.1).one (f:=Cu) hf))<|AG U<|A6 ?_;replace H:=H.drew
       refine Cs ([x.f,x.t,x.cap,x.cost,f,0].map Cu) qf qf qf H ?_;rintro b102 w - H;refine Ab<|Bv (⟨H.ext,H.get at1,H.get at2⟩)<|A0 U U ?_;refine Ef [.int .i64 0,.slice (some ⟨b102,0,none⟩) 6 6] qf qf ?_;refine A6<|AM qf U U U (by simp[AF]) H at3 U ?_;rintro w H;refine Ab<|Bw U<|Bu<|Bf<|C1 U U U qf qf H at3 U ?_;unfold ER;rw[if_neg h2',if_neg h3',if_neg<|by omega,Bp hxe,Bp hf,if_neg h5];exact⟨H.ext,RpNew.of H rfl⟩
  .cases h1
abbrev RLL(m:Rm)(s:Ld):List (Nat × Obj):=(m.bl,L22 m.ba m.bd m.br s.day)::(m.ba,A17 m.a s.acs.length m.c)::(m.bd,RDU m.ad s.ds.length m.cd s.nx)::(m.br,A21 m.ar s.rn.length m.cr s.no)::(ent m.a 162 m.full++(ent m.ad 111 m.fd++ent m.ar 57 m.fr))
structure Rl(m:Rm)(s:Ld)(w0:World)(S:List Nat)(w:World)(R:List (Nat × Obj)):Prop where
 H:Ctx w0 S w (RLL m s++R)
 OA:OS m.a s.acs.length m.c 2 m.full (s.acs.flatMap Cg)
 OD:OS m.ad s.ds.length m.cd 7 m.fd (s.ds.flatMap BK)
 OR:OSo m.ar m.o s.rn.length m.cr 8 m.fr ((s.rn.zip m.qs).flatMap Er)
 n:m.qs.length=s.rn.length
theorem Uo(x y z t:α)(A D E R:List α):((x::y::z::t::(A++(D++E)))++R).Perm (y::(A++(x::z::t::((D++E)++R)))):=by
 classical
 refine qb7.2 fun a=>?_;simp only[qce,qbz,qcu];omega
theorem Aa8(x y z t:α)(A D E R:List α):((x::y::z::t::(A++(D++E)))++R).Perm (z::(D++(x::y::t::((A++E)++R)))):=by
 classical
 refine qb7.2 fun a=>?_;simp only[qce,qbz,qcu];omega
theorem Aa9(x y z t:α)(A D E R:List α):((x::y::z::t::(A++(D++E)))++R).Perm (t::(E++(x::y::z::((A++D)++R)))):=by
 classical
 refine qb7.2 fun a=>?_;simp only[qce,qbz,qcu];omega
section
variable {m:Rm}{s:Ld}{w0 w:World}{S:List Nat}{R:List (Nat × Obj)}
theorem Rl.p17(h:Rl m s w0 S w R):Ctx w0 S w ((m.ba,A17 m.a s.acs.length m.c)::(ent m.a 162 m.full++((m.bl,L22 m.ba m.bd m.br s.day)::(m.bd,RDU m.ad s.ds.length m.cd s.nx)::(m.br,A21 m.ar s.rn.length m.cr s.no)::((ent m.ad 111 m.fd++ent m.ar 57 m.fr)++R)))):=h.H.perm<|Uo _ _ _ _ _ _ _ _
theorem Rl.p18(h:Rl m s w0 S w R):Ctx w0 S w ((m.bd,RDU m.ad s.ds.length m.cd s.nx)::(ent m.ad 111 m.fd++((m.bl,L22 m.ba m.bd m.br s.day)::(m.ba,A17 m.a s.acs.length m.c)::(m.br,A21 m.ar s.rn.length m.cr s.no)::((ent m.a 162 m.full++ent m.ar 57 m.fr)++R)))):=h.H.perm<|Aa8 _ _ _ _ _ _ _ _
theorem Rl.p21(h:Rl m s w0 S w R):Ctx w0 S w ((m.br,A21 m.ar s.rn.length m.cr s.no)::(ent m.ar 57 m.fr++((m.bl,L22 m.ba m.bd m.br s.day)::(m.ba,A17 m.a s.acs.length m.c)::(m.bd,RDU m.ad s.ds.length m.cd s.nx)::((ent m.a 162 m.full++ent m.ad 111 m.fd)++R)))):=h.H.perm<|Aa9 _ _ _ _ _ _ _ _
theorem Rl.acs(h:Rl m s w0 S w R){acs:List Ac}(O:OS a acs.length c 2 full (acs.flatMap Cg))(H:Ctx w0 S w' ((m.ba,A17 a acs.length c)::(ent a 162 full++((m.bl,L22 m.ba m.bd m.br s.day)::(m.bd,RDU m.ad s.ds.length m.cd s.nx)::(m.br,A21 m.ar s.rn.length m.cr s.no)::(((ent m.ad 111 m.fd++ent m.ar 57 m.fr)++R)++N))))) :
  Rl { m with a:=a,c:=c,full:=full } { s with acs:=acs } w0 S w' (R++N) :=
 ⟨(H.perm (by rw[qaz];exact(Uo _ _ _ _ _ _ _ _).symm)),O,h.OD,h.OR,h.n⟩
theorem Rl.dus(h:Rl m s w0 S w R)(O:OS a ds.length c 7 full (ds.flatMap BK))(H:Ctx w0 S w' ((m.bd,RDU a ds.length c nx)::(ent a 111 full++((m.bl,L22 m.ba m.bd m.br s.day)::(m.ba,A17 m.a s.acs.length m.c)::(m.br,A21 m.ar s.rn.length m.cr s.no)::(((ent m.a 162 m.full++ent m.ar 57 m.fr)++R)++N))))) :
  Rl { m with ad:=a,cd:=c,fd:=full } { s with ds:=ds,nx:=nx } w0 S w' (R++N) :=
 ⟨(H.perm (by rw[qaz];exact(Aa8 _ _ _ _ _ _ _ _).symm)),h.OA,O,h.OR,h.n⟩
theorem Rl.rv(h:Rl m s w0 S w R)(hok:s.Ok)(hK:∀x∈s.rn.zip m.qs,RAt w x.1 x.2):Rv m s w:=by
 have h1:=(BM.1 hok.ac).1;have h2:=(CB hok.du).1;have hR:Rd w m.ar 8 Er (s.rn.zip m.qs):=OSo.rd h.OR (fun y hy=>h.p21.blk y<|qae _<|qax _ hy) (fun _ _=>rfl) (by decide);refine⟨h.H.blk _<|qah ..,h.H.blk _<|qae _<|qah ..,h.H.blk _<|qae _<|qae _<|qah ..,h.H.blk _<|qae _<|qae _<|qae _<|qah ..,Jn h.p17 h.OA,L8 h.p18 h.OD,hR,h.n,hK⟩
theorem Ad9(h:Rl m s w0 S w R)(hok:s.Ok):Ret prog 118 #[ptr m.ba] w fun v w'=>(16<=s.acs.length->v=.tuple #[.int .i64 0,.int .i64 6]/\Rl m s w0 S w' R) /\
  (s.acs.length<16->v=.tuple #[.int .i64 (s.acs.length:Int),.int .i64 0]/\∃a c full,Rl { m with a:=a,c:=c,full:=full } { s with acs:=s.acs++[a00] } w0 S w' R):=by
 refine Ret.mono (Uj h.p17 h.OA (by have:=(BM.1 hok.ac).1;omega)) fun v w' k=>⟨fun g=>⟨(k.1 g).1,?_⟩,fun g=>⟨(k.2 g).1,?_⟩⟩
 .exact⟨(k.1 g).2.perm (Uo _ _ _ _ _ _ _ _).symm,h.OA,h.OD,h.OR,h.n⟩
 .obtain⟨-,a,c,full,O,H⟩:=k.2 g;refine⟨a,c,full,?_⟩;have:=h.acs (N:=[]) O (by rw[qar];exact H);rw[qar]at this;exact this
theorem Aea{k x:Int}(h:Rl m s w0 S w R)(hok:s.Ok):Ret prog 119 #[ptr m.ba,.int .i64 k,.int .i64 x] w fun v w'=>v=.int .i64 (DW s.acs k x)/\∃full N,Rl { m with full:=full } { s with acs:=DF s.acs k x } w0 S w'<|R++N:=by
 refine Ret.mono (Ul h.p17 h.OA hok.ac) fun v w' ⟨g1,full,N,O,H⟩=>⟨g1,full,N,?_⟩;rw[<-(KS hok.ac k x).2.1]at O H;exact h.acs O H
theorem Aeb{k x:Int}(h:Rl m s w0 S w R)(hok:s.Ok):Ret prog 120 #[ptr m.ba,.int .i64 k,.int .i64 x] w fun v w'=>v=.int .i64 (DG s.acs k x)/\∃full,Rl { m with full:=full } { s with acs:=D8 s.acs k x } w0 S w' R:=by
 refine Ret.mono (Uk h.p17 h.OA hok.ac) fun v w' ⟨g1,full,O,H⟩=>⟨g1,full,?_⟩;rw[<-(KT hok.ac k x).2.1]at O H;have:=h.acs (N:=[]) O (by rw[qar];exact H);rw[qar]at this;exact this
theorem Ajl{k x:Int}(h:Rl m s w0 S w R)(hok:s.Ok):Ret prog 121 #[ptr m.ba,.int .i64 k,.int .i64 x] w fun v w'=>v=.int .i64 (GW s.acs k x)/\∃full,Rl { m with full:=full } { s with acs:=Fg s.acs k x } w0 S w' R:=by
 refine Ret.mono (Xa h.p17 h.OA (by have:=(BM.1 hok.ac).1;omega)) fun v w' ⟨g1,full,O,H⟩=>⟨g1,full,?_⟩;rw[<-(Nt hok.ac k x).2.1]at O H;have:=h.acs (N:=[]) O (by rw[qar];exact H);rw[qar]at this;exact this
theorem V0(ds:List Du)(k:Int)(b:Bool):(EX ds k b).length=ds.length:=by
 unfold EX
 split
 .exact qaj ..
 .rfl
theorem Aec{k:Int}(h:Rl m s w0 S w R)(hok:s.Ok):Ret prog 124 #[ptr m.bd,.int .u64 k] w fun v w'=>v=.int .i64 (F3 s.ds k true)/\∃full,Rl { m with fd:=full } { s with ds:=EX s.ds k true } w0 S w' R:=by
 refine Ret.mono (Uh h.p18 h.OD hok.du) fun v w' ⟨g1,full,O,H⟩=>⟨g1,full,?_⟩;rw[<-V0 s.ds k true]at O H;have:=h.dus (N:=[]) O (by rw[qar];exact H);rw[qar]at this;exact this
theorem Up{k:Int}(h:Rl m s w0 S w R)(hok:s.Ok):Ret prog 125 #[ptr m.bd,.int .u64 k] w fun v w'=>v=.int .i64 (F3 s.ds k false)/\∃full,Rl { m with fd:=full } { s with ds:=EX s.ds k false } w0 S w' R:=by
 refine Ret.mono (NL h.p18 h.OD hok.du) fun v w' ⟨g1,full,O,H⟩=>⟨g1,full,?_⟩;rw[<-V0 s.ds k false]at O H;have:=h.dus (N:=[]) O (by rw[qar];exact H);rw[qar]at this;exact this
theorem Afh(z x y t:α)(D C N R:List α):(z::(D++(N++(x::y::t::(C++R))))).Perm (z::(D++(x::y::t::((C++R)++N)))):=by
 classical
 refine qb7.2 fun a=>?_;simp only[qce,qbz];omega
theorem Xh{k:Int}(h:Rl m s w0 S w R)(hok:s.Ok):Ret prog 126 #[ptr m.bd,.int .u64 k] w fun v w'=>v=.int .i64 (I8 s.ds k)/\∃a c full N,Rl { m with ad:=a,cd:=c,fd:=full } { s with ds:=IK s.ds k } w0 S w'<|R++N:=by
 refine Ret.mono (Qs h.p18 h.OD hok.du) fun v w' ⟨g1,a,c,full,N,O,H⟩=>⟨g1,a,c,full,N,?_⟩;exact h.dus O<|H.perm<|Afh _ _ _ _ _ _ _ _
theorem Xi(h:Rl m s w0 S w R)(hok:s.Ok):Ret prog 127 #[ptr m.bd,.int .i64 u] w fun v w'=>(∃a5 c5,v=.slice a5 (s.ds.length - (Gh s.ds u).length) c5)/\∃a c full N,Rl { m with ad:=a,cd:=c,fd:=full } { s with ds:=Gh s.ds u } w0 S w'<|R++N:=by
 refine Ret.mono (Qt h.p18 h.OD hok.du) fun v w' ⟨g1,a,c,full,N,O,H⟩=>⟨g1,a,c,full,N,?_⟩;exact h.dus O<|H.perm<|Afh _ _ _ _ _ _ _ _
theorem Ajm{x:Int}(h:Rl m s w0 S w R)(hok:s.Ok):Ret prog 123 #[ptr m.bd,.int .i64 fr,.int .i64 to,.int .i64 x,.int .i64 we,.int .i64 un] w fun v w'=>v=.tuple #[.int .u64<|if FQ s.ds s.nx fr to x we un=0 then s.nx else 0,.int .i64<|FQ s.ds s.nx fr to x we un]/\∃a c full N,Rl { m with ad:=a,cd:=c,fd:=full } { s with ds:=Gq s.ds s.nx fr to x we un,nx:=I6 s.ds s.nx fr to x we un } w0 S w'<|R++N:=by
 refine Ret.mono (WS fr to x we un h.p18 h.OD hok.du) fun v w' ⟨g1,a,c,full,N,O,H⟩=>⟨g1,a,c,full,N,h.dus O H⟩
end
theorem V1(x y:α)(A R:List α):(A++(x::y::R)).Perm (x::y::(A++R)):=qbl.trans<|List.Perm.cons _ qbl
section
variable {m:Rm}{s:Ld}{w0 w:World}{S:List Nat}{R:List (Nat × Obj)}{x y:Nat × Obj}
theorem Rl.front(h:Rl m s w0 S w (x::y::R)):Ctx w0 S w (x::y::(RLL m s++R)):=h.H.perm<|V1 _ _ _ _
theorem Rl.put(h:Rl m s w1 S' w' R')(H:Ctx w0 S w (x::y::(RLL m s++R))):Rl m s w0 S w (x::y::R):=⟨H.perm (V1 _ _ _ _).symm,h.OA,h.OD,h.OR,h.n⟩
theorem Aba(h:Rl m s w0 S w R)(hok:s.Ok):Ret prog 118 #[ptr m.ba] w fun v w'=>∃n:Int,v=.tuple #[.int .i64 n,.int .i64<|if s.acs.length<16 then 0 else 6]/\(s.acs.length<16->n=s.acs.length)/\∃a c full,Rl { m with a:=a,c:=c,full:=full } (if s.acs.length<16 then{ s with acs:=s.acs++[a00] }else s) w0 S w' R:=by
 refine Ret.mono (Ad9 h hok) fun v w' k=>?_
 by_cases hl:s.acs.length<16
 .rw[if_pos hl,if_pos hl];exact⟨_,(k.2 hl).1,fun _=>rfl,(k.2 hl).2⟩
 .rw[if_neg hl,if_neg hl];exact⟨0,(k.1<|by omega).1,fun g=>absurd g hl,m.a,m.c,m.full,(k.1<|by omega).2⟩
theorem Rl.look(h:Rl m s w1 S' w' R')(hok:CO s.acs=0)(H:Ctx w0 S w (x::y::(RLL m s++R))):w.heap[y.1]?=some y.2/\w.heap[m.bl]?=some (L22 m.ba m.bd m.br s.day)/\w.heap[m.ba]?=some (A17 m.a s.acs.length m.c)/\Rd w m.a 2 Cg s.acs :=
 ⟨H.get at1,H.get at2,H.get at3,Jn (h.put H).p17 h.OA (by have:=(BM.1 hok).1;omega)⟩
theorem Rl.putd(h:Rl m s w1 S' w' R')(H:Ctx w0 S w (x::y::(RLL m { s with day:=d }++R))):Rl m { s with day:=d } w0 S w (x::y::R):=⟨H.perm (V1 _ _ _ _).symm,h.OA,h.OD,h.OR,h.n⟩
theorem Qz(e:Int):rp [] e=⟨e,[]⟩:=by
 unfold rp
 split
 .rename_i h;rw[h]
 .rfl
theorem Rl.look2(h:Rl m s w1 S' w' R')(hof:ofC s.ds s.nx=0)(H:Ctx w0 S w (x::y::(RLL m s++R))):w.heap[m.bd]?=some (RDU m.ad s.ds.length m.cd s.nx)/\Rd w m.ad 7 BK s.ds :=
 ⟨H.get (k:=4) rfl,L8 (h.put H).p18 h.OD (by have:=(CB hof).1;omega)⟩
def RpR(R:List (Nat × Obj))(w:World)(v:Value)(p:Rp):Prop:=∃a c,v=.agg #[.int .i64 p.e,.slice a p.n.length c]/\Rd w a 1 I1 p.n/\(p.n≠[]->∀z∈R,z.1≠(adr a).block)
def OthP(m:Rm)(w0:World)(S:List Nat)(R:List (Nat × Obj))(s':Ld)(p:Rp)(v:Value)(w':World):Prop:=∃m' R',Rl m' s' w0 S w' R'/\(∀z∈R,z∈R')/\RpR R w' v p/\m'.bl=m.bl/\m'.qs=m.qs
theorem Ctx.skip2{a b:Nat × Obj}(H:Ctx w0 S w (a::b::L)):Ctx w0 S w (a::L):=(H.perm<|List.Perm.swap _ _ _).tail
theorem Ez(h:Rl m' s' w1 S' w2 R2)(H:Ctx w0 S w' (x::y::(RLL m' s'++R')))(e1:m'.bl=m.bl)(e2:m'.qs=m.qs)(hsub:∀z∈R,z∈R':=by first|exact fun _ h=>h|exact fun _ h=>qax _ h):OthP m w0 S R s' ⟨e,[]⟩ (.agg #[.int .i64 e,.slice none 0 0]) w' :=
 ⟨m',_,h.put H,fun z hz=>qae _<|qae _<|hsub z hz,⟨none,0,rfl,Rd.nil,fun g=>absurd rfl g⟩,e1,e2⟩
theorem Hz(h:Rl m' s' w1 S' w2 R2)(H:Ctx w0 S w' ((b,Bl 2 (l.map Cu))::x::y::(RLL m' s'++R')))(hn:l.length=n)(e1:m'.bl=m.bl)(e2:m'.qs=m.qs)(hsub:∀z∈R,z∈R':=by first|exact fun _ h=>h|exact fun _ h=>qax _ h):OthP m w0 S R s' ⟨0,l⟩ (.agg #[.int .i64 0,.slice (some ⟨b,0,none⟩) n n]) w' :=
 ⟨m',_,h.put H.tail,fun z hz=>qae _<|qae _<|hsub z hz,⟨_,n,by rw[<-hn],Rd.of_bl (H.get at0) (Qy l) fun _ _=>rfl,fun _ z hz he=>(qbf.1 H.nd).1 z (qae _<|qae _<|qap _<|hsub z hz) he.symm⟩,e1,e2⟩
theorem Xj(hin:AkIn k)(_:¬(k.kd=10\/k.kd=11))(h:Rl m s w0 S w R)(hok:s.Ok)(hK:∀x∈s.rn.zip m.qs,RAt w0 x.1 x.2/\ROff x.2 x.1 (·∈S)) :
  Ret prog 62 #[ptr m.bl,.agg (BN k).toArray] w fun v w'=>OthP m w0 S R (Dn s k) (Dq s k) v w':=by
 have H:=h.H;obtain⟨s',hS⟩:∃s',s'=Dn s k:=⟨_,rfl⟩;obtain⟨p,hR⟩:=qD<|Dq s k;rw[<-hS,<-hR];refine iG func62 U ?_;refine Af<|Be (BN k) (.agg _) U U H ?_;rintro b3 w - H;refine AN qf H ?_;rintro b4 w - H;refine qA<|Af<|Ag U<|qA<|AB ?_;replace H:Ctx w0 S w ((b4,Bl 43 [.int .i64 0,.slice none 0 0])::(b3,Bl 46 (BN k))::(RLL m s++R)):=H;refine Af<|Ae qf U<|Bh qf U H at1 U<|qA<|AK<|Af<|Ct U U<|A5 U<|qA<|iB U ?_ ?_
 .intro h1;obtain⟨e,he⟩:=qD (if s.acs.length<16 then 0 else 6:Int);have hS1:s'=if s.acs.length<16 then{ s with acs:=s.acs++[a00] }else s:=by rw[hS];unfold Dn;rw[if_pos h1]
  have hR1:p=rp [(s.acs.length:Int)] e:=by rw[hR,he];unfold Dq;rw[if_pos h1]
  refine Af<|AV U<|AR U<|Ae qf U<|Bh qf U H at2 U<|Aj qB (Aba (h.put H) hok) U ?_;rintro v w ⟨n,rfl,hn,a',c',full',h3⟩;clear H;rw[<-hS1]at h3;have H:=h3.front;rw[<-he];refine E0 U<|BV U U<|BV U U<|Ag U<|Ag U<|qA<|AB<|Af<|Ad U<|CV U U ?_;refine qA<|iB U ?_ ?_
  .intro h2;refine Af<|Ad U<|Aj qB (EE e _) U ?_;rintro v w ⟨rfl,hx⟩;replace H:=H.call hx;refine AM qf U U U (by simp[AF]) H at0 U ?_;rintro w H;refine qA<|Bf<|AD<|Bn<|AD<|C1 U U U qf qf H at0 U ?_;rw[hR1,JL h2];exact Ez h3 H U U
  .intro h2;have hl:s.acs.length<16:=by rw[he]at h2;by_cases g:s.acs.length<16;exact g;rw[if_neg g]at h2;cases h2
   obtain rfl:=hn hl;refine A1<|Aa<|Af<|Ad U<|C5 _ (.int _ _) qf qf qf U U U U H ?_;rintro b30 w - H;refine Bd [.int .i64 0,.slice (some ⟨b30,0,none⟩) 1 1] qf qf ?_;have h8:=H.get at0;refine AM qf U U U (by simp[AF]) H at1 U ?_;rintro w H;refine qA<|Bf<|Bn<|AD<|C1 U U U qf qf H at1 U ?_;rw[hR1,h2,Sp];exact Hz (l:=[(s.acs.length:Int)]) h3 H U U U
 .intro h1;refine AB<|Af<|Ct U U<|A5 U<|qA<|iE 32 U ?_ ?_
  .intro g2;have hk2:k.kd=2:=by omega
   obtain⟨e,he⟩:=qD (DW s.acs k.a k.x:Int);have hS1:s'={ s with acs:=DF s.acs k.a k.x }:=by rw[hS];unfold Dn;rw[if_neg<|by omega,if_pos hk2]
   have hR1:p=rp (IL s'.acs k.a) e:=by rw[hR,hS1,he];unfold Dq;rw[if_neg<|by omega,if_pos hk2]
   have hokA:CO s'.acs=0:=by rw[hS1];exact(KS hok.ac k.a k.x).1
   have hlen:s'.acs.length=s.acs.length:=by rw[hS1];exact(KS hok.ac k.a k.x).2.1
   refine A1<|Aa<|EG U<|AB<|Af<|Ae qf U<|Bh qf U H at1 U<|Ct U U<|qA<|iB U ?_ ?_
   .intro t2;refine DL 8 AW U U (BE U<|Bc U<|Aq qf U<|B7 qf U (by rintro _ rfl;exact H.drew) at2 U ?_);refine Aq qf U<|B7 qf U (by rintro _ rfl;exact H.drew) at1 U ?_;refine Aq qf U<|B7 qf U (by rintro _ rfl;exact H.drew) at1 U ?_;refine Cc ?_;replace H:=H.drew;refine Aj qB (Aea (k:=k.a) (x:=k.x) (h.put H) hok) U ?_;rintro v w ⟨rfl,full',N,h3⟩;clear H;rw[<-hS1]at h3;have H:=h3.front;rw[<-he];refine Ag U<|qA<|AB<|Af<|Ae qf U<|Bh qf U H at1 U<|Ct U U<|qA<|iB U ?_ ?_
    .intro u3;omega
    .intro u3;refine A1<|Aa<|AB<|Af<|Ae qf U<|Bh qf U H at1 U<|Ct U U<|qA<|iB U ?_ ?_
     .intro u4;omega
     .intro u4;refine A1<|Aa<|AB<|Af<|Ad U<|CV U U<|qA<|iB U ?_ ?_
      .intro h2;refine Af<|Ad U<|Aj qB (EE e _) U ?_;rintro v w ⟨rfl,hx⟩;replace H:=H.call hx;refine AM qf U U U (by simp[AF]) H at0 U ?_;rintro w H;refine qA<|Bf<|AD<|Bn<|AD<|C1 U U U qf qf H at0 U ?_;rw[hR1,JL h2];exact Ez h3 H U U
      .intro h2
       have hia:inA s.acs k.a=true:=by cases g:inA s.acs k.a with|true=>rfl|false=>(rw[he]at h2;unfold DW at h2;rw[if_pos g]at h2;cases h2)
       have hia2:inA s'.acs k.a=true:=by rw[Dx]at hia |-;rw[hlen];exact hia
       obtain⟨i,d,hki,hat⟩:=Hl hia2;have hil:=BH hat;have hg:=(Gi hat).2;refine A1<|Aa<|BG [([0,1,2,3,4,5,6,7,8,9,10,11,12,13,14,15,16,17,18,19,20,21,22,23],24),([25],26)] (fun z=>z.heap[b3]?=some (Bl 46 (BN k))/\z.heap[m.bl]?=some (L22 m.ba m.bd m.br s'.day)/\z.heap[m.ba]?=some (A17 m.a s'.acs.length m.c)/\Rd z m.a 2 Cg s'.acs) [26] AW ((h3.look hokA H.drew)) ?_;refine A0 U U<|Bm U<|A7 U<|Ah qf U<|AU qf U (fun _ hx=>(by rw[Ai hx.2.1];rfl)) ?_;refine A7 U<|Ah qf U<|AU qf U (fun _ hx=>(by rw[Ai hx.2.2.1];rfl)) ?_;refine Ah qf U<|AU qf U (fun _ hx=>(by rw[Ai hx.1];exact qaa (fun z=>some<|Value.int .i64 z) hki)) ?_;refine B4 (h3.look hokA H.drew).2.2.2 qf qf U U (by rfl) ?_;refine Ah qf U<|AU qf U (fun _ hx=>(hx.2.2.2.fld hat rfl (j:=0) rfl)) ?_
       refine Bm U<|A7 U<|Ah qf U<|AU qf U (fun _ hx=>(by rw[Ai hx.2.1];rfl)) ?_;refine A7 U<|Ah qf U<|AU qf U (fun _ hx=>(by rw[Ai hx.2.2.1];rfl)) ?_;refine Ah qf U<|AU qf U (fun _ hx=>(by rw[Ai hx.1];exact qaa (fun z=>some<|Value.int .i64 z) hki)) ?_;refine B4 (h3.look hokA H.drew).2.2.2 qf qf U U (by rfl) ?_;refine Ah qf U<|AU qf U (fun _ hx=>(hx.2.2.2.fld hat rfl (j:=1) rfl)) ?_;refine A6 ?_;replace H:=H.drew;refine Cs ([d.ba,d.re].map Cu) qf qf qf H ?_;rintro b100 w - H;refine Ab<|Bv ((h3.look hokA H.tail))<|A0 U U ?_;refine Ef [.int .i64 0,.slice (some ⟨b100,0,none⟩) 2 2] qf qf ?_;refine A6<|AM qf U U U (by simp[AF]) H at1 U ?_;rintro w H;refine Ab<|Bw U<|Bu<|Bf<|Bn<|AD<|C1 U U U qf qf H at1 U ?_;rw[hR1,h2,Sp,hki];unfold IL;rw[hg]
       exact Hz (l:=[d.ba,d.re]) h3 H U U U
   .intro t9;omega
  .intro g2;refine Af<|Ct U U<|A5 U<|qA<|iE 32 U ?_ ?_
   .intro g3;have hk2:k.kd=3:=by omega
    obtain⟨e,he⟩:=qD (DG s.acs k.a k.x:Int);have hS1:s'={ s with acs:=D8 s.acs k.a k.x }:=by rw[hS];unfold Dn;rw[if_neg<|by omega,if_neg<|by omega,if_pos hk2]
    have hR1:p=rp (IL s'.acs k.a) e:=by rw[hR,hS1,he];unfold Dq;rw[if_neg<|by omega,if_neg<|by omega,if_pos hk2]
    have hokA:CO s'.acs=0:=by rw[hS1];exact(KT hok.ac k.a k.x).1
    have hlen:s'.acs.length=s.acs.length:=by rw[hS1];exact(KT hok.ac k.a k.x).2.1
    refine A1<|Aa<|EG U<|AB<|Af<|Ae qf U<|Bh qf U H at1 U<|Ct U U<|qA<|iB U ?_ ?_
    .intro t2;omega
    .intro t2;refine A1<|Aa<|AB<|Af<|Ae qf U<|Bh qf U H at1 U<|Ct U U<|qA<|iB U ?_ ?_
     .intro t3;refine DL 8 AW U U (BE U<|Bc U<|Aq qf U<|B7 qf U (by rintro _ rfl;exact H.drew) at2 U ?_);refine Aq qf U<|B7 qf U (by rintro _ rfl;exact H.drew) at1 U ?_;refine Aq qf U<|B7 qf U (by rintro _ rfl;exact H.drew) at1 U ?_;refine Cc ?_;replace H:=H.drew;refine Aj qB (Aeb (k:=k.a) (x:=k.x) (h.put H) hok) U ?_;rintro v w ⟨rfl,full',h3⟩;clear H;rw[<-hS1]at h3;have H:=h3.front;rw[<-he];refine Ag U<|qA<|AB<|Af<|Ae qf U<|Bh qf U H at1 U<|Ct U U<|qA<|iB U ?_ ?_
      .intro u4;omega
      .intro u4;refine A1<|Aa<|AB<|Af<|Ad U<|CV U U<|qA<|iB U ?_ ?_
       .intro h2;refine Af<|Ad U<|Aj qB (EE e _) U ?_;rintro v w ⟨rfl,hx⟩;replace H:=H.call hx;refine AM qf U U U (by simp[AF]) H at0 U ?_;rintro w H;refine qA<|Bf<|AD<|Bn<|AD<|C1 U U U qf qf H at0 U ?_;rw[hR1,JL h2];exact Ez h3 H U U
       .intro h2
        have hia:inA s.acs k.a=true:=by cases g:inA s.acs k.a with|true=>rfl|false=>(rw[he]at h2;unfold DG at h2;rw[if_pos g]at h2;cases h2)
        have hia2:inA s'.acs k.a=true:=by rw[Dx]at hia |-;rw[hlen];exact hia
        obtain⟨i,d,hki,hat⟩:=Hl hia2;have hil:=BH hat;have hg:=(Gi hat).2;refine A1<|Aa<|BG [([0,1,2,3,4,5,6,7,8,9,10,11,12,13,14,15,16,17,18,19,20,21,22,23],24),([25],26)] (fun z=>z.heap[b3]?=some (Bl 46 (BN k))/\z.heap[m.bl]?=some (L22 m.ba m.bd m.br s'.day)/\z.heap[m.ba]?=some (A17 m.a s'.acs.length m.c)/\Rd z m.a 2 Cg s'.acs) [26] AW ((h3.look hokA H.drew)) ?_;refine A0 U U<|Bm U<|A7 U<|Ah qf U<|AU qf U (fun _ hx=>(by rw[Ai hx.2.1];rfl)) ?_;refine A7 U<|Ah qf U<|AU qf U (fun _ hx=>(by rw[Ai hx.2.2.1];rfl)) ?_;refine Ah qf U<|AU qf U (fun _ hx=>(by rw[Ai hx.1];exact qaa (fun z=>some<|Value.int .i64 z) hki)) ?_;refine B4 (h3.look hokA H.drew).2.2.2 qf qf U U (by rfl) ?_;refine Ah qf U<|AU qf U (fun _ hx=>(hx.2.2.2.fld hat rfl (j:=0) rfl)) ?_
        refine Bm U<|A7 U<|Ah qf U<|AU qf U (fun _ hx=>(by rw[Ai hx.2.1];rfl)) ?_;refine A7 U<|Ah qf U<|AU qf U (fun _ hx=>(by rw[Ai hx.2.2.1];rfl)) ?_;refine Ah qf U<|AU qf U (fun _ hx=>(by rw[Ai hx.1];exact qaa (fun z=>some<|Value.int .i64 z) hki)) ?_;refine B4 (h3.look hokA H.drew).2.2.2 qf qf U U (by rfl) ?_;refine Ah qf U<|AU qf U (fun _ hx=>(hx.2.2.2.fld hat rfl (j:=1) rfl)) ?_;refine A6 ?_;replace H:=H.drew;refine Cs ([d.ba,d.re].map Cu) qf qf qf H ?_;rintro b100 w - H;refine Ab<|Bv ((h3.look hokA H.tail))<|A0 U U ?_;refine Ef [.int .i64 0,.slice (some ⟨b100,0,none⟩) 2 2] qf qf ?_;refine A6<|AM qf U U U (by simp[AF]) H at1 U ?_;rintro w H;refine Ab<|Bw U<|Bu<|Bf<|Bn<|AD<|C1 U U U qf qf H at1 U ?_;rw[hR1,h2,Sp,hki];unfold IL;rw[hg]
        exact Hz (l:=[d.ba,d.re]) h3 H U U U
     .intro t9;omega
   .intro g3;refine Aw<|Ct U U<|A5 U<|qA<|iE 32 U ?_ ?_
    .intro g4;have hk2:k.kd=4:=by omega
     obtain⟨e,he⟩:=qD (GW s.acs k.a k.x:Int);have hS1:s'={ s with acs:=Fg s.acs k.a k.x }:=by rw[hS];unfold Dn;(iterate 3 rw[if_neg<|by omega]);rw[if_pos hk2]
     have hR1:p=rp (IL s'.acs k.a) e:=by rw[hR,hS1,he];unfold Dq;(iterate 3 rw[if_neg<|by omega]);rw[if_pos hk2]
     have hokA:CO s'.acs=0:=by rw[hS1];exact(Nt hok.ac k.a k.x).1
     have hlen:s'.acs.length=s.acs.length:=by rw[hS1];exact(Nt hok.ac k.a k.x).2.1
     refine AB<|Af<|Ae qf U<|Bh qf U H at1 U<|Ct U U<|qA<|iB U ?_ ?_
     .intro t2;omega
     .intro t2;refine A1<|Aa<|AB<|Af<|Ae qf U<|Bh qf U H at1 U<|Ct U U<|qA<|iB U ?_ ?_
      .intro t3;omega
      .intro t3;refine A1<|Aa<|AB<|Af<|Ae qf U<|Bh qf U H at1 U<|Ct U U<|qA<|iB U ?_ ?_
       .intro t4;refine DL 8 AW U U (BE U<|Bc U<|Aq qf U<|B7 qf U (by rintro _ rfl;exact H.drew) at2 U ?_);refine Aq qf U<|B7 qf U (by rintro _ rfl;exact H.drew) at1 U ?_;refine Aq qf U<|B7 qf U (by rintro _ rfl;exact H.drew) at1 U ?_;refine Cc ?_;replace H:=H.drew;refine Aj qB (Ajl (k:=k.a) (x:=k.x) (h.put H) hok) U ?_;rintro v w ⟨rfl,full',h3⟩;clear H;rw[<-hS1]at h3;have H:=h3.front;rw[<-he];refine Ag U<|qA<|AB<|Af<|Ad U<|CV U U<|qA<|iB U ?_ ?_
        .intro h2;refine Af<|Ad U<|Aj qB (EE e _) U ?_;rintro v w ⟨rfl,hx⟩;replace H:=H.call hx;refine AM qf U U U (by simp[AF]) H at0 U ?_;rintro w H;refine qA<|Bf<|AD<|Bn<|AD<|C1 U U U qf qf H at0 U ?_;rw[hR1,JL h2];exact Ez h3 H U U
        .intro h2
         have hia:inA s.acs k.a=true:=by cases g:inA s.acs k.a with|true=>rfl|false=>(rw[he]at h2;unfold GW at h2;rw[if_pos g]at h2;cases h2)
         have hia2:inA s'.acs k.a=true:=by rw[Dx]at hia |-;rw[hlen];exact hia
         obtain⟨i,d,hki,hat⟩:=Hl hia2;have hil:=BH hat;have hg:=(Gi hat).2;refine A1<|Aa<|BG [([0,1,2,3,4,5,6,7,8,9,10,11,12,13,14,15,16,17,18,19,20,21,22,23],24),([25],26)] (fun z=>z.heap[b3]?=some (Bl 46 (BN k))/\z.heap[m.bl]?=some (L22 m.ba m.bd m.br s'.day)/\z.heap[m.ba]?=some (A17 m.a s'.acs.length m.c)/\Rd z m.a 2 Cg s'.acs) [26] AW ((h3.look hokA H.drew)) ?_;refine A0 U U<|Bm U<|A7 U<|Ah qf U<|AU qf U (fun _ hx=>(by rw[Ai hx.2.1];rfl)) ?_;refine A7 U<|Ah qf U<|AU qf U (fun _ hx=>(by rw[Ai hx.2.2.1];rfl)) ?_;refine Ah qf U<|AU qf U (fun _ hx=>(by rw[Ai hx.1];exact qaa (fun z=>some<|Value.int .i64 z) hki)) ?_;refine B4 (h3.look hokA H.drew).2.2.2 qf qf U U (by rfl) ?_;refine Ah qf U<|AU qf U (fun _ hx=>(hx.2.2.2.fld hat rfl (j:=0) rfl)) ?_
         refine Bm U<|A7 U<|Ah qf U<|AU qf U (fun _ hx=>(by rw[Ai hx.2.1];rfl)) ?_;refine A7 U<|Ah qf U<|AU qf U (fun _ hx=>(by rw[Ai hx.2.2.1];rfl)) ?_;refine Ah qf U<|AU qf U (fun _ hx=>(by rw[Ai hx.1];exact qaa (fun z=>some<|Value.int .i64 z) hki)) ?_;refine B4 (h3.look hokA H.drew).2.2.2 qf qf U U (by rfl) ?_;refine Ah qf U<|AU qf U (fun _ hx=>(hx.2.2.2.fld hat rfl (j:=1) rfl)) ?_;refine A6 ?_;replace H:=H.drew;refine Cs ([d.ba,d.re].map Cu) qf qf qf H ?_;rintro b100 w - H;refine Ab<|Bv ((h3.look hokA H.tail))<|A0 U U ?_;refine Ef [.int .i64 0,.slice (some ⟨b100,0,none⟩) 2 2] qf qf ?_;refine A6<|AM qf U U U (by simp[AF]) H at1 U ?_;rintro w H;refine Ab<|Bw U<|Bu<|Bf<|Bn<|AD<|C1 U U U qf qf H at1 U ?_;rw[hR1,h2,Sp,hki];unfold IL;rw[hg]
         exact Hz (l:=[d.ba,d.re]) h3 H U U U
       .intro t9;omega
    .intro g4;refine Af<|Ct U U<|A5 U<|qA<|iB U ?_ ?_
     .intro g5;have hk2:k.kd=5:=by omega
      have hS5:s'=if(inA s.acs k.a && inA s.acs k.b)=true/\s.day<=k.u then{ s with ds:=Gq s.ds s.nx k.a k.b k.x k.w k.u,nx:=I6 s.ds s.nx k.a k.b k.x k.w k.u }else s:=by rw[hS];unfold Dn;(iterate 4 rw[if_neg<|by omega]);rw[if_pos hk2]
      have hR5:p=if(inA s.acs k.a && inA s.acs k.b)=false then⟨10,[]⟩else if k.u<s.day then⟨1,[]⟩else rp [IntKind.i64.wrap s.nx] (FQ s.ds s.nx k.a k.b k.x k.w k.u):=by rw[hR];unfold Dq;(iterate 4 rw[if_neg<|by omega]);rw[if_pos hk2]
      have V:=(h.put H).rv hok fun x hx=>(hK x hx).1.ext H.ext (hK x hx).2;refine AB<|Af<|Bo (α:=Unit) 83056467326953590386063994016235520 (fun _=>[(115,.bool<|!(inA s.acs k.a && inA s.acs k.b))]) (fun _ w'=>Ctx w0 S w' ((b4,Bl 43 [.int .i64 0,.slice none 0 0])::(b3,Bl 46 (BN k))::(RLL m s++R))) U ?_ ?_
      .refine AV U (Ae qf U<|Bh qf U H at1 U<|Aj qB (KX k.a _ V) U ?_);rintro v w ⟨rfl,rfl⟩;refine Df U<|Bj U<|iC 109 U ?_ ?_
       .intro h1;refine Al U<|Al U<|Al U<|Al U<|Al U<|Bz U (.bool _) U<|Ab ?_;exact⟨rfl,(),rfl,⟨qaa Value.bool (by clear hK hS hR hS5 hR5 V H h hok hin;rw[qac];simp_all),trivial⟩,H⟩
       .intro h2;refine AV U<|Ae qf U<|Bh qf U H at1 U<|Aj qB (KX k.b _ V) U ?_;rintro v w ⟨rfl,rfl⟩;refine Df U<|B9 U (.bool _) U<|Ab ?_;exact⟨rfl,(),rfl,⟨qaa Value.bool (by clear hK hS hR hS5 hR5 V H h hok hin;rw[qac];simp_all),trivial⟩,H⟩
      rintro - j115 w H;refine iB U ?_ ?_
      .intro i1;have hi:(inA s.acs k.a && inA s.acs k.b)=false:=by simpa using i1
       refine Af<|Aj qB (EE 10 _) U ?_;rintro v w ⟨rfl,hx⟩;replace H:=H.call hx;refine AM qf U U U (by simp[AF]) H at0 U ?_;rintro w H;refine qA<|Bf<|AD<|Bn<|AD<|C1 U U U qf qf H at0 U ?_;rw[hR5,if_pos hi,hS5,if_neg (fun g=>by rw[hi]at g;cases g.1)];exact Ez h H U U
      .intro i1;have hi:(inA s.acs k.a && inA s.acs k.b)=true:=by simpa using i1
       refine A1<|Aa<|AB<|CG (fun x=>x=_) AW U ?_;refine Aq qf U<|B7 qf U (by rintro _ rfl;exact H.drew) at1 U ?_;refine BE U<|Bc U<|Aq qf U<|B7 qf U (by rintro _ rfl;exact H.drew) at2 U ?_;refine JC U U<|Cc ?_;rintro _ rfl;replace H:=H.drew;refine iB U ?_ ?_
       .intro i2;refine Af<|Aj qB (EE 1 _) U ?_;rintro v w ⟨rfl,hx⟩;replace H:=H.call hx;refine AM qf U U U (by simp[AF]) H at0 U ?_;rintro w H;refine qA<|Bf<|AD<|Bn<|AD<|C1 U U U qf qf H at0 U ?_;rw[hR5,if_neg (by rw[hi];decide),if_pos i2,hS5,if_neg fun g=>by omega];exact Ez h H U U
       .intro i2;have hS1:s'={ s with ds:=Gq s.ds s.nx k.a k.b k.x k.w k.u,nx:=I6 s.ds s.nx k.a k.b k.x k.w k.u }:=by rw[hS5,if_pos ⟨hi,by omega⟩]
        obtain⟨e,he⟩:=qD (FQ s.ds s.nx k.a k.b k.x k.w k.u:Int);obtain⟨y,hy⟩:=qD (if e=0 then s.nx else 0:Int);have hR1:p=rp [IntKind.i64.wrap s.nx] e:=by rw[hR5,if_neg (by rw[hi];decide),if_neg i2,he]
        refine A1<|Aa<|BG [([0,1,2,3,4,5,6,7,8,9,10,11,12,13],14),([15,16,17,18],19)] (fun z=>z.heap[b3]?=some (Bl 46 (BN k))/\z.heap[m.bl]?=some (L22 m.ba m.bd m.br s.day)) [14,19] AW (⟨H.drew.get at1,H.drew.get at2⟩) ?_;refine A0 U U<|Bm U<|A7 U<|Ah qf U<|AU qf U (fun _ hx=>(by rw[Ai hx.2];rfl)) ?_;refine Ah qf U<|AU qf U (fun _ hx=>(by rw[Ai hx.1];rfl)) ?_;refine Ah qf U<|AU qf U (fun _ hx=>(by rw[Ai hx.1];rfl)) ?_;refine Ah qf U<|AU qf U (fun _ hx=>(by rw[Ai hx.1];rfl)) ?_;refine Ah qf U<|AU qf U (fun _ hx=>(by rw[Ai hx.1];rfl)) ?_;refine Ah qf U<|AU qf U (fun _ hx=>(by rw[Ai hx.1];rfl)) ?_;refine A6 ?_;replace H:=H.drew;refine Aj qB (Ajm (fr:=k.a) (to:=k.b) (x:=k.x) (we:=k.w) (un:=k.u) (h.put H) hok) U ?_;rintro v w ⟨rfl,a',c',full',N,h3⟩;clear H;rw[<-hS1]at h3;have H:=h3.front;rw[<-he,<-hy]
        refine Ab<|Bw U<|A0 U U ?_;refine CK U<|AZ U U<|AZ U U<|FM U<|A6<|Ag U<|Ab<|Bw U<|Bu<|AB<|Af ?_;refine Ad U<|CV U U<|qA<|iB U ?_ ?_
        .intro h2;refine Af<|Ad U<|Aj qB (EE e _) U ?_;rintro v w ⟨rfl,hx⟩;replace H:=H.call hx;refine AM qf U U U (by simp[AF]) H at0 U ?_;rintro w H;refine qA<|Bf<|AD<|Bn<|AD<|C1 U U U qf qf H at0 U ?_;rw[hR1,JL h2];exact Ez h3 H U U
        .intro h2;refine A1<|Aa<|Af<|Ad U<|MD U U qf qf ?_;refine C5 _ (.int _ _) qf qf qf U U U U H ?_;rintro b149 w - H;refine Bd [.int .i64 0,.slice (some ⟨b149,0,none⟩) 1 1] qf qf ?_;refine AM qf U U U (by simp[AF]) H at1 U ?_;rintro w H;refine qA<|Bf<|Bn<|AD<|C1 U U U qf qf H at1 U ?_;rw[hR1,h2,Sp];rw[if_pos h2]at hy;exact Hz (l:=[IntKind.i64.wrap s.nx]) h3 (by rw[<-hy];exact H) U U U
     .intro g5;refine Af<|Ct U U<|A5 U<|qA<|iB U ?_ ?_
      .intro g6;have hk2:k.kd=6:=by omega
       obtain⟨e,he⟩:=qD (F3 s.ds k.id true:Int);have hS1:s'={ s with ds:=EX s.ds k.id true }:=by rw[hS];unfold Dn;(iterate 5 rw[if_neg<|by omega]);rw[if_pos hk2]
       have hR1:p=rp [] e:=by rw[hR,he];unfold Dq;(iterate 5 rw[if_neg<|by omega]);rw[if_pos hk2]
       refine De 6 AW U U (BE U<|Bc U<|Aq qf U<|B7 qf U (by rintro _ rfl;exact H.drew) at2 U ?_);refine Aq qf U<|B7 qf U (by rintro _ rfl;exact H.drew) at1 U ?_;refine Cc ?_;replace H:=H.drew;refine Aj qB (Aec (k:=k.id) (h.put H) hok) U ?_;rintro v w ⟨rfl,full',h3⟩;clear H;rw[<-hS1]at h3;have H:=h3.front;rw[<-he];refine Aj qB (EE e _) U ?_;rintro v w ⟨rfl,hx⟩;replace H:=H.call hx;refine AM qf U U U (by simp[AF]) H at0 U ?_;rintro w H;refine qA<|Bf<|Bn<|AD<|C1 U U U qf qf H at0 U ?_;rw[hR1,Qz];exact Ez h3 H U U
      .intro g6;refine Af<|Ct U U<|A5 U<|qA<|iB U ?_ ?_
       .intro g7;have hk2:k.kd=7:=by omega
        obtain⟨e,he⟩:=qD (F3 s.ds k.id false:Int);have hS1:s'={ s with ds:=EX s.ds k.id false }:=by rw[hS];unfold Dn;(iterate 6 rw[if_neg<|by omega]);rw[if_pos hk2]
        have hR1:p=rp [] e:=by rw[hR,he];unfold Dq;(iterate 6 rw[if_neg<|by omega]);rw[if_pos hk2]
        refine De 6 AW U U (BE U<|Bc U<|Aq qf U<|B7 qf U (by rintro _ rfl;exact H.drew) at2 U ?_);refine Aq qf U<|B7 qf U (by rintro _ rfl;exact H.drew) at1 U ?_;refine Cc ?_;replace H:=H.drew;refine Aj qB (Up (k:=k.id) (h.put H) hok) U ?_;rintro v w ⟨rfl,full',h3⟩;clear H;rw[<-hS1]at h3;have H:=h3.front;rw[<-he];refine Aj qB (EE e _) U ?_;rintro v w ⟨rfl,hx⟩;replace H:=H.call hx;refine AM qf U U U (by simp[AF]) H at0 U ?_;rintro w H;refine qA<|Bf<|Bn<|AD<|C1 U U U qf qf H at0 U ?_;rw[hR1,Qz];exact Ez h3 H U U
       .intro g7;refine Af<|Ct U U<|A5 U<|qA<|iB U ?_ ?_
        .intro g8;have hk2:k.kd=8:=by omega
         obtain⟨e,he⟩:=qD (I8 s.ds k.id:Int);have hS1:s'={ s with ds:=IK s.ds k.id }:=by rw[hS];unfold Dn;(iterate 7 rw[if_neg<|by omega]);rw[if_pos hk2]
         have hR1:p=rp [] e:=by rw[hR,he];unfold Dq;(iterate 7 rw[if_neg<|by omega]);rw[if_pos hk2]
         refine De 6 AW U U (BE U<|Bc U<|Aq qf U<|B7 qf U (by rintro _ rfl;exact H.drew) at2 U ?_);refine Aq qf U<|B7 qf U (by rintro _ rfl;exact H.drew) at1 U ?_;refine Cc ?_;replace H:=H.drew;refine Aj qB (Xh (k:=k.id) (h.put H) hok) U ?_;rintro v w ⟨rfl,a',c',full',N,h3⟩;clear H;rw[<-hS1]at h3;have H:=h3.front;rw[<-he];refine Aj qB (EE e _) U ?_;rintro v w ⟨rfl,hx⟩;replace H:=H.call hx;refine AM qf U U U (by simp[AF]) H at0 U ?_;rintro w H;refine qA<|Bf<|Bn<|AD<|C1 U U U qf qf H at0 U ?_;rw[hR1,Qz];exact Ez h3 H U U
        .intro g8;refine Af<|Ct U U<|A5 U<|qA<|iB U ?_ ?_
         .intro g9;have hk2:k.kd=9:=by omega
          have hS5:s'=if s.day<=k.u then{ s with day:=k.u,ds:=Gh s.ds k.u }else s:=by rw[hS];unfold Dn;(iterate 8 rw[if_neg<|by omega]);rw[if_pos hk2]
          have hR5:p=if k.u<s.day then⟨3,[]⟩else⟨0,[((s.ds.length - (Gh s.ds k.u).length:Nat):Int)]⟩:=by rw[hR];unfold Dq;(iterate 8 rw[if_neg<|by omega]);rw[if_pos hk2]
          refine AB<|CG (fun x=>x=_) AW U ?_;refine Aq qf U<|B7 qf U (by rintro _ rfl;exact H.drew) at1 U ?_;refine BE U<|Bc U<|Aq qf U<|B7 qf U (by rintro _ rfl;exact H.drew) at2 U ?_;refine JC U U<|Cc ?_;rintro _ rfl;replace H:=H.drew;refine iB U ?_ ?_
          .intro i2;refine Af<|Aj qB (EE 3 _) U ?_;rintro v w ⟨rfl,hx⟩;replace H:=H.call hx;refine AM qf U U U (by simp[AF]) H at0 U ?_;rintro w H;refine qA<|Bf<|AD<|Bn<|AD<|C1 U U U qf qf H at0 U ?_;rw[hR5,if_pos i2,hS5,if_neg<|by omega];exact Ez h H U U
          .intro i2;have hS1:s'={ s with day:=k.u,ds:=Gh s.ds k.u }:=by rw[hS5,if_pos<|by omega]
           have hR1:p=⟨0,[((s.ds.length - (Gh s.ds k.u).length:Nat):Int)]⟩:=by rw[hR5,if_neg i2]
           refine A1<|Aa<|Af<|AV U<|Ae qf U<|Bh qf U H at1 U<|AR U<|Ae qf U<|Ch (.int _ _) qf U U U H at2 (by(simp;done)) ?_;rintro w H;refine qA ?_;replace H:Ctx w0 S w ((b4,Bl 43 [.int .i64 0,.slice none 0 0])::(b3,Bl 46 (BN k))::(RLL m { s with day:=k.u }++R)):=H;have hok2:({ s with day:=k.u }:Ld).Ok:=⟨hok.ac,hok.du,hok.bk,⟨by have:=hok.day;show 0<=k.u;omega,hin.u.2⟩,hok.kept,hok.nos,hok.may⟩;refine De 6 AW U U (BE U<|Bc U<|Aq qf U<|B7 qf U (by rintro _ rfl;exact H.drew) at2 U ?_);refine Aq qf U<|B7 qf U (by rintro _ rfl;exact H.drew) at1 U ?_;refine Cc ?_;replace H:=H.drew;refine Aj qB (Xi (u:=k.u) (h.putd H) hok2) U ?_;rintro v w ⟨⟨a5,c5,rfl⟩,a',c',full',N,h3⟩;clear H
           replace h3:Rl { m with ad:=a',cd:=c',fd:=full' } s' w0 S w<|((b4,Bl 43 [.int .i64 0,.slice none 0 0])::(b3,Bl 46 (BN k))::R)++N:=by rw[hS1];exact h3
           have H:=h3.front;refine Cp qf U<|C5 _ (.int _ _) qf qf qf U U U U H ?_;rintro b204 w - H;refine Bd [.int .i64 0,.slice (some ⟨b204,0,none⟩) 1 1] qf qf ?_;refine AM qf U U U (by simp[AF]) H at1 U ?_;rintro w H;refine qA<|Bf<|Bn<|AD<|C1 U U U qf qf H at1 U ?_;rw[hR1];exact Hz (l:=[((s.ds.length - (Gh s.ds k.u).length:Nat):Int)]) h3 H U U U
         .intro g9;have hs9:s'=s:=by rw[hS];unfold Dn;iterate 9 rw[if_neg<|by omega]
          have V:=(h.put H).rv hok fun x hx=>(hK x hx).1.ext H.ext (hK x hx).2;refine AB<|Af<|Ct U U<|A5 U<|qA<|iE 206 U ?_ ?_
          .intro gC;have hk2:k.kd=12:=by omega
           have hR5:p=if inA s.acs k.a=true then⟨0,IL s.acs k.a⟩else⟨10,[]⟩:=by rw[hR];unfold Dq;(iterate 9 rw[if_neg<|by omega]);rw[if_pos hk2]
           refine A1<|Aa<|EG U<|AB<|Af<|AV U<|Ae qf U<|Bh qf U H at1 U<|Aj qB (KX k.a _ V) U ?_;rintro v w ⟨rfl,rfl⟩;refine Df U<|qA<|iB U ?_ ?_
           .intro i1;have hi:inA s.acs k.a=false:=by simpa using i1
            refine Af<|Aj qB (EE 10 _) U ?_;rintro v w ⟨rfl,hx⟩;replace H:=H.call hx;refine AM qf U U U (by simp[AF]) H at0 U ?_;rintro w H;refine qA<|Bf<|AD<|Bn<|AD<|C1 U U U qf qf H at0 U ?_;rw[hR5,if_neg (by rw[hi];decide),hs9];exact Ez h H U U
           .intro i1;have hia:inA s.acs k.a=true:=by simpa using i1
            refine A1<|Aa<|AB<|Af<|Ae qf U<|Bh qf U H at1 U<|Ct U U<|qA<|iB U ?_ ?_
            .intro i3;omega
            .intro i3;obtain⟨i,d,hki,hat⟩:=Hl hia;have hil:=BH hat;have hg:=(Gi hat).2;refine A1<|Aa<|BG [([0,1,2,3,4,5,6,7,8,9,10,11,12,13,14,15,16,17,18,19,20,21,22,23],24),([25],26)] (fun z=>z.heap[b3]?=some (Bl 46 (BN k))/\z.heap[m.bl]?=some (L22 m.ba m.bd m.br s.day)/\z.heap[m.ba]?=some (A17 m.a s.acs.length m.c)/\Rd z m.a 2 Cg s.acs) [26] AW ((h.look hok.ac H.drew)) ?_;refine A0 U U<|Bm U<|A7 U<|Ah qf U<|AU qf U (fun _ hx=>(by rw[Ai hx.2.1];rfl)) ?_;refine A7 U<|Ah qf U<|AU qf U (fun _ hx=>(by rw[Ai hx.2.2.1];rfl)) ?_;refine Ah qf U<|AU qf U (fun _ hx=>(by rw[Ai hx.1];exact qaa (fun z=>some<|Value.int .i64 z) hki)) ?_;refine B4 (h.look hok.ac H.drew).2.2.2 qf qf U U (by rfl) ?_;refine Ah qf U (AU qf U (fun _ hx=>(hx.2.2.2.fld hat rfl (j:=0) rfl)) ?_)
             refine Bm U<|A7 U<|Ah qf U<|AU qf U (fun _ hx=>(by rw[Ai hx.2.1];rfl)) ?_;refine A7 U<|Ah qf U<|AU qf U (fun _ hx=>(by rw[Ai hx.2.2.1];rfl)) ?_;refine Ah qf U<|AU qf U (fun _ hx=>(by rw[Ai hx.1];exact qaa (fun z=>some<|Value.int .i64 z) hki)) ?_;refine B4 (h.look hok.ac H.drew).2.2.2 qf qf U U (by rfl) ?_;refine Ah qf U<|AU qf U (fun _ hx=>(hx.2.2.2.fld hat rfl (j:=1) rfl)) ?_;refine A6 ?_;replace H:=H.drew;refine Cs ([d.ba,d.re].map Cu) qf qf qf H ?_;rintro b248 w - H;refine Ab<|Bv ((h.look hok.ac H.tail))<|A0 U U ?_;refine Ef [.int .i64 0,.slice (some ⟨b248,0,none⟩) 2 2] qf qf ?_;refine A6<|AM qf U U U (by simp[AF]) H at1 U ?_;rintro w H;refine Ab<|Bw U<|Bu<|Bf<|Bn<|AD<|C1 U U U qf qf H at1 U ?_;rw[hR5,if_pos hia,hs9,hki];unfold IL
             rw[hg];exact Hz (l:=[d.ba,d.re]) h H U U U
          .intro gC;refine Aw<|Ct U U<|A5 U<|qA<|iE 206 U ?_ ?_
           .intro gD;have hk2:k.kd=13:=by omega
            have hR5:p=if inA s.acs k.a=true then⟨0,[FP s.acs s.ds k.a.toNat]⟩else⟨10,[]⟩:=by rw[hR];unfold Dq;(iterate 10 rw[if_neg<|by omega]);rw[if_pos hk2]
            refine AB<|Af<|AV U<|Ae qf U<|Bh qf U H at1 U<|Aj qB (KX k.a _ V) U ?_;rintro v w ⟨rfl,rfl⟩;refine Df U<|qA<|iB U ?_ ?_
            .intro i1;have hi:inA s.acs k.a=false:=by simpa using i1
             refine Af<|Aj qB (EE 10 _) U ?_;rintro v w ⟨rfl,hx⟩;replace H:=H.call hx;refine AM qf U U U (by simp[AF]) H at0 U ?_;rintro w H;refine qA<|Bf<|AD<|Bn<|AD<|C1 U U U qf qf H at0 U ?_;rw[hR5,if_neg (by rw[hi];decide),hs9];exact Ez h H U U
            .intro i1;have hia:inA s.acs k.a=true:=by simpa using i1
             refine A1<|Aa<|AB<|Af<|Ae qf U<|Bh qf U H at1 U<|Ct U U<|qA<|iB U ?_ ?_
             .intro i3;obtain⟨i,d,hki,hat⟩:=Hl hia;have hpl:=Xc (k:=i) w V hok (by rw[<-hki];exact hia);rw[<-hki]at hpl;refine Af<|AV U<|Ae qf U<|Bh qf U H at1 U<|Aj qB hpl U ?_;rintro v w ⟨rfl,rfl⟩;refine C5 _ (.int _ _) qf qf qf U U U U H ?_;rintro b222 w - H;refine Bd [.int .i64 0,.slice (some ⟨b222,0,none⟩) 1 1] qf qf ?_;refine AM qf U U U (by simp[AF]) H at1 U ?_;rintro w H;refine qA<|Bf<|AD<|Bn<|AD<|C1 U U U qf qf H at1 U ?_;rw[hR5,if_pos hia,hs9,show k.a.toNat=i by omega];exact Hz (l:=[FP s.acs s.ds i]) h H U U U
             .intro i3;omega
           .intro gD;refine Af<|Ct U U<|A5 U<|qA<|iB U ?_ ?_
            .intro gE;have hk2:k.kd=14:=by omega
             have hR5:p=match Cn s.ds k.id with
              |none=>⟨11,[]⟩
              |some d=>⟨0,[d.fr,d.to,d.am,d.we,d.un,GX d.held]⟩:=by rw[hR];unfold Dq;(iterate 11 rw[if_neg<|by omega]);rw[if_pos hk2];rfl
             have hn64:=(CB hok.du).1;refine Dk 7403456705610904244894569853992983108368449644559393563272819277505945726356480 (α:=Nat) (fun z=>[(10,ptr z),(11,.bool (Cn s.ds k.id).isSome)]) (fun z w'=>Ctx w0 S w' ((z,Bl 111 (BK<|GS s.ds k.id))::(b4,Bl 43 [.int .i64 0,.slice none 0 0])::(b3,Bl 46 (BN k))::(RLL m s++R))) U ?_ ?_
             .skip
              refine Km (.two [0,1,2,3,4,5] 6 (.one [7,8,9] 10 (.one [] 11 (.one [] 12 .stop))) 10 (.one [] 6 (.one [7,8,9] 11 (.one [] 12 .stop)))) (fun z=>z.heap[b3]?=some (Bl 46 (BN k))/\z.heap[m.bl]?=some (L22 m.ba m.bd m.br s.day)) AW (⟨H.drew.get at1,H.drew.get at2⟩) ?_;refine F6 U U U<|Bm U<|A7 U<|Ah qf U<|AU qf U (fun _ hx=>(by rw[Ai hx.2];rfl)) ?_;refine Ah qf U<|AU qf U (fun _ hx=>(by rw[Ai hx.1];rfl)) ?_;refine A6 ?_;replace H:=H.drew;refine⟨?_,?_⟩
              .skip
               refine Aj qB (Pm (k:=k.id) (h.look2 hok.du H).1 (h.look2 hok.du H).2) U ?_;rintro v w ⟨rfl,hx⟩;replace H:=H.call hx;refine Ab<|B3 (by exact⟨H.get at1,H.get at2⟩) ?_;refine B1 U U<|CK U<|AZ U U<|AZ U U<|A6<|AN qf H ?_;rintro b10 w - H;refine Ab<|B3 (by exact⟨H.get at2,H.get at3⟩) ?_;refine B1 U U<|A6<|AM qf U U U (by exact Cx _) H at0 U ?_;rintro w H;refine Ab<|B3 (by exact⟨H.get at2,H.get at3⟩) ?_;refine B1 U U<|A6<|A5 U<|Ab<|B3 (by exact⟨H.get at2,H.get at3⟩) ?_;refine Db<|Aa ?_;exact⟨b10,rfl,⟨rfl,rfl,trivial⟩,H⟩
              .skip
               refine AN qf H ?_;rintro b10 w - H;refine Ab<|B3 (by exact⟨H.get at2,H.get at3⟩) ?_;refine B1 U U<|A6<|Aj qB (Pm (k:=k.id) (h.look2 hok.du H.tail).1 (h.look2 hok.du H.tail).2) U ?_;rintro v w ⟨rfl,hx⟩;replace H:=H.call hx;refine Ab<|B3 (by exact⟨H.get at2,H.get at3⟩) ?_;refine B1 U U<|CK U<|AZ U U<|AZ U U<|A6<|AM qf U U U (by exact Cx _) H at0 U ?_;rintro w H;refine Ab<|B3 (by exact⟨H.get at2,H.get at3⟩) ?_;refine B1 U U<|A6<|A5 U<|Ab<|B3 (by exact⟨H.get at2,H.get at3⟩) ?_;refine Db<|Aa ?_;exact⟨b10,rfl,⟨rfl,rfl,trivial⟩,H⟩
             .rintro b10 j10 w H;refine AB<|Af<|Bj U<|Df U<|qA<|iB U ?_ ?_
              .intro i1;refine Af<|Aj qB (EE 11 _) U ?_;rintro v w ⟨rfl,hx⟩;replace H:=H.call hx;refine AM qf U U U (by simp[AF]) H at1 U ?_;rintro w H;refine qA (Bf<|AD<|Bn<|AD<|C1 U U U qf qf H at1 U ?_)
               have hf:Cn s.ds k.id=none:=by cases g:Cn s.ds k.id with|none=>rfl|some d=>(rw[g]at i1;simp at i1)
               rw[hR5,hf,hs9];exact Ez h H.tail U U
              .intro i1
               obtain⟨d,hf⟩:∃d,Cn s.ds k.id=some d:=by cases g:Cn s.ds k.id with|some d=>exact⟨d,rfl⟩|none=>(rw[g]at i1;simp at i1)
               have hg7:GS s.ds k.id=d:=by unfold GS;rw[hf];rfl
               rw[hg7]at H;refine A1<|Aa<|Af<|Ag U<|qA<|AB<|Af<|Ae qf U<|Bh qf U H at0 U<|qA<|A3 _ U ?_ ?_
               .intro i2;refine Aw<|Ag U<|qA<|Af<|Ae qf U<|Bh qf U H at0 U<|Ae qf U<|Bh qf U H at0 U<|Ae qf U<|Bh qf U H at0 U ?_;refine Ae qf U<|Bh qf U H at0 U<|Ae qf U<|Bh qf U H at0 U<|Ad U<|Cs ([d.fr,d.to,d.am,d.we,d.un,1].map Cu) qf qf qf H ?_;rintro b278 w - H;refine Bd [.int .i64 0,.slice (some ⟨b278,0,none⟩) 6 6] qf qf ?_;refine AM qf U U U (by simp[AF]) H at2 U ?_;rintro w H;refine qA<|Bf<|Bn<|AD<|C1 U U U qf qf H at2 U ?_;rw[hR5,hf,hs9];exact Hz (l:=[d.fr,d.to,d.am,d.we,d.un,GX d.held]) h (by rw[show GX d.held=1 from if_pos i2];exact Ctx.skip2 H) U U U
               .intro i2;refine A1<|Aa<|Af<|Ae qf U<|Bh qf U H at0 U<|Ae qf U<|Bh qf U H at0 U<|Ae qf U<|Bh qf U H at0 U<|Ae qf U<|Bh qf U H at0 U ?_;refine Ae qf U<|Bh qf U H at0 U<|Ad U<|Cs ([d.fr,d.to,d.am,d.we,d.un,0].map Cu) qf qf qf H ?_;rintro b278 w - H;refine Bd [.int .i64 0,.slice (some ⟨b278,0,none⟩) 6 6] qf qf ?_;refine AM qf U U U (by simp[AF]) H at2 U ?_;rintro w H;refine qA<|Bf<|Bn<|AD<|C1 U U U qf qf H at2 U ?_;rw[hR5,hf,hs9];exact Hz (l:=[d.fr,d.to,d.am,d.we,d.un,GX d.held]) h (by rw[show GX d.held=0 from if_neg (by rw[i2];decide)];exact Ctx.skip2 H) U U U
            .intro gE;refine Af<|Ct U U<|A5 U<|qA<|iB U ?_ ?_
             .intro gF;have hk2:k.kd=15:=by omega
              have hR5:p=Xf s k.id k.b:=by rw[hR];unfold Dq Xf;(iterate 12 rw[if_neg<|by omega]);rw[if_pos hk2];rfl
              refine Af<|AV U<|Ae qf U<|Bh qf U H at1 U<|Ae qf U<|Bh qf U H at1 U<|Aj qB (Xg (k:=k.id) (b:=k.b) _ V hok hin.b) U ?_;rintro v w2 ⟨hx,a',c',rfl,R',hne⟩;have hb4:=AX<|H.get at0;have hRl:=fun(z:Nat × Obj) (hz:z∈R)=>AX<|H.blk z<|qae _<|qae _<|qap _ hz;have H9:=H.call hx;clear H;obtain⟨w,rfl⟩:=qD w2;have H:=Ctx.lend (L1:=[(b4,Bl 43 [.int .i64 0,.slice none 0 0])]) (L2:=(b3,Bl 46 (BN k))::(RLL m s++R)) H9;refine AM qf U U U (by simp[AF]) H at0 U ?_;rintro w H;refine qA<|Bf<|Bn<|AD<|C1 U U U qf qf H at0 U ?_;rw[hR5,hs9];have H10:=Ctx.back (L1:=[(b4,Bl 43 [.int .i64 0,.slice none 0 0])]) (L2:=(b3,Bl 46 (BN k))::(RLL m s++R)) H9 H;refine⟨_,_,h.put H10,fun z hz=>qae _<|qae _ hz,⟨a',c',rfl,R'.ext' H.ext fun g hm=>?_,fun g z hz he=>?_⟩,rfl,rfl⟩
              .have:=hne g;rw[qab.1 hm]at this;exact absurd hb4<|Nat.not_lt.2 this
              .have:=hne g;have:=hRl z hz;omega
             .intro gF;have hR5:p=⟨1,[]⟩:=by rw[hR];unfold Dq;iterate 13 rw[if_neg<|by omega]
              refine A1<|Av<|Aa<|Af<|Aj qB (EE 1 _) U ?_;rintro v w ⟨rfl,hx⟩;replace H:=H.call hx;refine AM qf U U U (by simp[AF]) H at0 U ?_;rintro w H;refine qA<|Bf<|C1 U U U qf qf H at0 U ?_;rw[hR5,hs9];exact Ez h H U U
end
theorem Xk(r:Rnd)(q s:RSl)(w:World)(RA:RAt w r q)(RB:RAt w r s)(hr:RBnd r) :
  Ret prog 131 #[.agg (AE r q).toArray,.agg (AE r s).toArray] w fun v w'=>v=.bool true/\Ext [] w w':=by
 obtain⟨w0,rfl,H⟩:=qE w;have he:=hr.es;have hi:=hr.ids;have hf:=hr.fl;have hp:=hr.pot;refine iG func131 U<|Af<|Be (AE r q) (.agg _) U U H ?_;rintro b2 w - H;refine Be (AE r s) (.agg _) U U H ?_;rintro b3 w - H;refine A5 U<|qA<|AB<|Af<|Bo (α:=Unit) 73786976294838206208 (fun _=>[(65,.bool<|false)]) (fun _ w'=>Ctx w0 [] w' [(b3,Bl 57 (AE r s)),(b2,Bl 57 (AE r q))]) U ?_ ?_
 .refine Ae qf U (Bh qf U H at1 U<|Ae qf U<|Bh qf U H at0 U<|CV U U<|Bj U<|iC 13 U ?_ ?_)
  .intro h1;refine Al U<|Al U<|Al U<|Al U<|Al U<|Bz U (.bool _) U<|Bj U<|Al U<|Al U<|Al U ?_;refine Al U<|Al U<|Bz U (.bool _) U<|Bj U<|Al U<|Al U<|Al U<|Al U<|Al U<|Al U ?_;refine Bz U (.bool _) U<|Bj U<|Al U<|Al U<|Al U<|Al U<|Al U<|Al U<|Al U<|Bz U (.bool _) U ?_;refine Bj U<|Al U<|Al U<|Al U<|Al U<|Al U<|Al U<|Al U<|Al U<|Al U ?_;refine Bz U (.bool _) U<|Bj U<|Al U<|Al U<|Al U<|Al U<|Al U<|Al U<|Al U<|Al U ?_;refine Al U<|Bz U (.bool _) U<|Ab ?_;exact⟨rfl,(),rfl,⟨qaa Value.bool<|by(simp_all;done),trivial⟩,H⟩
  .intro h2;refine Ae qf U<|Bh qf U H at1 U<|Ae qf U<|Bh qf U H at0 U<|CV U U<|B9 U (.bool _) U<|Bj U<|iC 20 U ?_ ?_
   .intro h3;refine Al U<|Al U<|Al U<|Al U<|Al U<|Bz U (.bool _) U<|Bj U<|Al U<|Al U<|Al U ?_;refine Al U<|Al U<|Al U<|Bz U (.bool _) U<|Bj U<|Al U<|Al U<|Al U<|Al U<|Al U ?_;refine Al U<|Al U<|Bz U (.bool _) U<|Bj U<|Al U<|Al U<|Al U<|Al U<|Al U<|Al U ?_;refine Al U<|Al U<|Al U<|Bz U (.bool _) U<|Bj U<|Al U<|Al U<|Al U<|Al U<|Al U ?_;refine Al U<|Al U<|Al U<|Al U<|Bz U (.bool _) U<|Ab ?_;exact⟨rfl,(),rfl,⟨qaa Value.bool<|by(simp_all;done),trivial⟩,H⟩
   .intro h4;refine Ae qf U<|Bh qf U H at1 U<|Ae qf U<|Bh qf U H at0 U<|Ko qf U U U ?_;refine B9 U (.bool _) U<|Bj U<|Az 27 U ?_ ?_
    .intro h5;refine Al U<|Al U<|Al U<|Al U<|Al U<|Al U<|Bz U (.bool _) U<|Bj U<|Al U<|Al U ?_;refine Al U<|Al U<|Al U<|Al U<|Al U<|Bz U (.bool _) U<|Bj U<|Al U<|Al U<|Al U ?_;refine Al U<|Al U<|Al U<|Al U<|Al U<|Al U<|Bz U (.bool _) U<|Bj U<|Al U<|Al U ?_;refine Al U<|Al U<|Al U<|Al U<|Al U<|Al U<|Al U<|Bz U (.bool _) U<|Ab ?_;exact⟨rfl,(),rfl,⟨qaa Value.bool<|by(simp_all;done),trivial⟩,H⟩
    .intro h6;refine Ae qf U<|BC _ qf qf U U ((BQ (l:=AE r q) (H.get at1) 4 [.int .i64 r.N,.slice q.aE r.es.length q.cE] U)) ?_;refine Ae qf U<|BC _ qf qf U U ((BQ (l:=AE r s) (H.get at0) 4 [.int .i64 r.N,.slice s.aE r.es.length s.cE] U)) ?_;refine Aj qB (Nz r.N r.N q.aE s.aE _ q.cE _ s.cE r.es r.es _ (RA.E.ext0 H.ext) U he (RB.E.ext0 H.ext) U he) U ?_;rintro v w ⟨rfl,hx32⟩;replace H:=H.call hx32;rw[show Ny r.N r.N r.es r.es=true by simp[Ny]];refine Df U<|B9 U (.bool _) U<|Bj U<|iC 35 U ?_ ?_
     .intro h7;refine Al U<|Al U<|Al U<|Al U<|Al U<|Al U<|Al U<|Bz U (.bool _) U<|Bj U<|Al U ?_;refine Al U<|Al U<|Al U<|Al U<|Al U<|Al U<|Al U<|Al U<|Bz U (.bool _) U<|Bj U ?_;refine Al U<|Al U<|Al U<|Al U<|Al U<|Al U<|Al U<|Al U<|Al U<|Bz U (.bool _) U ?_;refine Ab ?_;exact⟨rfl,(),rfl,⟨qaa Value.bool<|by(simp_all;done),trivial⟩,H⟩
     .intro h8;refine Ae qf U<|Bh qf U H at1 U<|Cp qf U<|Ae qf U<|Bh qf U H at0 U<|Cp qf U<|CV U U<|B9 U (.bool _) U<|Bj U<|iC 44 U ?_ ?_
      .intro h9;refine Al U<|Al U<|Al U<|Al U<|Al U<|Al U<|Al U<|Al U<|Al U<|Bz U (.bool _) U ?_;refine Bj U<|Al U<|Al U<|Al U<|Al U<|Al U<|Al U<|Al U<|Al U<|Al U ?_;refine Bz U (.bool _) U<|Ab ?_;exact⟨rfl,(),rfl,⟨qaa Value.bool<|by(simp_all;done),trivial⟩,H⟩
      .intro h10;refine Ae qf U<|Ae qf U<|Bh qf U H at1 U<|Cp qf U<|Ae qf U<|Ae qf U<|Bh qf U H at0 U<|Cp qf U<|CV U U<|B9 U (.bool _) U ?_;refine Bj U<|iC 55 U ?_ ?_
       .intro h11;refine Al U<|Al U<|Al U<|Al U<|Al U<|Al U<|Al U<|Al U<|Al U<|Bz U (.bool _) U ?_;refine Ab ?_;exact⟨rfl,(),rfl,⟨qaa Value.bool<|by(simp_all;done),trivial⟩,H⟩
       .intro h12;refine Ae qf U<|Ae qf U<|Bh qf U H at1 U<|Cp qf U<|Ae qf U<|Ae qf U<|Bh qf U H at0 U<|Cp qf U<|CV U U<|B9 U (.bool _) U ?_;refine Ab ?_;exact⟨rfl,(),rfl,⟨qaa Value.bool<|by(simp_all;done),trivial⟩,H⟩
 rintro - j65 w H;refine FT U<|A1<|Aa<|AB<|Af<|Ag U<|qA<|AK<|AY 19342739326857771957092400 (α:=Nat) (fun i=>[(5,.int .i64 (i:Int))]) (fun i w'=>i<=r.ids.length/\Ctx w0 [] w' [(b3,Bl 57 (AE r s)),(b2,Bl 57 (AE r q))]) (fun i=>r.ids.length - i) 0 U ?_ ?_ ?_
 .exact⟨rfl,trivial⟩
 .exact⟨qai _,H⟩
 .clear H;rintro i j w ⟨hii,H⟩;refine AB<|Af<|Ad U<|Ae qf U<|Bh qf U H at1 U<|Cp qf U<|CH U U<|qA<|iB U ?_ ?_
  .intro h2;obtain⟨x,hx⟩:=Au (l:=r.ids) (i:=i);refine A1<|Aa<|AB<|AK<|CG (fun x=>x=_) AW U ?_;refine Aq qf U<|B7 qf U (by rintro _ rfl;exact H.drew) at1 U ?_;refine AS U<|Br RA.I qf qf U U (by rfl) ?_;refine BD qf U (by rintro _ rfl;exact(((RA.I.ext0 H.drew.ext).one (f:=F2) hx))) ?_;refine Aq qf U<|B7 qf U (by rintro _ rfl;exact H.drew) at0 U ?_;refine AS U<|Br RB.I qf qf U U (by rfl) ?_;refine BD qf U (by rintro _ rfl;exact(((RB.I.ext0 H.drew.ext).one (f:=F2) hx))) ?_;refine LM U U<|Cc ?_;rintro _ rfl;replace H:=H.drew;refine iB U ?_ ?_
   .intro h3;omega
   .intro h3;refine A1<|Av<|Aa<|Aw<|Ad U<|Ap U U ?_;refine Ag U<|qA ?_;exact⟨i+1,rfl,⟨rfl,trivial⟩,⟨by omega,H⟩,by omega⟩
  .intro h2;refine Bi<|Am<|Am<|A8<|Aa<|AB<|Af<|Ag U<|qA<|AK<|AY 40564799864490227013827707273296 (α:=Nat) (fun i=>[(6,.int .i64 (i:Int))]) (fun i w'=>i<=r.fl.length/\Ctx w0 [] w' [(b3,Bl 57 (AE r s)),(b2,Bl 57 (AE r q))]) (fun i=>r.fl.length - i) 0 U ?_ ?_ ?_
   .exact⟨rfl,trivial⟩
   .exact⟨qai _,H⟩
   .clear H;rintro i2 j2 w ⟨hii2,H⟩;refine AB<|Af<|Ad U<|Ae qf U<|Ae qf U<|Bh qf U H at1 U<|Cp qf U<|CH U U<|qA<|iB U ?_ ?_
    .intro h3;obtain⟨x,hx⟩:=Au (l:=r.fl) (i:=i2);refine A1<|Aa<|AB<|AK<|CG (fun x=>x=_) AW U ?_;refine Aq qf U<|Aq qf U<|B7 qf U (by rintro _ rfl;exact H.drew) at1 U ?_;refine AS U<|Br RA.F qf qf U U (by rfl) ?_;refine BD qf U (by rintro _ rfl;exact(((RA.F.ext0 H.drew.ext).one (f:=Cu) hx))) ?_;refine Aq qf U<|Aq qf U<|B7 qf U (by rintro _ rfl;exact H.drew) at0 U ?_;refine AS U<|Br RB.F qf qf U U (by rfl) ?_;refine BD qf U (by rintro _ rfl;exact(((RB.F.ext0 H.drew.ext).one (f:=Cu) hx))) ?_;refine LM U U<|Cc ?_;rintro _ rfl;replace H:=H.drew;refine iB U ?_ ?_
     .intro h4;omega
     .intro h4;refine A1<|Av<|Aa<|Aw<|Ad U<|Ap U U ?_;refine Ag U<|qA ?_;exact⟨i2+1,rfl,⟨rfl,trivial⟩,⟨by omega,H⟩,by omega⟩
    .intro h3;refine Bi<|Am<|Am<|A8<|Aa<|AB<|Af<|Ag U<|qA<|AK<|AY 85070551165415408562502803963439480976 (α:=Nat) (fun i=>[(7,.int .i64 (i:Int))]) (fun i w'=>i<=r.pot.length/\Ctx w0 [] w' [(b3,Bl 57 (AE r s)),(b2,Bl 57 (AE r q))]) (fun i=>r.pot.length - i) 0 U ?_ ?_ ?_
     .exact⟨rfl,trivial⟩
     .exact⟨qai _,H⟩
     .clear H;rintro i3 j3 w ⟨hii3,H⟩;refine AB<|Af<|Ad U<|Ae qf U<|Ae qf U<|Bh qf U H at1 U<|Cp qf U<|CH U U<|qA<|iB U ?_ ?_
      .intro h4;obtain⟨x,hx⟩:=Au (l:=r.pot) (i:=i3);refine A1<|Aa<|AB<|AK<|CG (fun x=>x=_) AW U ?_;refine Aq qf U<|Aq qf U<|B7 qf U (by rintro _ rfl;exact H.drew) at1 U ?_;refine AS U<|Br RA.P qf qf U U (by rfl) ?_;refine BD qf U (by rintro _ rfl;exact(((RA.P.ext0 H.drew.ext).one (f:=Cu) hx))) ?_;refine Aq qf U<|Aq qf U<|B7 qf U (by rintro _ rfl;exact H.drew) at0 U ?_;refine AS U<|Br RB.P qf qf U U (by rfl) ?_;refine BD qf U (by rintro _ rfl;exact(((RB.P.ext0 H.drew.ext).one (f:=Cu) hx))) ?_;refine LM U U<|Cc ?_;rintro _ rfl;replace H:=H.drew;refine iB U ?_ ?_
       .intro h5;omega
       .intro h5;refine A1<|Av<|Aa<|Aw<|Ad U<|Ap U U ?_;refine Ag U<|qA ?_;exact⟨i3+1,rfl,⟨rfl,trivial⟩,⟨by omega,H⟩,by omega⟩
      .intro h4;refine Bi<|Am<|Am<|A8<|Aa<|Af<|A5 U<|qA<|Bf<|B6 (v:=(.bool _)) U U U ?_;exact⟨rfl,H.ext⟩
theorem Xl(a b:Option Addr)(n c m d:Nat)(rn:List Rnd)(qs zs:List RSl)(w:World)(R:Rd w a 8 Er (rn.zip qs))(hn:rn.length=n)(hn2:n<=1000000)(Ry:Rd w b 8 Er (rn.zip zs))(hm:rn.length=m)(hq:qs.length=rn.length)(hz:zs.length=rn.length)(K:∀x∈rn.zip qs,RAt w x.1 x.2)(Ky:∀x∈rn.zip zs,RAt w x.1 x.2)(hB:∀r∈rn,RBnd r) :
  Ret prog 65 #[.slice a n c,.slice b m d] w fun v w'=>v=.bool true/\Ext [] w w':=by
 subst hn hm;obtain⟨w0,rfl,H⟩:=qE w;have hzq:(rn.zip qs).length=rn.length:=by rw[qb3];omega
 have hzz:(rn.zip zs).length=rn.length:=by rw[qb3];omega
 refine iG func65 U<|Af<|A5 U<|qA<|AB<|Af<|AH U<|Cp qf U<|AH U<|Cp qf U<|CV U U ?_;refine qA<|iB U ?_ ?_
 .intro h1;omega
 .intro h1;refine A1<|Aa<|AB<|Af<|Ag U<|qA<|AK<|AY 134215728 (α:=Nat) (fun i=>[(5,.int .i64 (i:Int))]) (fun i w'=>i<=rn.length/\Ctx w0 [] w' []) (fun i=>rn.length - i) 0 U ?_ ?_ ?_
  .exact⟨rfl,trivial⟩
  .exact⟨qai _,H⟩
  .clear H;rintro i j w ⟨hi,H⟩;refine AB<|Af<|Ad U<|AH U<|Cp qf U<|CH U U<|qA<|iB U ?_ ?_
   .intro h2;obtain⟨r,hr⟩:=Au (l:=rn) (i:=i);obtain⟨q,hqi⟩:=Au (l:=qs) (i:=i);obtain⟨z,hzi⟩:=Au (l:=zs) (i:=i);have hx:(rn.zip qs)[i]?=some (r,q):=qcc.2 ⟨hr,hqi⟩;have hy:(rn.zip zs)[i]?=some (r,z):=qcc.2 ⟨hr,hzi⟩;refine A1<|Aa<|AB<|AK<|De 8 AW U U ?_;refine BT U<|AS U<|Br R qf qf U U (by omega) ?_;refine FI _ qf qf U U (by rintro _ rfl;exact((R.ext0 H.drew.ext).row hx rfl)) ?_;refine BT U<|AS U<|Br Ry qf qf U U (by omega) ?_;refine FI _ qf qf U U (by rintro _ rfl;exact((Ry.ext0 H.drew.ext).row hy rfl)) ?_;refine Cc ?_;replace H:=H.drew;refine Aj qB (Xk r q z _ ((K _<|qad hx).ext0 H.ext) ((Ky _<|qad hy).ext0 H.ext)<|hB r<|qad hr) U ?_
    rintro v w ⟨rfl,hx25⟩;replace H:=H.call hx25;refine Df U<|qA<|iB U ?_ ?_
    .intro h3;cases h3
    .intro h3;refine A1<|Av<|Aa<|Aw<|Ad U<|Ap U U ?_;refine Ag U<|qA ?_;exact⟨i+1,rfl,⟨rfl,trivial⟩,⟨by omega,H⟩,by omega⟩
   .intro h2;refine Bi<|Am<|Am<|A8<|Aa<|Af<|A5 U<|qA<|Bf<|B6 (v:=(.bool _)) U U U ?_;exact⟨rfl,H.ext⟩
structure StZ where
 aA:Option Addr
 cA:Nat
 aD:Option Addr
 cD:Nat
 aR:Option Addr
 cR:Nat
 qs:List RSl
abbrev stC(s:Ld)(z:StZ):List Value:=[.int .i64 s.day,.slice z.aA s.acs.length z.cA,.slice z.aD s.ds.length z.cD,.int .u64 s.nx,.slice z.aR s.rn.length z.cR,.int .u64 s.no,.slice none 0 0]
structure StAt(w:World)(s:Ld)(z:StZ):Prop where
 A:Rd w z.aA 2 Cg s.acs
 D:Rd w z.aD 7 BK s.ds
 R:Rd w z.aR 8 Er (s.rn.zip z.qs)
 n:z.qs.length=s.rn.length
 K:∀x∈s.rn.zip z.qs,RAt w x.1 x.2
structure StOff(s:Ld)(z:StZ)(S:Nat->Prop):Prop where
 A:s.acs≠[]->¬S (adr z.aA).block
 D:s.ds≠[]->¬S (adr z.aD).block
 R:s.rn≠[]->¬S (adr z.aR).block
 K:∀x∈s.rn.zip z.qs,ROff x.2 x.1 S
theorem Ajn(h:rn.zip qs≠[]):rn≠[]:=fun h1=>h (by rw[h1];rfl)
theorem StOff.mono{z:StZ}{S S':Nat->Prop}(h:StOff s z S)(hs:∀x,S' x->S x):StOff s z S':=⟨fun g k=>h.A g<|hs _ k,fun g k=>h.D g<|hs _ k,fun g k=>h.R g<|hs _ k,fun x hx=>(h.K x hx).mono hs⟩
theorem StOff.or{z:StZ}{S S':Nat->Prop}(h:StOff s z S)(k:StOff s z S'):StOff s z fun x=>S x\/S' x:=⟨fun g x=>x.elim (h.A g)<|k.A g,fun g x=>x.elim (h.D g)<|k.D g,fun g x=>x.elim (h.R g)<|k.R g,fun x hx=>(h.K x hx).or<|k.K x hx⟩
theorem StAt.ext{z:StZ}{S:List Nat}(h:StAt w s z)(he:Ext S w w')(hn:StOff s z (·∈S)):StAt w' s z :=
 ⟨h.A.ext' he hn.A,h.D.ext' he hn.D,h.R.ext' he fun g=>hn.R<|Ajn g,h.n,fun x hx=>(h.K x hx).ext he<|hn.K x hx⟩
theorem StAt.ext0{z:StZ}(h:StAt w s z)(he:Ext [] w w'):StAt w' s z :=
 h.ext he ⟨fun _=>by simp,fun _=>by simp,fun _=>by simp,fun x _=>⟨fun _=>by simp,fun _=>by simp,fun _=>by simp,fun _=>by simp⟩⟩
theorem StAt.lt{z:StZ}(h:StAt w s z):StOff s z (fun x=>w.heap.size<=x) :=
 ⟨fun g=>qde.2<|h.A.lt' (fun _ _=>rfl) (by decide) g,fun g=>qde.2<|h.D.lt' (fun _ _=>rfl) (by decide) g,fun g=>qde.2 (h.R.lt' (fun _ _=>rfl) (by decide) fun h1=>g (by
  have h2:=qaa List.length h1;rw[qb3,h.n,qdq]at h2
  exact qer.1 h2)),fun x hx=>(h.K x hx).lt⟩
theorem Abb(w:World)(hd:w.heap[bd]?=some (Bl 156 (DU b nx))):Ret prog 58 #[ptr bd] w fun v w'=>v=.int .u64 nx/\Ext [] w w':=by
 obtain⟨w0,rfl,H⟩:=qE w;refine iG func58 U ?_;refine Af<|Ag U<|qA<|AB<|Af<|AV U<|EB qf U ?_;refine qA<|A3 _ U ?_ ?_
 .intro h1;cases h1
 .intro h1;refine A1<|Aa<|Af<|AV U<|AR U<|Ae qf U<|A9 qf U ((by rw[Ai hd];rfl)) ?_;refine Ag U<|qA<|Bf<|B6 (v:=(.int _ _)) U U U ?_;exact⟨rfl,H.ext⟩
theorem Xm{m:Lm}{S:List Nat}(w:World)(I:LdIn w m s T)(H0:Ctx w0 S w<|LL m s) :
  Ret prog 12 #[ptr m.bl] w fun v w'=>Ext [] w w'/\∃z,v=.agg (stC s z).toArray/\StAt w' s z/\StOff s z (fun x=>x<w.heap.size):=by
 obtain⟨w1,rfl⟩:=qD w;have hbl:=H0.get at0;have hbr:=H0.get at1;have hba:=H0.get at2;have hbd:=H0.get at3;have hb:=H0.get at4;have RA0:Rd w1 m.a 2 Cg s.acs:=OS.rd (t:=162) I.O (fun y hy=>H0.blk y<|qap [_,_,_,_,_] hy) (fun _ _=>rfl) (by decide);have hn16:=(BM.1 I.ok.ac).1;obtain⟨h64,-,h3d,-⟩:=CB I.ok.du;have H:=Ctx.start w1 [];refine iG func12 U ?_;refine Af<|AN qf H ?_;rintro b2 w - H;refine qA<|AB<|Af<|AV U<|EB qf U ?_;refine qA<|A3 _ U ?_ ?_
 .intro h1;cases h1
 .intro h1;refine A1<|Aa<|BG [([0,1,2,3,4,5,6,7,9,10,11,12,14,15,16,17,19,20,21,22,24,25,26,27],8),([],13),([],18),([],23),([],28),([29],30)] (fun z=>Ext [] w1 z) [30] AW (H.drew.ext) ?_;refine A0 U U ?_;refine Bm U<|A7 U<|Ah qf U<|AU qf U (fun _ hx=>(by rw[Ai<|hx.to hbl<|by simp];rfl)) ?_;refine Bm U<|A7 U<|Ah qf U<|AU qf U (fun _ hx=>(by rw[Ai<|hx.to hbl<|by simp];rfl)) ?_;refine Bm U<|A7 U<|Ah qf U<|AU qf U (fun _ hx=>(by rw[Ai<|hx.to hbl<|by simp];rfl)) ?_;refine Bm U<|A7 U<|Ah qf U<|AU qf U (fun _ hx=>(by rw[Ai<|hx.to hbl<|by simp];rfl)) ?_;refine Bm U<|A7 U<|Ah qf U<|AU qf U (fun _ hx=>(by rw[Ai<|hx.to hbl<|by simp];rfl)) ?_;refine Bm U<|A7 U<|Ah qf U<|AU qf U (fun _ hx=>(by rw[Ai<|hx.to hbl<|by simp];rfl)) ?_;refine A6 ?_;replace H:=H.drew
  refine Aj qB (Np m.a _ m.c s.acs _ (H.ext.to hba<|by simp) (RA0.ext0 H.ext) U) U ?_;rintro v w F;obtain⟨aA,cA,rfl,RA,hA,-,hxA⟩:=KW F fun _ _=>rfl;have hsA:=H.ext.size;have lbA:=AX<|H.get at0;replace H:=H.call hxA;refine Ab<|Bv (H.ext)<|A0 U U ?_;refine A6<|Aj qB (KC _ (H.ext.to hbd<|by simp) (H.ext.to hb<|by simp) I.M<|Jj I.ok.du) U ?_;rintro v w ⟨ds',hSd,F⟩;have hde:=KL hSd (Hw h3d).2.1;rw[hde]at F;obtain⟨aD,cD,rfl,RD,hD,-,hxD⟩:=KW F fun _ _=>rfl;have hsD:=H.ext.size;have lbD:=AX<|H.get at0;replace H:=H.call hxD;replace RA:=RA.ext0 hxD;refine Ab<|Bv (H.ext)<|A0 U U ?_;refine A6<|Aj qB (Abb _<|H.ext.to hbd<|by simp) U ?_;rintro v w ⟨rfl,hxN⟩;replace H:=H.call hxN;replace RA:=RA.ext0 hxN;replace RD:=RD.ext0 hxN;refine Ab<|Bv (H.ext)<|A0 U U ?_;refine A6 ?_;have lsR:=H.ext.size;have lbR:=AX<|H.get at0
  refine Aj qB (WY _ (I.grow H.ext (by simp) (Grows.refl _ _) fun x hx=>qbb (I.low x hx) H.size)<|H.ext.to hbr<|by simp) U ?_;rintro v w ⟨hxR,aR,cR,qs,rfl,hql,RR,hR,hK⟩;have hsR:=hxR.size;replace H:=H.call hxR;replace RA:=RA.ext0 hxR;replace RD:=RD.ext0 hxR;refine Ab<|Bv (H.ext)<|A0 U U ?_;refine A6<|Aj qB (Aa0 _ (H.ext.to hbr<|by simp) I.no) U ?_;rintro v w ⟨rfl,hxO⟩;have hKO:=fun x hx=>(hK x hx).1.ext0 hxO;replace RA:=RA.ext0 hxO;replace RD:=RD.ext0 hxO;replace RR:=RR.ext0 hxO;replace H:=H.call hxO;have H8:=H;obtain⟨w8,rfl⟩:=qD w;clear H;have H:=Ctx.start1<|H8.get at0;refine Ab<|Bv (H8.ext)<|A0 U U ?_;refine Ef (stC s ⟨aA,cA,aD,cD,aR,cR,qs⟩) qf qf ?_;refine A6<|AM qf U U U (by exact(by simp[AF])) H at0 U ?_;rintro w H;refine Ab<|Bw U<|Bu<|Bf<|C1 U U U qf qf H at0 U ?_
  have Z8:StAt w8 s ⟨aA,cA,aD,cD,aR,cR,qs⟩:=⟨RA,RD,RR,hql,hKO⟩;have off:StOff s ⟨aA,cA,aD,cD,aR,cR,qs⟩ fun x=>x<w1.heap.size\/x=b2:=⟨fun g k=>by have:=hA g;dsimp only at k;omega,fun g k=>by have:=hD g;dsimp only at k;omega,fun g k=>by have:=hR g;dsimp only at k;omega,fun x hx=>(hK x hx).2.mono fun y hy=>by omega⟩;have hbw:w1.heap.size<=b2:=(H8.own (b2,_)<|qad at0).elim (fun h=>by cases h) id;exact⟨H8.ext.then H.ext fun x hx => .inr (by rw[qab.1 hx];exact hbw),⟨aA,cA,aD,cD,aR,cR,qs⟩,rfl,Z8.ext H.ext<|off.mono fun x hx => .inr (qab.1 hx),off.mono fun x hx => .inl hx⟩
abbrev Rm.z(m:Rm):StZ:=⟨m.a,m.c,m.ad,m.cd,m.ar,m.cr,m.qs⟩
theorem Rv.st{m:Rm}(V:Rv m s w):StAt w s m.z:=⟨V.RA,V.RD,V.RR,V.n,V.K⟩
theorem Aed(w:World):Ret prog 8 #[] w fun v w'=>∃m:Rm,v=ptr m.bl/\m.qs=[]/\Rl m ⟨0,[],[],1,[],0⟩ w [] w' []:=by
 obtain⟨w0,rfl,H⟩:=qE w;refine Ao (fn:=Tryz.f8) func8 U [] U<|Af<|Bx U<|qA<|Af<|Bd [.slice none 0 0] qf qf ?_;refine Be [.slice none 0 0] (.agg _) U U H ?_;rintro b2 w - H;refine Aj qB (WR _) U ?_;rintro v w ⟨bd,rfl,H3⟩;replace H:=Ctx.back (L1:=[]) H H3;refine Bd [.slice none 0 0,.int .u64 0] qf qf<|Be [.slice none 0 0,.int .u64 0] (.agg _) U U H ?_;rintro b5 w - H;refine Bd [ptr b2,ptr bd,ptr b5,.int .i64 0] qf qf<|Be [ptr b2,ptr bd,ptr b5,.int .i64 0] (.agg _) U U H ?_;rintro b7 w - H;refine qG 5 ?_;refine⟨⟨b7,b2,bd,b5,none,0,[],none,0,[],none,0,0,[],[]⟩,rfl,rfl,⟨?_,OS.nil,OS.nil,OSo.nil,rfl⟩⟩;exact H.perm<|List.Perm.cons _<|List.reverse_perm [(b2,A17 none 0 0),(bd,RDU none 0 0 1),(b5,A21 none 0 0 0)]
theorem Xn{m:Rm}(w:World)(V:Rv m s w):Ret prog 17 #[ptr m.bl] w fun v w'=>v=.agg (stC s m.z).toArray/\Ext [] w w':=by
 obtain⟨w0,rfl⟩:=qD w;have hL:=V.L;have hA:=V.A;have hD:=V.D;have hR:=V.R;obtain⟨bl,ba,bd,br,a,c,full,ad,cd,fd,ar,o,cr,fr,qs⟩:=m;dsimp only at hL hA hD hR;have H:=Ctx.start w0 [];refine iG func17 U ?_;refine Af<|AN qf H ?_;rintro b2 w - H;refine qA<|BG [([0,1,2,3,4,5,6,7,8,9,10,11,12,13,14,15,16,17,18,19,20,21,22,23,24,25,26,27,28,29,30,31,32,33,34,35,36,37,38,39],40)] (fun z=>Ext [] w0 z) [40] AW (H.drew.ext) ?_;refine A0 U U ?_;refine Bm U<|A7 U<|Ah qf U<|AU qf U (fun _ hx=>(by rw[Ai<|hx.to hL<|by simp];rfl)) ?_;refine Bm U<|A7 U<|Ah qf U<|AU qf U (fun _ hx=>(by rw[Ai<|hx.to hL<|by simp];rfl)) ?_;refine A7 U<|Ah qf U<|AU qf U (fun _ hx=>(by rw[Ai<|hx.to hA<|by simp];rfl)) ?_
 refine Bm U<|A7 U<|Ah qf U<|AU qf U (fun _ hx=>(by rw[Ai<|hx.to hL<|by simp];rfl)) ?_;refine A7 U<|Ah qf U<|AU qf U (fun _ hx=>(by rw[Ai<|hx.to hD<|by simp];rfl)) ?_;refine Bm U<|A7 U<|Ah qf U<|AU qf U (fun _ hx=>(by rw[Ai<|hx.to hL<|by simp];rfl)) ?_;refine A7 U<|Ah qf U<|AU qf U (fun _ hx=>(by rw[Ai<|hx.to hD<|by simp];rfl)) ?_;refine Bm U<|A7 U<|Ah qf U<|AU qf U (fun _ hx=>(by rw[Ai<|hx.to hL<|by simp];rfl)) ?_;refine A7 U<|Ah qf U<|AU qf U (fun _ hx=>(by rw[Ai<|hx.to hR<|by simp];rfl)) ?_;refine Bm U<|A7 U<|Ah qf U<|AU qf U (fun _ hx=>(by rw[Ai<|hx.to hL<|by simp];rfl)) ?_;refine A7 U<|Ah qf U<|AU qf U (fun _ hx=>(by rw[Ai<|hx.to hR<|by simp];rfl)) ?_;refine Ef (stC s ⟨a,c,ad,cd,ar,cr,qs⟩) qf qf ?_;refine A6 ?_;replace H:=H.drew
 refine AM qf U U U (by simp[AF]) H at0 U ?_;rintro w H;refine Ab<|Bw U<|Bu<|Bf<|C1 U U U qf qf H at0 U ?_;exact⟨rfl,H.ext⟩
theorem Abc(b p:Option Addr)(m e u f:Nat)(ds:List Du)(xs:List Int)(w:World)(Rd':Rd w b 7 BK ds)(hm:ds.length=m)(Rp:Rd w p 1 I1 xs)(hu:xs.length=u)(hp:PayIn (opn ds) xs)(hmay:∀d∈opn ds,CZ d=true)(htot:Cl ((opn ds).map Du.am)<=4503599627370496)(hm2:m<=1000000:=by omega):
  Ret prog 107 #[.slice b m e,.slice p u f] w fun v w'=>v=.int .i64 (Ex (opn ds) xs (opn ds).length)/\Ext [] w w':=by
 subst hm hu;obtain⟨w0,rfl,H⟩:=qE w;have hol:=EW ds;refine iG func107 U ?_;refine qG 6 ?_;refine Aj qB (Ve b ds.length e ds _ Rd' U hm2) U ?_;rintro v w F;obtain⟨ao,no,co,fo,rfl,OO,hbo⟩:=F.ex;replace H:=H.call F.ext;refine qG 4 ?_;obtain rfl:no=(opn ds).length:=OO.numN (fun _ _=>rfl) (by decide);have RO0:Rd w ao 7 BK (opn ds):=OS.rd OO (fun y hy=>(hbo y hy).1) (fun _ _=>rfl) (by decide);have hE1:=H.ext;obtain⟨w1,rfl⟩:=qD w;clear H;have H:=Ctx.start w1 [];have hlen:=hp.1;have hRf:∀{w:World},Ext [] w1 w->Rd w ao 7 BK (opn ds):=fun h=>RO0.ext0 h;have hRp:∀{w:World},Ext [] w1 w->Rd w p 1 I1 xs:=fun h=>Rp.ext0<|hE1.trans h;refine qGp 8 ?_ ?_
 .intro h1;omega
 .intro h1;refine qG 14 ?_;refine AY 4294836448 (α:=Nat) (fun i=>[(17,.int .i64 (i:Int)),(5,.int .i64<|Ex (opn ds) xs i)]) (fun i w'=>i<=(opn ds).length/\Ctx w1 [] w' []) (fun i=>(opn ds).length - i) 0 U ?_ ?_ ?_
  .exact⟨rfl,rfl,trivial⟩
  .exact⟨qai _,H⟩
  .clear H;rintro i j w ⟨hi,H⟩;refine qGp 5 ?_ ?_
   .intro h3;obtain⟨d,hd⟩:=Au (l:=opn ds) (i:=i);obtain⟨x,hxv⟩:=Au (l:=xs) (i:=i);have hma:=CD<|hmay d<|qad hd;have hxr:=hp.2 i d x hd hxv;have hwe:∀d∈opn ds,0<=d.we/\d.we<=1000:=fun d hd=>by have:=CD<|hmay d hd;omega
    have hps:∀k,Cl (((opn ds).map Du.am).take k)<=4503599627370496:=fun k=>qbj (WI (fun y hy=>by obtain⟨d',hd',rfl⟩:=qak.1 hy;have:=CD<|hmay d' hd';omega) k) htot;have hw0:=GU hp hwe i hi;have hw1:=GU hp hwe (i+1) (by omega);have hp0:=hps i;have hp1:=hps<|i+1;have hstep:=Jm hd hxv;have hm1:0<=d.we*x:=qda (by omega) hxr.1;have hm2:d.we*x<=4503599627370496000:=by omega
    refine qG 6 ?_;refine A2 (hRf H.ext) qf qf U U (by rfl)<|BC _ qf qf U U ((hRf H.ext).row hd U)<|AN qf H ?_;rintro b7 w - H;refine Ag U<|AM qf U U U (by exact Cx _) H at0 U ?_;rintro w H;refine qA ?_;replace H:Ctx w1 [] w [(b7,Bl 111 (BK d))]:=H;refine Eb [([0,1,2,3,4,5,6,7,8],9)] (fun z=>Ext [] w1 z/\z.heap[b7]?=some (Bl 111 (BK d))) [] AW (⟨H.drew.ext,H.drew.get at0⟩) ?_;refine A0 U U<|AG U<|Ah qf U<|AU qf U (fun _ hx=>(by rw[Ai hx.2];rfl)) ?_;refine Bq U<|AG U<|B4 (hRp H.ext) qf qf U U (by rfl) ?_;refine AU qf U (fun _ hx=>((hRp hx.1).one (f:=Cu) hxv))<|VD U U U ?_;refine Dt U U<|A6 ?_;replace H:=H.drew;refine Ag U<|Ab<|Bv (⟨H.ext,H.get at0⟩)<|Bu<|Av<|Aa<|Aw<|Ap U U ?_
    refine Ad U<|qA ?_;exact⟨i+1,rfl,⟨rfl,qaa (Value.int .i64) hstep.symm,trivial⟩,⟨by omega,H.tail⟩,by omega⟩
   .intro h3;obtain rfl:i=(opn ds).length:=by omega
    refine Bi<|Am<|Am<|A8<|Aa<|Af<|Ad U<|Ag U<|qA<|Bf<|B6 (v:=(.int _ _)) U U U ?_;exact⟨rfl,hE1.trans H.ext⟩
theorem Aee{m m':Lm}(H:Ctx w (CR m s) w1<|P++LL m' s')(F:Fresh w1 w' 2 1 (.slice a n c) (l.map Cu))(hst:C9 s k s'<|rp l code)(hI:LdIn w' m' s' fun x=>T x\/x∈CR m' s')(hbl:m'.bl=m.bl):FG w m s T k (.tuple #[.slice a n c,.int .i64 code]) w':=by
 obtain⟨a',n',c',full,hv,OF,hb⟩:=F.ex;cases hv;have H1:Ctx w (CR m s) w1<|LL m' s':=H.right;exact⟨a,n,c,full,code,l,s',m',rfl,OF,hst,H1.callEnt F.ext hb DX,fun x hx=>qa3 H1.size (hb x hx).2,hI,hbl⟩
theorem Ps(xs:List Int){x:Int}(h:xs[i]?=some x):FE xs (i+1)=FE xs i+(if 0<x then 1 else 0):=by
 show FE xs i+one (0<xs.getD i 0)=_;rw[Bp h]
 by_cases hx:0<x
 .rw[EM hx,if_pos hx]
 .rw[E3 hx,if_neg hx]
theorem N4(xs:List Int):∀i,0<=FE xs i/\FE xs i<=i
 |0=>⟨qa4 _,qa4 _⟩
 |i+1=>by
  have h:=N4 xs i;show 0<=FE xs i+one (0<xs.getD i 0)/\FE xs i+one (0<xs.getD i 0)<=((i+1:Nat):Int)
  by_cases hx:0<xs.getD i 0
  .rw[EM hx];omega
  .rw[E3 hx];omega
theorem Ajo{m:Lm}{x:Nat}(h:x∈(LX m.ba m.a s.acs.length m.c m.full m.bd m.b s.nx m.o).map (fun x:Nat × Obj=>x.1)):x∈CR m s:=qae _<|qae _ h
theorem Pt{m:Lm}(hk:k.kd=10\/k.kd=11)(_:AkIn k)(w:World)(I:LdIn w m s T)(H0:Ctx w (CR m s) w<|LL m s) :
  Ret prog 51 #[ptr m.bl,.agg (BN k).toArray] w (FG w m s T k):=by
 obtain⟨w0,rfl⟩:=qD w;obtain⟨bl,ba,bd,br,b,a,c,full,o,arch⟩:=m;obtain⟨S0,hS0⟩:=qD<|CR ⟨bl,ba,bd,br,b,a,c,full,o,arch⟩ s;have H:Ctx w0 S0 w0 ((bl,Bl 93 [ptr ba,ptr bd,ptr br,.int .i64 s.day])::(br,Bl 159 arch)::(ba,Bl 153 [.slice a s.acs.length c])::(bd,Bl 156 (DU b s.nx))::(b,o)::ent a 162 full):=by rw[hS0];exact H0
 have hn16:=(BM.1 I.ok.ac).1;have hbdb:bd≠b:=H.ne (i:=3) (j:=4) rfl rfl (by decide);have hno:0<=s.no/\s.no<=4611686018427387904:=by have:=I.ok.kept;omega
 have hstep:∀s' p,((4611686018427387904<=s.no/\s'=s/\p=⟨6,[]⟩) \/
  (s.no<4611686018427387904/\∃r,PlanR s.acs s.ds (decide (k.kd=11)) r/\s'=L4 s r /\
   p=⟨0,[IntKind.i64.wrap<|s.no+1,Ex (opn s.ds) r.fl (opn s.ds).length,FE (r.fl.take (opn s.ds).length) (opn s.ds).length]⟩))->C9 s k s' p:=fun s' p h=>by
  unfold C9;rw[if_pos hk];exact h
 obtain⟨h64,-,h3d,htot⟩:=CB I.ok.du;have hBr:=Ka I.ok.ac I.ok.du I.ok.bk;have hbr:CY (s.acs.map CF) s.ds=true:=(FO).2 hBr;refine iG func51 U ?_;refine Af<|Be (BN k) (.agg _) U U H ?_;rintro b3 w - H;refine AP U<|Ag U<|qA<|AB<|Af<|AV U<|AR U<|Ae qf U<|Bh qf U H at1 U<|Aj qB (Aa0 _ (H.get at2) I.no) U ?_;rintro v w ⟨rfl,hx19⟩;replace H:=H.call hx19;refine IW U U<|qA<|iB U ?_ ?_
 .intro h1;refine Af<|AP U<|Ag U<|qA<|Bf<|AD<|Cz (v1:=(.slice _ _ _)) (v2:=(.int _ _)) U U U U ?_;subst hS0;exact Dz (P:=[_]) (m':=⟨bl,ba,bd,br,b,a,c,full,o,arch⟩) (s':=s) (l:=[]) (code:=6) I H (GY _) (hstep _ _<|.inl ⟨h1,rfl,rfl⟩) I.O I.M I.ok U U U U
 .intro h1;have hno1:s.no<4611686018427387904:=by omega
  refine A1<|Aa<|Dk 68717379776 (α:=Nat × Rnd × RSl × Int) (fun z=>[(6,ptr z.1),(7,.int .i64 z.2.2.2)]) (fun z w'=>z.2.2.2=0/\PlanR s.acs s.ds (decide (k.kd=11)) z.2.1/\RAt w' z.2.1 z.2.2.1/\ROff z.2.2.1 z.2.1 (fun x=>x<w0.heap.size\/x=z.1)/\Ctx w0 S0 w' ((z.1,Bl 57 (AE z.2.1 z.2.2.1))::(b3,Bl 46 (BN k))::(bl,Bl 93 [ptr ba,ptr bd,ptr br,.int .i64 s.day])::(br,Bl 159 arch)::(ba,Bl 153 [.slice a s.acs.length c])::(bd,Bl 156 (DU b s.nx))::(b,o)::ent a 162 full)) U ?_ ?_
  .skip
   refine Km (.two [0,1,2,3,4,5,6,7,8,9,10] 11 (.one [12,13,14] 15 (.one [] 16 (.one [] 17 .stop))) 15 (.one [] 11 (.one [12,13,14] 16 (.one [] 17 .stop)))) (fun z=>z.heap[b3]?=some (Bl 46 (BN k))/\z.heap[bl]?=some (Bl 93 [ptr ba,ptr bd,ptr br,.int .i64 s.day])) AW (⟨H.drew.get at0,H.drew.get at1⟩) ?_;refine F6 U U U<|Bm U<|A7 U<|Ah qf U<|AU qf U (fun _ hx=>(by rw[Ai hx.2];rfl)) ?_;refine Bm U<|A7 U<|Ah qf U<|AU qf U (fun _ hx=>(by rw[Ai hx.2];rfl)) ?_;refine Ah qf U<|AU qf U (fun _ hx=>(by rw[Ai hx.1];rfl)) ?_;refine Aes U U U<|A6 ?_;replace H:=H.drew;refine⟨?_,?_⟩
   .skip
    refine Aj qB (Vm I.ok.ac I.ok.du (decide (k.kd=11)) _ ⟨a,c,H.get at3,OS.rd (t:=162) I.O (fun y hy=>H.blk y<|qap [_,_,_,_,_,_] hy) (fun _ _=>rfl)<|by decide⟩ ⟨b,s.nx,o,H.get at4,H.get at5,I.M⟩) U ?_;rintro v w ⟨hx33,⟨hb,-⟩|⟨-,r,q,rfl,P,RA,hoff⟩⟩
    (rw[hbr]at hb;cases hb)
    have hsz:=H.size;have H9:=H.call hx33;have hsz9:=hx33.size;clear H;obtain⟨w9,rfl,H⟩:=qE w;refine Ab<|B3 (by exact⟨H.ext.to (H9.get at0)<|by simp,H.ext.to (H9.get at1)<|by simp⟩) ?_;refine B1 U U<|CK U<|AZ U U<|AZ U U<|A6<|AN qf H ?_;rintro b6 w - H;refine Ab<|B3 (by exact⟨H.ext.to (H9.get at0)<|by simp,H.ext.to (H9.get at1)<|by simp⟩) ?_;refine B1 U U<|A6<|AM qf U U U (by exact(by simp[AF])) H at0 U ?_;rintro w H;refine Ab<|B3 (by exact⟨H.ext.to (H9.get at0)<|by simp,H.ext.to (H9.get at1)<|by simp⟩) ?_;refine B1 U U<|A6<|Ag U<|Ab<|B3 (by exact⟨H.ext.to (H9.get at0)<|by simp,H.ext.to (H9.get at1)<|by simp⟩) ?_;refine Db<|Aa ?_;have hb6:w9.heap.size<=b6:=(H.own _<|qah ..).elim (fun h=>by cases h) id
    exact⟨(b6,r,q,0),rfl,⟨rfl,rfl,trivial⟩,rfl,P,RA.ext0 H.ext,(hoff.or RA.lt).mono fun x hx=>hx.elim (fun h => .inl (qbb h hsz)) fun h => .inr (h ▸ hb6),Ctx.mid (B:=[]) (L:=[]) H9 H⟩
   .skip
    refine AN qf H ?_;rintro b6 w - H;refine Ab<|B3 (by exact⟨H.get at1,H.get at2⟩) ?_;refine B1 U U<|A6<|Aj qB (Vm I.ok.ac I.ok.du (decide (k.kd=11)) _ ⟨a,c,H.get at4,OS.rd (t:=162) I.O (fun y hy=>H.blk y<|qap [_,_,_,_,_,_,_] hy) (fun _ _=>rfl)<|by decide⟩ ⟨b,s.nx,o,H.get at5,H.get at6,I.M⟩) U ?_;rintro v w ⟨hx33,⟨hb,-⟩|⟨-,r,q,rfl,P,RA,hoff⟩⟩
    (rw[hbr]at hb;cases hb)
    have hsz:=H.size;have hlt:=AX<|H.get at0;have H9:=H.call hx33;clear H;obtain⟨w9,rfl⟩:=qD w;have H:=Ctx.start1<|H9.get at0;refine Ab<|B3 (by exact⟨H.ext.to (H9.get at1) (by rw[qab];exact H9.ne (i:=1) (j:=0) rfl rfl (by decide)),H.ext.to (H9.get at2) (by rw[qab];exact H9.ne (i:=2) (j:=0) rfl rfl (by decide))⟩) ?_;refine B1 U U<|CK U<|AZ U U<|AZ U U<|A6<|AM qf U U U (by exact(by simp[AF])) H at0 U ?_;rintro w H;refine Ab<|B3 (by exact⟨H.ext.to (H9.get at1) (by rw[qab];exact H9.ne (i:=1) (j:=0) rfl rfl (by decide)),H.ext.to (H9.get at2) (by rw[qab];exact H9.ne (i:=2) (j:=0) rfl rfl (by decide))⟩) ?_;refine B1 U U ?_
    refine A6<|Ag U<|Ab<|B3 (by exact⟨H.ext.to (H9.get at1) (by rw[qab];exact H9.ne (i:=1) (j:=0) rfl rfl (by decide)),H.ext.to (H9.get at2) (by rw[qab];exact H9.ne (i:=2) (j:=0) rfl rfl (by decide))⟩) ?_;refine Db<|Aa ?_;exact⟨(b6,r,q,0),rfl,⟨rfl,rfl,trivial⟩,rfl,P,RA.ext H.ext (hoff.mono fun x hx=>by rw[qab.1 hx];exact hlt),hoff.mono fun x hx=>hx.elim (fun h=>qbb h hsz) (fun h=>by rw[h];exact hlt),Ctx.mid (B:=[]) (L:=[_]) H9 H⟩
  .rintro⟨b6,r,q,e7⟩ j7 w ⟨he7,P,RA,hoff,H⟩;dsimp only at he7 P RA hoff H;obtain⟨hC,hokR⟩:=ZX I.ok P hno1;have F0:=EQ I.ok.ac I.ok.du hC;have hB:=S4 P;have hmy:∀d∈s.ds,CZ d=true:=fun d hd=>((EK I.ok.du).1 d hd).1;have hids:r.ids.length=(opn s.ds).length:=by rw[P.ids,qaj]
   have hol:=EW s.ds;have hle:(opn s.ds).length<=r.fl.length:=by have:=F0.pay.1;rw[qa8]at this;omega
   have hlow:∀x∈CR ⟨bl,ba,bd,br,b,a,c,full,o,arch⟩ s,x<w0.heap.size:=fun x hx=>I.low x<|I.own x hx;have hlx:∀x∈(LX ba a s.acs.length c full bd b s.nx o).map (fun x:Nat × Obj=>x.1),x<w0.heap.size:=fun x hx=>hlow x<|Ajo (m:=⟨bl,ba,bd,br,b,a,c,full,o,arch⟩) hx;obtain⟨xs,hxs⟩:=qD<|r.fl.take (opn s.ds).length;have hxl:xs.length=(opn s.ds).length:=by rw[hxs,qa8];omega
   have hmayR:Gg { r with day:=s.day }=true:=by
    unfold Gg;dsimp only;rw[P.chk,hids,qam<|show(opn s.ds).length<=64 by omega,qam I.ok.day.1];rfl
   refine AB<|Af<|Ad U<|CV U U<|qA<|iB U ?_ ?_
   .intro h2;exact absurd he7 h2
   .intro h2;refine A1<|Aa<|Af<|AV U<|AR U<|Ae qf U<|Bh qf U H at2 U<|Aj qB (KC _ (H.get at5) (H.get at6) I.M<|Jj I.ok.du) U ?_;rintro v w ⟨ds',hSd,Fd⟩;have hde:=KL hSd (Hw h3d).2.1;rw[hde]at Fd;obtain⟨a3,c3,rfl,R3,hn3,-,hx43⟩:=KW Fd fun _ _=>rfl;have hl6:=AX<|H.get at0;have hlr:=AX<|H.get at3;have hs43:=H.size;replace RA:=RA.ext0 hx43;replace H:=H.call hx43;refine AP U<|qA<|AB ?_;have hn3':s.ds≠[]->(adr a3).block∉(LX ba a s.acs.length c full bd b s.nx o).map (fun x:Nat × Obj=>x.1):=fun hne hm=>by have:=hn3 hne;have:=hlx _ hm;omega
    refine BG [([0,1,2,3,4,5,6,7,8],9),([],10)] (fun z=>z.heap[b6]?=some (Bl 57 (AE r q))/\z.heap[bl]?=some (Bl 93 [ptr ba,ptr bd,ptr br,.int .i64 s.day])) [9,10] AW (⟨H.drew.get at0,H.drew.get at2⟩) ?_;refine A0 U U<|Bm U<|A7 U<|Ah qf U<|AU qf U (fun _ hx=>(by rw[Ai hx.2];rfl)) ?_;refine Bm U<|A7 U<|Ah qf U<|AU qf U (fun _ hx=>(by rw[Ai hx.2];rfl)) ?_;refine EZ _ qf qf U U (fun _ hx=>(BQ (b:=b6) (t:=57) (l:=AE r q) hx.1 0 (AE r q) rfl))<|A6 ?_;replace H:=H.drew;replace RA:=RA.ext0<|Ext.drew [] _;replace R3:=R3.ext0<|Ext.drew [] _;replace H:Ctx w0 S0 _<|[(b6,Bl 57 (AE r q)),(b3,Bl 46 (BN k)),(bl,Bl 93 [ptr ba,ptr bd,ptr br,.int .i64 s.day]),(br,Bl 159 arch)]++(LX ba a s.acs.length c full bd b s.nx o++[]):=(by rw[qar];exact H)
    refine Aj qB (WP I.ok.ac I.ok.du H I.O I.M RA (hoff.mono fun x hx => .inl (hlx x hx)) hB) U ?_;rintro v w ⟨rfl,full',o',O',M',hxA,H7⟩;replace RA:=RA.ext hxA<|hoff.mono fun x hx => .inl (hlx x hx);replace R3:=R3.ext' hxA hn3';rw[qar]at H7;replace H:=H7;refine Ab<|Bw U<|A0 U U ?_;refine A6<|Ag U<|Ab<|Bw U<|Bu ?_;obtain⟨hap1,-,hap3⟩:=J5 (r:=r) I.ok.ac I.ok.du;rw[<-hap3]at O' H;refine Af<|Ad U<|CV U U<|qA<|iB U ?_ ?_
    .intro h4;exact absurd hC h4
    .intro h4;refine A1<|Aa<|Af<|Ae qf U<|BC _ qf qf U U ((BQ (b:=b6) (t:=57) (l:=AE r q) (H.get at0) 4 [.int .i64 r.N,.slice q.aE r.es.length q.cE] U)) ?_;refine Ae qf U<|Ae qf U<|Bh qf U H at0 U<|Ae qf U<|Bh qf U H at0 U<|Cp qf U<|Aj qB (Vf r.N q.aE q.aF _ _ _ _ _ r.fl _ RA.F U RA.fc hB.fl) U ?_;rintro v w Fp;rw[show Qc ((r.ids.length:Nat):Int) r.fl.length=(opn s.ds).length by unfold Qc;omega,<-hxs,<-X0]at Fp;obtain⟨a9,c9,rfl,Rp,hn9,-,hx65⟩:=KW Fp fun _ _=>rfl;have hp6:=AX<|H.get at0;have hpr:=AX<|H.get at3;replace RA:=RA.ext0 hx65;replace R3:=R3.ext0 hx65;replace H:=H.call hx65;refine AP U<|qA<|Af<|Ag U<|qA<|AB<|Af<|AH U<|Cp qf U<|Ad U ?_;refine qA<|AK ?_;have H8:=H;obtain⟨w1,rfl⟩:=qD w;clear H;have H:=Ctx.start w1 []
     refine AY 150820579546649294022656 (α:=Nat) (fun i=>[(11,.int .i64<|FE xs i),(68,.int .i64 (i:Int))]) (fun i w'=>i<=xs.length/\Ctx w1 [] w' []) (fun i=>xs.length - i) 0 U ?_ ?_ ?_
     .exact⟨rfl,rfl,trivial⟩
     .exact⟨qai _,H⟩
     .clear H;rintro i j w ⟨hi,H⟩;refine Af<|CH U U<|qA<|AB<|iB U ?_ ?_
      .intro h5;obtain⟨x,hx⟩:=Au (l:=xs) (i:=i);have hsb:=N4 xs i;have hst:=Ps xs hx;refine A1<|Aa<|AB<|AK<|Af<|A2 (Rp.ext0 H.ext) qf qf U U (by rfl) ?_;refine A9 qf U (((Rp.ext0 H.ext).one (f:=Cu) hx)) ?_;refine Ag U<|qA<|Af<|Ad U<|Es U U<|qA<|iB U ?_ ?_
       .intro h6;refine Aw<|Ad U<|Ap U U ?_;refine Ag U<|Ab<|Av<|Aa<|Aw<|Ap U U ?_;refine Ad U<|qA ?_;exact⟨i+1,rfl,⟨qaa (Value.int .i64)<|by rw[hst,if_pos h6],rfl,trivial⟩,⟨by omega,H⟩,by omega⟩
       .intro h6;refine A1<|Av<|Aa<|Aw<|Ap U U ?_;refine Ad U<|qA ?_;exact⟨i+1,rfl,⟨qaa (Value.int .i64)<|by rw[hst,if_neg h6,qds],rfl,trivial⟩,⟨by omega,H⟩,by omega⟩
      .intro h5;obtain rfl:i=xs.length:=by omega
       replace RA:=RA.ext0 H.ext;replace R3:=R3.ext0 H.ext;replace Rp:=Rp.ext0 H.ext;replace H8:=H8.call H.ext;clear H;obtain⟨w2,rfl⟩:=qD w;have H:=Ctx.start1<|H8.get at0;refine Bi<|Am<|Am<|A8<|Aa<|Af<|AV U<|AR U<|Ae qf U<|A9 qf U ((H.old (Ai (H8.get at2) _) (by rw[qab];exact H8.ne (i:=2) (j:=0) rfl rfl (by decide)))) ?_;refine Ae qf U<|Ch (.int _ _) qf U U U H at0 (by(simp;done)) ?_;rintro w H;refine qA ?_;replace RA:=RA.ext H.ext (hoff.mono fun x hx=>by rw[qab.1 hx];exact .inr rfl);replace R3:=R3.ext' H.ext (fun hne hm=>by have:=hn3 hne;rw[qab.1 hm]at this;omega);replace Rp:=Rp.ext' H.ext (fun hne hm=>by have:=hn9 hne;rw[qab.1 hm]at this;omega);replace H:Ctx w2 [b6] w [(b6,Bl 57 (AE { r with day:=s.day } q))]:=H;replace H:=Ctx.mid (B:=[]) (L:=[_]) H8 H;clear H8
       refine BG [([0,1,2,3,4],5),([6,7,8,9],10)] (fun z=>z.heap[b6]?=some (Bl 57 (AE { r with day:=s.day } q))/\z.heap[bl]?=some (Bl 93 [ptr ba,ptr bd,ptr br,.int .i64 s.day])) [5,10] AW (⟨H.drew.get at0,H.drew.get at2⟩) ?_;refine A0 U U<|Bm U<|A7 U<|Ah qf U<|AU qf U (fun _ hx=>(by rw[Ai hx.2];rfl)) ?_;refine EZ _ qf qf U U (fun _ hx=>(BQ (b:=b6) (t:=57) (l:=AE { r with day:=s.day } q) hx.1 0 (AE { r with day:=s.day } q) rfl))<|A6 ?_;replace H:=H.drew;replace RA:=RA.ext0<|Ext.drew [] _;replace R3:=R3.ext0<|Ext.drew [] _;replace Rp:=Rp.ext0<|Ext.drew [] _;have hsA:=H.size;refine Aj qB (Ad4 (n:=s.rn.length) (no:=s.no) (arch:=arch) { r with day:=s.day } q _ (RA.no r.no s.day) (hB.no r.no s.day) (H.get at3) I.len I.n I.no I.ok.kept.1 ⟨hno.1,hno1⟩ hmayR) U ?_;rintro v w ⟨rfl,q2,H7,RA2,hoff2⟩
       replace R3:=R3.ext' H7.ext (fun hne hm=>by have:=hn3 hne;rw[qab.1 hm]at this;omega);replace Rp:=Rp.ext' H7.ext (fun hne hm=>by have:=hn9 hne;rw[qab.1 hm]at this;omega);replace H:=Ctx.mid (B:=[_,_,_]) (L:=[_]) H H7;refine Ab<|Bw U<|A0 U U ?_;refine CK U<|AZ U U<|AZ U U<|FM U<|A6<|Ag U<|Ab<|Bw U<|Bu ?_;have H8:=H;obtain⟨wB,rfl⟩:=qD w;clear H;have H:=Ctx.start wB [];refine Af<|Ad U<|Hd U U qf qf ?_;refine AH U<|AH U<|Aj qB (Abc a3 a9 _ _ _ _ s.ds xs _ R3 U Rp U (hxs ▸ F0.pay) (fun d hd=>hmy d (qbc.1 hd).1)<|qbj (Qj fun d hd=>by have:=CD<|hmy d hd;omega) htot) U ?_;rintro v w ⟨rfl,hx95⟩;replace H:=H.call hx95
       refine Ad U<|Cs ([s.no+1,Ex (opn s.ds) xs (opn s.ds).length,FE xs xs.length].map Cu) qf qf qf H ?_;rintro b97 w - H;refine Ad U<|AP U<|Ag U<|qA<|Bf<|Cz (v1:=(.slice _ _ _)) (v2:=(.int _ _)) U U U U ?_;have H17:=H;have hw:IntKind.i64.wrap (s.no+1)=s.no+1:=CC (show(-9223372036854775808:Int)<=s.no+1 by omega) (show s.no+1<=(9223372036854775807:Int)by omega);subst hS0;exact Aee (P:=[_,_]) (m':=⟨bl,ba,bd,br,b,a,c,full',o',Hy arch s.rn.length { r with no:=s.no+1,day:=s.day } q2⟩) (s':=L4 s r) (l:=[s.no+1,Ex (opn s.ds) xs (opn s.ds).length,FE xs xs.length]) (code:=0) H8 (FR (n:=3) H17 U) (hstep _ _<|.inr ⟨hno1,r,P,rfl,by rw[hw,hxl,hxs,Ns _<|qaq _];rfl⟩) (I.rnd (H8.ext.then H17.ext<|by simp) I.own hokR O' M' (RA2.ext0 H17.ext) hoff2 hsA) U
def Abd(w:World)(m:Lm)(s:Ld)(T:Nat->Prop)(k:Ak)(v:Value)(w':World):Prop :=
 ∃a n c full p s' m' T',v=.agg #[.int .i64 p.e,.slice a n c]/\OS a n c 1 full (p.n.map Cu)/\C9 s k s' p/\Ctx w (CR m s) w' (LL m' s'++ent a 2 full)/\LdIn w' m' s' T'/\Grows T T' w/\m'.bl=m.bl/\∀x∈ent a 2 full,w.heap.size<=x.1
abbrev fnV(f:FuncId):Value := .func (.func f) #[] #[]
abbrev doT:List Value:=[.nilFunc,fnV 42,fnV 43,fnV 44,fnV 45,fnV 46,fnV 47,fnV 48,fnV 49,fnV 50,fnV 51,fnV 51,fnV 52,fnV 53,fnV 54,fnV 55]
def DoFn(k:Ak)(f:FuncId):Prop:=doT[k.kd.toNat]?=some (fnV f)/\An prog f=true/\∀{m:Lm} {s:Ld} {T:Nat->Prop} (w:World) (_:LdIn w m s T) (_:Ctx w (CR m s) w (LL m s)),Ret prog f #[ptr m.bl,.agg (BN k).toArray] w (FG w m s T k)
theorem Ajp(hin:AkIn k)(h0:k.kd≠0)(h16:k.kd<16):∃f,DoFn k f:=by
 have hkd:=hin.kd;have hc:k.kd=1\/k.kd=2\/k.kd=3\/k.kd=4\/k.kd=5\/k.kd=6\/k.kd=7\/k.kd=8\/k.kd=9\/k.kd=10\/k.kd=11\/k.kd=12\/k.kd=13\/k.kd=14\/k.kd=15:=by omega
 rcases hc with h|h|h|h|h|h|h|h|h|h|h|h|h|h|h
 .exact⟨_,by rw[h];rfl,qB,fun w I H=>Aax h hin w I H⟩
 .exact⟨_,by rw[h];rfl,qB,fun w I H=>Aap h hin w I H⟩
 .exact⟨_,by rw[h];rfl,qB,fun w I H=>Aaq h hin w I H⟩
 .exact⟨_,by rw[h];rfl,qB,fun w I H=>Adz h hin w I H⟩
 .exact⟨_,by rw[h];rfl,qB,fun w I H=>Ad1 h hin w I H⟩
 .exact⟨_,by rw[h];rfl,qB,fun w I H=>Aau h hin w I H⟩
 .exact⟨_,by rw[h];rfl,qB,fun w I H=>S5 h hin w I H⟩
 .exact⟨_,by rw[h];rfl,qB,fun w I H=>Ui h hin w I H⟩
 .exact⟨_,by rw[h];rfl,qB,fun w I H=>Aay h hin w I H⟩
 .exact⟨_,by rw[h];rfl,qB,fun w I H=>Pt (.inl h) hin w I H⟩
 .exact⟨_,by rw[h];rfl,qB,fun w I H=>Pt (.inr h) hin w I H⟩
 .exact⟨_,by rw[h];rfl,qB,fun w I H=>Aav h hin w I H⟩
 .exact⟨_,by rw[h];rfl,qB,fun w I H=>Xb h hin w I H⟩
 .exact⟨_,by rw[h];rfl,qB,fun w I H=>Ad2 h hin w I H⟩
 .exact⟨_,by rw[h];rfl,qB,fun w I H=>Xe h hin w I H⟩
theorem Abe(h:k.kd=0\/16<=k.kd):C9 s k s ⟨1,[]⟩:=by
 have h1:Dn s k=s:=by
  unfold Dn;iterate 9 rw[if_neg<|by omega]
 have h2:Dq s k=⟨1,[]⟩:=by
  unfold Dq;iterate 13 rw[if_neg<|by omega]
 unfold C9;rw[if_neg<|by omega];exact⟨h1.symm,h2.symm⟩
theorem Uq{m m':Lm}{p:Rp}(_:LdIn w m s T)(H:Ctx w (CR m s) w'<|P++(LL m' s'++ent a 2 full))(O:OS a n c 1 full (p.n.map Cu))(hst:C9 s k s' p)(I7:LdIn w' m' s' T')(g:Grows T T' w)(hbl:m'.bl=m.bl/\∀x∈ent a 2 full,w.heap.size<=x.1) :
  Abd w m s T k (.agg #[.int .i64 p.e,.slice a n c]) w':=⟨a,n,c,full,p,s',m',T',rfl,O,hst,H.right,I7,g,hbl⟩
abbrev dL:List Nat:=[23,24,25,26,27,28,29,22,30,31,6]
theorem Ajq:∀i j,i<11->j<11->dL.getD i 0=dL.getD j 0->i=j:=fun i j hi hj h=>by
 have h1:∀a b:Fin 11,dL.getD a.val 0=dL.getD b.val 0->a=b:=by decide
 exact qaa Fin.val<|h1 ⟨i,hi⟩ ⟨j,hj⟩ h
abbrev dA:Nat->List Nat:=XN 11 [[],[0],[0,1],[0,1,2],[],[],[0,1,2,3,4,5],[0,1,2,3,4,5,6],[0,1,2,3,4,5,6,7],[0,1,2,3,4,5,6,7],[0,1,2,3,4,5,6,7,8]]
def gD(b3 b5 bl:Nat)(k:Ak)(f:FuncId)(R:Value->Value->World->Prop):Nat->(Nat->Value)->World->Prop
 |0,V,_=>V 0=.pointer (some ⟨b3,0+0,none⟩)
 |1,V,_=>V 1=.int .u8 k.kd
 |2,V,_=>V 2=.pointer (some ⟨b5,0+k.kd.toNat*1,none⟩)
 |3,V,_=>V 3=fnV f
 |4,V,_=>V 4=.pointer (some ⟨bl,0,none⟩)
 |5,V,_=>V 5=.agg (BN k).toArray
 |6,V,w=>∃x y,V 6=.tuple #[x,y]/\R x y w
 |7,V,_=>V 7=V 6
 |8,V,_=>∃x y,V 7=.tuple #[x,y]/\V 8=x
 |9,V,_=>∃x y,V 7=.tuple #[x,y]/\V 9=y
 |10,V,_=>V 10=V 8
 |_,_,_=>True
theorem Ajr{R:Value->Value->World->Prop}:∀(i j:Nat) (v:Value) (V:Nat->Value) (w:World),i<11->j≠i->j∉dA i->gD b3 b5 bl k f R i V w->gD b3 b5 bl k f R i (PC V j v) w
 |0,j,v,V,w,_,h1,_,h=>(Dv<|Ne.symm h1).trans h
 |1,j,v,V,w,_,h1,_,h=>(Dv<|Ne.symm h1).trans h
 |2,j,v,V,w,_,h1,_,h=>(Dv<|Ne.symm h1).trans h
 |3,j,v,V,w,_,h1,_,h=>(Dv<|Ne.symm h1).trans h
 |4,j,v,V,w,_,h1,_,h=>(Dv<|Ne.symm h1).trans h
 |5,j,v,V,w,_,h1,_,h=>(Dv<|Ne.symm h1).trans h
 |6,j,v,V,w,_,h1,_,h=>by
  obtain⟨x,y,h3,h4⟩:=h;exact⟨x,y,(Dv<|Ne.symm h1).trans h3,h4⟩
 |7,j,v,V,w,_,h1,h2,h=>by
  have h6:j≠6:=fun e=>h2 (by rw[e];decide);exact((Dv<|Ne.symm h1).trans h).trans (Dv<|Ne.symm h6).symm
 |8,j,v,V,w,_,h1,h2,h=>by
  have h7:j≠7:=fun e=>h2 (by rw[e];decide);obtain⟨x,y,h3,h4⟩:=h;exact⟨x,y,(Dv<|Ne.symm h7).trans h3,(Dv<|Ne.symm h1).trans h4⟩
 |9,j,v,V,w,_,h1,h2,h=>by
  have h7:j≠7:=fun e=>h2 (by rw[e];decide);obtain⟨x,y,h3,h4⟩:=h;exact⟨x,y,(Dv<|Ne.symm h7).trans h3,(Dv<|Ne.symm h1).trans h4⟩
 |10,j,v,V,w,_,h1,h2,h=>by
  have h8:j≠8:=fun e=>h2 (by rw[e];decide);exact((Dv<|Ne.symm h1).trans h).trans (Dv<|Ne.symm h8).symm
 |i+11,_,_,_,_,h,_,_,_=>by omega
theorem gD_w{R:Value->Value->World->Prop}:∀(i:Nat) (V:Nat->Value) (w w':World),i<11->i≠6->6∉dA i->gD b3 b5 bl k f R i V w->gD b3 b5 bl k f R i V w'
 |0,_,_,_,_,_,_,h=>h
 |1,_,_,_,_,_,_,h=>h
 |2,_,_,_,_,_,_,h=>h
 |3,_,_,_,_,_,_,h=>h
 |4,_,_,_,_,_,_,h=>h
 |5,_,_,_,_,_,_,h=>h
 |6,_,_,_,_,h,_,_=>absurd rfl h
 |7,_,_,_,_,_,_,h=>h
 |8,_,_,_,_,_,_,h=>h
 |9,_,_,_,_,_,_,h=>h
 |10,_,_,_,_,_,_,h=>h
 |i+11,_,_,_,h,_,_,_=>by omega
structure DoZ where
 a:Option Addr
 n:Nat
 c:Nat
 full:List Value
 code:Int
 l:List Int
 s:Ld
 m:Lm
theorem Ajs{m:Lm}(hin:AkIn k)(hdo:k.kd≠0->k.kd<16->∃f,DoFn k f)(w:World)(I:LdIn w m s T)(H0:Ctx w (CR m s) w<|LL m s) :
  Ret prog 11 #[ptr m.bl,.agg (BN k).toArray] w (Abd w m s T k):=by
 obtain⟨w0,rfl⟩:=qD w;have hkd:=hin.kd;obtain⟨S0,hS0⟩:=qD<|CR m s;have H:Ctx w0 S0 w0<|LL m s:=by rw[hS0];exact H0
 refine iG func11 U ?_;refine Af<|Be (BN k) (.agg _) U U H ?_;rintro b3 w - H;refine AN qf H ?_;rintro b4 w - H;refine qGc 8 ?_ ?_
 .intro h1;cases h1
 .intro h1;refine A1<|Aa<|Af<|VH doT U qf qf qf ?_;refine AN qf H ?_;rintro b5 w - H;refine AM qf U U U (by exact(by simp[AF])) H at0 U ?_;rintro w H;refine qG 4 ?_;refine Bo (α:=Unit) 2093056 (fun _=>[(20,.bool<|(decide (k.kd=0) || decide (16<=k.kd)))]) (fun _ w'=>Ctx w0 S0 w' ((b5,Bl 121 doT)::(b4,Bl 43 [.int .i64 0,.slice none 0 0])::(b3,Bl 46 (BN k))::LL m s)) U ?_ ?_
  .refine qG 4 ?_;refine iC 15 U ?_ ?_
   .intro h1;refine qG 6 ?_;exact⟨rfl,(),rfl,⟨qaa Value.bool (by rw[qac];simp_all;try omega),trivial⟩,H⟩
   .intro h2;refine qG 6 ?_;exact⟨rfl,(),rfl,⟨qaa Value.bool (by rw[qac];simp_all;try omega),trivial⟩,H⟩
  rintro - j20 w H;refine A3 _ U ?_ ?_
  .intro h2;have h2':k.kd=0\/16<=k.kd:=by simpa using h2
   refine Af<|Bd [.int .i64 1,.slice none 0 0] qf qf ?_;refine AM qf U U U (by exact(by simp[AF])) H at1 U ?_;rintro w H;refine qG 5 ?_;have H17:=H;subst hS0;exact Uq (P:=[_,_,_]) (m':=m) (s':=s) (T':=T) (p:=⟨1,[]⟩) (full:=[]) I (H17.app_nil) OS.nil (Abe h2') (I.grow H17.ext (fun x hx => .inl (I.own x hx)) (Grows.refl _ _) fun x hx=>qbb (I.low x hx) H17.size) (Grows.refl _ _) ⟨rfl,fun x hx=>by cases hx⟩
  .intro h2;have h2':¬(k.kd=0\/16<=k.kd):=by simpa using h2
   obtain⟨f,hf1,hf2,hf3⟩:=hdo (fun h=>h2'<|.inl h)<|by omega
   have hown:∀x,x∈[b5,b4,b3]->T x\/w0.heap.size<=x:=fun x hx=>by
    simp only[qaf,qan,or_false]at hx
    rcases hx with rfl|rfl|rfl
    .exact(H.own (_,_)<|qad at0).imp_left fun h=>I.own _<|hS0 ▸ h
    .exact(H.own (_,_)<|qad at1).imp_left fun h=>I.own _<|hS0 ▸ h
    .exact(H.own (_,_)<|qad at2).imp_left fun h=>I.own _<|hS0 ▸ h
   have hlt:∀x,x∈[b5,b4,b3]->x<w.heap.size:=fun x hx=>by
    simp only[qaf,qan,or_false]at hx
    rcases hx with rfl|rfl|rfl
    .exact AX (H.get at0)
    .exact AX (H.get at1)
    .exact AX (H.get at2)
   have g1:Grows T (fun x=>T x\/x∈[b5,b4,b3]) w0:=⟨fun x hx => .inl hx,fun x hx=>hx.elim .inl<|hown x⟩;have I1:LdIn w m s fun x=>T x\/x∈[b5,b4,b3]:=I.grow H.ext (fun x hx => .inl (I.own x<|hS0 ▸ hx)) g1 fun x hx=>hx.elim (fun h=>qbb (I.low x h) H.size)<|hlt x;refine A1<|Aa<|Dk 4290773184 (α:=DoZ) (fun z=>[(6,.slice z.a z.n z.c),(7,.int .i64 z.code)]) (fun z w'=>OS z.a z.n z.c 1 z.full (z.l.map Cu)/\C9 s k z.s (rp z.l z.code)/\Ctx w0 S0 w' ((b5,Bl 121 doT)::(b4,Bl 43 [.int .i64 0,.slice none 0 0])::(b3,Bl 46 (BN k))::(LL z.m z.s++ent z.a 2 z.full))/\LdIn w' z.m z.s (fun x=>(T x\/x∈[b5,b4,b3])\/x∈CR z.m z.s)/\z.m.bl=m.bl/\∀x∈ent z.a 2 z.full,w0.heap.size<=x.1) U ?_ ?_
   .skip
    have H9:=H.drew;have I2:=I1.grow (Ext.drew [] _) (fun x hx=>by cases hx) (Grows.refl _ _) I1.low;refine Acb (n:=11) (N:=12) (anc:=dA) 6 (fun i=>dL.getD i 0) (gD b3 b5 m.bl k f (fun x y w'=>∃z:DoZ,x=.slice z.a z.n z.c/\y=.int .i64 z.code/\OS z.a z.n z.c 1 z.full (z.l.map Cu)/\C9 s k z.s (rp z.l z.code)/\Ctx w0 S0 w' ((b5,Bl 121 doT)::(b4,Bl 43 [.int .i64 0,.slice none 0 0])::(b3,Bl 46 (BN k))::(LL z.m z.s++ent z.a 2 z.full))/\LdIn w' z.m z.s (fun x=>(T x\/x∈[b5,b4,b3])\/x∈CR z.m z.s)/\z.m.bl=m.bl/\∀x∈ent z.a 2 z.full,w0.heap.size<=x.1)) (show Tryz.prog.follows .mixedOrders=true by kernel_rfl) U (VN _) Ajq Ajr gD_w ?_ ?_ ?_
    .intro i o e' w' V hi hic ho hold hg hG hw;have h3:e'.g 3=.pointer (some ⟨b3,0,none⟩):=(hold 3 ((by decide:∀j,j<11->3≠dL.getD j 0))).trans rfl;have h5:e'.g 5=.pointer (some ⟨b5,0,none⟩):=(hold 5 ((by decide:∀j,j<11->5≠dL.getD j 0))).trans rfl;have h0:e'.g 0=.pointer (some ⟨m.bl,0,none⟩):=(hold 0 ((by decide:∀j,j<11->0≠dL.getD j 0))).trans rfl;have hcs:i=0\/i=1\/i=2\/i=3\/i=4\/i=5\/i=7\/i=8\/i=9\/i=10:=by omega
     rcases hcs with rfl|rfl|rfl|rfl|rfl|rfl|rfl|rfl|rfl|rfl
     .cases qal ho;exact Ae (off:=0) (by kernel_rfl) h3<|Ab ⟨_,rfl,rfl,DQ ..⟩
     .cases qal ho;have hww:=hw (by decide);subst hww;exact A9 qf ((hg 0 (by decide)).trans<|hG 0 (by decide)) (v := .int .u8 k.kd) (by rw[Ai<|H9.get at2];rfl)<|Ab ⟨_,rfl,rfl,DQ ..⟩
     .cases qal ho;exact LH U qf qf h5 ((hg 1 (by decide)).trans<|hG 1 (by decide))<|Ab ⟨_,rfl,rfl,DQ ..⟩
     .cases qal ho;have hww:=hw (by decide);subst hww;exact A9 qf ((hg 2 (by decide)).trans<|hG 2 (by decide)) (v:=fnV f) (by rw[Ai<|H9.get at0,qa0,qdd];exact hf1)<|Ab ⟨_,rfl,rfl,DQ ..⟩
     .cases qal ho;exact ET U _ h0<|Ab ⟨_,rfl,rfl,DQ ..⟩
     .cases qal ho;have hww:=hw (by decide);subst hww;exact BC (BN k) qf qf h3 U (BQ (b:=b3) (t:=46) (l:=BN k) (H9.get at2) 0 (BN k) U)<|Ab ⟨_,rfl,rfl,DQ ..⟩
     .cases qal ho;exact ET U (V 6) (hg 6 (by decide))<|Ab ⟨_,rfl,rfl,(DQ ..).trans (Dv<|by decide).symm⟩
     .cases qal ho;obtain⟨x,y,h6,-⟩:=hG 6 (by decide);have h7:V 7=.tuple #[x,y]:=(hG 7 (by decide)).trans h6;exact BV (v:=x) ((hg 7 (by decide)).trans h7) U<|Ab ⟨_,rfl,rfl,x,y,(Dv<|by decide).trans h7,DQ ..⟩
     .cases qal ho;obtain⟨x,y,h6,-⟩:=hG 6 (by decide);have h7:V 7=.tuple #[x,y]:=(hG 7 (by decide)).trans h6;exact BV (v:=y) ((hg 7 (by decide)).trans h7) U<|Ab ⟨_,rfl,rfl,x,y,(Dv<|by decide).trans h7,DQ ..⟩
     .cases qal ho;exact Dr U (V 8) (hg 8 (by decide))<|Ab ⟨_,rfl,rfl,(DQ ..).trans (Dv<|by decide).symm⟩
    .intro o e' V ho hold hg hG;cases qal ho;refine FA ((hg 3 (by decide)).trans<|hG 3 (by decide)) hf2 (hf3 _ I2<|Ctx.lend<|Ctx.comm (L:=[_,_,_]) (L':=LL m s) H9) (show[e'.g 27,e'.g 28]=_ by rw[show e'.g 27=_ from(hg 4 (by decide)).trans (hG 4 (by decide)),show e'.g 28=_ from(hg 5 (by decide)).trans (hG 5 (by decide))]) ?_;rintro v w2 ⟨ar,nr,cr,fr,code,lr,s',m',rfl,Or,hst,H7,hnew,I7,hbl⟩;exact Ab ⟨_,rfl,_,_,DQ ..,⟨ar,nr,cr,fr,code,lr,s',m'⟩,rfl,rfl,Or,hst,(Ctx.back (L1:=LL m s) (Ctx.comm (L:=[_,_,_]) (L':=LL m s) H9) H7).comm,I7,hbl,fun x hx=>qa3 H9.size<|hnew x hx⟩
    .intro e' w' V hds hold hg hG;obtain⟨x,y,h6,z,rfl,rfl,hJ⟩:=hG 6 (by decide);obtain⟨x1,y1,h71,h8⟩:=hG 8 (by decide);obtain⟨x2,y2,h72,h9⟩:=hG 9 (by decide);have h7:V 7=V 6:=hG 7 (by decide);have h10:V 10=V 8:=hG 10 (by decide);rw[h7,h6]at h71 h72;cases h71;cases h72;refine Dr U (.int .i64 z.code) ((hg 9 (by decide)).trans h9)<|Ab ?_;exact⟨z,hds,⟨(Dg<|by decide).trans<|(hg 10 (by decide)).trans<|h10.trans h8,Dj ..,trivial⟩,hJ⟩
   .rintro⟨ar,nr,cr,fr,code,lr,s',m'⟩ j8 w ⟨Or,hst,H8,I7,hbl⟩;dsimp only at Or hst H8 I7 hbl;obtain⟨w2,rfl⟩:=qD w;clear H;have H:=Ctx.start1<|H8.get at1;have hS8:=H8.size
    have g2:Grows T (fun x=>(T x\/x∈[b5,b4,b3])\/x∈CR m' s') w0:=⟨fun x hx => .inl (.inl hx),fun x hx=>hx.elim (fun h=>h.elim .inl<|hown x) fun h=>by
     obtain⟨y,hy,rfl⟩:=qak.1 h
     exact(H8.own y<|qap [_,_,_]<|qax _ hy).imp_left fun h=>I.own _<|hS0 ▸ h⟩
    have h4:∀x∈[b4],((T x\/x∈[b5,b4,b3])\/x∈CR m' s')\/w2.heap.size<=x:=fun x hx=>by rw[qab.1 hx];exact .inl<|.inl<|.inr<|by simp
    refine qGp 6 ?_ ?_
    .intro h3;refine Af<|Ad U<|Bd [.int .i64 code,.slice none 0 0] qf qf ?_;refine AM qf U U U (by exact(by simp[AF])) H at0 U ?_;rintro w H;refine qG 5 ?_;have H17:=H;subst hS0;have hp:rp lr code=⟨code,[]⟩:=JL h3;rw[hp]at hst;exact Uq (P:=[_,_,_]) (m':=m') (s':=s') (p:=⟨code,[]⟩) (full:=[]) I (Ctx.app_nil<|Ctx.left (L:=(_::_::_::LL m' s'))<|Ctx.mid (B:=[_]) (L:=[_]) H8 H17) OS.nil hst (I7.grow H17.ext h4 (Grows.refl _ _) fun x hx=>qbb (I7.low x hx) H17.size) g2 ⟨hbl.1,fun x hx=>by cases hx⟩
    .intro h3;obtain rfl:code=0:=h3;refine qG 4 ?_;refine Bd [.int .i64 0,.slice ar nr cr] qf qf<|AM qf U U U (by exact(by simp[AF])) H at0 U ?_;rintro w H;refine qG 4 ?_;have H17:=H;subst hS0;exact Uq (P:=[_,_,_]) (m':=m') (s':=s') (p:=⟨0,lr⟩) I (Ctx.mid (B:=[_]) (L:=[_]) H8 H17) Or hst (I7.grow H17.ext h4 (Grows.refl _ _) fun x hx=>qbb (I7.low x hx) H17.size) g2 hbl
theorem do_ok{m:Lm}(hin:AkIn k)(w:World)(I:LdIn w m s T)(H0:Ctx w (CR m s) w<|LL m s) :
  Ret prog 11 #[ptr m.bl,.agg (BN k).toArray] w (Abd w m s T k):=Ajs hin (Ajp hin) w I H0
end Go.Proofs.YtfnfnmgilmejmaaGreat
