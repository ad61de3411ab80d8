/- Part 12 of the proof. -/
import Derived.Test.YtffclglpjlcojaaGreatPart11
set_option maxRecDepth 20000
set_option maxHeartbeats 4000000
namespace Go.Proofs.YtffclglpjlcojaaGreat
open Go.GV Go.Proofs.Tryz
attribute [local irreducible] AG W Wq Wt
theorem Agh{m:Lm}{s:Ld}{T:Nat->Prop}{k:Ak}(hk:k.kd=5)(hin:AkIn k)(w:World)(I:LdIn w m s T)(H0:Ctx w (CT m s) w (LL m s)) :
  Ret prog 33 #[ptr m.bl,.agg (BA k).toArray] w (G1 w m s T k):=by
 obtain⟨w0,rfl⟩:=qD w;obtain⟨bl,ba,bd,br,b,a,c,full,o,arch⟩:=m;obtain⟨S0,hS0⟩:=qD (CT ⟨bl,ba,bd,br,b,a,c,full,o,arch⟩ s);have H:Ctx w0 S0 w0 ((bl,Bl 73 [ptr ba,ptr bd,ptr br,.int .i64 s.day])::(br,Bl 135 arch)::(ba,Bl 129 [.slice a s.acs.length c])::(bd,Bl 132 (DU b s.nx))::(b,o)::ent a 108 full):=by rw[hS0];exact H0
 have hn16:=(Co.1 I.ok.ac).1;have hbdb:bd≠b:=H.ne (i:=3) (j:=4) rfl rfl (by decide);have hS:Et s k=if(inA s.acs k.a && inA s.acs k.b)=true/\s.day<=k.u then{ s with ds:=Ns s.ds s.nx k.a k.b k.x k.w k.u,nx:=PE s.ds s.nx k.a k.b k.x k.w k.u }else s:=by unfold Et;(iterate 4 rw[if_neg (by omega)]);rw[if_pos hk]
 have hR:ET s k=if(inA s.acs k.a && inA s.acs k.b)=false then⟨10,[]⟩else if k.u<s.day then⟨1,[]⟩else rp [IntKind.i64.wrap s.nx] (Jt s.ds s.nx k.a k.b k.x k.w k.u):=by unfold ET;(iterate 4 rw[if_neg (by omega)]);rw[if_pos hk]
 have hstep:∀s' p,Et s k=s'->ET s k=p->Cr s k s' p:=fun s' p h1 h2=>by
  unfold Cr;rw[if_neg (by omega)];exact⟨h1.symm,h2.symm⟩
 have hokS:=JP I.ok k hin.u.2;obtain⟨-,hnx,-,-⟩:=Fb I.ok.du;have hw:IntKind.i64.wrap s.nx=s.nx:=Dg (show(-9223372036854775808:Int)<=s.nx by omega) (show s.nx<=(9223372036854775807:Int)by omega);refine Ay (fn:=Tryz.f33) func33 U [.pointer (some ⟨bl,0,none⟩),.agg (BA k).toArray] U ?_;refine Ad (Br (BA k) (.agg _) U U H ?_);rintro b3 w - H;refine A4 U (Ae U (qA (Ao (A1 (Ad (BV (α:=Unit) 2096896 (fun _=>[(8,.bool (!(inA s.acs k.a && inA s.acs k.b)))]) (fun _ w'=>Ctx w0 S0 w' ([(b3,Bl 25 (BA k)),(bl,Bl 73 [ptr ba,ptr bd,ptr br,.int .i64 s.day]),(br,Bl 135 arch),(ba,Bl 129 [.slice a s.acs.length c]),(bd,Bl 132 (DU b s.nx)),(b,o)]++ent a 108 full)) U ?_ ?_))))))
 .refine Ax U (Ah F6 U (AB Cd U H at0 U (Al qB (MH k.a _ (H.get at1) (H.get at3) (OS.rd (t:=108) I.O (fun y hy=>H.blk y (qal [_,_,_,_,_,_] hy)) (fun _ _=>rfl) (by decide))) U ?_)));rintro v w ⟨rfl,hxb⟩;replace H:=H.call hxb;refine BE U (Aw U (AK 14 U ?_ ?_))
  .intro h1;replace h1:=B7 h1;refine Ag U (Ag U (Ag U (Ag U (Ag U (A6 U (.bool _) U (Ai U (Ab ?_)))))));exact⟨rfl,(),rfl,⟨qaa Value.bool (by cases h1:inA s.acs k.a <;> cases h2:inA s.acs k.b <;> simp_all),trivial⟩,H⟩
  .intro h2;replace h2:=B9 h2;refine Ax U (Ah Sh U (AB Cd U H at0 U (Al qB (MH k.b _ (H.get at1) (H.get at3) (OS.rd (t:=108) I.O (fun y hy=>H.blk y (qal [_,_,_,_,_,_] hy)) (fun _ _=>rfl) (by decide))) U ?_)));rintro v w ⟨rfl,hxb⟩;replace H:=H.call hxb;refine BE U (A9 U (.bool _) U (Ai U (Ab ?_)));exact⟨rfl,(),rfl,⟨qaa Value.bool (by cases h1:inA s.acs k.a <;> cases h2:inA s.acs k.b <;> simp_all),trivial⟩,H⟩
 rintro - j8 w H;refine An _ U ?_ ?_
 .intro h1;replace h1:=B7 h1;replace h1:(inA s.acs k.a && inA s.acs k.b)=false:=by revert h1;cases(inA s.acs k.a && inA s.acs k.b) <;> simp
  refine Ad (A4 U (Ae U (qA (A7 (AF (Av (BR (v1:=(.slice _ _ _)) (v2:=(.int _ _)) U U U U ?_)))))));subst hS0;exact DM (P:=[_]) (m':=⟨bl,ba,bd,br,b,a,c,full,o,arch⟩) (s':=s) (l:=[]) (code:=10) I H (I5 _) (hstep _ _ (by rw[hS,if_neg (by rw[h1];simp)]) (by rw[hR,if_pos h1];rfl)) I.O I.M I.ok U U U U
 .intro h1;replace h1:=B9 h1;replace h1:(inA s.acs k.a && inA s.acs k.b)=true:=by revert h1;cases(inA s.acs k.a && inA s.acs k.b) <;> simp
  refine Dw (fun x=>x=_) Bq U (A5 Mp U (Cc Bw U (by rintro _ rfl;exact H.drew) at0 U ?_));refine B6 U (Bb U (A5 Mu U (Cc Bw U (by rintro _ rfl;exact H.drew) at1 U ?_)));refine Ln U U (MZ U U (BT ?_));rintro _ rfl;replace H:=H.drew;refine An _ U ?_ ?_
  .intro h2;replace h2:=AM h2;refine Ad (A4 U (Ae U (qA (A7 (AF (Av (BR (v1:=(.slice _ _ _)) (v2:=(.int _ _)) U U U U ?_)))))));subst hS0;exact DM (P:=[_]) (m':=⟨bl,ba,bd,br,b,a,c,full,o,arch⟩) (s':=s) (l:=[]) (code:=1) I H (I5 _) (hstep _ _ (by rw[hS,if_neg (fun h=>by omega)]) (by rw[hR,if_neg (by rw[h1];decide),if_pos h2];rfl)) I.O I.M I.ok U U U U
  .intro h2;replace h2:=AN h2;rw[hS,if_pos ⟨h1,by omega⟩]at hokS;obtain⟨y,hy,hy0⟩:∃y,(if Jt s.ds s.nx k.a k.b k.x k.w k.u=0 then s.nx else 0)=y/\0<=y/\y<=4611686018427387904:=⟨_,rfl,by split <;> omega,by split <;> omega⟩
   have hst:Cr s k { s with ds:=Ns s.ds s.nx k.a k.b k.x k.w k.u,nx:=PE s.ds s.nx k.a k.b k.x k.w k.u } (rp [y] (Jt s.ds s.nx k.a k.b k.x k.w k.u)):=hstep _ _ (by rw[hS,if_pos ⟨h1,by omega⟩]) (by
    rw[hR,if_neg (by rw[h1];decide),if_neg h2,hw]
    by_cases h0:Jt s.ds s.nx k.a k.b k.x k.w k.u=0
    .rw[if_pos h0]at hy;rw[hy]
    .rw[Uw h0,Uw h0])
   refine Aq (A8 (Aa (Cq [([0,1,2,3,4,5,6,7,8,9,10,11,12,13],14),([15,16,17,18],19)] (fun z=>z.heap[b3]?=some (Bl 25 (BA k))/\z.heap[bl]?=some (Bl 73 [ptr ba,ptr bd,ptr br,.int .i64 s.day])) [14,19] Bq (⟨H.drew.get at0,H.drew.get at1⟩) ?_)));refine AH U U (BF U (Bg U (Ap FV U (B3 Hx U (fun _ hx=>(by rw[Aj hx.2];rfl)) ?_))));refine Ap F6 U (B3 Cd U (fun _ hx=>(by rw[Aj hx.1];rfl)) ?_);refine Ap Sh U (B3 Cd U (fun _ hx=>(by rw[Aj hx.1];rfl)) ?_);refine Ap NU U (B3 Bw U (fun _ hx=>(by rw[Aj hx.1];rfl)) ?_);refine Ap Aew U (B3 Bw U (fun _ hx=>(by rw[Aj hx.1];rfl)) ?_);refine Ap Mp U (B3 Bw U (fun _ hx=>(by rw[Aj hx.1];rfl)) ?_);refine AR ?_;replace H:=H.drew;refine Al qB (Ade k.a k.b k.x k.w k.u _ (H.get at4) (H.get at5) I.M hbdb I.ok.du) U ?_;rintro v w ⟨rfl,o',hM',H7⟩;rw[hy]
   replace H:=Ctx.mid (B:=[_,_,_,_]) (L:=[_,_]) H H7;refine Ab (B5 U (AH U U ?_));refine DK U (Bv U U (Bv U U (KS U U (AR (Ae U (Ab (B5 U (BG (Ad (Af U ?_))))))))));refine GZ U U Fk XJ ?_;have H17:=Ctx.start w [];refine Cs [.int .i64 y] (.int .i64 y) AV B2 E5 U U U U H17 ?_;rintro b49 w2 - H17;refine Af U (A4 U (Ae U (qA (A7 (BR (v1:=(.slice _ _ _)) (v2:=(.int _ _)) U U U U ?_)))));subst hS0;exact DM (P:=[_]) (m':=⟨bl,ba,bd,br,b,a,c,full,o',arch⟩) (s':={ s with ds:=Ns s.ds s.nx k.a k.b k.x k.w k.u,nx:=PE s.ds s.nx k.a k.b k.x k.w k.u }) (l:=[y]) I H (GM (n:=1) (l:=[Dj y]) H17 U) hst I.O hM' hokS U U U U
theorem Ado{m:Lm}{s:Ld}{T:Nat->Prop}{k:Ak}(hk:k.kd=9)(hin:AkIn k)(w:World)(I:LdIn w m s T)(H0:Ctx w (CT m s) w (LL m s)) :
  Ret prog 37 #[ptr m.bl,.agg (BA k).toArray] w (G1 w m s T k):=by
 obtain⟨w0,rfl⟩:=qD w;obtain⟨bl,ba,bd,br,b,a,c,full,o,arch⟩:=m;obtain⟨S0,hS0⟩:=qD (CT ⟨bl,ba,bd,br,b,a,c,full,o,arch⟩ s);have H:Ctx w0 S0 w0 ((bl,Bl 73 [ptr ba,ptr bd,ptr br,.int .i64 s.day])::(br,Bl 135 arch)::(ba,Bl 129 [.slice a s.acs.length c])::(bd,Bl 132 (DU b s.nx))::(b,o)::ent a 108 full):=by rw[hS0];exact H0
 have hn16:=(Co.1 I.ok.ac).1;have hbdb:bd≠b:=H.ne (i:=3) (j:=4) rfl rfl (by decide);have hS:Et s k=if s.day<=k.u then{ s with day:=k.u,ds:=Nt s.ds k.u }else s:=by unfold Et;(iterate 8 rw[if_neg (by omega)]);rw[if_pos hk]
 have hR:ET s k=if k.u<s.day then⟨3,[]⟩else⟨0,[((s.ds.length - (Nt s.ds k.u).length:Nat):Int)]⟩:=by unfold ET;(iterate 8 rw[if_neg (by omega)]);rw[if_pos hk]
 have hstep:∀s' p,Et s k=s'->ET s k=p->Cr s k s' p:=fun s' p h1 h2=>by
  unfold Cr;rw[if_neg (by omega)];exact⟨h1.symm,h2.symm⟩
 have hokS:=JP I.ok k hin.u.2;refine Ay (fn:=f37) func37 U [.pointer (some ⟨bl,0,none⟩),.agg (BA k).toArray] U ?_;refine Ad (Br (BA k) (.agg _) U U H ?_);rintro b3 w - H;refine A4 U (Ae U (qA (Ao (Dw (fun x=>x=_) Bq U ?_))));refine A5 Mp U (Cc Bw U (by rintro _ rfl;exact H.drew) at0 U ?_);refine B6 U (Bb U (A5 Mu U (Cc Bw U (by rintro _ rfl;exact H.drew) at1 U ?_)));refine Ln U U (BT ?_);rintro _ rfl;replace H:=H.drew;refine An _ U ?_ ?_
 .intro h1;replace h1:=AM h1;refine Ad (A4 U (Ae U (qA (A7 (Av (BR (v1:=(.slice _ _ _)) (v2:=(.int _ _)) U U U U ?_))))));subst hS0;exact DM (P:=[_]) (m':=⟨bl,ba,bd,br,b,a,c,full,o,arch⟩) (s':=s) (l:=[]) (code:=3) I H (I5 _) (hstep _ _ (by rw[hS,if_neg (by omega)]) (by rw[hR,if_pos h1];rfl)) I.O I.M I.ok U U U U
 .intro h1;replace h1:=AN h1;rw[hS,if_pos (by omega)]at hokS;refine Aq (Aa (Ad (Ax U (Ah Mp U (AB Bw U H at0 U (AE U (Ah Mu U (Ct (.int _ _) B2 U U U H at1 (by(simp;done)) ?_))))))));rintro w H;refine qA (Ec 6 Bq U U ?_);refine B6 U (Bb U (A5 FV U (Cc Hx U (by rintro _ rfl;exact H.drew) at1 U ?_)));refine A5 Mp U (Cc Bw U (by rintro _ rfl;exact H.drew) at0 U ?_);refine BT ?_;replace H:=H.drew;refine Al qB (YA (u:=k.u) _ (H.get at4) (H.get at5) I.M hbdb I.ok.du) U ?_;rintro v w ⟨o',hM',H7,a7,c7,rfl⟩;replace H:=Ctx.mid (B:=[_,_,_,_,_]) (L:=[_]) H H7;refine Ba Bh U ?_;have H17:=Ctx.start w [];refine Cs [.int .i64 ((s.ds.length - (Nt s.ds k.u).length:Nat):Int)] (.int .i64 _) AV B2 E5 U U U U H17 ?_;rintro b26 w2 - H17;refine A4 U (Ae U (qA (A7 (BR (v1:=(.slice _ _ _)) (v2:=(.int _ _)) U U U U ?_))))
  subst hS0;exact DM (P:=[_]) (m':=⟨bl,ba,bd,br,b,a,c,full,o',arch⟩) (s':={ s with day:=k.u,ds:=Nt s.ds k.u }) (l:=[((s.ds.length - (Nt s.ds k.u).length:Nat):Int)]) (code:=0) I H (GM (n:=1) (l:=[Dj ((s.ds.length - (Nt s.ds k.u).length:Nat):Int)]) H17 U) (hstep _ _ (by rw[hS,if_pos (by omega)]) (by rw[hR,if_neg h1];rfl)) I.O hM' hokS U U U U
theorem Xh(b:Bool)(w:World):Ret prog 87 #[.bool b] w fun v w'=>v=.int .i64 (ND b)/\w=w':=by
 obtain⟨w0,rfl⟩:=qD w;refine Ay (fn:=f87) func87 U [.bool b] U (Ad (Ae U (qA (Ao (Ad (Aw U (qA (An _ U ?_ ?_))))))))
 .intro h1;refine Ad (Ae U (qA (A7 (Av (AD (v:=(.int _ _)) U U U ?_)))));exact⟨by rw[show b=true by simpa using h1];rfl,rfl⟩
 .intro h1;refine Aq (Aa (Ad (Ae U (qA (A7 (AD (v:=(.int _ _)) U U U ?_))))));exact⟨by rw[show b=false by simpa using h1];rfl,rfl⟩
theorem Agi{m:Lm}{s:Ld}{T:Nat->Prop}{k:Ak}(hk:k.kd=14)(_:AkIn k)(w:World)(I:LdIn w m s T)(H0:Ctx w (CT m s) w (LL m s)) :
  Ret prog 41 #[ptr m.bl,.agg (BA k).toArray] w (G1 w m s T k):=by
 obtain⟨w0,rfl⟩:=qD w;obtain⟨bl,ba,bd,br,b,a,c,full,o,arch⟩:=m;obtain⟨S0,hS0⟩:=qD (CT ⟨bl,ba,bd,br,b,a,c,full,o,arch⟩ s);have H:Ctx w0 S0 w0 ((bl,Bl 73 [ptr ba,ptr bd,ptr br,.int .i64 s.day])::(br,Bl 135 arch)::(ba,Bl 129 [.slice a s.acs.length c])::(bd,Bl 132 (DU b s.nx))::(b,o)::ent a 108 full):=by rw[hS0];exact H0
 have hn16:=(Co.1 I.ok.ac).1;have hbdb:bd≠b:=H.ne (i:=3) (j:=4) rfl rfl (by decide);have hR0:C6 s.ds k.id=none->ET s k=⟨11,[]⟩:=fun h=>by unfold ET;(iterate 11 rw[if_neg (by omega)]);rw[if_pos hk,h]
 have hR1:∀d,C6 s.ds k.id=some d->ET s k=⟨0,[d.fr,d.to,d.am,d.we,d.un,ND d.held]⟩:=fun d h=>by unfold ET;(iterate 11 rw[if_neg (by omega)]);rw[if_pos hk,h]
 have hS:Et s k=s:=by unfold Et;iterate 9 rw[if_neg (by omega)]
 have hstep:∀p,ET s k=p->Cr s k s p:=fun p h2=>by
  unfold Cr;rw[if_neg (by omega)];exact⟨hS.symm,h2.symm⟩
 have hD:MA s.ds k.id=(C6 s.ds k.id).getD d00:=rfl;refine Ay (fn:=f41) func41 U [.pointer (some ⟨bl,0,none⟩),.agg (BA k).toArray] U ?_;refine Ad (Br (BA k) (.agg _) U U H ?_);rintro b3 w - H;refine A4 U (Ae U (qA (DQ 262080 (α:=Nat) (fun z=>[(6,ptr z),(7,.bool (C6 s.ds k.id).isSome)]) (fun z w'=>Ctx w0 S0 w' ((z,Bl 118 (CS (MA s.ds k.id)))::(b3,Bl 25 (BA k))::(bl,Bl 73 [ptr ba,ptr bd,ptr br,.int .i64 s.day])::(br,Bl 135 arch)::(ba,Bl 129 [.slice a s.acs.length c])::(bd,Bl 132 (DU b s.nx))::(b,o)::ent a 108 full)) U ?_ ?_)))
 .skip
  refine Ot (.two [0,1,2,3,4,5] 6 (.one [7,8,9] 10 (.one [] 11 (.one [] 12 .stop))) 10 (.one [] 6 (.one [7,8,9] 11 (.one [] 12 .stop)))) (fun z=>z.heap[b3]?=some (Bl 25 (BA k))/\z.heap[bl]?=some (Bl 73 [ptr ba,ptr bd,ptr br,.int .i64 s.day])) Bq (⟨H.drew.get at0,H.drew.get at1⟩) ?_;refine IP U U U (BF U (Bg U (Ap FV U (B3 Hx U (fun _ hx=>(by rw[Aj hx.2];rfl)) ?_))));refine Ap FT U (B3 Bz U (fun _ hx=>(by rw[Aj hx.1];rfl)) ?_);refine AR ?_;replace H:=H.drew;refine⟨?_,?_⟩
  .skip
   refine Al qB (SJ _ (H.get at4) (H.get at5) I.M) U ?_;rintro v w ⟨rfl,hx15⟩;replace H:=H.call hx15;refine Ab (BU (by exact⟨H.get at0,H.get at1⟩) ?_);refine BS U U (DK U (Bv U U (Bv U U (AR (AU D4 H ?_)))));rintro b6 w - H;refine Ab (BU (by exact⟨H.get at1,H.get at2⟩) ?_);refine BS U U (AR (Bj BO U U U (by exact CW _) H at0 U ?_));rintro w H;refine Ab (BU (by exact⟨H.get at1,H.get at2⟩) ?_);refine BS U U (AR (Ai U (Ab (BU (by exact⟨H.get at1,H.get at2⟩) ?_))));refine Ej (Aa ?_);exact⟨b6,rfl,⟨rfl,rfl,trivial⟩,H⟩
  .skip
   refine AU D4 H ?_;rintro b6 w - H;refine Ab (BU (by exact⟨H.get at1,H.get at2⟩) ?_);refine BS U U (AR (Al qB (SJ _ (H.get at5) (H.get at6) I.M) U ?_));rintro v w ⟨rfl,hx15⟩;replace H:=H.call hx15;refine Ab (BU (by exact⟨H.get at1,H.get at2⟩) ?_);refine BS U U (DK U (Bv U U (Bv U U (AR (Bj BO U U U (by exact CW _) H at0 U ?_)))));rintro w H;refine Ab (BU (by exact⟨H.get at1,H.get at2⟩) ?_);refine BS U U (AR (Ai U (Ab (BU (by exact⟨H.get at1,H.get at2⟩) ?_))));refine Ej (Aa ?_);exact⟨b6,rfl,⟨rfl,rfl,trivial⟩,H⟩
 .rintro b6 j7 w H;refine Ao (Ad (Aw U (BE U (qA (An _ U ?_ ?_)))))
  .intro h1;replace h1:=B7 h1
   have hf:C6 s.ds k.id=none:=by cases hh:C6 s.ds k.id with|none=>rfl|some d=>rw[hh]at h1;cases h1
   refine Ad (A4 U (Ae U (qA (A7 (Av (BR (v1:=(.slice _ _ _)) (v2:=(.int _ _)) U U U U ?_))))));subst hS0;exact DM (P:=[_,_]) (m':=⟨bl,ba,bd,br,b,a,c,full,o,arch⟩) (s':=s) (l:=[]) (code:=11) I H (I5 _) (hstep _ (by rw[hR0 hf];rfl)) I.O I.M I.ok U U U U
  .intro h1;replace h1:=B9 h1
   obtain⟨d,hf⟩:∃d,C6 s.ds k.id=some d:=by cases hh:C6 s.ds k.id with|some d=>exact⟨d,rfl⟩|none=>rw[hh]at h1;cases h1
   rw[hD,hf]at H
   change Ctx w0 S0 w ((b6,Bl 118 (CS d))::(b3,Bl 25 (BA k))::(bl,Bl 73 [ptr ba,ptr bd,ptr br,.int .i64 s.day])::(br,Bl 135 arch)::(ba,Bl 129 [.slice a s.acs.length c])::(bd,Bl 132 (DU b s.nx))::(b,o)::ent a 108 full)at H
   refine Aq (Aa (Cq [([0,1,2,3,4,5,6,7,8,9,10,11],12),([],13),([14],15)] (fun z=>z.heap[b6]?=some (Bl 118 (CS d))) [] Bq (H.drew.get at0) ?_));refine AH U U (Ap Gw U (B3 Cd U (fun _ hx=>(by rw[Aj hx];rfl)) ?_));refine Ap He U (B3 Cd U (fun _ hx=>(by rw[Aj hx];rfl)) ?_);refine Ap Ez U (B3 Bw U (fun _ hx=>(by rw[Aj hx];rfl)) ?_);refine Ap Kn U (B3 Bw U (fun _ hx=>(by rw[Aj hx];rfl)) ?_);refine Ap Pa U (B3 Bw U (fun _ hx=>(by rw[Aj hx];rfl)) ?_);refine Ap Jg U (B3 Kl U (fun _ hx=>(by rw[Aj hx];rfl)) ?_);refine AR ?_;replace H:=H.drew;refine Al qB (Xh d.held _) U ?_;rintro v w ⟨rfl,rfl⟩;refine Ab (BM (H.get at0) (AH U U ?_));refine AR (D0 ([d.fr,d.to,d.am,d.we,d.un,ND d.held].map Dj) AV B2 E5 (Ctx.start _ []) ?_);rintro b33 w2 - H17;refine Ab (BM (H17.ext.to (H.get at0) (by simp)) ?_)
   refine AH U U (Ea U (AR (Ae U (Ab (BM (H17.ext.to (H.get at0) (by simp)) ?_)))));refine BG (A7 (BR (v1:=(.slice _ _ _)) (v2:=(.int _ _)) U U U U ?_));subst hS0;exact DM (P:=[_,_]) (m':=⟨bl,ba,bd,br,b,a,c,full,o,arch⟩) (s':=s) (l:=[d.fr,d.to,d.am,d.we,d.un,ND d.held]) (code:=0) I H (GM (n:=6) H17 U) (hstep _ (by rw[hR1 d hf];rfl)) I.O I.M I.ok U U U U
theorem MJ{α:Type}{enc:α->List Value}{s:Nat}{t:TypeId}{xs:List α}{w w':World}{v:Value}(F:Fresh w w' t s v (xs.flatMap enc))(hs:∀x∈xs,(enc x).length=s)(h0:0<s:=by decide):∃a c,v=.slice a xs.length c/\Rd w' a s enc xs/\(xs≠[]->w.heap.size<=(adr a).block)/\xs.length<=c/\Ext [] w w':=by
 obtain⟨a,n,c,f,rfl,O,hb⟩:=F.ex;obtain rfl:=O.numN hs h0;refine⟨a,c,rfl,OS.rd O (fun x hx=>(hb x hx).1) hs h0,fun hne=>?_,O.le,F.ext⟩;obtain⟨q,rfl⟩:=O.form (qbn.2 hne);exact(hb (q,Bl t f) (qab.2 U)).2
theorem Adp(l:List Int):∀v∈l.map G3,AZ v=true:=fun v hv=>by
 obtain⟨x,_,rfl⟩:=qag.1 hv;rfl
theorem YF(a:Option Addr)(n c:Nat)(xs:List Int)(w:World)(R:Rd w a 1 U1 xs)(hn:xs.length=n)(hm:n<=1000000000:=by omega):
  Ret prog 129 #[.slice a n c] w fun v w'=>Fresh w w' 23 1 v (xs.map G3):=by
 subst hn;obtain⟨w0,rfl,H⟩:=qE w;refine Ay (fn:=f129) func129 U [.slice a xs.length c] U (Ad (A4 U (qA (Ao (Ad (A2 U (Ja U Bh U (qA (An _ U ?_ ?_)))))))))
 .intro h1;have ha:a=none:=by simpa using h1
  subst ha
  have hxs:xs=[]:=by
   cases xs with
   |nil=>rfl
   |cons x xs=>obtain⟨b,o,h⟩:=R.some' (by simp);cases h
  subst hxs;refine Ad (A4 U (qA (A7 (Av (AD (v:=(.slice _ _ _)) U U U ?_)))));exact Fresh.nil H _ _
 .intro h1;refine Aq (Aa (Ad (GA Bh Bo H ?_)));rintro b5 w H O;refine A2 U (G9 U Bh Bh Bo Wm Pi U (xs.map G3) U U H O (by simp) (Adp xs) (Rd.app1 (f:=G3) (R.ext0 H.ext)) ?_);rintro a7 c7 full7 w H O;refine A4 U (qA (A7 (AD (v:=(.slice _ _ _)) U U U ?_)));exact H.fresh O
theorem YG(es:List Ed):(es.flatMap CJ).length=es.length*4:=by
 induction es with
 |nil=>rfl
 |cons e es ih =>
  rw[qby,qat,ih];show 4+es.length*4=(es.length+1)*4;omega
theorem YH(es:List Ed):∀v∈es.flatMap CJ,AZ v=true:=fun v hv=>by
 obtain⟨e,_,he⟩:=qed.1 hv;simp only[CJ,qae,qaq,or_false]at he
 rcases he with rfl|rfl|rfl|rfl <;> rfl
theorem YI(a:Option Addr)(n c:Nat)(es:List Ed)(w:World)(R:Rd w a 4 CJ es)(hn:es.length=n)(hm:n<=1000000000:=by omega):
  Ret prog 130 #[.slice a n c] w fun v w'=>Fresh w w' 158 4 v (es.flatMap CJ):=by
 subst hn;obtain⟨w0,rfl,H⟩:=qE w;refine Ay (fn:=f130) func130 U [.slice a es.length c] U (Ad (A4 U (qA (Ao (Ad (A2 U (Ja U C8 U (qA (An _ U ?_ ?_)))))))))
 .intro h1;have ha:a=none:=by simpa using h1
  subst ha
  have hxs:es=[]:=by
   cases es with
   |nil=>rfl
   |cons x xs=>obtain⟨b,o,h⟩:=R.some' (by simp);cases h
  subst hxs;refine Ad (A4 U (qA (A7 (Av (AD (v:=(.slice _ _ _)) U U U ?_)))));exact Fresh.nil H _ _
 .intro h1;refine Aq (Aa (Ad (GA C8 C9 H ?_)));rintro b5 w H O;refine A2 U (G9 U C8 C8 C9 Vi FZ U (es.flatMap CJ) U U H O (YG es) (YH es) ((R.ext0 H.ext).app (fun _ _=>rfl) (by omega)) ?_);rintro a7 c7 full7 w H O;refine A4 U (qA (A7 (AD (v:=(.slice _ _ _)) U U U ?_)));exact H.fresh O
theorem Xi(r:Rnd)(q:RSl)(w:World)(RA:RAt w r q)(hr:RBnd r):Ret prog 101 #[.agg (B0 r q).toArray] w fun v w'=>v=.bool (NM r)/\Ext [] w w':=by
 obtain⟨w0,rfl,H⟩:=qE w;obtain⟨ck,hck⟩:=qD (FH r.N r.es r.fl r.pot);have hmr:NM r=(ck && (decide (r.ids.length<=64) && decide (0<=r.day))):=by unfold NM;rw[<-hck]
 refine Ay (fn:=f101) func101 U [.agg (B0 r q).toArray] U (Ad (Br (B0 r q) (.agg _) U U H ?_));rintro b1 w - H;refine Ai U (qA (Ad (Ah E0 U (BQ _ C7 Cp U U ((Ca (b:=b1) (t:=127) (l:=B0 r q) (H.get at0) 4 [.int .i64 r.N,.slice q.aE r.es.length q.cE] U)) ?_))));refine Ah Dq U (BQ _ OX Kr U U ((Ca (b:=b1) (t:=127) (l:=B0 r q) (H.get at0) 6 [.slice q.aF r.fl.length q.cF,.slice q.aP r.pot.length q.cP] U)) ?_);refine Al qB (TK r.N q.aE q.aF q.aP _ q.cE _ q.cF _ q.cP r.es r.fl r.pot _ (RA.E.ext0 H.ext) U hr.N (RA.F.ext0 H.ext) U (by have:=hr.fl;omega) (RA.P.ext0 H.ext) U (by have:=hr.pot;omega)) U ?_;rintro v w ⟨rfl,hx14⟩;rw[<-hck];replace H:=H.call hx14;refine Aw U (AK 8 U ?_ ?_)
 .intro h1;refine Ah Eh U (AB FE U H at0 U (Ba Bh U (Kc U U (A6 U (.bool _) U (Aw U (AK 14 U ?_ ?_))))))
  .intro h2;replace h2:=AM h2;refine Ah Jh U (AB Bw U H at0 U (CG U U (A6 U (.bool _) U (Ai U (qA (A7 (AD (v:=(.bool _)) U U U ?_)))))));exact⟨qaa Value.bool (by rw[hmr,qad];simp_all;try omega),H.ext⟩
  .intro h3;replace h3:=AN h3;refine Ag U (Ag U (Ag U (A9 U (.bool _) U (Ai U (qA (A7 (AD (v:=(.bool _)) U U U ?_)))))));exact⟨qaa Value.bool (by rw[hmr,qad];simp_all;try omega),H.ext⟩
 .intro h4;refine Ag U (Ag U (Ag U (Ag U (A9 U (.bool _) U (Aw U (Ag U (Ag U (Ag U (A9 U (.bool _) U ?_)))))))));refine Ai U (qA (A7 (AD (v:=(.bool _)) U U U ?_)));exact⟨qaa Value.bool (by rw[hmr,qad];simp_all;try omega),H.ext⟩
theorem SW(r:Rnd)(q:RSl)(w:World)(RA:RAt w r q)(hr:RBnd r):Ret prog 93 #[.agg (B0 r q).toArray] w fun v w'=>Ext [] w w'/\∃q',v=.agg (B0 r q').toArray/\RAt w' r q'/\ROff q' r (fun x=>x<w.heap.size):=by
 obtain⟨w0,rfl,H⟩:=qE w;have b1':=hr.ids;have b2':=hr.es;have b3':=hr.fl;have b4':=hr.pot;refine Ay (fn:=f93) func93 U [.agg (B0 r q).toArray] U (Ad (Br (B0 r q) (.agg _) U U H ?_));rintro b1 w - H;refine AU Fi H ?_;rintro b2 w - H;refine qA (Cq [([0,1,3,4,5],2),([7],6),([],8),([9,10],11)] (fun z=>z.heap[b1]?=some (Bl 127 (B0 r q))) [8,11] Bq (H.drew.get at1) ?_);refine AH U U (Ap Eh U (B3 FE U (fun _ hx=>(by rw[Aj hx];rfl)) ?_));refine Ap E0 U (Ap CE U (B3 D7 U (fun _ hx=>(by rw[Aj hx];rfl)) ?_));refine AR ?_;replace H:=H.drew;refine Al qB (YF _ _ _ r.ids _ (RA.I.ext0 H.ext) U) U ?_;rintro v w F;obtain⟨a5,n5,c5,f5,rfl,O5,hb5⟩:=F.ex;obtain rfl:=O5.num;replace H:Ctx w0 [] w ((b2,Bl 127 rnd0)::(b1,Bl 127 (B0 r q))::ent a5 23 f5):=H.callEnt F.ext hb5 FY
 refine Ab (BM (H.get at1) (AH U U ?_));refine Ap Eh U (AR (Al qB (YI _ _ _ r.es _ (RA.E.ext0 H.ext) U) U ?_));rintro v w F;obtain⟨a9,n9,c9,f9,rfl,O9,hb9⟩:=F.ex;obtain rfl:=O9.numN (fun _ _=>rfl) (by decide);replace H:Ctx w0 [] w ((b2,Bl 127 rnd0)::(b1,Bl 127 (B0 r q))::(ent a5 23 f5++ent a9 158 f9)):=H.callEnt F.ext hb9 FY;refine Ab (BM (H.get at1) (AH U U ?_));refine AR (Ct (.slice _ _ _) Aag U U U H at1 (by(simp;done)) ?_);rintro w H;refine Ab (B5 U (AH U U ?_));refine Ap E0 U (Ap CE U (AR (Ct (.slice _ _ _) Aah U U U H at1 (by(simp;done)) ?_)));rintro w H;refine Ab (B5 U (BG ?_))
 change Ctx w0 [] w ((b2,Bl 127 rnd0)::(b1,Bl 127 (B0 r ⟨a5,c5,a9,c9,q.aF,q.cF,q.aP,q.cP⟩))::(ent a5 23 f5++ent a9 158 f9))at H
 refine Cq [([0,1,2,4,5,6],3),([],7),([8,9],10)] (fun z=>z.heap[b1]?=some (Bl 127 (B0 r ⟨a5,c5,a9,c9,q.aF,q.cF,q.aP,q.cP⟩))) [10] Bq (H.drew.get at1) ?_;refine AH U U (Ap Dq U (Ap EU U (B3 BN U (fun _ hx=>(by rw[Aj hx];rfl)) ?_)));refine Ap Dq U (Ap FK U (B3 BN U (fun _ hx=>(by rw[Aj hx];rfl)) ?_));refine AR ?_;replace H:=H.drew;refine Al qB (Nn _ _ _ r.fl _ (RA.F.ext0 H.ext) U) U ?_;rintro v w F;obtain⟨a6,n6,c6,f6,rfl,O6,hb6⟩:=F.ex;obtain rfl:=O6.num;replace H:Ctx w0 [] w ((b2,Bl 127 rnd0)::(b1,Bl 127 (B0 r ⟨a5,c5,a9,c9,q.aF,q.cF,q.aP,q.cP⟩))::(ent a5 23 f5++ent a9 158 f9++ent a6 2 f6)):=H.callEnt F.ext hb6 FY;refine Ab (BM (H.get at1) (AH U U ?_));refine AR (Al qB (Nn _ _ _ r.pot _ (RA.P.ext0 H.ext) U) U ?_);rintro v w F;obtain⟨a7,n7,c7,f7,rfl,O7,hb7⟩:=F.ex;obtain rfl:=O7.num
 replace H:Ctx w0 [] w ((b2,Bl 127 rnd0)::(b1,Bl 127 (B0 r ⟨a5,c5,a9,c9,q.aF,q.cF,q.aP,q.cP⟩))::(ent a5 23 f5++ent a9 158 f9++ent a6 2 f6++ent a7 2 f7)):=H.callEnt F.ext hb7 FY;refine Ab (BM (H.get at1) (AH U U ?_));refine OJ [.slice a6 r.fl.length c6,.slice a7 r.pot.length c7] U Aaa So (Ap Dq U (AR (HG U Kr U U U (by simp[AZ]) H at1 (show 0+6+2<=8 by decide) ?_)));rintro w H;refine Ab (B5 U (BG ?_))
 change Ctx w0 [] w ((b2,Bl 127 rnd0)::(b1,Bl 127 (B0 r ⟨a5,c5,a9,c9,a6,c6,a7,c7⟩))::(ent a5 23 f5++ent a9 158 f9++ent a6 2 f6++ent a7 2 f7))at H
 refine Ad (Cj E7 C1 U H at1 U (Bj C1 U U U (by simp[AZ]) H at0 U ?_));rintro w H;refine qA (A7 (Mg U U U E7 C1 H at0 U ?_));have hm:∀x,x∈ent a5 23 f5++ent a9 158 f9++ent a6 2 f6++ent a7 2 f7->w.heap[x.1]?=some x.2/\w0.heap.size<=x.1:=fun x hx=>⟨H.blk x (qal [_,_] hx),(H.own x (qal [_,_] hx)).elim (fun h=>by cases h) id⟩
 have hoff:∀{t:TypeId} {a:Option Addr} {n c s:Nat} {f l:List Value},OS a n c s f l->(∀x∈ent a t f,w0.heap.size<=x.1)->0<n->¬(adr a).block<w0.heap.size:=fun{t a n c s f l} O h hn=>by
  obtain⟨q,rfl⟩:=O.form hn;have:=h (q,Bl t f) (qab.2 rfl);exact Nat.not_lt.2 this
 have m5:∀x∈ent a5 23 f5,_:=fun x hx=>hm x (qao _ (qao _ (qao _ hx)));have m9:∀x∈ent a9 158 f9,_:=fun x hx=>hm x (qao _ (qao _ (qal _ hx)));have m6:∀x∈ent a6 2 f6,_:=fun x hx=>hm x (qao _ (qal _ hx));have m7:∀x∈ent a7 2 f7,_:=fun x hx=>hm x (qal _ hx)
 exact⟨H.ext,⟨a5,c5,a9,c9,a6,c6,a7,c7⟩,rfl,⟨O5.rd1 fun x hx=>(m5 x hx).1,OS.rd O9 (fun x hx=>(m9 x hx).1) (fun _ _=>rfl) (by decide),O6.rd1 fun x hx=>(m6 x hx).1,O7.rd1 fun x hx=>(m7 x hx).1,O6.le⟩,
  ⟨fun h=>hoff O5 (fun x hx=>(m5 x hx).2) (qbn.2 h),fun h=>hoff O9 (fun x hx=>(m9 x hx).2) (qbn.2 h),fun h=>hoff O6 (fun x hx=>(m6 x hx).2) (qbn.2 h),fun h=>hoff O7 (fun x hx=>(m7 x hx).2) (qbn.2 h)⟩⟩
theorem SX:∀{vs l:List Value} {i j:Nat},i+vs.length<=j->(over l i vs)[j]?=l[j]?
 | [],_,_,_,_=>rfl
 |v::vs,l,i,j,h=>by
  have h1:i+1+vs.length<=j:=by rw[qa8]at h;omega
  show(over (l.set i v) (i+1) vs)[j]?=_;rw[SX h1,qbo (by omega)]
theorem SY:∀{vs l:List Value} {i j:Nat},j<i->(over l i vs)[j]?=l[j]?
 | [],_,_,_,_=>rfl
 |v::vs,l,i,j,h=>by
  show(over (l.set i v) (i+1) vs)[j]?=_;rw[SY (by omega),qbo (by omega)]
theorem Xj:∀{vs l:List Value} {i j:Nat},i+vs.length<=l.length->j<vs.length->(over l i vs)[i+j]?=vs[j]?
 | [],_,_,_,_,h=>by cases h
 |v::vs,l,i,0,h,_=>by
  show(over (l.set i v) (i+1) vs)[i+0]?=_;rw[SY (by omega),qdr,qc1 (by rw[qa8]at h;omega)];rfl
 |v::vs,l,i,j+1,h,hj=>by
  show(over (l.set i v) (i+1) vs)[i+(j+1)]?=vs[j]?;rw[show i+(j+1)=i+1+j by omega];exact Xj (by rw[qb6];rw[qa8]at h;omega) (by rw[qa8]at hj;omega)
def Jw(arch:List Value)(n:Nat)(r:Rnd)(q:RSl):List Value:=((over arch ((r.no % 4).toNat*8) (B0 r q)).set 32 (.int .u64 ((min (n+1) 4:Nat):Int))).set 33 (.int .u64 r.no)
theorem Agj{w:World}{b1 b2:Nat}{o1 o2:Obj}(h1:w.heap[b1]?=some o1)(h2:w.heap[b2]?=some o2)(hne:b1≠b2:=by omega):Ctx w [b1,b2] w [(b1,o1),(b2,o2)] :=
 ⟨Ext.refl _ _,fun y hy=>by
  simp only[qae,qaq,or_false]at hy
  rcases hy with rfl|rfl
  .exact h1
  .exact h2,by simp only[qbf,qab,forall_eq,qaq,false_implies,implies_true,List.Pairwise.nil,and_true];exact hne,fun y hy=>by
  simp only[qae,qaq,or_false]at hy
  rcases hy with rfl|rfl
  .exact .inl (qai ..)
  .exact .inl (qah _ (qai ..))⟩
theorem Xk{br n:Nat}{arch:List Value}(r:Rnd)(q:RSl)(w:World)(RA:RAt w r q)(hr:RBnd r)(h0:w.heap[br]?=some (Bl 135 arch))(hl:arch.length=34)(hn:arch[32]?=some (.int .u64 n))(hn4:n<=4)(hno:0<=r.no/\r.no<=4611686018427387904) :
  Ret prog 102 #[ptr br,.agg (B0 r q).toArray] w fun _ w'=>∃q',Ctx w [br] w' [(br,Bl 135 (Jw arch n r q'))]/\RAt w' r q'/\ROff q' r (fun x=>x<w.heap.size):=by
 obtain⟨w0,rfl,H⟩:=qE w;refine Ay (fn:=f102) func102 U [.pointer (some ⟨br,0,none⟩),.agg (B0 r q).toArray] U ?_;refine Ad (Br (B0 r q) (.agg _) U U H ?_);rintro b3 w - H;refine qA ?_;have h3:0<=r.no % 4/\r.no % 4<4:=⟨qc4 _ (by decide),qc5 _ (by decide)⟩;refine Cq [([0,1,2,3,4,6,7],5),([8],9)] (fun z=>z.heap[b3]?=some (Bl 127 (B0 r q))) [9] Bq (H.drew.get at0) (AH U U ?_);refine BF U (Ap Ih U (B3 Bz U (fun _ hx=>(by rw[Aj hx];rfl)) ?_));refine Ag0 U U U ?_;refine Gh _ E7 C1 U U (fun _ hx=>(Ca (b:=b3) (t:=127) (l:=B0 r q) hx 0 (B0 r q) rfl)) (Bg U (Ap Pb U (AR ?_)));replace H:=H.drew;have hx3:=H.ext;have hlb3:=AY (H.get at0);have hb3:w0.heap.size<=b3:=(H.own _ (qai ..)).elim (fun h=>by cases h) id;have hlbr:=AY h0
 refine Al qB (SW r q _ (RA.ext0 H.ext) hr) U ?_;rintro v w ⟨hx9,q',rfl,RA',hoff⟩;obtain⟨w9,rfl⟩:=qD w;have hE9:=hx3.trans hx9;replace H:Ctx w9 [br,b3] w9 [(br,Bl 135 arch),(b3,Bl 127 (B0 r q))]:=Agj (hE9.to h0 (by simp)) (hx9.to (H.get at0) (by simp));refine Ab (BM (H.get at1) (AH U U ?_));refine OH U Vg C1 U U (AR (HG U C1 U U U (by simp[AZ]) H at0 (by omega) ?_));rintro w H;refine Ab (B5 U (BG ?_));rw[show 0+0+(r.no % 4).toNat*8=(r.no % 4).toNat*8 by omega]at H;obtain⟨A,hA⟩:=qD (over arch ((r.no % 4).toNat*8) (B0 r q'));rw[<-hA]at H;have hAl:A.length=34:=by rw[hA,DB];exact hl
 have hAn:A[32]?=some (.int .u64 n):=by rw[hA,SX (by show(r.no % 4).toNat*8+8<=32;omega)];exact hn
 refine Fh [([0,1,2,3,4,8,9],5),([6,7,10,11],12),([13,14],15)] (fun z=>z.heap[b3]?=some (Bl 127 (B0 r q))) [] Bq (H.drew.get at1) (AH U U ?_);refine BF U (BF U (BF U (Bg U (Ap Ji U (Ap Ih U (B3 Bz U (fun _ hx=>(by rw[Aj hx];rfl)) ?_))))));refine AR ?_;replace H:=H.drew;refine Bc Bz U ((by rw[Aj (H.get at0)];exact hAn)) ?_;refine Ab (BM (H.get at1) (AH U U ?_));refine MY U U U (Zi U U U ?_);refine Bg U (Ap Ji U (AR (Ct (.int _ _) Bo U U U H at0 (by(simp;omega)) ?_)));rintro w H;refine Ab (BM (H.get at1) (AH U U ?_));refine Bg U (Ap Fu U (AR (Ct (.int _ _) Bo U U U H at0 (by(simp;omega)) ?_)));rintro w H;refine Ab (BM (H.get at1) (BG (CO U U ?_)));have hs3:=hx3.size;refine⟨q',?_,RA'.ext H.ext (hoff.mono fun x hx=>?_),hoff.mono fun x hx=>qaw hx hs3⟩
 .have h9:Jw arch n r q'=(A.set (0+32) (.int .u64 (min ((n:Int)+1) 4))).set (0+33) (.int .u64 r.no):=by
   unfold Jw;rw[<-hA,show((min (n+1) 4:Nat):Int)=min ((n:Int)+1) 4 by omega]
  rw[h9]
  exact⟨(hE9.mono (S':=[br]) (by simp)).then H.ext (fun x hx=>by
   simp only[qae,qaq,or_false]at hx
   rcases hx with rfl|rfl
   .exact .inl (qab.2 U)
   .exact .inr hb3),fun y hy=>by rw[qab.1 hy];exact H.get at0,by simp,fun y hy=>by rw[qab.1 hy];exact .inl (qab.2 rfl)⟩
 .simp only[qae,qaq,or_false]at hx
  rcases hx with rfl|rfl
  .exact qaw hlbr hs3
  .exact hlb3
theorem RAt.no{w:World}{r:Rnd}{q:RSl}(h:RAt w r q)(k d:Int):RAt w { r with no:=k,day:=d } q:=⟨h.I,h.E,h.F,h.P,h.fc⟩
theorem ROff.no{r:Rnd}{q:RSl}{S:Nat->Prop}(h:ROff q r S)(k d:Int):ROff q { r with no:=k,day:=d } S:=⟨h.I,h.E,h.F,h.P⟩
theorem RBnd.no{r:Rnd}(h:RBnd r)(k d:Int):RBnd { r with no:=k,day:=d }:=⟨h.N,h.es,h.ids,h.fl,h.pot⟩
theorem Agk{br n:Nat}{no:Int}{arch:List Value}(r:Rnd)(q:RSl)(w:World)(RA:RAt w r q)(hr:RBnd r)(h0:w.heap[br]?=some (Bl 135 arch))(hl:arch.length=34)(hn:arch[32]?=some (.int .u64 n))(hno:arch[33]?=some (.int .u64 no))(hn4:n<=4)(hb:0<=no/\no<4611686018427387904)(hm:NM r=true) :
  Ret prog 83 #[ptr br,.agg (B0 r q).toArray] w fun v w'=>v=.tuple #[.int .u64 (no+1),.int .i64 0]/\∃q',Ctx w [br] w' [(br,Bl 135 (Jw arch n { r with no:=no+1 } q'))]/\RAt w' { r with no:=no+1 } q'/\ROff q' { r with no:=no+1 } (fun x=>x<w.heap.size):=by
 obtain⟨w0,rfl,H⟩:=qE w;have hlbr:=AY h0;refine Ay (fn:=f83) func83 U [.pointer (some ⟨br,0,none⟩),.agg (B0 r q).toArray] U ?_;refine Ad (Br (B0 r q) (.agg _) U U H ?_);rintro b3 w - H;refine Ae U (Ae U (qA (Ao (A1 (Ad (Ax U (Cu QC U ?_)))))));refine Ai U (qA (An _ U ?_ ?_))
 .intro h1;cases h1
 .intro h1;refine Ad (Cj E7 C1 U H at0 U (Al qB (Xi r q _ (RA.ext0 H.ext) hr) U ?_));rintro v w ⟨rfl,hx11⟩;replace H:=H.call hx11;rw[hm];refine BE U (Ai U (qA (An _ U ?_ ?_)))
  .intro h2;replace h2:=B7 h2;cases h2
  .intro h2;replace h2:=B9 h2;refine Ad (Ax U (AE U (Ah Fu U (Bc Bz U ((by rw[Aj (H.ext.to h0 (by simp))];exact hno)) ?_))));refine CG U U (Ai U (qA (An _ U ?_ ?_)))
   .intro h3;replace h3:=AM h3;omega
   .intro h3;replace h3:=AN h3;refine Aq (A8 (Aa (Ad (Ax U (AE U (Ah Fu U (Bc Bz U ((by rw[Aj (H.ext.to h0 (by simp))];exact hno)) ?_)))))));refine Ee U U (Ah Ih U (Ct (.int _ _) Bo U U U H at0 (by(simp;done)) ?_));rintro w H;refine qA (Ad (Ax U (Cj E7 C1 U H at0 U ?_)));have hb3:w0.heap.size<=b3:=(H.own _ (qai ..)).elim (fun h=>by cases h) id;refine Al qB (Xk (n:=n) (arch:=arch) { r with no:=no+1 } q _ ((RA.ext0 H.ext).no (no+1) r.day) (hr.no (no+1) r.day) (H.ext.to h0 (by simp)) hl hn hn4 (by dsimp only;omega)) U ?_;rintro v w ⟨q',H2,RA',hoff⟩;have hx27:=H.ext;have hl27:=AY (H.get at0);have h27:=H2.ext.to (H.get at0) (by rw[qab];omega);have H:=Ctx.start1 h27;refine qA (Ad (Ah Ih U (AB Bz U H at0 U (Ae U (Ae U (qA (A7 (BR (v1:=(.int _ _)) (v2:=(.int _ _)) U U U U ?_))))))))
    have hsz:=hx27.size;exact⟨rfl,q',⟨(hx27.mono (by simp)).trans H2.ext,H2.blk,H2.nd,fun y hy=>by rw[qab.1 hy];exact .inl (qab.2 rfl)⟩,RA',hoff.mono fun x hx=>qaw hx hsz⟩
theorem Adq{br:Nat}{no:Int}{arch:List Value}(w:World)(h0:w.heap[br]?=some (Bl 135 arch))(hno:arch[33]?=some (.int .u64 no)) :
  Ret prog 50 #[ptr br] w fun v w'=>v=.int .u64 no/\Ext [] w w':=by
 obtain⟨w0,rfl,H⟩:=qE w;refine Ay (fn:=f50) func50 U [.pointer (some ⟨br,0,none⟩)] U ?_;refine Ad (Ae U (qA (Ao (Ad (Ax U (Cu QC U ?_))))));refine qA (An _ U ?_ ?_)
 .intro h1;cases h1
 .intro h1;refine Aq (Aa (Ad (Ax U (AE U (Ah Fu U (Bc Bz U ((by rw[Aj (H.ext.to h0 (by simp))];exact hno)) ?_))))));refine Ae U (qA (A7 (AD (v:=(.int _ _)) U U U ?_)));exact⟨rfl,H.ext⟩
theorem PJ{P:Program}{ops rest:List Oper}{e:Env}{dst:Option Tmp}{ty:TypeId}{pos:String}{af:Array Edge}{g:Option (Nat × Bool)}{C:World->Prop}{K:Env->Prop}{t t2:TypeId}{x:Operand}{a:Option Addr}{el:TypeId}(hg:AS ⟨dst,.binOp .eql t x (.const (.pointer none)) t2,ty,pos,af,g⟩ ops e=true)(hu:P.underlying t=some (.pointer el))(hx:ev e x=.pointer a)(h:Wq P ops C K rest (put e dst (.bool a.isNone))):Wq P ops C K (⟨dst,.binOp .eql t x (.const (.pointer none)) t2,ty,pos,af,g⟩::rest) e :=
 Ex hg (fun w _=>by
  have hq:eqGuard .eql t x (.const (.pointer none)) (.pointer a) (.pointer none)=pure ():=rfl;have he:ev e (.const (.pointer none))=.pointer none:=rfl
  simp only[execOp,hx,he,hq,Sem.run_bind,Sem.run_pure,Result.andThen_ok,Tq hu]) h
theorem U6{br n:Nat}{no k:Int}{arch:List Value}(w:World)(h0:w.heap[br]?=some (Bl 135 arch))(hn:arch[32]?=some (.int .u64 n))(hno:arch[33]?=some (.int .u64 no))(hb:0<=no/\no<=4611686018427387904)(hk0:0<=k/\k<=18446744073709551615)(hk:k<=no->(n:Int)<=no - k) :
  Ret prog 88 #[ptr br,.int .u64 k] w fun v w'=>v=.tuple #[.agg (rnd0).toArray,.bool false]/\Ext [] w w':=by
 obtain⟨w0,rfl,H⟩:=qE w;refine Ay (fn:=f88) func88 U [.pointer (some ⟨br,0,none⟩),.int .u64 k] U ?_;refine Ad (AU Fi H ?_);rintro b4 w - H;refine Ai U (qA (Ao ?_))
 by_cases hkn:no<k
 .skip
  refine Dw (fun x=>x=_) Bq U (B6 U (PJ U QC U ?_));refine CZ U (AX U (B6 U (Bb U (A5 Fu U (BX Bz U (by rintro _ rfl;exact((by rw[Aj (H.drew.ext.to h0 (by simp))];exact hno))) ?_)))));refine Qy U U U ?_;rw[qar hkn];refine HK U (.bool _) U (CZ U (A3 U (A3 U (A3 U (A3 U (A3 U (A3 U (A3 U (A3 U ?_)))))))));refine A3 U (A3 U (A3 U (IB U (.bool _) U (BT ?_))));rintro _ rfl;replace H:=H.drew;refine DH U (Ad (Bx [.int .u64 0,.int .i64 0,.bool false,.slice none 0 0,.int .i64 0,.slice none 0 0,.slice none 0 0,.slice none 0 0] Sk Fi ?_));refine Bj C1 U U U (by simp[AZ]) H at0 U ?_;rintro w H;refine Ai U (qA (A7 (Av (IC U U U E7 C1 H at0 U (show _=(.bool _)from rfl) ?_))));exact⟨rfl,H.ext⟩
 .skip
  refine Dw (fun x=>x=_) Bq U (B6 U (PJ U QC U ?_));refine CZ U (AX U (B6 U (Bb U (A5 Fu U (BX Bz U (by rintro _ rfl;exact((by rw[Aj (H.drew.ext.to h0 (by simp))];exact hno))) ?_)))));refine Qy U U U ?_;rw[qbb hkn];refine HK U (.bool _) U (CZ U (B6 U (Bb U (A5 Fu U (BX Bz U (by rintro _ rfl;exact((by rw[Aj (H.drew.ext.to h0 (by simp))];exact hno))) ?_)))));refine AX U (Qz U U U ?_);refine B6 U (Bb U (A5 Ji U (BX Bz U (by rintro _ rfl;exact((by rw[Aj (H.drew.ext.to h0 (by simp))];exact hn))) ?_)));refine Agw U U U ?_;rw[qar (show(n:Int)<=no - k from hk (by omega))];refine HK U (.bool _) U (BT ?_);rintro _ rfl;replace H:=H.drew
  refine DH U (Ad (Bx [.int .u64 0,.int .i64 0,.bool false,.slice none 0 0,.int .i64 0,.slice none 0 0,.slice none 0 0,.slice none 0 0] Sk Fi ?_));refine Bj C1 U U U (by simp[AZ]) H at0 U ?_;rintro w H;refine Ai U (qA (A7 (Av (IC U U U E7 C1 H at0 U (show _=(.bool _)from rfl) ?_))));exact⟨rfl,H.ext⟩
theorem Rt{br n:Nat}{no k:Int}{arch:List Value}{r:Rnd}{q:RSl}(w:World)(h0:w.heap[br]?=some (Bl 135 arch))(_:arch.length=34)(hn:arch[32]?=some (.int .u64 n))(hno:arch[33]?=some (.int .u64 no))(hb:0<=no/\no<=4611686018427387904)(hk0:0<=k/\k<=18446744073709551615)(hk:k<=no/\no - k<n)(hc:∀j v,(B0 r q)[j]?=some v->arch[(k % 4).toNat*8+j]?=some v)(RA:RAt w r q)(hr:RBnd r) :
  Ret prog 88 #[ptr br,.int .u64 k] w fun v w'=>Ext [] w w'/\∃q',v=.tuple #[.agg (B0 r q').toArray,.bool true]/\RAt w' r q'/\ROff q' r (fun x=>x<w.heap.size):=by
 obtain⟨w0,rfl,H⟩:=qE w;have h3:0<=k % 4/\k % 4<4:=⟨qc4 _ (by decide),qc5 _ (by decide)⟩;refine Ay (fn:=f88) func88 U [.pointer (some ⟨br,0,none⟩),.int .u64 k] U ?_;refine Ad (AU Fi H ?_);rintro b4 w - H;refine Ai U (qA (Ao (Dw (fun x=>x=_) Bq U ?_)));refine B6 U (PJ U QC U ?_);refine CZ U (AX U (B6 U (Bb U (A5 Fu U (BX Bz U (by rintro _ rfl;exact((by rw[Aj (H.drew.ext.to h0 (by simp))];exact hno))) ?_)))));refine Qy U U U ?_;rw[qbb (show ¬no<k by omega)];refine HK U (.bool _) U (CZ U (B6 U (Bb U (A5 Fu U (BX Bz U (by rintro _ rfl;exact((by rw[Aj (H.drew.ext.to h0 (by simp))];exact hno))) ?_)))));refine AX U (Qz U U U ?_)
 refine B6 U (Bb U (A5 Ji U (BX Bz U (by rintro _ rfl;exact((by rw[Aj (H.drew.ext.to h0 (by simp))];exact hn))) ?_)));refine Agw U U U ?_;rw[qbb (show ¬(n:Int)<=no - k by omega)];refine HK U (.bool _) U (BT ?_);rintro _ rfl;replace H:=H.drew;refine F2 U (Aq (Aa (Ad (Ax U (Af U (Ah0 U U U ?_))))));refine AE U (Ah Pb U (Nz U Vg C1 U U ?_));refine BQ _ E7 C1 U U ((fun j v hv=>by rw[Aj (H.ext.to h0 (by simp)),show 0+0+(k % 4).toNat*8+j=(k % 4).toNat*8+j by omega];exact hc j v hv)) ?_;have hx3:=H.ext;have hl4:=AY (H.get at0);refine Al qB (SW r q _ (RA.ext0 H.ext) hr) U ?_;rintro v w ⟨hx9,q',rfl,RA',hoff⟩;obtain⟨w9,rfl⟩:=qD w;have h4:=hx9.to (H.get at0) (by simp);have hb4:w0.heap.size<=b4:=(H.own _ (qai ..)).elim (fun h=>by cases h) id;replace H:=Ctx.start1 h4
 refine Bj C1 U U U (by simp[AZ]) H at0 U ?_;rintro w H;refine Ai U (qA (A7 (IC U U U E7 C1 H at0 U (show _=(.bool _)from rfl) ?_)));have hs3:=hx3.size;refine⟨(hx3.trans hx9).then H.ext (fun x hx => .inr (by rw[qab.1 hx];exact hb4)),q',rfl,RA'.ext H.ext (hoff.mono fun x hx=>by rw[qab.1 hx];exact hl4),hoff.mono fun x hx=>qaw hx hs3⟩
theorem Adr{s:Ld}(h:s.Ok){r x:Rnd}(hx:x∈Ju s.rn r):x=r\/(x∈s.rn/\s.no - 2<=x.no/\x.no<=s.no):=by
 obtain⟨i,hi⟩:=qbs.1 hx;unfold Ju at hi;rw[qcr]at hi
 rcases qap (s.rn.length - 3+i) s.rn.length with h5|h5
 .rw[qcb h5]at hi;have h1:=h.nos _ x hi;exact .inr ⟨qac hi,by omega,by omega⟩
 .rw[qcf h5]at hi;left
  have h6:s.rn.length - 3+i - s.rn.length=0:=by
   have:=C0 hi;rw[qb4]at this;omega
  rw[h6]at hi;cases hi;rfl
theorem Xl(arch:List Value)(n:Nat)(r:Rnd)(q:RSl):(Jw arch n r q).length=arch.length:=by
 unfold Jw;rw[qb6,qb6,DB]
theorem Ahw{arch:List Value}(h:arch.length=34)(n:Nat)(r:Rnd)(q:RSl):(Jw arch n r q)[32]?=some (.int .u64 ((min (n+1) 4:Nat):Int)):=by
 unfold Jw;rw[qbo (by decide),qc1 (by rw[DB];omega)]
theorem All{arch:List Value}(h:arch.length=34)(n:Nat)(r:Rnd)(q:RSl):(Jw arch n r q)[33]?=some (.int .u64 r.no):=by
 unfold Jw;rw[qc1 (by rw[qb6,DB];omega)]
theorem Ads{arch:List Value}(h:arch.length=34)(n:Nat){r:Rnd}{q:RSl}{j:Nat}{v:Value}(hj:(B0 r q)[j]?=some v):(Jw arch n r q)[(r.no % 4).toNat*8+j]?=some v:=by
 have hlt:j<8:=C0 hj;have h3:0<=r.no % 4/\r.no % 4<4:=⟨qc4 _ (by decide),qc5 _ (by decide)⟩;unfold Jw;rw[qbo (by omega),qbo (by omega),Xj (by rw[h];show _+8<=34;omega) hlt];exact hj
theorem Xm{arch:List Value}(n:Nat){r x:Rnd}{q qx:RSl}{j:Nat}{v:Value}(hne:x.no % 4≠r.no % 4)(hj:(B0 x qx)[j]?=some v)(hc:arch[(x.no % 4).toNat*8+j]?=some v):(Jw arch n r q)[(x.no % 4).toNat*8+j]?=some v:=by
 have hlt:j<8:=C0 hj;have h3:0<=r.no % 4/\r.no % 4<4:=⟨qc4 _ (by decide),qc5 _ (by decide)⟩;have h4:0<=x.no % 4/\x.no % 4<4:=⟨qc4 _ (by decide),qc5 _ (by decide)⟩;unfold Jw;rw[qbo (by omega),qbo (by omega)]
 rcases Int.lt_or_gt_of_ne hne with h|h
 .rw[SY (by omega)];exact hc
 .rw[SX (by show(r.no % 4).toNat*8+8<=_;omega)];exact hc
theorem Od{r:Rnd}(h:NM r=true):RBnd r:=by
 unfold NM at h;simp only[qaf,qas]at h;obtain⟨hc,hi,-⟩:=h;obtain⟨h1,h2,-⟩:=Gq.1 hc;obtain⟨g1,g2,g3,-⟩:=CM (Cx (EX h1).1).2.1;have g4:=(Cx (EX h1).1).1;have g5:=(LI h2).1;exact⟨⟨by omega,by omega⟩,by omega,by omega,by omega,by omega⟩
theorem YJ{s:Ld}(h:s.Ok){k:Int}{r:Rnd}(hg:SR s k=some r):(k<=s.no/\s.no - k<s.rn.length)/\r∈s.rn/\r.no=k:=by
 unfold SR at hg
 by_cases h1:k<=s.no/\s.no - k<s.rn.length
 .rw[if_pos h1]at hg;have h2:=h.nos _ r hg;exact⟨h1,qac hg,by omega⟩
 .rw[if_neg h1]at hg;cases hg
theorem Ru{s:Ld}(h:s.Ok){k:Int}(hg:SR s k=none)(hk:k<=s.no):(s.rn.length:Int)<=s.no - k:=by
 by_cases h1:s.no - k<s.rn.length
 .unfold SR at hg;rw[if_pos ⟨hk,h1⟩,List.getElem?_eq_none_iff]at hg;have:=h.kept;omega
 .omega
theorem Agl{m m':Lm}{s s':Ld}(h1:m'.bl=m.bl)(h2:m'.br=m.br)(h3:m'.ba=m.ba)(h4:m'.bd=m.bd)(h5:m'.b=m.b)(h6:m'.a=m.a):CT m' s'=CT m s:=by
 obtain⟨bl,ba,bd,br,b,a,c,full,o,arch⟩:=m;obtain⟨bl',ba',bd',br',b',a',c',full',o',arch'⟩:=m';dsimp only at h1 h2 h3 h4 h5 h6;subst h1 h2 h3 h4 h5 h6;show bl'::br'::ba'::bd'::b'::(ent a' 108 full').map (fun x=>x.1)=bl'::br'::ba'::bd'::b'::(ent a' 108 full).map (fun x=>x.1);rw[Xg (f:=full') (g:=full)]
theorem LdIn.rnd{w w1 w':World}{m:Lm}{s:Ld}{T:Nat->Prop}{S:List Nat}{r:Rnd}{q:RSl}{full':List Value}{o':Obj}(I:LdIn w m s T)(he:Ext S w w')(hs:∀x∈S,T x)(hok:(Qo s r).Ok)(O:OS m.a (Gb s.acs s.ds r).length m.c 2 full' ((Gb s.acs s.ds r).flatMap CQ))(M:CY .u64 (dm (GJ s.acs s.ds r)) o')(RA:RAt w' { r with no:=s.no+1,day:=s.day } q)(hoff:ROff q { r with no:=s.no+1,day:=s.day } (fun x=>x<w1.heap.size))(hle:w.heap.size<=w1.heap.size) :
  LdIn w' ⟨m.bl,m.ba,m.bd,m.br,m.b,m.a,m.c,full',o',Jw m.arch s.rn.length { r with no:=s.no+1,day:=s.day } q⟩ (Qo s r) (fun x=>T x\/x∈CT ⟨m.bl,m.ba,m.bd,m.br,m.b,m.a,m.c,full',o',Jw m.arch s.rn.length { r with no:=s.no+1,day:=s.day } q⟩ (Qo s r)):=by
 have hid:∀x,T x\/x∈CT ⟨m.bl,m.ba,m.bd,m.br,m.b,m.a,m.c,full',o',Jw m.arch s.rn.length { r with no:=s.no+1,day:=s.day } q⟩ (Qo s r)->T x:=fun x hx=>by
  exact hx.elim id fun h=>I.own x (Eq.mp (qaa (fun l=>x∈l) (Agl (m:=m) (s:=s) (m':=⟨m.bl,m.ba,m.bd,m.br,m.b,m.a,m.c,full',o',Jw m.arch s.rn.length { r with no:=s.no+1,day:=s.day } q⟩) (s':=Qo s r) rfl rfl rfl rfl rfl rfl)) h)
 refine⟨O,M,hok,by rw[Xl];exact I.len,?_,All I.len _ _ _,fun x hx=>?_,fun x hx => .inr hx,fun x hx=>qaw (I.low x (hid x hx)) he.size⟩
 .rw[Ahw I.len];show _=some (Value.int .u64 (((Ju s.rn { r with no:=s.no+1,day:=s.day }).length:Nat):Int));rw[Uu I.ok.kept.1]
 .rcases Adr I.ok hx with rfl|⟨h1,h2,h3⟩
  .exact⟨q,fun j v h=>Ads I.len _ h,RA,hoff.mono fun x hx=>qaw (I.low x (hid x hx)) hle⟩
  .obtain⟨qx,g1,g2,g3⟩:=I.kept x h1;exact⟨qx,fun j v h=>Xm _ (by show x.no % 4≠(s.no+1) % 4;omega) h (g1 j v h),g2.ext he (g3.mono hs),g3.mono fun y hy=>hid y hy⟩
def Grows(T T':Nat->Prop)(w:World):Prop:=(∀x,T x->T' x)/\(∀x,T' x->T x\/w.heap.size<=x)
theorem Grows.refl(T:Nat->Prop)(w:World):Grows T T w:=⟨fun _ h=>h,fun _ h => .inl h⟩
theorem Grows.trans{T T' T'':Nat->Prop}{w w':World}(h:Grows T T' w)(k:Grows T' T'' w')(hs:w.heap.size<=w'.heap.size):Grows T T'' w :=
 ⟨fun x hx=>k.1 x (h.1 x hx),fun x hx=>(k.2 x hx).elim (fun h1=>h.2 x h1) fun h1 => .inr (qa0 hs h1)⟩
theorem LdIn.grow{w w':World}{m:Lm}{s:Ld}{T T':Nat->Prop}{S:List Nat}(I:LdIn w m s T)(he:Ext S w w')(hs:∀x∈S,T x\/w.heap.size<=x)(g:Grows T T' w)(hl:∀x,T' x->x<w'.heap.size):LdIn w' m s T' where
 O:=I.O
 M:=I.M
 ok:=I.ok
 len:=I.len
 n:=I.n
 no:=I.no
 kept:=fun r h=>by
  obtain⟨q,h1,h2,h3⟩:=I.kept r h;have h4:=h3.or h2.lt;exact⟨q,h1,h2.ext he (h4.mono hs),h4.mono g.2⟩
 own:=fun x hx=>g.1 x (I.own x hx)
 low:=hl
def s00:Ld:=⟨0,[],[],1,[],0⟩
theorem Alm:s00.Ok:=⟨by decide,by decide,fun d h=>(by cases h),by decide,by decide,fun i r h=>(by cases h),fun r h=>(by cases h)⟩
abbrev NG:List Value:=rnd0++(rnd0++(rnd0++(rnd0++[.int .u64 0,.int .u64 0])))
theorem Adt(w:World):Ret prog 26 #[] w fun v w'=>∃b,v=ptr b/\Ctx w [] w' [(b,Bl 129 [.slice none 0 0])]:=by
 obtain⟨w0,rfl,H⟩:=qE w;refine Ay (fn:=f26) func26 U [] U (Ad (B1 U (qA (Ad (Bx [.slice none 0 0] Aab Aaj ?_)))));refine Br [.slice none 0 0] (.agg _) U U H ?_;rintro b2 w - H;refine B1 U (qA (A7 (AD (v:=(.pointer _)) U U U ?_)));exact⟨b2,rfl,H⟩
theorem Adu(w:World):Ret prog 28 #[] w fun v w'=>∃b,v=ptr b/\Ctx w [] w' [(b,Bl 135 NG)]:=by
 obtain⟨w0,rfl,H⟩:=qE w;refine Ay (fn:=f28) func28 U [] U (Ad (B1 U (qA (Ad (Bx NG Aad Aal ?_)))));refine Br NG (.agg _) U U H ?_;rintro b2 w - H;refine B1 U (qA (A7 (AD (v:=(.pointer _)) U U U ?_)));exact⟨b2,rfl,H⟩
theorem MK(w:World):Ret prog 8 #[] w fun v w'=>∃m,v=ptr m.bl/\Ctx w [] w' (LL m s00)/\LdIn w' m s00 (fun x=>x∈CT m s00):=by
 obtain⟨w0,rfl,H⟩:=qE w;refine Ay (fn:=Tryz.f8) func8 U [] U (Ad (B1 U (qA (Ad (Al qB (Adt _) U ?_)))));rintro v w ⟨ba,rfl,H1⟩;replace H:Ctx w0 [] w [(ba,Bl 129 [.slice none 0 0])]:=H1;refine Al qB (Af1 _) U ?_;rintro v w ⟨bd,b,o,rfl,hM,H1⟩;replace H:=Ctx.back (L1:=[]) (L2:=[_]) H H1;refine Al qB (Adu _) U ?_;rintro v w ⟨br,rfl,H1⟩;replace H:=Ctx.back (L1:=[]) (L2:=[_,_,_]) H H1;refine Bx [ptr ba,ptr bd,ptr br,.int .i64 0] Ahj Aho (Br [ptr ba,ptr bd,ptr br,.int .i64 0] (.agg _) U U H ?_);rintro bl w - H;refine B1 U (qA (A7 (AD (v:=(.pointer _)) U U U ?_)));have H1:Ctx w0 [] w (LL ⟨bl,ba,bd,br,b,none,0,[],o,NG⟩ s00):=H.perm (List.Perm.cons _ (List.Perm.cons _ (qcv (l₁:=[_,_]) (l₂:=[_]))))
 refine⟨⟨bl,ba,bd,br,b,none,0,[],o,NG⟩,rfl,H1,OS.nil,hM,Alm,rfl,rfl,rfl,fun r h=>(by cases h),fun x h=>h,fun x h=>?_⟩;obtain⟨y,hy,rfl⟩:=qag.1 h;exact AY (H1.blk y hy)
abbrev PK(x:Rnd × RSl):List Value:=B0 x.1 x.2
theorem U7{α β:Type}(y:β):∀{xs:List α} {ys:List β} {x:α},xs[ys.length]?=some x->xs.zip (ys++[y])=xs.zip ys++[(x,y)]
 | [],_,_,h=>by cases h
 |a::xs,[],x,h=>by
  cases h;show(a,y)::xs.zip []=_;rw[List.zip_nil_right];rfl
 |a::xs,b::ys,x,h=>by
  show(a,b)::xs.zip (ys++[y])=(a,b)::(xs.zip ys++[(x,y)]);rw[U7 y (show xs[ys.length]?=some x from h)]
structure ARS where
 i:Nat
 a:Option Addr
 c:Nat
 full:List Value
 qs:List RSl
theorem YK{br:Nat}{m:Lm}{s:Ld}{T:Nat->Prop}(w:World)(I:LdIn w m s T)(h0:w.heap[br]?=some (Bl 135 m.arch)) :
  Ret prog 49 #[ptr br] w fun v w'=>Ext [] w w'/\∃a c qs,v=.slice a s.rn.length c/\qs.length=s.rn.length/\Rd w' a 8 PK (s.rn.zip qs)/\(s.rn≠[]->¬(adr a).block<w.heap.size)/\∀x∈s.rn.zip qs,RAt w' x.1 x.2/\ROff x.2 x.1 (fun y=>y<w.heap.size):=by
 obtain⟨w0,rfl,H⟩:=qE w;obtain⟨hk4,hkn,hkm⟩:=I.ok.kept;refine Ay (fn:=f49) func49 U [.pointer (some ⟨br,0,none⟩)] U ?_;refine Ad (A4 U (qA (Ao (Ad (Ax U (Cu QC U ?_))))));refine qA (An _ U ?_ ?_)
 .intro h1;cases h1
 .intro h1;refine Aq (Aa (Ao (Ad (Ax U (AE U (Ah Ji U (Bc Bz U ((by rw[Aj h0];exact I.n)) ?_)))))));refine Af U (qA (A1 (Bt 68719475724 (α:=ARS) (fun t=>[(2,.slice t.a t.i t.c),(10,.int .u64 (t.i:Int))]) (fun t w'=>t.qs.length=t.i/\t.i<=s.rn.length/\OS t.a t.i t.c 8 t.full ((s.rn.zip t.qs).flatMap PK)/\(∀x∈s.rn.zip t.qs,RAt w' x.1 x.2/\ROff x.2 x.1 (fun y=>y<w0.heap.size\/y∈(ent t.a 127 t.full).map (fun x:Nat × Obj=>x.1)))/\Ctx w0 [] w' (ent t.a 127 t.full)) (fun t=>s.rn.length - t.i) ⟨0,none,0,[],[]⟩ U ?_ ?_ ?_)))
  .exact⟨rfl,rfl,trivial⟩
  .refine⟨rfl,qaj _,?_,fun x hx=>?_,H⟩
   .rw[List.zip_nil_right];exact OS.nil
   .rw[List.zip_nil_right]at hx;cases hx
  .clear H;rintro⟨i,a,c,full,qs⟩ j w ⟨hqi,hi,O,K,HR⟩;dsimp only at hqi hi O K HR;dsimp only;obtain⟨w1,rfl,H⟩:=qE w;refine Ad (Bm U U (qA (Ao (An _ U ?_ ?_))))
   .intro h2;replace h2:=AM h2;obtain⟨r,hr⟩:=AA (l:=s.rn) (i:=i);obtain⟨q,hq1,hq2,-⟩:=I.kept r (qac hr);have hB:=Od (I.ok.may r (qac hr));have hrn:=I.ok.nos i r hr;have h01:=HR.ext.to h0 (by simp);have h3:0<=r.no % 4/\r.no % 4<4:=⟨qc4 _ (by decide),qc5 _ (by decide)⟩;rw[hrn]at hq1 h3;refine Aq (Aa (Ao (A1 (Ad (Af U (Ae U (qA ?_)))))))
    have hnbr:br∉(ent a 127 full).map (fun x:Nat × Obj=>x.1):=fun hm=>by
     obtain⟨z,hz,hzb⟩:=qag.1 hm;have h4:=AY h0;have h5:=(HR.own z hz).elim (fun h=>by cases h) id;rw[hzb]at h5;omega
    refine Fh [([0,1,2,3,4,5,6,7,8,9,10,11,12,13,14,15,16,17,18],19),([],20),([],21),([],22)] (fun z=>z.heap[br]?=some (Bl 135 m.arch)) [] Bq (H.drew.ext.to h01 (by simp)) (AH U U ?_);refine B4 U (BF U (BF U (Bg U (Ap Fu U (B3 Bz U (fun _ hx=>(by rw[Aj hx];exact I.no)) ?_)))));refine BF U (Bg U (Ap Ji U (B3 Bz U (fun _ hx=>(by rw[Aj hx];exact I.n)) ?_)));refine X5 U U U (MY U U U ?_);refine Bd U (MY U U U ?_);refine Ag0 U U U (Bg U (Ap Pb U (OH U Vg C1 U U ?_)));refine Gh _ E7 C1 U U (fun _ hx=>(fun j v hv=>by rw[Aj hx,show 0+0+(((s.no - s.rn.length)+1+i) % 4).toNat*8+j=((s.no - s.rn.length+1+i) % 4).toNat*8+j by omega];exact hq1 j v hv)) ?_;refine AR ?_;replace H:=H.drew;have hs1:=H.ext.size
    refine Al qB (SW r q _ (hq2.ext0 (HR.ext.trans H.ext)) hB) U ?_;rintro v w ⟨hx32,q',rfl,RA',hoff⟩;have E1:=H.ext.trans hx32;have HC:=HR.call E1;have h03:=HC.ext.to h0 (by simp);obtain⟨w3,rfl⟩:=qD w;clear H;have H:=Ctx.lend (L1:=ent a 127 full) HC.app_nil;refine Ab (BM (h03) (AH U U ?_));refine AR (Cs _ (.agg _) Je C1 Fi U U U U H ?_);rintro b33 w - H;refine Ab (BM (H.ext.to h03 hnbr) (AH U U ?_));refine AR (CI (L:=[]) Je Je C1 Ah9 Fi U U U H O U (by simp[AZ]) ?_);rintro a' c' full' w H O';refine Ab (BM (H.ext.to h03 hnbr) (AH U U ?_));refine AR (A4 U (Ab (BM (H.ext.to h03 hnbr) (BG (A8 (Aa (A0 (Ee U U ?_))))))));refine Af U (qA ?_);have hs3:=E1.size
    have hin:∀y∈(ent a' 127 full').map (fun x:Nat × Obj=>x.1),y∈(ent a 127 full).map (fun x:Nat × Obj=>x.1)\/w3.heap.size<=y:=fun y hy=>by
     obtain⟨z,hz,rfl⟩:=qag.1 hy;exact H.own z hz
    have hlt:∀y∈(ent a 127 full).map (fun x:Nat × Obj=>x.1),y<w1.heap.size:=fun y hy=>by
     obtain⟨z,hz,rfl⟩:=qag.1 hy;exact AY (HR.blk z hz)
    have hz:=U7 q' (ys:=qs) (hqi ▸ hr);refine⟨⟨i+1,a',c',full',qs++[q']⟩,rfl,⟨rfl,rfl,trivial⟩,⟨by dsimp only;rw[qat,qb4,hqi],by dsimp only;omega,?_,fun x hx=>?_,(Ctx.back (L1:=ent a 127 full) (L2:=[]) HC.app_nil H).nil_app⟩,by dsimp only;omega⟩
    .dsimp only;rw[hz,qb1,List.flatMap_singleton];exact O'
    .dsimp only at hx |-;rw[hz]at hx
     rcases qbi.1 hx with h|h
     .obtain⟨k1,k2⟩:=K x h;exact⟨(k1.ext0 E1).ext H.ext (k2.mono fun y hy => .inr hy),(k2.or k1.lt).mono fun y hy=>hy.elim (fun h => .inl (.inl h)) fun h=>(hin y h).elim (fun h => .inl (.inr h)) fun h => .inr (qa0 hs3 h)⟩
     .rw[qab.1 h];exact⟨RA'.ext H.ext (hoff.mono fun y hy=>qaw (hlt y hy) hs1),(hoff.or RA'.lt).mono fun y hy=>hy.elim (fun h => .inl (qaw (qaw h HR.size) hs1)) fun h=>(hin y h).elim (fun h => .inl (qaw (hlt y h) hs1)) .inr⟩
   .intro h2;replace h2:=AN h2;obtain rfl:i=s.rn.length:=by omega
    refine Bp (Am (Am (AO (Aa (Ad (A2 U (A4 U (qA (A7 (AD (v:=(.slice _ _ _)) U U U ?_))))))))));have O2:OS a (s.rn.zip qs).length c 8 full ((s.rn.zip qs).flatMap PK):=by rw[qco,hqi,Nat.min_self];exact O
    refine⟨HR.ext,a,c,qs,rfl,hqi,OS.rd O (t:=127) (fun x hx=>HR.blk x hx) (fun _ _=>rfl) (by decide),fun hne=>?_,fun x hx=>⟨(K x hx).1,(K x hx).2.mono fun y hy => .inl hy⟩⟩;obtain⟨p,rfl⟩:=O.form (qbn.2 hne);exact Nat.not_lt.2 ((HR.own (p,Bl 127 full) (qab.2 U)).elim (fun h=>by cases h) id)
theorem YL(r:Rnd)(q s:RSl)(w:World)(RA:RAt w r q)(RB:RAt w r s)(hr:RBnd r) :
  Ret prog 89 #[.agg (B0 r q).toArray,.agg (B0 r s).toArray] w fun v w'=>v=.bool true/\Ext [] w w':=by
 obtain⟨w0,rfl,H⟩:=qE w;have he:=hr.es;have hi:=hr.ids;have hf:=hr.fl;have hp:=hr.pot;refine Ay (fn:=f89) func89 U [.agg (B0 r q).toArray,.agg (B0 r s).toArray] U (Ad (Br (B0 r q) (.agg _) U U H ?_));rintro b2 w - H;refine Br (B0 r s) (.agg _) U U H ?_;rintro b3 w - H;refine Ai U (qA (Ao (Ad (BV (α:=Unit) 73786976294838206208 (fun _=>[(65,.bool (false))]) (fun _ w'=>Ctx w0 [] w' [(b3,Bl 127 (B0 r s)),(b2,Bl 127 (B0 r q))]) U ?_ ?_))))
 .refine Ah Ih U (AB Bz U H at1 U (Ah Ih U (AB Bz U H at0 U (Cv U U (Aw U (AK 13 U ?_ ?_))))))
  .intro h1;replace h1:=Cy h1;refine Ag U (Ag U (Ag U (Ag U (Ag U (A6 U (.bool _) U (Aw U (Ag U (Ag U (Ag U ?_)))))))));refine Ag U (Ag U (A6 U (.bool _) U (Aw U (Ag U (Ag U (Ag U (Ag U (Ag U (Ag U ?_)))))))));refine A6 U (.bool _) U (Aw U (Ag U (Ag U (Ag U (Ag U (Ag U (Ag U (Ag U (A6 U (.bool _) U ?_)))))))));refine Aw U (Ag U (Ag U (Ag U (Ag U (Ag U (Ag U (Ag U (Ag U (Ag U ?_)))))))));refine A6 U (.bool _) U (Aw U (Ag U (Ag U (Ag U (Ag U (Ag U (Ag U (Ag U (Ag U ?_)))))))));refine Ag U (A6 U (.bool _) U (Ab ?_));exact⟨rfl,(),rfl,⟨qaa Value.bool (by(simp_all;done)),trivial⟩,H⟩
  .intro h2;replace h2:=Cz h2;refine Ah Jh U (AB Bw U H at1 U (Ah Jh U (AB Bw U H at0 U (Cv U U (A9 U (.bool _) U (Aw U (AK 20 U ?_ ?_)))))))
   .intro h3;replace h3:=Cy h3;refine Ag U (Ag U (Ag U (Ag U (Ag U (A6 U (.bool _) U (Aw U (Ag U (Ag U (Ag U ?_)))))))));refine Ag U (Ag U (Ag U (A6 U (.bool _) U (Aw U (Ag U (Ag U (Ag U (Ag U (Ag U ?_)))))))));refine Ag U (Ag U (A6 U (.bool _) U (Aw U (Ag U (Ag U (Ag U (Ag U (Ag U (Ag U ?_)))))))));refine Ag U (Ag U (Ag U (A6 U (.bool _) U (Aw U (Ag U (Ag U (Ag U (Ag U (Ag U ?_)))))))));refine Ag U (Ag U (Ag U (Ag U (A6 U (.bool _) U (Ab ?_)))));exact⟨rfl,(),rfl,⟨qaa Value.bool (by(simp_all;done)),trivial⟩,H⟩
   .intro h4;replace h4:=Cz h4;refine Ah Mo U (AB Kl U H at1 U (Ah Mo U (AB Kl U H at0 U (Aem un_4 U U U ?_))));refine A9 U (.bool _) U (Aw U (AK 27 U ?_ ?_))
    .intro h5;refine Ag U (Ag U (Ag U (Ag U (Ag U (Ag U (A6 U (.bool _) U (Aw U (Ag U (Ag U ?_)))))))));refine Ag U (Ag U (Ag U (Ag U (Ag U (A6 U (.bool _) U (Aw U (Ag U (Ag U (Ag U ?_)))))))));refine Ag U (Ag U (Ag U (Ag U (Ag U (Ag U (A6 U (.bool _) U (Aw U (Ag U (Ag U ?_)))))))));refine Ag U (Ag U (Ag U (Ag U (Ag U (Ag U (Ag U (A6 U (.bool _) U (Ab ?_))))))));exact⟨rfl,(),rfl,⟨qaa Value.bool (by(simp_all;done)),trivial⟩,H⟩
    .intro h6;refine Ah E0 U (BQ _ C7 Cp U U ((Ca (l:=B0 r q) (H.get at1) 4 [.int .i64 r.N,.slice q.aE r.es.length q.cE] U)) ?_);refine Ah E0 U (BQ _ C7 Cp U U ((Ca (l:=B0 r s) (H.get at0) 4 [.int .i64 r.N,.slice s.aE r.es.length s.cE] U)) ?_);refine Al qB (VQ r.N r.N q.aE s.aE _ q.cE _ s.cE r.es r.es _ (RA.E.ext0 H.ext) U he (RB.E.ext0 H.ext) U he) U ?_;rintro v w ⟨rfl,hx32⟩;replace H:=H.call hx32;rw[show Ro r.N r.N r.es r.es=true by simp[Ro]];refine BE U (A9 U (.bool _) U (Aw U (AK 35 U ?_ ?_)))
     .intro h7;replace h7:=B7 h7;refine Ag U (Ag U (Ag U (Ag U (Ag U (Ag U (Ag U (A6 U (.bool _) U (Aw U (Ag U ?_)))))))));refine Ag U (Ag U (Ag U (Ag U (Ag U (Ag U (Ag U (Ag U (A6 U (.bool _) U (Aw U ?_)))))))));refine Ag U (Ag U (Ag U (Ag U (Ag U (Ag U (Ag U (Ag U (Ag U (A6 U (.bool _) U ?_)))))))));refine Ab ?_;exact⟨rfl,(),rfl,⟨qaa Value.bool (by(simp_all;done)),trivial⟩,H⟩
     .intro h8;replace h8:=B9 h8;refine Ah Eh U (AB FE U H at1 U (Ba Bh U (Ah Eh U (AB FE U H at0 U (Ba Bh U (Cv U U (A9 U (.bool _) U (Aw U (AK 44 U ?_ ?_)))))))))
      .intro h9;replace h9:=Cy h9;refine Ag U (Ag U (Ag U (Ag U (Ag U (Ag U (Ag U (Ag U (Ag U (A6 U (.bool _) U ?_)))))))));refine Aw U (Ag U (Ag U (Ag U (Ag U (Ag U (Ag U (Ag U (Ag U (Ag U ?_)))))))));refine A6 U (.bool _) U (Ab ?_);exact⟨rfl,(),rfl,⟨qaa Value.bool (by(simp_all;done)),trivial⟩,H⟩
      .intro h10;replace h10:=Cz h10;refine Ah Dq U (Ah EU U (AB BN U H at1 U (Ba AV U (Ah Dq U (Ah EU U (AB BN U H at0 U (Ba AV U (Cv U U (A9 U (.bool _) U ?_)))))))));refine Aw U (AK 55 U ?_ ?_)
       .intro h11;replace h11:=Cy h11;refine Ag U (Ag U (Ag U (Ag U (Ag U (Ag U (Ag U (Ag U (Ag U (A6 U (.bool _) U ?_)))))))));refine Ab ?_;exact⟨rfl,(),rfl,⟨qaa Value.bool (by(simp_all;done)),trivial⟩,H⟩
       .intro h12;replace h12:=Cz h12;refine Ah Dq U (Ah FK U (AB BN U H at1 U (Ba AV U (Ah Dq U (Ah FK U (AB BN U H at0 U (Ba AV U (Cv U U (A9 U (.bool _) U ?_)))))))));refine Ab ?_;exact⟨rfl,(),rfl,⟨qaa Value.bool (by(simp_all;done)),trivial⟩,H⟩
 rintro - j65 w H;refine F2 U (Aq (Aa (Ao (Ad (Ae U (qA (A1 (Bt 19342739326857771957092400 (α:=Nat) (fun i=>[(5,.int .i64 (i:Int))]) (fun i w'=>i<=r.ids.length/\Ctx w0 [] w' [(b3,Bl 127 (B0 r s)),(b2,Bl 127 (B0 r q))]) (fun i=>r.ids.length - i) 0 U ?_ ?_ ?_))))))))
 .exact⟨rfl,trivial⟩
 .exact⟨qaj _,H⟩
 .clear H;rintro i j w ⟨hii,H⟩;refine Ao (Ad (Af U (Ah Eh U (AB FE U H at1 U (Ba Bh U (Bm U U (qA (An _ U ?_ ?_))))))))
  .intro h2;replace h2:=AM h2;obtain⟨x,hx⟩:=AA (l:=r.ids) (i:=i);refine Aq (Aa (Ao (A1 (Dw (fun x=>x=_) Bq U ?_))));refine A5 Eh U (Cc FE U (by rintro _ rfl;exact H.drew) at1 U ?_);refine AX U (BH RA.I Bh Bo U U (by rfl) ?_);refine BX Bz U (by rintro _ rfl;exact(((RA.I.ext0 H.drew.ext).one (f:=G3) hx))) ?_;refine A5 Eh U (Cc FE U (by rintro _ rfl;exact H.drew) at0 U ?_);refine AX U (BH RB.I Bh Bo U U (by rfl) ?_);refine BX Bz U (by rintro _ rfl;exact(((RB.I.ext0 H.drew.ext).one (f:=G3) hx))) ?_;refine Md U U (BT ?_);rintro _ rfl;replace H:=H.drew;refine An _ U ?_ ?_
   .intro h3;replace h3:=Cy h3;omega
   .intro h3;replace h3:=Cz h3;refine Aq (A8 (Aa (A0 (Af U (Az U U ?_)))));refine Ae U (qA ?_);exact⟨i+1,rfl,⟨rfl,trivial⟩,⟨by omega,H⟩,by omega⟩
  .intro h2;replace h2:=AN h2;refine Bp (Am (Am (AO (Aa (Ao (Ad (Ae U (qA (A1 (Bt 40564799864490227013827707273296 (α:=Nat) (fun i=>[(6,.int .i64 (i:Int))]) (fun i w'=>i<=r.fl.length/\Ctx w0 [] w' [(b3,Bl 127 (B0 r s)),(b2,Bl 127 (B0 r q))]) (fun i=>r.fl.length - i) 0 U ?_ ?_ ?_))))))))))
   .exact⟨rfl,trivial⟩
   .exact⟨qaj _,H⟩
   .clear H;rintro i2 j2 w ⟨hii2,H⟩;refine Ao (Ad (Af U (Ah Dq U (Ah EU U (AB BN U H at1 U (Ba AV U (Bm U U (qA (An _ U ?_ ?_)))))))))
    .intro h3;replace h3:=AM h3;obtain⟨x,hx⟩:=AA (l:=r.fl) (i:=i2);refine Aq (Aa (Ao (A1 (Dw (fun x=>x=_) Bq U ?_))));refine A5 Dq U (A5 EU U (Cc BN U (by rintro _ rfl;exact H.drew) at1 U ?_));refine AX U (BH RA.F AV B2 U U (by rfl) ?_);refine BX Bw U (by rintro _ rfl;exact(((RA.F.ext0 H.drew.ext).one (f:=Dj) hx))) ?_;refine A5 Dq U (A5 EU U (Cc BN U (by rintro _ rfl;exact H.drew) at0 U ?_));refine AX U (BH RB.F AV B2 U U (by rfl) ?_);refine BX Bw U (by rintro _ rfl;exact(((RB.F.ext0 H.drew.ext).one (f:=Dj) hx))) ?_;refine Md U U (BT ?_);rintro _ rfl;replace H:=H.drew;refine An _ U ?_ ?_
     .intro h4;replace h4:=Cy h4;omega
     .intro h4;replace h4:=Cz h4;refine Aq (A8 (Aa (A0 (Af U (Az U U ?_)))));refine Ae U (qA ?_);exact⟨i2+1,rfl,⟨rfl,trivial⟩,⟨by omega,H⟩,by omega⟩
    .intro h3;replace h3:=AN h3;refine Bp (Am (Am (AO (Aa (Ao (Ad (Ae U (qA (A1 (Bt 85070551165415408562502803963439480976 (α:=Nat) (fun i=>[(7,.int .i64 (i:Int))]) (fun i w'=>i<=r.pot.length/\Ctx w0 [] w' [(b3,Bl 127 (B0 r s)),(b2,Bl 127 (B0 r q))]) (fun i=>r.pot.length - i) 0 U ?_ ?_ ?_))))))))))
     .exact⟨rfl,trivial⟩
     .exact⟨qaj _,H⟩
     .clear H;rintro i3 j3 w ⟨hii3,H⟩;refine Ao (Ad (Af U (Ah Dq U (Ah FK U (AB BN U H at1 U (Ba AV U (Bm U U (qA (An _ U ?_ ?_)))))))))
      .intro h4;replace h4:=AM h4;obtain⟨x,hx⟩:=AA (l:=r.pot) (i:=i3);refine Aq (Aa (Ao (A1 (Dw (fun x=>x=_) Bq U ?_))));refine A5 Dq U (A5 FK U (Cc BN U (by rintro _ rfl;exact H.drew) at1 U ?_));refine AX U (BH RA.P AV B2 U U (by rfl) ?_);refine BX Bw U (by rintro _ rfl;exact(((RA.P.ext0 H.drew.ext).one (f:=Dj) hx))) ?_;refine A5 Dq U (A5 FK U (Cc BN U (by rintro _ rfl;exact H.drew) at0 U ?_));refine AX U (BH RB.P AV B2 U U (by rfl) ?_);refine BX Bw U (by rintro _ rfl;exact(((RB.P.ext0 H.drew.ext).one (f:=Dj) hx))) ?_;refine Md U U (BT ?_);rintro _ rfl;replace H:=H.drew;refine An _ U ?_ ?_
       .intro h5;replace h5:=Cy h5;omega
       .intro h5;replace h5:=Cz h5;refine Aq (A8 (Aa (A0 (Af U (Az U U ?_)))));refine Ae U (qA ?_);exact⟨i3+1,rfl,⟨rfl,trivial⟩,⟨by omega,H⟩,by omega⟩
      .intro h4;replace h4:=AN h4;refine Bp (Am (Am (AO (Aa (Ad (Ai U (qA (A7 (AD (v:=(.bool _)) U U U ?_)))))))));exact⟨rfl,H.ext⟩
theorem YM(a b:Option Addr)(n c m d:Nat)(rn:List Rnd)(qs zs:List RSl)(w:World)(R:Rd w a 8 PK (rn.zip qs))(hn:rn.length=n)(hn2:n<=1000000)(Ry:Rd w b 8 PK (rn.zip zs))(hm:rn.length=m)(hq:qs.length=rn.length)(hz:zs.length=rn.length)(K:∀x∈rn.zip qs,RAt w x.1 x.2)(Ky:∀x∈rn.zip zs,RAt w x.1 x.2)(hB:∀r∈rn,RBnd r) :
  Ret prog 45 #[.slice a n c,.slice b m d] w fun v w'=>v=.bool true/\Ext [] w w':=by
 subst hn hm;obtain⟨w0,rfl,H⟩:=qE w;have hzq:(rn.zip qs).length=rn.length:=by rw[qco];omega
 have hzz:(rn.zip zs).length=rn.length:=by rw[qco];omega
 refine Ay (fn:=Tryz.f45) func45 U [.slice a rn.length c,.slice b rn.length d] U (Ad (Ai U (qA (Ao (Ad (A2 U (Ba Je U (A2 U (Ba Je U (Cv U U ?_))))))))));refine qA (An _ U ?_ ?_)
 .intro h1;replace h1:=Cy h1;omega
 .intro h1;replace h1:=Cz h1;refine Aq (Aa (Ao (Ad (Ae U (qA (A1 (Bt 134215728 (α:=Nat) (fun i=>[(5,.int .i64 (i:Int))]) (fun i w'=>i<=rn.length/\Ctx w0 [] w' []) (fun i=>rn.length - i) 0 U ?_ ?_ ?_)))))))
  .exact⟨rfl,trivial⟩
  .exact⟨qaj _,H⟩
  .clear H;rintro i j w ⟨hi,H⟩;refine Ao (Ad (Af U (A2 U (Ba Je U (Bm U U (qA (An _ U ?_ ?_)))))))
   .intro h2;replace h2:=AM h2;obtain⟨r,hr⟩:=AA (l:=rn) (i:=i);obtain⟨q,hqi⟩:=AA (l:=qs) (i:=i);obtain⟨z,hzi⟩:=AA (l:=zs) (i:=i);have hx:(rn.zip qs)[i]?=some (r,q):=qcz.2 ⟨hr,hqi⟩;have hy:(rn.zip zs)[i]?=some (r,z):=qcz.2 ⟨hr,hzi⟩;refine Aq (Aa (Ao (A1 (Ec 8 Bq U U ?_))));refine Cm U (AX U (BH R Je C1 U U (by omega) ?_));refine G4 _ E7 C1 U U (by rintro _ rfl;exact((R.ext0 H.drew.ext).row hx rfl)) ?_;refine Cm U (AX U (BH Ry Je C1 U U (by omega) ?_));refine G4 _ E7 C1 U U (by rintro _ rfl;exact((Ry.ext0 H.drew.ext).row hy rfl)) ?_;refine BT ?_;replace H:=H.drew;refine Al qB (YL r q z _ ((K _ (qac hx)).ext0 H.ext) ((Ky _ (qac hy)).ext0 H.ext) (hB r (qac hr))) U ?_
    rintro v w ⟨rfl,hx25⟩;replace H:=H.call hx25;refine BE U (qA (An _ U ?_ ?_))
    .intro h3;replace h3:=B7 h3;cases h3
    .intro h3;replace h3:=B9 h3;refine Aq (A8 (Aa (A0 (Af U (Az U U ?_)))));refine Ae U (qA ?_);exact⟨i+1,rfl,⟨rfl,trivial⟩,⟨by omega,H⟩,by omega⟩
   .intro h2;replace h2:=AN h2;refine Bp (Am (Am (AO (Aa (Ad (Ai U (qA (A7 (AD (v:=(.bool _)) U U U ?_)))))))));exact⟨rfl,H.ext⟩
structure StZ where
 aA:Option Addr
 cA:Nat
 aD:Option Addr
 cD:Nat
 aR:Option Addr
 cR:Nat
 qs:List RSl
abbrev stC(s:Ld)(z:StZ):List Value:=[.int .i64 s.day,.slice z.aA s.acs.length z.cA,.slice z.aD s.ds.length z.cD,.int .u64 s.nx,.slice z.aR s.rn.length z.cR,.int .u64 s.no,.slice none 0 0]
structure StAt(w:World)(s:Ld)(z:StZ):Prop where
 A:Rd w z.aA 2 CQ s.acs
 D:Rd w z.aD 7 CS s.ds
 R:Rd w z.aR 8 PK (s.rn.zip z.qs)
 n:z.qs.length=s.rn.length
 K:∀x∈s.rn.zip z.qs,RAt w x.1 x.2
structure StOff(s:Ld)(z:StZ)(S:Nat->Prop):Prop where
 A:s.acs≠[]->¬S (adr z.aA).block
 D:s.ds≠[]->¬S (adr z.aD).block
 R:s.rn≠[]->¬S (adr z.aR).block
 K:∀x∈s.rn.zip z.qs,ROff x.2 x.1 S
theorem Aln{rn:List Rnd}{qs:List RSl}(h:rn.zip qs≠[]):rn≠[]:=fun h1=>h (by rw[h1];rfl)
theorem StOff.mono{s:Ld}{z:StZ}{S S':Nat->Prop}(h:StOff s z S)(hs:∀x,S' x->S x):StOff s z S':=⟨fun g k=>h.A g (hs _ k),fun g k=>h.D g (hs _ k),fun g k=>h.R g (hs _ k),fun x hx=>(h.K x hx).mono hs⟩
theorem StOff.or{s:Ld}{z:StZ}{S S':Nat->Prop}(h:StOff s z S)(k:StOff s z S'):StOff s z (fun x=>S x\/S' x):=⟨fun g x=>x.elim (h.A g) (k.A g),fun g x=>x.elim (h.D g) (k.D g),fun g x=>x.elim (h.R g) (k.R g),fun x hx=>(h.K x hx).or (k.K x hx)⟩
theorem StAt.ext{w w':World}{s:Ld}{z:StZ}{S:List Nat}(h:StAt w s z)(he:Ext S w w')(hn:StOff s z (·∈S)):StAt w' s z :=
 ⟨h.A.ext' he hn.A,h.D.ext' he hn.D,h.R.ext' he fun g=>hn.R (Aln g),h.n,fun x hx=>(h.K x hx).ext he (hn.K x hx)⟩
theorem StAt.ext0{w w':World}{s:Ld}{z:StZ}(h:StAt w s z)(he:Ext [] w w'):StAt w' s z :=
 h.ext he ⟨fun _=>by simp,fun _=>by simp,fun _=>by simp,fun x _=>⟨fun _=>by simp,fun _=>by simp,fun _=>by simp,fun _=>by simp⟩⟩
theorem StAt.lt{w:World}{s:Ld}{z:StZ}(h:StAt w s z):StOff s z (fun x=>w.heap.size<=x) :=
 ⟨fun g=>qck.2 (h.A.lt' (fun _ _=>rfl) (by decide) g),fun g=>qck.2 (h.D.lt' (fun _ _=>rfl) (by decide) g),fun g=>qck.2 (h.R.lt' (fun _ _=>rfl) (by decide) fun h1=>g (by
  have h2:=qaa List.length h1;rw[qco,h.n,Nat.min_self]at h2
  exact List.length_eq_zero_iff.1 h2)),fun x hx=>(h.K x hx).lt⟩
theorem Adv{bd b:Nat}{nx:Int}(w:World)(hd:w.heap[bd]?=some (Bl 132 (DU b nx))):Ret prog 48 #[ptr bd] w fun v w'=>v=.int .u64 nx/\Ext [] w w':=by
 obtain⟨w0,rfl,H⟩:=qE w;refine Ay (fn:=f48) func48 U [.pointer (some ⟨bd,0,none⟩)] U ?_;refine Ad (Ae U (qA (Ao (Ad (Ax U (Cu Ls U ?_))))));refine qA (An _ U ?_ ?_)
 .intro h1;cases h1
 .intro h1;refine Aq (Aa (Ad (Ax U (AE U (Ah Ko U (Bc Bz U ((by rw[Aj hd];rfl)) ?_))))));refine Ae U (qA (A7 (AD (v:=(.int _ _)) U U U ?_)));exact⟨rfl,H.ext⟩
theorem YN{m:Lm}{s:Ld}{T:Nat->Prop}{S:List Nat}{w0:World}(w:World)(I:LdIn w m s T)(H0:Ctx w0 S w (LL m s)) :
  Ret prog 12 #[ptr m.bl] w fun v w'=>Ext [] w w'/\∃z,v=.agg (stC s z).toArray/\StAt w' s z/\StOff s z (fun x=>x<w.heap.size):=by
 obtain⟨w1,rfl⟩:=qD w;have hbl:=H0.get at0;have hbr:=H0.get at1;have hba:=H0.get at2;have hbd:=H0.get at3;have hb:=H0.get at4;have RA0:Rd w1 m.a 2 CQ s.acs:=OS.rd (t:=108) I.O (fun y hy=>H0.blk y (qal [_,_,_,_,_] hy)) (fun _ _=>rfl) (by decide);have hn16:=(Co.1 I.ok.ac).1;obtain⟨h64,-,h3d,-⟩:=Fb I.ok.du;have H:=Ctx.start w1 [];refine Ay (fn:=f12) func12 U [.pointer (some ⟨m.bl,0,none⟩)] U ?_;refine Ad (AU N2 H ?_);rintro b2 w - H;refine qA (Ao (Ad (Ax U (Cu Wv U ?_))));refine qA (An _ U ?_ ?_)
 .intro h1;cases h1
 .intro h1;refine Aq (Aa (Cq [([0,1,2,3,4,5,6,7,9,10,11,12,14,15,16,17,19,20,21,22,24,25,26,27],8),([],13),([],18),([],23),([],28),([29],30)] (fun z=>Ext [] w1 z) [30] Bq (H.drew.ext) ?_));refine AH U U ?_;refine BF U (Bg U (Ap Mu U (B3 Bw U (fun _ hx=>(by rw[Aj (hx.to hbl (by simp))];rfl)) ?_)));refine BF U (Bg U (Ap GQ U (B3 ID U (fun _ hx=>(by rw[Aj (hx.to hbl (by simp))];rfl)) ?_)));refine BF U (Bg U (Ap FV U (B3 Hx U (fun _ hx=>(by rw[Aj (hx.to hbl (by simp))];rfl)) ?_)));refine BF U (Bg U (Ap FV U (B3 Hx U (fun _ hx=>(by rw[Aj (hx.to hbl (by simp))];rfl)) ?_)));refine BF U (Bg U (Ap KT U (B3 Q9 U (fun _ hx=>(by rw[Aj (hx.to hbl (by simp))];rfl)) ?_)));refine BF U (Bg U (Ap KT U (B3 Q9 U (fun _ hx=>(by rw[Aj (hx.to hbl (by simp))];rfl)) ?_)));refine AR ?_;replace H:=H.drew
  refine Al qB (P7 m.a _ m.c s.acs _ (H.ext.to hba (by simp)) (RA0.ext0 H.ext) U) U ?_;rintro v w F;obtain⟨aA,cA,rfl,RA,hA,-,hxA⟩:=MJ F (fun _ _=>rfl);have hsA:=H.ext.size;have lbA:=AY (H.get at0);replace H:=H.call hxA;refine Ab (BM (H.ext) (AH U U ?_));refine AR (Al qB (M6 _ (H.ext.to hbd (by simp)) (H.ext.to hb (by simp)) I.M (KD I.ok.du)) U ?_);rintro v w ⟨ds',hSd,F⟩;have hde:=MB hSd (JL h3d).2.1;rw[hde]at F;obtain⟨aD,cD,rfl,RD,hD,-,hxD⟩:=MJ F (fun _ _=>rfl);have hsD:=H.ext.size;have lbD:=AY (H.get at0);replace H:=H.call hxD;replace RA:=RA.ext0 hxD;refine Ab (BM (H.ext) (AH U U ?_));refine AR (Al qB (Adv _ (H.ext.to hbd (by simp))) U ?_);rintro v w ⟨rfl,hxN⟩;replace H:=H.call hxN;replace RA:=RA.ext0 hxN;replace RD:=RD.ext0 hxN;refine Ab (BM (H.ext) (AH U U ?_));refine AR ?_;have lsR:=H.ext.size;have lbR:=AY (H.get at0)
  refine Al qB (YK _ (I.grow H.ext (by simp) (Grows.refl _ _) fun x hx=>qaw (I.low x hx) H.size) (H.ext.to hbr (by simp))) U ?_;rintro v w ⟨hxR,aR,cR,qs,rfl,hql,RR,hR,hK⟩;have hsR:=hxR.size;replace H:=H.call hxR;replace RA:=RA.ext0 hxR;replace RD:=RD.ext0 hxR;refine Ab (BM (H.ext) (AH U U ?_));refine AR (Al qB (Adq _ (H.ext.to hbr (by simp)) I.no) U ?_);rintro v w ⟨rfl,hxO⟩;have hKO:=fun x hx=>(hK x hx).1.ext0 hxO;replace RA:=RA.ext0 hxO;replace RD:=RD.ext0 hxO;replace RR:=RR.ext0 hxO;replace H:=H.call hxO;have H8:=H;obtain⟨w8,rfl⟩:=qD w;clear H;have H:=Ctx.start1 (H8.get at0);refine Ab (BM (H8.ext) (AH U U ?_));refine OJ (stC s ⟨aA,cA,aD,cD,aR,cR,qs⟩) U pl_42 N2 ?_;refine AR (Bj IF U U U (by exact(by simp[AZ])) H at0 U ?_);rintro w H;refine Ab (B5 U (BG (A7 (Mg U U U OY IF H at0 U ?_))))
  have Z8:StAt w8 s ⟨aA,cA,aD,cD,aR,cR,qs⟩:=⟨RA,RD,RR,hql,hKO⟩;have off:StOff s ⟨aA,cA,aD,cD,aR,cR,qs⟩ (fun x=>x<w1.heap.size\/x=b2):=⟨fun g k=>by have:=hA g;dsimp only at k;omega,fun g k=>by have:=hD g;dsimp only at k;omega,fun g k=>by have:=hR g;dsimp only at k;omega,fun x hx=>(hK x hx).2.mono fun y hy=>by omega⟩;have hbw:w1.heap.size<=b2:=(H8.own (b2,_) (qac at0)).elim (fun h=>by cases h) id;exact⟨H8.ext.then H.ext (fun x hx => .inr (by rw[qab.1 hx];exact hbw)),⟨aA,cA,aD,cD,aR,cR,qs⟩,rfl,Z8.ext H.ext (off.mono fun x hx => .inr (qab.1 hx)),off.mono fun x hx => .inl hx⟩
def NO(acs:List Ac)(ds:List Du)(k i:Nat):Int:=(acs.getD k a00).ba+Cw ((ds.take i).map fun d=>plc k d*d.am)
theorem Rv{acs:List Ac}{ds:List Du}{k i:Nat}{d:Du}(h:ds[i]?=some d):NO acs ds k (i+1)=NO acs ds k i - (if d.fr=(k:Int)then d.am else 0)+(if d.to=(k:Int)then d.am else 0):=by
 unfold NO;rw[KA h,EL];have h1:Cw [plc k d*d.am]=plc k d*d.am:=by rw[Cg];show _+0=_;omega
 rw[h1];unfold plc
 by_cases g1:d.to=(k:Int)
 .rw[Gz g1,if_pos g1]
  by_cases g2:d.fr=(k:Int)
  .rw[Gz g2,if_pos g2];omega
  .rw[FN g2,if_neg g2];omega
 .rw[FN g1,if_neg g1]
  by_cases g2:d.fr=(k:Int)
  .rw[Gz g2,if_pos g2];omega
  .rw[FN g2,if_neg g2];omega
theorem U8{acs:List Ac}{ds:List Du}{k:Nat}(hb:0<=(acs.getD k a00).ba/\(acs.getD k a00).ba<=4503599627370496)(ham:∀d∈ds,0<=d.am/\d.am<=4503599627370496):∀i,i<=ds.length -> -(4503599627370496*((i:Int)+1))<=NO acs ds k i/\NO acs ds k i<=4503599627370496*((i:Int)+1)
 |0,_=>by
  have h:NO acs ds k 0=(acs.getD k a00).ba+0:=rfl;rw[h];omega
 |i+1,h=>by
  have ih:=U8 hb ham i (by omega);obtain⟨d,hd⟩:=AA (l:=ds) (i:=i);have h1:=ham d (qac hd);rw[Rv hd]
  split <;> split <;> omega
theorem YO{m:Lm}{s:Ld}{T:Nat->Prop}{k:Ak}(hk:k.kd=13)(_:AkIn k)(w:World)(I:LdIn w m s T)(H0:Ctx w (CT m s) w (LL m s)) :
  Ret prog 40 #[ptr m.bl,.agg (BA k).toArray] w (G1 w m s T k):=by
 obtain⟨w0,rfl⟩:=qD w;obtain⟨bl,ba,bd,br,b,a,c,full,o,arch⟩:=m;obtain⟨S0,hS0⟩:=qD (CT ⟨bl,ba,bd,br,b,a,c,full,o,arch⟩ s);have H:Ctx w0 S0 w0 ((bl,Bl 73 [ptr ba,ptr bd,ptr br,.int .i64 s.day])::(br,Bl 135 arch)::(ba,Bl 129 [.slice a s.acs.length c])::(bd,Bl 132 (DU b s.nx))::(b,o)::ent a 108 full):=by rw[hS0];exact H0
 have hn16:=(Co.1 I.ok.ac).1;have hbdb:bd≠b:=H.ne (i:=3) (j:=4) rfl rfl (by decide);have hR:ET s k=if inA s.acs k.a=true then⟨0,[KF s.acs s.ds k.a.toNat]⟩else⟨10,[]⟩:=by unfold ET;(iterate 10 rw[if_neg (by omega)]);rw[if_pos hk]
 have hS:Et s k=s:=by unfold Et;iterate 9 rw[if_neg (by omega)]
 have hstep:∀p,ET s k=p->Cr s k s p:=fun p h2=>by
  unfold Cr;rw[if_neg (by omega)];exact⟨hS.symm,h2.symm⟩
 refine Ay (fn:=f40) func40 U [.pointer (some ⟨bl,0,none⟩),.agg (BA k).toArray] U ?_;refine Ad (Br (BA k) (.agg _) U U H ?_);rintro b3 w - H;refine A4 U (Ae U (qA (DQ 2095296 (α:=Nat) (fun z=>[(6,ptr z),(7,.bool (inA s.acs k.a))]) (fun z w'=>Ctx w0 S0 w' ((z,Bl 108 (CQ (Dd s.acs k.a)))::(b3,Bl 25 (BA k))::(bl,Bl 73 [ptr ba,ptr bd,ptr br,.int .i64 s.day])::(br,Bl 135 arch)::(ba,Bl 129 [.slice a s.acs.length c])::(bd,Bl 132 (DU b s.nx))::(b,o)::ent a 108 full)) U ?_ ?_)))
 .skip
  refine Ot (.two [0,1,2,3,4,5] 6 (.one [7,8,9] 10 (.one [] 11 (.one [] 12 .stop))) 10 (.one [] 6 (.one [7,8,9] 11 (.one [] 12 .stop)))) (fun z=>z.heap[b3]?=some (Bl 25 (BA k))/\z.heap[bl]?=some (Bl 73 [ptr ba,ptr bd,ptr br,.int .i64 s.day])) Bq (⟨H.drew.get at0,H.drew.get at1⟩) ?_;refine IP U U U (BF U (Bg U (Ap GQ U (B3 ID U (fun _ hx=>(by rw[Aj hx.2];rfl)) ?_))));refine Ap F6 U (B3 Cd U (fun _ hx=>(by rw[Aj hx.1];rfl)) ?_);refine AR ?_;replace H:=H.drew;refine⟨?_,?_⟩
  .skip
   refine Al qB (Ob a _ c s.acs k.a _ (H.get at3) (OS.rd (t:=108) I.O (fun y hy=>H.blk y (qal [_,_,_,_,_,_] hy)) (fun _ _=>rfl) (by decide)) U (by omega)) U ?_;rintro v w ⟨rfl,hx18⟩;replace H:=H.call hx18;refine Ab (BU (by exact⟨H.get at0,H.get at1⟩) ?_);refine BS U U (DK U (Bv U U (Bv U U (AR (AU GF H ?_)))));rintro b6 w - H;refine Ab (BU (by exact⟨H.get at1,H.get at2⟩) ?_);refine BS U U (AR (Bj Da U U U (by exact It _) H at0 U ?_));rintro w H;refine Ab (BU (by exact⟨H.get at1,H.get at2⟩) ?_);refine BS U U (AR (Ai U (Ab (BU (by exact⟨H.get at1,H.get at2⟩) ?_))));refine Ej (Aa ?_);exact⟨b6,rfl,⟨rfl,rfl,trivial⟩,H⟩
  .skip
   refine AU GF H ?_;rintro b6 w - H;refine Ab (BU (by exact⟨H.get at1,H.get at2⟩) ?_);refine BS U U (AR (Al qB (Ob a _ c s.acs k.a _ (H.get at4) (OS.rd (t:=108) I.O (fun y hy=>H.blk y (qal [_,_,_,_,_,_,_] hy)) (fun _ _=>rfl) (by decide)) U (by omega)) U ?_));rintro v w ⟨rfl,hx18⟩;replace H:=H.call hx18;refine Ab (BU (by exact⟨H.get at1,H.get at2⟩) ?_);refine BS U U (DK U (Bv U U (Bv U U (AR (Bj Da U U U (by exact It _) H at0 U ?_)))));rintro w H;refine Ab (BU (by exact⟨H.get at1,H.get at2⟩) ?_);refine BS U U (AR (Ai U (Ab (BU (by exact⟨H.get at1,H.get at2⟩) ?_))));refine Ej (Aa ?_);exact⟨b6,rfl,⟨rfl,rfl,trivial⟩,H⟩
 .rintro b6 j7 w H;refine Ao (Ad (Aw U (BE U (qA (An _ U ?_ ?_)))))
  .intro h1;replace h1:=B7 h1
   have hf:inA s.acs k.a=false:=by cases hh:inA s.acs k.a with|false=>rfl|true=>rw[hh]at h1;cases h1
   refine Ad (A4 U (Ae U (qA (A7 (Av (BR (v1:=(.slice _ _ _)) (v2:=(.int _ _)) U U U U ?_))))));subst hS0;exact DM (P:=[_,_]) (m':=⟨bl,ba,bd,br,b,a,c,full,o,arch⟩) (s':=s) (l:=[]) (code:=10) I H (I5 _) (hstep _ (by rw[hR,if_neg (by rw[hf];decide)];rfl)) I.O I.M I.ok U U U U
  .intro h1;replace h1:=B9 h1
   have hf:inA s.acs k.a=true:=by cases hh:inA s.acs k.a with|true=>rfl|false=>rw[hh]at h1;cases h1
   have hki:=E6.1 hf;have hka:((k.a.toNat:Nat):Int)=k.a:=by omega
   have hga:=Js I.ok.ac hf;have hgd:s.acs.getD k.a.toNat a00=Dd s.acs k.a:=Bs (F8 hf)
   have h0:NO s.acs s.ds k.a.toNat 0=(Dd s.acs k.a).ba:=by
    have:NO s.acs s.ds k.a.toNat 0=(s.acs.getD k.a.toNat a00).ba+0:=rfl;rw[this,hgd,qc2]
   obtain⟨h64,-,-,-⟩:=Fb I.ok.du;have hmy:∀d∈s.ds,Es d=true:=fun d hd=>((GS I.ok.du).1 d hd).1;have ham:∀d∈s.ds,0<=d.am/\d.am<=4503599627370496:=fun d hd=>by have:=DA (hmy d hd);omega
   refine Aq (Aa (Ad (Ah Ef U (AB Bw U H at0 U (Ae U (qA (Ao (Ad (Ax U (AE U ?_))))))))));refine Ah FV U (AB Hx U H at2 U (Al qB (Jr I.ok.du _ ⟨b,s.nx,o,H.get at5,H.get at6,I.M⟩) U ?_));rintro v w ⟨hx29,a3,c3,rfl,R3⟩;replace H:=H.call hx29;refine Ba Dh U (Af U (qA (A1 ?_)));have H8:=H;obtain⟨w1,rfl⟩:=qD w;have hb3:=H8.get at1;clear H;have H:=Ctx.start w1 [];refine Bt 18014396361999616 (α:=Nat) (fun i=>[(8,.int .i64 (NO s.acs s.ds k.a.toNat i)),(31,.int .i64 (i:Int))]) (fun i w'=>i<=s.ds.length/\Ctx w1 [] w' []) (fun i=>s.ds.length - i) 0 U ?_ ?_ ?_
   .exact⟨by rw[h0];rfl,rfl,trivial⟩
   .exact⟨qaj _,H⟩
   .clear H;rintro i j w ⟨hi,H⟩;refine Ad (Bm U U (qA (Ao (An _ U ?_ ?_))))
    .intro h2;replace h2:=AM h2;obtain⟨d,hd⟩:=AA (l:=s.ds) (i:=i);have hbi:=U8 (acs:=s.acs) (ds:=s.ds) (k:=k.a.toNat) (by rw[hgd];exact hga.1) ham i hi;have hda:=ham d (qac hd);have hdn:=(DA (hmy d (qac hd))).2.2.1;have hst:=Rv (acs:=s.acs) (k:=k.a.toNat) hd;rw[hka]at hst;obtain⟨S,hS⟩:=qD (NO s.acs s.ds k.a.toNat i);rw[<-hS]at hbi hst |-;refine Aq (Aa (Ao (A1 (Ad (Be (R3.ext0 H.ext) Dh BO U U (by rfl) ?_)))));refine BQ _ DT BO U U (((R3.ext0 H.ext).row hd U)) (AU D4 H ?_);rintro b10 w - H;refine Bj BO U U U (by exact CW _) H at0 U ?_;rintro w H;refine qA ?_;replace H:Ctx w1 [] w [(b10,Bl 118 (CS d))]:=H;refine Ad (Ah F6 U (Bc Cd U ((H.old (Aj hb3 _) (by simp))) ?_));refine qA (A1 (Ad (Ah Gw U (AB Cd U H at0 U (BP U U (Ai U (qA (An _ U ?_ ?_))))))))
     .intro h3;replace h3:=AM h3;refine A0 (Af U (Ah Ez U (AB Bw U H at0 U (Bu U U ?_))));refine Ae U (Ab (A8 (A8 (Aa (A0 (Az U U ?_))))));refine Af U (qA ?_);exact⟨i+1,rfl,⟨qaa (Value.int .i64) (by rw[hst,if_pos h3.symm,if_neg (by omega)];omega),rfl,trivial⟩,⟨by omega,H.tail⟩,by omega⟩
     .intro h3;replace h3:=AN h3;refine Ad (Ah He U (AB Cd U H at0 U (BP U U (Ai U (qA (An _ U ?_ ?_))))))
      .intro h4;replace h4:=AM h4;refine A0 (Af U (Ah Ez U (AB Bw U H at0 U (Az U U ?_))));refine Ae U (Ab (A8 (A8 (Aa (A0 (Az U U ?_))))));refine Af U (qA ?_);exact⟨i+1,rfl,⟨qaa (Value.int .i64) (by rw[hst,if_neg (by omega),if_pos h4.symm];omega),rfl,trivial⟩,⟨by omega,H.tail⟩,by omega⟩
      .intro h4;replace h4:=AN h4;refine Aq (A8 (A8 (Aa (A0 (Az U U ?_)))));refine Af U (qA ?_);exact⟨i+1,rfl,⟨qaa (Value.int .i64) (by rw[hst,if_neg (by omega),if_neg (by omega)];omega),rfl,trivial⟩,⟨by omega,H.tail⟩,by omega⟩
    .intro h2;replace h2:=AN h2;obtain rfl:i=s.ds.length:=by omega
     have hfin:NO s.acs s.ds k.a.toNat s.ds.length=KF s.acs s.ds k.a.toNat:=by
      unfold NO KF;rw[qbj]
     rw[hfin];have H9:=H8.call H.ext;have H17:=Ctx.start w [];refine Bp (Am (Am (AO (Aa (Ad (Af U (Cs [.int .i64 (KF s.acs s.ds k.a.toNat)] (.int .i64 (KF s.acs s.ds k.a.toNat)) AV B2 E5 U U U U H17 ?_)))))));rintro b55 w2 - H17;refine A4 U (Ae U (qA (A7 (BR (v1:=(.slice _ _ _)) (v2:=(.int _ _)) U U U U ?_))));subst hS0;exact DM (P:=[_,_]) (m':=⟨bl,ba,bd,br,b,a,c,full,o,arch⟩) (s':=s) (l:=[KF s.acs s.ds k.a.toNat]) (code:=0) I H9 (GM (n:=1) (l:=[Dj (KF s.acs s.ds k.a.toNat)]) H17 U) (hstep _ (by rw[hR,if_pos hf];rfl)) I.O I.M I.ok U U U U
theorem YP{r:Rnd}(h:NM r=true):(1<=r.N/\r.N<=40)/\r.es.length<=200/\r.fl.length=r.es.length/\(r.pot.length:Int)=r.N/\r.ids.length<=64:=by
 unfold NM at h;simp only[qaf,qas]at h;obtain⟨hc,hi,-⟩:=h;obtain⟨h1,h2,-⟩:=Gq.1 hc;obtain⟨g1,g2,g3,-⟩:=CM (Cx (EX h1).1).2.1;exact⟨⟨g1,g2⟩,g3,(Cx (EX h1).1).1,(LI h2).1,hi⟩
theorem VT{m:Lm}{s:Ld}{T:Nat->Prop}{k:Ak}(hk:k.kd=15)(hin:AkIn k)(hg:SR s k.id=none)(w:World)(I:LdIn w m s T)(H0:Ctx w (CT m s) w (LL m s)) :
  Ret prog 42 #[ptr m.bl,.agg (BA k).toArray] w (G1 w m s T k):=by
 obtain⟨w0,rfl⟩:=qD w;obtain⟨bl,ba,bd,br,b,a,c,full,o,arch⟩:=m;obtain⟨S0,hS0⟩:=qD (CT ⟨bl,ba,bd,br,b,a,c,full,o,arch⟩ s);have H:Ctx w0 S0 w0 ((bl,Bl 73 [ptr ba,ptr bd,ptr br,.int .i64 s.day])::(br,Bl 135 arch)::(ba,Bl 129 [.slice a s.acs.length c])::(bd,Bl 132 (DU b s.nx))::(b,o)::ent a 108 full):=by rw[hS0];exact H0
 have hn16:=(Co.1 I.ok.ac).1;have hbdb:bd≠b:=H.ne (i:=3) (j:=4) rfl rfl (by decide);have hS:Et s k=s:=by unfold Et;iterate 9 rw[if_neg (by omega)]
 have hstep:∀p,ET s k=p->Cr s k s p:=fun p h2=>by
  unfold Cr;rw[if_neg (by omega)];exact⟨hS.symm,h2.symm⟩
 have hno:0<=s.no/\s.no<=4611686018427387904:=by have:=I.ok.kept;omega
 have hR:ET s k=⟨4,[]⟩:=by unfold ET;(iterate 12 rw[if_neg (by omega)]);rw[if_pos hk,hg]
 refine Ay (fn:=f42) func42 U [.pointer (some ⟨bl,0,none⟩),.agg (BA k).toArray] U ?_;refine Ad (Br (BA k) (.agg _) U U H ?_);rintro b3 w - H;refine A4 U (Ae U (qA (DQ 4190400 (α:=Nat) (fun z=>[(6,ptr z),(7,.bool false)]) (fun z w'=>Ctx w0 S0 w' ((z,Bl 127 rnd0)::(b3,Bl 25 (BA k))::(bl,Bl 73 [ptr ba,ptr bd,ptr br,.int .i64 s.day])::(br,Bl 135 arch)::(ba,Bl 129 [.slice a s.acs.length c])::(bd,Bl 132 (DU b s.nx))::(b,o)::ent a 108 full)) U ?_ ?_)))
 .skip
  refine Ot (.two [0,1,2,3,4,5] 6 (.one [7,8,9] 10 (.one [] 11 (.one [] 12 .stop))) 10 (.one [] 6 (.one [7,8,9] 11 (.one [] 12 .stop)))) (fun z=>z.heap[b3]?=some (Bl 25 (BA k))/\z.heap[bl]?=some (Bl 73 [ptr ba,ptr bd,ptr br,.int .i64 s.day])) Bq (⟨H.drew.get at0,H.drew.get at1⟩) ?_;refine IP U U U (BF U (Bg U (Ap KT U (B3 Q9 U (fun _ hx=>(by rw[Aj hx.2];rfl)) ?_))));refine Ap FT U (B3 Bz U (fun _ hx=>(by rw[Aj hx.1];rfl)) ?_);refine AR ?_;replace H:=H.drew;refine⟨?_,?_⟩
  .skip
   refine Al qB (U6 (n:=s.rn.length) _ (H.get at2) I.n I.no hno hin.id (Ru I.ok hg)) U ?_;rintro v w ⟨rfl,hx19⟩;replace H:=H.call hx19;refine Ab (BU (by exact⟨H.get at0,H.get at1⟩) ?_);refine BS U U (DK U (Bv U U (Bv U U (AR (AU Fi H ?_)))));rintro b6 w - H;refine Ab (BU (by exact⟨H.get at1,H.get at2⟩) ?_);refine BS U U (AR (Bj C1 U U U (by exact(by simp[rnd0,AZ])) H at0 U ?_));rintro w H;refine Ab (BU (by exact⟨H.get at1,H.get at2⟩) ?_);refine BS U U (AR (Ai U (Ab (BU (by exact⟨H.get at1,H.get at2⟩) ?_))));refine Ej (Aa ?_);exact⟨b6,rfl,⟨rfl,rfl,trivial⟩,H⟩
  .skip
   refine AU Fi H ?_;rintro b6 w - H;refine Ab (BU (by exact⟨H.get at1,H.get at2⟩) ?_);refine BS U U (AR (Al qB (U6 (n:=s.rn.length) _ (H.get at3) I.n I.no hno hin.id (Ru I.ok hg)) U ?_));rintro v w ⟨rfl,hx19⟩;replace H:=H.call hx19;refine Ab (BU (by exact⟨H.get at1,H.get at2⟩) ?_);refine BS U U (DK U (Bv U U (Bv U U (AR (Bj C1 U U U (by exact(by simp[rnd0,AZ])) H at0 U ?_)))));rintro w H;refine Ab (BU (by exact⟨H.get at1,H.get at2⟩) ?_);refine BS U U (AR (Ai U (Ab (BU (by exact⟨H.get at1,H.get at2⟩) ?_))));refine Ej (Aa ?_);exact⟨b6,rfl,⟨rfl,rfl,trivial⟩,H⟩
 .rintro b6 j7 w H;refine Ao (Ad (Aw U (BE U (qA (An _ U ?_ ?_)))))
  .intro h1;replace h1:=B7 h1;refine Ad (A4 U (Ae U (qA (A7 (Av (BR (v1:=(.slice _ _ _)) (v2:=(.int _ _)) U U U U ?_))))));subst hS0;exact DM (P:=[_,_]) (m':=⟨bl,ba,bd,br,b,a,c,full,o,arch⟩) (s':=s) (l:=[]) (code:=4) I H (I5 _) (hstep _ (by rw[hR];rfl)) I.O I.M I.ok U U U U
  .intro h1;replace h1:=B9 h1;cases h1
theorem VU{m:Lm}{s:Ld}{T:Nat->Prop}{k:Ak}(hk:k.kd=15)(hin:AkIn k){r:Rnd}(hg:SR s k.id=some r)(w:World)(I:LdIn w m s T)(H0:Ctx w (CT m s) w (LL m s)) :
  Ret prog 42 #[ptr m.bl,.agg (BA k).toArray] w (G1 w m s T k):=by
 obtain⟨w0,rfl⟩:=qD w;obtain⟨bl,ba,bd,br,b,a,c,full,o,arch⟩:=m;obtain⟨S0,hS0⟩:=qD (CT ⟨bl,ba,bd,br,b,a,c,full,o,arch⟩ s);have H:Ctx w0 S0 w0 ((bl,Bl 73 [ptr ba,ptr bd,ptr br,.int .i64 s.day])::(br,Bl 135 arch)::(ba,Bl 129 [.slice a s.acs.length c])::(bd,Bl 132 (DU b s.nx))::(b,o)::ent a 108 full):=by rw[hS0];exact H0
 have hn16:=(Co.1 I.ok.ac).1;have hbdb:bd≠b:=H.ne (i:=3) (j:=4) rfl rfl (by decide);have hS:Et s k=s:=by unfold Et;iterate 9 rw[if_neg (by omega)]
 have hstep:∀p,ET s k=p->Cr s k s p:=fun p h2=>by
  unfold Cr;rw[if_neg (by omega)];exact⟨hS.symm,h2.symm⟩
 have hno:0<=s.no/\s.no<=4611686018427387904:=by have:=I.ok.kept;omega
 have hR:ET s k=JO r k.b:=by unfold ET;(iterate 12 rw[if_neg (by omega)]);rw[if_pos hk,hg]
 obtain⟨hg1,hgm,hgn⟩:=YJ I.ok hg;have hmay:=I.ok.may r hgm;have hB:=Od hmay;obtain⟨hm1,hm2,hm3,hm4,hm5⟩:=YP hmay;obtain⟨q,hq1,hq2,hq3⟩:=I.kept r hgm;rw[hgn]at hq1;refine Ay (fn:=f42) func42 U [.pointer (some ⟨bl,0,none⟩),.agg (BA k).toArray] U ?_;refine Ad (Br (BA k) (.agg _) U U H ?_);rintro b3 w - H;refine A4 U (Ae U (qA (DQ 4190400 (α:=Nat × RSl) (fun z=>[(6,ptr z.1),(7,.bool true)]) (fun z w'=>RAt w' r z.2/\Ctx w0 S0 w' ((z.1,Bl 127 (B0 r z.2))::(b3,Bl 25 (BA k))::(bl,Bl 73 [ptr ba,ptr bd,ptr br,.int .i64 s.day])::(br,Bl 135 arch)::(ba,Bl 129 [.slice a s.acs.length c])::(bd,Bl 132 (DU b s.nx))::(b,o)::ent a 108 full)) U ?_ ?_)))
 .skip
  refine Ot (.two [0,1,2,3,4,5] 6 (.one [7,8,9] 10 (.one [] 11 (.one [] 12 .stop))) 10 (.one [] 6 (.one [7,8,9] 11 (.one [] 12 .stop)))) (fun z=>z.heap[b3]?=some (Bl 25 (BA k))/\z.heap[bl]?=some (Bl 73 [ptr ba,ptr bd,ptr br,.int .i64 s.day])) Bq (⟨H.drew.get at0,H.drew.get at1⟩) ?_;refine IP U U U (BF U (Bg U (Ap KT U (B3 Q9 U (fun _ hx=>(by rw[Aj hx.2];rfl)) ?_))));refine Ap FT U (B3 Bz U (fun _ hx=>(by rw[Aj hx.1];rfl)) ?_);refine AR ?_;replace H:=H.drew;refine⟨?_,?_⟩
  .skip
   refine Al qB (Rt (n:=s.rn.length) (r:=r) (q:=q) _ (H.get at2) I.len I.n I.no hno hin.id hg1 hq1 (hq2.ext H.ext (hq3.mono fun x hx=>I.own x (by rw[<-hS0];exact hx))) hB) U ?_;rintro v w ⟨hx19,q',rfl,RA,hoff⟩;have H9:=H.call hx19;clear H;obtain⟨w9,rfl,H⟩:=qE w;refine Ab (BU (by exact⟨H.ext.to (H9.get at0) (by simp),H.ext.to (H9.get at1) (by simp)⟩) ?_);refine BS U U (DK U (Bv U U (Bv U U (AR (AU Fi H ?_)))));rintro b6 w - H;refine Ab (BU (by exact⟨H.ext.to (H9.get at0) (by simp),H.ext.to (H9.get at1) (by simp)⟩) ?_);refine BS U U (AR (Bj C1 U U U (by simp[AZ]) H at0 U ?_));rintro w H;refine Ab (BU (by exact⟨H.ext.to (H9.get at0) (by simp),H.ext.to (H9.get at1) (by simp)⟩) ?_);refine BS U U (AR (Ai U (Ab (BU (by exact⟨H.ext.to (H9.get at0) (by simp),H.ext.to (H9.get at1) (by simp)⟩) ?_))));refine Ej ?_
   refine Aa ?_;exact⟨(b6,q'),rfl,⟨rfl,rfl,trivial⟩,RA.ext0 H.ext,Ctx.mid (B:=[]) (L:=[]) H9 H⟩
  .skip
   refine AU Fi H ?_;rintro b6 w - H;refine Ab (BU (by exact⟨H.get at1,H.get at2⟩) ?_);refine BS U U (AR (Al qB (Rt (n:=s.rn.length) (r:=r) (q:=q) _ (H.get at3) I.len I.n I.no hno hin.id hg1 hq1 (hq2.ext H.ext (hq3.mono fun x hx=>I.own x (by rw[<-hS0];exact hx))) hB) U ?_));rintro v w ⟨hx19,q',rfl,RA,hoff⟩;have hlt:=AY (H.get at0);have H9:=H.call hx19;clear H;obtain⟨w9,rfl⟩:=qD w;have H:=Ctx.start1 (H9.get at0);refine Ab (BU (by exact⟨H.ext.to (H9.get at1) (by rw[qab];exact H9.ne (i:=1) (j:=0) rfl rfl (by decide)),H.ext.to (H9.get at2) (by rw[qab];exact H9.ne (i:=2) (j:=0) rfl rfl (by decide))⟩) ?_);refine BS U U (DK U (Bv U U (Bv U U (AR (Bj C1 U U U (by simp[AZ]) H at0 U ?_)))));rintro w H
   refine Ab (BU (by exact⟨H.ext.to (H9.get at1) (by rw[qab];exact H9.ne (i:=1) (j:=0) rfl rfl (by decide)),H.ext.to (H9.get at2) (by rw[qab];exact H9.ne (i:=2) (j:=0) rfl rfl (by decide))⟩) ?_);refine BS U U ?_;refine AR (Ai U (Ab (BU (by exact⟨H.ext.to (H9.get at1) (by rw[qab];exact H9.ne (i:=1) (j:=0) rfl rfl (by decide)),H.ext.to (H9.get at2) (by rw[qab];exact H9.ne (i:=2) (j:=0) rfl rfl (by decide))⟩) ?_)));refine Ej (Aa ?_);exact⟨(b6,q'),rfl,⟨rfl,rfl,trivial⟩,RA.ext H.ext (hoff.mono fun x hx=>by rw[qab.1 hx];exact hlt),Ctx.mid (B:=[]) (L:=[_]) H9 H⟩
 .rintro⟨b6,q'⟩ j7 w ⟨RA,H⟩;dsimp only at RA H;have H8:=H;have hb6:=H8.get at0;have hb3:=H8.get at1;obtain⟨w1,rfl⟩:=qD w;clear H;have H:=Ctx.start w1 [];refine Ao (Ad (Aw U (BE U (qA (An _ U ?_ ?_)))))
  .intro h1;replace h1:=B7 h1;cases h1
  .intro h1;replace h1:=B9 h1;refine Aq (Aa (Dw (fun x=>x=_) Bq U ?_));refine A5 Sh U (BX Cd U (by rintro _ rfl;exact((by rw[Aj (H.drew.ext.to hb3 (by simp))];rfl))) ?_);refine A5 E0 U (A5 CE U (BX D7 U (by rintro _ rfl;exact((by rw[Aj (H.drew.ext.to hb6 (by simp))];rfl))) ?_));refine Agy U C8 U (Dp U (Dp U (BT ?_)));rintro _ rfl;replace H:=H.drew;refine Ao (A1 (Ad (BV (α:=Unit) 4396972769280 (fun _=>[(30,.bool ((decide (k.b < -1) || decide ((r.es.length:Int)+r.N<=k.b))))]) (fun _ w'=>Ctx w1 [] w' []) U ?_ ?_)))
   .refine Af U (Bm U U (Aw U (AK 33 U ?_ ?_)))
    .intro h1;replace h1:=AM h1;refine Ag U (Ag U (Ag U (Ag U (Ag U (Ag U (Ag U (A6 U (.bool _) U (Ai U (Ab ?_)))))))));exact⟨rfl,(),rfl,⟨qaa Value.bool (by rw[qad];simp_all;try omega),trivial⟩,H⟩
    .intro h2;replace h2:=AN h2;refine Af U (Af U (Ah E0 U (Ah Eg U (Bc Cd U ((H.old (Aj hb6 _) (by simp))) ?_))));refine Az U U (CG U U (A9 U (.bool _) U (Ai U (Ab ?_))));exact⟨rfl,(),rfl,⟨qaa Value.bool (by rw[qad];simp_all;try omega),trivial⟩,H⟩
   rintro - j30 w H;refine An _ U ?_ ?_
   .intro h2;have h2':k.b < -1\/(r.es.length:Int)+r.N<=k.b:=by simpa using h2
    refine Ad (A4 U (Ae U (qA (A7 (AF (Av (BR (v1:=(.slice _ _ _)) (v2:=(.int _ _)) U U U U ?_)))))));have H9:=H8.call H.ext;subst hS0;exact DM (P:=[_,_]) (m':=⟨bl,ba,bd,br,b,a,c,full,o,arch⟩) (s':=s) (l:=[]) (code:=1) I H9 (I5 _) (hstep _ (by rw[hR];unfold JO;rw[if_pos h2'];rfl)) I.O I.M I.ok U U U U
   .intro h2;have h2':¬(k.b < -1\/(r.es.length:Int)+r.N<=k.b):=by simpa using h2
    refine Ad (Af U (BP U U (Ai U (qA (An _ U ?_ ?_)))))
    .intro h3;replace h3:=AM h3;refine Cq [([0,1,2,3,5,6,7,8,9,10,11],4),([],12),([13],14)] (fun z=>Ext [] w1 z) [] Bq (H.drew.ext) (AH U U ?_);refine Ap Jh U (B3 Bw U (fun _ hx=>(by rw[Aj (hx.to hb6 (by simp))];rfl)) ?_);refine Ap Mo U (B3 Kl U (fun _ hx=>(by rw[Aj (hx.to hb6 (by simp))];rfl)) ?_);refine Ap E0 U (Ap Eg U (B3 Cd U (fun _ hx=>(by rw[Aj (hx.to hb6 (by simp))];rfl)) ?_));refine Bd U (Ap Eh U (B3 FE U (fun _ hx=>(by rw[Aj (hx.to hb6 (by simp))];rfl)) ?_));refine Zh U Bh U (AR ?_);replace H:=H.drew;refine Al qB (Xh r.cmp _) U ?_;rintro v w ⟨rfl,rfl⟩;refine Ab (BM (H.ext) (AH U U ?_));refine AR (D0 ([r.day,ND r.cmp,r.N,(r.es.length:Int),(r.ids.length:Int)].map Dj) AV B2 E5 (Ctx.start _ []) ?_);rintro b57 w2 - H17;refine Ab (BM (H.ext.trans H17.ext) (AH U U ?_))
     refine Ea U (AR (Ae U (Ab (BM (H.ext.trans H17.ext) (BG (A7 (AF (Av (BR (v1:=(.slice _ _ _)) (v2:=(.int _ _)) U U U U ?_)))))))));have H9:=H8.call H.ext;subst hS0;exact DM (P:=[_,_]) (m':=⟨bl,ba,bd,br,b,a,c,full,o,arch⟩) (s':=s) (l:=[r.day,ND r.cmp,r.N,(r.es.length:Int),(r.ids.length:Int)]) (code:=0) I H9 (GM (n:=5) H17 U) (hstep _ (by rw[hR];unfold JO;rw[if_neg h2',if_pos h3];rfl)) I.O I.M I.ok U U U U
    .intro h3;replace h3:=AN h3;refine Ad (Af U (Af U (CG U U (Ai U (qA (An _ U ?_ ?_))))))
     .intro h4;replace h4:=AM h4;obtain⟨y,hy⟩:=AA (l:=r.pot) (i:=(k.b - (r.es.length:Int)).toNat);refine Ad (Ah Dq U (Ah FK U (Bc BN U ((H.old (Aj hb6 _) (by simp))) ?_)));refine Af U (Af U (Bu U U ?_));refine Be (RA.P.ext0 H.ext) AV B2 U U (by rfl) (Bc Bw U (((RA.P.ext0 H.ext).one (f:=Dj) hy)) ?_);have H17:=Ctx.start w [];refine Cs [.int .i64 y] (.int .i64 y) AV B2 E5 U U U U H17 ?_;rintro b70 w2 - H17;refine A4 U (Ae U (qA (A7 (AF (Av (BR (v1:=(.slice _ _ _)) (v2:=(.int _ _)) U U U U ?_))))));have H9:=H8.call H.ext;subst hS0;exact DM (P:=[_,_]) (m':=⟨bl,ba,bd,br,b,a,c,full,o,arch⟩) (s':=s) (l:=[y]) (code:=0) I H9 (GM (n:=1) (l:=[Dj y]) H17 U) (hstep _ (by rw[hR];unfold JO;rw[if_neg h2',if_neg h3,if_pos h4,Bs hy];rfl)) I.O I.M I.ok U U U U
     .intro h4;replace h4:=AN h4;obtain⟨x,hxe⟩:=AA (l:=r.es) (i:=k.b.toNat);obtain⟨f,hf⟩:=AA (l:=r.fl) (i:=k.b.toNat);refine Aq (A8 (Aa (Ad (Ah E0 U (Ah CE U (Bc D7 U ((H.old (Aj hb6 _) (by simp))) ?_))))));refine Af U (Be (RA.E.ext0 H.ext) C8 C9 U U (by rfl) ?_);refine BQ _ GD C9 U U (((RA.E.ext0 H.ext).row hxe U)) (AU FZ H ?_);rintro b10 w - H;refine Bj C9 U U U (by exact Io _) H at0 U ?_;rintro w H;refine Ae U (qA (Ao ?_));replace H:Ctx w1 [] w [(b10,Bl 158 (CJ x))]:=H;refine Ad (Af U (Ah Eh U (Bc FE U ((H.old (Aj hb6 _) (by simp))) ?_)));refine Ba Bh U (Bm U U (qA (An _ U ?_ ?_)))
      .intro h5;replace h5:=AM h5;obtain⟨y,hy⟩:=AA (l:=r.ids) (i:=k.b.toNat);refine A0 (Ah Eh U (Bc FE U ((H.old (Aj hb6 _) (by simp))) ?_));refine Af U (Be (RA.I.ext0 H.ext) Bh Bo U U (by rfl) ?_);refine Bc Bz U (((RA.I.ext0 H.ext).one (f:=G3) hy)) (Za U U Fk XJ ?_);refine Ae U (qA (Cq [([0,1,2,3,4,5,6,7,8,9,10,11,12,13,14],15),([16],17)] (fun z=>Ext [] w1 z/\z.heap[b10]?=some (Bl 158 (CJ x))) [] Bq (⟨H.drew.ext,H.drew.get at0⟩) ?_));refine AH U U (Ap Fv U (B3 Cd U (fun _ hx=>(by rw[Aj hx.2];rfl)) ?_));refine Ap Fw U (B3 Cd U (fun _ hx=>(by rw[Aj hx.2];rfl)) ?_);refine Ap E3 U (B3 Bw U (fun _ hx=>(by rw[Aj hx.2];rfl)) ?_);refine Ap Gx U (B3 Bw U (fun _ hx=>(by rw[Aj hx.2];rfl)) ?_);refine Ap Dq U (Ap EU U (B3 BN U (fun _ hx=>(by rw[Aj (hx.1.to hb6 (by simp))];rfl)) ?_))
       refine Bd U (DI (RA.F.ext0 H.ext) AV B2 U U (hn:=by rfl) ?_);refine B3 Bw U (fun _ hx=>((RA.F.ext0 hx.1).one (f:=Dj) hf)) (Bd U (AR ?_));replace H:=H.drew;refine D0 ([x.f,x.t,x.cap,x.cost,f,IntKind.i64.wrap y].map Dj) AV B2 E5 (Ctx.start _ []) ?_;rintro b103 w2 - H17;refine Ab (BM (⟨H.ext.trans H17.ext,H17.ext.to (H.get at0) (by simp)⟩) ?_);refine AH U U (Ea U (AR (Ae U (Ab (BM (⟨H.ext.trans H17.ext,H17.ext.to (H.get at0) (by simp)⟩) ?_)))));refine BG (A7 (BR (v1:=(.slice _ _ _)) (v2:=(.int _ _)) U U U U ?_));have H9:=H8.call H.ext;subst hS0
       exact DM (P:=[_,_]) (m':=⟨bl,ba,bd,br,b,a,c,full,o,arch⟩) (s':=s) (l:=[x.f,x.t,x.cap,x.cost,f,IntKind.i64.wrap y]) (code:=0) I H9 (GM (n:=6) H17 U) (hstep _ (by rw[hR];unfold JO;rw[if_neg h2',if_neg h3,if_neg h4,Bs hxe,Bs hf,if_pos h5,Bs hy];rfl)) I.O I.M I.ok U U U U
      .intro h5;replace h5:=AN h5;refine Aq (Aa (Cq [([0,1,2,3,4,5,6,7,8,9,10,11,12,13,14],15),([16],17)] (fun z=>Ext [] w1 z/\z.heap[b10]?=some (Bl 158 (CJ x))) [] Bq (⟨H.drew.ext,H.drew.get at0⟩) ?_));refine AH U U (Ap Fv U (B3 Cd U (fun _ hx=>(by rw[Aj hx.2];rfl)) ?_));refine Ap Fw U (B3 Cd U (fun _ hx=>(by rw[Aj hx.2];rfl)) ?_);refine Ap E3 U (B3 Bw U (fun _ hx=>(by rw[Aj hx.2];rfl)) ?_);refine Ap Gx U (B3 Bw U (fun _ hx=>(by rw[Aj hx.2];rfl)) ?_);refine Ap Dq U (Ap EU U (B3 BN U (fun _ hx=>(by rw[Aj (hx.1.to hb6 (by simp))];rfl)) ?_));refine Bd U (DI (RA.F.ext0 H.ext) AV B2 U U (hn:=by rfl) ?_);refine B3 Bw U (fun _ hx=>((RA.F.ext0 hx.1).one (f:=Dj) hf)) (Bd U (AR ?_));replace H:=H.drew
       refine D0 ([x.f,x.t,x.cap,x.cost,f,0].map Dj) AV B2 E5 (Ctx.start _ []) ?_;rintro b103 w2 - H17;refine Ab (BM (⟨H.ext.trans H17.ext,H17.ext.to (H.get at0) (by simp)⟩) ?_);refine AH U U (Ea U (AR (Ae U (Ab (BM (⟨H.ext.trans H17.ext,H17.ext.to (H.get at0) (by simp)⟩) ?_)))));refine BG (A7 (BR (v1:=(.slice _ _ _)) (v2:=(.int _ _)) U U U U ?_));have H9:=H8.call H.ext;subst hS0;exact DM (P:=[_,_]) (m':=⟨bl,ba,bd,br,b,a,c,full,o,arch⟩) (s':=s) (l:=[x.f,x.t,x.cap,x.cost,f,0]) (code:=0) I H9 (GM (n:=6) H17 U) (hstep _ (by rw[hR];unfold JO;rw[if_neg h2',if_neg h3,if_neg h4,Bs hxe,Bs hf,if_neg h5];rfl)) I.O I.M I.ok U U U U
theorem YQ{m:Lm}{s:Ld}{T:Nat->Prop}{k:Ak}(hk:k.kd=15)(hin:AkIn k)(w:World)(I:LdIn w m s T)(H0:Ctx w (CT m s) w (LL m s)) :
  Ret prog 42 #[ptr m.bl,.agg (BA k).toArray] w (G1 w m s T k):=by
 cases hg:SR s k.id with
 |none=>exact VT hk hin hg w I H0
 |some r=>exact VU hk hin hg w I H0
theorem Adw(b p:Option Addr)(m e u f:Nat)(ds:List Du)(xs:List Int)(w:World)(Rd':Rd w b 7 CS ds)(hm:ds.length=m)(Rp:Rd w p 1 I1 xs)(hu:xs.length=u)(hp:PayIn (opn ds) xs)(hmay:∀d∈opn ds,Es d=true)(htot:Cw ((opn ds).map Du.am)<=4503599627370496)(hm2:m<=1000000:=by omega):
  Ret prog 84 #[.slice b m e,.slice p u f] w fun v w'=>v=.int .i64 (Fy (opn ds) xs (opn ds).length)/\Ext [] w w':=by
 subst hm hu;obtain⟨w0,rfl,H⟩:=qE w;have hol:=IK ds;refine Ay (fn:=f84) func84 U [.slice b ds.length e,.slice p xs.length f] U (Ad (Ae U (qA (Ad (A2 U (Al qB (WL b ds.length e ds _ Rd' U hm2) U ?_))))));rintro v w F;obtain⟨ao,no,co,fo,rfl,OO,hbo⟩:=F.ex;replace H:=H.call F.ext;refine A4 U (qA (Ao ?_));obtain rfl:no=(opn ds).length:=OO.numN (fun _ _=>rfl) (by decide);have RO0:Rd w ao 7 CS (opn ds):=OS.rd OO (fun y hy=>(hbo y hy).1) (fun _ _=>rfl) (by decide);have hE1:=H.ext;obtain⟨w1,rfl⟩:=qD w;clear H;have H:=Ctx.start w1 [];have hlen:=hp.1;have hRf:∀{w:World},Ext [] w1 w->Rd w ao 7 CS (opn ds):=fun h=>RO0.ext0 h;have hRp:∀{w:World},Ext [] w1 w->Rd w p 1 I1 xs:=fun h=>Rp.ext0 (hE1.trans h);refine Ad (A2 U (Ba Dh U (A2 U (Ba AV U (Cv U U (qA (An _ U ?_ ?_)))))))
 .intro h1;replace h1:=Cy h1;omega
 .intro h1;replace h1:=Cz h1;refine Aq (Aa (Ad (Ae U (qA (Ao (Ad (A2 U (Ba Dh U (Af U (qA ?_))))))))));refine A1 (Bt 4294836448 (α:=Nat) (fun i=>[(17,.int .i64 (i:Int)),(5,.int .i64 (Fy (opn ds) xs i))]) (fun i w'=>i<=(opn ds).length/\Ctx w1 [] w' []) (fun i=>(opn ds).length - i) 0 U ?_ ?_ ?_)
  .exact⟨rfl,rfl,trivial⟩
  .exact⟨qaj _,H⟩
  .clear H;rintro i j w ⟨hi,H⟩;refine Ad (Bm U U (qA (Ao (An _ U ?_ ?_))))
   .intro h3;replace h3:=AM h3;obtain⟨d,hd⟩:=AA (l:=opn ds) (i:=i);obtain⟨x,hxv⟩:=AA (l:=xs) (i:=i);have hma:=DA (hmay d (qac hd));have hxr:=hp.2 i d x hd hxv;have hwe:∀d∈opn ds,0<=d.we/\d.we<=1000:=fun d hd=>by have:=DA (hmay d hd);omega
    have hps:∀k,Cw (((opn ds).map Du.am).take k)<=4503599627370496:=fun k=>qbg (Y4 (fun y hy=>by obtain⟨d',hd',rfl⟩:=qag.1 hy;have:=DA (hmay d' hd');omega) k) htot;have hw0:=LN hp hwe i hi;have hw1:=LN hp hwe (i+1) (by omega);have hp0:=hps i;have hp1:=hps (i+1);have hstep:=NB hd hxv;have hm1:0<=d.we*x:=qdg (by omega) hxr.1;have hm2:d.we*x<=4503599627370496000:=by omega
    refine Aq (Aa (Ao (A1 (Ad (Af U (Be (hRf H.ext) Dh BO U U (by rfl) ?_))))));refine BQ _ DT BO U U ((hRf H.ext).row hd U) (AU D4 H ?_);rintro b7 w - H;refine Ae U (Bj BO U U U (by exact CW _) H at0 U ?_);rintro w H;refine qA ?_;replace H:Ctx w1 [] w [(b7,Bl 118 (CS d))]:=H;refine Fh [([0,1,2,3,4,5,6,7,8],9)] (fun z=>Ext [] w1 z/\z.heap[b7]?=some (Bl 118 (CS d))) [] Bq (⟨H.drew.ext,H.drew.get at0⟩) ?_;refine AH U U (Bd U (Ap Kn U (B3 Bw U (fun _ hx=>(by rw[Aj hx.2];rfl)) ?_)));refine B4 U (Bd U (DI (hRp H.ext) AV B2 U U (hn:=by rfl) ?_));refine B3 Bw U (fun _ hx=>((hRp hx.1).one (f:=Dj) hxv)) (X3 U U U ?_);refine Ev U U (AR ?_);replace H:=H.drew
    refine Ae U (Ab (BM (⟨H.ext,H.get at0⟩) (BG (A8 (Aa (A0 (Az U U ?_)))))));refine Af U (qA ?_);exact⟨i+1,rfl,⟨rfl,qaa (Value.int .i64) hstep.symm,trivial⟩,⟨by omega,H.tail⟩,by omega⟩
   .intro h3;replace h3:=AN h3;obtain rfl:i=(opn ds).length:=by omega
    refine Bp (Am (Am (AO (Aa (Ad (Af U (Ae U (qA (A7 (AD (v:=(.int _ _)) U U U ?_))))))))));exact⟨rfl,hE1.trans H.ext⟩
end Go.Proofs.YtffclglpjlcojaaGreat
