/- Part 12 of the proof. -/
import Derived.Test.YtdagmpmdcgedcaaGreatPart2
import Derived.Test.YtdagmpmdcgedcaaGreatPart11
import Derived.Test.YtdagmpmdcgedcaaGreatPart4
import Derived.Test.YtdagmpmdcgedcaaGreatPart9
import Derived.Test.YtdagmpmdcgedcaaGreatPart8
import Derived.Test.YtdagmpmdcgedcaaGreatPart10
import Derived.Test.YtdagmpmdcgedcaaGreatPart3
namespace Go.Proofs.YtdagmpmdcgedcaaGreat
open Go.GV
attribute [local irreducible] AD W Wq Wt
set_option maxRecDepth 20000 in
set_option maxHeartbeats 1000000 in
theorem Ae1 {m:Lm} {s:Ld} {T:Nat→Prop} {k:Ak} (hk:k.kd=5) (hin:AkIn k) (w:World) (I:LdIn w m s T) (H0:Ctx w (De m s) w (LL m s)) :
  Ret Tryz.prog 58 #[ptr m.bl,.agg (Co k).toArray] w (Gp w m s T k):=by
 obtain ⟨w0,rfl⟩:∃ w0,w0=w:=⟨_,rfl⟩;obtain ⟨bl,ba,bd,br,b,a,c,full,o,arch⟩:=m;obtain ⟨S0,hS0⟩:∃ S,S=De ⟨bl,ba,bd,br,b,a,c,full,o,arch⟩ s:=⟨_,rfl⟩;have H:Ctx w0 S0 w0 ((bl,Bl 106 [ptr ba,ptr bd,ptr br,.int .i64 s.day])::(br,Bl 168 arch)::(ba,Bl 162 [.slice a s.acs.length c])::(bd,Bl 165 (DU b s.nx))::(b,o)::ent a 43 full):=by rw [hS0]; exact H0
 have hn16:=(Cd.1 I.ok.ac).1;have hbdb:bd≠b:=H.ne (i:=3) (j:=4) rfl rfl (by decide);have hS:Es s k=if (inA s.acs k.a && inA s.acs k.b)=true∧s.day≤k.u then { s with ds:=MZ s.ds s.nx k.a k.b k.x k.w k.u,nx:=P5 s.ds s.nx k.a k.b k.x k.w k.u } else s:=by unfold Es; rw [if_neg (by omega),if_neg (by omega),if_neg (by omega),if_neg (by omega),if_pos hk]
 have hR:EC s k=if (inA s.acs k.a && inA s.acs k.b)=false then ⟨10,[]⟩ else if k.u<s.day then ⟨1,[]⟩ else rp [IntKind.i64.wrap s.nx] (J4 s.ds s.nx k.a k.b k.x k.w k.u):=by unfold EC; rw [if_neg (by omega),if_neg (by omega),if_neg (by omega),if_neg (by omega),if_pos hk]
 have hstep:∀ s' p,Es s k=s'→EC s k=p→Cq s k s' p:=fun s' p h1 h2=>by
  unfold Cq;rw [if_neg (by omega)];exact ⟨h1.symm,h2.symm⟩
 have hokS:=J6 I.ok k hin.u.2;obtain ⟨-,hnx,-,-⟩:=Er I.ok.du;have hw:IntKind.i64.wrap s.nx=s.nx:=CV (show (-9223372036854775808:Int)≤s.nx by omega) (show s.nx≤(9223372036854775807:Int) by omega);refine Az (fn:=Tryz.f58) Tryz.func58 U [.pointer (some ⟨bl,0,none⟩),.agg (Co k).toArray] U (by kernel_rfl) ?_;refine Ae (Bx (Co k) (.agg _) U U H ?_);rintro b3 w - H;refine A4 U (Af U (Ab (Aa (Au (A0 (Ae (Cb (α:=Unit) 2096896 (fun _=>[(8,.bool (!(inA s.acs k.a && inA s.acs k.b)))]) (fun _ w'=>Ctx w0 S0 w' ([(b3,Bl 40 (Co k)),(bl,Bl 106 [ptr ba,ptr bd,ptr br,.int .i64 s.day]),(br,Bl 168 arch),(ba,Bl 162 [.slice a s.acs.length c]),(bd,Bl 165 (DU b s.nx)),(b,o)]++ent a 43 full)) U ?_ ?_)))))))
 ·refine A2 U (Ah Gh U (AH BZ U H at0 U (Al Afq (Uy k.a _ (H.get at1) (H.get at3) (OS.rd (t:=43) I.O (fun y hy=>H.blk y (List.mem_append_right [_,_,_,_,_,_] hy)) (fun _ _=>rfl) (by decide))) U ?_)));rintro v w ⟨rfl,hxb⟩;replace H:=H.call hxb;refine BF U (A7 U (AO 14 U ?_ ?_))
  ·intro h1;replace h1:=BG h1;refine Ag U (Ag U (Ag U (Ag U (Ag U (AF U (.bool _) U (Ai U (Ab ?_)))))));exact ⟨rfl,(),rfl,⟨congrArg Value.bool (by cases h1:inA s.acs k.a <;> cases h2:inA s.acs k.b <;> simp_all),trivial⟩,H⟩
  ·intro h2;replace h2:=BH h2;refine A2 U (Ah Sb U (AH BZ U H at0 U (Al Afq (Uy k.b _ (H.get at1) (H.get at3) (OS.rd (t:=43) I.O (fun y hy=>H.blk y (List.mem_append_right [_,_,_,_,_,_] hy)) (fun _ _=>rfl) (by decide))) U ?_)));rintro v w ⟨rfl,hxb⟩;replace H:=H.call hxb;refine BF U (AG U (.bool _) U (Ai U (Ab ?_)));exact ⟨rfl,(),rfl,⟨congrArg Value.bool (by cases h1:inA s.acs k.a <;> cases h2:inA s.acs k.b <;> simp_all),trivial⟩,H⟩
 rintro - j8 w H;refine Ao _ U ?_ ?_
 ·intro h1;replace h1:=BG h1;replace h1:(inA s.acs k.a && inA s.acs k.b)=false:=by revert h1; cases (inA s.acs k.a && inA s.acs k.b) <;> simp
  refine Ae (A4 U (Af U (Ab (Aa (A5 (AB (Aq (Ca (v1:=(.slice _ _ _)) (v2:=(.int _ _)) U U U U ?_))))))));subst hS0;exact DO (P:=[_]) (m':=⟨bl,ba,bd,br,b,a,c,full,o,arch⟩) (s':=s) (l:=[]) (code:=10) I H (Ie _) (hstep _ _ (by rw [hS,if_neg (by rw [h1]; simp)]) (by rw [hR,if_pos h1]; rfl)) I.O I.M I.ok U U U U
 ·intro h1;replace h1:=BH h1;replace h1:(inA s.acs k.a && inA s.acs k.b)=true:=by revert h1; cases (inA s.acs k.a && inA s.acs k.b) <;> simp
  refine Dw (fun x=>x=_) Bq (by kernel_rfl) U ?_;refine A3 LN U (Cc Bs U (by rintro _ rfl; exact H.drew) at0 U ?_);refine B5 U (AZ U (A3 JT U (Cc Bs U (by rintro _ rfl; exact H.drew) at1 U ?_)));refine KM U U (MD U U (BQ ?_));rintro _ rfl;replace H:=H.drew;refine Ao _ U ?_ ?_
  ·intro h2;replace h2:=AM h2;refine Ae (A4 U (Af U (Ab (Aa (A5 (AB (Aq (Ca (v1:=(.slice _ _ _)) (v2:=(.int _ _)) U U U U ?_))))))));subst hS0;exact DO (P:=[_]) (m':=⟨bl,ba,bd,br,b,a,c,full,o,arch⟩) (s':=s) (l:=[]) (code:=1) I H (Ie _) (hstep _ _ (by rw [hS,if_neg (fun h=>by omega)]) (by rw [hR,if_neg (by rw [h1]; decide),if_pos h2]; rfl)) I.O I.M I.ok U U U U
  ·intro h2;replace h2:=AN h2;rw [hS,if_pos ⟨h1,by omega⟩] at hokS;obtain ⟨y,hy,hy0⟩:∃ y,(if J4 s.ds s.nx k.a k.b k.x k.w k.u=0 then s.nx else 0)=y∧0≤y∧y≤4611686018427387904:=⟨_,rfl,by split <;> omega,by split <;> omega⟩
   have hst:Cq s k { s with ds:=MZ s.ds s.nx k.a k.b k.x k.w k.u,nx:=P5 s.ds s.nx k.a k.b k.x k.w k.u } (rp [y] (J4 s.ds s.nx k.a k.b k.x k.w k.u)):=hstep _ _ (by rw [hS,if_pos ⟨h1,by omega⟩]) (by
    rw [hR,if_neg (by rw [h1]; decide),if_neg h2,hw]
    by_cases h0:J4 s.ds s.nx k.a k.b k.x k.w k.u=0
    ·rw [if_pos h0] at hy; rw [hy]
    ·rw [Rb h0,Rb h0])
   refine Ap (A6 (Aa (Cv [([0,1,2,3,4,5,6,7,8,9,10,11,12,13],14),([15,16,17,18],19)] (fun z=>z.heap[b3]? = some (Bl 40 (Co k))∧z.heap[bl]? = some (Bl 106 [ptr ba,ptr bd,ptr br,.int .i64 s.day])) [14,19] Bq (by kernel_rfl) (⟨H.drew.get at0,H.drew.get at1⟩) ?_)));refine AE U U ?_;refine BL U (Bf U (Am EP U (Bw F7 U (fun _ hx=>(by rw [Aj hx.2]; rfl)) ?_)));refine Am Gh U (Bw BZ U (fun _ hx=>(by rw [Aj hx.1]; rfl)) ?_);refine Am Sb U (Bw BZ U (fun _ hx=>(by rw [Aj hx.1]; rfl)) ?_);refine Am K3 U (Bw Bs U (fun _ hx=>(by rw [Aj hx.1]; rfl)) ?_);refine Am Add U (Bw Bs U (fun _ hx=>(by rw [Aj hx.1]; rfl)) ?_);refine Am LN U (Bw Bs U (fun _ hx=>(by rw [Aj hx.1]; rfl)) ?_);refine AP ?_;replace H:=H.drew;refine Al Agp (Abz k.a k.b k.x k.w k.u _ (H.get at4) (H.get at5) I.M hbdb I.ok.du) U ?_;rintro v w ⟨rfl,o',hM',H7⟩;rw [hy]
   replace H:=Ctx.mid (B:=[_,_,_,_]) (L:=[_,_]) H H7;refine Ab (B4 U (AE U U ?_));refine DF U (Bu U U (Bu U U (Kx U U (AP (Af U (Ab (B4 U (BJ (Ae (Ad U ?_))))))))));refine GJ U U F5 Vm ?_;have H17:=Ctx.start w [];refine Cj [.int .i64 y] (.int .i64 y) AU Bz Ei U (by decide) (by decide) U U U H17 ?_;rintro b49 w2 - H17;refine Ad U (A4 U (Af U (Ab (Aa (A5 (Ca (v1:=(.slice _ _ _)) (v2:=(.int _ _)) U U U U ?_))))));subst hS0;exact DO (P:=[_]) (m':=⟨bl,ba,bd,br,b,a,c,full,o',arch⟩) (s':={ s with ds:=MZ s.ds s.nx k.a k.b k.x k.w k.u,nx:=P5 s.ds s.nx k.a k.b k.x k.w k.u }) (l:=[y]) I H (G3 (n:=1) (l:=[Dm y]) H17 U) hst I.O hM' hokS U U U U
set_option maxRecDepth 20000 in
set_option maxHeartbeats 1000000 in
theorem Ab8 {m:Lm} {s:Ld} {T:Nat→Prop} {k:Ak} (hk:k.kd=9) (hin:AkIn k) (w:World) (I:LdIn w m s T) (H0:Ctx w (De m s) w (LL m s)) :
  Ret Tryz.prog 62 #[ptr m.bl,.agg (Co k).toArray] w (Gp w m s T k):=by
 obtain ⟨w0,rfl⟩:∃ w0,w0=w:=⟨_,rfl⟩;obtain ⟨bl,ba,bd,br,b,a,c,full,o,arch⟩:=m;obtain ⟨S0,hS0⟩:∃ S,S=De ⟨bl,ba,bd,br,b,a,c,full,o,arch⟩ s:=⟨_,rfl⟩;have H:Ctx w0 S0 w0 ((bl,Bl 106 [ptr ba,ptr bd,ptr br,.int .i64 s.day])::(br,Bl 168 arch)::(ba,Bl 162 [.slice a s.acs.length c])::(bd,Bl 165 (DU b s.nx))::(b,o)::ent a 43 full):=by rw [hS0]; exact H0
 have hn16:=(Cd.1 I.ok.ac).1;have hbdb:bd≠b:=H.ne (i:=3) (j:=4) rfl rfl (by decide);have hS:Es s k=if s.day≤k.u then { s with day:=k.u,ds:=Ew s.ds k.u } else s:=by unfold Es; rw [if_neg (by omega),if_neg (by omega),if_neg (by omega),if_neg (by omega),if_neg (by omega),if_neg (by omega),if_neg (by omega),if_neg (by omega),if_pos hk]
 have hR:EC s k=if k.u<s.day then ⟨3,[]⟩ else ⟨0,[((s.ds.length - (Ew s.ds k.u).length:Nat):Int)]⟩:=by unfold EC; rw [if_neg (by omega),if_neg (by omega),if_neg (by omega),if_neg (by omega),if_neg (by omega),if_neg (by omega),if_neg (by omega),if_neg (by omega),if_pos hk]
 have hstep:∀ s' p,Es s k=s'→EC s k=p→Cq s k s' p:=fun s' p h1 h2=>by
  unfold Cq;rw [if_neg (by omega)];exact ⟨h1.symm,h2.symm⟩
 have hokS:=J6 I.ok k hin.u.2;refine Az (fn:=Tryz.f62) Tryz.func62 U [.pointer (some ⟨bl,0,none⟩),.agg (Co k).toArray] U (by kernel_rfl) ?_;refine Ae (Bx (Co k) (.agg _) U U H ?_);rintro b3 w - H;refine A4 U (Af U (Ab (Aa (Au (Dw (fun x=>x=_) Bq (by kernel_rfl) U ?_)))));refine A3 LN U (Cc Bs U (by rintro _ rfl; exact H.drew) at0 U ?_);refine B5 U (AZ U (A3 JT U (Cc Bs U (by rintro _ rfl; exact H.drew) at1 U ?_)));refine KM U U (BQ ?_);rintro _ rfl;replace H:=H.drew;refine Ao _ U ?_ ?_
 ·intro h1;replace h1:=AM h1;refine Ae (A4 U (Af U (Ab (Aa (A5 (Aq (Ca (v1:=(.slice _ _ _)) (v2:=(.int _ _)) U U U U ?_)))))));subst hS0;exact DO (P:=[_]) (m':=⟨bl,ba,bd,br,b,a,c,full,o,arch⟩) (s':=s) (l:=[]) (code:=3) I H (Ie _) (hstep _ _ (by rw [hS,if_neg (by omega)]) (by rw [hR,if_pos h1]; rfl)) I.O I.M I.ok U U U U
 ·intro h1;replace h1:=AN h1;rw [hS,if_pos (by omega)] at hokS;refine Ap (Aa (Ae (A2 U (Ah LN U (AH Bs U H at0 U (AA U (Ah JT U (Ci (.int _ _) Bz U U U H at1 (by (simp; done)) ?_))))))));rintro w H;refine Ab (Aa (DZ 6 Bq (by kernel_rfl) U U ?_));refine B5 U (AZ U (A3 EP U (Cc F7 U (by rintro _ rfl; exact H.drew) at1 U ?_)));refine A3 LN U (Cc Bs U (by rintro _ rfl; exact H.drew) at0 U ?_);refine BQ ?_;replace H:=H.drew;refine Al Agt (Ym (u:=k.u) _ (H.get at4) (H.get at5) I.M hbdb I.ok.du) U ?_;rintro v w ⟨o',hM',H7,a7,c7,rfl⟩;replace H:=Ctx.mid (B:=[_,_,_,_,_]) (L:=[_]) H H7;refine Be Bt U ?_;have H17:=Ctx.start w [];refine Cj [.int .i64 ((s.ds.length - (Ew s.ds k.u).length:Nat):Int)] (.int .i64 _) AU Bz Ei U (by decide) (by decide) U U U H17 ?_;rintro b26 w2 - H17;refine A4 U (Af U (Ab (Aa (A5 (Ca (v1:=(.slice _ _ _)) (v2:=(.int _ _)) U U U U ?_)))))
  subst hS0;exact DO (P:=[_]) (m':=⟨bl,ba,bd,br,b,a,c,full,o',arch⟩) (s':={ s with day:=k.u,ds:=Ew s.ds k.u }) (l:=[((s.ds.length - (Ew s.ds k.u).length:Nat):Int)]) (code:=0) I H (G3 (n:=1) (l:=[Dm ((s.ds.length - (Ew s.ds k.u).length:Nat):Int)]) H17 U) (hstep _ _ (by rw [hS,if_pos (by omega)]) (by rw [hR,if_neg h1]; rfl)) I.O hM' hokS U U U U
end Go.Proofs.YtdagmpmdcgedcaaGreat
namespace Go.Proofs.YtdagmpmdcgedcaaGreat
open Go.GV
attribute [local irreducible] AD W Wq Wt
theorem WV (b:Bool) (w:World):Ret Tryz.prog 119 #[.bool b] w fun v w'=>v = .int .i64 (N0 b)∧w=w':=by
 obtain ⟨w0,rfl⟩:∃ w0,w0=w:=⟨_,rfl⟩;refine Az (fn:=Tryz.f119) Tryz.func119 U [.bool b] U (by kernel_rfl) ?_;refine Ae (Af U (Ab (Aa (Au (Ae (A7 U (Ab (Aa (Ao _ U ?_ ?_)))))))))
 ·intro h1;refine Ae (Af U (Ab (Aa (A5 (Aq (A9 (v:=(.int _ _)) U U U ?_))))));exact ⟨by rw [show b=true by simpa using h1]; rfl,rfl⟩
 ·intro h1;refine Ap (Aa (Ae (Af U (Ab (Aa (A5 (A9 (v:=(.int _ _)) U U U ?_)))))));exact ⟨by rw [show b=false by simpa using h1]; rfl,rfl⟩
set_option maxRecDepth 20000 in
set_option maxHeartbeats 1000000 in
theorem Ae2 {m:Lm} {s:Ld} {T:Nat→Prop} {k:Ak} (hk:k.kd=14) (_hin:AkIn k) (w:World) (I:LdIn w m s T) (H0:Ctx w (De m s) w (LL m s)) :
  Ret Tryz.prog 66 #[ptr m.bl,.agg (Co k).toArray] w (Gp w m s T k):=by
 obtain ⟨w0,rfl⟩:∃ w0,w0=w:=⟨_,rfl⟩;obtain ⟨bl,ba,bd,br,b,a,c,full,o,arch⟩:=m;obtain ⟨S0,hS0⟩:∃ S,S=De ⟨bl,ba,bd,br,b,a,c,full,o,arch⟩ s:=⟨_,rfl⟩;have H:Ctx w0 S0 w0 ((bl,Bl 106 [ptr ba,ptr bd,ptr br,.int .i64 s.day])::(br,Bl 168 arch)::(ba,Bl 162 [.slice a s.acs.length c])::(bd,Bl 165 (DU b s.nx))::(b,o)::ent a 43 full):=by rw [hS0]; exact H0
 have hn16:=(Cd.1 I.ok.ac).1;have hbdb:bd≠b:=H.ne (i:=3) (j:=4) rfl rfl (by decide);have hR0:CQ s.ds k.id=none→EC s k=⟨11,[]⟩:=fun h=>by unfold EC; rw [if_neg (by omega),if_neg (by omega),if_neg (by omega),if_neg (by omega),if_neg (by omega),if_neg (by omega),if_neg (by omega),if_neg (by omega),if_neg (by omega),if_neg (by omega),if_neg (by omega),if_pos hk,h]
 have hR1:∀ d,CQ s.ds k.id=some d→EC s k=⟨0,[d.fr,d.to,d.am,d.we,d.un,N0 d.held]⟩:=fun d h=>by unfold EC; rw [if_neg (by omega),if_neg (by omega),if_neg (by omega),if_neg (by omega),if_neg (by omega),if_neg (by omega),if_neg (by omega),if_neg (by omega),if_neg (by omega),if_neg (by omega),if_neg (by omega),if_pos hk,h]
 have hS:Es s k=s:=by unfold Es; rw [if_neg (by omega),if_neg (by omega),if_neg (by omega),if_neg (by omega),if_neg (by omega),if_neg (by omega),if_neg (by omega),if_neg (by omega),if_neg (by omega)]
 have hstep:∀ p,EC s k=p→Cq s k s p:=fun p h2=>by
  unfold Cq;rw [if_neg (by omega)];exact ⟨hS.symm,h2.symm⟩
 have hD:Mi s.ds k.id=(CQ s.ds k.id).getD d00:=rfl;refine Az (fn:=Tryz.f66) Tryz.func66 U [.pointer (some ⟨bl,0,none⟩),.agg (Co k).toArray] U (by kernel_rfl) ?_;refine Ae (Bx (Co k) (.agg _) U U H ?_);rintro b3 w - H;refine A4 U (Af U (Ab (Aa (DR 262080 (α:=Nat) (fun z=>[(6,ptr z),(7,.bool (CQ s.ds k.id).isSome)]) (fun z w'=>Ctx w0 S0 w' ((z,Bl 67 (CT (Mi s.ds k.id)))::(b3,Bl 40 (Co k))::(bl,Bl 106 [ptr ba,ptr bd,ptr br,.int .i64 s.day])::(br,Bl 168 arch)::(ba,Bl 162 [.slice a s.acs.length c])::(bd,Bl 165 (DU b s.nx))::(b,o)::ent a 43 full)) U ?_ ?_))))
 ·skip
  refine Oe (.two [0,1,2,3,4,5] 6 (.one [7,8,9] 10 (.one [] 11 (.one [] 12 .stop))) 10 (.one [] 6 (.one [7,8,9] 11 (.one [] 12 .stop)))) (fun z=>z.heap[b3]? = some (Bl 40 (Co k))∧z.heap[bl]? = some (Bl 106 [ptr ba,ptr bd,ptr br,.int .i64 s.day])) Bq (by kernel_rfl) (⟨H.drew.get at0,H.drew.get at1⟩) ?_;refine I3 U U U ?_;refine BL U (Bf U (Am EP U (Bw F7 U (fun _ hx=>(by rw [Aj hx.2]; rfl)) ?_)));refine Am K4 U (Bw B1 U (fun _ hx=>(by rw [Aj hx.1]; rfl)) ?_);refine AP ?_;replace H:=H.drew;refine ⟨?_,?_⟩
  ·skip
   refine Al Va (S2 _ (H.get at4) (H.get at5) I.M) U ?_;rintro v w ⟨rfl,hx15⟩;replace H:=H.call hx15;refine Ab (BS (by exact ⟨H.get at0,H.get at1⟩) ?_);refine BP U U ?_;refine DF U (Bu U U (Bu U U (AP (Ba Ex H ?_))));rintro b6 w - H;refine Ab (BS (by exact ⟨H.get at1,H.get at2⟩) ?_);refine BP U U ?_;refine AP (Bm Cg U U U (by exact Dg _) H at0 U ?_);rintro w H;refine Ab (BS (by exact ⟨H.get at1,H.get at2⟩) ?_);refine BP U U ?_;refine AP (Ai U (Ab (BS (by exact ⟨H.get at1,H.get at2⟩) ?_)));refine Eb ?_;refine Aa ?_;exact ⟨b6,rfl,⟨rfl,rfl,trivial⟩,H⟩
  ·skip
   refine Ba Ex H ?_;rintro b6 w - H;refine Ab (BS (by exact ⟨H.get at1,H.get at2⟩) ?_);refine BP U U ?_;refine AP (Al Va (S2 _ (H.get at5) (H.get at6) I.M) U ?_);rintro v w ⟨rfl,hx15⟩;replace H:=H.call hx15;refine Ab (BS (by exact ⟨H.get at1,H.get at2⟩) ?_);refine BP U U ?_;refine DF U (Bu U U (Bu U U (AP (Bm Cg U U U (by exact Dg _) H at0 U ?_))));rintro w H;refine Ab (BS (by exact ⟨H.get at1,H.get at2⟩) ?_);refine BP U U ?_;refine AP (Ai U (Ab (BS (by exact ⟨H.get at1,H.get at2⟩) ?_)));refine Eb ?_;refine Aa ?_;exact ⟨b6,rfl,⟨rfl,rfl,trivial⟩,H⟩
 ·rintro b6 j7 w H;refine Au (Ae (A7 U (BF U (Ab (Aa (Ao _ U ?_ ?_))))))
  ·intro h1;replace h1:=BG h1
   have hf:CQ s.ds k.id=none:=by cases hh:CQ s.ds k.id with | none=>rfl | some d=>rw [hh] at h1; cases h1
   refine Ae (A4 U (Af U (Ab (Aa (A5 (Aq (Ca (v1:=(.slice _ _ _)) (v2:=(.int _ _)) U U U U ?_)))))));subst hS0;exact DO (P:=[_,_]) (m':=⟨bl,ba,bd,br,b,a,c,full,o,arch⟩) (s':=s) (l:=[]) (code:=11) I H (Ie _) (hstep _ (by rw [hR0 hf]; rfl)) I.O I.M I.ok U U U U
  ·intro h1;replace h1:=BH h1
   obtain ⟨d,hf⟩:∃ d,CQ s.ds k.id=some d:=by cases hh:CQ s.ds k.id with | some d=>exact ⟨d,rfl⟩ | none=>rw [hh] at h1; cases h1
   rw [hD,hf] at H
   change Ctx w0 S0 w ((b6,Bl 67 (CT d))::(b3,Bl 40 (Co k))::(bl,Bl 106 [ptr ba,ptr bd,ptr br,.int .i64 s.day])::(br,Bl 168 arch)::(ba,Bl 162 [.slice a s.acs.length c])::(bd,Bl 165 (DU b s.nx))::(b,o)::ent a 43 full) at H
   refine Ap (Aa (Cv [([0,1,2,3,4,5,6,7,8,9,10,11],12),([],13),([14],15)] (fun z=>z.heap[b6]? = some (Bl 67 (CT d))) [] Bq (by kernel_rfl) (H.drew.get at0) ?_));refine AE U U ?_;refine Am Iq U (Bw BZ U (fun _ hx=>(by rw [Aj hx]; rfl)) ?_);refine Am Ir U (Bw BZ U (fun _ hx=>(by rw [Aj hx]; rfl)) ?_);refine Am EM U (Bw Bs U (fun _ hx=>(by rw [Aj hx]; rfl)) ?_);refine Am LQ U (Bw Bs U (fun _ hx=>(by rw [Aj hx]; rfl)) ?_);refine Am NL U (Bw Bs U (fun _ hx=>(by rw [Aj hx]; rfl)) ?_);refine Am LR U (Bw KG U (fun _ hx=>(by rw [Aj hx]; rfl)) ?_);refine AP ?_;replace H:=H.drew;refine Al YW (WV d.held _) U ?_;rintro v w ⟨rfl,rfl⟩;refine Ab (BT (H.get at0) (AE U U ?_));refine AP (DE ([d.fr,d.to,d.am,d.we,d.un,N0 d.held].map Dm) AU Bz Ei (by decide) (by decide) (by kernel_rfl) (Ctx.start _ []) ?_);rintro b33 w2 - H17;refine Ab (BT (H17.ext.to (H.get at0) (by simp)) ?_)
   refine AE U U ?_;refine Em U (AP (Af U (Ab (BT (H17.ext.to (H.get at0) (by simp)) ?_))));refine BJ (A5 (Ca (v1:=(.slice _ _ _)) (v2:=(.int _ _)) U U U U ?_));subst hS0;exact DO (P:=[_,_]) (m':=⟨bl,ba,bd,br,b,a,c,full,o,arch⟩) (s':=s) (l:=[d.fr,d.to,d.am,d.we,d.un,N0 d.held]) (code:=0) I H (G3 (n:=6) H17 U) (hstep _ (by rw [hR1 d hf]; rfl)) I.O I.M I.ok U U U U
end Go.Proofs.YtdagmpmdcgedcaaGreat
namespace Go.Proofs.YtdagmpmdcgedcaaGreat
open Go.GV
attribute [local irreducible] AD W Wq Wt
theorem Mw {α:Type} {enc:α→List Value} {s:Nat} {t:TypeId} {xs:List α} {w w':World} {v:Value} (F:Fresh w w' t s v (xs.flatMap enc)) (hs:∀ x∈xs,(enc x).length=s) (h0:0<s):∃ a c,v = .slice a xs.length c∧Rd w' a s enc xs∧(xs≠[]→w.heap.size≤(adr a).block)∧xs.length≤c∧Ext [] w w':=by
 obtain ⟨a,n,c,f,rfl,O,hb⟩:=F.ex;obtain rfl:=O.numN hs h0;refine ⟨a,c,rfl,OS.rd O (fun x hx=>(hb x hx).1) hs h0,fun hne=>?_,O.le,F.ext⟩;obtain ⟨q,rfl⟩:=O.form (List.length_pos_iff.2 hne);exact (hb (q,Bl t f) (List.mem_singleton.2 U)).2
theorem Ab9 (l:List Int):∀ v∈l.map Gt,Bg v=true:=fun v hv=>by
 obtain ⟨x,_,rfl⟩:=List.mem_map.1 hv; rfl
theorem Yo (a:Option Addr) (n c:Nat) (xs:List Int) (w:World) (R:Rd w a 1 U1 xs) (hn:xs.length=n)  (hm:n≤1000000000:=by omega):
  Ret Tryz.prog 164 #[.slice a n c] w fun v w'=>Fresh w w' 28 1 v (xs.map Gt):=by
 subst hn;obtain ⟨w0,rfl⟩:∃ w0,w0=w:=⟨_,rfl⟩;have H:=Ctx.start w0 [];refine Az (fn:=Tryz.f164) Tryz.func164 U [.slice a xs.length c] U (by kernel_rfl) ?_;refine Ae (A4 U (Ab (Aa (Au (Ae (Ay U (IE U Bt U (Ab (Aa (Ao _ U ?_ ?_))))))))))
 ·intro h1;have ha:a=none:=by simpa using h1
  subst ha
  have hxs:xs=[]:=by
   cases xs with
   | nil=>rfl
   | cons x xs=>obtain ⟨b,o,h⟩:=R.some' (by simp); cases h
  subst hxs;refine Ae (A4 U (Ab (Aa (A5 (Aq (A9 (v:=(.slice _ _ _)) U U U ?_))))));exact Fresh.nil H _ _
 ·intro h1;refine Ap (Aa (Ae (Ht U Bt Bo H ?_)));rintro b5 w H O;refine Ay U (Hs U Bt Bt Bo Wk OX U (by decide) (xs.map Gt) U U H O (by simp) (Ab9 xs) (Rd.app1 (f:=Gt) (R.ext0 H.ext)) ?_);rintro a7 c7 full7 w H O;refine A4 U (Ab (Aa (A5 (A9 (v:=(.slice _ _ _)) U U U ?_))));exact H.fresh O
theorem Yp (es:List Ed):(es.flatMap CG).length=es.length*4:=by
 induction es with
 | nil=>rfl
 | cons e es ih =>
  rw [List.flatMap_cons,List.length_append,ih];show 4+es.length*4=(es.length+1)*4;omega
theorem Yq (es:List Ed):∀ v∈es.flatMap CG,Bg v=true:=fun v hv=>by
 obtain ⟨e,_,he⟩:=List.mem_flatMap.1 hv;simp only [CG,List.mem_cons,List.not_mem_nil,or_false] at he
 rcases he with rfl | rfl | rfl | rfl <;> rfl
theorem Yr (a:Option Addr) (n c:Nat) (es:List Ed) (w:World) (R:Rd w a 4 CG es) (hn:es.length=n)  (hm:n≤1000000000:=by omega):
  Ret Tryz.prog 165 #[.slice a n c] w fun v w'=>Fresh w w' 59 4 v (es.flatMap CG):=by
 subst hn;obtain ⟨w0,rfl⟩:∃ w0,w0=w:=⟨_,rfl⟩;have H:=Ctx.start w0 [];refine Az (fn:=Tryz.f165) Tryz.func165 U [.slice a es.length c] U (by kernel_rfl) ?_;refine Ae (A4 U (Ab (Aa (Au (Ae (Ay U (IE U Di U (Ab (Aa (Ao _ U ?_ ?_))))))))))
 ·intro h1;have ha:a=none:=by simpa using h1
  subst ha
  have hxs:es=[]:=by
   cases es with
   | nil=>rfl
   | cons x xs=>obtain ⟨b,o,h⟩:=R.some' (by simp); cases h
  subst hxs;refine Ae (A4 U (Ab (Aa (A5 (Aq (A9 (v:=(.slice _ _ _)) U U U ?_))))));exact Fresh.nil H _ _
 ·intro h1;refine Ap (Aa (Ae (Ht U Di Dj H ?_)));rintro b5 w H O;refine Ay U (Hs U Di Di Dj YT HM U (by decide) (es.flatMap CG) U U H O (Yp es) (Yq es) ((R.ext0 H.ext).app (fun _ _=>rfl) (by omega)) ?_);rintro a7 c7 full7 w H O;refine A4 U (Ab (Aa (A5 (A9 (v:=(.slice _ _ _)) U U U ?_))));exact H.fresh O
set_option maxRecDepth 20000 in
set_option maxHeartbeats 2000000 in
theorem Ae3 (r:Rnd) (q:RSl) (w:World) (RA:RAt w r q) (hr:RBnd r):Ret Tryz.prog 135 #[.agg (B0 r q).toArray] w fun v w'=>v = .bool (NB r)∧Ext [] w w':=by
 obtain ⟨w0,rfl⟩:∃ w0,w0=w:=⟨_,rfl⟩;have H:=Ctx.start w0 [];obtain ⟨ck,hck⟩:∃ ck,ck=F9 r.N r.es r.fl r.pot:=⟨_,rfl⟩;have hmr:NB r=(ck && (decide (r.ids.length≤64) && decide (0≤r.day))):=by unfold NB; rw [← hck]
 refine Az (fn:=Tryz.f135) Tryz.func135 U [.agg (B0 r q).toArray] U (by kernel_rfl) ?_;refine Ae (Bx (B0 r q) (.agg _) U U H ?_);rintro b1 w - H;refine Ai U (Ab (Aa (Ae (Ah Fg U (BW _ Dh CK U U ((Cm (b:=b1) (t:=55) (l:=B0 r q) (H.get at0) 4 [.int .i64 r.N,.slice q.aE r.es.length q.cE] U)) ?_)))));refine Ah DG U (BW _ Ty Nl U U ((Cm (b:=b1) (t:=55) (l:=B0 r q) (H.get at0) 6 [.slice q.aF r.fl.length q.cF,.slice q.aP r.pot.length q.cP] U)) ?_);refine Al Za (TG r.N q.aE q.aF q.aP _ q.cE _ q.cF _ q.cP r.es r.fl r.pot _ (RA.E.ext0 H.ext) U hr.N (RA.F.ext0 H.ext) U (by have:=hr.fl; omega) (RA.P.ext0 H.ext) U (by have:=hr.pot; omega)) U ?_;rintro v w ⟨rfl,hx14⟩;rw [← hck];replace H:=H.call hx14;refine A7 U (AO 8 U ?_ ?_)
 ·intro h1;refine Ah EL U (AH Hb U H at0 U (Be Bt U (M8 U U U (AF U (.bool _) U (A7 U (AO 14 U ?_ ?_))))))
  ·intro h2;replace h2:=AM h2;refine Ah LP U (AH Bs U H at0 U (C9 U U (AF U (.bool _) U (Ai U (Ab (Aa (A5 (A9 (v:=(.bool _)) U U U ?_))))))));exact ⟨congrArg Value.bool (by rw [hmr,Bool.eq_iff_iff]; simp_all; try omega),H.ext⟩
  ·intro h3;replace h3:=AN h3;refine Ag U (Ag U (Ag U (AG U (.bool _) U (Ai U (Ab (Aa (A5 (A9 (v:=(.bool _)) U U U ?_))))))));exact ⟨congrArg Value.bool (by rw [hmr,Bool.eq_iff_iff]; simp_all; try omega),H.ext⟩
 ·intro h4;refine Ag U (Ag U (Ag U (Ag U (AG U (.bool _) U (A7 U (Ag U (Ag U (Ag U (AG U (.bool _) U ?_)))))))));refine Ai U (Ab (Aa (A5 (A9 (v:=(.bool _)) U U U ?_))));exact ⟨congrArg Value.bool (by rw [hmr,Bool.eq_iff_iff]; simp_all; try omega),H.ext⟩
set_option maxRecDepth 20000 in
set_option maxHeartbeats 2000000 in
theorem SN (r:Rnd) (q:RSl) (w:World) (RA:RAt w r q) (hr:RBnd r):Ret Tryz.prog 101 #[.agg (B0 r q).toArray] w fun v w'=>Ext [] w w'∧∃ q',v = .agg (B0 r q').toArray∧RAt w' r q'∧ROff q' r (fun x=>x<w.heap.size):=by
 obtain ⟨w0,rfl⟩:∃ w0,w0=w:=⟨_,rfl⟩;have H:=Ctx.start w0 [];have b1':=hr.ids;have b2':=hr.es;have b3':=hr.fl;have b4':=hr.pot;refine Az (fn:=Tryz.f101) Tryz.func101 U [.agg (B0 r q).toArray] U (by kernel_rfl) ?_;refine Ae (Bx (B0 r q) (.agg _) U U H ?_);rintro b1 w - H;refine Ba Hf H ?_;rintro b2 w - H;refine Ab (Aa (Cv [([0,1,3,4,5],2),([7],6),([],8),([9,10],11)] (fun z=>z.heap[b1]? = some (Bl 55 (B0 r q))) [8,11] Bq (by kernel_rfl) (H.drew.get at1) ?_));refine AE U U ?_;refine Am EL U (Bw Hb U (fun _ hx=>(by rw [Aj hx]; rfl)) ?_);refine Am Fg U (Am Dd U (Bw E4 U (fun _ hx=>(by rw [Aj hx]; rfl)) ?_));refine AP ?_;replace H:=H.drew;refine Al Ag3 (Yo _ _ _ r.ids _ (RA.I.ext0 H.ext) U) U ?_;rintro v w F;obtain ⟨a5,n5,c5,f5,rfl,O5,hb5⟩:=F.ex;obtain rfl:=O5.num;replace H:Ctx w0 [] w ((b2,Bl 55 rnd0)::(b1,Bl 55 (B0 r q))::ent a5 28 f5):=H.callEnt F.ext hb5 Ge
 refine Ab (BT (H.get at1) (AE U U ?_));refine Am EL U (AP (Al Ag4 (Yr _ _ _ r.es _ (RA.E.ext0 H.ext) U) U ?_));rintro v w F;obtain ⟨a9,n9,c9,f9,rfl,O9,hb9⟩:=F.ex;obtain rfl:=O9.numN (fun _ _=>rfl) (by decide);replace H:Ctx w0 [] w ((b2,Bl 55 rnd0)::(b1,Bl 55 (B0 r q))::(ent a5 28 f5++ent a9 59 f9)):=H.callEnt F.ext hb9 Ge;refine Ab (BT (H.get at1) (AE U U ?_));refine AP (Ci (.slice _ _ _) Afw U U U H at1 (by (simp; done)) ?_);rintro w H;refine Ab (B4 U (AE U U ?_));refine Am Fg U (Am Dd U (AP (Ci (.slice _ _ _) Afx U U U H at1 (by (simp; done)) ?_)));rintro w H;refine Ab (B4 U (BJ ?_))
 change Ctx w0 [] w ((b2,Bl 55 rnd0)::(b1,Bl 55 (B0 r ⟨a5,c5,a9,c9,q.aF,q.cF,q.aP,q.cP⟩))::(ent a5 28 f5++ent a9 59 f9)) at H
 refine Cv [([0,1,2,4,5,6],3),([],7),([8,9],10)] (fun z=>z.heap[b1]? = some (Bl 55 (B0 r ⟨a5,c5,a9,c9,q.aF,q.cF,q.aP,q.cP⟩))) [10] Bq (by kernel_rfl) (H.drew.get at1) ?_;refine AE U U ?_;refine Am DG U (Am FK U (Bw BM U (fun _ hx=>(by rw [Aj hx]; rfl)) ?_));refine Am DG U (Am G8 U (Bw BM U (fun _ hx=>(by rw [Aj hx]; rfl)) ?_));refine AP ?_;replace H:=H.drew;refine Al Vc (MV _ _ _ r.fl _ (RA.F.ext0 H.ext) U) U ?_;rintro v w F;obtain ⟨a6,n6,c6,f6,rfl,O6,hb6⟩:=F.ex;obtain rfl:=O6.num;replace H:Ctx w0 [] w ((b2,Bl 55 rnd0)::(b1,Bl 55 (B0 r ⟨a5,c5,a9,c9,q.aF,q.cF,q.aP,q.cP⟩))::(ent a5 28 f5++ent a9 59 f9++ent a6 2 f6)):=H.callEnt F.ext hb6 Ge;refine Ab (BT (H.get at1) (AE U U ?_));refine AP (Al Vc (MV _ _ _ r.pot _ (RA.P.ext0 H.ext) U) U ?_);rintro v w F;obtain ⟨a7,n7,c7,f7,rfl,O7,hb7⟩:=F.ex;obtain rfl:=O7.num
 replace H:Ctx w0 [] w ((b2,Bl 55 rnd0)::(b1,Bl 55 (B0 r ⟨a5,c5,a9,c9,q.aF,q.cF,q.aP,q.cP⟩))::(ent a5 28 f5++ent a9 59 f9++ent a6 2 f6++ent a7 2 f7)):=H.callEnt F.ext hb7 Ge;refine Ab (BT (H.get at1) (AE U U ?_));refine Ox [.slice a6 r.fl.length c6,.slice a7 r.pot.length c7] U Afs Wp (by kernel_rfl) ?_;refine Am DG U (AP (Hj U Nl U U U (by simp [Bg]) H at1 (show 0+6+2≤8 by decide) ?_));rintro w H;refine Ab (B4 U (BJ ?_))
 change Ctx w0 [] w ((b2,Bl 55 rnd0)::(b1,Bl 55 (B0 r ⟨a5,c5,a9,c9,a6,c6,a7,c7⟩))::(ent a5 28 f5++ent a9 59 f9++ent a6 2 f6++ent a7 2 f7)) at H
 refine Ae (Cr GM D4 U H at1 U (Bm D4 U U U (by simp [Bg]) H at0 U ?_));rintro w H;refine Ab (Aa (A5 (LC U U U GM D4 H at0 U ?_)));have hm:∀ x,x∈ent a5 28 f5++ent a9 59 f9++ent a6 2 f6++ent a7 2 f7→w.heap[x.1]? = some x.2∧w0.heap.size≤x.1:=fun x hx=>⟨H.blk x (List.mem_append_right [_,_] hx),(H.own x (List.mem_append_right [_,_] hx)).elim (fun h=>by cases h) id⟩
 have hoff:∀ {t:TypeId} {a:Option Addr} {n c s:Nat} {f l:List Value},OS a n c s f l→(∀ x∈ent a t f,w0.heap.size≤x.1)→0<n→¬ (adr a).block<w0.heap.size:=fun {t a n c s f l} O h hn=>by
  obtain ⟨q,rfl⟩:=O.form hn;have:=h (q,Bl t f) (List.mem_singleton.2 rfl);exact Nat.not_lt.2 this
 have m5:∀ x∈ent a5 28 f5,_:=fun x hx=>hm x (List.mem_append_left _ (List.mem_append_left _ (List.mem_append_left _ hx)));have m9:∀ x∈ent a9 59 f9,_:=fun x hx=>hm x (List.mem_append_left _ (List.mem_append_left _ (List.mem_append_right _ hx)));have m6:∀ x∈ent a6 2 f6,_:=fun x hx=>hm x (List.mem_append_left _ (List.mem_append_right _ hx));have m7:∀ x∈ent a7 2 f7,_:=fun x hx=>hm x (List.mem_append_right _ hx)
 exact ⟨H.ext,⟨a5,c5,a9,c9,a6,c6,a7,c7⟩,rfl,⟨O5.rd1 fun x hx=>(m5 x hx).1,OS.rd O9 (fun x hx=>(m9 x hx).1) (fun _ _=>rfl) (by decide),O6.rd1 fun x hx=>(m6 x hx).1,O7.rd1 fun x hx=>(m7 x hx).1,O6.le⟩,
  ⟨fun h=>hoff O5 (fun x hx=>(m5 x hx).2) (List.length_pos_iff.2 h),fun h=>hoff O9 (fun x hx=>(m9 x hx).2) (List.length_pos_iff.2 h),fun h=>hoff O6 (fun x hx=>(m6 x hx).2) (List.length_pos_iff.2 h),fun h=>hoff O7 (fun x hx=>(m7 x hx).2) (List.length_pos_iff.2 h)⟩⟩
end Go.Proofs.YtdagmpmdcgedcaaGreat
namespace Go.Proofs.YtdagmpmdcgedcaaGreat
open Go.GV
attribute [local irreducible] AD W Wq Wt
theorem SO:∀ {vs l:List Value} {i j:Nat},i+vs.length≤j→(over l i vs)[j]? = l[j]?
 | [],_,_,_,_=>rfl
 | v::vs,l,i,j,h=>by
  have h1:i+1+vs.length≤j:=by rw [List.length_cons] at h; omega
  show (over (l.set i v) (i+1) vs)[j]? = _;rw [SO h1,List.getElem?_set_ne (by omega)]
theorem SP:∀ {vs l:List Value} {i j:Nat},j<i→(over l i vs)[j]? = l[j]?
 | [],_,_,_,_=>rfl
 | v::vs,l,i,j,h=>by
  show (over (l.set i v) (i+1) vs)[j]? = _;rw [SP (by omega),List.getElem?_set_ne (by omega)]
theorem WW:∀ {vs l:List Value} {i j:Nat},i+vs.length≤l.length→j<vs.length→(over l i vs)[i+j]? = vs[j]?
 | [],_,_,_,_,h=>by cases h
 | v::vs,l,i,0,h,_=>by
  show (over (l.set i v) (i+1) vs)[i+0]? = _;rw [SP (by omega),Nat.add_zero,List.getElem?_set_self (by rw [List.length_cons] at h; omega)];rfl
 | v::vs,l,i,j+1,h,hj=>by
  show (over (l.set i v) (i+1) vs)[i+(j+1)]? = vs[j]?;rw [show i+(j+1)=i+1+j by omega];exact WW (by rw [List.length_set]; rw [List.length_cons] at h; omega) (by rw [List.length_cons] at hj; omega)
def J7 (arch:List Value) (n:Nat) (r:Rnd) (q:RSl):List Value:=((over arch ((r.no % 4).toNat*8) (B0 r q)).set 32 (.int .u64 ((min (n+1) 4:Nat):Int))).set 33 (.int .u64 r.no)
theorem WX {w:World} {b1 b2:Nat} {o1 o2:Obj} (h1:w.heap[b1]? = some o1) (h2:w.heap[b2]? = some o2) (hne:b1≠b2):Ctx w [b1,b2] w [(b1,o1),(b2,o2)] :=
 ⟨Ext.refl _ _,fun y hy=>by
  simp only [List.mem_cons,List.not_mem_nil,or_false] at hy
  rcases hy with rfl | rfl
  ·exact h1
  ·exact h2,by simp only [List.pairwise_cons,List.mem_singleton,forall_eq,List.not_mem_nil,false_implies,implies_true,List.Pairwise.nil,and_true]; exact hne,fun y hy=>by
  simp only [List.mem_cons,List.not_mem_nil,or_false] at hy
  rcases hy with rfl | rfl
  ·exact .inl (List.mem_cons_self ..)
  ·exact .inl (List.mem_cons_of_mem _ (List.mem_cons_self ..))⟩
set_option maxRecDepth 20000 in
set_option maxHeartbeats 2000000 in
theorem Ae4 {br n:Nat} {arch:List Value} (r:Rnd) (q:RSl) (w:World) (RA:RAt w r q) (hr:RBnd r) (h0:w.heap[br]? = some (Bl 168 arch)) (hl:arch.length=34) (hn:arch[32]? = some (.int .u64 n)) (hn4:n≤4) (hno:0≤r.no∧r.no≤4611686018427387904) :
  Ret Tryz.prog 136 #[ptr br,.agg (B0 r q).toArray] w fun _ w'=>∃ q',Ctx w [br] w' [(br,Bl 168 (J7 arch n r q'))]∧RAt w' r q'∧ROff q' r (fun x=>x<w.heap.size):=by
 obtain ⟨w0,rfl⟩:∃ w0,w0=w:=⟨_,rfl⟩;have H:=Ctx.start w0 [];refine Az (fn:=Tryz.f136) Tryz.func136 U [.pointer (some ⟨br,0,none⟩),.agg (B0 r q).toArray] U (by kernel_rfl) ?_;refine Ae (Bx (B0 r q) (.agg _) U U H ?_);rintro b3 w - H;refine Ab (Aa ?_);have h3:0≤r.no % 4∧r.no % 4<4:=⟨Int.emod_nonneg _ (by decide),Int.emod_lt_of_pos _ (by decide)⟩;refine Cv [([0,1,2,3,4,6,7],5),([8],9)] (fun z=>z.heap[b3]? = some (Bl 55 (B0 r q))) [9] Bq (by kernel_rfl) (H.drew.get at0) ?_;refine AE U U ?_;refine BL U (Am K5 U (Bw B1 U (fun _ hx=>(by rw [Aj hx]; rfl)) ?_));refine Afj U U U ?_;refine IH _ GM D4 U U (fun _ hx=>(Cm (b:=b3) (t:=55) (l:=B0 r q) hx 0 (B0 r q) rfl)) ?_;refine Bf U (Am OQ U (AP ?_));replace H:=H.drew;have hx3:=H.ext;have hlb3:=Bb (H.get at0);have hb3:w0.heap.size≤b3:=(H.own _ (List.mem_cons_self ..)).elim (fun h=>by cases h) id;have hlbr:=Bb h0
 refine Al UZ (SN r q _ (RA.ext0 H.ext) hr) U ?_;rintro v w ⟨hx9,q',rfl,RA',hoff⟩;obtain ⟨w9,rfl⟩:∃ z,z=w:=⟨_,rfl⟩;have hE9:=hx3.trans hx9;replace H:Ctx w9 [br,b3] w9 [(br,Bl 168 arch),(b3,Bl 55 (B0 r q))]:=WX (hE9.to h0 (by simp)) (hx9.to (H.get at0) (by simp)) (by omega);refine Ab (BT (H.get at1) (AE U U ?_));refine Ov U UY D4 U U ?_;refine AP (Hj U D4 U U U (by simp [Bg]) H at0 (by omega) ?_);rintro w H;refine Ab (B4 U (BJ ?_));rw [show 0+0+(r.no % 4).toNat*8=(r.no % 4).toNat*8 by omega] at H;obtain ⟨A,hA⟩:∃ A,A=over arch ((r.no % 4).toNat*8) (B0 r q'):=⟨_,rfl⟩;rw [← hA] at H;have hAl:A.length=34:=by rw [hA,D8]; exact hl
 have hAn:A[32]? = some (.int .u64 n):=by rw [hA,SO (by show (r.no % 4).toNat*8+8≤32; omega)]; exact hn
 refine Fj [([0,1,2,3,4,8,9],5),([6,7,10,11],12),([13,14],15)] (fun z=>z.heap[b3]? = some (Bl 55 (B0 r q))) [] Bq (by kernel_rfl) (H.drew.get at1) ?_;refine AE U U ?_;refine BL U (BL U (BL U (Bf U (Am IM U (Am K5 U (Bw B1 U (fun _ hx=>(by rw [Aj hx]; rfl)) ?_))))));refine AP ?_;replace H:=H.drew;refine AV B1 U ((by rw [Aj (H.get at0)]; exact hAn)) ?_;refine Ab (BT (H.get at1) (AE U U ?_));refine MC U U U ?_;refine UN U U U ?_;refine Bf U (Am IM U (AP (Ci (.int _ _) Bo U U U H at0 (by (simp; omega)) ?_)));rintro w H;refine Ab (BT (H.get at1) (AE U U ?_));refine Bf U (Am FC U (AP (Ci (.int _ _) Bo U U U H at0 (by (simp; omega)) ?_)));rintro w H;refine Ab (BT (H.get at1) (BJ (CU U U ?_)));have hs3:=hx3.size;refine ⟨q',?_,RA'.ext H.ext (hoff.mono fun x hx=>?_),hoff.mono fun x hx=>Nat.lt_of_lt_of_le hx hs3⟩
 ·have h9:J7 arch n r q'=(A.set (0+32) (.int .u64 (min ((n:Int)+1) 4))).set (0+33) (.int .u64 r.no):=by
   unfold J7;rw [← hA,show ((min (n+1) 4:Nat):Int)=min ((n:Int)+1) 4 by omega]
  rw [h9]
  exact ⟨(hE9.mono (S':=[br]) (by simp)).then H.ext (fun x hx=>by
   simp only [List.mem_cons,List.not_mem_nil,or_false] at hx
   rcases hx with rfl | rfl
   ·exact .inl (List.mem_singleton.2 U)
   ·exact .inr hb3),fun y hy=>by rw [List.mem_singleton.1 hy]; exact H.get at0,by simp,fun y hy=>by rw [List.mem_singleton.1 hy]; exact .inl (List.mem_singleton.2 rfl)⟩
 ·simp only [List.mem_cons,List.not_mem_nil,or_false] at hx
  rcases hx with rfl | rfl
  ·exact Nat.lt_of_lt_of_le hlbr hs3
  ·exact hlb3
end Go.Proofs.YtdagmpmdcgedcaaGreat
namespace Go.Proofs.YtdagmpmdcgedcaaGreat
open Go.GV
attribute [local irreducible] AD W Wq Wt
theorem RAt.no {w:World} {r:Rnd} {q:RSl} (h:RAt w r q) (k d:Int):RAt w { r with no:=k,day:=d } q:=⟨h.I,h.E,h.F,h.P,h.fc⟩
theorem ROff.no {r:Rnd} {q:RSl} {S:Nat→Prop} (h:ROff q r S) (k d:Int):ROff q { r with no:=k,day:=d } S:=⟨h.I,h.E,h.F,h.P⟩
theorem RBnd.no {r:Rnd} (h:RBnd r) (k d:Int):RBnd { r with no:=k,day:=d }:=⟨h.N,h.es,h.ids,h.fl,h.pot⟩
set_option maxRecDepth 20000 in
set_option maxHeartbeats 2000000 in
theorem Ae5 {br n:Nat} {no:Int} {arch:List Value} (r:Rnd) (q:RSl) (w:World) (RA:RAt w r q) (hr:RBnd r) (h0:w.heap[br]? = some (Bl 168 arch)) (hl:arch.length=34) (hn:arch[32]? = some (.int .u64 n)) (hno:arch[33]? = some (.int .u64 no)) (hn4:n≤4) (hb:0≤no∧no<4611686018427387904) (hm:NB r=true) :
  Ret Tryz.prog 115 #[ptr br,.agg (B0 r q).toArray] w fun v w'=>v = .tuple #[.int .u64 (no+1),.int .i64 0]∧∃ q',Ctx w [br] w' [(br,Bl 168 (J7 arch n { r with no:=no+1 } q'))]∧RAt w' { r with no:=no+1 } q'∧ROff q' { r with no:=no+1 } (fun x=>x<w.heap.size):=by
 obtain ⟨w0,rfl⟩:∃ w0,w0=w:=⟨_,rfl⟩;have H:=Ctx.start w0 [];have hlbr:=Bb h0;refine Az (fn:=Tryz.f115) Tryz.func115 U [.pointer (some ⟨br,0,none⟩),.agg (B0 r q).toArray] U (by kernel_rfl) ?_;refine Ae (Bx (B0 r q) (.agg _) U U H ?_);rintro b3 w - H;refine Af U (Af U (Ab (Aa (Au (A0 (Ae (A2 U (Cw MP U ?_))))))));refine Ai U (Ab (Aa (Ao _ U ?_ ?_)))
 ·intro h1;cases h1
 ·intro h1;refine Ae (Cr GM D4 U H at0 U (Al Agy (Ae3 r q _ (RA.ext0 H.ext) hr) U ?_));rintro v w ⟨rfl,hx11⟩;replace H:=H.call hx11;rw [hm];refine BF U (Ai U (Ab (Aa (Ao _ U ?_ ?_))))
  ·intro h2;replace h2:=BG h2;cases h2
  ·intro h2;replace h2:=BH h2;refine Ae (A2 U (AA U (Ah FC U (AV B1 U ((by rw [Aj (H.ext.to h0 (by simp))]; exact hno)) ?_))));refine C9 U U (Ai U (Ab (Aa (Ao _ U ?_ ?_))))
   ·intro h3;replace h3:=AM h3;omega
   ·intro h3;replace h3:=AN h3;refine Ap (A6 (Aa (Ae (A2 U (AA U (Ah FC U (AV B1 U ((by rw [Aj (H.ext.to h0 (by simp))]; exact hno)) ?_)))))));refine EI U U ?_;refine Ah K5 U (Ci (.int _ _) Bo U U U H at0 (by (simp; done)) ?_);rintro w H;refine Ab (Aa (Ae (A2 U (Cr GM D4 U H at0 U ?_))));have hb3:w0.heap.size≤b3:=(H.own _ (List.mem_cons_self ..)).elim (fun h=>by cases h) id;refine Al Agz (Ae4 (n:=n) (arch:=arch) { r with no:=no+1 } q _ ((RA.ext0 H.ext).no (no+1) r.day) (hr.no (no+1) r.day) (H.ext.to h0 (by simp)) hl hn hn4 (by dsimp only; omega)) U ?_;rintro v w ⟨q',H2,RA',hoff⟩;have hx27:=H.ext;have hl27:=Bb (H.get at0);have h27:=H2.ext.to (H.get at0) (by rw [List.mem_singleton]; omega);have H:=Ctx.start1 h27;refine Ab (Aa (Ae (Ah K5 U (AH B1 U H at0 U (Af U (Af U (Ab (Aa (A5 (Ca (v1:=(.int _ _)) (v2:=(.int _ _)) U U U U ?_))))))))))
    have hsz:=hx27.size;exact ⟨rfl,q',⟨(hx27.mono (by simp)).trans H2.ext,H2.blk,H2.nd,fun y hy=>by rw [List.mem_singleton.1 hy]; exact .inl (List.mem_singleton.2 rfl)⟩,RA',hoff.mono fun x hx=>Nat.lt_of_lt_of_le hx hsz⟩
theorem Aca {br:Nat} {no:Int} {arch:List Value} (w:World) (h0:w.heap[br]? = some (Bl 168 arch)) (hno:arch[33]? = some (.int .u64 no)) :
  Ret Tryz.prog 53 #[ptr br] w fun v w'=>v = .int .u64 no∧Ext [] w w':=by
 obtain ⟨w0,rfl⟩:∃ w0,w0=w:=⟨_,rfl⟩;have H:=Ctx.start w0 [];refine Az (fn:=Tryz.f53) Tryz.func53 U [.pointer (some ⟨br,0,none⟩)] U (by kernel_rfl) ?_;refine Ae (Af U (Ab (Aa (Au (Ae (A2 U (Cw MP U ?_)))))));refine Ab (Aa (Ao _ U ?_ ?_))
 ·intro h1;cases h1
 ·intro h1;refine Ap (Aa (Ae (A2 U (AA U (Ah FC U (AV B1 U ((by rw [Aj (H.ext.to h0 (by simp))]; exact hno)) ?_))))));refine Af U (Ab (Aa (A5 (A9 (v:=(.int _ _)) U U U ?_))));exact ⟨rfl,H.ext⟩
end Go.Proofs.YtdagmpmdcgedcaaGreat
namespace Go.Proofs.YtdagmpmdcgedcaaGreat
open Go.GV
attribute [local irreducible] AD W Wq Wt
theorem PA {P:Program} {ops rest:List Oper} {e:Env} {dst:Option Tmp} {ty:TypeId} {pos:String} {af:Array Edge} {g:Option (Nat × Bool)} {C:World→Prop} {K:Env→Prop} {t t2:TypeId} {x:Operand} {a:Option Addr} {el:TypeId} (hg:AR ⟨dst,.binOp .eql t x (.const (.pointer none)) t2,ty,pos,af,g⟩ ops e=true) (hu:P.underlying t=some (.pointer el)) (hx:ev e x = .pointer a)
  (h:Wq P ops C K rest (put e dst (.bool a.isNone))):Wq P ops C K (⟨dst,.binOp .eql t x (.const (.pointer none)) t2,ty,pos,af,g⟩::rest) e :=
 Ef hg (fun w _=>by
  have hq:eqGuard .eql t x (.const (.pointer none)) (.pointer a) (.pointer none)=pure ():=rfl;have he:ev e (.const (.pointer none)) = .pointer none:=rfl
  simp only [execOp,hx,he,hq,Sem.run_bind,Sem.run_pure,Result.andThen_ok,Tl hu]) h
set_option maxRecDepth 20000 in
set_option maxHeartbeats 2000000 in
theorem U0 {br n:Nat} {no k:Int} {arch:List Value} (w:World) (h0:w.heap[br]? = some (Bl 168 arch)) (hn:arch[32]? = some (.int .u64 n)) (hno:arch[33]? = some (.int .u64 no)) (hb:0≤no∧no≤4611686018427387904) (hk0:0≤k∧k≤18446744073709551615) (hk:k≤no→(n:Int)≤no - k) :
  Ret Tryz.prog 120 #[ptr br,.int .u64 k] w fun v w'=>v = .tuple #[.agg (rnd0).toArray,.bool false]∧Ext [] w w':=by
 obtain ⟨w0,rfl⟩:∃ w0,w0=w:=⟨_,rfl⟩;have H:=Ctx.start w0 [];refine Az (fn:=Tryz.f120) Tryz.func120 U [.pointer (some ⟨br,0,none⟩),.int .u64 k] U (by kernel_rfl) ?_;refine Ae (Ba Hf H ?_);rintro b4 w - H;refine Ai U (Ab (Aa (Au ?_)))
 by_cases hkn:no<k
 ·skip
  refine Dw (fun x=>x=_) Bq (by kernel_rfl) U ?_;refine B5 U (PA U MP U ?_);refine CC U (AY U (B5 U (AZ U (A3 FC U (BR B1 U (by rintro _ rfl; exact ((by rw [Aj (H.drew.ext.to h0 (by simp))]; exact hno))) ?_)))));refine Qw U U U ?_;rw [decide_eq_true hkn];refine Fe U (.bool _) U (CC U (A1 U (A1 U (A1 U (A1 U (A1 U (A1 U (A1 U (A1 U ?_)))))))));refine A1 U (A1 U (A1 U (Il U (.bool _) U (BQ ?_))));rintro _ rfl;replace H:=H.drew;refine DC U (Ae (B6 [.int .u64 0,.int .i64 0,.bool false,.slice none 0 0,.int .i64 0,.slice none 0 0,.slice none 0 0,.slice none 0 0] Wo Hf (by kernel_rfl) ?_));refine Bm D4 U U U (by simp [Bg]) H at0 U ?_;rintro w H;refine Ai U (Ab (Aa (A5 (Aq (Im U U U GM D4 H at0 U (show _=(.bool _) from rfl) ?_)))));exact ⟨rfl,H.ext⟩
 ·skip
  refine Dw (fun x=>x=_) Bq (by kernel_rfl) U ?_;refine B5 U (PA U MP U ?_);refine CC U (AY U (B5 U (AZ U (A3 FC U (BR B1 U (by rintro _ rfl; exact ((by rw [Aj (H.drew.ext.to h0 (by simp))]; exact hno))) ?_)))));refine Qw U U U ?_;rw [decide_eq_false hkn];refine Fe U (.bool _) U (CC U (B5 U (AZ U (A3 FC U (BR B1 U (by rintro _ rfl; exact ((by rw [Aj (H.drew.ext.to h0 (by simp))]; exact hno))) ?_)))));refine AY U (Qx U U U ?_);refine B5 U (AZ U (A3 IM U (BR B1 U (by rintro _ rfl; exact ((by rw [Aj (H.drew.ext.to h0 (by simp))]; exact hn))) ?_)));refine Aff U U U ?_;rw [decide_eq_true (show (n:Int)≤no - k from hk (by omega))];refine Fe U (.bool _) U (BQ ?_);rintro _ rfl;replace H:=H.drew
  refine DC U (Ae (B6 [.int .u64 0,.int .i64 0,.bool false,.slice none 0 0,.int .i64 0,.slice none 0 0,.slice none 0 0,.slice none 0 0] Wo Hf (by kernel_rfl) ?_));refine Bm D4 U U U (by simp [Bg]) H at0 U ?_;rintro w H;refine Ai U (Ab (Aa (A5 (Aq (Im U U U GM D4 H at0 U (show _=(.bool _) from rfl) ?_)))));exact ⟨rfl,H.ext⟩
set_option maxRecDepth 20000 in
set_option maxHeartbeats 2000000 in
theorem Rm {br n:Nat} {no k:Int} {arch:List Value} {r:Rnd} {q:RSl} (w:World) (h0:w.heap[br]? = some (Bl 168 arch)) (_hl:arch.length=34) (hn:arch[32]? = some (.int .u64 n)) (hno:arch[33]? = some (.int .u64 no)) (hb:0≤no∧no≤4611686018427387904) (hk0:0≤k∧k≤18446744073709551615) (hk:k≤no∧no - k<n)
  (hc:∀ j v,(B0 r q)[j]? = some v→arch[(k % 4).toNat*8+j]? = some v) (RA:RAt w r q) (hr:RBnd r) :
  Ret Tryz.prog 120 #[ptr br,.int .u64 k] w fun v w'=>Ext [] w w'∧∃ q',v = .tuple #[.agg (B0 r q').toArray,.bool true]∧RAt w' r q'∧ROff q' r (fun x=>x<w.heap.size):=by
 obtain ⟨w0,rfl⟩:∃ w0,w0=w:=⟨_,rfl⟩;have H:=Ctx.start w0 [];have h3:0≤k % 4∧k % 4<4:=⟨Int.emod_nonneg _ (by decide),Int.emod_lt_of_pos _ (by decide)⟩;refine Az (fn:=Tryz.f120) Tryz.func120 U [.pointer (some ⟨br,0,none⟩),.int .u64 k] U (by kernel_rfl) ?_;refine Ae (Ba Hf H ?_);rintro b4 w - H;refine Ai U (Ab (Aa (Au (Dw (fun x=>x=_) Bq (by kernel_rfl) U ?_))));refine B5 U (PA U MP U ?_);refine CC U (AY U (B5 U (AZ U (A3 FC U (BR B1 U (by rintro _ rfl; exact ((by rw [Aj (H.drew.ext.to h0 (by simp))]; exact hno))) ?_)))));refine Qw U U U ?_;rw [decide_eq_false (show ¬ no<k by omega)];refine Fe U (.bool _) U (CC U (B5 U (AZ U (A3 FC U (BR B1 U (by rintro _ rfl; exact ((by rw [Aj (H.drew.ext.to h0 (by simp))]; exact hno))) ?_)))));refine AY U (Qx U U U ?_)
 refine B5 U (AZ U (A3 IM U (BR B1 U (by rintro _ rfl; exact ((by rw [Aj (H.drew.ext.to h0 (by simp))]; exact hn))) ?_)));refine Aff U U U ?_;rw [decide_eq_false (show ¬ (n:Int)≤no - k by omega)];refine Fe U (.bool _) U (BQ ?_);rintro _ rfl;replace H:=H.drew;refine EH U (Ap (Aa (Ae (A2 U (Ad U (Af8 U U U ?_))))));refine AA U (Ah OQ U (Ni U UY D4 U U ?_));refine BW _ GM D4 U U ((fun j v hv=>by rw [Aj (H.ext.to h0 (by simp)),show 0+0+(k % 4).toNat*8+j=(k % 4).toNat*8+j by omega]; exact hc j v hv)) ?_;have hx3:=H.ext;have hl4:=Bb (H.get at0);refine Al UZ (SN r q _ (RA.ext0 H.ext) hr) U ?_;rintro v w ⟨hx9,q',rfl,RA',hoff⟩;obtain ⟨w9,rfl⟩:∃ z,z=w:=⟨_,rfl⟩;have h4:=hx9.to (H.get at0) (by simp);have hb4:w0.heap.size≤b4:=(H.own _ (List.mem_cons_self ..)).elim (fun h=>by cases h) id;replace H:=Ctx.start1 h4
 refine Bm D4 U U U (by simp [Bg]) H at0 U ?_;rintro w H;refine Ai U (Ab (Aa (A5 (Im U U U GM D4 H at0 U (show _=(.bool _) from rfl) ?_))));have hs3:=hx3.size;refine ⟨(hx3.trans hx9).then H.ext (fun x hx => .inr (by rw [List.mem_singleton.1 hx]; exact hb4)),q',rfl,RA'.ext H.ext (hoff.mono fun x hx=>by rw [List.mem_singleton.1 hx]; exact hl4),hoff.mono fun x hx=>Nat.lt_of_lt_of_le hx hs3⟩
end Go.Proofs.YtdagmpmdcgedcaaGreat
namespace Go.Proofs.YtdagmpmdcgedcaaGreat
open Go.GV
attribute [local irreducible] AD W Wq Wt
theorem Acb {s:Ld} (h:s.Ok) {r x:Rnd} (hx:x∈Jf s.rn r):x=r∨(x∈s.rn∧s.no - 2≤x.no∧x.no≤s.no):=by
 obtain ⟨i,hi⟩:=List.mem_iff_getElem?.1 hx;unfold Jf at hi;rw [List.getElem?_drop] at hi
 rcases Nat.lt_or_ge (s.rn.length - 3+i) s.rn.length with h5 | h5
 ·rw [List.getElem?_append_left h5] at hi;have h1:=h.nos _ x hi;exact .inr ⟨List.mem_of_getElem? hi,by omega,by omega⟩
 ·rw [List.getElem?_append_right h5] at hi;left
  have h6:s.rn.length - 3+i - s.rn.length=0:=by
   have:=Cu hi;rw [List.length_singleton] at this;omega
  rw [h6] at hi;cases hi;rfl
theorem Ae6 (arch:List Value) (n:Nat) (r:Rnd) (q:RSl):(J7 arch n r q).length=arch.length:=by
 unfold J7;rw [List.length_set,List.length_set,D8]
theorem put_n {arch:List Value} (h:arch.length=34) (n:Nat) (r:Rnd) (q:RSl):(J7 arch n r q)[32]? = some (.int .u64 ((min (n+1) 4:Nat):Int)):=by
 unfold J7;rw [List.getElem?_set_ne (by decide),List.getElem?_set_self (by rw [D8]; omega)]
theorem Akc {arch:List Value} (h:arch.length=34) (n:Nat) (r:Rnd) (q:RSl):(J7 arch n r q)[33]? = some (.int .u64 r.no):=by
 unfold J7;rw [List.getElem?_set_self (by rw [List.length_set,D8]; omega)]
theorem Akd {arch:List Value} (h:arch.length=34) (n:Nat) {r:Rnd} {q:RSl} {j:Nat} {v:Value} (hj:(B0 r q)[j]? = some v):(J7 arch n r q)[(r.no % 4).toNat*8+j]? = some v:=by
 have hlt:j<8:=Cu hj;have h3:0≤r.no % 4∧r.no % 4<4:=⟨Int.emod_nonneg _ (by decide),Int.emod_lt_of_pos _ (by decide)⟩;unfold J7;rw [List.getElem?_set_ne (by omega),List.getElem?_set_ne (by omega),WW (by rw [h]; show _+8≤34; omega) hlt];exact hj
theorem Ae7 {arch:List Value} (n:Nat) {r x:Rnd} {q qx:RSl} {j:Nat} {v:Value} (hne:x.no % 4≠r.no % 4) (hj:(B0 x qx)[j]? = some v) (hc:arch[(x.no % 4).toNat*8+j]? = some v):(J7 arch n r q)[(x.no % 4).toNat*8+j]? = some v:=by
 have hlt:j<8:=Cu hj;have h3:0≤r.no % 4∧r.no % 4<4:=⟨Int.emod_nonneg _ (by decide),Int.emod_lt_of_pos _ (by decide)⟩;have h4:0≤x.no % 4∧x.no % 4<4:=⟨Int.emod_nonneg _ (by decide),Int.emod_lt_of_pos _ (by decide)⟩;unfold J7;rw [List.getElem?_set_ne (by omega),List.getElem?_set_ne (by omega)]
 rcases Int.lt_or_gt_of_ne hne with h | h
 ·rw [SP (by omega)];exact hc
 ·rw [SO (by show (r.no % 4).toNat*8+8≤_; omega)];exact hc
theorem SQ {r:Rnd} (h:NB r=true):RBnd r:=by
 unfold NB at h;simp only [Bool.and_eq_true,decide_eq_true_eq] at h;obtain ⟨hc,hi,-⟩:=h;obtain ⟨h1,h2,-⟩:=Ga.1 hc;obtain ⟨g1,g2,g3,-⟩:=CL (Cx (ET h1).1).2.1;have g4:=(Cx (ET h1).1).1;have g5:=(Lo h2).1;exact ⟨⟨by omega,by omega⟩,by omega,by omega,by omega,by omega⟩
theorem Ys {s:Ld} (h:s.Ok) {k:Int} {r:Rnd} (hg:Uo s k=some r):(k≤s.no∧s.no - k<s.rn.length)∧r∈s.rn∧r.no=k:=by
 unfold Uo at hg
 by_cases h1:k≤s.no∧s.no - k<s.rn.length
 ·rw [if_pos h1] at hg;have h2:=h.nos _ r hg;exact ⟨h1,List.mem_of_getElem? hg,by omega⟩
 ·rw [if_neg h1] at hg;cases hg
theorem Rn {s:Ld} (h:s.Ok) {k:Int} (hg:Uo s k=none) (hk:k≤s.no):(s.rn.length:Int)≤s.no - k:=by
 by_cases h1:s.no - k<s.rn.length
 ·unfold Uo at hg;rw [if_pos ⟨hk,h1⟩,List.getElem?_eq_none_iff] at hg;have:=h.kept;omega
 ·omega
theorem Ae8 {m m':Lm} {s s':Ld} (h1:m'.bl=m.bl) (h2:m'.br=m.br) (h3:m'.ba=m.ba) (h4:m'.bd=m.bd) (h5:m'.b=m.b) (h6:m'.a=m.a):De m' s'=De m s:=by
 obtain ⟨bl,ba,bd,br,b,a,c,full,o,arch⟩:=m;obtain ⟨bl',ba',bd',br',b',a',c',full',o',arch'⟩:=m';dsimp only at h1 h2 h3 h4 h5 h6;subst h1 h2 h3 h4 h5 h6;show bl'::br'::ba'::bd'::b'::(ent a' 43 full').map (fun x=>x.1)=bl'::br'::ba'::bd'::b'::(ent a' 43 full).map (fun x=>x.1);rw [WU (f:=full') (g:=full)]
theorem LdIn.rnd {w w1 w':World} {m:Lm} {s:Ld} {T:Nat→Prop} {S:List Nat} {r:Rnd} {q:RSl} {full':List Value} {o':Obj} (I:LdIn w m s T) (he:Ext S w w') (hs:∀ x∈S,T x) (hok:(CR s r).Ok)
  (O:OS m.a (DK s.acs s.ds r).length m.c 2 full' ((DK s.acs s.ds r).flatMap CX)) (M:Db .u64 (dm (D5 s.acs s.ds r)) o') (RA:RAt w' { r with no:=s.no+1,day:=s.day } q) (hoff:ROff q { r with no:=s.no+1,day:=s.day } (fun x=>x<w1.heap.size)) (hle:w.heap.size≤w1.heap.size) :
  LdIn w' ⟨m.bl,m.ba,m.bd,m.br,m.b,m.a,m.c,full',o',J7 m.arch s.rn.length { r with no:=s.no+1,day:=s.day } q⟩ (CR s r) (fun x=>T x∨x∈De ⟨m.bl,m.ba,m.bd,m.br,m.b,m.a,m.c,full',o',J7 m.arch s.rn.length { r with no:=s.no+1,day:=s.day } q⟩ (CR s r)):=by
 have hid:∀ x,T x∨x∈De ⟨m.bl,m.ba,m.bd,m.br,m.b,m.a,m.c,full',o',J7 m.arch s.rn.length { r with no:=s.no+1,day:=s.day } q⟩ (CR s r)→T x:=fun x hx=>by
  exact hx.elim id fun h=>I.own x (Eq.mp (congrArg (fun l=>x∈l) (Ae8 (m:=m) (s:=s) (m':=⟨m.bl,m.ba,m.bd,m.br,m.b,m.a,m.c,full',o',J7 m.arch s.rn.length { r with no:=s.no+1,day:=s.day } q⟩) (s':=CR s r) rfl rfl rfl rfl rfl rfl)) h)
 refine ⟨O,M,hok,by rw [Ae6]; exact I.len,?_,Akc I.len _ _ _,fun x hx=>?_,fun x hx => .inr hx,fun x hx=>Nat.lt_of_lt_of_le (I.low x (hid x hx)) he.size⟩
 ·rw [put_n I.len];show _=some (Value.int .u64 (((Jf s.rn { r with no:=s.no+1,day:=s.day }).length:Nat):Int));rw [Un I.ok.kept.1]
 ·rcases Acb I.ok hx with rfl | ⟨h1,h2,h3⟩
  ·exact ⟨q,fun j v h=>Akd I.len _ h,RA,hoff.mono fun x hx=>Nat.lt_of_lt_of_le (I.low x (hid x hx)) hle⟩
  ·obtain ⟨qx,g1,g2,g3⟩:=I.kept x h1;exact ⟨qx,fun j v h=>Ae7 _ (by show x.no % 4≠(s.no+1) % 4; omega) h (g1 j v h),g2.ext he (g3.mono hs),g3.mono fun y hy=>hid y hy⟩
def Grows (T T':Nat→Prop) (w:World):Prop:=(∀ x,T x→T' x)∧(∀ x,T' x→T x∨w.heap.size≤x)
theorem Grows.refl (T:Nat→Prop) (w:World):Grows T T w:=⟨fun _ h=>h,fun _ h => .inl h⟩
theorem Grows.trans {T T' T'':Nat→Prop} {w w':World} (h:Grows T T' w) (k:Grows T' T'' w') (hs:w.heap.size≤w'.heap.size):Grows T T'' w :=
 ⟨fun x hx=>k.1 x (h.1 x hx),fun x hx=>(k.2 x hx).elim (fun h1=>h.2 x h1) fun h1 => .inr (Nat.le_trans hs h1)⟩
theorem LdIn.grow {w w':World} {m:Lm} {s:Ld} {T T':Nat→Prop} {S:List Nat} (I:LdIn w m s T) (he:Ext S w w') (hs:∀ x∈S,T x∨w.heap.size≤x) (g:Grows T T' w) (hl:∀ x,T' x→x<w'.heap.size):LdIn w' m s T' where
 O:=I.O
 M:=I.M
 ok:=I.ok
 len:=I.len
 n:=I.n
 no:=I.no
 kept:=fun r h=>by
  obtain ⟨q,h1,h2,h3⟩:=I.kept r h;have h4:=h3.or h2.lt;exact ⟨q,h1,h2.ext he (h4.mono hs),h4.mono g.2⟩
 own:=fun x hx=>g.1 x (I.own x hx)
 low:=hl
end Go.Proofs.YtdagmpmdcgedcaaGreat
namespace Go.Proofs.YtdagmpmdcgedcaaGreat
open Go.GV
attribute [local irreducible] AD W Wq Wt
def s00:Ld:=⟨0,[],[],1,[],0⟩
theorem Ake:s00.Ok:=⟨by decide,by decide,fun d h=>(by cases h),by decide,by decide,fun i r h=>(by cases h),fun r h=>(by cases h)⟩
abbrev U2:List Value:=rnd0++(rnd0++(rnd0++(rnd0++[.int .u64 0,.int .u64 0])))
theorem Acc (w:World):Ret Tryz.prog 46 #[] w fun v w'=>∃ b,v=ptr b∧Ctx w [] w' [(b,Bl 162 [.slice none 0 0])]:=by
 obtain ⟨w0,rfl⟩:∃ w0,w0=w:=⟨_,rfl⟩;have H:=Ctx.start w0 [];refine Az (fn:=Tryz.f46) Tryz.func46 U [] U (by kernel_rfl) ?_;refine Ae (Cp U (Ab (Aa (Ae (B6 [.slice none 0 0] Ai5 Ajf (by kernel_rfl) ?_)))));refine Bx [.slice none 0 0] (.agg _) U U H ?_;rintro b2 w - H;refine Cp U (Ab (Aa (A5 (A9 (v:=(.pointer _)) U U U ?_))));exact ⟨b2,rfl,H⟩
theorem Acd (w:World):Ret Tryz.prog 48 #[] w fun v w'=>∃ b,v=ptr b∧Ctx w [] w' [(b,Bl 168 U2)]:=by
 obtain ⟨w0,rfl⟩:∃ w0,w0=w:=⟨_,rfl⟩;have H:=Ctx.start w0 [];refine Az (fn:=Tryz.f48) Tryz.func48 U [] U (by kernel_rfl) ?_;refine Ae (Cp U (Ab (Aa (Ae (B6 U2 Ai6 Ajg (by kernel_rfl) ?_)))));refine Bx U2 (.agg _) U U H ?_;rintro b2 w - H;refine Cp U (Ab (Aa (A5 (A9 (v:=(.pointer _)) U U U ?_))));exact ⟨b2,rfl,H⟩
theorem NU (w:World):Ret Tryz.prog 16 #[] w fun v w'=>∃ m,v=ptr m.bl∧Ctx w [] w' (LL m s00)∧LdIn w' m s00 (fun x=>x∈De m s00):=by
 obtain ⟨w0,rfl⟩:∃ w0,w0=w:=⟨_,rfl⟩;have H:=Ctx.start w0 [];refine Az (fn:=Tryz.f16) Tryz.func16 U [] U (by kernel_rfl) ?_;refine Ae (Cp U (Ab (Aa (Ae (Al ca_46 (Acc _) U ?_)))));rintro v w ⟨ba,rfl,H1⟩;replace H:Ctx w0 [] w [(ba,Bl 162 [.slice none 0 0])]:=H1;refine Al ca_47 (Aei _) U ?_;rintro v w ⟨bd,b,o,rfl,hM,H1⟩;replace H:=Ctx.back (L1:=[]) (L2:=[_]) H H1;refine Al ca_48 (Acd _) U ?_;rintro v w ⟨br,rfl,H1⟩;replace H:=Ctx.back (L1:=[]) (L2:=[_,_,_]) H H1;refine B6 [ptr ba,ptr bd,ptr br,.int .i64 0] Ai4 Aje (by kernel_rfl) ?_;refine Bx [ptr ba,ptr bd,ptr br,.int .i64 0] (.agg _) U U H ?_;rintro bl w - H;refine Cp U (Ab (Aa (A5 (A9 (v:=(.pointer _)) U U U ?_))));have H1:Ctx w0 [] w (LL ⟨bl,ba,bd,br,b,none,0,[],o,U2⟩ s00):=H.perm (List.Perm.cons _ (List.Perm.cons _ (List.perm_append_comm (l₁:=[_,_]) (l₂:=[_]))))
 refine ⟨⟨bl,ba,bd,br,b,none,0,[],o,U2⟩,rfl,H1,OS.nil,hM,Ake,rfl,rfl,rfl,fun r h=>(by cases h),fun x h=>h,fun x h=>?_⟩;obtain ⟨y,hy,rfl⟩:=List.mem_map.1 h;exact Bb (H1.blk y hy)
abbrev Ro (x:Rnd × RSl):List Value:=B0 x.1 x.2
theorem U3 {α β:Type} (y:β):∀ {xs:List α} {ys:List β} {x:α},xs[ys.length]? = some x→xs.zip (ys++[y])=xs.zip ys++[(x,y)]
 | [],_,_,h=>by cases h
 | a::xs,[],x,h=>by
  cases h;show (a,y)::xs.zip []=_;rw [List.zip_nil_right];rfl
 | a::xs,b::ys,x,h=>by
  show (a,b)::xs.zip (ys++[y])=(a,b)::(xs.zip ys++[(x,y)]);rw [U3 y (show xs[ys.length]? = some x from h)]
structure ARS where
 i:Nat
 a:Option Addr
 c:Nat
 full:List Value
 qs:List RSl
set_option maxRecDepth 20000 in
set_option maxHeartbeats 2000000 in
theorem Yt {br:Nat} {m:Lm} {s:Ld} {T:Nat→Prop} (w:World) (I:LdIn w m s T) (h0:w.heap[br]? = some (Bl 168 m.arch)) :
  Ret Tryz.prog 52 #[ptr br] w fun v w'=>Ext [] w w'∧∃ a c qs,v = .slice a s.rn.length c∧qs.length=s.rn.length∧Rd w' a 8 Ro (s.rn.zip qs)∧(s.rn≠[]→¬ (adr a).block<w.heap.size)∧∀ x∈s.rn.zip qs,RAt w' x.1 x.2∧ROff x.2 x.1 (fun y=>y<w.heap.size):=by
 obtain ⟨w0,rfl⟩:∃ w0,w0=w:=⟨_,rfl⟩;have H:=Ctx.start w0 [];obtain ⟨hk4,hkn,hkm⟩:=I.ok.kept;refine Az (fn:=Tryz.f52) Tryz.func52 U [.pointer (some ⟨br,0,none⟩)] U (by kernel_rfl) ?_;refine Ae (A4 U (Ab (Aa (Au (Ae (A2 U (Cw MP U ?_)))))));refine Ab (Aa (Ao _ U ?_ ?_))
 ·intro h1;cases h1
 ·intro h1;refine Ap (Aa (Au (Ae (A2 U (AA U (Ah IM U (AV B1 U ((by rw [Aj h0]; exact I.n)) ?_)))))));refine Ad U (Ab (Aa (A0 (Bv 68719475724 (α:=ARS) (fun t=>[(2,.slice t.a t.i t.c),(10,.int .u64 (t.i:Int))]) (fun t w'=>t.qs.length=t.i∧t.i≤s.rn.length∧OS t.a t.i t.c 8 t.full ((s.rn.zip t.qs).flatMap Ro)∧(∀ x∈s.rn.zip t.qs,RAt w' x.1 x.2∧ROff x.2 x.1 (fun y=>y<w0.heap.size∨y∈(ent t.a 55 t.full).map (fun x:Nat × Obj=>x.1)))∧Ctx w0 [] w' (ent t.a 55 t.full)) (fun t=>s.rn.length - t.i) ⟨0,none,0,[],[]⟩ U ?_ ?_ ?_))))
  ·exact ⟨rfl,rfl,trivial⟩
  ·refine ⟨rfl,Nat.zero_le _,?_,fun x hx=>?_,H⟩
   ·rw [List.zip_nil_right]; exact OS.nil
   ·rw [List.zip_nil_right] at hx; cases hx
  ·clear H;rintro ⟨i,a,c,full,qs⟩ j w ⟨hqi,hi,O,K,HR⟩; dsimp only at hqi hi O K HR; dsimp only;obtain ⟨w1,rfl⟩:∃ z,z=w:=⟨_,rfl⟩;have H:=Ctx.start w1 [];refine Ae (Bj U U (Ab (Aa (Au (Ao _ U ?_ ?_)))))
   ·intro h2;replace h2:=AM h2;obtain ⟨r,hr⟩:=A8 (l:=s.rn) (i:=i);obtain ⟨q,hq1,hq2,-⟩:=I.kept r (List.mem_of_getElem? hr);have hB:=SQ (I.ok.may r (List.mem_of_getElem? hr));have hrn:=I.ok.nos i r hr;have h01:=HR.ext.to h0 (by simp);have h3:0≤r.no % 4∧r.no % 4<4:=⟨Int.emod_nonneg _ (by decide),Int.emod_lt_of_pos _ (by decide)⟩;rw [hrn] at hq1 h3;refine Ap (Aa (Au (A0 (Ae (Ad U (Af U (Ab (Aa ?_))))))))
    have hnbr:br∉(ent a 55 full).map (fun x:Nat × Obj=>x.1):=fun hm=>by
     obtain ⟨z,hz,hzb⟩:=List.mem_map.1 hm;have h4:=Bb h0;have h5:=(HR.own z hz).elim (fun h=>by cases h) id;rw [hzb] at h5;omega
    refine Fj [([0,1,2,3,4,5,6,7,8,9,10,11,12,13,14,15,16,17,18],19),([],20),([],21),([],22)] (fun z=>z.heap[br]? = some (Bl 168 m.arch)) [] Bq (by kernel_rfl) (H.drew.ext.to h01 (by simp)) ?_;refine AE U U ?_;refine B3 U (BL U (BL U (Bf U (Am FC U (Bw B1 U (fun _ hx=>(by rw [Aj hx]; exact I.no)) ?_)))));refine BL U (Bf U (Am IM U (Bw B1 U (fun _ hx=>(by rw [Aj hx]; exact I.n)) ?_)));refine Xk U U U ?_;refine MC U U U ?_;refine Bc U (MC U U U ?_);refine Afj U U U ?_;refine Bf U (Am OQ U (Ov U UY D4 U U ?_));refine IH _ GM D4 U U (fun _ hx=>(fun j v hv=>by rw [Aj hx,show 0+0+(((s.no - s.rn.length)+1+i) % 4).toNat*8+j=((s.no - s.rn.length+1+i) % 4).toNat*8+j by omega]; exact hq1 j v hv)) ?_;refine AP ?_;replace H:=H.drew;have hs1:=H.ext.size
    refine Al UZ (SN r q _ (hq2.ext0 (HR.ext.trans H.ext)) hB) U ?_;rintro v w ⟨hx32,q',rfl,RA',hoff⟩;have E1:=H.ext.trans hx32;have HC:=HR.call E1;have h03:=HC.ext.to h0 (by simp);obtain ⟨w3,rfl⟩:∃ z,z=w:=⟨_,rfl⟩;clear H;have H:=Ctx.lend (L1:=ent a 55 full) HC.app_nil;refine Ab (BT (h03) (AE U U ?_));refine AP (Cj _ (.agg _) Nk D4 Hf U (by decide) (by decide) U U U H ?_);rintro b33 w - H;refine Ab (BT (H.ext.to h03 hnbr) (AE U U ?_));refine AP (CF (L:=[]) Nk Nk D4 by_55 Hf U (by decide) U U H O U (by simp [Bg]) ?_);rintro a' c' full' w H O';refine Ab (BT (H.ext.to h03 hnbr) (AE U U ?_));refine AP (A4 U (Ab (BT (H.ext.to h03 hnbr) (BJ (A6 (Aa (Ax (EI U U ?_))))))));refine Ad U (Ab (Aa ?_));have hs3:=E1.size
    have hin:∀ y∈(ent a' 55 full').map (fun x:Nat × Obj=>x.1),y∈(ent a 55 full).map (fun x:Nat × Obj=>x.1)∨w3.heap.size≤y:=fun y hy=>by
     obtain ⟨z,hz,rfl⟩:=List.mem_map.1 hy;exact H.own z hz
    have hlt:∀ y∈(ent a 55 full).map (fun x:Nat × Obj=>x.1),y<w1.heap.size:=fun y hy=>by
     obtain ⟨z,hz,rfl⟩:=List.mem_map.1 hy;exact Bb (HR.blk z hz)
    have hz:=U3 q' (ys:=qs) (hqi ▸ hr);refine ⟨⟨i+1,a',c',full',qs++[q']⟩,rfl,⟨rfl,rfl,trivial⟩,⟨by dsimp only; rw [List.length_append,List.length_singleton,hqi],by dsimp only; omega,?_,fun x hx=>?_,(Ctx.back (L1:=ent a 55 full) (L2:=[]) HC.app_nil H).nil_app⟩,by dsimp only; omega⟩
    ·dsimp only;rw [hz,List.flatMap_append,List.flatMap_singleton];exact O'
    ·dsimp only at hx ⊢;rw [hz] at hx
     rcases List.mem_append.1 hx with h | h
     ·obtain ⟨k1,k2⟩:=K x h;exact ⟨(k1.ext0 E1).ext H.ext (k2.mono fun y hy => .inr hy),(k2.or k1.lt).mono fun y hy=>hy.elim (fun h => .inl (.inl h)) fun h=>(hin y h).elim (fun h => .inl (.inr h)) fun h => .inr (Nat.le_trans hs3 h)⟩
     ·rw [List.mem_singleton.1 h];exact ⟨RA'.ext H.ext (hoff.mono fun y hy=>Nat.lt_of_lt_of_le (hlt y hy) hs1),(hoff.or RA'.lt).mono fun y hy=>hy.elim (fun h => .inl (Nat.lt_of_lt_of_le (Nat.lt_of_lt_of_le h HR.size) hs1)) fun h=>(hin y h).elim (fun h => .inl (Nat.lt_of_lt_of_le (hlt y h) hs1)) .inr⟩
   ·intro h2;replace h2:=AN h2;obtain rfl:i=s.rn.length:=by omega
    refine Br (An (An (AK (Aa (Ae (Ay U (A4 U (Ab (Aa (A5 (A9 (v:=(.slice _ _ _)) U U U ?_)))))))))));have O2:OS a (s.rn.zip qs).length c 8 full ((s.rn.zip qs).flatMap Ro):=by rw [List.length_zip,hqi,Nat.min_self]; exact O
    refine ⟨HR.ext,a,c,qs,rfl,hqi,OS.rd O (t:=55) (fun x hx=>HR.blk x hx) (fun _ _=>rfl) (by decide),fun hne=>?_,fun x hx=>⟨(K x hx).1,(K x hx).2.mono fun y hy => .inl hy⟩⟩;obtain ⟨p,rfl⟩:=O.form (List.length_pos_iff.2 hne);exact Nat.not_lt.2 ((HR.own (p,Bl 55 full) (List.mem_singleton.2 U)).elim (fun h=>by cases h) id)
end Go.Proofs.YtdagmpmdcgedcaaGreat
namespace Go.Proofs.YtdagmpmdcgedcaaGreat
open Go.GV
attribute [local irreducible] AD W Wq Wt
set_option maxRecDepth 20000 in
set_option maxHeartbeats 4000000 in
theorem Yu (r:Rnd) (q s:RSl) (w:World) (RA:RAt w r q) (RB:RAt w r s) (hr:RBnd r) :
  Ret Tryz.prog 121 #[.agg (B0 r q).toArray,.agg (B0 r s).toArray] w fun v w'=>v = .bool true∧Ext [] w w':=by
 obtain ⟨w0,rfl⟩:∃ w0,w0=w:=⟨_,rfl⟩;have H:=Ctx.start w0 [];have he:=hr.es;have hi:=hr.ids;have hf:=hr.fl;have hp:=hr.pot;refine Az (fn:=Tryz.f121) Tryz.func121 U [.agg (B0 r q).toArray,.agg (B0 r s).toArray] U (by kernel_rfl) ?_;refine Ae (Bx (B0 r q) (.agg _) U U H ?_);rintro b2 w - H;refine Bx (B0 r s) (.agg _) U U H ?_;rintro b3 w - H;refine Ai U (Ab (Aa (Au (Ae (Cb (α:=Unit) 73786976294838206208 (fun _=>[(65,.bool (false))]) (fun _ w'=>Ctx w0 [] w' [(b3,Bl 55 (B0 r s)),(b2,Bl 55 (B0 r q))]) U ?_ ?_)))))
 ·refine Ah K5 U (AH B1 U H at1 U (Ah K5 U (AH B1 U H at0 U (C0 U U (A7 U (AO 13 U ?_ ?_))))))
  ·intro h1;replace h1:=C7 h1;refine Ag U (Ag U (Ag U (Ag U (Ag U (AF U (.bool _) U (A7 U (Ag U (Ag U (Ag U ?_)))))))));refine Ag U (Ag U (AF U (.bool _) U (A7 U (Ag U (Ag U (Ag U (Ag U (Ag U (Ag U ?_)))))))));refine AF U (.bool _) U (A7 U (Ag U (Ag U (Ag U (Ag U (Ag U (Ag U (Ag U (AF U (.bool _) U ?_)))))))));refine A7 U (Ag U (Ag U (Ag U (Ag U (Ag U (Ag U (Ag U (Ag U (Ag U ?_)))))))));refine AF U (.bool _) U (A7 U (Ag U (Ag U (Ag U (Ag U (Ag U (Ag U (Ag U (Ag U ?_)))))))));refine Ag U (AF U (.bool _) U (Ab ?_));exact ⟨rfl,(),rfl,⟨congrArg Value.bool (by (simp_all; done)),trivial⟩,H⟩
  ·intro h2;replace h2:=C8 h2;refine Ah LP U (AH Bs U H at1 U (Ah LP U (AH Bs U H at0 U (C0 U U (AG U (.bool _) U (A7 U (AO 20 U ?_ ?_)))))))
   ·intro h3;replace h3:=C7 h3;refine Ag U (Ag U (Ag U (Ag U (Ag U (AF U (.bool _) U (A7 U (Ag U (Ag U (Ag U ?_)))))))));refine Ag U (Ag U (Ag U (AF U (.bool _) U (A7 U (Ag U (Ag U (Ag U (Ag U (Ag U ?_)))))))));refine Ag U (Ag U (AF U (.bool _) U (A7 U (Ag U (Ag U (Ag U (Ag U (Ag U (Ag U ?_)))))))));refine Ag U (Ag U (Ag U (AF U (.bool _) U (A7 U (Ag U (Ag U (Ag U (Ag U (Ag U ?_)))))))));refine Ag U (Ag U (Ag U (Ag U (AF U (.bool _) U (Ab ?_)))));exact ⟨rfl,(),rfl,⟨congrArg Value.bool (by (simp_all; done)),trivial⟩,H⟩
   ·intro h4;replace h4:=C8 h4;refine Ah NK U (AH KG U H at1 U (Ah NK U (AH KG U H at0 U (Ac2 un_4 U U U ?_))));refine AG U (.bool _) U (A7 U (AO 27 U ?_ ?_))
    ·intro h5;refine Ag U (Ag U (Ag U (Ag U (Ag U (Ag U (AF U (.bool _) U (A7 U (Ag U (Ag U ?_)))))))));refine Ag U (Ag U (Ag U (Ag U (Ag U (AF U (.bool _) U (A7 U (Ag U (Ag U (Ag U ?_)))))))));refine Ag U (Ag U (Ag U (Ag U (Ag U (Ag U (AF U (.bool _) U (A7 U (Ag U (Ag U ?_)))))))));refine Ag U (Ag U (Ag U (Ag U (Ag U (Ag U (Ag U (AF U (.bool _) U (Ab ?_))))))));exact ⟨rfl,(),rfl,⟨congrArg Value.bool (by (simp_all; done)),trivial⟩,H⟩
    ·intro h6;refine Ah Fg U (BW _ Dh CK U U ((Cm (l:=B0 r q) (H.get at1) 4 [.int .i64 r.N,.slice q.aE r.es.length q.cE] U)) ?_);refine Ah Fg U (BW _ Dh CK U U ((Cm (l:=B0 r s) (H.get at0) 4 [.int .i64 r.N,.slice s.aE r.es.length s.cE] U)) ?_);refine Al Ahj (VM r.N r.N q.aE s.aE _ q.cE _ s.cE r.es r.es _ (RA.E.ext0 H.ext) U he (RB.E.ext0 H.ext) U he) U ?_;rintro v w ⟨rfl,hx32⟩;replace H:=H.call hx32;rw [show Rj r.N r.N r.es r.es=true by simp [Rj]];refine BF U (AG U (.bool _) U (A7 U (AO 35 U ?_ ?_)))
     ·intro h7;replace h7:=BG h7;refine Ag U (Ag U (Ag U (Ag U (Ag U (Ag U (Ag U (AF U (.bool _) U (A7 U (Ag U ?_)))))))));refine Ag U (Ag U (Ag U (Ag U (Ag U (Ag U (Ag U (Ag U (AF U (.bool _) U (A7 U ?_)))))))));refine Ag U (Ag U (Ag U (Ag U (Ag U (Ag U (Ag U (Ag U (Ag U (AF U (.bool _) U ?_)))))))));refine Ab ?_;exact ⟨rfl,(),rfl,⟨congrArg Value.bool (by (simp_all; done)),trivial⟩,H⟩
     ·intro h8;replace h8:=BH h8;refine Ah EL U (AH Hb U H at1 U (Be Bt U (Ah EL U (AH Hb U H at0 U (Be Bt U (C0 U U (AG U (.bool _) U (A7 U (AO 44 U ?_ ?_)))))))))
      ·intro h9;replace h9:=C7 h9;refine Ag U (Ag U (Ag U (Ag U (Ag U (Ag U (Ag U (Ag U (Ag U (AF U (.bool _) U ?_)))))))));refine A7 U (Ag U (Ag U (Ag U (Ag U (Ag U (Ag U (Ag U (Ag U (Ag U ?_)))))))));refine AF U (.bool _) U (Ab ?_);exact ⟨rfl,(),rfl,⟨congrArg Value.bool (by (simp_all; done)),trivial⟩,H⟩
      ·intro h10;replace h10:=C8 h10;refine Ah DG U (Ah FK U (AH BM U H at1 U (Be AU U (Ah DG U (Ah FK U (AH BM U H at0 U (Be AU U (C0 U U (AG U (.bool _) U ?_)))))))));refine A7 U (AO 55 U ?_ ?_)
       ·intro h11;replace h11:=C7 h11;refine Ag U (Ag U (Ag U (Ag U (Ag U (Ag U (Ag U (Ag U (Ag U (AF U (.bool _) U ?_)))))))));refine Ab ?_;exact ⟨rfl,(),rfl,⟨congrArg Value.bool (by (simp_all; done)),trivial⟩,H⟩
       ·intro h12;replace h12:=C8 h12;refine Ah DG U (Ah G8 U (AH BM U H at1 U (Be AU U (Ah DG U (Ah G8 U (AH BM U H at0 U (Be AU U (C0 U U (AG U (.bool _) U ?_)))))))));refine Ab ?_;exact ⟨rfl,(),rfl,⟨congrArg Value.bool (by (simp_all; done)),trivial⟩,H⟩
 rintro - j65 w H;refine EH U (Ap (Aa (Au (Ae (Af U (Ab (Aa (A0 (Bv 19342739326857771957092400 (α:=Nat) (fun i=>[(5,.int .i64 (i:Int))]) (fun i w'=>i≤r.ids.length∧Ctx w0 [] w' [(b3,Bl 55 (B0 r s)),(b2,Bl 55 (B0 r q))]) (fun i=>r.ids.length - i) 0 U ?_ ?_ ?_)))))))))
 ·exact ⟨rfl,trivial⟩
 ·exact ⟨Nat.zero_le _,H⟩
 ·clear H;rintro i j w ⟨hii,H⟩;refine Au (Ae (Ad U (Ah EL U (AH Hb U H at1 U (Be Bt U (Bj U U (Ab (Aa (Ao _ U ?_ ?_)))))))))
  ·intro h2;replace h2:=AM h2;obtain ⟨x,hx⟩:=A8 (l:=r.ids) (i:=i);refine Ap (Aa (Au (A0 (Dw (fun x=>x=_) Bq (by kernel_rfl) U ?_))));refine A3 EL U (Cc Hb U (by rintro _ rfl; exact H.drew) at1 U ?_);refine AY U (BE RA.I Bt Bo U U (by rfl) ?_);refine BR B1 U (by rintro _ rfl; exact (((RA.I.ext0 H.drew.ext).one (f:=Gt) hx))) ?_;refine A3 EL U (Cc Hb U (by rintro _ rfl; exact H.drew) at0 U ?_);refine AY U (BE RB.I Bt Bo U U (by rfl) ?_);refine BR B1 U (by rintro _ rfl; exact (((RB.I.ext0 H.drew.ext).one (f:=Gt) hx))) ?_;refine IF U U (BQ ?_);rintro _ rfl;replace H:=H.drew;refine Ao _ U ?_ ?_
   ·intro h3;replace h3:=C7 h3;omega
   ·intro h3;replace h3:=C8 h3;refine Ap (A6 (Aa (Ax (Ad U (Aw U U ?_)))));refine Af U (Ab (Aa ?_));exact ⟨i+1,rfl,⟨rfl,trivial⟩,⟨by omega,H⟩,by omega⟩
  ·intro h2;replace h2:=AN h2;refine Br (An (An (AK (Aa (Au (Ae (Af U (Ab (Aa (A0 (Bv 40564799864490227013827707273296 (α:=Nat) (fun i=>[(6,.int .i64 (i:Int))]) (fun i w'=>i≤r.fl.length∧Ctx w0 [] w' [(b3,Bl 55 (B0 r s)),(b2,Bl 55 (B0 r q))]) (fun i=>r.fl.length - i) 0 U ?_ ?_ ?_)))))))))))
   ·exact ⟨rfl,trivial⟩
   ·exact ⟨Nat.zero_le _,H⟩
   ·clear H;rintro i2 j2 w ⟨hii2,H⟩;refine Au (Ae (Ad U (Ah DG U (Ah FK U (AH BM U H at1 U (Be AU U (Bj U U (Ab (Aa (Ao _ U ?_ ?_))))))))))
    ·intro h3;replace h3:=AM h3;obtain ⟨x,hx⟩:=A8 (l:=r.fl) (i:=i2);refine Ap (Aa (Au (A0 (Dw (fun x=>x=_) Bq (by kernel_rfl) U ?_))));refine A3 DG U (A3 FK U (Cc BM U (by rintro _ rfl; exact H.drew) at1 U ?_));refine AY U (BE RA.F AU Bz U U (by rfl) ?_);refine BR Bs U (by rintro _ rfl; exact (((RA.F.ext0 H.drew.ext).one (f:=Dm) hx))) ?_;refine A3 DG U (A3 FK U (Cc BM U (by rintro _ rfl; exact H.drew) at0 U ?_));refine AY U (BE RB.F AU Bz U U (by rfl) ?_);refine BR Bs U (by rintro _ rfl; exact (((RB.F.ext0 H.drew.ext).one (f:=Dm) hx))) ?_;refine IF U U (BQ ?_);rintro _ rfl;replace H:=H.drew;refine Ao _ U ?_ ?_
     ·intro h4;replace h4:=C7 h4;omega
     ·intro h4;replace h4:=C8 h4;refine Ap (A6 (Aa (Ax (Ad U (Aw U U ?_)))));refine Af U (Ab (Aa ?_));exact ⟨i2+1,rfl,⟨rfl,trivial⟩,⟨by omega,H⟩,by omega⟩
    ·intro h3;replace h3:=AN h3;refine Br (An (An (AK (Aa (Au (Ae (Af U (Ab (Aa (A0 (Bv 85070551165415408562502803963439480976 (α:=Nat) (fun i=>[(7,.int .i64 (i:Int))]) (fun i w'=>i≤r.pot.length∧Ctx w0 [] w' [(b3,Bl 55 (B0 r s)),(b2,Bl 55 (B0 r q))]) (fun i=>r.pot.length - i) 0 U ?_ ?_ ?_)))))))))))
     ·exact ⟨rfl,trivial⟩
     ·exact ⟨Nat.zero_le _,H⟩
     ·clear H;rintro i3 j3 w ⟨hii3,H⟩;refine Au (Ae (Ad U (Ah DG U (Ah G8 U (AH BM U H at1 U (Be AU U (Bj U U (Ab (Aa (Ao _ U ?_ ?_))))))))))
      ·intro h4;replace h4:=AM h4;obtain ⟨x,hx⟩:=A8 (l:=r.pot) (i:=i3);refine Ap (Aa (Au (A0 (Dw (fun x=>x=_) Bq (by kernel_rfl) U ?_))));refine A3 DG U (A3 G8 U (Cc BM U (by rintro _ rfl; exact H.drew) at1 U ?_));refine AY U (BE RA.P AU Bz U U (by rfl) ?_);refine BR Bs U (by rintro _ rfl; exact (((RA.P.ext0 H.drew.ext).one (f:=Dm) hx))) ?_;refine A3 DG U (A3 G8 U (Cc BM U (by rintro _ rfl; exact H.drew) at0 U ?_));refine AY U (BE RB.P AU Bz U U (by rfl) ?_);refine BR Bs U (by rintro _ rfl; exact (((RB.P.ext0 H.drew.ext).one (f:=Dm) hx))) ?_;refine IF U U (BQ ?_);rintro _ rfl;replace H:=H.drew;refine Ao _ U ?_ ?_
       ·intro h5;replace h5:=C7 h5;omega
       ·intro h5;replace h5:=C8 h5;refine Ap (A6 (Aa (Ax (Ad U (Aw U U ?_)))));refine Af U (Ab (Aa ?_));exact ⟨i3+1,rfl,⟨rfl,trivial⟩,⟨by omega,H⟩,by omega⟩
      ·intro h4;replace h4:=AN h4;refine Br (An (An (AK (Aa (Ae (Ai U (Ab (Aa (A5 (A9 (v:=(.bool _)) U U U ?_))))))))));exact ⟨rfl,H.ext⟩
set_option maxRecDepth 20000 in
theorem Yv (a b:Option Addr) (n c m d:Nat) (rn:List Rnd) (qs zs:List RSl) (w:World) (R:Rd w a 8 Ro (rn.zip qs)) (hn:rn.length=n) (hn2:n≤1000000) (Ry:Rd w b 8 Ro (rn.zip zs)) (hm:rn.length=m) (hq:qs.length=rn.length) (hz:zs.length=rn.length)
  (K:∀ x∈rn.zip qs,RAt w x.1 x.2) (Ky:∀ x∈rn.zip zs,RAt w x.1 x.2) (hB:∀ r∈rn,RBnd r) :
  Ret Tryz.prog 70 #[.slice a n c,.slice b m d] w fun v w'=>v = .bool true∧Ext [] w w':=by
 subst hn hm;obtain ⟨w0,rfl⟩:∃ w0,w0=w:=⟨_,rfl⟩;have H:=Ctx.start w0 [];have hzq:(rn.zip qs).length=rn.length:=by rw [List.length_zip]; omega
 have hzz:(rn.zip zs).length=rn.length:=by rw [List.length_zip]; omega
 refine Az (fn:=Tryz.f70) Tryz.func70 U [.slice a rn.length c,.slice b rn.length d] U (by kernel_rfl) ?_;refine Ae (Ai U (Ab (Aa (Au (Ae (Ay U (Be Nk U (Ay U (Be Nk U (C0 U U ?_))))))))));refine Ab (Aa (Ao _ U ?_ ?_))
 ·intro h1;replace h1:=C7 h1;omega
 ·intro h1;replace h1:=C8 h1;refine Ap (Aa (Au (Ae (Af U (Ab (Aa (A0 (Bv 134215728 (α:=Nat) (fun i=>[(5,.int .i64 (i:Int))]) (fun i w'=>i≤rn.length∧Ctx w0 [] w' []) (fun i=>rn.length - i) 0 U ?_ ?_ ?_))))))))
  ·exact ⟨rfl,trivial⟩
  ·exact ⟨Nat.zero_le _,H⟩
  ·clear H;rintro i j w ⟨hi,H⟩;refine Au (Ae (Ad U (Ay U (Be Nk U (Bj U U (Ab (Aa (Ao _ U ?_ ?_))))))))
   ·intro h2;replace h2:=AM h2;obtain ⟨r,hr⟩:=A8 (l:=rn) (i:=i);obtain ⟨q,hqi⟩:=A8 (l:=qs) (i:=i);obtain ⟨z,hzi⟩:=A8 (l:=zs) (i:=i);have hx:(rn.zip qs)[i]? = some (r,q):=List.getElem?_zip_eq_some.2 ⟨hr,hqi⟩;have hy:(rn.zip zs)[i]? = some (r,z):=List.getElem?_zip_eq_some.2 ⟨hr,hzi⟩;refine Ap (Aa (Au (A0 (DZ 8 Bq (by kernel_rfl) U U ?_))));refine Ch U (AY U (BE R Nk D4 U U (by omega) ?_));refine Gu _ GM D4 U U (by rintro _ rfl; exact ((R.ext0 H.drew.ext).row hx rfl)) ?_;refine Ch U (AY U (BE Ry Nk D4 U U (by omega) ?_));refine Gu _ GM D4 U U (by rintro _ rfl; exact ((Ry.ext0 H.drew.ext).row hy rfl)) ?_;refine BQ ?_;replace H:=H.drew;refine Al Agx (Yu r q z _ ((K _ (List.mem_of_getElem? hx)).ext0 H.ext) ((Ky _ (List.mem_of_getElem? hy)).ext0 H.ext) (hB r (List.mem_of_getElem? hr))) U ?_
    rintro v w ⟨rfl,hx25⟩;replace H:=H.call hx25;refine BF U (Ab (Aa (Ao _ U ?_ ?_)))
    ·intro h3;replace h3:=BG h3;cases h3
    ·intro h3;replace h3:=BH h3;refine Ap (A6 (Aa (Ax (Ad U (Aw U U ?_)))));refine Af U (Ab (Aa ?_));exact ⟨i+1,rfl,⟨rfl,trivial⟩,⟨by omega,H⟩,by omega⟩
   ·intro h2;replace h2:=AN h2;refine Br (An (An (AK (Aa (Ae (Ai U (Ab (Aa (A5 (A9 (v:=(.bool _)) U U U ?_))))))))));exact ⟨rfl,H.ext⟩
structure StZ where
 aA:Option Addr
 cA:Nat
 aD:Option Addr
 cD:Nat
 aR:Option Addr
 cR:Nat
 qs:List RSl
abbrev stC (s:Ld) (z:StZ):List Value:=[.int .i64 s.day,.slice z.aA s.acs.length z.cA,.slice z.aD s.ds.length z.cD,.int .u64 s.nx,.slice z.aR s.rn.length z.cR,.int .u64 s.no,.slice none 0 0]
structure StAt (w:World) (s:Ld) (z:StZ):Prop where
 A:Rd w z.aA 2 CX s.acs
 D:Rd w z.aD 7 CT s.ds
 R:Rd w z.aR 8 Ro (s.rn.zip z.qs)
 n:z.qs.length=s.rn.length
 K:∀ x∈s.rn.zip z.qs,RAt w x.1 x.2
structure StOff (s:Ld) (z:StZ) (S:Nat→Prop):Prop where
 A:s.acs≠[]→¬ S (adr z.aA).block
 D:s.ds≠[]→¬ S (adr z.aD).block
 R:s.rn≠[]→¬ S (adr z.aR).block
 K:∀ x∈s.rn.zip z.qs,ROff x.2 x.1 S
theorem Ace {rn:List Rnd} {qs:List RSl} (h:rn.zip qs≠[]):rn≠[]:=fun h1=>h (by rw [h1]; rfl)
theorem StOff.mono {s:Ld} {z:StZ} {S S':Nat→Prop} (h:StOff s z S) (hs:∀ x,S' x→S x):StOff s z S':=⟨fun g k=>h.A g (hs _ k),fun g k=>h.D g (hs _ k),fun g k=>h.R g (hs _ k),fun x hx=>(h.K x hx).mono hs⟩
theorem StOff.or {s:Ld} {z:StZ} {S S':Nat→Prop} (h:StOff s z S) (k:StOff s z S'):StOff s z (fun x=>S x∨S' x):=⟨fun g x=>x.elim (h.A g) (k.A g),fun g x=>x.elim (h.D g) (k.D g),fun g x=>x.elim (h.R g) (k.R g),fun x hx=>(h.K x hx).or (k.K x hx)⟩
theorem StAt.ext {w w':World} {s:Ld} {z:StZ} {S:List Nat} (h:StAt w s z) (he:Ext S w w') (hn:StOff s z (·∈S)):StAt w' s z :=
 ⟨h.A.ext' he hn.A,h.D.ext' he hn.D,h.R.ext' he fun g=>hn.R (Ace g),h.n,fun x hx=>(h.K x hx).ext he (hn.K x hx)⟩
theorem StAt.ext0 {w w':World} {s:Ld} {z:StZ} (h:StAt w s z) (he:Ext [] w w'):StAt w' s z :=
 h.ext he ⟨fun _=>by simp,fun _=>by simp,fun _=>by simp,fun x _=>⟨fun _=>by simp,fun _=>by simp,fun _=>by simp,fun _=>by simp⟩⟩
theorem StAt.lt {w:World} {s:Ld} {z:StZ} (h:StAt w s z):StOff s z (fun x=>w.heap.size≤x) :=
 ⟨fun g=>Nat.not_le.2 (h.A.lt' (fun _ _=>rfl) (by decide) g),fun g=>Nat.not_le.2 (h.D.lt' (fun _ _=>rfl) (by decide) g),fun g=>Nat.not_le.2 (h.R.lt' (fun _ _=>rfl) (by decide) fun h1=>g (by
  have h2:=congrArg List.length h1;rw [List.length_zip,h.n,Nat.min_self] at h2
  exact List.length_eq_zero_iff.1 h2)),fun x hx=>(h.K x hx).lt⟩
theorem Acf {bd b:Nat} {nx:Int} (w:World) (hd:w.heap[bd]? = some (Bl 165 (DU b nx))):Ret Tryz.prog 51 #[ptr bd] w fun v w'=>v = .int .u64 nx∧Ext [] w w':=by
 obtain ⟨w0,rfl⟩:∃ w0,w0=w:=⟨_,rfl⟩;have H:=Ctx.start w0 [];refine Az (fn:=Tryz.f51) Tryz.func51 U [.pointer (some ⟨bd,0,none⟩)] U (by kernel_rfl) ?_;refine Ae (Af U (Ab (Aa (Au (Ae (A2 U (Cw I6 U ?_)))))));refine Ab (Aa (Ao _ U ?_ ?_))
 ·intro h1;cases h1
 ·intro h1;refine Ap (Aa (Ae (A2 U (AA U (Ah JU U (AV B1 U ((by rw [Aj hd]; rfl)) ?_))))));refine Af U (Ab (Aa (A5 (A9 (v:=(.int _ _)) U U U ?_))));exact ⟨rfl,H.ext⟩
set_option maxRecDepth 20000 in
set_option maxHeartbeats 2000000 in
theorem Yw {m:Lm} {s:Ld} {T:Nat→Prop} {S:List Nat} {w0:World} (w:World) (I:LdIn w m s T) (H0:Ctx w0 S w (LL m s)) :
  Ret Tryz.prog 17 #[ptr m.bl] w fun v w'=>Ext [] w w'∧∃ z,v = .agg (stC s z).toArray∧StAt w' s z∧StOff s z (fun x=>x<w.heap.size):=by
 obtain ⟨w1,rfl⟩:∃ w1,w1=w:=⟨_,rfl⟩;have hbl:=H0.get at0;have hbr:=H0.get at1;have hba:=H0.get at2;have hbd:=H0.get at3;have hb:=H0.get at4;have RA0:Rd w1 m.a 2 CX s.acs:=OS.rd (t:=43) I.O (fun y hy=>H0.blk y (List.mem_append_right [_,_,_,_,_] hy)) (fun _ _=>rfl) (by decide);have hn16:=(Cd.1 I.ok.ac).1;obtain ⟨h64,-,h3d,-⟩:=Er I.ok.du;have H:=Ctx.start w1 [];refine Az (fn:=Tryz.f17) Tryz.func17 U [.pointer (some ⟨m.bl,0,none⟩)] U (by kernel_rfl) ?_;refine Ae (Ba Nn H ?_);rintro b2 w - H;refine Ab (Aa (Au (Ae (A2 U (Cw Afy U ?_)))));refine Ab (Aa (Ao _ U ?_ ?_))
 ·intro h1;cases h1
 ·intro h1;refine Ap (Aa (Cv [([0,1,2,3,4,5,6,7,9,10,11,12,14,15,16,17,19,20,21,22,24,25,26,27],8),([],13),([],18),([],23),([],28),([29],30)] (fun z=>Ext [] w1 z) [30] Bq (by kernel_rfl) (H.drew.ext) ?_));refine AE U U ?_;refine BL U (Bf U (Am JT U (Bw Bs U (fun _ hx=>(by rw [Aj (hx.to hbl (by simp))]; rfl)) ?_)));refine BL U (Bf U (Am FA U (Bw Ip U (fun _ hx=>(by rw [Aj (hx.to hbl (by simp))]; rfl)) ?_)));refine BL U (Bf U (Am EP U (Bw F7 U (fun _ hx=>(by rw [Aj (hx.to hbl (by simp))]; rfl)) ?_)));refine BL U (Bf U (Am EP U (Bw F7 U (fun _ hx=>(by rw [Aj (hx.to hbl (by simp))]; rfl)) ?_)));refine BL U (Bf U (Am IL U (Bw MJ U (fun _ hx=>(by rw [Aj (hx.to hbl (by simp))]; rfl)) ?_)));refine BL U (Bf U (Am IL U (Bw MJ U (fun _ hx=>(by rw [Aj (hx.to hbl (by simp))]; rfl)) ?_)));refine AP ?_;replace H:=H.drew
  refine Al Zs (Ps m.a _ m.c s.acs _ (H.ext.to hba (by simp)) (RA0.ext0 H.ext) U) U ?_;rintro v w F;obtain ⟨aA,cA,rfl,RA,hA,-,hxA⟩:=Mw F (fun _ _=>rfl) (by decide);have hsA:=H.ext.size;have lbA:=Bb (H.get at0);replace H:=H.call hxA;refine Ab (BT (H.ext) (AE U U ?_));refine AP (Al LK (Mc _ (H.ext.to hbd (by simp)) (H.ext.to hb (by simp)) I.M (Kl I.ok.du)) U ?_);rintro v w ⟨ds',hSd,F⟩;have hde:=Mj hSd (J2 h3d).2.1;rw [hde] at F;obtain ⟨aD,cD,rfl,RD,hD,-,hxD⟩:=Mw F (fun _ _=>rfl) (by decide);have hsD:=H.ext.size;have lbD:=Bb (H.get at0);replace H:=H.call hxD;replace RA:=RA.ext0 hxD;refine Ab (BT (H.ext) (AE U U ?_));refine AP (Al ca_51 (Acf _ (H.ext.to hbd (by simp))) U ?_);rintro v w ⟨rfl,hxN⟩;replace H:=H.call hxN;replace RA:=RA.ext0 hxN;replace RD:=RD.ext0 hxN;refine Ab (BT (H.ext) (AE U U ?_));refine AP ?_;have lsR:=H.ext.size;have lbR:=Bb (H.get at0)
  refine Al ca_52 (Yt _ (I.grow H.ext (by simp) (Grows.refl _ _) fun x hx=>Nat.lt_of_lt_of_le (I.low x hx) H.size) (H.ext.to hbr (by simp))) U ?_;rintro v w ⟨hxR,aR,cR,qs,rfl,hql,RR,hR,hK⟩;have hsR:=hxR.size;replace H:=H.call hxR;replace RA:=RA.ext0 hxR;replace RD:=RD.ext0 hxR;refine Ab (BT (H.ext) (AE U U ?_));refine AP (Al Afo (Aca _ (H.ext.to hbr (by simp)) I.no) U ?_);rintro v w ⟨rfl,hxO⟩;have hKO:=fun x hx=>(hK x hx).1.ext0 hxO;replace RA:=RA.ext0 hxO;replace RD:=RD.ext0 hxO;replace RR:=RR.ext0 hxO;replace H:=H.call hxO;have H8:=H;obtain ⟨w8,rfl⟩:∃ z,z=w:=⟨_,rfl⟩;clear H;have H:=Ctx.start1 (H8.get at0);refine Ab (BT (H8.ext) (AE U U ?_));refine Ox (stC s ⟨aA,cA,aD,cD,aR,cR,qs⟩) U pl_32 Nn (by kernel_rfl) ?_;refine AP (Bm Gw U U U (by exact (by simp [Bg])) H at0 U ?_);rintro w H;refine Ab (B4 U (BJ (A5 (LC U U U JS Gw H at0 U ?_))))
  have Z8:StAt w8 s ⟨aA,cA,aD,cD,aR,cR,qs⟩:=⟨RA,RD,RR,hql,hKO⟩;have off:StOff s ⟨aA,cA,aD,cD,aR,cR,qs⟩ (fun x=>x<w1.heap.size∨x=b2):=⟨fun g k=>by have:=hA g; dsimp only at k; omega,fun g k=>by have:=hD g; dsimp only at k; omega,fun g k=>by have:=hR g; dsimp only at k; omega,fun x hx=>(hK x hx).2.mono fun y hy=>by omega⟩;have hbw:w1.heap.size≤b2:=(H8.own (b2,_) (List.mem_of_getElem? at0)).elim (fun h=>by cases h) id;exact ⟨H8.ext.then H.ext (fun x hx => .inr (by rw [List.mem_singleton.1 hx]; exact hbw)),⟨aA,cA,aD,cD,aR,cR,qs⟩,rfl,Z8.ext H.ext (off.mono fun x hx => .inr (List.mem_singleton.1 hx)),off.mono fun x hx => .inl hx⟩
end Go.Proofs.YtdagmpmdcgedcaaGreat
namespace Go.Proofs.YtdagmpmdcgedcaaGreat
open Go.GV
attribute [local irreducible] AD W Wq Wt
def Kr (acs:List Ac) (ds:List Du) (k i:Nat):Int:=(acs.getD k a00).ba+BN ((ds.take i).map fun d=>plc k d*d.am)
theorem Nd {acs:List Ac} {ds:List Du} {k i:Nat} {d:Du} (h:ds[i]? = some d):Kr acs ds k (i+1)=Kr acs ds k i - (if d.fr=(k:Int) then d.am else 0)+(if d.to=(k:Int) then d.am else 0):=by
 unfold Kr;rw [Md h,EF];have h1:BN [plc k d*d.am]=plc k d*d.am:=by rw [BO]; show _+0=_; omega
 rw [h1];unfold plc
 by_cases g1:d.to=(k:Int)
 ·rw [Gl g1,if_pos g1]
  by_cases g2:d.fr=(k:Int)
  ·rw [Gl g2,if_pos g2]; omega
  ·rw [F6 g2,if_neg g2]; omega
 ·rw [F6 g1,if_neg g1]
  by_cases g2:d.fr=(k:Int)
  ·rw [Gl g2,if_pos g2]; omega
  ·rw [F6 g2,if_neg g2]; omega
theorem PB {acs:List Ac} {ds:List Du} {k:Nat} (hb:0≤(acs.getD k a00).ba∧(acs.getD k a00).ba≤4503599627370496) (ham:∀ d∈ds,0≤d.am∧d.am≤4503599627370496):∀ i,i≤ds.length → -(4503599627370496*((i:Int)+1))≤Kr acs ds k i∧Kr acs ds k i≤4503599627370496*((i:Int)+1)
 | 0,_=>by
  have h:Kr acs ds k 0=(acs.getD k a00).ba+0:=rfl;rw [h]; omega
 | i+1,h=>by
  have ih:=PB hb ham i (by omega);obtain ⟨d,hd⟩:=A8 (l:=ds) (i:=i);have h1:=ham d (List.mem_of_getElem? hd);rw [Nd hd]
  split <;> split <;> omega
theorem PC (a b:Option Addr) (c e:Nat) (acs:List Ac) (ds:List Du) (k:Nat) (w:World) (R:Rd w a 2 CX acs) (R':Rd w b 7 CT ds) (hb:0≤(acs.getD k a00).ba∧(acs.getD k a00).ba≤4503599627370496) (ham:∀ d∈ds,0≤d.am∧d.am≤4503599627370496)  (hk:k<acs.length:=by omega) (hm:ds.length≤100:=by omega):
  Ret Tryz.prog 20 #[.slice a acs.length c,.slice b ds.length e,.int .i64 (k:Int)] w fun v w'=>v = .int .i64 (Ev acs ds k)∧Ext [] w w':=by
 obtain ⟨w0,rfl⟩:∃ w0,w0=w:=⟨_,rfl⟩;have H:=Ctx.start w0 [];obtain ⟨ak,hak⟩:=A8 (h:=hk);rw [Bi hak] at hb
 have h0:Kr acs ds k 0=ak.ba:=by
  have:Kr acs ds k 0=(acs.getD k a00).ba+0:=rfl;rw [this,Bi hak,Int.add_zero]
 refine Az (fn:=Tryz.f20) Tryz.func20 U [.slice a acs.length c,.slice b ds.length e,.int .i64 (k:Int)] U (by kernel_rfl) ?_;refine Ae (Af U (Ab (Aa (Ae (Ay U (Ad U (AX R DA DB U U (by rfl) ?_)))))));refine Ah Ec U (AV Bs U ((R.fld hak U (j:=0) U)) ?_);refine Af U (Ab (Aa (Au (Ae (Af U (Ab (Aa (A0 (Bv 281474976694656 (α:=Nat) (fun i=>[(7,.int .i64 (Kr acs ds k i)),(8,.int .i64 (i:Int))]) (fun i w'=>i≤ds.length∧Ctx w0 [] w' []) (fun i=>ds.length - i) 0 U ?_ ?_ ?_)))))))))
 ·exact ⟨by rw [h0]; rfl,rfl,trivial⟩
 ·exact ⟨Nat.zero_le _,H⟩
 ·clear H;rintro i j w ⟨hi,H⟩;refine Au (Ae (Ad U (Ay U (Be CE U (Bj U U (Ab (Aa (Ao _ U ?_ ?_))))))))
  ·intro h1;replace h1:=AM h1;obtain ⟨d,hd⟩:=A8 (l:=ds) (i:=i);have hbi:=PB (acs:=acs) (ds:=ds) (k:=k) (by rw [Bi hak]; exact hb) ham i hi;have hda:=ham d (List.mem_of_getElem? hd);have hst:=Nd (acs:=acs) (k:=k) hd;obtain ⟨s,hs⟩:∃ s,s=Kr acs ds k i:=⟨_,rfl⟩;rw [← hs] at hbi hst ⊢;obtain ⟨t,ht⟩:∃ t,t=s - (if d.fr=(k:Int) then d.am else 0):=⟨_,rfl⟩;rw [← ht] at hst
   have htb : -(4503599627370496*((i:Int)+2))≤t∧t≤4503599627370496*((i:Int)+2):=by
    rw [ht]; split <;> omega
   have RD1:=R'.ext0 H.ext;refine Ap (Aa (Au (A0 (Au (Ae (Ay U (Ad U (AX R' CE Cg U U (by rfl) ?_))))))));refine Ah Iq U (AV BZ U ((RD1.fld hd U (j:=1) U)) ?_);refine Ad U (Ct U U (Ab (Aa (Ey 17045651584 (α:=Unit) (fun _=>[(7,.int .i64 t)]) (fun _ w'=>w'=w) U ?_ ?_))))
   ·skip
    refine Ao _ U ?_ ?_
    ·intro h2;replace h2:=AM h2;refine Ax (Ad U (Ay U (Ad U (AX R' CE Cg U U (by rfl) ?_))));refine Ah EM U (AV Bs U ((RD1.fld hd U (j:=3) U)) ?_);refine Bp U U ?_;refine Af U (Ab (Aa ?_));exact ⟨(),rfl,⟨congrArg (Value.int .i64) (by rw [ht,if_pos h2]),trivial⟩,rfl⟩
    ·intro h2;replace h2:=AN h2;refine Ap (Aa ?_);exact ⟨(),rfl,⟨congrArg (Value.int .i64) (by rw [ht,if_neg h2,Int.sub_zero]),trivial⟩,rfl⟩
   ·rintro - j26 w rfl;refine Ae (Ay U (Ad U (AX R' CE Cg U U (by rfl) ?_)));refine Ah Ir U (AV BZ U ((RD1.fld hd U (j:=2) U)) ?_);refine Ad U (Ct U U (Ab (Aa (Ao _ U ?_ ?_))))
    ·intro h3;replace h3:=AM h3;refine Ax (Ad U (Ay U (Ad U (AX R' CE Cg U U (by rfl) ?_))));refine Ah EM U (AV Bs U ((RD1.fld hd U (j:=3) U)) ?_);refine Aw U U ?_;refine Af U (Ab (A6 (Aa (Ax (Ad U (Aw U U ?_))))));refine Af U (Ab (Aa ?_));exact ⟨i+1,rfl,⟨congrArg (Value.int .i64) (by rw [hst,if_pos h3]),rfl,trivial⟩,⟨by omega,H⟩,by omega⟩
    ·intro h3;replace h3:=AN h3;refine Ap (A6 (Aa (Ax (Ad U (Aw U U ?_)))));refine Af U (Ab (Aa ?_));exact ⟨i+1,rfl,⟨congrArg (Value.int .i64) (by rw [hst,if_neg h3,Int.add_zero]),rfl,trivial⟩,⟨by omega,H⟩,by omega⟩
  ·intro h1;replace h1:=AN h1;refine Br (An (An (AK (Aa (Ae (Ad U (Af U (Ab (Aa (A5 (A9 (v:=(.int _ _)) U U U ?_)))))))))));obtain rfl:i=ds.length:=by omega
   refine ⟨?_,H.ext⟩;unfold Kr Ev;rw [List.take_length]
end Go.Proofs.YtdagmpmdcgedcaaGreat
namespace Go.Proofs.YtdagmpmdcgedcaaGreat
open Go.GV
attribute [local irreducible] AD W Wq Wt
set_option maxRecDepth 20000 in
set_option maxHeartbeats 1000000 in
theorem Yx {m:Lm} {s:Ld} {T:Nat→Prop} {k:Ak} (hk:k.kd=13) (_hin:AkIn k) (w:World) (I:LdIn w m s T) (H0:Ctx w (De m s) w (LL m s)) :
  Ret Tryz.prog 65 #[ptr m.bl,.agg (Co k).toArray] w (Gp w m s T k):=by
 obtain ⟨w0,rfl⟩:∃ w0,w0=w:=⟨_,rfl⟩;obtain ⟨bl,ba,bd,br,b,a,c,full,o,arch⟩:=m;obtain ⟨S0,hS0⟩:∃ S,S=De ⟨bl,ba,bd,br,b,a,c,full,o,arch⟩ s:=⟨_,rfl⟩;have H:Ctx w0 S0 w0 ((bl,Bl 106 [ptr ba,ptr bd,ptr br,.int .i64 s.day])::(br,Bl 168 arch)::(ba,Bl 162 [.slice a s.acs.length c])::(bd,Bl 165 (DU b s.nx))::(b,o)::ent a 43 full):=by rw [hS0]; exact H0
 have hn16:=(Cd.1 I.ok.ac).1;have hbdb:bd≠b:=H.ne (i:=3) (j:=4) rfl rfl (by decide);have hR:EC s k=if inA s.acs k.a=true then ⟨0,[Ev s.acs s.ds k.a.toNat]⟩ else ⟨10,[]⟩:=by unfold EC; rw [if_neg (by omega),if_neg (by omega),if_neg (by omega),if_neg (by omega),if_neg (by omega),if_neg (by omega),if_neg (by omega),if_neg (by omega),if_neg (by omega),if_neg (by omega),if_pos hk]
 have hS:Es s k=s:=by unfold Es; rw [if_neg (by omega),if_neg (by omega),if_neg (by omega),if_neg (by omega),if_neg (by omega),if_neg (by omega),if_neg (by omega),if_neg (by omega),if_neg (by omega)]
 have hstep:∀ p,EC s k=p→Cq s k s p:=fun p h2=>by
  unfold Cq;rw [if_neg (by omega)];exact ⟨hS.symm,h2.symm⟩
 refine Az (fn:=Tryz.f65) Tryz.func65 U [.pointer (some ⟨bl,0,none⟩),.agg (Co k).toArray] U (by kernel_rfl) ?_;refine Ae (Bx (Co k) (.agg _) U U H ?_);rintro b3 w - H;refine A4 U (Af U (Ab (Aa (DR 2095296 (α:=Nat) (fun z=>[(6,ptr z),(7,.bool (inA s.acs k.a))]) (fun z w'=>Ctx w0 S0 w' ((z,Bl 43 (CX (Ds s.acs k.a)))::(b3,Bl 40 (Co k))::(bl,Bl 106 [ptr ba,ptr bd,ptr br,.int .i64 s.day])::(br,Bl 168 arch)::(ba,Bl 162 [.slice a s.acs.length c])::(bd,Bl 165 (DU b s.nx))::(b,o)::ent a 43 full)) U ?_ ?_))))
 ·skip
  refine Oe (.two [0,1,2,3,4,5] 6 (.one [7,8,9] 10 (.one [] 11 (.one [] 12 .stop))) 10 (.one [] 6 (.one [7,8,9] 11 (.one [] 12 .stop)))) (fun z=>z.heap[b3]? = some (Bl 40 (Co k))∧z.heap[bl]? = some (Bl 106 [ptr ba,ptr bd,ptr br,.int .i64 s.day])) Bq (by kernel_rfl) (⟨H.drew.get at0,H.drew.get at1⟩) ?_;refine I3 U U U ?_;refine BL U (Bf U (Am FA U (Bw Ip U (fun _ hx=>(by rw [Aj hx.2]; rfl)) ?_)));refine Am Gh U (Bw BZ U (fun _ hx=>(by rw [Aj hx.1]; rfl)) ?_);refine AP ?_;replace H:=H.drew;refine ⟨?_,?_⟩
  ·skip
   refine Al RU (NR a _ c s.acs k.a _ (H.get at3) (OS.rd (t:=43) I.O (fun y hy=>H.blk y (List.mem_append_right [_,_,_,_,_,_] hy)) (fun _ _=>rfl) (by decide)) U (by omega)) U ?_;rintro v w ⟨rfl,hx18⟩;replace H:=H.call hx18;refine Ab (BS (by exact ⟨H.get at0,H.get at1⟩) ?_);refine BP U U ?_;refine DF U (Bu U U (Bu U U (AP (Ba JA H ?_))));rintro b6 w - H;refine Ab (BS (by exact ⟨H.get at1,H.get at2⟩) ?_);refine BP U U ?_;refine AP (Bm DB U U U (by exact Ja _) H at0 U ?_);rintro w H;refine Ab (BS (by exact ⟨H.get at1,H.get at2⟩) ?_);refine BP U U ?_;refine AP (Ai U (Ab (BS (by exact ⟨H.get at1,H.get at2⟩) ?_)));refine Eb ?_;refine Aa ?_;exact ⟨b6,rfl,⟨rfl,rfl,trivial⟩,H⟩
  ·skip
   refine Ba JA H ?_;rintro b6 w - H;refine Ab (BS (by exact ⟨H.get at1,H.get at2⟩) ?_);refine BP U U ?_;refine AP (Al RU (NR a _ c s.acs k.a _ (H.get at4) (OS.rd (t:=43) I.O (fun y hy=>H.blk y (List.mem_append_right [_,_,_,_,_,_,_] hy)) (fun _ _=>rfl) (by decide)) U (by omega)) U ?_);rintro v w ⟨rfl,hx18⟩;replace H:=H.call hx18;refine Ab (BS (by exact ⟨H.get at1,H.get at2⟩) ?_);refine BP U U ?_;refine DF U (Bu U U (Bu U U (AP (Bm DB U U U (by exact Ja _) H at0 U ?_))));rintro w H;refine Ab (BS (by exact ⟨H.get at1,H.get at2⟩) ?_);refine BP U U ?_;refine AP (Ai U (Ab (BS (by exact ⟨H.get at1,H.get at2⟩) ?_)));refine Eb ?_;refine Aa ?_;exact ⟨b6,rfl,⟨rfl,rfl,trivial⟩,H⟩
 ·rintro b6 j7 w H;refine Au (Ae (A7 U (BF U (Ab (Aa (Ao _ U ?_ ?_))))))
  ·intro h1;replace h1:=BG h1
   have hf:inA s.acs k.a=false:=by cases hh:inA s.acs k.a with | false=>rfl | true=>rw [hh] at h1; cases h1
   refine Ae (A4 U (Af U (Ab (Aa (A5 (Aq (Ca (v1:=(.slice _ _ _)) (v2:=(.int _ _)) U U U U ?_)))))));subst hS0;exact DO (P:=[_,_]) (m':=⟨bl,ba,bd,br,b,a,c,full,o,arch⟩) (s':=s) (l:=[]) (code:=10) I H (Ie _) (hstep _ (by rw [hR,if_neg (by rw [hf]; decide)]; rfl)) I.O I.M I.ok U U U U
  ·intro h1;replace h1:=BH h1
   have hf:inA s.acs k.a=true:=by cases hh:inA s.acs k.a with | true=>rfl | false=>rw [hh] at h1; cases h1
   have hki:=GD.1 hf;have hka:((k.a.toNat:Nat):Int)=k.a:=by omega
   have hga:=Je I.ok.ac hf;have hgd:s.acs.getD k.a.toNat a00=Ds s.acs k.a:=Bi (F3 hf)
   have h0:Kr s.acs s.ds k.a.toNat 0=(Ds s.acs k.a).ba:=by
    have:Kr s.acs s.ds k.a.toNat 0=(s.acs.getD k.a.toNat a00).ba+0:=rfl;rw [this,hgd,Int.add_zero]
   obtain ⟨h64,-,-,-⟩:=Er I.ok.du;have hmy:∀ d∈s.ds,Ej d=true:=fun d hd=>((GF I.ok.du).1 d hd).1;have ham:∀ d∈s.ds,0≤d.am∧d.am≤4503599627370496:=fun d hd=>by have:=CW (hmy d hd); omega
   refine Ap (Aa (Ae (Ah Ec U (AH Bs U H at0 U (Af U (Ab (Aa (Au (Ae (A2 U (AA U ?_)))))))))));refine Ah EP U (AH F7 U H at2 U (Al LK (Jc I.ok.du _ ⟨b,s.nx,o,H.get at5,H.get at6,I.M⟩) U ?_));rintro v w ⟨hx29,a3,c3,rfl,R3⟩;replace H:=H.call hx29;refine Be CE U (Ad U (Ab (Aa (A0 ?_))));have H8:=H;obtain ⟨w1,rfl⟩:∃ z,z=w:=⟨_,rfl⟩;have hb3:=H8.get at1;clear H;have H:=Ctx.start w1 [];refine Bv 18014396361999616 (α:=Nat) (fun i=>[(8,.int .i64 (Kr s.acs s.ds k.a.toNat i)),(31,.int .i64 (i:Int))]) (fun i w'=>i≤s.ds.length∧Ctx w1 [] w' []) (fun i=>s.ds.length - i) 0 U ?_ ?_ ?_
   ·exact ⟨by rw [h0]; rfl,rfl,trivial⟩
   ·exact ⟨Nat.zero_le _,H⟩
   ·clear H;rintro i j w ⟨hi,H⟩;refine Ae (Bj U U (Ab (Aa (Au (Ao _ U ?_ ?_)))))
    ·intro h2;replace h2:=AM h2;obtain ⟨d,hd⟩:=A8 (l:=s.ds) (i:=i);have hbi:=PB (acs:=s.acs) (ds:=s.ds) (k:=k.a.toNat) (by rw [hgd]; exact hga.1) ham i hi;have hda:=ham d (List.mem_of_getElem? hd);have hdn:=(CW (hmy d (List.mem_of_getElem? hd))).2.2.1;have hst:=Nd (acs:=s.acs) (k:=k.a.toNat) hd;rw [hka] at hst;obtain ⟨S,hS⟩:∃ S,S=Kr s.acs s.ds k.a.toNat i:=⟨_,rfl⟩;rw [← hS] at hbi hst ⊢;refine Ap (Aa (Au (A0 (Ae (AX (R3.ext0 H.ext) CE Cg U U (by rfl) ?_)))));refine BW _ Fq Cg U U (((R3.ext0 H.ext).row hd U)) ?_;refine Ba Ex H ?_;rintro b10 w - H;refine Bm Cg U U U (by exact Dg _) H at0 U ?_;rintro w H;refine Ab (Aa ?_);replace H:Ctx w1 [] w [(b10,Bl 67 (CT d))]:=H;refine Ae (Ah Gh U (AV BZ U ((H.old (Aj hb3 _) (by simp))) ?_));refine Ab (Aa (A0 (Ae (Ah Iq U (AH BZ U H at0 U (Ct U U (Ai U (Ab (Aa (Ao _ U ?_ ?_))))))))))
     ·intro h3;replace h3:=AM h3;refine Ax (Ad U (Ah EM U (AH Bs U H at0 U (Bp U U ?_))));refine Af U (Ab (A6 (A6 (Aa (Ax (Aw U U ?_))))));refine Ad U (Ab (Aa ?_));exact ⟨i+1,rfl,⟨congrArg (Value.int .i64) (by rw [hst,if_pos h3.symm,if_neg (by omega)]; omega),rfl,trivial⟩,⟨by omega,H.tail⟩,by omega⟩
     ·intro h3;replace h3:=AN h3;refine Ae (Ah Ir U (AH BZ U H at0 U (Ct U U (Ai U (Ab (Aa (Ao _ U ?_ ?_)))))))
      ·intro h4;replace h4:=AM h4;refine Ax (Ad U (Ah EM U (AH Bs U H at0 U (Aw U U ?_))));refine Af U (Ab (A6 (A6 (Aa (Ax (Aw U U ?_))))));refine Ad U (Ab (Aa ?_));exact ⟨i+1,rfl,⟨congrArg (Value.int .i64) (by rw [hst,if_neg (by omega),if_pos h4.symm]; omega),rfl,trivial⟩,⟨by omega,H.tail⟩,by omega⟩
      ·intro h4;replace h4:=AN h4;refine Ap (A6 (A6 (Aa (Ax (Aw U U ?_)))));refine Ad U (Ab (Aa ?_));exact ⟨i+1,rfl,⟨congrArg (Value.int .i64) (by rw [hst,if_neg (by omega),if_neg (by omega)]; omega),rfl,trivial⟩,⟨by omega,H.tail⟩,by omega⟩
    ·intro h2;replace h2:=AN h2;obtain rfl:i=s.ds.length:=by omega
     have hfin:Kr s.acs s.ds k.a.toNat s.ds.length=Ev s.acs s.ds k.a.toNat:=by
      unfold Kr Ev;rw [List.take_length]
     rw [hfin];have H9:=H8.call H.ext;have H17:=Ctx.start w [];refine Br (An (An (AK (Aa (Ae (Ad U (Cj [.int .i64 (Ev s.acs s.ds k.a.toNat)] (.int .i64 (Ev s.acs s.ds k.a.toNat)) AU Bz Ei U (by decide) (by decide) U U U H17 ?_)))))));rintro b55 w2 - H17;refine A4 U (Af U (Ab (Aa (A5 (Ca (v1:=(.slice _ _ _)) (v2:=(.int _ _)) U U U U ?_)))));subst hS0;exact DO (P:=[_,_]) (m':=⟨bl,ba,bd,br,b,a,c,full,o,arch⟩) (s':=s) (l:=[Ev s.acs s.ds k.a.toNat]) (code:=0) I H9 (G3 (n:=1) (l:=[Dm (Ev s.acs s.ds k.a.toNat)]) H17 U) (hstep _ (by rw [hR,if_pos hf]; rfl)) I.O I.M I.ok U U U U
end Go.Proofs.YtdagmpmdcgedcaaGreat
namespace Go.Proofs.YtdagmpmdcgedcaaGreat
open Go.GV
attribute [local irreducible] AD W Wq Wt
theorem Yy {r:Rnd} (h:NB r=true):(1≤r.N∧r.N≤40)∧r.es.length≤200∧r.fl.length=r.es.length∧(r.pot.length:Int)=r.N∧r.ids.length≤64:=by
 unfold NB at h;simp only [Bool.and_eq_true,decide_eq_true_eq] at h;obtain ⟨hc,hi,-⟩:=h;obtain ⟨h1,h2,-⟩:=Ga.1 hc;obtain ⟨g1,g2,g3,-⟩:=CL (Cx (ET h1).1).2.1;exact ⟨⟨g1,g2⟩,g3,(Cx (ET h1).1).1,(Lo h2).1,hi⟩
set_option maxRecDepth 20000 in
set_option maxHeartbeats 1000000 in
theorem VP {m:Lm} {s:Ld} {T:Nat→Prop} {k:Ak} (hk:k.kd=15) (hin:AkIn k) (hg:Uo s k.id=none) (w:World) (I:LdIn w m s T) (H0:Ctx w (De m s) w (LL m s)) :
  Ret Tryz.prog 67 #[ptr m.bl,.agg (Co k).toArray] w (Gp w m s T k):=by
 obtain ⟨w0,rfl⟩:∃ w0,w0=w:=⟨_,rfl⟩;obtain ⟨bl,ba,bd,br,b,a,c,full,o,arch⟩:=m;obtain ⟨S0,hS0⟩:∃ S,S=De ⟨bl,ba,bd,br,b,a,c,full,o,arch⟩ s:=⟨_,rfl⟩;have H:Ctx w0 S0 w0 ((bl,Bl 106 [ptr ba,ptr bd,ptr br,.int .i64 s.day])::(br,Bl 168 arch)::(ba,Bl 162 [.slice a s.acs.length c])::(bd,Bl 165 (DU b s.nx))::(b,o)::ent a 43 full):=by rw [hS0]; exact H0
 have hn16:=(Cd.1 I.ok.ac).1;have hbdb:bd≠b:=H.ne (i:=3) (j:=4) rfl rfl (by decide);have hS:Es s k=s:=by unfold Es; rw [if_neg (by omega),if_neg (by omega),if_neg (by omega),if_neg (by omega),if_neg (by omega),if_neg (by omega),if_neg (by omega),if_neg (by omega),if_neg (by omega)]
 have hstep:∀ p,EC s k=p→Cq s k s p:=fun p h2=>by
  unfold Cq;rw [if_neg (by omega)];exact ⟨hS.symm,h2.symm⟩
 have hno:0≤s.no∧s.no≤4611686018427387904:=by have:=I.ok.kept; omega
 have hR:EC s k=⟨4,[]⟩:=by unfold EC; rw [if_neg (by omega),if_neg (by omega),if_neg (by omega),if_neg (by omega),if_neg (by omega),if_neg (by omega),if_neg (by omega),if_neg (by omega),if_neg (by omega),if_neg (by omega),if_neg (by omega),if_neg (by omega),if_pos hk,hg]
 refine Az (fn:=Tryz.f67) Tryz.func67 U [.pointer (some ⟨bl,0,none⟩),.agg (Co k).toArray] U (by kernel_rfl) ?_;refine Ae (Bx (Co k) (.agg _) U U H ?_);rintro b3 w - H;refine A4 U (Af U (Ab (Aa (DR 4190400 (α:=Nat) (fun z=>[(6,ptr z),(7,.bool false)]) (fun z w'=>Ctx w0 S0 w' ((z,Bl 55 rnd0)::(b3,Bl 40 (Co k))::(bl,Bl 106 [ptr ba,ptr bd,ptr br,.int .i64 s.day])::(br,Bl 168 arch)::(ba,Bl 162 [.slice a s.acs.length c])::(bd,Bl 165 (DU b s.nx))::(b,o)::ent a 43 full)) U ?_ ?_))))
 ·skip
  refine Oe (.two [0,1,2,3,4,5] 6 (.one [7,8,9] 10 (.one [] 11 (.one [] 12 .stop))) 10 (.one [] 6 (.one [7,8,9] 11 (.one [] 12 .stop)))) (fun z=>z.heap[b3]? = some (Bl 40 (Co k))∧z.heap[bl]? = some (Bl 106 [ptr ba,ptr bd,ptr br,.int .i64 s.day])) Bq (by kernel_rfl) (⟨H.drew.get at0,H.drew.get at1⟩) ?_;refine I3 U U U ?_;refine BL U (Bf U (Am IL U (Bw MJ U (fun _ hx=>(by rw [Aj hx.2]; rfl)) ?_)));refine Am K4 U (Bw B1 U (fun _ hx=>(by rw [Aj hx.1]; rfl)) ?_);refine AP ?_;replace H:=H.drew;refine ⟨?_,?_⟩
  ·skip
   refine Al RV (U0 (n:=s.rn.length) _ (H.get at2) I.n I.no hno hin.id (Rn I.ok hg)) U ?_;rintro v w ⟨rfl,hx19⟩;replace H:=H.call hx19;refine Ab (BS (by exact ⟨H.get at0,H.get at1⟩) ?_);refine BP U U ?_;refine DF U (Bu U U (Bu U U (AP (Ba Hf H ?_))));rintro b6 w - H;refine Ab (BS (by exact ⟨H.get at1,H.get at2⟩) ?_);refine BP U U ?_;refine AP (Bm D4 U U U (by exact (by simp [rnd0,Bg])) H at0 U ?_);rintro w H;refine Ab (BS (by exact ⟨H.get at1,H.get at2⟩) ?_);refine BP U U ?_;refine AP (Ai U (Ab (BS (by exact ⟨H.get at1,H.get at2⟩) ?_)));refine Eb ?_;refine Aa ?_;exact ⟨b6,rfl,⟨rfl,rfl,trivial⟩,H⟩
  ·skip
   refine Ba Hf H ?_;rintro b6 w - H;refine Ab (BS (by exact ⟨H.get at1,H.get at2⟩) ?_);refine BP U U ?_;refine AP (Al RV (U0 (n:=s.rn.length) _ (H.get at3) I.n I.no hno hin.id (Rn I.ok hg)) U ?_);rintro v w ⟨rfl,hx19⟩;replace H:=H.call hx19;refine Ab (BS (by exact ⟨H.get at1,H.get at2⟩) ?_);refine BP U U ?_;refine DF U (Bu U U (Bu U U (AP (Bm D4 U U U (by exact (by simp [rnd0,Bg])) H at0 U ?_))));rintro w H;refine Ab (BS (by exact ⟨H.get at1,H.get at2⟩) ?_);refine BP U U ?_;refine AP (Ai U (Ab (BS (by exact ⟨H.get at1,H.get at2⟩) ?_)));refine Eb ?_;refine Aa ?_;exact ⟨b6,rfl,⟨rfl,rfl,trivial⟩,H⟩
 ·rintro b6 j7 w H;refine Au (Ae (A7 U (BF U (Ab (Aa (Ao _ U ?_ ?_))))))
  ·intro h1;replace h1:=BG h1;refine Ae (A4 U (Af U (Ab (Aa (A5 (Aq (Ca (v1:=(.slice _ _ _)) (v2:=(.int _ _)) U U U U ?_)))))));subst hS0;exact DO (P:=[_,_]) (m':=⟨bl,ba,bd,br,b,a,c,full,o,arch⟩) (s':=s) (l:=[]) (code:=4) I H (Ie _) (hstep _ (by rw [hR]; rfl)) I.O I.M I.ok U U U U
  ·intro h1;replace h1:=BH h1;cases h1
set_option maxRecDepth 20000 in
set_option maxHeartbeats 1000000 in
theorem VQ {m:Lm} {s:Ld} {T:Nat→Prop} {k:Ak} (hk:k.kd=15) (hin:AkIn k) {r:Rnd} (hg:Uo s k.id=some r) (w:World) (I:LdIn w m s T) (H0:Ctx w (De m s) w (LL m s)) :
  Ret Tryz.prog 67 #[ptr m.bl,.agg (Co k).toArray] w (Gp w m s T k):=by
 obtain ⟨w0,rfl⟩:∃ w0,w0=w:=⟨_,rfl⟩;obtain ⟨bl,ba,bd,br,b,a,c,full,o,arch⟩:=m;obtain ⟨S0,hS0⟩:∃ S,S=De ⟨bl,ba,bd,br,b,a,c,full,o,arch⟩ s:=⟨_,rfl⟩;have H:Ctx w0 S0 w0 ((bl,Bl 106 [ptr ba,ptr bd,ptr br,.int .i64 s.day])::(br,Bl 168 arch)::(ba,Bl 162 [.slice a s.acs.length c])::(bd,Bl 165 (DU b s.nx))::(b,o)::ent a 43 full):=by rw [hS0]; exact H0
 have hn16:=(Cd.1 I.ok.ac).1;have hbdb:bd≠b:=H.ne (i:=3) (j:=4) rfl rfl (by decide);have hS:Es s k=s:=by unfold Es; rw [if_neg (by omega),if_neg (by omega),if_neg (by omega),if_neg (by omega),if_neg (by omega),if_neg (by omega),if_neg (by omega),if_neg (by omega),if_neg (by omega)]
 have hstep:∀ p,EC s k=p→Cq s k s p:=fun p h2=>by
  unfold Cq;rw [if_neg (by omega)];exact ⟨hS.symm,h2.symm⟩
 have hno:0≤s.no∧s.no≤4611686018427387904:=by have:=I.ok.kept; omega
 have hR:EC s k=J5 r k.b:=by unfold EC; rw [if_neg (by omega),if_neg (by omega),if_neg (by omega),if_neg (by omega),if_neg (by omega),if_neg (by omega),if_neg (by omega),if_neg (by omega),if_neg (by omega),if_neg (by omega),if_neg (by omega),if_neg (by omega),if_pos hk,hg]
 obtain ⟨hg1,hgm,hgn⟩:=Ys I.ok hg;have hmay:=I.ok.may r hgm;have hB:=SQ hmay;obtain ⟨hm1,hm2,hm3,hm4,hm5⟩:=Yy hmay;obtain ⟨q,hq1,hq2,hq3⟩:=I.kept r hgm;rw [hgn] at hq1;refine Az (fn:=Tryz.f67) Tryz.func67 U [.pointer (some ⟨bl,0,none⟩),.agg (Co k).toArray] U (by kernel_rfl) ?_;refine Ae (Bx (Co k) (.agg _) U U H ?_);rintro b3 w - H;refine A4 U (Af U (Ab (Aa (DR 4190400 (α:=Nat × RSl) (fun z=>[(6,ptr z.1),(7,.bool true)]) (fun z w'=>RAt w' r z.2∧Ctx w0 S0 w' ((z.1,Bl 55 (B0 r z.2))::(b3,Bl 40 (Co k))::(bl,Bl 106 [ptr ba,ptr bd,ptr br,.int .i64 s.day])::(br,Bl 168 arch)::(ba,Bl 162 [.slice a s.acs.length c])::(bd,Bl 165 (DU b s.nx))::(b,o)::ent a 43 full)) U ?_ ?_))))
 ·skip
  refine Oe (.two [0,1,2,3,4,5] 6 (.one [7,8,9] 10 (.one [] 11 (.one [] 12 .stop))) 10 (.one [] 6 (.one [7,8,9] 11 (.one [] 12 .stop)))) (fun z=>z.heap[b3]? = some (Bl 40 (Co k))∧z.heap[bl]? = some (Bl 106 [ptr ba,ptr bd,ptr br,.int .i64 s.day])) Bq (by kernel_rfl) (⟨H.drew.get at0,H.drew.get at1⟩) ?_;refine I3 U U U ?_;refine BL U (Bf U (Am IL U (Bw MJ U (fun _ hx=>(by rw [Aj hx.2]; rfl)) ?_)));refine Am K4 U (Bw B1 U (fun _ hx=>(by rw [Aj hx.1]; rfl)) ?_);refine AP ?_;replace H:=H.drew;refine ⟨?_,?_⟩
  ·skip
   refine Al RV (Rm (n:=s.rn.length) (r:=r) (q:=q) _ (H.get at2) I.len I.n I.no hno hin.id hg1 hq1 (hq2.ext H.ext (hq3.mono fun x hx=>I.own x (by rw [← hS0]; exact hx))) hB) U ?_;rintro v w ⟨hx19,q',rfl,RA,hoff⟩;have H9:=H.call hx19;clear H;obtain ⟨w9,rfl⟩:∃ z,z=w:=⟨_,rfl⟩;have H:=Ctx.start w9 [];refine Ab (BS (by exact ⟨H.ext.to (H9.get at0) (by simp),H.ext.to (H9.get at1) (by simp)⟩) ?_);refine BP U U ?_;refine DF U (Bu U U (Bu U U (AP (Ba Hf H ?_))));rintro b6 w - H;refine Ab (BS (by exact ⟨H.ext.to (H9.get at0) (by simp),H.ext.to (H9.get at1) (by simp)⟩) ?_);refine BP U U ?_;refine AP (Bm D4 U U U (by simp [Bg]) H at0 U ?_);rintro w H;refine Ab (BS (by exact ⟨H.ext.to (H9.get at0) (by simp),H.ext.to (H9.get at1) (by simp)⟩) ?_);refine BP U U ?_;refine AP (Ai U (Ab (BS (by exact ⟨H.ext.to (H9.get at0) (by simp),H.ext.to (H9.get at1) (by simp)⟩) ?_)));refine Eb ?_
   refine Aa ?_;exact ⟨(b6,q'),rfl,⟨rfl,rfl,trivial⟩,RA.ext0 H.ext,Ctx.mid (B:=[]) (L:=[]) H9 H⟩
  ·skip
   refine Ba Hf H ?_;rintro b6 w - H;refine Ab (BS (by exact ⟨H.get at1,H.get at2⟩) ?_);refine BP U U ?_;refine AP (Al RV (Rm (n:=s.rn.length) (r:=r) (q:=q) _ (H.get at3) I.len I.n I.no hno hin.id hg1 hq1 (hq2.ext H.ext (hq3.mono fun x hx=>I.own x (by rw [← hS0]; exact hx))) hB) U ?_);rintro v w ⟨hx19,q',rfl,RA,hoff⟩;have hlt:=Bb (H.get at0);have H9:=H.call hx19;clear H;obtain ⟨w9,rfl⟩:∃ z,z=w:=⟨_,rfl⟩;have H:=Ctx.start1 (H9.get at0);refine Ab (BS (by exact ⟨H.ext.to (H9.get at1) (by rw [List.mem_singleton]; exact H9.ne (i:=1) (j:=0) rfl rfl (by decide)),H.ext.to (H9.get at2) (by rw [List.mem_singleton]; exact H9.ne (i:=2) (j:=0) rfl rfl (by decide))⟩) ?_);refine BP U U ?_;refine DF U (Bu U U (Bu U U (AP (Bm D4 U U U (by simp [Bg]) H at0 U ?_))));rintro w H
   refine Ab (BS (by exact ⟨H.ext.to (H9.get at1) (by rw [List.mem_singleton]; exact H9.ne (i:=1) (j:=0) rfl rfl (by decide)),H.ext.to (H9.get at2) (by rw [List.mem_singleton]; exact H9.ne (i:=2) (j:=0) rfl rfl (by decide))⟩) ?_);refine BP U U ?_;refine AP (Ai U (Ab (BS (by exact ⟨H.ext.to (H9.get at1) (by rw [List.mem_singleton]; exact H9.ne (i:=1) (j:=0) rfl rfl (by decide)),H.ext.to (H9.get at2) (by rw [List.mem_singleton]; exact H9.ne (i:=2) (j:=0) rfl rfl (by decide))⟩) ?_)));refine Eb ?_;refine Aa ?_;exact ⟨(b6,q'),rfl,⟨rfl,rfl,trivial⟩,RA.ext H.ext (hoff.mono fun x hx=>by rw [List.mem_singleton.1 hx]; exact hlt),Ctx.mid (B:=[]) (L:=[_]) H9 H⟩
 ·rintro ⟨b6,q'⟩ j7 w ⟨RA,H⟩;dsimp only at RA H;have H8:=H;have hb6:=H8.get at0;have hb3:=H8.get at1;obtain ⟨w1,rfl⟩:∃ z,z=w:=⟨_,rfl⟩;clear H;have H:=Ctx.start w1 [];refine Au (Ae (A7 U (BF U (Ab (Aa (Ao _ U ?_ ?_))))))
  ·intro h1;replace h1:=BG h1;cases h1
  ·intro h1;replace h1:=BH h1;refine Ap (Aa (Dw (fun x=>x=_) Bq (by kernel_rfl) U ?_));refine A3 Sb U (BR BZ U (by rintro _ rfl; exact ((by rw [Aj (H.drew.ext.to hb3 (by simp))]; rfl))) ?_);refine A3 Fg U (A3 Dd U (BR E4 U (by rintro _ rfl; exact ((by rw [Aj (H.drew.ext.to hb6 (by simp))]; rfl))) ?_));refine Wb U Di U (Dl U (Dl U (BQ ?_)));rintro _ rfl;replace H:=H.drew;refine Au (A0 (Ae (Cb (α:=Unit) 4396972769280 (fun _=>[(30,.bool ((decide (k.b < -1) || decide ((r.es.length:Int)+r.N≤k.b))))]) (fun _ w'=>Ctx w1 [] w' []) U ?_ ?_)))
   ·refine Ad U (Bj U U (A7 U (AO 33 U ?_ ?_)))
    ·intro h1;replace h1:=AM h1;refine Ag U (Ag U (Ag U (Ag U (Ag U (Ag U (Ag U (AF U (.bool _) U (Ai U (Ab ?_)))))))));exact ⟨rfl,(),rfl,⟨congrArg Value.bool (by rw [Bool.eq_iff_iff]; simp_all; try omega),trivial⟩,H⟩
    ·intro h2;replace h2:=AN h2;refine Ad U (Ad U (Ah Fg U (Ah EK U (AV BZ U ((H.old (Aj hb6 _) (by simp))) ?_))));refine Aw U U ?_;refine C9 U U (AG U (.bool _) U (Ai U (Ab ?_)));exact ⟨rfl,(),rfl,⟨congrArg Value.bool (by rw [Bool.eq_iff_iff]; simp_all; try omega),trivial⟩,H⟩
   rintro - j30 w H;refine Ao _ U ?_ ?_
   ·intro h2;have h2':k.b < -1∨(r.es.length:Int)+r.N≤k.b:=by simpa using h2
    refine Ae (A4 U (Af U (Ab (Aa (A5 (AB (Aq (Ca (v1:=(.slice _ _ _)) (v2:=(.int _ _)) U U U U ?_))))))));have H9:=H8.call H.ext;subst hS0;exact DO (P:=[_,_]) (m':=⟨bl,ba,bd,br,b,a,c,full,o,arch⟩) (s':=s) (l:=[]) (code:=1) I H9 (Ie _) (hstep _ (by rw [hR]; unfold J5; rw [if_pos h2']; rfl)) I.O I.M I.ok U U U U
   ·intro h2;have h2':¬ (k.b < -1∨(r.es.length:Int)+r.N≤k.b):=by simpa using h2
    refine Ae (Ad U (Ct U U (Ai U (Ab (Aa (Ao _ U ?_ ?_))))))
    ·intro h3;replace h3:=AM h3;refine Cv [([0,1,2,3,5,6,7,8,9,10,11],4),([],12),([13],14)] (fun z=>Ext [] w1 z) [] Bq (by kernel_rfl) (H.drew.ext) ?_;refine AE U U ?_;refine Am LP U (Bw Bs U (fun _ hx=>(by rw [Aj (hx.to hb6 (by simp))]; rfl)) ?_);refine Am NK U (Bw KG U (fun _ hx=>(by rw [Aj (hx.to hb6 (by simp))]; rfl)) ?_);refine Am Fg U (Am EK U (Bw BZ U (fun _ hx=>(by rw [Aj (hx.to hb6 (by simp))]; rfl)) ?_));refine Bc U (Am EL U (Bw Hb U (fun _ hx=>(by rw [Aj (hx.to hb6 (by simp))]; rfl)) ?_));refine t_len U Bt U (AP ?_);replace H:=H.drew;refine Al YW (WV r.cmp _) U ?_;rintro v w ⟨rfl,rfl⟩;refine Ab (BT (H.ext) (AE U U ?_));refine AP (DE ([r.day,N0 r.cmp,r.N,(r.es.length:Int),(r.ids.length:Int)].map Dm) AU Bz Ei (by decide) (by decide) (by kernel_rfl) (Ctx.start _ []) ?_);rintro b57 w2 - H17;refine Ab (BT (H.ext.trans H17.ext) (AE U U ?_))
     refine Em U (AP (Af U (Ab (BT (H.ext.trans H17.ext) (BJ (A5 (AB (Aq (Ca (v1:=(.slice _ _ _)) (v2:=(.int _ _)) U U U U ?_)))))))));have H9:=H8.call H.ext;subst hS0;exact DO (P:=[_,_]) (m':=⟨bl,ba,bd,br,b,a,c,full,o,arch⟩) (s':=s) (l:=[r.day,N0 r.cmp,r.N,(r.es.length:Int),(r.ids.length:Int)]) (code:=0) I H9 (G3 (n:=5) H17 U) (hstep _ (by rw [hR]; unfold J5; rw [if_neg h2',if_pos h3]; rfl)) I.O I.M I.ok U U U U
    ·intro h3;replace h3:=AN h3;refine Ae (Ad U (Ad U (C9 U U (Ai U (Ab (Aa (Ao _ U ?_ ?_)))))))
     ·intro h4;replace h4:=AM h4;obtain ⟨y,hy⟩:=A8 (l:=r.pot) (i:=(k.b - (r.es.length:Int)).toNat);refine Ae (Ah DG U (Ah G8 U (AV BM U ((H.old (Aj hb6 _) (by simp))) ?_)));refine Ad U (Ad U (Bp U U ?_));refine AX (RA.P.ext0 H.ext) AU Bz U U (by rfl) ?_;refine AV Bs U (((RA.P.ext0 H.ext).one (f:=Dm) hy)) ?_;have H17:=Ctx.start w [];refine Cj [.int .i64 y] (.int .i64 y) AU Bz Ei U (by decide) (by decide) U U U H17 ?_;rintro b70 w2 - H17;refine A4 U (Af U (Ab (Aa (A5 (AB (Aq (Ca (v1:=(.slice _ _ _)) (v2:=(.int _ _)) U U U U ?_)))))));have H9:=H8.call H.ext;subst hS0;exact DO (P:=[_,_]) (m':=⟨bl,ba,bd,br,b,a,c,full,o,arch⟩) (s':=s) (l:=[y]) (code:=0) I H9 (G3 (n:=1) (l:=[Dm y]) H17 U) (hstep _ (by rw [hR]; unfold J5; rw [if_neg h2',if_neg h3,if_pos h4,Bi hy]; rfl)) I.O I.M I.ok U U U U
     ·intro h4;replace h4:=AN h4;obtain ⟨x,hxe⟩:=A8 (l:=r.es) (i:=k.b.toNat);obtain ⟨f,hf⟩:=A8 (l:=r.fl) (i:=k.b.toNat);refine Ap (A6 (Aa (Ae (Ah Fg U (Ah Dd U (AV E4 U ((H.old (Aj hb6 _) (by simp))) ?_))))));refine Ad U (AX (RA.E.ext0 H.ext) Di Dj U U (by rfl) ?_);refine BW _ IK Dj U U (((RA.E.ext0 H.ext).row hxe U)) ?_;refine Ba HM H ?_;rintro b10 w - H;refine Bm Dj U U U (by exact HS _) H at0 U ?_;rintro w H;refine Af U (Ab (Aa (Au ?_)));replace H:Ctx w1 [] w [(b10,Bl 59 (CG x))]:=H;refine Ae (Ad U (Ah EL U (AV Hb U ((H.old (Aj hb6 _) (by simp))) ?_)));refine Be Bt U (Bj U U (Ab (Aa (Ao _ U ?_ ?_))))
      ·intro h5;replace h5:=AM h5;obtain ⟨y,hy⟩:=A8 (l:=r.ids) (i:=k.b.toNat);refine Ax (Ah EL U (AV Hb U ((H.old (Aj hb6 _) (by simp))) ?_));refine Ad U (AX (RA.I.ext0 H.ext) Bt Bo U U (by rfl) ?_);refine AV B1 U (((RA.I.ext0 H.ext).one (f:=Gt) hy)) ?_;refine YA U U F5 Vm ?_;refine Af U (Ab (Aa (Cv [([0,1,2,3,4,5,6,7,8,9,10,11,12,13,14],15),([16],17)] (fun z=>Ext [] w1 z∧z.heap[b10]? = some (Bl 59 (CG x))) [] Bq (by kernel_rfl) (⟨H.drew.ext,H.drew.get at0⟩) ?_)));refine AE U U ?_;refine Am Gi U (Bw BZ U (fun _ hx=>(by rw [Aj hx.2]; rfl)) ?_);refine Am Gj U (Bw BZ U (fun _ hx=>(by rw [Aj hx.2]; rfl)) ?_);refine Am Fh U (Bw Bs U (fun _ hx=>(by rw [Aj hx.2]; rfl)) ?_);refine Am Hn U (Bw Bs U (fun _ hx=>(by rw [Aj hx.2]; rfl)) ?_);refine Am DG U (Am FK U (Bw BM U (fun _ hx=>(by rw [Aj (hx.1.to hb6 (by simp))]; rfl)) ?_))
       refine Bc U (Dc (RA.F.ext0 H.ext) AU Bz U U (by rfl) ?_);refine Bw Bs U (fun _ hx=>((RA.F.ext0 hx.1).one (f:=Dm) hf)) ?_;refine Bc U (AP ?_);replace H:=H.drew;refine DE ([x.f,x.t,x.cap,x.cost,f,IntKind.i64.wrap y].map Dm) AU Bz Ei (by decide) (by decide) (by kernel_rfl) (Ctx.start _ []) ?_;rintro b103 w2 - H17;refine Ab (BT (⟨H.ext.trans H17.ext,H17.ext.to (H.get at0) (by simp)⟩) ?_);refine AE U U ?_;refine Em U (AP (Af U (Ab (BT (⟨H.ext.trans H17.ext,H17.ext.to (H.get at0) (by simp)⟩) ?_))));refine BJ (A5 (Ca (v1:=(.slice _ _ _)) (v2:=(.int _ _)) U U U U ?_));have H9:=H8.call H.ext;subst hS0
       exact DO (P:=[_,_]) (m':=⟨bl,ba,bd,br,b,a,c,full,o,arch⟩) (s':=s) (l:=[x.f,x.t,x.cap,x.cost,f,IntKind.i64.wrap y]) (code:=0) I H9 (G3 (n:=6) H17 U) (hstep _ (by rw [hR]; unfold J5; rw [if_neg h2',if_neg h3,if_neg h4,Bi hxe,Bi hf,if_pos h5,Bi hy]; rfl)) I.O I.M I.ok U U U U
      ·intro h5;replace h5:=AN h5;refine Ap (Aa (Cv [([0,1,2,3,4,5,6,7,8,9,10,11,12,13,14],15),([16],17)] (fun z=>Ext [] w1 z∧z.heap[b10]? = some (Bl 59 (CG x))) [] Bq (by kernel_rfl) (⟨H.drew.ext,H.drew.get at0⟩) ?_));refine AE U U ?_;refine Am Gi U (Bw BZ U (fun _ hx=>(by rw [Aj hx.2]; rfl)) ?_);refine Am Gj U (Bw BZ U (fun _ hx=>(by rw [Aj hx.2]; rfl)) ?_);refine Am Fh U (Bw Bs U (fun _ hx=>(by rw [Aj hx.2]; rfl)) ?_);refine Am Hn U (Bw Bs U (fun _ hx=>(by rw [Aj hx.2]; rfl)) ?_);refine Am DG U (Am FK U (Bw BM U (fun _ hx=>(by rw [Aj (hx.1.to hb6 (by simp))]; rfl)) ?_));refine Bc U (Dc (RA.F.ext0 H.ext) AU Bz U U (by rfl) ?_);refine Bw Bs U (fun _ hx=>((RA.F.ext0 hx.1).one (f:=Dm) hf)) ?_;refine Bc U (AP ?_);replace H:=H.drew
       refine DE ([x.f,x.t,x.cap,x.cost,f,0].map Dm) AU Bz Ei (by decide) (by decide) (by kernel_rfl) (Ctx.start _ []) ?_;rintro b103 w2 - H17;refine Ab (BT (⟨H.ext.trans H17.ext,H17.ext.to (H.get at0) (by simp)⟩) ?_);refine AE U U ?_;refine Em U (AP (Af U (Ab (BT (⟨H.ext.trans H17.ext,H17.ext.to (H.get at0) (by simp)⟩) ?_))));refine BJ (A5 (Ca (v1:=(.slice _ _ _)) (v2:=(.int _ _)) U U U U ?_));have H9:=H8.call H.ext;subst hS0;exact DO (P:=[_,_]) (m':=⟨bl,ba,bd,br,b,a,c,full,o,arch⟩) (s':=s) (l:=[x.f,x.t,x.cap,x.cost,f,0]) (code:=0) I H9 (G3 (n:=6) H17 U) (hstep _ (by rw [hR]; unfold J5; rw [if_neg h2',if_neg h3,if_neg h4,Bi hxe,Bi hf,if_neg h5]; rfl)) I.O I.M I.ok U U U U
theorem Yz {m:Lm} {s:Ld} {T:Nat→Prop} {k:Ak} (hk:k.kd=15) (hin:AkIn k) (w:World) (I:LdIn w m s T) (H0:Ctx w (De m s) w (LL m s)) :
  Ret Tryz.prog 67 #[ptr m.bl,.agg (Co k).toArray] w (Gp w m s T k):=by
 cases hg:Uo s k.id with
 | none=>exact VP hk hin hg w I H0
 | some r=>exact VQ hk hin hg w I H0
end Go.Proofs.YtdagmpmdcgedcaaGreat
namespace Go.Proofs.YtdagmpmdcgedcaaGreat
open Go.GV
attribute [local irreducible] AD W Wq Wt
set_option maxRecDepth 20000 in
set_option maxHeartbeats 4000000 in
theorem Acg (b p:Option Addr) (m e u f:Nat) (ds:List Du) (xs:List Int) (w:World) (Rd':Rd w b 7 CT ds) (hm:ds.length=m) (Rp:Rd w p 1 I1 xs) (hu:xs.length=u) (hp:PayIn (opn ds) xs) (hmay:∀ d∈opn ds,Ej d=true) (htot:BN ((opn ds).map Du.am)≤4503599627370496)  (hm2:m≤1000000:=by omega):
  Ret Tryz.prog 116 #[.slice b m e,.slice p u f] w fun v w'=>v = .int .i64 (DM (opn ds) xs (opn ds).length)∧Ext [] w w':=by
 subst hm hu;obtain ⟨w0,rfl⟩:∃ w0,w0=w:=⟨_,rfl⟩;have H:=Ctx.start w0 [];have hol:=Iz ds;refine Az (fn:=Tryz.f116) Tryz.func116 U [.slice b ds.length e,.slice p xs.length f] U (by kernel_rfl) ?_;refine Ae (Af U (Ab (Aa (Ae (Ay U (Al Zb (WH b ds.length e ds _ Rd' U hm2) U ?_))))));rintro v w F;obtain ⟨ao,no,co,fo,rfl,OO,hbo⟩:=F.ex;replace H:=H.call F.ext;refine A4 U (Ab (Aa (Au ?_)));obtain rfl:no=(opn ds).length:=OO.numN (fun _ _=>rfl) (by decide);have RO0:Rd w ao 7 CT (opn ds):=OS.rd OO (fun y hy=>(hbo y hy).1) (fun _ _=>rfl) (by decide);have hE1:=H.ext;obtain ⟨w1,rfl⟩:∃ x,x=w:=⟨_,rfl⟩;clear H;have H:=Ctx.start w1 [];have hlen:=hp.1;have hRf:∀ {w:World},Ext [] w1 w→Rd w ao 7 CT (opn ds):=fun h=>RO0.ext0 h;have hRp:∀ {w:World},Ext [] w1 w→Rd w p 1 I1 xs:=fun h=>Rp.ext0 (hE1.trans h);refine Ae (Ay U (Be CE U (Ay U (Be AU U (C0 U U (Ab (Aa (Ao _ U ?_ ?_))))))))
 ·intro h1;replace h1:=C7 h1;omega
 ·intro h1;replace h1:=C8 h1;refine Ap (Aa (Ae (Af U (Ab (Aa (Au (Ae (Ay U (Be CE U (Ad U (Ab (Aa ?_))))))))))));refine A0 (Bv 4294836448 (α:=Nat) (fun i=>[(17,.int .i64 (i:Int)),(5,.int .i64 (DM (opn ds) xs i))]) (fun i w'=>i≤(opn ds).length∧Ctx w1 [] w' []) (fun i=>(opn ds).length - i) 0 U ?_ ?_ ?_)
  ·exact ⟨rfl,rfl,trivial⟩
  ·exact ⟨Nat.zero_le _,H⟩
  ·clear H;rintro i j w ⟨hi,H⟩;refine Ae (Bj U U (Ab (Aa (Au (Ao _ U ?_ ?_)))))
   ·intro h3;replace h3:=AM h3;obtain ⟨d,hd⟩:=A8 (l:=opn ds) (i:=i);obtain ⟨x,hxv⟩:=A8 (l:=xs) (i:=i);have hma:=CW (hmay d (List.mem_of_getElem? hd));have hxr:=hp.2 i d x hd hxv;have hwe:∀ d∈opn ds,0≤d.we∧d.we≤1000:=fun d hd=>by have:=CW (hmay d hd); omega
    have hps:∀ k,BN (((opn ds).map Du.am).take k)≤4503599627370496:=fun k=>Int.le_trans (QU (fun y hy=>by obtain ⟨d',hd',rfl⟩:=List.mem_map.1 hy; have:=CW (hmay d' hd'); omega) k) htot;have hw0:=Lt hp hwe i hi;have hw1:=Lt hp hwe (i+1) (by omega);have hp0:=hps i;have hp1:=hps (i+1);have hstep:=Km hd hxv;have hm1:0≤d.we*x:=Int.mul_nonneg (by omega) hxr.1;have hm2:d.we*x≤4503599627370496000:=by omega
    refine Ap (Aa (Au (A0 (Ae (Ad U (AX (hRf H.ext) CE Cg U U (by rfl) ?_))))));refine BW _ Fq Cg U U ((hRf H.ext).row hd U) ?_;refine Ba Ex H ?_;rintro b7 w - H;refine Af U (Bm Cg U U U (by exact Dg _) H at0 U ?_);rintro w H;refine Ab (Aa ?_);replace H:Ctx w1 [] w [(b7,Bl 67 (CT d))]:=H;refine Fj [([0,1,2,3,4,5,6,7,8],9)] (fun z=>Ext [] w1 z∧z.heap[b7]? = some (Bl 67 (CT d))) [] Bq (by kernel_rfl) (⟨H.drew.ext,H.drew.get at0⟩) ?_;refine AE U U ?_;refine Bc U (Am LQ U (Bw Bs U (fun _ hx=>(by rw [Aj hx.2]; rfl)) ?_));refine B3 U (Bc U (Dc (hRp H.ext) AU Bz U U (by rfl) ?_));refine Bw Bs U (fun _ hx=>((hRp hx.1).one (f:=Dm) hxv)) ?_;refine Xi U U U ?_;refine El U U ?_;refine AP ?_;replace H:=H.drew
    refine Af U (Ab (BT (⟨H.ext,H.get at0⟩) (BJ (A6 (Aa (Ax (Aw U U ?_)))))));refine Ad U (Ab (Aa ?_));exact ⟨i+1,rfl,⟨rfl,congrArg (Value.int .i64) hstep.symm,trivial⟩,⟨by omega,H.tail⟩,by omega⟩
   ·intro h3;replace h3:=AN h3;obtain rfl:i=(opn ds).length:=by omega
    refine Br (An (An (AK (Aa (Ae (Ad U (Af U (Ab (Aa (A5 (A9 (v:=(.int _ _)) U U U ?_)))))))))));exact ⟨rfl,hE1.trans H.ext⟩
end Go.Proofs.YtdagmpmdcgedcaaGreat
