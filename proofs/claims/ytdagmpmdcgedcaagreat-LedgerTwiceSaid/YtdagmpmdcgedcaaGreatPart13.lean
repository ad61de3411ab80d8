/- Part 13 of the proof. -/
import Derived.Test.YtdagmpmdcgedcaaGreatPart2
import Derived.Test.YtdagmpmdcgedcaaGreatPart12
import Derived.Test.YtdagmpmdcgedcaaGreatPart4
import Derived.Test.YtdagmpmdcgedcaaGreatPart3
import Derived.Test.YtdagmpmdcgedcaaGreatPart10
import Derived.Test.YtdagmpmdcgedcaaGreatRows
import Derived.Test.YtdagmpmdcgedcaaGreatPart11
namespace Go.Proofs.YtdagmpmdcgedcaaGreat
open Go.GV
attribute [local irreducible] AD W Wq Wt
theorem Ae9 {w w1 w':World} {m m':Lm} {s s':Ld} {T:Nat→Prop} {k:Ak} {P:List (Nat × Obj)} {a:Option Addr} {n c:Nat} {code:Int} {l:List Int} (H:Ctx w (De m s) w1 (P++LL m' s')) (F:Fresh w1 w' 2 1 (.slice a n c) (l.map Dm)) (hst:Cq s k s' (rp l code))
  (hI:LdIn w' m' s' (fun x=>T x∨x∈De m' s')) (hbl:m'.bl=m.bl):Gp w m s T k (.tuple #[.slice a n c,.int .i64 code]) w':=by
 obtain ⟨a',n',c',full,hv,OF,hb⟩:=F.ex;cases hv;have H1:Ctx w (De m s) w1 (LL m' s'):=H.right;exact ⟨a,n,c,full,code,l,s',m',rfl,OF,hst,H1.callEnt F.ext hb Ge,fun x hx=>Nat.le_trans H1.size (hb x hx).2,hI,hbl⟩
theorem Y0 (xs:List Int) {i:Nat} {x:Int} (h:xs[i]? = some x):Gn xs (i+1)=Gn xs i+(if 0<x then 1 else 0):=by
 show Gn xs i+one (0<xs.getD i 0)=_;rw [Bi h]
 by_cases hx:0<x
 ·rw [Gl hx,if_pos hx]
 ·rw [F6 hx,if_neg hx]
theorem U4 (xs:List Int):∀ i,0≤Gn xs i∧Gn xs i≤i
 | 0=>⟨Int.le_refl _,Int.le_refl _⟩
 | i+1=>by
  have h:=U4 xs i;show 0≤Gn xs i+one (0<xs.getD i 0)∧Gn xs i+one (0<xs.getD i 0)≤((i+1:Nat):Int)
  by_cases hx:0<xs.getD i 0
  ·rw [Gl hx]; omega
  ·rw [F6 hx]; omega
theorem Akf {m:Lm} {s:Ld} {x:Nat} (h:x∈(LX m.ba m.a s.acs.length m.c m.full m.bd m.b s.nx m.o).map (fun x:Nat × Obj=>x.1)):x∈De m s:=List.mem_cons_of_mem _ (List.mem_cons_of_mem _ h)
set_option maxRecDepth 20000 in
set_option maxHeartbeats 1000000 in
theorem Rr {m:Lm} {s:Ld} {T:Nat→Prop} {k:Ak} (hk:k.kd=10∨k.kd=11) (_hin:AkIn k) (w:World) (I:LdIn w m s T) (H0:Ctx w (De m s) w (LL m s)) :
  Ret Tryz.prog 63 #[ptr m.bl,.agg (Co k).toArray] w (Gp w m s T k):=by
 obtain ⟨w0,rfl⟩:∃ w0,w0=w:=⟨_,rfl⟩;obtain ⟨bl,ba,bd,br,b,a,c,full,o,arch⟩:=m;obtain ⟨S0,hS0⟩:∃ S,S=De ⟨bl,ba,bd,br,b,a,c,full,o,arch⟩ s:=⟨_,rfl⟩;have H:Ctx w0 S0 w0 ((bl,Bl 106 [ptr ba,ptr bd,ptr br,.int .i64 s.day])::(br,Bl 168 arch)::(ba,Bl 162 [.slice a s.acs.length c])::(bd,Bl 165 (DU b s.nx))::(b,o)::ent a 43 full):=by rw [hS0]; exact H0
 have hn16:=(Cd.1 I.ok.ac).1;have hbdb:bd≠b:=H.ne (i:=3) (j:=4) rfl rfl (by decide);have hno:0≤s.no∧s.no≤4611686018427387904:=by have:=I.ok.kept; omega
 have hstep:∀ s' p,((4611686018427387904≤s.no∧s'=s∧p=⟨6,[]⟩) ∨
  (s.no<4611686018427387904∧∃ r,PlanR s.acs s.ds (decide (k.kd=11)) r∧s'=CR s r ∧
   p=⟨0,[IntKind.i64.wrap (s.no+1),DM (opn s.ds) r.fl (opn s.ds).length,Gn (r.fl.take (opn s.ds).length) (opn s.ds).length]⟩))→Cq s k s' p:=fun s' p h=>by
  unfold Cq;rw [if_pos hk];exact h
 obtain ⟨h64,-,h3d,htot⟩:=Er I.ok.du;have hBr:=Ls I.ok.ac I.ok.du I.ok.bk;have hbr:D0 (s.acs.map C5) s.ds=true:=(HY).2 hBr;refine Az (fn:=Tryz.f63) Tryz.func63 U [.pointer (some ⟨bl,0,none⟩),.agg (Co k).toArray] U (by kernel_rfl) ?_;refine Ae (Bx (Co k) (.agg _) U U H ?_);rintro b3 w - H;refine A4 U (Af U (Ab (Aa (Au (Ae (A2 U (AA U (Ah IL U (AH MJ U H at1 U (Al Afo (Aca _ (H.get at2) I.no) U ?_))))))))));rintro v w ⟨rfl,hx19⟩;replace H:=H.call hx19;refine C9 U U (Ab (Aa (Ao _ U ?_ ?_)))
 ·intro h1;replace h1:=AM h1;refine Ae (A4 U (Af U (Ab (Aa (A5 (Aq (Ca (v1:=(.slice _ _ _)) (v2:=(.int _ _)) U U U U ?_)))))));subst hS0;exact DO (P:=[_]) (m':=⟨bl,ba,bd,br,b,a,c,full,o,arch⟩) (s':=s) (l:=[]) (code:=6) I H (Ie _) (hstep _ _ (.inl ⟨h1,rfl,rfl⟩)) I.O I.M I.ok U U U U
 ·intro h1;replace h1:=AN h1;have hno1:s.no<4611686018427387904:=by omega
  refine Ap (Aa (DR 68717379776 (α:=Nat × Rnd × RSl × Int) (fun z=>[(6,ptr z.1),(7,.int .i64 z.2.2.2)]) (fun z w'=>z.2.2.2=0∧PlanR s.acs s.ds (decide (k.kd=11)) z.2.1∧RAt w' z.2.1 z.2.2.1∧ROff z.2.2.1 z.2.1 (fun x=>x<w0.heap.size∨x=z.1)∧Ctx w0 S0 w' ((z.1,Bl 55 (B0 z.2.1 z.2.2.1))::(b3,Bl 40 (Co k))::(bl,Bl 106 [ptr ba,ptr bd,ptr br,.int .i64 s.day])::(br,Bl 168 arch)::(ba,Bl 162 [.slice a s.acs.length c])::(bd,Bl 165 (DU b s.nx))::(b,o)::ent a 43 full)) U ?_ ?_))
  ·skip
   refine Oe (.two [0,1,2,3,4,5,6,7,8,9,10] 11 (.one [12,13,14] 15 (.one [] 16 (.one [] 17 .stop))) 15 (.one [] 11 (.one [12,13,14] 16 (.one [] 17 .stop)))) (fun z=>z.heap[b3]? = some (Bl 40 (Co k))∧z.heap[bl]? = some (Bl 106 [ptr ba,ptr bd,ptr br,.int .i64 s.day])) Bq (by kernel_rfl) (⟨H.drew.get at0,H.drew.get at1⟩) ?_;refine I3 U U U ?_;refine BL U (Bf U (Am FA U (Bw Ip U (fun _ hx=>(by rw [Aj hx.2]; rfl)) ?_)));refine BL U (Bf U (Am EP U (Bw F7 U (fun _ hx=>(by rw [Aj hx.2]; rfl)) ?_)));refine Am G7 U (Bw N6 U (fun _ hx=>(by rw [Aj hx.1]; rfl)) ?_);refine Afh U U U (AP ?_);replace H:=H.drew;refine ⟨?_,?_⟩
   ·skip
    refine Al YU (WO I.ok.ac I.ok.du (decide (k.kd=11)) _ ⟨a,c,H.get at3,OS.rd (t:=43) I.O (fun y hy=>H.blk y (List.mem_append_right [_,_,_,_,_,_] hy)) (fun _ _=>rfl) (by decide)⟩ ⟨b,s.nx,o,H.get at4,H.get at5,I.M⟩) U ?_;rintro v w ⟨hx33,⟨hb,-⟩ | ⟨-,r,q,rfl,P,RA,hoff⟩⟩
    (rw [hbr] at hb; cases hb)
    have hsz:=H.size;have H9:=H.call hx33;have hsz9:=hx33.size;clear H;obtain ⟨w9,rfl⟩:∃ z,z=w:=⟨_,rfl⟩;have H:=Ctx.start w9 [];refine Ab (BS (by exact ⟨H.ext.to (H9.get at0) (by simp),H.ext.to (H9.get at1) (by simp)⟩) ?_);refine BP U U ?_;refine DF U (Bu U U (Bu U U (AP (Ba Hf H ?_))));rintro b6 w - H;refine Ab (BS (by exact ⟨H.ext.to (H9.get at0) (by simp),H.ext.to (H9.get at1) (by simp)⟩) ?_);refine BP U U ?_;refine AP (Bm D4 U U U (by exact (by simp [Bg])) H at0 U ?_);rintro w H;refine Ab (BS (by exact ⟨H.ext.to (H9.get at0) (by simp),H.ext.to (H9.get at1) (by simp)⟩) ?_);refine BP U U ?_;refine AP (Af U (Ab (BS (by exact ⟨H.ext.to (H9.get at0) (by simp),H.ext.to (H9.get at1) (by simp)⟩) ?_)));refine Eb ?_;refine Aa ?_;have hb6:w9.heap.size≤b6:=(H.own _ (List.mem_cons_self ..)).elim (fun h=>by cases h) id
    exact ⟨(b6,r,q,0),rfl,⟨rfl,rfl,trivial⟩,rfl,P,RA.ext0 H.ext,(hoff.or RA.lt).mono fun x hx=>hx.elim (fun h => .inl (Nat.lt_of_lt_of_le h hsz)) (fun h => .inr (h ▸ hb6)),Ctx.mid (B:=[]) (L:=[]) H9 H⟩
   ·skip
    refine Ba Hf H ?_;rintro b6 w - H;refine Ab (BS (by exact ⟨H.get at1,H.get at2⟩) ?_);refine BP U U ?_;refine AP (Al YU (WO I.ok.ac I.ok.du (decide (k.kd=11)) _ ⟨a,c,H.get at4,OS.rd (t:=43) I.O (fun y hy=>H.blk y (List.mem_append_right [_,_,_,_,_,_,_] hy)) (fun _ _=>rfl) (by decide)⟩ ⟨b,s.nx,o,H.get at5,H.get at6,I.M⟩) U ?_);rintro v w ⟨hx33,⟨hb,-⟩ | ⟨-,r,q,rfl,P,RA,hoff⟩⟩
    (rw [hbr] at hb; cases hb)
    have hsz:=H.size;have hlt:=Bb (H.get at0);have H9:=H.call hx33;clear H;obtain ⟨w9,rfl⟩:∃ z,z=w:=⟨_,rfl⟩;have H:=Ctx.start1 (H9.get at0);refine Ab (BS (by exact ⟨H.ext.to (H9.get at1) (by rw [List.mem_singleton]; exact H9.ne (i:=1) (j:=0) rfl rfl (by decide)),H.ext.to (H9.get at2) (by rw [List.mem_singleton]; exact H9.ne (i:=2) (j:=0) rfl rfl (by decide))⟩) ?_);refine BP U U ?_;refine DF U (Bu U U (Bu U U (AP (Bm D4 U U U (by exact (by simp [Bg])) H at0 U ?_))));rintro w H;refine Ab (BS (by exact ⟨H.ext.to (H9.get at1) (by rw [List.mem_singleton]; exact H9.ne (i:=1) (j:=0) rfl rfl (by decide)),H.ext.to (H9.get at2) (by rw [List.mem_singleton]; exact H9.ne (i:=2) (j:=0) rfl rfl (by decide))⟩) ?_);refine BP U U ?_
    refine AP (Af U (Ab (BS (by exact ⟨H.ext.to (H9.get at1) (by rw [List.mem_singleton]; exact H9.ne (i:=1) (j:=0) rfl rfl (by decide)),H.ext.to (H9.get at2) (by rw [List.mem_singleton]; exact H9.ne (i:=2) (j:=0) rfl rfl (by decide))⟩) ?_)));refine Eb ?_;refine Aa ?_;exact ⟨(b6,r,q,0),rfl,⟨rfl,rfl,trivial⟩,rfl,P,RA.ext H.ext (hoff.mono fun x hx=>by rw [List.mem_singleton.1 hx]; exact hlt),hoff.mono fun x hx=>hx.elim (fun h=>Nat.lt_of_lt_of_le h hsz) (fun h=>by rw [h]; exact hlt),Ctx.mid (B:=[]) (L:=[_]) H9 H⟩
  ·rintro ⟨b6,r,q,e7⟩ j7 w ⟨he7,P,RA,hoff,H⟩;dsimp only at he7 P RA hoff H;obtain ⟨hC,hokR⟩:=Kp I.ok P hno1;have F0:=DL I.ok.ac I.ok.du hC;have hB:=Ab1 P;have hmy:∀ d∈s.ds,Ej d=true:=fun d hd=>((GF I.ok.du).1 d hd).1;have hids:r.ids.length=(opn s.ds).length:=by rw [P.ids,List.length_map]
   have hol:=Iz s.ds;have hle:(opn s.ds).length≤r.fl.length:=by have:=F0.pay.1; rw [List.length_take] at this; omega
   have hlow:∀ x∈De ⟨bl,ba,bd,br,b,a,c,full,o,arch⟩ s,x<w0.heap.size:=fun x hx=>I.low x (I.own x hx);have hlx:∀ x∈(LX ba a s.acs.length c full bd b s.nx o).map (fun x:Nat × Obj=>x.1),x<w0.heap.size:=fun x hx=>hlow x (Akf (m:=⟨bl,ba,bd,br,b,a,c,full,o,arch⟩) hx);obtain ⟨xs,hxs⟩:∃ xs,xs=r.fl.take (opn s.ds).length:=⟨_,rfl⟩;have hxl:xs.length=(opn s.ds).length:=by rw [hxs,List.length_take]; omega
   have hmayR:NB { r with day:=s.day }=true:=by
    unfold NB;dsimp only;rw [P.chk,hids,decide_eq_true (show (opn s.ds).length≤64 by omega),decide_eq_true I.ok.day.1];rfl
   refine Au (Ae (Ad U (C0 U U (Ab (Aa (Ao _ U ?_ ?_))))))
   ·intro h2;replace h2:=C7 h2;exact absurd he7 h2
   ·intro h2;replace h2:=C8 h2;refine Ap (Aa (Ae (A2 U (AA U (Ah EP U (AH F7 U H at2 U (Al LK (Mc _ (H.get at5) (H.get at6) I.M (Kl I.ok.du)) U ?_)))))));rintro v w ⟨ds',hSd,Fd⟩;have hde:=Mj hSd (J2 h3d).2.1;rw [hde] at Fd;obtain ⟨a3,c3,rfl,R3,hn3,-,hx43⟩:=Mw Fd (fun _ _=>rfl) (by decide);have hl6:=Bb (H.get at0);have hlr:=Bb (H.get at3);have hs43:=H.size;replace RA:=RA.ext0 hx43;replace H:=H.call hx43;refine A4 U (Ab (Aa (Au ?_)));have hn3':s.ds≠[]→(adr a3).block∉(LX ba a s.acs.length c full bd b s.nx o).map (fun x:Nat × Obj=>x.1):=fun hne hm=>by have:=hn3 hne; have:=hlx _ hm; omega
    refine Cv [([0,1,2,3,4,5,6,7,8],9),([],10)] (fun z=>z.heap[b6]? = some (Bl 55 (B0 r q))∧z.heap[bl]? = some (Bl 106 [ptr ba,ptr bd,ptr br,.int .i64 s.day])) [9,10] Bq (by kernel_rfl) (⟨H.drew.get at0,H.drew.get at2⟩) ?_;refine AE U U ?_;refine BL U (Bf U (Am FA U (Bw Ip U (fun _ hx=>(by rw [Aj hx.2]; rfl)) ?_)));refine BL U (Bf U (Am EP U (Bw F7 U (fun _ hx=>(by rw [Aj hx.2]; rfl)) ?_)));refine IH _ GM D4 U U (fun _ hx=>(Cm (b:=b6) (t:=55) (l:=B0 r q) hx.1 0 (B0 r q) rfl)) ?_;refine AP ?_;replace H:=H.drew;replace RA:=RA.ext0 (Ext.drew [] _);replace R3:=R3.ext0 (Ext.drew [] _);replace H:Ctx w0 S0 _ ([(b6,Bl 55 (B0 r q)),(b3,Bl 40 (Co k)),(bl,Bl 106 [ptr ba,ptr bd,ptr br,.int .i64 s.day]),(br,Bl 168 arch)]++(LX ba a s.acs.length c full bd b s.nx o++[])):=(by rw [List.append_nil]; exact H)
    refine Al Agu (Yn I.ok.ac I.ok.du H I.O I.M RA (hoff.mono fun x hx => .inl (hlx x hx)) hB) U ?_;rintro v w ⟨rfl,full',o',O',M',hxA,H7⟩;replace RA:=RA.ext hxA (hoff.mono fun x hx => .inl (hlx x hx));replace R3:=R3.ext' hxA hn3';rw [List.append_nil] at H7;replace H:=H7;refine Ab (B4 U (AE U U ?_));refine AP (Af U (Ab (B4 U (BJ ?_))));obtain ⟨hap1,-,hap3⟩:=G2 (r:=r) I.ok.ac I.ok.du;rw [← hap3] at O' H;refine Ae (Ad U (C0 U U (Ab (Aa (Ao _ U ?_ ?_)))))
    ·intro h4;replace h4:=C7 h4;exact absurd hC h4
    ·intro h4;replace h4:=C8 h4;refine Ap (Aa (Ae (Ah Fg U (BW _ Dh CK U U ((Cm (b:=b6) (t:=55) (l:=B0 r q) (H.get at0) 4 [.int .i64 r.N,.slice q.aE r.es.length q.cE] U)) ?_))));refine Ah DG U (Ah FK U (AH BM U H at0 U (Ah EL U (AH Hb U H at0 U (Be Bt U (Al YV (WJ r.N q.aE q.aF _ _ _ _ _ r.fl _ RA.F U RA.fc hB.fl) U ?_))))));rintro v w Fp;rw [show Sz ((r.ids.length:Nat):Int) r.fl.length=(opn s.ds).length by unfold Sz; omega,← hxs,← YC] at Fp;obtain ⟨a9,c9,rfl,Rp,hn9,-,hx65⟩:=Mw Fp (fun _ _=>rfl) (by decide);have hp6:=Bb (H.get at0);have hpr:=Bb (H.get at3);replace RA:=RA.ext0 hx65;replace R3:=R3.ext0 hx65;replace H:=H.call hx65;refine A4 U (Ab (Aa (Ae (Af U (Ab (Aa (Au (Ae (Ay U (Be AU U (Ad U ?_)))))))))));refine Ab (Aa (A0 ?_));have H8:=H;obtain ⟨w1,rfl⟩:∃ z,z=w:=⟨_,rfl⟩;clear H;have H:=Ctx.start w1 []
     refine Bv 150820579546649294022656 (α:=Nat) (fun i=>[(11,.int .i64 (Gn xs i)),(68,.int .i64 (i:Int))]) (fun i w'=>i≤xs.length∧Ctx w1 [] w' []) (fun i=>xs.length - i) 0 U ?_ ?_ ?_
     ·exact ⟨rfl,rfl,trivial⟩
     ·exact ⟨Nat.zero_le _,H⟩
     ·clear H;rintro i j w ⟨hi,H⟩;refine Ae (Bj U U (Ab (Aa (Au (Ao _ U ?_ ?_)))))
      ·intro h5;replace h5:=AM h5;obtain ⟨x,hx⟩:=A8 (l:=xs) (i:=i);have hsb:=U4 xs i;have hst:=Y0 xs hx;refine Ap (Aa (Au (A0 (Ae (AX (Rp.ext0 H.ext) AU Bz U U (by rfl) ?_)))));refine AV Bs U (((Rp.ext0 H.ext).one (f:=Dm) hx)) ?_;refine Af U (Ab (Aa (Ae (Ad U (CZ U U (Ab (Aa (Ao _ U ?_ ?_))))))))
       ·intro h6;replace h6:=AM h6;refine Ax (Ad U (Aw U U ?_));refine Af U (Ab (A6 (Aa (Ax (Aw U U ?_)))));refine Ad U (Ab (Aa ?_));exact ⟨i+1,rfl,⟨congrArg (Value.int .i64) (by rw [hst,if_pos h6]),rfl,trivial⟩,⟨by omega,H⟩,by omega⟩
       ·intro h6;replace h6:=AN h6;refine Ap (A6 (Aa (Ax (Aw U U ?_))));refine Ad U (Ab (Aa ?_));exact ⟨i+1,rfl,⟨congrArg (Value.int .i64) (by rw [hst,if_neg h6,Int.add_zero]),rfl,trivial⟩,⟨by omega,H⟩,by omega⟩
      ·intro h5;replace h5:=AN h5;obtain rfl:i=xs.length:=by omega
       replace RA:=RA.ext0 H.ext;replace R3:=R3.ext0 H.ext;replace Rp:=Rp.ext0 H.ext;replace H8:=H8.call H.ext;clear H;obtain ⟨w2,rfl⟩:∃ z,z=w:=⟨_,rfl⟩;have H:=Ctx.start1 (H8.get at0);refine Br (An (An (AK (Aa (Ae (A2 U (AA U (Ah JT U (AV Bs U ((H.old (Aj (H8.get at2) _) (by rw [List.mem_singleton]; exact H8.ne (i:=2) (j:=0) rfl rfl (by decide)))) ?_)))))))));refine Ah LP U (Ci (.int _ _) Bz U U U H at0 (by (simp; done)) ?_);rintro w H;refine Ab (Aa ?_);replace RA:=RA.ext H.ext (hoff.mono fun x hx=>by rw [List.mem_singleton.1 hx]; exact .inr rfl);replace R3:=R3.ext' H.ext (fun hne hm=>by have:=hn3 hne; rw [List.mem_singleton.1 hm] at this; omega);replace Rp:=Rp.ext' H.ext (fun hne hm=>by have:=hn9 hne; rw [List.mem_singleton.1 hm] at this; omega);replace H:Ctx w2 [b6] w [(b6,Bl 55 (B0 { r with day:=s.day } q))]:=H;replace H:=Ctx.mid (B:=[]) (L:=[_]) H8 H;clear H8
       refine Cv [([0,1,2,3,4],5),([6,7,8,9],10)] (fun z=>z.heap[b6]? = some (Bl 55 (B0 { r with day:=s.day } q))∧z.heap[bl]? = some (Bl 106 [ptr ba,ptr bd,ptr br,.int .i64 s.day])) [5,10] Bq (by kernel_rfl) (⟨H.drew.get at0,H.drew.get at2⟩) ?_;refine AE U U ?_;refine BL U (Bf U (Am IL U (Bw MJ U (fun _ hx=>(by rw [Aj hx.2]; rfl)) ?_)));refine IH _ GM D4 U U (fun _ hx=>(Cm (b:=b6) (t:=55) (l:=B0 { r with day:=s.day } q) hx.1 0 (B0 { r with day:=s.day } q) rfl)) ?_;refine AP ?_;replace H:=H.drew;replace RA:=RA.ext0 (Ext.drew [] _);replace R3:=R3.ext0 (Ext.drew [] _);replace Rp:=Rp.ext0 (Ext.drew [] _);have hsA:=H.size;refine Al Agv (Ae5 (n:=s.rn.length) (no:=s.no) (arch:=arch) { r with day:=s.day } q _ (RA.no r.no s.day) (hB.no r.no s.day) (H.get at3) I.len I.n I.no I.ok.kept.1 ⟨hno.1,hno1⟩ hmayR) U ?_;rintro v w ⟨rfl,q2,H7,RA2,hoff2⟩
       replace R3:=R3.ext' H7.ext (fun hne hm=>by have:=hn3 hne; rw [List.mem_singleton.1 hm] at this; omega);replace Rp:=Rp.ext' H7.ext (fun hne hm=>by have:=hn9 hne; rw [List.mem_singleton.1 hm] at this; omega);replace H:=Ctx.mid (B:=[_,_,_]) (L:=[_]) H H7;refine Ab (B4 U (AE U U ?_));refine DF U (Bu U U (Bu U U (Kx U U (AP (Af U (Ab (B4 U (BJ ?_))))))));have H8:=H;obtain ⟨wB,rfl⟩:∃ z,z=w:=⟨_,rfl⟩;clear H;have H:=Ctx.start wB [];refine Ae (Ad U (GJ U U F5 Vm ?_));refine Ay U (Ay U (Al Agw (Acg a3 a9 _ _ _ _ s.ds xs _ R3 U Rp U (hxs ▸ F0.pay) (fun d hd=>hmy d (List.mem_filter.1 hd).1) (Int.le_trans (WM fun d hd=>by have:=CW (hmy d hd); omega) htot)) U ?_));rintro v w ⟨rfl,hx95⟩;replace H:=H.call hx95
       refine Ad U (DE ([s.no+1,DM (opn s.ds) xs (opn s.ds).length,Gn xs xs.length].map Dm) AU Bz Ei (by decide) (by decide) (by kernel_rfl) H ?_);rintro b97 w - H;refine Ad U (A4 U (Af U (Ab (Aa (A5 (Ca (v1:=(.slice _ _ _)) (v2:=(.int _ _)) U U U U ?_))))));have H17:=H;have hw:IntKind.i64.wrap (s.no+1)=s.no+1:=CV (show (-9223372036854775808:Int)≤s.no+1 by omega) (show s.no+1≤(9223372036854775807:Int) by omega);subst hS0;exact Ae9 (P:=[_,_]) (m':=⟨bl,ba,bd,br,b,a,c,full',o',J7 arch s.rn.length { r with no:=s.no+1,day:=s.day } q2⟩) (s':=CR s r) (l:=[s.no+1,DM (opn s.ds) xs (opn s.ds).length,Gn xs xs.length]) (code:=0) H8 (G3 (n:=3) H17 U) (hstep _ _ (.inr ⟨hno1,r,P,rfl,by rw [hw,hxl,hxs,Py _ (Nat.le_refl _)]; rfl⟩)) (I.rnd (H8.ext.then H17.ext (by simp)) I.own hokR O' M' (RA2.ext0 H17.ext) hoff2 hsA) U
end Go.Proofs.YtdagmpmdcgedcaaGreat
namespace Go.Proofs.YtdagmpmdcgedcaaGreat
open Go.GV
attribute [local irreducible] AD W Wq Wt
def Af6 (w:World) (m:Lm) (s:Ld) (T:Nat→Prop) (k:Ak) (v:Value) (w':World):Prop :=
 ∃ a n c full p s' m' T',v = .agg #[.int .i64 p.e,.slice a n c]∧OS a n c 1 full (p.n.map Dm)∧Cq s k s' p∧Ctx w (De m s) w' (LL m' s'++ent a 2 full)∧LdIn w' m' s' T'∧Grows T T' w∧m'.bl=m.bl
abbrev fnV (f:FuncId):Value := .func (.func f) #[] #[]
abbrev doT:List Value:=[.nilFunc,fnV 54,fnV 55,fnV 56,fnV 57,fnV 58,fnV 59,fnV 60,fnV 61,fnV 62,fnV 63,fnV 63,fnV 64,fnV 65,fnV 66,fnV 67]
def DoFn (k:Ak) (f:FuncId):Prop:=doT[k.kd.toNat]? = some (fnV f)∧Av Tryz.prog f=true∧∀ {m:Lm} {s:Ld} {T:Nat→Prop} (w:World) (_:LdIn w m s T) (_:Ctx w (De m s) w (LL m s)),Ret Tryz.prog f #[ptr m.bl,.agg (Co k).toArray] w (Gp w m s T k)
theorem Akg {k:Ak} (hin:AkIn k) (h0:k.kd≠0) (h16:k.kd<16:=by omega):∃ f,DoFn k f:=by
 have hkd:=hin.kd;have hc:k.kd=1∨k.kd=2∨k.kd=3∨k.kd=4∨k.kd=5∨k.kd=6∨k.kd=7∨k.kd=8∨k.kd=9∨k.kd=10∨k.kd=11∨k.kd=12∨k.kd=13∨k.kd=14∨k.kd=15:=by omega
 rcases hc with h | h | h | h | h | h | h | h | h | h | h | h | h | h | h
 ·exact ⟨_,by rw [h]; rfl,ca_54,fun w I H=>Ab7 h hin w I H⟩
 ·exact ⟨_,by rw [h]; rfl,ca_55,fun w I H=>Ab2 h hin w I H⟩
 ·exact ⟨_,by rw [h]; rfl,ca_56,fun w I H=>Ab3 h hin w I H⟩
 ·exact ⟨_,by rw [h]; rfl,ca_57,fun w I H=>Ae0 h hin w I H⟩
 ·exact ⟨_,by rw [h]; rfl,ca_58,fun w I H=>Ae1 h hin w I H⟩
 ·exact ⟨_,by rw [h]; rfl,ca_59,fun w I H=>Ab4 h hin w I H⟩
 ·exact ⟨_,by rw [h]; rfl,ca_60,fun w I H=>Uz h hin w I H⟩
 ·exact ⟨_,by rw [h]; rfl,ca_61,fun w I H=>VO h hin w I H⟩
 ·exact ⟨_,by rw [h]; rfl,ca_62,fun w I H=>Ab8 h hin w I H⟩
 ·exact ⟨_,by rw [h]; rfl,Afp,fun w I H=>Rr (.inl h) hin w I H⟩
 ·exact ⟨_,by rw [h]; rfl,Afp,fun w I H=>Rr (.inr h) hin w I H⟩
 ·exact ⟨_,by rw [h]; rfl,ca_64,fun w I H=>Ab5 h hin w I H⟩
 ·exact ⟨_,by rw [h]; rfl,ca_65,fun w I H=>Yx h hin w I H⟩
 ·exact ⟨_,by rw [h]; rfl,ca_66,fun w I H=>Ae2 h hin w I H⟩
 ·exact ⟨_,by rw [h]; rfl,ca_67,fun w I H=>Yz h hin w I H⟩
theorem Ach {s:Ld} {k:Ak} (h:k.kd=0∨16≤k.kd):Cq s k s ⟨1,[]⟩:=by
 have h1:Es s k=s:=by
  unfold Es;rw [if_neg (by omega),if_neg (by omega),if_neg (by omega),if_neg (by omega),if_neg (by omega),if_neg (by omega),if_neg (by omega),if_neg (by omega),if_neg (by omega)]
 have h2:EC s k=⟨1,[]⟩:=by
  unfold EC;rw [if_neg (by omega),if_neg (by omega),if_neg (by omega),if_neg (by omega),if_neg (by omega),if_neg (by omega),if_neg (by omega),if_neg (by omega),if_neg (by omega),if_neg (by omega),if_neg (by omega),if_neg (by omega),if_neg (by omega)]
 unfold Cq;rw [if_neg (by omega)];exact ⟨h1.symm,h2.symm⟩
theorem VR {w w':World} {m m':Lm} {s s':Ld} {T T':Nat→Prop} {k:Ak} {P:List (Nat × Obj)} {a:Option Addr} {n c:Nat} {full:List Value} {p:Rp} (_I:LdIn w m s T) (H:Ctx w (De m s) w' (P++(LL m' s'++ent a 2 full))) (O:OS a n c 1 full (p.n.map Dm)) (hst:Cq s k s' p) (I7:LdIn w' m' s' T') (g:Grows T T' w) (hbl:m'.bl=m.bl) :
  Af6 w m s T k (.agg #[.int .i64 p.e,.slice a n c]) w':=⟨a,n,c,full,p,s',m',T',rfl,O,hst,H.right,I7,g,hbl⟩
abbrev dL:List Nat:=[23,24,25,26,27,28,29,22,30,31,6]
theorem Akh:∀ i j,i<11→j<11→dL.getD i 0=dL.getD j 0→i=j:=fun i j hi hj h=>by
 have h1:∀ a b:Fin 11,dL.getD a.val 0=dL.getD b.val 0→a=b:=by decide
 exact congrArg Fin.val (h1 ⟨i,hi⟩ ⟨j,hj⟩ h)
abbrev dA:Nat→List Nat:=ancT 11 [[],[0],[0,1],[0,1,2],[],[],[0,1,2,3,4,5],[0,1,2,3,4,5,6],[0,1,2,3,4,5,6,7],[0,1,2,3,4,5,6,7],[0,1,2,3,4,5,6,7,8]]
def gD (b3 b5 bl:Nat) (k:Ak) (f:FuncId) (R:Value→Value→World→Prop):Nat→(Nat→Value)→World→Prop
 | 0,V,_=>V 0 = .pointer (some ⟨b3,0+0,none⟩)
 | 1,V,_=>V 1 = .int .u8 k.kd
 | 2,V,_=>V 2 = .pointer (some ⟨b5,0+k.kd.toNat*1,none⟩)
 | 3,V,_=>V 3=fnV f
 | 4,V,_=>V 4 = .pointer (some ⟨bl,0,none⟩)
 | 5,V,_=>V 5 = .agg (Co k).toArray
 | 6,V,w=>∃ x y,V 6 = .tuple #[x,y]∧R x y w
 | 7,V,_=>V 7=V 6
 | 8,V,_=>∃ x y,V 7 = .tuple #[x,y]∧V 8=x
 | 9,V,_=>∃ x y,V 7 = .tuple #[x,y]∧V 9=y
 | 10,V,_=>V 10=V 8
 | _,_,_=>True
theorem Aki {b3 b5 bl:Nat} {k:Ak} {f:FuncId} {R:Value→Value→World→Prop}:∀ (i j:Nat) (v:Value) (V:Nat→Value) (w:World),i<11→j≠i→j∉dA i→gD b3 b5 bl k f R i V w→gD b3 b5 bl k f R i (LI V j v) w
 | 0,j,v,V,w,_,h1,_,h=>(D7 (Ne.symm h1)).trans h
 | 1,j,v,V,w,_,h1,_,h=>(D7 (Ne.symm h1)).trans h
 | 2,j,v,V,w,_,h1,_,h=>(D7 (Ne.symm h1)).trans h
 | 3,j,v,V,w,_,h1,_,h=>(D7 (Ne.symm h1)).trans h
 | 4,j,v,V,w,_,h1,_,h=>(D7 (Ne.symm h1)).trans h
 | 5,j,v,V,w,_,h1,_,h=>(D7 (Ne.symm h1)).trans h
 | 6,j,v,V,w,_,h1,_,h=>by
  obtain ⟨x,y,h3,h4⟩:=h;exact ⟨x,y,(D7 (Ne.symm h1)).trans h3,h4⟩
 | 7,j,v,V,w,_,h1,h2,h=>by
  have h6:j≠6:=fun e=>h2 (by rw [e]; decide);exact ((D7 (Ne.symm h1)).trans h).trans (D7 (Ne.symm h6)).symm
 | 8,j,v,V,w,_,h1,h2,h=>by
  have h7:j≠7:=fun e=>h2 (by rw [e]; decide);obtain ⟨x,y,h3,h4⟩:=h;exact ⟨x,y,(D7 (Ne.symm h7)).trans h3,(D7 (Ne.symm h1)).trans h4⟩
 | 9,j,v,V,w,_,h1,h2,h=>by
  have h7:j≠7:=fun e=>h2 (by rw [e]; decide);obtain ⟨x,y,h3,h4⟩:=h;exact ⟨x,y,(D7 (Ne.symm h7)).trans h3,(D7 (Ne.symm h1)).trans h4⟩
 | 10,j,v,V,w,_,h1,h2,h=>by
  have h8:j≠8:=fun e=>h2 (by rw [e]; decide);exact ((D7 (Ne.symm h1)).trans h).trans (D7 (Ne.symm h8)).symm
 | i+11,_,_,_,_,h,_,_,_=>by omega
theorem gD_w {b3 b5 bl:Nat} {k:Ak} {f:FuncId} {R:Value→Value→World→Prop}:∀ (i:Nat) (V:Nat→Value) (w w':World),i<11→i≠6→6∉dA i→gD b3 b5 bl k f R i V w→gD b3 b5 bl k f R i V w'
 | 0,_,_,_,_,_,_,h=>h
 | 1,_,_,_,_,_,_,h=>h
 | 2,_,_,_,_,_,_,h=>h
 | 3,_,_,_,_,_,_,h=>h
 | 4,_,_,_,_,_,_,h=>h
 | 5,_,_,_,_,_,_,h=>h
 | 6,_,_,_,_,h,_,_=>absurd rfl h
 | 7,_,_,_,_,_,_,h=>h
 | 8,_,_,_,_,_,_,h=>h
 | 9,_,_,_,_,_,_,h=>h
 | 10,_,_,_,_,_,_,h=>h
 | i+11,_,_,_,h,_,_,_=>by omega
structure DoZ where
 a:Option Addr
 n:Nat
 c:Nat
 full:List Value
 code:Int
 l:List Int
 s:Ld
 m:Lm
set_option maxRecDepth 20000 in
set_option maxHeartbeats 1000000 in
theorem do_ok {m:Lm} {s:Ld} {T:Nat→Prop} {k:Ak} (hin:AkIn k) (w:World) (I:LdIn w m s T) (H0:Ctx w (De m s) w (LL m s)) :
  Ret Tryz.prog 18 #[ptr m.bl,.agg (Co k).toArray] w (Af6 w m s T k):=by
 obtain ⟨w0,rfl⟩:∃ w0,w0=w:=⟨_,rfl⟩;have hkd:=hin.kd;obtain ⟨S0,hS0⟩:∃ S,S=De m s:=⟨_,rfl⟩;have H:Ctx w0 S0 w0 (LL m s):=by rw [hS0]; exact H0
 refine Az (fn:=Tryz.f18) Tryz.func18 U [.pointer (some ⟨m.bl,0,none⟩),.agg (Co k).toArray] U (by kernel_rfl) ?_;refine Ae (Bx (Co k) (.agg _) U U H ?_);rintro b3 w - H;refine Ba He H ?_;rintro b4 w - H;refine Ab (Aa (Au (Ae (A2 U (Cw Afy U ?_)))));refine Ab (Aa (Ao _ U ?_ ?_))
 ·intro h1;cases h1
 ·intro h1;refine Ap (Aa (Ae (Xn doT U YS Z0 Z5 (by kernel_rfl) ?_)));refine Ba Z5 H ?_;rintro b5 w - H;refine Bm Ajb U U U (by exact (by simp [Bg])) H at0 U ?_;rintro w H;refine Ab (Aa (Au (Ae (Cb (α:=Unit) 2093056 (fun _=>[(20,.bool ((decide (k.kd=0) || decide (16≤k.kd))))]) (fun _ w'=>Ctx w0 S0 w' ((b5,Bl 113 doT)::(b4,Bl 37 [.int .i64 0,.slice none 0 0])::(b3,Bl 40 (Co k))::LL m s)) U ?_ ?_))))
  ·refine Ah G7 U (AH N6 U H at2 U (Ct U U (A7 U (AO 15 U ?_ ?_))))
   ·intro h1;replace h1:=AM h1;refine Ag U (Ag U (Ag U (Ag U (AF U (.bool _) U (Ab ?_)))));exact ⟨rfl,(),rfl,⟨congrArg Value.bool (by rw [Bool.eq_iff_iff]; simp_all; try omega),trivial⟩,H⟩
   ·intro h2;replace h2:=AN h2;refine Ah G7 U (AH N6 U H at2 U (GJ U U un_5 Se ?_));refine C9 U U (AG U (.bool _) U (Ab ?_));exact ⟨rfl,(),rfl,⟨congrArg Value.bool (by rw [Bool.eq_iff_iff]; simp_all; try omega),trivial⟩,H⟩
  rintro - j20 w H;refine Ao _ U ?_ ?_
  ·intro h2;have h2':k.kd=0∨16≤k.kd:=by simpa using h2
   refine Ae (B6 [.int .i64 1,.slice none 0 0] Zy He (by kernel_rfl) ?_);refine Bm ES U U U (by exact (by simp [Bg])) H at1 U ?_;rintro w H;refine Ab (Aa (A5 (Aq (LC U U U KQ ES H at1 U ?_))));have H17:=H;subst hS0;exact VR (P:=[_,_,_]) (m':=m) (s':=s) (T':=T) (p:=⟨1,[]⟩) (full:=[]) I (H17.app_nil) OS.nil (Ach h2') (I.grow H17.ext (fun x hx => .inl (I.own x hx)) (Grows.refl _ _) fun x hx=>Nat.lt_of_lt_of_le (I.low x hx) H17.size) (Grows.refl _ _) U
  ·intro h2;have h2':¬ (k.kd=0∨16≤k.kd):=by simpa using h2
   obtain ⟨f,hf1,hf2,hf3⟩:=Akg hin (fun h=>h2' (.inl h))
   have hown:∀ x,x∈[b5,b4,b3]→T x∨w0.heap.size≤x:=fun x hx=>by
    simp only [List.mem_cons,List.not_mem_nil,or_false] at hx
    rcases hx with rfl | rfl | rfl
    ·exact (H.own (_,_) (List.mem_of_getElem? at0)).imp_left fun h=>I.own _ (hS0 ▸ h)
    ·exact (H.own (_,_) (List.mem_of_getElem? at1)).imp_left fun h=>I.own _ (hS0 ▸ h)
    ·exact (H.own (_,_) (List.mem_of_getElem? at2)).imp_left fun h=>I.own _ (hS0 ▸ h)
   have hlt:∀ x,x∈[b5,b4,b3]→x<w.heap.size:=fun x hx=>by
    simp only [List.mem_cons,List.not_mem_nil,or_false] at hx
    rcases hx with rfl | rfl | rfl
    ·exact Bb (H.get at0)
    ·exact Bb (H.get at1)
    ·exact Bb (H.get at2)
   have g1:Grows T (fun x=>T x∨x∈[b5,b4,b3]) w0:=⟨fun x hx => .inl hx,fun x hx=>hx.elim .inl (hown x)⟩;have I1:LdIn w m s (fun x=>T x∨x∈[b5,b4,b3]):=I.grow H.ext (fun x hx => .inl (I.own x (hS0 ▸ hx))) g1 fun x hx=>hx.elim (fun h=>Nat.lt_of_lt_of_le (I.low x h) H.size) (hlt x);refine Ap (Aa (DR 4290773184 (α:=DoZ) (fun z=>[(6,.slice z.a z.n z.c),(7,.int .i64 z.code)]) (fun z w'=>OS z.a z.n z.c 1 z.full (z.l.map Dm)∧Cq s k z.s (rp z.l z.code)∧Ctx w0 S0 w' ((b5,Bl 113 doT)::(b4,Bl 37 [.int .i64 0,.slice none 0 0])::(b3,Bl 40 (Co k))::(LL z.m z.s++ent z.a 2 z.full))∧LdIn w' z.m z.s (fun x=>(T x∨x∈[b5,b4,b3])∨x∈De z.m z.s)∧z.m.bl=m.bl) U ?_ ?_))
   ·skip
    have H9:=H.drew;have I2:=I1.grow (Ext.drew [] _) (fun x hx=>by cases hx) (Grows.refl _ _) I1.low;refine Adb (n:=11) (N:=12) (anc:=dA) 6 (fun i=>dL.getD i 0) (gD b3 b5 m.bl k f (fun x y w'=>∃ z:DoZ,x = .slice z.a z.n z.c∧y = .int .i64 z.code∧OS z.a z.n z.c 1 z.full (z.l.map Dm)∧Cq s k z.s (rp z.l z.code)∧Ctx w0 S0 w' ((b5,Bl 113 doT)::(b4,Bl 37 [.int .i64 0,.slice none 0 0])::(b3,Bl 40 (Co k))::(LL z.m z.s++ent z.a 2 z.full))∧LdIn w' z.m z.s (fun x=>(T x∨x∈[b5,b4,b3])∨x∈De z.m z.s)∧z.m.bl=m.bl)) (show Tryz.prog.follows .mixedOrders=true by kernel_rfl) U (by decide) (by kernel_rfl) (Xt _) (by decide) Akh Aki gD_w ?_ ?_ ?_
    ·intro i o e' w' V hi hic ho hold hg hG hw;have h3:e'.g 3 = .pointer (some ⟨b3,0,none⟩):=(hold 3 ((by decide:∀ j,j<11→3≠dL.getD j 0))).trans rfl;have h5:e'.g 5 = .pointer (some ⟨b5,0,none⟩):=(hold 5 ((by decide:∀ j,j<11→5≠dL.getD j 0))).trans rfl;have h0:e'.g 0 = .pointer (some ⟨m.bl,0,none⟩):=(hold 0 ((by decide:∀ j,j<11→0≠dL.getD j 0))).trans rfl;have hcs:i=0∨i=1∨i=2∨i=3∨i=4∨i=5∨i=7∨i=8∨i=9∨i=10:=by omega
     rcases hcs with rfl | rfl | rfl | rfl | rfl | rfl | rfl | rfl | rfl | rfl
     ·cases Option.some.inj ho;exact Ah (off:=0) (by kernel_rfl) h3 (Ab ⟨_,rfl,rfl,DY ..⟩)
     ·cases Option.some.inj ho;have hww:=hw (by decide);subst hww;exact AV N6 ((hg 0 (by decide)).trans (hG 0 (by decide))) (v := .int .u8 k.kd) (by rw [Aj (H9.get at2)]; rfl) (Ab ⟨_,rfl,rfl,DY ..⟩)
     ·cases Option.some.inj ho;exact Ni U YS Z0 h5 ((hg 1 (by decide)).trans (hG 1 (by decide))) (Ab ⟨_,rfl,rfl,DY ..⟩)
     ·cases Option.some.inj ho;have hww:=hw (by decide);subst hww;exact AV Agf ((hg 2 (by decide)).trans (hG 2 (by decide))) (v:=fnV f) (by rw [Aj (H9.get at0),Nat.zero_add,Nat.mul_one]; exact hf1) (Ab ⟨_,rfl,rfl,DY ..⟩)
     ·cases Option.some.inj ho;exact Dq U _ h0 (Ab ⟨_,rfl,rfl,DY ..⟩)
     ·cases Option.some.inj ho;have hww:=hw (by decide);subst hww;exact BW (Co k) Wj Hd h3 U (Cm (b:=b3) (t:=40) (l:=Co k) (H9.get at2) 0 (Co k) U) (Ab ⟨_,rfl,rfl,DY ..⟩)
     ·cases Option.some.inj ho;exact Dq U (V 6) (hg 6 (by decide)) (Ab ⟨_,rfl,rfl,(DY ..).trans (D7 (by decide)).symm⟩)
     ·cases Option.some.inj ho;obtain ⟨x,y,h6,-⟩:=hG 6 (by decide);have h7:V 7 = .tuple #[x,y]:=(hG 7 (by decide)).trans h6;exact AS (v:=x) ((hg 7 (by decide)).trans h7) U (Ab ⟨_,rfl,rfl,x,y,(D7 (by decide)).trans h7,DY ..⟩)
     ·cases Option.some.inj ho;obtain ⟨x,y,h6,-⟩:=hG 6 (by decide);have h7:V 7 = .tuple #[x,y]:=(hG 7 (by decide)).trans h6;exact AS (v:=y) ((hg 7 (by decide)).trans h7) U (Ab ⟨_,rfl,rfl,x,y,(D7 (by decide)).trans h7,DY ..⟩)
     ·cases Option.some.inj ho;exact CY U (V 8) (hg 8 (by decide)) (Ab ⟨_,rfl,rfl,(DY ..).trans (D7 (by decide)).symm⟩)
    ·intro o e' V ho hold hg hG;cases Option.some.inj ho;refine Gd ((hg 3 (by decide)).trans (hG 3 (by decide))) hf2 (hf3 _ I2 (Ctx.lend (Ctx.comm (L:=[_,_,_]) (L':=LL m s) H9))) (show [e'.g 27,e'.g 28]=_ by rw [show e'.g 27=_ from (hg 4 (by decide)).trans (hG 4 (by decide)),show e'.g 28=_ from (hg 5 (by decide)).trans (hG 5 (by decide))]) ?_;rintro v w2 ⟨ar,nr,cr,fr,code,lr,s',m',rfl,Or,hst,H7,hnew,I7,hbl⟩;exact Ab ⟨_,rfl,_,_,DY ..,⟨ar,nr,cr,fr,code,lr,s',m'⟩,rfl,rfl,Or,hst,(Ctx.back (L1:=LL m s) (Ctx.comm (L:=[_,_,_]) (L':=LL m s) H9) H7).comm,I7,hbl⟩
    ·intro e' w' V hds hold hg hG;obtain ⟨x,y,h6,z,rfl,rfl,hJ⟩:=hG 6 (by decide);obtain ⟨x1,y1,h71,h8⟩:=hG 8 (by decide);obtain ⟨x2,y2,h72,h9⟩:=hG 9 (by decide);have h7:V 7=V 6:=hG 7 (by decide);have h10:V 10=V 8:=hG 10 (by decide);rw [h7,h6] at h71 h72;cases h71;cases h72;refine CY U (.int .i64 z.code) ((hg 9 (by decide)).trans h9) (Ab ?_);exact ⟨z,hds,⟨(Jn (by decide)).trans ((hg 10 (by decide)).trans (h10.trans h8)),JP ..,trivial⟩,hJ⟩
   ·rintro ⟨ar,nr,cr,fr,code,lr,s',m'⟩ j8 w ⟨Or,hst,H8,I7,hbl⟩; dsimp only at Or hst H8 I7 hbl; obtain ⟨w2,rfl⟩:∃ z,z=w:=⟨_,rfl⟩; clear H; have H:=Ctx.start1 (H8.get at1);have hS8:=H8.size
    have g2:Grows T (fun x=>(T x∨x∈[b5,b4,b3])∨x∈De m' s') w0:=⟨fun x hx => .inl (.inl hx),fun x hx=>hx.elim (fun h=>h.elim .inl (hown x)) fun h=>by
     obtain ⟨y,hy,rfl⟩:=List.mem_map.1 h
     exact (H8.own y (List.mem_append_right [_,_,_] (List.mem_append_left _ hy))).imp_left fun h=>I.own _ (hS0 ▸ h)⟩
    have h4:∀ x∈[b4],((T x∨x∈[b5,b4,b3])∨x∈De m' s')∨w2.heap.size≤x:=fun x hx=>by rw [List.mem_singleton.1 hx]; exact .inl (.inl (.inr (by simp)))
    refine Au (Ae (Ad U (C0 U U (Ab (Aa (Ao _ U ?_ ?_))))))
    ·intro h3;replace h3:=C7 h3;refine Ae (Ad U (B6 [.int .i64 code,.slice none 0 0] Zy He (by kernel_rfl) ?_));refine Bm ES U U U (by exact (by simp [Bg])) H at0 U ?_;rintro w H;refine Ab (Aa (A5 (Aq (LC U U U KQ ES H at0 U ?_))));have H17:=H;subst hS0;have hp:rp lr code=⟨code,[]⟩:=Rb h3;rw [hp] at hst;exact VR (P:=[_,_,_]) (m':=m') (s':=s') (p:=⟨code,[]⟩) (full:=[]) I (Ctx.app_nil (Ctx.left (L:=(_::_::_::LL m' s')) (Ctx.mid (B:=[_]) (L:=[_]) H8 H17))) OS.nil hst (I7.grow H17.ext h4 (Grows.refl _ _) fun x hx=>Nat.lt_of_lt_of_le (I7.low x hx) H17.size) g2 hbl
    ·intro h3;replace h3:=C8 h3;obtain rfl:code=0:=h3;refine Ap (Aa (Ae (Ay U (B6 [.int .i64 0,.slice ar nr cr] Zy He (by kernel_rfl) ?_))));refine Bm ES U U U (by exact (by simp [Bg])) H at0 U ?_;rintro w H;refine Ab (Aa (A5 (LC U U U KQ ES H at0 U ?_)));have H17:=H;subst hS0;exact VR (P:=[_,_,_]) (m':=m') (s':=s') (p:=⟨0,lr⟩) I (Ctx.mid (B:=[_]) (L:=[_]) H8 H17) Or hst (I7.grow H17.ext h4 (Grows.refl _ _) fun x hx=>Nat.lt_of_lt_of_le (I7.low x hx) H17.size) g2 hbl
end Go.Proofs.YtdagmpmdcgedcaaGreat
namespace Go.Proofs.YtdagmpmdcgedcaaGreat
open Go.GV
attribute [local irreducible] AD W Wq Wt
set_option maxRecDepth 20000 in
set_option maxHeartbeats 2000000 in
theorem Aci {s:Ld} {z y:StZ} (w:World) (Z:StAt w s z) (Y:StAt w s y) (hB:∀ r∈s.rn,RBnd r)  (hl1:s.acs.length≤1000000:=by omega) (hl2:s.ds.length≤1000000:=by omega) (hl3:s.rn.length≤1000000:=by omega):
  Ret Tryz.prog 19 #[.agg (stC s z).toArray,.agg (stC s y).toArray] w fun v w'=>v = .bool true∧Ext [] w w':=by
 obtain ⟨w0,rfl⟩:∃ w0,w0=w:=⟨_,rfl⟩;have H:=Ctx.start w0 [];refine Az (fn:=Tryz.f19) Tryz.func19 U [.agg (stC s z).toArray,.agg (stC s y).toArray] U (by kernel_rfl) ?_;refine Ae (Bx (stC s z) (.agg _) U U H ?_);rintro b2 w - H;refine Bx (stC s y) (.agg _) U U H ?_;rintro b3 w - H;refine Ai U (Ab (Aa (Ae (Cb (α:=Unit) 35184372088816 (fun _=>[(4,.bool (true))]) (fun _ w'=>Ctx w0 [] w' [(b3,Bl 32 (stC s y)),(b2,Bl 32 (stC s z))]) U ?_ ?_))))
 ·refine Ah Kz U (AH Bs U H at1 U (Ah Kz U (AH Bs U H at0 U (Ct U U (A7 U (AO 10 U ?_ ?_))))))
  ·intro h1;replace h1:=AM h1;refine Ah Wn U (AH B1 U H at1 U (Ah Wn U (AH B1 U H at0 U (Ct U U (AF U (.bool _) U (A7 U (AO 17 U ?_ ?_)))))))
   ·intro h2;replace h2:=AM h2;refine Ah NJ U (AH B1 U H at1 U (Ah NJ U (AH B1 U H at0 U (Ct U U (AF U (.bool _) U (A7 U (AO 24 U ?_ ?_)))))))
    ·intro h3;replace h3:=AM h3;refine Ah FJ U (AH Ff U H at1 U (Ah FJ U (AH Ff U H at0 U (Al ca_68 (XR z.aA y.aA _ z.cA _ y.cA s.acs s.acs _ (Z.A.ext0 H.ext) U hl1 (Y.A.ext0 H.ext) U hl1) U ?_))));rintro v w ⟨rfl,hx29⟩;replace H:=H.call hx29;rw [decide_eq_true rfl];refine AF U (.bool _) U (A7 U (AO 31 U ?_ ?_))
     ·intro h4;refine Ah Hl U (AH LJ U H at1 U (Ah Hl U (AH LJ U H at0 U (Al ca_69 (XS z.aD y.aD _ z.cD _ y.cD s.ds s.ds _ (Z.D.ext0 H.ext) U hl2 (Y.D.ext0 H.ext) U hl2) U ?_))));rintro v w ⟨rfl,hx36⟩;replace H:=H.call hx36;rw [decide_eq_true rfl];refine AF U (.bool _) U (A7 U (AO 38 U ?_ ?_))
      ·intro h5;refine Ah NI U (AH Afl U H at1 U (Ah NI U (AH Afl U H at0 U (Al ca_70 (Yv z.aR y.aR _ z.cR _ y.cR s.rn z.qs y.qs _ (Z.R.ext0 H.ext) U hl3 (Y.R.ext0 H.ext) U Z.n Y.n (fun x hx=>(Z.K x hx).ext0 H.ext) (fun x hx=>(Y.K x hx).ext0 H.ext) hB) U ?_))));rintro v w ⟨rfl,hx43⟩;replace H:=H.call hx43;refine AF U (.bool _) U (Ai U (Ab ?_));exact ⟨rfl,(),rfl,⟨congrArg Value.bool (by rfl),trivial⟩,H⟩
      ·intro h6;refine Ag U (Ag U (Ag U (Ag U (Ag U (AG U (.bool _) U (Ai U (Ab ?_)))))));exact ⟨rfl,(),rfl,⟨congrArg Value.bool (by (simp_all; done)),trivial⟩,H⟩
     ·intro h7;refine Ag U (Ag U (Ag U (Ag U (Ag U (AG U (.bool _) U (A7 U (Ag U (Ag U (Ag U ?_)))))))));refine Ag U (Ag U (AG U (.bool _) U (Ai U (Ab ?_))));exact ⟨rfl,(),rfl,⟨congrArg Value.bool (by (simp_all; done)),trivial⟩,H⟩
    ·intro h8;replace h8:=AN h8;refine Ag U (Ag U (Ag U (Ag U (Ag U (AG U (.bool _) U (A7 U (Ag U (Ag U (Ag U ?_)))))))));refine Ag U (Ag U (AG U (.bool _) U (A7 U (Ag U (Ag U (Ag U (Ag U (Ag U (AG U (.bool _) U ?_)))))))));refine Ai U (Ab ?_);exact ⟨rfl,(),rfl,⟨congrArg Value.bool (by (simp_all; done)),trivial⟩,H⟩
   ·intro h9;replace h9:=AN h9;refine Ag U (Ag U (Ag U (Ag U (Ag U (AG U (.bool _) U (A7 U (Ag U (Ag U (Ag U ?_)))))))));refine Ag U (Ag U (AG U (.bool _) U (A7 U (Ag U (Ag U (Ag U (Ag U (Ag U (AG U (.bool _) U ?_)))))))));refine A7 U (Ag U (Ag U (Ag U (Ag U (Ag U (AG U (.bool _) U (Ai U (Ab ?_))))))));exact ⟨rfl,(),rfl,⟨congrArg Value.bool (by (simp_all; done)),trivial⟩,H⟩
  ·intro h10;replace h10:=AN h10;refine Ag U (Ag U (Ag U (Ag U (Ag U (AG U (.bool _) U (A7 U (Ag U (Ag U (Ag U ?_)))))))));refine Ag U (Ag U (AG U (.bool _) U (A7 U (Ag U (Ag U (Ag U (Ag U (Ag U (AG U (.bool _) U ?_)))))))));refine A7 U (Ag U (Ag U (Ag U (Ag U (Ag U (AG U (.bool _) U (A7 U (Ag U (Ag U ?_)))))))));refine Ag U (Ag U (Ag U (AG U (.bool _) U (Ai U (Ab ?_)))));exact ⟨rfl,(),rfl,⟨congrArg Value.bool (by (simp_all; done)),trivial⟩,H⟩
 rintro - j4 w H;refine A5 (A9 (v:=(.bool _)) U U U ?_);exact ⟨rfl,H.ext⟩
set_option maxRecDepth 20000 in
set_option maxHeartbeats 2000000 in
theorem J8 (a b:Option Addr) (n m c d:Nat) (l:List Int) (w:World) (R:Rd w a 1 I1 l) (hn:l.length=n) (hn2:n≤1000000) (Ry:Rd w b 1 I1 l) (hm:l.length=m) :
  Ret Tryz.prog 27 #[.agg #[.int .i64 0,.slice a n c],.slice b m d] w fun v w'=>v = .bool true∧Ext [] w w':=by
 subst hn hm;obtain ⟨w0,rfl⟩:∃ w0,w0=w:=⟨_,rfl⟩;have H:=Ctx.start w0 [];refine Az (fn:=Tryz.f27) Tryz.func27 U [.agg #[.int .i64 0,.slice a l.length c],.slice b l.length d] U (by kernel_rfl) ?_;refine Ae (Bx [.int .i64 0,.slice a l.length c] (.agg _) U U H ?_);rintro b2 w - H;refine Ai U (Ab (Aa (Au (Ae (Cb (α:=Unit) 131008 (fun _=>[(16,.bool (false))]) (fun _ w'=>Ctx w0 [] w' [(b2,Bl 37 [.int .i64 0,.slice a l.length c])]) U ?_ ?_)))))
 ·refine Ah Hm U (AH KP U H at0 U (C0 U U (A7 U (AO 9 U ?_ ?_))))
  ·intro h1;replace h1:=C7 h1;refine Ag U (Ag U (Ag U (Ag U (Ag U (Ag U (AF U (.bool _) U (Ab ?_)))))));exact ⟨rfl,(),rfl,⟨congrArg Value.bool (by (simp_all; done)),trivial⟩,H⟩
  ·intro h2;replace h2:=C8 h2;refine Ah Gg U (AH BM U H at0 U (Be AU U (Ay U (Be AU U (C0 U U (AG U (.bool _) U (Ab ?_)))))));exact ⟨rfl,(),rfl,⟨congrArg Value.bool (by (simp_all; done)),trivial⟩,H⟩
 rintro - j16 w H;refine EH U (Ap (Aa (Au (Ae (Af U (Ab (Aa (A0 (Bv 8589803568 (α:=Nat) (fun i=>[(5,.int .i64 (i:Int))]) (fun i w'=>i≤l.length∧Ctx w0 [] w' [(b2,Bl 37 [.int .i64 0,.slice a l.length c])]) (fun i=>l.length - i) 0 U ?_ ?_ ?_)))))))))
 ·exact ⟨rfl,trivial⟩
 ·exact ⟨Nat.zero_le _,H⟩
 ·clear H;rintro i j w ⟨hi,H⟩;refine Au (Ae (Ad U (Ay U (Be AU U (Bj U U (Ab (Aa (Ao _ U ?_ ?_))))))))
  ·intro h2;replace h2:=AM h2;obtain ⟨x,hx⟩:=A8 (l:=l) (i:=i);refine Ap (Aa (Au (A0 (Dw (fun x=>x=_) Bq (by kernel_rfl) U ?_))));refine A3 Gg U (Cc BM U (by rintro _ rfl; exact H.drew) at0 U ?_);refine AY U (BE R AU Bz U U (by rfl) ?_);refine BR Bs U (by rintro _ rfl; exact (((R.ext0 H.drew.ext).one (f:=Dm) hx))) ?_;refine Ch U (AY U (BE Ry AU Bz U U (by rfl) ?_));refine BR Bs U (by rintro _ rfl; exact (((Ry.ext0 H.drew.ext).one (f:=Dm) hx))) ?_;refine IF U U (BQ ?_);rintro _ rfl;replace H:=H.drew;refine Ao _ U ?_ ?_
   ·intro h3;replace h3:=C7 h3;omega
   ·intro h3;replace h3:=C8 h3;refine Ap (A6 (Aa (Ax (Ad U (Aw U U ?_)))));refine Af U (Ab (Aa ?_));exact ⟨i+1,rfl,⟨rfl,trivial⟩,⟨by omega,H⟩,by omega⟩
  ·intro h2;replace h2:=AN h2;refine Br (An (An (AK (Aa (Ae (Ai U (Ab (Aa (A5 (A9 (v:=(.bool _)) U U U ?_))))))))));exact ⟨rfl,H.ext⟩
end Go.Proofs.YtdagmpmdcgedcaaGreat
namespace Go.Proofs.YtdagmpmdcgedcaaGreat
open Go.GV
attribute [local irreducible] AD W Wq Wt
theorem FI {s s':Ld} {k:Ak} {p:Rp} (h:Cq s k s' p) (hk:¬ (k.kd=10∨k.kd=11)):s'=Es s k∧p=EC s k:=by
 unfold Cq at h;rw [if_neg hk] at h;exact h
theorem Ctx.did {w0 w w':World} {S:List Nat} {B E:List (Nat × Obj)} {m m':Lm} {s s':Ld} (H:Ctx w0 S w (B++LL m s)) (H7:Ctx w (De m s) w' (LL m' s'++E)):Ctx w0 S w' ((E++B)++LL m' s'):=by
 have h1:=Ctx.back (L1:=LL m s) (L2:=B) H.comm H7;rw [List.append_assoc] at h1;exact h1.comm
structure Led (bl:Nat) (w0 w:World) (B:List (Nat × Obj)) (m:Lm) (s:Ld) (T:Nat→Prop):Prop where
 H:Ctx w0 [] w (B++LL m s)
 I:LdIn w m s T
 e:m.bl=bl
theorem Led.next {bl:Nat} {w0 w w':World} {B E:List (Nat × Obj)} {m:Lm} {s:Ld} {T:Nat→Prop} (L:Led bl w0 w B m s T) (H:Ctx w [] w' E):Led bl w0 w' (E++B) m s T :=
 ⟨by rw [List.append_assoc]; exact Ctx.back (L1:=[]) (L2:=B++LL m s) L.H H,L.I.grow H.ext (by simp) (Grows.refl _ _) fun x hx=>Nat.lt_of_lt_of_le (L.I.low x hx) H.size,L.e⟩
theorem Fv {bl:Nat} {w0 w:World} {B:List (Nat × Obj)} {m:Lm} {s:Ld} {T:Nat→Prop} {k:Ak} (L:Led bl w0 w B m s T) (hin:AkIn k) :
  Ret Tryz.prog 18 #[ptr bl,.agg (Co k).toArray] w fun v w'=>∃ a n c full p s' m' T',v = .agg #[.int .i64 p.e,.slice a n c]∧OS a n c 1 full (p.n.map Dm)∧Cq s k s' p∧Led bl w0 w' (ent a 2 full++B) m' s' T'∧Grows T T' w∧Ext (De m s) w w':=by
 obtain ⟨H,I,e⟩:=L;subst e;refine Ret.mono (do_ok hin w I (Ctx.lend (L1:=LL m s) H.comm)) fun v w' h=>?_;obtain ⟨a,n,c,full,p,s',m',T',rfl,O,hst,H7,I7,g,hb⟩:=h;exact ⟨a,n,c,full,p,s',m',T',rfl,O,hst,⟨Ctx.did H H7,I7,hb⟩,g,H7.ext⟩
abbrev ak (kd a b x w u id:Int):Ak:=⟨kd,a,b,x,w,u,id⟩
theorem JD {kd a b x w u id:Int} (h:(0≤kd∧kd≤255)∧(-9223372036854775808≤a∧a≤9223372036854775807)∧(-9223372036854775808≤b∧b≤9223372036854775807)∧(-9223372036854775808≤x∧x≤9223372036854775807)∧(-9223372036854775808≤w∧w≤9223372036854775807)∧(-9223372036854775808≤u∧u≤9223372036854775807)∧(0≤id∧id≤18446744073709551615)):AkIn ⟨kd,a,b,x,w,u,id⟩:=⟨h.1,h.2.1,h.2.2.1,h.2.2.2.1,h.2.2.2.2.1,h.2.2.2.2.2.1,h.2.2.2.2.2.2⟩
abbrev yA0:List Ac:=[⟨5,0⟩,⟨0,0⟩]
abbrev yA1:List Ac:=[⟨0,0⟩,⟨5,0⟩]
abbrev yD0:List Du:=[⟨1,0,1,9,2,3,false⟩]
abbrev yD1:List Du:=[⟨1,0,1,4,2,3,false⟩]
abbrev yE0:List Ed:=[⟨0,1,9,-2⟩,⟨2,0,5,0⟩,⟨0,2,4503599627370496,0⟩,⟨2,1,0,0⟩,⟨1,2,4503599627370496,0⟩]
theorem ye0:BD (yA0.map C5) (opn yD0) false=yE0:=by decide
theorem ya0:Eu yA0=0:=by decide
theorem yd0:ofC yD0 2=0:=by decide
theorem yb0:D0 (yA0.map C5) yD0=true:=by decide
theorem Akj {r:Rnd} (P:PlanR yA0 yD0 false r):DK yA0 yD0 r=yA1∧D5 yA0 yD0 r=yD1∧DM (opn yD0) r.fl (opn yD0).length=10∧Gn (r.fl.take (opn yD0).length) (opn yD0).length=1:=by
 have hC:=QS yb0 P;have F:=DL ya0 yd0 hC;obtain ⟨p1,p2,p3,p4⟩:=Yf P;have hes:=P.es.trans ye0;have hN:r.N=3:=P.N;have hcmp:=P.cmp;have hlen:r.fl.length=5:=by rw [F.len,hes]; rfl
 have hg:=Jw p1;rw [hN,hes] at p3 p4 hg;obtain ⟨x,hx⟩:∃ x,x=flE r.fl:=⟨_,rfl⟩;rw [← hx] at p3 p4;have o0:=p3 0 (by decide);have o1:=p3 1 (by decide);have i0:=p4.in' 0 (by decide);have i1:=p4.in' 1 (by decide);have i2:=p4.in' 2 (by decide);have i3:=p4.in' 3 (by decide)
 have hbest:=Fine.best hg p4 p3 (y:=fun i=>[5,5,0,0,5].getD i 0) (fun i hi=>by
  have hi':i<5:=hi
  match i,hi' with
  | 0,_=>decide
  | 1,_=>decide
  | 2,_=>decide
  | 3,_=>decide
  | 4,_=>decide) (fun v hv=>by
  have hv':v<3:=hv
  match v,hv' with
  | 0,_=>decide
  | 1,_=>decide
  | 2,_=>decide)
 have hc1:GR (grE 3 yE0) (fun i=>[5,5,0,0,5].getD i 0) = -10:=by decide
 have hc2:GR (grE 3 yE0) x = -(2*x 0):=by
  show 0+x 0 * -2+x 1*0+x 2*0+x 3*0+x 4*0=_;omega
 have e0:B9 (grE 3 yE0) x 0 = -(x 0)+x 1 - x 2:=by
  show 0+(0 - 1)*x 0+(1 - 0)*x 1+(0 - 1)*x 2+(0 - 0)*x 3+(0 - 0)*x 4=_;omega
 have c1:Cs yE0 1=5:=rfl
 have h5:x 0=5:=by
  rw [hc1,hc2] at hbest;rw [e0] at o0;rw [c1] at i1;omega
 have hby:∀ k,byK (yA0.map C5) (opn yD0) r.cmp r.fl k=(one (1=k) - one (0=k))*5:=fun k=>by
  have:byK (yA0.map C5) (opn yD0) r.cmp r.fl k=0+(one (1=k) - one (0=k))*x 0:=by rw [hcmp,hx]; rfl
  rw [this,h5,Int.zero_add]
 refine ⟨?_,?_,?_,?_⟩
 ·have hl:=(G2 (r:=r) ya0 yd0).2.2;refine List.ext_getElem? fun i=>?_
  match i with
  | 0=>rw [Hz ya0 yd0 hC (k:=0) rfl,hby]; rfl
  | 1=>rw [Hz ya0 yd0 hC (k:=1) rfl,hby]; rfl
  | i+2=>rw [List.getElem?_eq_none (by rw [hl]; simp),List.getElem?_eq_none (by simp)]
 ·unfold D5;rw [if_pos hC];show DH yD0 (r.fl.take 1)=_;rw [Rl,← hx,h5];rfl
 ·show 0+2*flE r.fl 0=_;rw [← hx,h5];rfl
 ·show Gn (r.fl.take 1) 1=_;rw [Rl,← hx,h5];rfl
theorem Afa {s':Ld} {p:Rp} (h:Cq ⟨0,yA0,yD0,2,[],0⟩ (ak 10 0 0 0 0 0 0) s' p):(∃ K,s'=⟨0,yA1,yD1,2,K,1⟩)∧p=⟨0,[1,10,1]⟩:=by
 unfold Cq at h;rw [if_pos (.inl rfl)] at h
 rcases h with ⟨h1,-⟩ | ⟨-,r,P,rfl,rfl⟩
 ·exact absurd h1 (by decide)
 ·obtain ⟨e1,e2,e3,e4⟩:=Akj P;refine ⟨⟨Jf [] { r with no:=0+1,day:=0 },?_⟩,?_⟩
  ·unfold CR;dsimp only;rw [e1,e2];rfl
  ·dsimp only;rw [e3,e4];rfl
set_option maxRecDepth 20000 in
set_option maxHeartbeats 4000000 in
theorem FR (w:World):Ret Tryz.prog 15 #[] w fun v w'=>v = .bool true∧Ext [] w w':=by
 obtain ⟨w0,rfl⟩:∃ w0,w0=w:=⟨_,rfl⟩;refine Az (fn:=Tryz.f15) Tryz.func15 U [] U (by kernel_rfl) ?_;refine Ae (Ai U (Ab (Aa (Ae (Al Wm (NU _) U ?_)))));rintro v w ⟨m0,rfl,H0,I0⟩;obtain ⟨bl,hb0⟩:∃ b,m0.bl=b:=⟨_,rfl⟩;have L:Led bl w0 w [] m0 s00 (fun x=>x∈De m0 s00):=⟨H0,I0,hb0⟩;rw [hb0];clear H0 I0 hb0;obtain ⟨w1,rfl⟩:∃ z,z=w:=⟨_,rfl⟩;have H:=Ctx.start w1 [];refine Cp U (Ab (Aa (Ae (A2 U (B6 (Co (ak 1 0 0 0 0 0 0)) It Iu (by kernel_rfl) ?_)))))
 replace L:=L.next H
 refine Al GN (Fv (k:=ak 1 0 0 0 0 0 0) L (JD (by decide))) U ?_;clear L H;rintro v w ⟨a1,n1,c1,f1,p1,s1,m1,T1,rfl,O1,hst1,L,-,-⟩;obtain ⟨rfl,rfl⟩:s1=⟨0,[⟨0,0⟩],[],1,[],0⟩∧p1=⟨0,[0]⟩:=FI hst1 (by decide);clear hst1;obtain ⟨w2,rfl⟩:∃ z,z=w:=⟨_,rfl⟩;have H:=Ctx.start w2 [];refine Ab (Aa (Ae (A2 U (B6 (Co (ak 1 0 0 0 0 0 0)) It Iu (by kernel_rfl) ?_))))
 replace L:=L.next H
 refine Al GN (Fv (k:=ak 1 0 0 0 0 0 0) L (JD (by decide))) U ?_;clear L H;rintro v w ⟨a2,n2,c2,f2,p2,s2,m2,T2,rfl,O2,hst2,L,-,-⟩;obtain ⟨rfl,rfl⟩:s2=⟨0,[⟨0,0⟩,⟨0,0⟩],[],1,[],0⟩∧p2=⟨0,[1]⟩:=FI hst2 (by decide);clear hst2;obtain ⟨w3,rfl⟩:∃ z,z=w:=⟨_,rfl⟩;have H:=Ctx.start w3 [];refine Ab (Aa (Ae (A2 U (B6 (Co (ak 2 0 0 5 0 0 0)) It Iu (by kernel_rfl) ?_))))
 replace L:=L.next H
 refine Al GN (Fv (k:=ak 2 0 0 5 0 0 0) L (JD (by decide))) U ?_;clear L H;rintro v w ⟨a3,n3,c3,f3,p3,s3,m3,T3,rfl,O3,hst3,L,-,-⟩;obtain ⟨rfl,rfl⟩:s3=⟨0,yA0,[],1,[],0⟩∧p3=⟨0,[5,0]⟩:=FI hst3 (by decide);clear hst3;obtain ⟨w4,rfl⟩:∃ z,z=w:=⟨_,rfl⟩;have H:=Ctx.start w4 [];refine Ba He H ?_;rintro b2 w - H;refine Bm ES U U U (by exact (by simp [Bg])) H at0 U ?_;rintro w H;refine Ab (Aa (Ae (A2 U (B6 (Co (ak 5 0 1 9 2 3 0)) It Iu (by kernel_rfl) ?_))))
 replace L:=L.next H
 refine Al GN (Fv (k:=ak 5 0 1 9 2 3 0) L (JD (by decide))) U ?_;clear L H;rintro v w ⟨a4,n4,c4,f4,p4,s4,m4,T4,rfl,O4,hst4,L,-,-⟩;obtain ⟨rfl,rfl⟩:s4=⟨0,yA0,yD0,2,[],0⟩∧p4=⟨0,[1]⟩:=FI hst4 (by decide);clear hst4;obtain ⟨w5,rfl⟩:∃ z,z=w:=⟨_,rfl⟩;have H:=Ctx.start w5 [];refine Ba He H ?_;rintro b3 w - H;refine Bm ES U U U (by exact (by simp [Bg])) H at0 U ?_;rintro w H;refine Ab (Aa (Ae (A2 U (B6 (Co (ak 10 0 0 0 0 0 0)) It Iu (by kernel_rfl) ?_))))
 replace L:=L.next H
 refine Al GN (Fv (k:=ak 10 0 0 0 0 0 0) L (JD (by decide))) U ?_;clear L H;rintro v w ⟨a5,n5,c5,f5,p5,s5,m5,T5,rfl,O5,hst5,L,-,-⟩;obtain ⟨⟨K,rfl⟩,rfl⟩:=Afa hst5;clear hst5;obtain ⟨w6,rfl⟩:∃ z,z=w:=⟨_,rfl⟩;have H:=Ctx.start w6 [];refine Ba He H ?_;rintro b4 w - H;refine Bm ES U U U (by exact (by simp [Bg])) H at0 U ?_;rintro w H;refine Ab (Aa (Ae (A2 U (B6 (Co (ak 12 1 0 0 0 0 0)) It Iu (by kernel_rfl) ?_))))
 replace L:=L.next H
 refine Al GN (Fv (k:=ak 12 1 0 0 0 0 0) L (JD (by decide))) U ?_;clear L H;rintro v w ⟨a6,n6,c6,f6,p6,s6,m6,T6,rfl,O6,hst6,L,-,-⟩;obtain ⟨rfl,rfl⟩:s6=⟨0,yA1,yD1,2,K,1⟩∧p6=⟨0,[5,0]⟩:=FI hst6 (by decide);clear hst6;obtain ⟨w7,rfl⟩:∃ z,z=w:=⟨_,rfl⟩;have H:=Ctx.start w7 [];refine Ba He H ?_;rintro b5 w - H;refine Bm ES U U U (by exact (by simp [Bg])) H at0 U ?_;rintro w H;refine Ab (Aa (Ae (A2 U (B6 (Co (ak 13 0 0 0 0 0 0)) It Iu (by kernel_rfl) ?_))))
 replace L:=L.next H
 refine Al GN (Fv (k:=ak 13 0 0 0 0 0 0) L (JD (by decide))) U ?_;clear L H;rintro v w ⟨a7,n7,c7,f7,p7,s7,m7,T7,rfl,O7,hst7,L,-,-⟩;obtain ⟨rfl,rfl⟩:s7=⟨0,yA1,yD1,2,K,1⟩∧p7=⟨0,[-4]⟩:=FI hst7 (by decide);clear hst7;obtain ⟨w8,rfl⟩:∃ z,z=w:=⟨_,rfl⟩;have H:=Ctx.start w8 [];refine Ba He H ?_;rintro b6 w - H;refine Bm ES U U U (by exact (by simp [Bg])) H at0 U ?_;rintro w H;refine Ab (Aa (Ae (A2 U (B6 (Co (ak 9 0 0 0 0 4 0)) It Iu (by kernel_rfl) ?_))))
 replace L:=L.next H
 refine Al GN (Fv (k:=ak 9 0 0 0 0 4 0) L (JD (by decide))) U ?_;clear L H;rintro v w ⟨a8,n8,c8,f8,p8,s8,m8,T8,rfl,O8,hst8,L,-,-⟩;obtain ⟨rfl,rfl⟩:s8=⟨4,yA1,[],2,K,1⟩∧p8=⟨0,[1]⟩:=FI hst8 (by decide);clear hst8;obtain ⟨w9,rfl⟩:∃ z,z=w:=⟨_,rfl⟩;have H:=Ctx.start w9 [];refine Ba He H ?_;rintro b7 w - H;refine Bm ES U U U (by exact (by simp [Bg])) H at0 U ?_;rintro w H;refine Ab (Aa (Ae (A2 U (B6 (Co (ak 9 0 0 0 0 3 0)) It Iu (by kernel_rfl) ?_))))
 replace L:=L.next H
 refine Al GN (Fv (k:=ak 9 0 0 0 0 3 0) L (JD (by decide))) U ?_;clear L H;rintro v w ⟨a9,n9,c9,f9,p9,s9,m9,T9,rfl,O9,hst9,L,-,-⟩;obtain ⟨rfl,rfl⟩:s9=⟨4,yA1,[],2,K,1⟩∧p9=⟨3,[]⟩:=FI hst9 (by decide);clear hst9;obtain ⟨w10,rfl⟩:∃ z,z=w:=⟨_,rfl⟩;have H:=Ctx.start w10 [];refine Ba He H ?_;rintro b8 w - H;refine Bm ES U U U (by exact (by simp [Bg])) H at0 U ?_;rintro w H;refine Ab (Aa ?_)
 have L:=L.next H
 obtain ⟨wz,rfl⟩:∃ z,z=w:=⟨_,rfl⟩;have hz:=L.H.ext;have R3:Rd wz a3 1 I1 [5,0]:=O3.rd1 (t:=2) fun x hx=>L.H.blk x (List.mem_append_left _ (by simp [hx]));have h3:=L.H.blk (b2,Bl 37 [.int .i64 0,.slice a3 n3 c3]) (List.mem_append_left _ (by simp));have R4:Rd wz a4 1 I1 [1]:=O4.rd1 (t:=2) fun x hx=>L.H.blk x (List.mem_append_left _ (by simp [hx]));have h4:=L.H.blk (b3,Bl 37 [.int .i64 0,.slice a4 n4 c4]) (List.mem_append_left _ (by simp));have R5:Rd wz a5 1 I1 [1,10,1]:=O5.rd1 (t:=2) fun x hx=>L.H.blk x (List.mem_append_left _ (by simp [hx]));have h5:=L.H.blk (b4,Bl 37 [.int .i64 0,.slice a5 n5 c5]) (List.mem_append_left _ (by simp));have R6:Rd wz a6 1 I1 [5,0]:=O6.rd1 (t:=2) fun x hx=>L.H.blk x (List.mem_append_left _ (by simp [hx]));have h6:=L.H.blk (b5,Bl 37 [.int .i64 0,.slice a6 n6 c6]) (List.mem_append_left _ (by simp))
 have R7:Rd wz a7 1 I1 [-4]:=O7.rd1 (t:=2) fun x hx=>L.H.blk x (List.mem_append_left _ (by simp [hx]));have h7:=L.H.blk (b6,Bl 37 [.int .i64 0,.slice a7 n7 c7]) (List.mem_append_left _ (by simp));have R8:Rd wz a8 1 I1 [1]:=O8.rd1 (t:=2) fun x hx=>L.H.blk x (List.mem_append_left _ (by simp [hx]));have h8:=L.H.blk (b7,Bl 37 [.int .i64 0,.slice a8 n8 c8]) (List.mem_append_left _ (by simp));have h9:=L.H.blk (b8,Bl 37 [.int .i64 3,.slice a9 n9 c9]) (List.mem_append_left _ (by simp));clear L H;have H:=Ctx.start wz [];refine Ae (BW _ KQ ES U U ((Cm (b:=b2) (t:=37) (l:=[.int .i64 0,.slice a3 n3 c3]) (H.ext.to h3 (by simp)) 0 [.int .i64 0,.slice a3 n3 c3] U)) ?_);refine DE ([5,0].map Dm) AU Bz Ei (by decide) (by decide) (by kernel_rfl) H ?_;rintro y3 w - H
 refine Al OM (J8 a3 (some ⟨y3,0,none⟩) n3 _ c3 _ [5,0] _ (R3.ext0 H.ext) O3.num.symm (by have:=O3.num; simp at this; omega) (Rd.of_bl (xs:=([5,0]:List Int)) (enc:=I1) (r:=[]) (H.get at0) U (by decide)) U) U ?_;rintro v w ⟨rfl,hx39⟩;replace H:=H.call hx39;refine A7 U (BW _ KQ ES U U ((Cm (b:=b3) (t:=37) (l:=[.int .i64 0,.slice a4 n4 c4]) (H.ext.to h4 (by simp)) 0 [.int .i64 0,.slice a4 n4 c4] U)) ?_);refine Cj ([1].map Dm) (.int .i64 1) AU Bz Ei U (by decide) (by decide) U U U H ?_;rintro y4 w - H;refine Al OM (J8 a4 (some ⟨y4,0,none⟩) n4 _ c4 _ [1] _ (R4.ext0 H.ext) O4.num.symm (by have:=O4.num; simp at this; omega) (Rd.of_bl (xs:=([1]:List Int)) (enc:=I1) (r:=[]) (H.get at0) U (by decide)) U) U ?_;rintro v w ⟨rfl,hx43⟩;replace H:=H.call hx43
 refine AF U (.bool _) U (A7 U (BW _ KQ ES U U ((Cm (b:=b4) (t:=37) (l:=[.int .i64 0,.slice a5 n5 c5]) (H.ext.to h5 (by simp)) 0 [.int .i64 0,.slice a5 n5 c5] U)) ?_));refine DE ([1,10,1].map Dm) AU Bz Ei (by decide) (by decide) (by kernel_rfl) H ?_;rintro y5 w - H;refine Al OM (J8 a5 (some ⟨y5,0,none⟩) n5 _ c5 _ [1,10,1] _ (R5.ext0 H.ext) O5.num.symm (by have:=O5.num; simp at this; omega) (Rd.of_bl (xs:=([1,10,1]:List Int)) (enc:=I1) (r:=[]) (H.get at0) U (by decide)) U) U ?_;rintro v w ⟨rfl,hx48⟩;replace H:=H.call hx48;refine AF U (.bool _) U (A7 U (BW _ KQ ES U U ((Cm (b:=b5) (t:=37) (l:=[.int .i64 0,.slice a6 n6 c6]) (H.ext.to h6 (by simp)) 0 [.int .i64 0,.slice a6 n6 c6] U)) ?_));refine DE ([5,0].map Dm) AU Bz Ei (by decide) (by decide) (by kernel_rfl) H ?_;rintro y6 w - H
 refine Al OM (J8 a6 (some ⟨y6,0,none⟩) n6 _ c6 _ [5,0] _ (R6.ext0 H.ext) O6.num.symm (by have:=O6.num; simp at this; omega) (Rd.of_bl (xs:=([5,0]:List Int)) (enc:=I1) (r:=[]) (H.get at0) U (by decide)) U) U ?_;rintro v w ⟨rfl,hx53⟩;replace H:=H.call hx53;refine AF U (.bool _) U (A7 U (BW _ KQ ES U U ((Cm (b:=b6) (t:=37) (l:=[.int .i64 0,.slice a7 n7 c7]) (H.ext.to h7 (by simp)) 0 [.int .i64 0,.slice a7 n7 c7] U)) ?_));refine Cj ([-4].map Dm) (.int .i64 (-4)) AU Bz Ei U (by decide) (by decide) U U U H ?_;rintro y7 w - H;refine Al OM (J8 a7 (some ⟨y7,0,none⟩) n7 _ c7 _ [-4] _ (R7.ext0 H.ext) O7.num.symm (by have:=O7.num; simp at this; omega) (Rd.of_bl (xs:=([-4]:List Int)) (enc:=I1) (r:=[]) (H.get at0) U (by decide)) U) U ?_;rintro v w ⟨rfl,hx58⟩;replace H:=H.call hx58
 refine AF U (.bool _) U (A7 U (BW _ KQ ES U U ((Cm (b:=b7) (t:=37) (l:=[.int .i64 0,.slice a8 n8 c8]) (H.ext.to h8 (by simp)) 0 [.int .i64 0,.slice a8 n8 c8] U)) ?_));refine Cj ([1].map Dm) (.int .i64 1) AU Bz Ei U (by decide) (by decide) U U U H ?_;rintro y8 w - H;refine Al OM (J8 a8 (some ⟨y8,0,none⟩) n8 _ c8 _ [1] _ (R8.ext0 H.ext) O8.num.symm (by have:=O8.num; simp at this; omega) (Rd.of_bl (xs:=([1]:List Int)) (enc:=I1) (r:=[]) (H.get at0) U (by decide)) U) U ?_;rintro v w ⟨rfl,hx63⟩;replace H:=H.call hx63;refine AF U (.bool _) U (A7 U (Ah Hm U (AV KP U ((H.old (Aj h9 _) (by simp))) ?_)));refine Ct U U (AF U (.bool _) U (Ai U (Ab (Aa (A5 (A9 (v:=(.bool _)) U U U ?_))))));exact ⟨rfl,hz.trans H.ext⟩
end Go.Proofs.YtdagmpmdcgedcaaGreat
namespace Go.Proofs.YtdagmpmdcgedcaaGreat
open Go.GV
attribute [local irreducible] AD W Wq Wt
def snil:Ld:=⟨0,[],[],0,[],0⟩
abbrev znil:StZ:=⟨none,0,none,0,none,0,[]⟩
end Go.Proofs.YtdagmpmdcgedcaaGreat
namespace Go.Proofs.YtdagmpmdcgedcaaGreat
open Go.GV
attribute [local irreducible] AD W Wq Wt
theorem Akk (s:Ld) (a:Ak):(Es s a).no=s.no:=by
 unfold Es
 repeat (first | rfl | split)
theorem WY {s s':Ld} {k:Ak} {p:Rp} (h:Cq s k s' p):s'.no≤s.no+1:=by
 unfold Cq at h
 split at h
 ·rcases h with ⟨-,rfl,-⟩ | ⟨-,r,-,rfl,-⟩
  ·omega
  ·exact Int.le_refl _
 ·rw [h.1,Akk];omega
theorem Afb {s s':Ld} {k:Ak} {p:Rp} (h:Cq s k s' p) (hk:k.kd=2):p.e=Fu s.acs k.a k.x:=by
 rw [(FI h (by omega)).2];unfold EC;rw [if_neg (by omega),if_pos hk,rp_e]
theorem Afc {s s':Ld} {k:Ak} {p:Rp} (h:Cq s k s' p) (hk:k.kd=3):p.e=EZ s.acs k.a k.x:=by
 rw [(FI h (by omega)).2];unfold EC;rw [if_neg (by omega),if_neg (by omega),if_pos hk,rp_e]
def U5 (k:Ak) (p:Rp):Int:=if p.e=0∧k.kd=2 then k.x else 0
def VS (k:Ak) (p:Rp):Int:=if p.e=0∧k.kd=3 then k.x else 0
theorem Acj {s s':Ld} {k:Ak} {p:Rp} (h:s.Ok) (hs:Cq s k s' p):BN (bas s'.acs)=BN (bas s.acs)+U5 k p - VS k p∧(0≤U5 k p∧U5 k p≤4503599627370496)∧(0≤VS k p∧VS k p≤4503599627370496):=by
 have h1:=Abh h hs;unfold Up at h1
 have h2:U5 k p=if k.kd=2∧Fu s.acs k.a k.x=0 then k.x else 0:=by
  unfold U5
  by_cases hk:k.kd=2
  ·rw [Afb hs hk]
   by_cases h0:Fu s.acs k.a k.x=0
   ·rw [if_pos ⟨h0,hk⟩,if_pos ⟨hk,h0⟩]
   ·rw [if_neg fun g=>h0 g.1,if_neg fun g=>h0 g.2]
  ·rw [if_neg fun g=>hk g.2,if_neg fun g=>hk g.1]
 have h3:VS k p=if k.kd=3∧EZ s.acs k.a k.x=0 then k.x else 0:=by
  unfold VS
  by_cases hk:k.kd=3
  ·rw [Afc hs hk]
   by_cases h0:EZ s.acs k.a k.x=0
   ·rw [if_pos ⟨h0,hk⟩,if_pos ⟨hk,h0⟩]
   ·rw [if_neg fun g=>h0 g.1,if_neg fun g=>h0 g.2]
  ·rw [if_neg fun g=>hk g.2,if_neg fun g=>hk g.1]
 rw [← h2,← h3] at h1;refine ⟨by omega,?_,?_⟩
 ·rw [h2]
  split
  ·rename_i hc
   rcases Ia s.acs k.a k.x with ⟨g,-⟩ | ⟨-,-,g1,g2,-⟩
   ·exact absurd hc.2 g
   ·have:=C4.1 g2; omega
  ·omega
 ·rw [h3]
  split
  ·rename_i hc
   rcases Ib s.acs k.a k.x with ⟨g,-⟩ | ⟨-,-,g1,g2,-⟩
   ·exact absurd hc.2 g
   ·have:=C4.1 g2; omega
  ·omega
theorem Ack {acs:List Ac} (h:Eu acs=0):0≤BN (bas acs)∧BN (bas acs)≤4503599627370496∧∀ i,0≤BN ((bas acs).take i)∧BN ((bas acs).take i)≤4503599627370496:=by
 obtain ⟨h1,h2⟩:=SB h;have h3:∀ x∈bas acs,0≤x:=fun x hx=>(C4.1 (h1 x hx)).1;refine ⟨Ft h3,h2,fun i=>⟨Ft fun x hx=>h3 x (List.mem_of_mem_take hx),Int.le_trans (QU h3 i) h2⟩⟩
theorem VT {s s':Ld} {k:Ak} {p:Rp} (h:s.Ok) (hs:Cq s k s' p) (hk:k.kd=10∨k.kd=11)  (hno:s.no<4611686018427387904:=by omega):
  p.e=0∧s'.acs.length=s.acs.length∧∀ (j:Nat) (a b:Ac),s.acs[j]? = some a→s'.acs[j]? = some b→Ev s'.acs s'.ds j=Ev s.acs s.ds j∧min a.ba a.re≤b.ba∧(k.kd=11→b.ba=a.ba):=by
 unfold Cq at hs;rw [if_pos hk] at hs
 rcases hs with ⟨h1,-⟩ | ⟨-,r,P,rfl,rfl⟩
 ·omega
 ·refine ⟨rfl,(G2 (r:=r) h.ac h.du).2.2,fun j a b ha hb=>?_⟩;obtain ⟨h1,h2,h3⟩:=Ux h P hno ha hb;exact ⟨h1,h2,fun h11=>h3 (by rw [h11]; rfl)⟩
theorem Led.drop {bl:Nat} {w0 w:World} {B:List (Nat × Obj)} {m:Lm} {s:Ld} {T:Nat→Prop} (L:Led bl w0 w B m s T):Led bl w0 w [] m s T:=⟨L.H.right,L.I,L.e⟩
theorem Led.call {bl:Nat} {w0 w w':World} {B:List (Nat × Obj)} {m:Lm} {s:Ld} {T:Nat→Prop} (L:Led bl w0 w B m s T) (hx:Ext [] w w'):Led bl w0 w' B m s T:=L.next ((Ctx.start w []).call hx)
theorem Led.low {bl:Nat} {w0 w:World} {B:List (Nat × Obj)} {m:Lm} {s:Ld} {T:Nat→Prop} (L:Led bl w0 w B m s T):∀ x∈De m s,x<w.heap.size:=fun x hx=>L.I.low x (L.I.own x hx)
theorem H6 {bl:Nat} {w0 w:World} {B:List (Nat × Obj)} {m:Lm} {s:Ld} {T:Nat→Prop} (L:Led bl w0 w B m s T) :
  Ret Tryz.prog 17 #[ptr bl] w fun v w'=>Ext [] w w'∧∃ z,v = .agg (stC s z).toArray∧StAt w' s z∧StOff s z (fun x=>x<w.heap.size):=by
 obtain ⟨H,I,e⟩:=L;subst e;exact Yw w I H.right
theorem Ks {s s':Ld} {z y:StZ} (w:World) (h:s'=s) (hok:s.Ok) (Z:StAt w s z) (Y:StAt w s' y) :
  Ret Tryz.prog 19 #[.agg (stC s z).toArray,.agg (stC s' y).toArray] w fun v w'=>v = .bool true∧Ext [] w w':=by
 subst h;have h16:=(Cd.1 hok.ac).1;have h64:=(Er hok.du).1;have h4:=hok.kept.1;exact Aci w Z Y fun r hr=>SQ (hok.may r hr)
theorem Led.nextT {bl:Nat} {w0 w w':World} {B E:List (Nat × Obj)} {m:Lm} {s:Ld} {T:Nat→Prop} (L:Led bl w0 w B m s T) (H:Ctx w [] w' E):Led bl w0 w' (E++B) m s (fun x=>T x∨x∈E.map (fun x=>x.1)) :=
 ⟨by rw [List.append_assoc]; exact Ctx.back (L1:=[]) (L2:=B++LL m s) L.H H,L.I.grow H.ext (by simp) ⟨fun x hx => .inl hx,fun x hx=>hx.imp_right fun h=>by
  obtain ⟨y,hy,rfl⟩:=List.mem_map.1 h
  exact (H.own y hy).elim (fun h=>by cases h) id⟩ fun x hx=>hx.elim (fun h=>Nat.lt_of_lt_of_le (L.I.low x h) H.size) fun h=>by
  obtain ⟨y,hy,rfl⟩:=List.mem_map.1 h
  exact Bb (H.blk y hy),L.e⟩
theorem Led.notin {bl:Nat} {w0 w:World} {B:List (Nat × Obj)} {m:Lm} {s:Ld} {T:Nat→Prop} (L:Led bl w0 w B m s T) {b:Nat} {o:Obj} (h:(b,o)∈B):b∉De m s∧w0.heap.size≤b:=by
 refine ⟨fun hm=>?_,(L.H.own (b,o) (List.mem_append_left _ h)).elim (fun h=>by cases h) id⟩;obtain ⟨y,hy,hyb⟩:=List.mem_map.1 hm;exact (List.pairwise_append.1 L.H.nd).2.2 _ h _ hy hyb.symm
theorem Led.side {bl b:Nat} {w0 w w':World} {m:Lm} {s:Ld} {T:Nat→Prop} (L:Led bl w0 w [] m s T) (he:Ext [b] w w') (hb:b∉De m s∧w0.heap.size≤b) (hT:T b):Led bl w0 w' [] m s T :=
 ⟨⟨L.H.ext.then he (fun x hx => .inr (by rw [List.mem_singleton.1 hx]; exact hb.2)),fun x hx=>he.to (L.H.blk x hx) (fun hm=>hb.1 (by rw [← List.mem_singleton.1 hm]; exact List.mem_map_of_mem (f:=fun x:Nat × Obj=>x.1) hx)),L.H.nd,L.H.own⟩,L.I.grow he (fun x hx => .inl (by rw [List.mem_singleton.1 hx]; exact hT)) (Grows.refl _ _) (fun x hx=>Nat.lt_of_lt_of_le (L.I.low x hx) he.size),L.e⟩
theorem Acl {s s':Ld} {D:Int} {p:Rp} (h:Cq s (ak 9 0 0 0 0 D 0) s' p) (hd:s.day≤D):p=⟨0,[((s.ds.length - (Ew s.ds D).length:Nat):Int)]⟩∧s'={ s with day:=D,ds:=Ew s.ds D }:=Ab0 rfl h hd
theorem StOff.grows {s:Ld} {z:StZ} {T T':Nat→Prop} {w:World} (O:StOff s z T) (Z:StAt w s z) (g:Grows T T' w):StOff s z T':=(O.or Z.lt).mono g.2
theorem Afd {x:Int} (h:0≤x∧x≤4611686018427387904:=by omega):IntKind.i64.wrap x=x:=CV (show (-9223372036854775808:Int)≤x by omega) (show x≤(9223372036854775807:Int) by omega)
theorem PD {s s':Ld} {k:Ak} {p:Rp} (hok:s.Ok) (hs:Cq s k s' p) (hk:k.kd=10∨k.kd=11) (hno:s.no<4611686018427387904):∃ r,PlanR s.acs s.ds (decide (k.kd=11)) r∧s'=CR s r ∧
  p=⟨0,[s.no+1,DM (opn s.ds) r.fl (opn s.ds).length,Gn (r.fl.take (opn s.ds).length) (opn s.ds).length]⟩:=by
 unfold Cq at hs;rw [if_pos hk] at hs
 rcases hs with ⟨h1,-⟩ | ⟨-,r,P,rfl,rfl⟩
 ·omega
 ·have:=hok.kept;exact ⟨r,P,rfl,by rw [Afd]⟩
end Go.Proofs.YtdagmpmdcgedcaaGreat
namespace Go.Proofs.YtdagmpmdcgedcaaGreat
open Go.GV Go.ChangeShapes Go.WideShapes
theorem own:ownKnob Tryz.prog.godebug=none:=by kernel_rfl
theorem SR:laidOutB Tryz.prog=true:=by kernel_rfl
section
variable {H:Type} {enc:TypeId × Value→H} {w:World} {base:Nat} {spare:Nat→Bool} {held:Bool}
def DuT (d:Du):Prop:=(0≤d.id∧d.id<18446744073709551616)∧I64 d.fr∧I64 d.to∧I64 d.am∧I64 d.we∧I64 d.un
def EdT (e:Ed):Prop:=I64 e.f∧I64 e.t∧I64 e.cap∧I64 e.cost
structure RT (r:Rnd):Prop where
 no:0≤r.no∧r.no<18446744073709551616
 day:I64 r.day
 ids:∀ x∈r.ids,0≤x∧x<18446744073709551616
 N:I64 r.N
 es:∀ e∈r.es,EdT e
 fl:∀ x∈r.fl,I64 x
 pot:∀ x∈r.pot,I64 x
theorem Acm:∀ n cs y,DataW.trod enc Tryz.prog w base spare held n 5 cs=some y→∃ b:UInt8,cs=B8 b∧True:=by
 intro n cs y h;obtain ⟨d,rfl,h1,h2⟩:=Adc Tryz.underlying5 n cs y h;have h1:(0:Int)≤d:=h1;have h2:d≤255:=h2;refine ⟨UInt8.ofNat d.toNat,?_,trivial⟩;have:(UInt8.ofNat d.toNat).toNat=d.toNat:=by simp [UInt8.toNat_ofNat']; omega
 rw [B8,bv,this,Int.toNat_of_nonneg h1]
theorem Y3:Tryz.prog.cellsOf 5=1:=by kernel_rfl
set_option maxRecDepth 100000 in
theorem Acn {b:Nat} {v:Value} {d:DataW H} {ps:List MemPlace} (hv:Value.okWide Tryz.prog w .any b 65 v) (h:DataW.Trod enc Tryz.prog w base spare held 65 v d ps):∃ a c l,v = .slice a l.length c∧Rd w a 1 B8 l∧l.length≤c:=by
 obtain ⟨a,c,l,h1,h2,hc,-,-⟩:=Wi Tryz.underlying65 Y3 (by decide) Acm (okWide_slice Tryz.underlying65 hv) h;exact ⟨a,c,l,h1,h2,hc⟩
end
end Go.Proofs.YtdagmpmdcgedcaaGreat
namespace Go.Proofs.YtdagmpmdcgedcaaGreat
open Go.GV Go.ChangeShapes Go.WideShapes
section
variable {H:Type} {enc:TypeId × Value→H} {w:World} {base:Nat} {spare:Nat→Bool} {held:Bool}
theorem Aco:∃ fs,Tryz.prog.underlying 40=some (.struct fs)∧(List.range 7).map (fun i=>fs[i]?.map fun f=>(f.type,f.offset))=[some (5,0),some (3,1),some (3,2),some (2,3),some (2,4),some (2,5),some (28,6)]:=⟨_,Tryz.underlying40,by kernel_rfl⟩
theorem WZ:Tryz.prog.cellsOf 40=7:=by kernel_rfl
theorem Akl:∀ n cs y,DataW.trod enc Tryz.prog w base spare held n 40 cs=some y→∃ k:Ak,cs=Co k∧AkIn k:=by
 intro n cs y h;obtain ⟨fs,ht,hf⟩:=Aco;have hl:=Xu ht h;rw [WZ] at hl;simp only [List.range,List.range.loop,List.map_cons,List.map_nil,List.cons.injEq,and_true] at hf;obtain ⟨f0,f1,f2,f3,f4,f5,f6⟩:=hf;obtain ⟨a,ha,a1,a2⟩:=Jp ht h 0 0 f0 Tryz.underlying5;obtain ⟨b,hb,hb'⟩:=Jp ht h 1 1 f1 Tryz.underlying3;obtain ⟨c,hc,hc'⟩:=Jp ht h 2 2 f2 Tryz.underlying3;obtain ⟨d,hd,hd'⟩:=Jp ht h 3 3 f3 Tryz.underlying2;obtain ⟨e,he,he'⟩:=Jp ht h 4 4 f4 Tryz.underlying2;obtain ⟨f,hf,hf'⟩:=Jp ht h 5 5 f5 Tryz.underlying2;obtain ⟨g,hg,g1,g2⟩:=Jp ht h 6 6 f6 Tryz.underlying28;refine ⟨⟨a,b,c,d,e,f,g⟩,?_,⟨⟨a1,a2⟩,hb',hc',hd',he',hf',g1,g2⟩⟩
 match cs,hl with
 | [_,_,_,_,_,_,_],_ =>
  simp at ha hb hc hd he hf hg;simp [ha,hb,hc,hd,he,hf,hg]
set_option maxRecDepth 100000 in
theorem SU {b:Nat} {v:Value} {d:DataW H} {ps:List MemPlace} (hv:Value.okWide Tryz.prog w .any b 22 v) (h:DataW.Trod enc Tryz.prog w base spare held 22 v d ps):∃ a c l,v = .slice a l.length c∧Rd w a 7 Co l∧∀ x∈l,AkIn x:=by
 obtain ⟨a,c,l,h1,h2,-,-,h3⟩:=Wi Tryz.underlying22 WZ (by decide) Akl (okWide_slice Tryz.underlying22 hv) h;exact ⟨a,c,l,h1,h2,h3⟩
end
end Go.Proofs.YtdagmpmdcgedcaaGreat
