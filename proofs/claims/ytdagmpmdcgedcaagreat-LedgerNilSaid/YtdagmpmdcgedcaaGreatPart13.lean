/- Part 13 of the proof. The last text: LedgerNil: for every input the law answers true, and turns nothing. -/
import Derived.Test.YtdagmpmdcgedcaaGreatPart2
import Derived.Test.YtdagmpmdcgedcaaGreatPart12
import Derived.Test.YtdagmpmdcgedcaaGreatPart4
import Derived.Test.YtdagmpmdcgedcaaGreatPart3
import Derived.Test.YtdagmpmdcgedcaaGreatPart10
import Derived.Test.YtdagmpmdcgedcaaGreatRows
import Derived.Test.YtdagmpmdcgedcaaGreatPart11
/- The ledger: round (printed by gen/genLfC.py). -/
namespace Go.Proofs.YtdagmpmdcgedcaaGreat
open Go.GV
attribute [local irreducible] AB W Wq Wt

theorem Ab3 {w w1 w':World} {m m':Lm} {s s':Ld} {T:Nat→Prop} {k:Ak} {P:List (Nat × Obj)} {a:Option Addr} {n c:Nat} {code:Int} {l:List Int} (H:Ctx w (Di m s) w1 (P++LL m' s')) (F:Fresh w1 w' 2 1 (.slice a n c) (l.map Dq)) (hst:CR s k s' (rp l code))
  (hI:LdIn w' m' s' (fun x=>T x∨x∈Di m' s')) (hbl:m'.bl=m.bl):FP w m s T k (.tuple #[.slice a n c,.int .i64 code]) w':=by
 obtain ⟨a',n',c',full,hv,OF,hb⟩:=F.ex;cases hv;have H1:Ctx w (Di m s) w1 (LL m' s'):=H.right;exact ⟨a,n,c,full,code,l,s',m',rfl,OF,hst,H1.callEnt F.ext hb F9,fun x hx=>Nat.le_trans H1.size (hb x hx).2,hI,hbl⟩
theorem WJ (xs:List Int) {i:Nat} {x:Int} (h:xs[i]? = some x):HK xs (i+1)=HK xs i+(if 0<x then 1 else 0):=by
 show HK xs i+one (0<xs.getD i 0)=_;rw [Bm h]
 by_cases hx:0<x
 ·rw [FM hx,if_pos hx]
 ·rw [Fj hx,if_neg hx]
theorem S7 (xs:List Int):∀ i,0≤HK xs i∧HK xs i≤i
 | 0=>⟨Int.le_refl _,Int.le_refl _⟩
 | i+1=>by
  have h:=S7 xs i;show 0≤HK xs i+one (0<xs.getD i 0)∧HK xs i+one (0<xs.getD i 0)≤((i+1:Nat):Int)
  by_cases hx:0<xs.getD i 0
  ·rw [FM hx]; omega
  ·rw [Fj hx]; omega
/-- The ids of accounts and dues are the ledger's. -/
theorem Aha {m:Lm} {s:Ld} {x:Nat} (h:x∈(LX m.ba m.a s.acs.length m.c m.full m.bd m.b s.nx m.o).map (fun x:Nat × Obj=>x.1)):x∈Di m s:=List.mem_cons_of_mem _ (List.mem_cons_of_mem _ h)
set_option maxRecDepth 20000 in
set_option maxHeartbeats 1000000 in
theorem Px {m:Lm} {s:Ld} {T:Nat→Prop} {k:Ak} (hk:k.kd=10∨k.kd=11) (hin:AkIn k) (w:World) (I:LdIn w m s T) (H0:Ctx w (Di m s) w (LL m s)) :
  Ret Tryz.prog 63 #[ptr m.bl,.agg (Cd k).toArray] w (FP w m s T k):=by
 obtain ⟨w0,rfl⟩:∃ w0,w0=w:=⟨_,rfl⟩;obtain ⟨bl,ba,bd,br,b,a,c,full,o,arch⟩:=m;obtain ⟨S0,hS0⟩:∃ S,S=Di ⟨bl,ba,bd,br,b,a,c,full,o,arch⟩ s:=⟨_,rfl⟩;have H:Ctx w0 S0 w0 ((bl,Bl 106 [ptr ba,ptr bd,ptr br,.int .i64 s.day])::(br,Bl 168 arch)::(ba,Bl 162 [.slice a s.acs.length c])::(bd,Bl 165 (DU b s.nx))::(b,o)::ent a 43 full):=by rw [hS0]; exact H0
 have hn16:=(Ch.1 I.ok.ac).1;have hbdb:bd≠b:=H.ne (i:=3) (j:=4) rfl rfl (by decide);have hno:0≤s.no∧s.no≤4611686018427387904:=by have:=I.ok.kept; omega
 have hstep:∀ s' p,((4611686018427387904≤s.no∧s'=s∧p=⟨6,[]⟩) ∨
  (s.no<4611686018427387904∧∃ r,PlanR s.acs s.ds (decide (k.kd=11)) r∧s'=Oj s r ∧
   p=⟨0,[IntKind.i64.wrap (s.no+1),EQ (opn s.ds) r.fl (opn s.ds).length,HK (r.fl.take (opn s.ds).length) (opn s.ds).length]⟩))→CR s k s' p:=fun s' p h=>by
  unfold CR;rw [if_pos hk];exact h
 obtain ⟨h64,-,h3d,htot⟩:=FO I.ok.du;have hBr:=Kv I.ok.ac I.ok.du I.ok.bk;have hbr:Dr (s.acs.map Dl) s.ds=true:=(Hm (by omega)).2 hBr;refine Au (fn:=Tryz.f63) Tryz.func63 U [.pointer (some ⟨bl,0,none⟩),.agg (Cd k).toArray] U (by kernel_rfl) ?_;refine Ad (Bu U (Cd k) (.agg _) U U H ?_);rintro b3 w - H;refine A1 U U (Ae U U (Ab (Aa (Aw (Ad (A3 U U (A8 U U (Ah U KM U (AE U PF U H at1 U (Al U ca_53 (Ag5 _ (H.get at2) I.no) U ?_))))))))));rintro v w ⟨rfl,hx19⟩;replace H:=H.call hx19;refine C3 U U U (Ab (Aa (Aq _ U ?_ ?_)))
 ·intro h1;replace h1:=AM h1;refine Ad (A1 U U (Ae U U (Ab (Aa (A5 (Ao (BR (v1:=(.slice _ _ _)) (v2:=(.int _ _)) U U U U ?_)))))));subst hS0;exact D9 (P:=[_]) (m':=⟨bl,ba,bd,br,b,a,c,full,o,arch⟩) (s':=s) (l:=[]) (code:=6) I H (Hr _) (hstep _ _ (.inl ⟨h1,rfl,rfl⟩)) I.O I.M I.ok U U U U
 ·intro h1;replace h1:=AN h1;have hno1:s.no<4611686018427387904:=by omega
  refine Av (Aa (DE 68717379776 (α:=Nat × Rnd × RSl × Int) (fun z=>[(6,ptr z.1),(7,.int .i64 z.2.2.2)]) (fun z w'=>z.2.2.2=0∧PlanR s.acs s.ds (decide (k.kd=11)) z.2.1∧RAt w' z.2.1 z.2.2.1∧ROff z.2.2.1 z.2.1 (fun x=>x<w0.heap.size∨x=z.1)∧Ctx w0 S0 w' ((z.1,Bl 55 (Bz z.2.1 z.2.2.1))::(b3,Bl 40 (Cd k))::(bl,Bl 106 [ptr ba,ptr bd,ptr br,.int .i64 s.day])::(br,Bl 168 arch)::(ba,Bl 162 [.slice a s.acs.length c])::(bd,Bl 165 (DU b s.nx))::(b,o)::ent a 43 full)) U ?_ ?_))
  ·skip
   refine MZ (.two [0,1,2,3,4,5,6,7,8,9,10] 11 (.one [12,13,14] 15 (.one [] 16 (.one [] 17 .stop))) 15 (.one [] 11 (.one [12,13,14] 16 (.one [] 17 .stop)))) (fun z=>z.heap[b3]? = some (Bl 40 (Cd k))∧z.heap[bl]? = some (Bl 106 [ptr ba,ptr bd,ptr br,.int .i64 s.day])) Bq (by kernel_rfl) (⟨H.drew.get at0,H.drew.get at1⟩) ?_;refine HM U U U ?_;refine BQ U U (Bg U U (An U FD U (B0 U Ic U (fun _ hx=>(by rw [Aj hx.2]; rfl)) ?_)));refine BQ U U (Bg U U (An U Ff U (B0 U FA U (fun _ hx=>(by rw [Aj hx.2]; rfl)) ?_)));refine An U PT U (B0 U ag_5 U (fun _ hx=>(by rw [Aj hx.1]; rfl)) ?_);refine t_eql U U U (AS ?_);replace H:=H.drew;refine ⟨?_,?_⟩
   ·skip
    refine Al U Xo (Vc I.ok.ac I.ok.du (decide (k.kd=11)) _ ⟨a,c,H.get at3,OS.rd (t:=43) I.O (fun y hy=>H.blk y (List.mem_append_right [_,_,_,_,_,_] hy)) (fun _ _=>rfl) (by decide)⟩ ⟨b,s.nx,o,H.get at4,H.get at5,I.M⟩) U ?_;rintro v w ⟨hx33,⟨hb,-⟩ | ⟨-,r,q,rfl,P,RA,hoff⟩⟩
    (rw [hbr] at hb; cases hb)
    have hsz:=H.size;have H9:=H.call hx33;have hsz9:=hx33.size;clear H;obtain ⟨w9,rfl⟩:∃ z,z=w:=⟨_,rfl⟩;have H:=Ctx.start w9 [];refine Ab (BH (by exact ⟨H.ext.to (H9.get at0) (by simp),H.ext.to (H9.get at1) (by simp)⟩) ?_);refine BF U U ?_;refine D5 U U (Bs U U U (Bs U U U (AS (AZ U HC H ?_))));rintro b6 w - H;refine Ab (BH (by exact ⟨H.ext.to (H9.get at0) (by simp),H.ext.to (H9.get at1) (by simp)⟩) ?_);refine BF U U ?_;refine AS (Bn U DB U U U (by exact (by simp [Be])) H at0 U ?_);rintro w H;refine Ab (BH (by exact ⟨H.ext.to (H9.get at0) (by simp),H.ext.to (H9.get at1) (by simp)⟩) ?_);refine BF U U ?_;refine AS (Ae U U (Ab (BH (by exact ⟨H.ext.to (H9.get at0) (by simp),H.ext.to (H9.get at1) (by simp)⟩) ?_)));refine DO ?_;refine Aa ?_;have hb6:w9.heap.size≤b6:=(H.own _ (List.mem_cons_self ..)).elim (fun h=>by cases h) id
    exact ⟨(b6,r,q,0),rfl,⟨rfl,rfl,trivial⟩,rfl,P,RA.ext0 H.ext,(hoff.or RA.lt).mono fun x hx=>hx.elim (fun h => .inl (Nat.lt_of_lt_of_le h hsz)) (fun h => .inr (h ▸ hb6)),Ctx.mid (B:=[]) (L:=[]) H9 H⟩
   ·skip
    refine AZ U HC H ?_;rintro b6 w - H;refine Ab (BH (by exact ⟨H.get at1,H.get at2⟩) ?_);refine BF U U ?_;refine AS (Al U Xo (Vc I.ok.ac I.ok.du (decide (k.kd=11)) _ ⟨a,c,H.get at4,OS.rd (t:=43) I.O (fun y hy=>H.blk y (List.mem_append_right [_,_,_,_,_,_,_] hy)) (fun _ _=>rfl) (by decide)⟩ ⟨b,s.nx,o,H.get at5,H.get at6,I.M⟩) U ?_);rintro v w ⟨hx33,⟨hb,-⟩ | ⟨-,r,q,rfl,P,RA,hoff⟩⟩
    (rw [hbr] at hb; cases hb)
    have hsz:=H.size;have hlt:=Bb (H.get at0);have H9:=H.call hx33;clear H;obtain ⟨w9,rfl⟩:∃ z,z=w:=⟨_,rfl⟩;have H:=Ctx.start1 (H9.get at0);refine Ab (BH (by exact ⟨H.ext.to (H9.get at1) (by rw [List.mem_singleton]; exact H9.ne (i:=1) (j:=0) rfl rfl (by decide)),H.ext.to (H9.get at2) (by rw [List.mem_singleton]; exact H9.ne (i:=2) (j:=0) rfl rfl (by decide))⟩) ?_);refine BF U U ?_;refine D5 U U (Bs U U U (Bs U U U (AS (Bn U DB U U U (by exact (by simp [Be])) H at0 U ?_))));rintro w H;refine Ab (BH (by exact ⟨H.ext.to (H9.get at1) (by rw [List.mem_singleton]; exact H9.ne (i:=1) (j:=0) rfl rfl (by decide)),H.ext.to (H9.get at2) (by rw [List.mem_singleton]; exact H9.ne (i:=2) (j:=0) rfl rfl (by decide))⟩) ?_);refine BF U U ?_
    refine AS (Ae U U (Ab (BH (by exact ⟨H.ext.to (H9.get at1) (by rw [List.mem_singleton]; exact H9.ne (i:=1) (j:=0) rfl rfl (by decide)),H.ext.to (H9.get at2) (by rw [List.mem_singleton]; exact H9.ne (i:=2) (j:=0) rfl rfl (by decide))⟩) ?_)));refine DO ?_;refine Aa ?_;exact ⟨(b6,r,q,0),rfl,⟨rfl,rfl,trivial⟩,rfl,P,RA.ext H.ext (hoff.mono fun x hx=>by rw [List.mem_singleton.1 hx]; exact hlt),hoff.mono fun x hx=>hx.elim (fun h=>Nat.lt_of_lt_of_le h hsz) (fun h=>by rw [h]; exact hlt),Ctx.mid (B:=[]) (L:=[_]) H9 H⟩
  ·rintro ⟨b6,r,q,e7⟩ j7 w ⟨he7,P,RA,hoff,H⟩;dsimp only at he7 P RA hoff H;obtain ⟨hC,hokR⟩:=Ag3 I.ok P hno1;have F0:=Gb I.ok.ac I.ok.du hC;have hB:=Zt P;have hmy:∀ d∈s.ds,DT d=true:=fun d hd=>((GK I.ok.du).1 d hd).1;have hids:r.ids.length=(opn s.ds).length:=by rw [P.ids,List.length_map]
   have hol:=HI s.ds;have hle:(opn s.ds).length≤r.fl.length:=by have:=F0.pay.1; rw [List.length_take] at this; omega
   have hlow:∀ x∈Di ⟨bl,ba,bd,br,b,a,c,full,o,arch⟩ s,x<w0.heap.size:=fun x hx=>I.low x (I.own x hx);have hlx:∀ x∈(LX ba a s.acs.length c full bd b s.nx o).map (fun x:Nat × Obj=>x.1),x<w0.heap.size:=fun x hx=>hlow x (Aha (m:=⟨bl,ba,bd,br,b,a,c,full,o,arch⟩) hx);obtain ⟨xs,hxs⟩:∃ xs,xs=r.fl.take (opn s.ds).length:=⟨_,rfl⟩;have hxl:xs.length=(opn s.ds).length:=by rw [hxs,List.length_take]; omega
   have hmayR:M6 { r with day:=s.day }=true:=by
    unfold M6;dsimp only;rw [P.chk,hids,decide_eq_true (show (opn s.ds).length≤64 by omega),decide_eq_true I.ok.day.1];rfl
   refine Aw (Ad (Af U U (CI U U U (Ab (Aa (Aq _ U ?_ ?_))))))
   ·intro h2;replace h2:=CE h2;exact absurd he7 h2
   ·intro h2;replace h2:=CF h2;refine Av (Aa (Ad (A3 U U (A8 U U (Ah U Ff U (AE U FA U H at2 U (Al U Me (NN _ (H.get at5) (H.get at6) I.M (Lp I.ok.du) (by omega)) U ?_)))))));rintro v w ⟨ds',hSd,Fd⟩;have hde:=NT hSd (J2 h3d).2.1;rw [hde] at Fd;obtain ⟨a3,c3,rfl,R3,hn3,-,hx43⟩:=S2 Fd (fun _ _=>rfl) (by decide);have hl6:=Bb (H.get at0);have hlr:=Bb (H.get at3);have hs43:=H.size;replace RA:=RA.ext0 hx43;replace H:=H.call hx43;refine A1 U U (Ab (Aa (Aw ?_)));have hn3':s.ds≠[]→(adr a3).block∉(LX ba a s.acs.length c full bd b s.nx o).map (fun x:Nat × Obj=>x.1):=fun hne hm=>by have:=hn3 hne; have:=hlx _ hm; omega
    refine Cv [([0,1,2,3,4,5,6,7,8],9),([],10)] (fun z=>z.heap[b6]? = some (Bl 55 (Bz r q))∧z.heap[bl]? = some (Bl 106 [ptr ba,ptr bd,ptr br,.int .i64 s.day])) [9,10] Bq (by kernel_rfl) (⟨H.drew.get at0,H.drew.get at2⟩) ?_;refine AH U U ?_;refine BQ U U (Bg U U (An U FD U (B0 U Ic U (fun _ hx=>(by rw [Aj hx.2]; rfl)) ?_)));refine BQ U U (Bg U U (An U Ff U (B0 U FA U (fun _ hx=>(by rw [Aj hx.2]; rfl)) ?_)));refine IW _ U G6 DB U U (fun _ hx=>(CU (b:=b6) (t:=55) (l:=Bz r q) hx.1 0 (Bz r q) rfl)) ?_;refine AS ?_;replace H:=H.drew;replace RA:=RA.ext0 (Ext.drew [] _);replace R3:=R3.ext0 (Ext.drew [] _);replace H:Ctx w0 S0 _ ([(b6,Bl 55 (Bz r q)),(b3,Bl 40 (Cd k)),(bl,Bl 106 [ptr ba,ptr bd,ptr br,.int .i64 s.day]),(br,Bl 168 arch)]++(LX ba a s.acs.length c full bd b s.nx o++[])):=(by rw [List.append_nil]; exact H)
    refine Al U Adn (W8 I.ok.ac I.ok.du H I.O I.M RA (hoff.mono fun x hx => .inl (hlx x hx)) hB) U ?_;rintro v w ⟨rfl,full',o',O',M',hxA,H7⟩;replace RA:=RA.ext hxA (hoff.mono fun x hx => .inl (hlx x hx));replace R3:=R3.ext' hxA hn3';rw [List.append_nil] at H7;replace H:=H7;refine Ab (B3 U (AH U U ?_));refine AS (Ae U U (Ab (B3 U (BJ ?_))));obtain ⟨hap1,-,hap3⟩:=JP (r:=r) I.ok.ac I.ok.du;rw [← hap3] at O' H;refine Ad (Af U U (CI U U U (Ab (Aa (Aq _ U ?_ ?_)))))
    ·intro h4;replace h4:=CE h4;exact absurd hC h4
    ·intro h4;replace h4:=CF h4;refine Av (Aa (Ad (Ah U EF U (Cn _ U CV C7 U U ((CU (b:=b6) (t:=55) (l:=Bz r q) (H.get at0) 4 [.int .i64 r.N,.slice q.aE r.es.length q.cE] U)) ?_))));refine Ah U D6 U (Ah U Fm U (AE U BL U H at0 U (Ah U Ey U (AE U G5 U H at0 U (Bf U Br U (Al U Xp (UV r.N q.aE q.aF _ _ _ _ _ r.fl _ RA.F U RA.fc hB.fl) U ?_))))));rintro v w Fp;rw [show Qr ((r.ids.length:Nat):Int) r.fl.length=(opn s.ds).length by unfold Qr; omega,← hxs,← WR] at Fp;obtain ⟨a9,c9,rfl,Rp,hn9,-,hx65⟩:=S2 Fp (fun _ _=>rfl) (by decide);have hp6:=Bb (H.get at0);have hpr:=Bb (H.get at3);replace RA:=RA.ext0 hx65;replace R3:=R3.ext0 hx65;replace H:=H.call hx65;refine A1 U U (Ab (Aa (Ad (Ae U U (Ab (Aa (Aw (Ad (A4 U U (Bf U AR U (Af U U ?_)))))))))));refine Ab (Aa (Az ?_));have H8:=H;obtain ⟨w1,rfl⟩:∃ z,z=w:=⟨_,rfl⟩;clear H;have H:=Ctx.start w1 []
     refine Bv 150820579546649294022656 (α:=Nat) (fun i=>[(11,.int .i64 (HK xs i)),(68,.int .i64 (i:Int))]) (fun i w'=>i≤xs.length∧Ctx w1 [] w' []) (fun i=>xs.length - i) 0 U ?_ ?_ ?_
     ·exact ⟨rfl,rfl,trivial⟩
     ·exact ⟨Nat.zero_le _,H⟩
     ·clear H;rintro i j w ⟨hi,H⟩;refine Ad (Bj U U U (Ab (Aa (Aw (Aq _ U ?_ ?_)))))
      ·intro h5;replace h5:=AM h5;obtain ⟨x,hx⟩:=AD (l:=xs) (i:=i) (by omega);have hsb:=S7 xs i;have hst:=WJ xs hx;refine Av (Aa (Aw (Az (Ad (Bo (Rp.ext0 H.ext) U AR Bx U U (by omega) (by omega) (by rfl) ?_)))));refine Bd U Bw U (((Rp.ext0 H.ext).one (f:=Dq) hx)) ?_;refine Ae U U (Ab (Aa (Ad (Af U U (Dn U U U (Ab (Aa (Aq _ U ?_ ?_))))))))
       ·intro h6;replace h6:=AM h6;refine A0 (Af U U (Ay U U U (by omega) (by omega) ?_));refine Ae U U (Ab (A6 (Aa (A0 (Ay U U U (by omega) (by omega) ?_)))));refine Af U U (Ab (Aa ?_));exact ⟨i+1,rfl,⟨congrArg (Value.int .i64) (by rw [hst,if_pos h6]),rfl,trivial⟩,⟨by omega,H⟩,by omega⟩
       ·intro h6;replace h6:=AN h6;refine Av (A6 (Aa (A0 (Ay U U U (by omega) (by omega) ?_))));refine Af U U (Ab (Aa ?_));exact ⟨i+1,rfl,⟨congrArg (Value.int .i64) (by rw [hst,if_neg h6,Int.add_zero]),rfl,trivial⟩,⟨by omega,H⟩,by omega⟩
      ·intro h5;replace h5:=AN h5;obtain rfl:i=xs.length:=by omega
       replace RA:=RA.ext0 H.ext;replace R3:=R3.ext0 H.ext;replace Rp:=Rp.ext0 H.ext;replace H8:=H8.call H.ext;clear H;obtain ⟨w2,rfl⟩:∃ z,z=w:=⟨_,rfl⟩;have H:=Ctx.start1 (H8.get at0);refine Bt (Am (Am (AK (Aa (Ad (A3 U U (A8 U U (Ah U KN U (Bd U Bw U ((H.old (Aj (H8.get at2) _) (by rw [List.mem_singleton]; exact H8.ne (i:=2) (j:=0) rfl rfl (by decide)))) ?_)))))))));refine Ah U KT U (Cg (.int _ _) U Bx U U U H at0 (by (simp; done)) ?_);rintro w H;refine Ab (Aa ?_);replace RA:=RA.ext H.ext (hoff.mono fun x hx=>by rw [List.mem_singleton.1 hx]; exact .inr rfl);replace R3:=R3.ext' H.ext (fun hne hm=>by have:=hn3 hne; rw [List.mem_singleton.1 hm] at this; omega);replace Rp:=Rp.ext' H.ext (fun hne hm=>by have:=hn9 hne; rw [List.mem_singleton.1 hm] at this; omega);replace H:Ctx w2 [b6] w [(b6,Bl 55 (Bz { r with day:=s.day } q))]:=H;replace H:=Ctx.mid (B:=[]) (L:=[_]) H8 H;clear H8
       refine Cv [([0,1,2,3,4],5),([6,7,8,9],10)] (fun z=>z.heap[b6]? = some (Bl 55 (Bz { r with day:=s.day } q))∧z.heap[bl]? = some (Bl 106 [ptr ba,ptr bd,ptr br,.int .i64 s.day])) [5,10] Bq (by kernel_rfl) (⟨H.drew.get at0,H.drew.get at2⟩) ?_;refine AH U U ?_;refine BQ U U (Bg U U (An U KM U (B0 U PF U (fun _ hx=>(by rw [Aj hx.2]; rfl)) ?_)));refine IW _ U G6 DB U U (fun _ hx=>(CU (b:=b6) (t:=55) (l:=Bz { r with day:=s.day } q) hx.1 0 (Bz { r with day:=s.day } q) rfl)) ?_;refine AS ?_;replace H:=H.drew;replace RA:=RA.ext0 (Ext.drew [] _);replace R3:=R3.ext0 (Ext.drew [] _);replace Rp:=Rp.ext0 (Ext.drew [] _);have hsA:=H.size;refine Al U Ado (Abx (n:=s.rn.length) (no:=s.no) (arch:=arch) { r with day:=s.day } q _ (RA.no r.no s.day) (hB.no r.no s.day) (H.get at3) I.len I.n I.no I.ok.kept.1 ⟨hno.1,hno1⟩ hmayR) U ?_;rintro v w ⟨rfl,q2,H7,RA2,hoff2⟩
       replace R3:=R3.ext' H7.ext (fun hne hm=>by have:=hn3 hne; rw [List.mem_singleton.1 hm] at this; omega);replace Rp:=Rp.ext' H7.ext (fun hne hm=>by have:=hn9 hne; rw [List.mem_singleton.1 hm] at this; omega);replace H:=Ctx.mid (B:=[_,_,_]) (L:=[_]) H H7;refine Ab (B3 U (AH U U ?_));refine D5 U U (Bs U U U (Bs U U U (JD U U (AS (Ae U U (Ab (B3 U (BJ ?_))))))));have H8:=H;obtain ⟨wB,rfl⟩:∃ z,z=w:=⟨_,rfl⟩;clear H;have H:=Ctx.start wB [];refine Ad (Af U U (Gn U U EZ VD (by omega) (by omega) ?_));refine A4 U U (A4 U U (Al U Adp (Z7 a3 a9 _ _ _ _ s.ds xs _ R3 U (by omega) Rp U (hxs ▸ F0.pay) (fun d hd=>hmy d (List.mem_filter.1 hd).1) (Int.le_trans (Va fun d hd=>by have:=D7 (hmy d hd); omega) htot)) U ?_));rintro v w ⟨rfl,hx95⟩;replace H:=H.call hx95
       refine Af U U (D4 ([s.no+1,EQ (opn s.ds) xs (opn s.ds).length,HK xs xs.length].map Dq) U AR Bx Eb (by decide) (by decide) (by kernel_rfl) H ?_);rintro b97 w - H;refine Af U U (A1 U U (Ae U U (Ab (Aa (A5 (BR (v1:=(.slice _ _ _)) (v2:=(.int _ _)) U U U U ?_))))));have H17:=H;have hw:IntKind.i64.wrap (s.no+1)=s.no+1:=CZ (show (-9223372036854775808:Int)≤s.no+1 by omega) (show s.no+1≤(9223372036854775807:Int) by omega);subst hS0;exact Ab3 (P:=[_,_]) (m':=⟨bl,ba,bd,br,b,a,c,full',o',IR arch s.rn.length { r with no:=s.no+1,day:=s.day } q2⟩) (s':=Oj s r) (l:=[s.no+1,EQ (opn s.ds) xs (opn s.ds).length,HK xs xs.length]) (code:=0) H8 (Gc (n:=3) H17 U) (hstep _ _ (.inr ⟨hno1,r,P,rfl,by rw [hw,hxl,hxs,TV _ (Nat.le_refl _)]; rfl⟩)) (I.rnd (H8.ext.then H17.ext (by simp)) I.own hokR O' M' (RA2.ext0 H17.ext) hoff2 hsA) U
end Go.Proofs.YtdagmpmdcgedcaaGreat

/- The ledger: Do. -/
namespace Go.Proofs.YtdagmpmdcgedcaaGreat
open Go.GV
attribute [local irreducible] AB W Wq Wt

/-- What is answered to what is asked. -/
def Acz (w:World) (m:Lm) (s:Ld) (T:Nat→Prop) (k:Ak) (v:Value) (w':World):Prop :=
 ∃ a n c full p s' m' T',v = .agg #[.int .i64 p.e,.slice a n c]∧OS a n c 1 full (p.n.map Dq)∧CR s k s' p∧Ctx w (Di m s) w' (LL m' s'++ent a 2 full)∧LdIn w' m' s' T'∧Grows T T' w∧m'.bl=m.bl
abbrev fnV (f:FuncId):Value := .func (.func f) #[] #[]
abbrev doT:List Value:=[.nilFunc,fnV 54,fnV 55,fnV 56,fnV 57,fnV 58,fnV 59,fnV 60,fnV 61,fnV 62,fnV 63,fnV 63,fnV 64,fnV 65,fnV 66,fnV 67]
/-- Each thing that may be asked has its function. -/
def DoFn (k:Ak) (f:FuncId):Prop:=doT[k.kd.toNat]? = some (fnV f)∧Ap Tryz.prog f=true∧∀ {m:Lm} {s:Ld} {T:Nat→Prop} (w:World) (_:LdIn w m s T) (_:Ctx w (Di m s) w (LL m s)),Ret Tryz.prog f #[ptr m.bl,.agg (Cd k).toArray] w (FP w m s T k)
theorem Ahb {k:Ak} (hin:AkIn k) (h0:k.kd≠0) (h16:k.kd<16):∃ f,DoFn k f:=by
 have hkd:=hin.kd;have hc:k.kd=1∨k.kd=2∨k.kd=3∨k.kd=4∨k.kd=5∨k.kd=6∨k.kd=7∨k.kd=8∨k.kd=9∨k.kd=10∨k.kd=11∨k.kd=12∨k.kd=13∨k.kd=14∨k.kd=15:=by omega
 rcases hc with h | h | h | h | h | h | h | h | h | h | h | h | h | h | h
 ·exact ⟨_,by rw [h]; rfl,ca_54,fun w I H=>Zz h hin w I H⟩
 ·exact ⟨_,by rw [h]; rfl,ca_55,fun w I H=>Zu h hin w I H⟩
 ·exact ⟨_,by rw [h]; rfl,ca_56,fun w I H=>Zv h hin w I H⟩
 ·exact ⟨_,by rw [h]; rfl,ca_57,fun w I H=>Abr h hin w I H⟩
 ·exact ⟨_,by rw [h]; rfl,ca_58,fun w I H=>Abs h hin w I H⟩
 ·exact ⟨_,by rw [h]; rfl,ca_59,fun w I H=>Zw h hin w I H⟩
 ·exact ⟨_,by rw [h]; rfl,ca_60,fun w I H=>S1 h hin w I H⟩
 ·exact ⟨_,by rw [h]; rfl,ca_61,fun w I H=>Uc h hin w I H⟩
 ·exact ⟨_,by rw [h]; rfl,ca_62,fun w I H=>Z0 h hin w I H⟩
 ·exact ⟨_,by rw [h]; rfl,Acg,fun w I H=>Px (.inl h) hin w I H⟩
 ·exact ⟨_,by rw [h]; rfl,Acg,fun w I H=>Px (.inr h) hin w I H⟩
 ·exact ⟨_,by rw [h]; rfl,ca_64,fun w I H=>Zx h hin w I H⟩
 ·exact ⟨_,by rw [h]; rfl,ca_65,fun w I H=>WG h hin w I H⟩
 ·exact ⟨_,by rw [h]; rfl,ca_66,fun w I H=>Abt h hin w I H⟩
 ·exact ⟨_,by rw [h]; rfl,ca_67,fun w I H=>WI h hin w I H⟩
theorem Z8 {s:Ld} {k:Ak} (h:k.kd=0∨16≤k.kd):CR s k s ⟨1,[]⟩:=by
 have h1:EI s k=s:=by
  unfold EI;rw [if_neg (by omega),if_neg (by omega),if_neg (by omega),if_neg (by omega),if_neg (by omega),if_neg (by omega),if_neg (by omega),if_neg (by omega),if_neg (by omega)]
 have h2:Fe s k=⟨1,[]⟩:=by
  unfold Fe;rw [if_neg (by omega),if_neg (by omega),if_neg (by omega),if_neg (by omega),if_neg (by omega),if_neg (by omega),if_neg (by omega),if_neg (by omega),if_neg (by omega),if_neg (by omega),if_neg (by omega),if_neg (by omega),if_neg (by omega)]
 unfold CR;rw [if_neg (by omega)];exact ⟨h1.symm,h2.symm⟩
/-- From what a function answers to what Do does. -/
theorem Uf {w w':World} {m m':Lm} {s s':Ld} {T T':Nat→Prop} {k:Ak} {P:List (Nat × Obj)} {a:Option Addr} {n c:Nat} {full:List Value} {p:Rp} (I:LdIn w m s T) (H:Ctx w (Di m s) w' (P++(LL m' s'++ent a 2 full))) (O:OS a n c 1 full (p.n.map Dq)) (hst:CR s k s' p) (I7:LdIn w' m' s' T') (g:Grows T T' w) (hbl:m'.bl=m.bl) :
  Acz w m s T k (.agg #[.int .i64 p.e,.slice a n c]) w':=⟨a,n,c,full,p,s',m',T',rfl,O,hst,H.right,I7,g,hbl⟩
/-- The slots of the region in which the function is called. -/
abbrev dL:List Nat:=[23,24,25,26,27,28,29,22,30,31,6]
theorem Ahc:∀ i j,i<11→j<11→dL.getD i 0=dL.getD j 0→i=j:=fun i j hi hj h=>by
 have h1:∀ a b:Fin 11,dL.getD a.val 0=dL.getD b.val 0→a=b:=by decide
 exact congrArg Fin.val (h1 ⟨i,hi⟩ ⟨j,hj⟩ h)
abbrev dA:Nat→List Nat:=ancT 11 [[],[0],[0,1],[0,1,2],[],[],[0,1,2,3,4,5],[0,1,2,3,4,5,6],[0,1,2,3,4,5,6,7],[0,1,2,3,4,5,6,7],[0,1,2,3,4,5,6,7,8]]
/-- What each of them makes. -/
def gD (b3 b5 bl:Nat) (k:Ak) (f:FuncId) (R:Value→Value→World→Prop):Nat→(Nat→Value)→World→Prop
 | 0,V,_=>V 0 = .pointer (some ⟨b3,0+0,none⟩)
 | 1,V,_=>V 1 = .int .u8 k.kd
 | 2,V,_=>V 2 = .pointer (some ⟨b5,0+k.kd.toNat*1,none⟩)
 | 3,V,_=>V 3=fnV f
 | 4,V,_=>V 4 = .pointer (some ⟨bl,0,none⟩)
 | 5,V,_=>V 5 = .agg (Cd k).toArray
 | 6,V,w=>∃ x y,V 6 = .tuple #[x,y]∧R x y w
 | 7,V,_=>V 7=V 6
 | 8,V,_=>∃ x y,V 7 = .tuple #[x,y]∧V 8=x
 | 9,V,_=>∃ x y,V 7 = .tuple #[x,y]∧V 9=y
 | 10,V,_=>V 10=V 8
 | _,_,_=>True
theorem Ahd {b3 b5 bl:Nat} {k:Ak} {f:FuncId} {R:Value→Value→World→Prop}:∀ (i j:Nat) (v:Value) (V:Nat→Value) (w:World),i<11→j≠i→j∉dA i→gD b3 b5 bl k f R i V w→gD b3 b5 bl k f R i (KL V j v) w
 | 0,j,v,V,w,_,h1,_,h=>(Dw (Ne.symm h1)).trans h
 | 1,j,v,V,w,_,h1,_,h=>(Dw (Ne.symm h1)).trans h
 | 2,j,v,V,w,_,h1,_,h=>(Dw (Ne.symm h1)).trans h
 | 3,j,v,V,w,_,h1,_,h=>(Dw (Ne.symm h1)).trans h
 | 4,j,v,V,w,_,h1,_,h=>(Dw (Ne.symm h1)).trans h
 | 5,j,v,V,w,_,h1,_,h=>(Dw (Ne.symm h1)).trans h
 | 6,j,v,V,w,_,h1,_,h=>by
  obtain ⟨x,y,h3,h4⟩:=h;exact ⟨x,y,(Dw (Ne.symm h1)).trans h3,h4⟩
 | 7,j,v,V,w,_,h1,h2,h=>by
  have h6:j≠6:=fun e=>h2 (by rw [e]; decide);exact ((Dw (Ne.symm h1)).trans h).trans (Dw (Ne.symm h6)).symm
 | 8,j,v,V,w,_,h1,h2,h=>by
  have h7:j≠7:=fun e=>h2 (by rw [e]; decide);obtain ⟨x,y,h3,h4⟩:=h;exact ⟨x,y,(Dw (Ne.symm h7)).trans h3,(Dw (Ne.symm h1)).trans h4⟩
 | 9,j,v,V,w,_,h1,h2,h=>by
  have h7:j≠7:=fun e=>h2 (by rw [e]; decide);obtain ⟨x,y,h3,h4⟩:=h;exact ⟨x,y,(Dw (Ne.symm h7)).trans h3,(Dw (Ne.symm h1)).trans h4⟩
 | 10,j,v,V,w,_,h1,h2,h=>by
  have h8:j≠8:=fun e=>h2 (by rw [e]; decide);exact ((Dw (Ne.symm h1)).trans h).trans (Dw (Ne.symm h8)).symm
 | i+11,_,_,_,_,h,_,_,_=>by omega
theorem gD_w {b3 b5 bl:Nat} {k:Ak} {f:FuncId} {R:Value→Value→World→Prop}:∀ (i:Nat) (V:Nat→Value) (w w':World),i<11→i≠6→6∉dA i→gD b3 b5 bl k f R i V w→gD b3 b5 bl k f R i V w'
 | 0,_,_,_,_,_,_,h=>h
 | 1,_,_,_,_,_,_,h=>h
 | 2,_,_,_,_,_,_,h=>h
 | 3,_,_,_,_,_,_,h=>h
 | 4,_,_,_,_,_,_,h=>h
 | 5,_,_,_,_,_,_,h=>h
 | 6,_,_,_,_,h,_,_=>absurd rfl h
 | 7,_,_,_,_,_,_,h=>h
 | 8,_,_,_,_,_,_,h=>h
 | 9,_,_,_,_,_,_,h=>h
 | 10,_,_,_,_,_,_,h=>h
 | i+11,_,_,_,h,_,_,_=>by omega
structure DoZ where
 a:Option Addr
 n:Nat
 c:Nat
 full:List Value
 code:Int
 l:List Int
 s:Ld
 m:Lm
set_option maxRecDepth 20000 in
set_option maxHeartbeats 1000000 in
theorem do_ok {m:Lm} {s:Ld} {T:Nat→Prop} {k:Ak} (hin:AkIn k) (w:World) (I:LdIn w m s T) (H0:Ctx w (Di m s) w (LL m s)) :
  Ret Tryz.prog 18 #[ptr m.bl,.agg (Cd k).toArray] w (Acz w m s T k):=by
 obtain ⟨w0,rfl⟩:∃ w0,w0=w:=⟨_,rfl⟩;have hkd:=hin.kd;obtain ⟨S0,hS0⟩:∃ S,S=Di m s:=⟨_,rfl⟩;have H:Ctx w0 S0 w0 (LL m s):=by rw [hS0]; exact H0
 refine Au (fn:=Tryz.f18) Tryz.func18 U [.pointer (some ⟨m.bl,0,none⟩),.agg (Cd k).toArray] U (by kernel_rfl) ?_;refine Ad (Bu U (Cd k) (.agg _) U U H ?_);rintro b3 w - H;refine AZ U HA H ?_;rintro b4 w - H;refine Ab (Aa (Aw (Ad (A3 U U (Cq U XJ U ?_)))));refine Ab (Aa (Aq _ U ?_ ?_))
 ·intro h1;cases h1
 ·intro h1;refine Av (Aa (Ad (V2 doT U Xj XH XK (by kernel_rfl) ?_)));refine AZ U XK H ?_;rintro b5 w - H;refine Bn U Af4 U U U (by exact (by simp [Be])) H at0 U ?_;rintro w H;refine Ab (Aa (Aw (Ad (Cw (α:=Unit) 2093056 (fun _=>[(20,.bool ((decide (k.kd=0) || decide (16≤k.kd))))]) (fun _ w'=>Ctx w0 S0 w' ((b5,Bl 113 doT)::(b4,Bl 37 [.int .i64 0,.slice none 0 0])::(b3,Bl 40 (Cd k))::LL m s)) U ?_ ?_))))
  ·refine Ah U PT U (AE U ag_5 U H at2 U (Cz U U U (A7 U U (AV 15 U ?_ ?_))))
   ·intro h1;replace h1:=AM h1;refine Ag U (Ag U (Ag U (Ag U (AG U U (.bool _) U (Ab ?_)))));exact ⟨rfl,(),rfl,⟨congrArg Value.bool (by rw [Bool.eq_iff_iff]; simp_all; try omega),trivial⟩,H⟩
   ·intro h2;replace h2:=AN h2;refine Ah U PT U (AE U ag_5 U H at2 U (Gn U U un_5 PY (by omega) (by omega) ?_));refine C3 U U U (AJ U U (.bool _) U (Ab ?_));exact ⟨rfl,(),rfl,⟨congrArg Value.bool (by rw [Bool.eq_iff_iff]; simp_all; try omega),trivial⟩,H⟩
  rintro - j20 w H;refine Aq _ U ?_ ?_
  ·intro h2;have h2':k.kd=0∨16≤k.kd:=by simpa using h2
   refine Ad (B7 [.int .i64 1,.slice none 0 0] U U2 HA (by kernel_rfl) ?_);refine Bn U EY U U U (by exact (by simp [Be])) H at1 U ?_;rintro w H;refine Ab (Aa (A5 (Ao (JC U U U JY EY H at1 U ?_))));have H17:=H;subst hS0;exact Uf (P:=[_,_,_]) (m':=m) (s':=s) (T':=T) (p:=⟨1,[]⟩) (full:=[]) I (H17.app_nil) OS.nil (Z8 h2') (I.grow H17.ext (fun x hx => .inl (I.own x hx)) (Grows.refl _ _) fun x hx=>Nat.lt_of_lt_of_le (I.low x hx) H17.size) (Grows.refl _ _) U
  ·intro h2;have h2':¬ (k.kd=0∨16≤k.kd):=by simpa using h2
   obtain ⟨f,hf1,hf2,hf3⟩:=Ahb hin (fun h=>h2' (.inl h)) (by omega)
   have hown:∀ x,x∈[b5,b4,b3]→T x∨w0.heap.size≤x:=fun x hx=>by
    simp only [List.mem_cons,List.not_mem_nil,or_false] at hx
    rcases hx with rfl | rfl | rfl
    ·exact (H.own (_,_) (List.mem_of_getElem? at0)).imp_left fun h=>I.own _ (hS0 ▸ h)
    ·exact (H.own (_,_) (List.mem_of_getElem? at1)).imp_left fun h=>I.own _ (hS0 ▸ h)
    ·exact (H.own (_,_) (List.mem_of_getElem? at2)).imp_left fun h=>I.own _ (hS0 ▸ h)
   have hlt:∀ x,x∈[b5,b4,b3]→x<w.heap.size:=fun x hx=>by
    simp only [List.mem_cons,List.not_mem_nil,or_false] at hx
    rcases hx with rfl | rfl | rfl
    ·exact Bb (H.get at0)
    ·exact Bb (H.get at1)
    ·exact Bb (H.get at2)
   have g1:Grows T (fun x=>T x∨x∈[b5,b4,b3]) w0:=⟨fun x hx => .inl hx,fun x hx=>hx.elim .inl (hown x)⟩;have I1:LdIn w m s (fun x=>T x∨x∈[b5,b4,b3]):=I.grow H.ext (fun x hx => .inl (I.own x (hS0 ▸ hx))) g1 fun x hx=>hx.elim (fun h=>Nat.lt_of_lt_of_le (I.low x h) H.size) (hlt x);refine Av (Aa (DE 4290773184 (α:=DoZ) (fun z=>[(6,.slice z.a z.n z.c),(7,.int .i64 z.code)]) (fun z w'=>OS z.a z.n z.c 1 z.full (z.l.map Dq)∧CR s k z.s (rp z.l z.code)∧Ctx w0 S0 w' ((b5,Bl 113 doT)::(b4,Bl 37 [.int .i64 0,.slice none 0 0])::(b3,Bl 40 (Cd k))::(LL z.m z.s++ent z.a 2 z.full))∧LdIn w' z.m z.s (fun x=>(T x∨x∈[b5,b4,b3])∨x∈Di z.m z.s)∧z.m.bl=m.bl) U ?_ ?_))
   ·skip
    have H9:=H.drew;have I2:=I1.grow (Ext.drew [] _) (fun x hx=>by cases hx) (Grows.refl _ _) I1.low;refine ZW (n:=11) (N:=12) (anc:=dA) 6 (fun i=>dL.getD i 0) (gD b3 b5 m.bl k f (fun x y w'=>∃ z:DoZ,x = .slice z.a z.n z.c∧y = .int .i64 z.code∧OS z.a z.n z.c 1 z.full (z.l.map Dq)∧CR s k z.s (rp z.l z.code)∧Ctx w0 S0 w' ((b5,Bl 113 doT)::(b4,Bl 37 [.int .i64 0,.slice none 0 0])::(b3,Bl 40 (Cd k))::(LL z.m z.s++ent z.a 2 z.full))∧LdIn w' z.m z.s (fun x=>(T x∨x∈[b5,b4,b3])∨x∈Di z.m z.s)∧z.m.bl=m.bl)) (show Tryz.prog.follows .mixedOrders=true by kernel_rfl) U (by decide) (by kernel_rfl) (V8 _) (by decide) Ahc Ahd gD_w ?_ ?_ ?_
    ·intro i o e' w' V hi hic ho hold hg hG hw;have h3:e'.g 3 = .pointer (some ⟨b3,0,none⟩):=(hold 3 ((by decide:∀ j,j<11→3≠dL.getD j 0))).trans rfl;have h5:e'.g 5 = .pointer (some ⟨b5,0,none⟩):=(hold 5 ((by decide:∀ j,j<11→5≠dL.getD j 0))).trans rfl;have h0:e'.g 0 = .pointer (some ⟨m.bl,0,none⟩):=(hold 0 ((by decide:∀ j,j<11→0≠dL.getD j 0))).trans rfl;have hcs:i=0∨i=1∨i=2∨i=3∨i=4∨i=5∨i=7∨i=8∨i=9∨i=10:=by omega
     rcases hcs with rfl | rfl | rfl | rfl | rfl | rfl | rfl | rfl | rfl | rfl
     ·cases Option.some.inj ho;exact Ah (off:=0) U (by kernel_rfl) h3 (Ab ⟨_,rfl,rfl,DL ..⟩)
     ·cases Option.some.inj ho;have hww:=hw (by decide);subst hww;exact Bd U ag_5 ((hg 0 (by decide)).trans (hG 0 (by decide))) (v := .int .u8 k.kd) (by rw [Aj (H9.get at2)]; rfl) (Ab ⟨_,rfl,rfl,DL ..⟩)
     ·cases Option.some.inj ho;exact Mc U Xj XH h5 ((hg 1 (by decide)).trans (hG 1 (by decide))) (by omega) (by omega) (Ab ⟨_,rfl,rfl,DL ..⟩)
     ·cases Option.some.inj ho;have hww:=hw (by decide);subst hww;exact Bd U Ac8 ((hg 2 (by decide)).trans (hG 2 (by decide))) (v:=fnV f) (by rw [Aj (H9.get at0),Nat.zero_add,Nat.mul_one]; exact hf1) (Ab ⟨_,rfl,rfl,DL ..⟩)
     ·cases Option.some.inj ho;exact De U _ h0 (Ab ⟨_,rfl,rfl,DL ..⟩)
     ·cases Option.some.inj ho;have hww:=hw (by decide);subst hww;exact Cn (Cd k) U Acd Aco h3 U (CU (b:=b3) (t:=40) (l:=Cd k) (H9.get at2) 0 (Cd k) U) (Ab ⟨_,rfl,rfl,DL ..⟩)
     ·cases Option.some.inj ho;exact De U (V 6) (hg 6 (by decide)) (Ab ⟨_,rfl,rfl,(DL ..).trans (Dw (by decide)).symm⟩)
     ·cases Option.some.inj ho;obtain ⟨x,y,h6,-⟩:=hG 6 (by decide);have h7:V 7 = .tuple #[x,y]:=(hG 7 (by decide)).trans h6;exact AO (v:=x) U ((hg 7 (by decide)).trans h7) U (Ab ⟨_,rfl,rfl,x,y,(Dw (by decide)).trans h7,DL ..⟩)
     ·cases Option.some.inj ho;obtain ⟨x,y,h6,-⟩:=hG 6 (by decide);have h7:V 7 = .tuple #[x,y]:=(hG 7 (by decide)).trans h6;exact AO (v:=y) U ((hg 7 (by decide)).trans h7) U (Ab ⟨_,rfl,rfl,x,y,(Dw (by decide)).trans h7,DL ..⟩)
     ·cases Option.some.inj ho;exact CK U (V 8) (hg 8 (by decide)) (Ab ⟨_,rfl,rfl,(DL ..).trans (Dw (by decide)).symm⟩)
    ·intro o e' V ho hold hg hG;cases Option.some.inj ho;refine F8 U ((hg 3 (by decide)).trans (hG 3 (by decide))) hf2 (hf3 _ I2 (Ctx.lend (Ctx.comm (L:=[_,_,_]) (L':=LL m s) H9))) (show [e'.g 27,e'.g 28]=_ by rw [show e'.g 27=_ from (hg 4 (by decide)).trans (hG 4 (by decide)),show e'.g 28=_ from (hg 5 (by decide)).trans (hG 5 (by decide))]) ?_;rintro v w2 ⟨ar,nr,cr,fr,code,lr,s',m',rfl,Or,hst,H7,hnew,I7,hbl⟩;exact Ab ⟨_,rfl,_,_,DL ..,⟨ar,nr,cr,fr,code,lr,s',m'⟩,rfl,rfl,Or,hst,(Ctx.back (L1:=LL m s) (Ctx.comm (L:=[_,_,_]) (L':=LL m s) H9) H7).comm,I7,hbl⟩
    ·intro e' w' V hds hold hg hG;obtain ⟨x,y,h6,z,rfl,rfl,hJ⟩:=hG 6 (by decide);obtain ⟨x1,y1,h71,h8⟩:=hG 8 (by decide);obtain ⟨x2,y2,h72,h9⟩:=hG 9 (by decide);have h7:V 7=V 6:=hG 7 (by decide);have h10:V 10=V 8:=hG 10 (by decide);rw [h7,h6] at h71 h72;cases h71;cases h72;refine CK U (.int .i64 z.code) ((hg 9 (by decide)).trans h9) (Ab ?_);exact ⟨z,hds,⟨(I3 (by decide)).trans ((hg 10 (by decide)).trans (h10.trans h8)),Jk ..,trivial⟩,hJ⟩
   ·rintro ⟨ar,nr,cr,fr,code,lr,s',m'⟩ j8 w ⟨Or,hst,H8,I7,hbl⟩; dsimp only at Or hst H8 I7 hbl; obtain ⟨w2,rfl⟩:∃ z,z=w:=⟨_,rfl⟩; clear H; have H:=Ctx.start1 (H8.get at1);have hS8:=H8.size
    have g2:Grows T (fun x=>(T x∨x∈[b5,b4,b3])∨x∈Di m' s') w0:=⟨fun x hx => .inl (.inl hx),fun x hx=>hx.elim (fun h=>h.elim .inl (hown x)) fun h=>by
     obtain ⟨y,hy,rfl⟩:=List.mem_map.1 h
     exact (H8.own y (List.mem_append_right [_,_,_] (List.mem_append_left _ hy))).imp_left fun h=>I.own _ (hS0 ▸ h)⟩
    have h4:∀ x∈[b4],((T x∨x∈[b5,b4,b3])∨x∈Di m' s')∨w2.heap.size≤x:=fun x hx=>by rw [List.mem_singleton.1 hx]; exact .inl (.inl (.inr (by simp)))
    refine Aw (Ad (Af U U (CI U U U (Ab (Aa (Aq _ U ?_ ?_))))))
    ·intro h3;replace h3:=CE h3;refine Ad (Af U U (B7 [.int .i64 code,.slice none 0 0] U U2 HA (by kernel_rfl) ?_));refine Bn U EY U U U (by exact (by simp [Be])) H at0 U ?_;rintro w H;refine Ab (Aa (A5 (Ao (JC U U U JY EY H at0 U ?_))));have H17:=H;subst hS0;have hp:rp lr code=⟨code,[]⟩:=Sp h3;rw [hp] at hst;exact Uf (P:=[_,_,_]) (m':=m') (s':=s') (p:=⟨code,[]⟩) (full:=[]) I (Ctx.app_nil (Ctx.left (L:=(_::_::_::LL m' s')) (Ctx.mid (B:=[_]) (L:=[_]) H8 H17))) OS.nil hst (I7.grow H17.ext h4 (Grows.refl _ _) fun x hx=>Nat.lt_of_lt_of_le (I7.low x hx) H17.size) g2 hbl
    ·intro h3;replace h3:=CF h3;obtain rfl:code=0:=h3;refine Av (Aa (Ad (A4 U U (B7 [.int .i64 0,.slice ar nr cr] U U2 HA (by kernel_rfl) ?_))));refine Bn U EY U U U (by exact (by simp [Be])) H at0 U ?_;rintro w H;refine Ab (Aa (A5 (JC U U U JY EY H at0 U ?_)));have H17:=H;subst hS0;exact Uf (P:=[_,_,_]) (m':=m') (s':=s') (p:=⟨0,lr⟩) I (Ctx.mid (B:=[_]) (L:=[_]) H8 H17) Or hst (I7.grow H17.ext h4 (Grows.refl _ _) fun x hx=>Nat.lt_of_lt_of_le (I7.low x hx) H17.size) g2 hbl
end Go.Proofs.YtdagmpmdcgedcaaGreat

/- States and replies that are the same are told to be; Is. -/
namespace Go.Proofs.YtdagmpmdcgedcaaGreat
open Go.GV
attribute [local irreducible] AB W Wq Wt

set_option maxRecDepth 20000 in
set_option maxHeartbeats 2000000 in
theorem Z9 {s:Ld} {z y:StZ} (w:World) (Z:StAt w s z) (Y:StAt w s y) (hl1:s.acs.length≤1000000) (hl2:s.ds.length≤1000000) (hl3:s.rn.length≤1000000) (hB:∀ r∈s.rn,RBnd r) :
  Ret Tryz.prog 19 #[.agg (stC s z).toArray,.agg (stC s y).toArray] w fun v w'=>v = .bool true∧Ext [] w w':=by
 obtain ⟨w0,rfl⟩:∃ w0,w0=w:=⟨_,rfl⟩;have H:=Ctx.start w0 [];refine Au (fn:=Tryz.f19) Tryz.func19 U [.agg (stC s z).toArray,.agg (stC s y).toArray] U (by kernel_rfl) ?_;refine Ad (Bu U (stC s z) (.agg _) U U H ?_);rintro b2 w - H;refine Bu U (stC s y) (.agg _) U U H ?_;rintro b3 w - H;refine Ai U U (Ab (Aa (Ad (Cw (α:=Unit) 35184372088816 (fun _=>[(4,.bool (true))]) (fun _ w'=>Ctx w0 [] w' [(b3,Bl 32 (stC s y)),(b2,Bl 32 (stC s z))]) U ?_ ?_))))
 ·refine Ah U Uv U (AE U Bw U H at1 U (Ah U Uv U (AE U Bw U H at0 U (Cz U U U (A7 U U (AV 10 U ?_ ?_))))))
  ·intro h1;replace h1:=AM h1;refine Ah U Uy U (AE U B2 U H at1 U (Ah U Uy U (AE U B2 U H at0 U (Cz U U U (AG U U (.bool _) U (A7 U U (AV 17 U ?_ ?_)))))))
   ·intro h2;replace h2:=AM h2;refine Ah U U0 U (AE U B2 U H at1 U (Ah U U0 U (AE U B2 U H at0 U (Cz U U U (AG U U (.bool _) U (A7 U U (AV 24 U ?_ ?_)))))))
    ·intro h3;replace h3:=AM h3;refine Ah U Uw U (AE U Hz U H at1 U (Ah U Uw U (AE U Hz U H at0 U (Al U ca_68 (Wj z.aA y.aA _ z.cA _ y.cA s.acs s.acs _ (Z.A.ext0 H.ext) U hl1 (Y.A.ext0 H.ext) U hl1) U ?_))));rintro v w ⟨rfl,hx29⟩;replace H:=H.call hx29;rw [decide_eq_true rfl];refine AG U U (.bool _) U (A7 U U (AV 31 U ?_ ?_))
     ·intro h4;refine Ah U Ux U (AE U Xi U H at1 U (Ah U Ux U (AE U Xi U H at0 U (Al U ca_69 (Wk z.aD y.aD _ z.cD _ y.cD s.ds s.ds _ (Z.D.ext0 H.ext) U hl2 (Y.D.ext0 H.ext) U hl2) U ?_))));rintro v w ⟨rfl,hx36⟩;replace H:=H.call hx36;rw [decide_eq_true rfl];refine AG U U (.bool _) U (A7 U U (AV 38 U ?_ ?_))
      ·intro h5;refine Ah U Uz U (AE U Acc U H at1 U (Ah U Uz U (AE U Acc U H at0 U (Al U ca_70 (WF z.aR y.aR _ z.cR _ y.cR s.rn z.qs y.qs _ (Z.R.ext0 H.ext) U hl3 (Y.R.ext0 H.ext) U Z.n Y.n (fun x hx=>(Z.K x hx).ext0 H.ext) (fun x hx=>(Y.K x hx).ext0 H.ext) hB) U ?_))));rintro v w ⟨rfl,hx43⟩;replace H:=H.call hx43;refine AG U U (.bool _) U (Ai U U (Ab ?_));exact ⟨rfl,(),rfl,⟨congrArg Value.bool (by rfl),trivial⟩,H⟩
      ·intro h6;refine Ag U (Ag U (Ag U (Ag U (Ag U (AJ U U (.bool _) U (Ai U U (Ab ?_)))))));exact ⟨rfl,(),rfl,⟨congrArg Value.bool (by (simp_all; done)),trivial⟩,H⟩
     ·intro h7;refine Ag U (Ag U (Ag U (Ag U (Ag U (AJ U U (.bool _) U (A7 U U (Ag U (Ag U (Ag U ?_)))))))));refine Ag U (Ag U (AJ U U (.bool _) U (Ai U U (Ab ?_))));exact ⟨rfl,(),rfl,⟨congrArg Value.bool (by (simp_all; done)),trivial⟩,H⟩
    ·intro h8;replace h8:=AN h8;refine Ag U (Ag U (Ag U (Ag U (Ag U (AJ U U (.bool _) U (A7 U U (Ag U (Ag U (Ag U ?_)))))))));refine Ag U (Ag U (AJ U U (.bool _) U (A7 U U (Ag U (Ag U (Ag U (Ag U (Ag U (AJ U U (.bool _) U ?_)))))))));refine Ai U U (Ab ?_);exact ⟨rfl,(),rfl,⟨congrArg Value.bool (by (simp_all; done)),trivial⟩,H⟩
   ·intro h9;replace h9:=AN h9;refine Ag U (Ag U (Ag U (Ag U (Ag U (AJ U U (.bool _) U (A7 U U (Ag U (Ag U (Ag U ?_)))))))));refine Ag U (Ag U (AJ U U (.bool _) U (A7 U U (Ag U (Ag U (Ag U (Ag U (Ag U (AJ U U (.bool _) U ?_)))))))));refine A7 U U (Ag U (Ag U (Ag U (Ag U (Ag U (AJ U U (.bool _) U (Ai U U (Ab ?_))))))));exact ⟨rfl,(),rfl,⟨congrArg Value.bool (by (simp_all; done)),trivial⟩,H⟩
  ·intro h10;replace h10:=AN h10;refine Ag U (Ag U (Ag U (Ag U (Ag U (AJ U U (.bool _) U (A7 U U (Ag U (Ag U (Ag U ?_)))))))));refine Ag U (Ag U (AJ U U (.bool _) U (A7 U U (Ag U (Ag U (Ag U (Ag U (Ag U (AJ U U (.bool _) U ?_)))))))));refine A7 U U (Ag U (Ag U (Ag U (Ag U (Ag U (AJ U U (.bool _) U (A7 U U (Ag U (Ag U ?_)))))))));refine Ag U (Ag U (Ag U (AJ U U (.bool _) U (Ai U U (Ab ?_)))));exact ⟨rfl,(),rfl,⟨congrArg Value.bool (by (simp_all; done)),trivial⟩,H⟩
 rintro - j4 w H;refine A5 (AA (v:=(.bool _)) U U U ?_);exact ⟨rfl,H.ext⟩
set_option maxRecDepth 20000 in
set_option maxHeartbeats 2000000 in
theorem JQ (a b:Option Addr) (n m c d:Nat) (l:List Int) (w:World) (R:Rd w a 1 I1 l) (hn:l.length=n) (hn2:n≤1000000) (Ry:Rd w b 1 I1 l) (hm:l.length=m) :
  Ret Tryz.prog 27 #[.agg #[.int .i64 0,.slice a n c],.slice b m d] w fun v w'=>v = .bool true∧Ext [] w w':=by
 subst hn hm;obtain ⟨w0,rfl⟩:∃ w0,w0=w:=⟨_,rfl⟩;have H:=Ctx.start w0 [];refine Au (fn:=Tryz.f27) Tryz.func27 U [.agg #[.int .i64 0,.slice a l.length c],.slice b l.length d] U (by kernel_rfl) ?_;refine Ad (Bu U [.int .i64 0,.slice a l.length c] (.agg _) U U H ?_);rintro b2 w - H;refine Ai U U (Ab (Aa (Aw (Ad (Cw (α:=Unit) 131008 (fun _=>[(16,.bool (false))]) (fun _ w'=>Ctx w0 [] w' [(b2,Bl 37 [.int .i64 0,.slice a l.length c])]) U ?_ ?_)))))
 ·refine Ah U PR U (AE U Ut U H at0 U (CI U U U (A7 U U (AV 9 U ?_ ?_))))
  ·intro h1;replace h1:=CE h1;refine Ag U (Ag U (Ag U (Ag U (Ag U (Ag U (AG U U (.bool _) U (Ab ?_)))))));exact ⟨rfl,(),rfl,⟨congrArg Value.bool (by (simp_all; done)),trivial⟩,H⟩
  ·intro h2;replace h2:=CF h2;refine Ah U PS U (AE U BL U H at0 U (Bf U AR U (A4 U U (Bf U AR U (CI U U U (AJ U U (.bool _) U (Ab ?_)))))));exact ⟨rfl,(),rfl,⟨congrArg Value.bool (by (simp_all; done)),trivial⟩,H⟩
 rintro - j16 w H;refine G9 U (Av (Aa (Aw (Ad (Ae U U (Ab (Aa (Az (Bv 8589803568 (α:=Nat) (fun i=>[(5,.int .i64 (i:Int))]) (fun i w'=>i≤l.length∧Ctx w0 [] w' [(b2,Bl 37 [.int .i64 0,.slice a l.length c])]) (fun i=>l.length - i) 0 U ?_ ?_ ?_)))))))))
 ·exact ⟨rfl,trivial⟩
 ·exact ⟨Nat.zero_le _,H⟩
 ·clear H;rintro i j w ⟨hi,H⟩;refine Aw (Ad (Af U U (A4 U U (Bf U AR U (Bj U U U (Ab (Aa (Aq _ U ?_ ?_))))))))
  ·intro h2;replace h2:=AM h2;obtain ⟨x,hx⟩:=AD (l:=l) (i:=i) (by omega);refine Av (Aa (Aw (Az (Dx (fun x=>x=_) Bq (by kernel_rfl) U ?_))));refine A2 U PS U (BU U BL U (by rintro _ rfl; exact H.drew) at0 U ?_);refine AU U U (BM R U AR Bx U U (by omega) (by omega) (by rfl) ?_);refine BP U Bw U (by rintro _ rfl; exact (((R.ext0 H.drew.ext).one (f:=Dq) hx))) ?_;refine Ca U U (AU U U (BM Ry U AR Bx U U (by omega) (by omega) (by rfl) ?_));refine BP U Bw U (by rintro _ rfl; exact (((Ry.ext0 H.drew.ext).one (f:=Dq) hx))) ?_;refine Ng U U U (BK ?_);rintro _ rfl;replace H:=H.drew;refine Aq _ U ?_ ?_
   ·intro h3;replace h3:=CE h3;omega
   ·intro h3;replace h3:=CF h3;refine Av (A6 (Aa (A0 (Af U U (Ay U U U (by omega) (by omega) ?_)))));refine Ae U U (Ab (Aa ?_));exact ⟨i+1,rfl,⟨rfl,trivial⟩,⟨by omega,H⟩,by omega⟩
  ·intro h2;replace h2:=AN h2;refine Bt (Am (Am (AK (Aa (Ad (Ai U U (Ab (Aa (A5 (AA (v:=(.bool _)) U U U ?_))))))))));exact ⟨rfl,H.ext⟩
end Go.Proofs.YtdagmpmdcgedcaaGreat

/- The law's example. -/
namespace Go.Proofs.YtdagmpmdcgedcaaGreat
open Go.GV
attribute [local irreducible] AB W Wq Wt

theorem G0 {s s':Ld} {k:Ak} {p:Rp} (h:CR s k s' p) (hk:¬ (k.kd=10∨k.kd=11)):s'=EI s k∧p=Fe s k:=by
 unfold CR at h;rw [if_neg hk] at h;exact h
theorem Ctx.did {w0 w w':World} {S:List Nat} {B E:List (Nat × Obj)} {m m':Lm} {s s':Ld} (H:Ctx w0 S w (B++LL m s)) (H7:Ctx w (Di m s) w' (LL m' s'++E)):Ctx w0 S w' ((E++B)++LL m' s'):=by
 have h1:=Ctx.back (L1:=LL m s) (L2:=B) H.comm H7;rw [List.append_assoc] at h1;exact h1.comm
/-- A ledger at bl, beside the blocks B; all of them new since w0. -/
structure Led (bl:Nat) (w0 w:World) (B:List (Nat × Obj)) (m:Lm) (s:Ld) (T:Nat→Prop):Prop where
 H:Ctx w0 [] w (B++LL m s)
 I:LdIn w m s T
 e:m.bl=bl
theorem Led.next {bl:Nat} {w0 w w':World} {B E:List (Nat × Obj)} {m:Lm} {s:Ld} {T:Nat→Prop} (L:Led bl w0 w B m s T) (H:Ctx w [] w' E):Led bl w0 w' (E++B) m s T :=
 ⟨by rw [List.append_assoc]; exact Ctx.back (L1:=[]) (L2:=B++LL m s) L.H H,L.I.grow H.ext (by simp) (Grows.refl _ _) fun x hx=>Nat.lt_of_lt_of_le (L.I.low x hx) H.size,L.e⟩
theorem IU {bl:Nat} {w0 w:World} {B:List (Nat × Obj)} {m:Lm} {s:Ld} {T:Nat→Prop} {k:Ak} (L:Led bl w0 w B m s T) (hin:AkIn k) :
  Ret Tryz.prog 18 #[ptr bl,.agg (Cd k).toArray] w fun v w'=>∃ a n c full p s' m' T',v = .agg #[.int .i64 p.e,.slice a n c]∧OS a n c 1 full (p.n.map Dq)∧CR s k s' p∧Led bl w0 w' (ent a 2 full++B) m' s' T'∧Grows T T' w∧Ext (Di m s) w w':=by
 obtain ⟨H,I,e⟩:=L;subst e;refine Ret.mono (do_ok hin w I (Ctx.lend (L1:=LL m s) H.comm)) fun v w' h=>?_;obtain ⟨a,n,c,full,p,s',m',T',rfl,O,hst,H7,I7,g,hb⟩:=h;exact ⟨a,n,c,full,p,s',m',T',rfl,O,hst,⟨Ctx.did H H7,I7,hb⟩,g,H7.ext⟩
abbrev ak (kd a b x w u id:Int):Ak:=⟨kd,a,b,x,w,u,id⟩
theorem Lx {kd a b x w u id:Int} (h:(0≤kd∧kd≤255)∧(-9223372036854775808≤a∧a≤9223372036854775807)∧(-9223372036854775808≤b∧b≤9223372036854775807)∧(-9223372036854775808≤x∧x≤9223372036854775807)∧(-9223372036854775808≤w∧w≤9223372036854775807)∧(-9223372036854775808≤u∧u≤9223372036854775807)∧(0≤id∧id≤18446744073709551615)):AkIn ⟨kd,a,b,x,w,u,id⟩:=⟨h.1,h.2.1,h.2.2.1,h.2.2.2.1,h.2.2.2.2.1,h.2.2.2.2.2.1,h.2.2.2.2.2.2⟩
abbrev yA0:List Ac:=[⟨5,0⟩,⟨0,0⟩]
abbrev yA1:List Ac:=[⟨0,0⟩,⟨5,0⟩]
abbrev yD0:List Du:=[⟨1,0,1,9,2,3,false⟩]
abbrev yD1:List Du:=[⟨1,0,1,4,2,3,false⟩]
abbrev yE0:List Ed:=[⟨0,1,9,-2⟩,⟨2,0,5,0⟩,⟨0,2,4503599627370496,0⟩,⟨2,1,0,0⟩,⟨1,2,4503599627370496,0⟩]
theorem ye0:BA (yA0.map Dl) (opn yD0) false=yE0:=by decide
theorem ya0:ED yA0=0:=by decide
theorem yd0:ofC yD0 2=0:=by decide
theorem yb0:Dr (yA0.map Dl) yD0=true:=by decide
theorem Ahe {r:Rnd} (P:PlanR yA0 yD0 false r):Ft yA0 yD0 r=yA1∧Ga yA0 yD0 r=yD1∧EQ (opn yD0) r.fl (opn yD0).length=10∧HK (r.fl.take (opn yD0).length) (opn yD0).length=1:=by
 have hC:=Pj yb0 P;have F:=Gb ya0 yd0 hC;obtain ⟨p1,p2,p3,p4⟩:=Wz P;have hes:=P.es.trans ye0;have hN:r.N=3:=P.N;have hcmp:=P.cmp;have hlen:r.fl.length=5:=by rw [F.len,hes]; rfl
 have hg:=IG p1;rw [hN,hes] at p3 p4 hg;obtain ⟨x,hx⟩:∃ x,x=flE r.fl:=⟨_,rfl⟩;rw [← hx] at p3 p4;have o0:=p3 0 (by decide);have o1:=p3 1 (by decide);have i0:=p4.in' 0 (by decide);have i1:=p4.in' 1 (by decide);have i2:=p4.in' 2 (by decide);have i3:=p4.in' 3 (by decide)
 have hbest:=Fine.best hg p4 p3 (y:=fun i=>[5,5,0,0,5].getD i 0) (fun i hi=>by
  have hi':i<5:=hi
  match i,hi' with
  | 0,_=>decide
  | 1,_=>decide
  | 2,_=>decide
  | 3,_=>decide
  | 4,_=>decide) (fun v hv=>by
  have hv':v<3:=hv
  match v,hv' with
  | 0,_=>decide
  | 1,_=>decide
  | 2,_=>decide)
 have hc1:Gv (grE 3 yE0) (fun i=>[5,5,0,0,5].getD i 0) = -10:=by decide
 have hc2:Gv (grE 3 yE0) x = -(2*x 0):=by
  show 0+x 0 * -2+x 1*0+x 2*0+x 3*0+x 4*0=_;omega
 have e0:B6 (grE 3 yE0) x 0 = -(x 0)+x 1 - x 2:=by
  show 0+(0 - 1)*x 0+(1 - 0)*x 1+(0 - 1)*x 2+(0 - 0)*x 3+(0 - 0)*x 4=_;omega
 have c1:Cf yE0 1=5:=rfl
 have h5:x 0=5:=by
  rw [hc1,hc2] at hbest;rw [e0] at o0;rw [c1] at i1;omega
 have hby:∀ k,byK (yA0.map Dl) (opn yD0) r.cmp r.fl k=(one (1=k) - one (0=k))*5:=fun k=>by
  have:byK (yA0.map Dl) (opn yD0) r.cmp r.fl k=0+(one (1=k) - one (0=k))*x 0:=by rw [hcmp,hx]; rfl
  rw [this,h5,Int.zero_add]
 refine ⟨?_,?_,?_,?_⟩
 ·have hl:=(JP (r:=r) ya0 yd0).2.2;refine List.ext_getElem? fun i=>?_
  match i with
  | 0=>rw [Pi ya0 yd0 hC (k:=0) rfl,hby]; rfl
  | 1=>rw [Pi ya0 yd0 hC (k:=1) rfl,hby]; rfl
  | i+2=>rw [List.getElem?_eq_none (by rw [hl]; simp),List.getElem?_eq_none (by simp)]
 ·unfold Ga;rw [if_pos hC];show DS yD0 (r.fl.take 1)=_;rw [Pt (by omega),← hx,h5];rfl
 ·show 0+2*flE r.fl 0=_;rw [← hx,h5];rfl
 ·show HK (r.fl.take 1) 1=_;rw [Pt (by omega),← hx,h5];rfl
/-- What is asked in the example, and what is answered. -/
theorem Ab4 {s':Ld} {p:Rp} (h:CR ⟨0,yA0,yD0,2,[],0⟩ (ak 10 0 0 0 0 0 0) s' p):(∃ K,s'=⟨0,yA1,yD1,2,K,1⟩)∧p=⟨0,[1,10,1]⟩:=by
 unfold CR at h;rw [if_pos (.inl rfl)] at h
 rcases h with ⟨h1,-⟩ | ⟨-,r,P,rfl,rfl⟩
 ·exact absurd h1 (by decide)
 ·obtain ⟨e1,e2,e3,e4⟩:=Ahe P;refine ⟨⟨Ir [] { r with no:=0+1,day:=0 },?_⟩,?_⟩
  ·unfold Oj;dsimp only;rw [e1,e2];rfl
  ·dsimp only;rw [e3,e4];rfl
set_option maxRecDepth 20000 in
set_option maxHeartbeats 4000000 in
theorem Ug (w:World):Ret Tryz.prog 15 #[] w fun v w'=>v = .bool true∧Ext [] w w':=by
 obtain ⟨w0,rfl⟩:∃ w0,w0=w:=⟨_,rfl⟩;refine Au (fn:=Tryz.f15) Tryz.func15 U [] U (by kernel_rfl) ?_;refine Ad (Ai U U (Ab (Aa (Ad (Al U ca_16 (Ab2 _) U ?_)))));rintro v w ⟨m0,rfl,H0,I0⟩;obtain ⟨bl,hb0⟩:∃ b,m0.bl=b:=⟨_,rfl⟩;have L:Led bl w0 w [] m0 s00 (fun x=>x∈Di m0 s00):=⟨H0,I0,hb0⟩;rw [hb0];clear H0 I0 hb0;obtain ⟨w1,rfl⟩:∃ z,z=w:=⟨_,rfl⟩;have H:=Ctx.start w1 [];refine Co U U (Ab (Aa (Ad (A3 U U (B7 (Cd (ak 1 0 0 0 0 0 0)) U KW KX (by kernel_rfl) ?_)))))
 replace L:=L.next H
 refine Al U JZ (IU (k:=ak 1 0 0 0 0 0 0) L (Lx (by decide))) U ?_;clear L H;rintro v w ⟨a1,n1,c1,f1,p1,s1,m1,T1,rfl,O1,hst1,L,-,-⟩;obtain ⟨rfl,rfl⟩:s1=⟨0,[⟨0,0⟩],[],1,[],0⟩∧p1=⟨0,[0]⟩:=G0 hst1 (by decide);clear hst1;obtain ⟨w2,rfl⟩:∃ z,z=w:=⟨_,rfl⟩;have H:=Ctx.start w2 [];refine Ab (Aa (Ad (A3 U U (B7 (Cd (ak 1 0 0 0 0 0 0)) U KW KX (by kernel_rfl) ?_))))
 replace L:=L.next H
 refine Al U JZ (IU (k:=ak 1 0 0 0 0 0 0) L (Lx (by decide))) U ?_;clear L H;rintro v w ⟨a2,n2,c2,f2,p2,s2,m2,T2,rfl,O2,hst2,L,-,-⟩;obtain ⟨rfl,rfl⟩:s2=⟨0,[⟨0,0⟩,⟨0,0⟩],[],1,[],0⟩∧p2=⟨0,[1]⟩:=G0 hst2 (by decide);clear hst2;obtain ⟨w3,rfl⟩:∃ z,z=w:=⟨_,rfl⟩;have H:=Ctx.start w3 [];refine Ab (Aa (Ad (A3 U U (B7 (Cd (ak 2 0 0 5 0 0 0)) U KW KX (by kernel_rfl) ?_))))
 replace L:=L.next H
 refine Al U JZ (IU (k:=ak 2 0 0 5 0 0 0) L (Lx (by decide))) U ?_;clear L H;rintro v w ⟨a3,n3,c3,f3,p3,s3,m3,T3,rfl,O3,hst3,L,-,-⟩;obtain ⟨rfl,rfl⟩:s3=⟨0,yA0,[],1,[],0⟩∧p3=⟨0,[5,0]⟩:=G0 hst3 (by decide);clear hst3;obtain ⟨w4,rfl⟩:∃ z,z=w:=⟨_,rfl⟩;have H:=Ctx.start w4 [];refine AZ U HA H ?_;rintro b2 w - H;refine Bn U EY U U U (by exact (by simp [Be])) H at0 U ?_;rintro w H;refine Ab (Aa (Ad (A3 U U (B7 (Cd (ak 5 0 1 9 2 3 0)) U KW KX (by kernel_rfl) ?_))))
 replace L:=L.next H
 refine Al U JZ (IU (k:=ak 5 0 1 9 2 3 0) L (Lx (by decide))) U ?_;clear L H;rintro v w ⟨a4,n4,c4,f4,p4,s4,m4,T4,rfl,O4,hst4,L,-,-⟩;obtain ⟨rfl,rfl⟩:s4=⟨0,yA0,yD0,2,[],0⟩∧p4=⟨0,[1]⟩:=G0 hst4 (by decide);clear hst4;obtain ⟨w5,rfl⟩:∃ z,z=w:=⟨_,rfl⟩;have H:=Ctx.start w5 [];refine AZ U HA H ?_;rintro b3 w - H;refine Bn U EY U U U (by exact (by simp [Be])) H at0 U ?_;rintro w H;refine Ab (Aa (Ad (A3 U U (B7 (Cd (ak 10 0 0 0 0 0 0)) U KW KX (by kernel_rfl) ?_))))
 replace L:=L.next H
 refine Al U JZ (IU (k:=ak 10 0 0 0 0 0 0) L (Lx (by decide))) U ?_;clear L H;rintro v w ⟨a5,n5,c5,f5,p5,s5,m5,T5,rfl,O5,hst5,L,-,-⟩;obtain ⟨⟨K,rfl⟩,rfl⟩:=Ab4 hst5;clear hst5;obtain ⟨w6,rfl⟩:∃ z,z=w:=⟨_,rfl⟩;have H:=Ctx.start w6 [];refine AZ U HA H ?_;rintro b4 w - H;refine Bn U EY U U U (by exact (by simp [Be])) H at0 U ?_;rintro w H;refine Ab (Aa (Ad (A3 U U (B7 (Cd (ak 12 1 0 0 0 0 0)) U KW KX (by kernel_rfl) ?_))))
 replace L:=L.next H
 refine Al U JZ (IU (k:=ak 12 1 0 0 0 0 0) L (Lx (by decide))) U ?_;clear L H;rintro v w ⟨a6,n6,c6,f6,p6,s6,m6,T6,rfl,O6,hst6,L,-,-⟩;obtain ⟨rfl,rfl⟩:s6=⟨0,yA1,yD1,2,K,1⟩∧p6=⟨0,[5,0]⟩:=G0 hst6 (by decide);clear hst6;obtain ⟨w7,rfl⟩:∃ z,z=w:=⟨_,rfl⟩;have H:=Ctx.start w7 [];refine AZ U HA H ?_;rintro b5 w - H;refine Bn U EY U U U (by exact (by simp [Be])) H at0 U ?_;rintro w H;refine Ab (Aa (Ad (A3 U U (B7 (Cd (ak 13 0 0 0 0 0 0)) U KW KX (by kernel_rfl) ?_))))
 replace L:=L.next H
 refine Al U JZ (IU (k:=ak 13 0 0 0 0 0 0) L (Lx (by decide))) U ?_;clear L H;rintro v w ⟨a7,n7,c7,f7,p7,s7,m7,T7,rfl,O7,hst7,L,-,-⟩;obtain ⟨rfl,rfl⟩:s7=⟨0,yA1,yD1,2,K,1⟩∧p7=⟨0,[-4]⟩:=G0 hst7 (by decide);clear hst7;obtain ⟨w8,rfl⟩:∃ z,z=w:=⟨_,rfl⟩;have H:=Ctx.start w8 [];refine AZ U HA H ?_;rintro b6 w - H;refine Bn U EY U U U (by exact (by simp [Be])) H at0 U ?_;rintro w H;refine Ab (Aa (Ad (A3 U U (B7 (Cd (ak 9 0 0 0 0 4 0)) U KW KX (by kernel_rfl) ?_))))
 replace L:=L.next H
 refine Al U JZ (IU (k:=ak 9 0 0 0 0 4 0) L (Lx (by decide))) U ?_;clear L H;rintro v w ⟨a8,n8,c8,f8,p8,s8,m8,T8,rfl,O8,hst8,L,-,-⟩;obtain ⟨rfl,rfl⟩:s8=⟨4,yA1,[],2,K,1⟩∧p8=⟨0,[1]⟩:=G0 hst8 (by decide);clear hst8;obtain ⟨w9,rfl⟩:∃ z,z=w:=⟨_,rfl⟩;have H:=Ctx.start w9 [];refine AZ U HA H ?_;rintro b7 w - H;refine Bn U EY U U U (by exact (by simp [Be])) H at0 U ?_;rintro w H;refine Ab (Aa (Ad (A3 U U (B7 (Cd (ak 9 0 0 0 0 3 0)) U KW KX (by kernel_rfl) ?_))))
 replace L:=L.next H
 refine Al U JZ (IU (k:=ak 9 0 0 0 0 3 0) L (Lx (by decide))) U ?_;clear L H;rintro v w ⟨a9,n9,c9,f9,p9,s9,m9,T9,rfl,O9,hst9,L,-,-⟩;obtain ⟨rfl,rfl⟩:s9=⟨4,yA1,[],2,K,1⟩∧p9=⟨3,[]⟩:=G0 hst9 (by decide);clear hst9;obtain ⟨w10,rfl⟩:∃ z,z=w:=⟨_,rfl⟩;have H:=Ctx.start w10 [];refine AZ U HA H ?_;rintro b8 w - H;refine Bn U EY U U U (by exact (by simp [Be])) H at0 U ?_;rintro w H;refine Ab (Aa ?_)
 have L:=L.next H
 obtain ⟨wz,rfl⟩:∃ z,z=w:=⟨_,rfl⟩;have hz:=L.H.ext;have R3:Rd wz a3 1 I1 [5,0]:=O3.rd1 (t:=2) fun x hx=>L.H.blk x (List.mem_append_left _ (by simp [hx]));have h3:=L.H.blk (b2,Bl 37 [.int .i64 0,.slice a3 n3 c3]) (List.mem_append_left _ (by simp));have R4:Rd wz a4 1 I1 [1]:=O4.rd1 (t:=2) fun x hx=>L.H.blk x (List.mem_append_left _ (by simp [hx]));have h4:=L.H.blk (b3,Bl 37 [.int .i64 0,.slice a4 n4 c4]) (List.mem_append_left _ (by simp));have R5:Rd wz a5 1 I1 [1,10,1]:=O5.rd1 (t:=2) fun x hx=>L.H.blk x (List.mem_append_left _ (by simp [hx]));have h5:=L.H.blk (b4,Bl 37 [.int .i64 0,.slice a5 n5 c5]) (List.mem_append_left _ (by simp));have R6:Rd wz a6 1 I1 [5,0]:=O6.rd1 (t:=2) fun x hx=>L.H.blk x (List.mem_append_left _ (by simp [hx]));have h6:=L.H.blk (b5,Bl 37 [.int .i64 0,.slice a6 n6 c6]) (List.mem_append_left _ (by simp))
 have R7:Rd wz a7 1 I1 [-4]:=O7.rd1 (t:=2) fun x hx=>L.H.blk x (List.mem_append_left _ (by simp [hx]));have h7:=L.H.blk (b6,Bl 37 [.int .i64 0,.slice a7 n7 c7]) (List.mem_append_left _ (by simp));have R8:Rd wz a8 1 I1 [1]:=O8.rd1 (t:=2) fun x hx=>L.H.blk x (List.mem_append_left _ (by simp [hx]));have h8:=L.H.blk (b7,Bl 37 [.int .i64 0,.slice a8 n8 c8]) (List.mem_append_left _ (by simp));have h9:=L.H.blk (b8,Bl 37 [.int .i64 3,.slice a9 n9 c9]) (List.mem_append_left _ (by simp));clear L H;have H:=Ctx.start wz [];refine Ad (Cn _ U JY EY U U ((CU (b:=b2) (t:=37) (l:=[.int .i64 0,.slice a3 n3 c3]) (H.ext.to h3 (by simp)) 0 [.int .i64 0,.slice a3 n3 c3] U)) ?_);refine D4 ([5,0].map Dq) U AR Bx Eb (by decide) (by decide) (by kernel_rfl) H ?_;rintro y3 w - H
 refine Al U OJ (JQ a3 (some ⟨y3,0,none⟩) n3 _ c3 _ [5,0] _ (R3.ext0 H.ext) O3.num.symm (by have:=O3.num; simp at this; omega) (Rd.of_bl (xs:=([5,0]:List Int)) (enc:=I1) (r:=[]) (H.get at0) U (by decide)) U) U ?_;rintro v w ⟨rfl,hx39⟩;replace H:=H.call hx39;refine A7 U U (Cn _ U JY EY U U ((CU (b:=b3) (t:=37) (l:=[.int .i64 0,.slice a4 n4 c4]) (H.ext.to h4 (by simp)) 0 [.int .i64 0,.slice a4 n4 c4] U)) ?_);refine Ci ([1].map Dq) (.int .i64 1) U AR Bx Eb U (by decide) (by decide) U U U H ?_;rintro y4 w - H;refine Al U OJ (JQ a4 (some ⟨y4,0,none⟩) n4 _ c4 _ [1] _ (R4.ext0 H.ext) O4.num.symm (by have:=O4.num; simp at this; omega) (Rd.of_bl (xs:=([1]:List Int)) (enc:=I1) (r:=[]) (H.get at0) U (by decide)) U) U ?_;rintro v w ⟨rfl,hx43⟩;replace H:=H.call hx43
 refine AG U U (.bool _) U (A7 U U (Cn _ U JY EY U U ((CU (b:=b4) (t:=37) (l:=[.int .i64 0,.slice a5 n5 c5]) (H.ext.to h5 (by simp)) 0 [.int .i64 0,.slice a5 n5 c5] U)) ?_));refine D4 ([1,10,1].map Dq) U AR Bx Eb (by decide) (by decide) (by kernel_rfl) H ?_;rintro y5 w - H;refine Al U OJ (JQ a5 (some ⟨y5,0,none⟩) n5 _ c5 _ [1,10,1] _ (R5.ext0 H.ext) O5.num.symm (by have:=O5.num; simp at this; omega) (Rd.of_bl (xs:=([1,10,1]:List Int)) (enc:=I1) (r:=[]) (H.get at0) U (by decide)) U) U ?_;rintro v w ⟨rfl,hx48⟩;replace H:=H.call hx48;refine AG U U (.bool _) U (A7 U U (Cn _ U JY EY U U ((CU (b:=b5) (t:=37) (l:=[.int .i64 0,.slice a6 n6 c6]) (H.ext.to h6 (by simp)) 0 [.int .i64 0,.slice a6 n6 c6] U)) ?_));refine D4 ([5,0].map Dq) U AR Bx Eb (by decide) (by decide) (by kernel_rfl) H ?_;rintro y6 w - H
 refine Al U OJ (JQ a6 (some ⟨y6,0,none⟩) n6 _ c6 _ [5,0] _ (R6.ext0 H.ext) O6.num.symm (by have:=O6.num; simp at this; omega) (Rd.of_bl (xs:=([5,0]:List Int)) (enc:=I1) (r:=[]) (H.get at0) U (by decide)) U) U ?_;rintro v w ⟨rfl,hx53⟩;replace H:=H.call hx53;refine AG U U (.bool _) U (A7 U U (Cn _ U JY EY U U ((CU (b:=b6) (t:=37) (l:=[.int .i64 0,.slice a7 n7 c7]) (H.ext.to h7 (by simp)) 0 [.int .i64 0,.slice a7 n7 c7] U)) ?_));refine Ci ([-4].map Dq) (.int .i64 (-4)) U AR Bx Eb U (by decide) (by decide) U U U H ?_;rintro y7 w - H;refine Al U OJ (JQ a7 (some ⟨y7,0,none⟩) n7 _ c7 _ [-4] _ (R7.ext0 H.ext) O7.num.symm (by have:=O7.num; simp at this; omega) (Rd.of_bl (xs:=([-4]:List Int)) (enc:=I1) (r:=[]) (H.get at0) U (by decide)) U) U ?_;rintro v w ⟨rfl,hx58⟩;replace H:=H.call hx58
 refine AG U U (.bool _) U (A7 U U (Cn _ U JY EY U U ((CU (b:=b7) (t:=37) (l:=[.int .i64 0,.slice a8 n8 c8]) (H.ext.to h8 (by simp)) 0 [.int .i64 0,.slice a8 n8 c8] U)) ?_));refine Ci ([1].map Dq) (.int .i64 1) U AR Bx Eb U (by decide) (by decide) U U U H ?_;rintro y8 w - H;refine Al U OJ (JQ a8 (some ⟨y8,0,none⟩) n8 _ c8 _ [1] _ (R8.ext0 H.ext) O8.num.symm (by have:=O8.num; simp at this; omega) (Rd.of_bl (xs:=([1]:List Int)) (enc:=I1) (r:=[]) (H.get at0) U (by decide)) U) U ?_;rintro v w ⟨rfl,hx63⟩;replace H:=H.call hx63;refine AG U U (.bool _) U (A7 U U (Ah U PR U (Bd U Ut U ((H.old (Aj h9 _) (by simp))) ?_)));refine Cz U U U (AG U U (.bool _) U (Ai U U (Ab (Aa (A5 (AA (v:=(.bool _)) U U U ?_))))));exact ⟨rfl,hz.trans H.ext⟩
end Go.Proofs.YtdagmpmdcgedcaaGreat

/- Where there is no ledger. -/
namespace Go.Proofs.YtdagmpmdcgedcaaGreat
open Go.GV
attribute [local irreducible] AB W Wq Wt

set_option maxRecDepth 20000 in
theorem ZA (k:Ak) (w:World):Ret Tryz.prog 18 #[.pointer none,.agg (Cd k).toArray] w fun v w'=>v = .agg #[.int .i64 2,.slice none 0 0]∧Ext [] w w':=by
 obtain ⟨w0,rfl⟩:∃ w0,w0=w:=⟨_,rfl⟩;have H:=Ctx.start w0 [];refine Au (fn:=Tryz.f18) Tryz.func18 U [.pointer none,.agg (Cd k).toArray] U (by kernel_rfl) ?_;refine Ad (Bu U (Cd k) (.agg _) U U H ?_);rintro b3 w - H;refine AZ U HA H ?_;rintro b4 w - H;refine Ab (Aa (Aw (Ad (A3 U U (Cq U XJ U ?_)))));refine Ab (Aa (Aq _ U ?_ ?_))
 ·intro h1;refine Ad (B7 [.int .i64 2,.slice none 0 0] U U2 HA (by kernel_rfl) ?_);refine Bn U EY U U U (by simp [Be]) H at0 U ?_;rintro w H;refine Ab (Aa (A5 (Ao (JC U U U JY EY H at0 U ?_))));exact ⟨rfl,H.ext⟩
 ·intro h1;cases h1
def ZB:Ld:=⟨0,[],[],0,[],0⟩
abbrev znil:StZ:=⟨none,0,none,0,none,0,[]⟩
theorem ZC (w:World):StAt w ZB znil:=⟨Rd.nil,Rd.nil,Rd.nil,rfl,fun x hx=>by cases hx⟩
theorem S8 (w:World):Ret Tryz.prog 17 #[.pointer none] w fun v w'=>v = .agg (stC ZB znil).toArray∧Ext [] w w':=by
 obtain ⟨w0,rfl⟩:∃ w0,w0=w:=⟨_,rfl⟩;have H:=Ctx.start w0 [];refine Au (fn:=Tryz.f17) Tryz.func17 U [.pointer none] U (by kernel_rfl) ?_;refine Ad (AZ U XM H ?_);rintro b2 w - H;refine Ab (Aa (Aw (Ad (A3 U U (Cq U XJ U ?_)))));refine Ab (Aa (Aq _ U ?_ ?_))
 ·intro h1;refine Ad (B7 (stC ZB znil) U Aci XM (by kernel_rfl) ?_);refine Bn U Acm U U U (by simp [Be]) H at0 U ?_;rintro w H;refine Ab (Aa (A5 (Ao (JC U U U ag_32 Acm H at0 U ?_))));exact ⟨rfl,H.ext⟩
 ·intro h1;cases h1
set_option maxRecDepth 20000 in
theorem Q3 (k:Ak) (w:World):Ret Tryz.prog 5 #[.agg (Cd k).toArray] w fun v w'=>v = .bool true∧Ext [] w w':=by
 obtain ⟨w0,rfl⟩:∃ w0,w0=w:=⟨_,rfl⟩;have H:=Ctx.start w0 [];refine Au (fn:=Tryz.f5) Tryz.func5 U [.agg (Cd k).toArray] U (by kernel_rfl) ?_;refine Ad (Bu U (Cd k) (.agg _) U U H ?_);rintro b1 w - H;refine Ai U U (Ab (Aa (Ad (Co U U (Ab (Aa (Ad (A3 U U (Ce U Acd Aco U H at0 U (Al U JZ (ZA k _) U ?_))))))))));rintro v w ⟨rfl,hx7⟩;replace H:=H.call hx7;refine AZ U HA H ?_;rintro b4 w - H;refine Bn U EY U U U (by simp [Be]) H at0 U ?_;rintro w H;refine Ab (Aa (Ad (Ah U PR U (AE U Ut U H at0 U (Cz U U U (A7 U U (Ah U PS U (AE U BL U H at0 U (Bf U AR U (Cz U U U ?_))))))))));refine AG U U (.bool _) U (A7 U U (A3 U U (Al U ca_17 (S8 _) U ?_)));rintro v w ⟨rfl,hx19⟩;replace H:=H.call hx19;refine B7 (stC ZB znil) U Aci XM (by kernel_rfl) ?_;refine Al U ca_19 (Z9 (s:=ZB) _ (ZC _) (ZC _) (by decide) (by decide) (by decide) (fun r hr=>by cases hr)) U ?_;rintro v w ⟨rfl,hx21⟩;replace H:=H.call hx21
 refine AG U U (.bool _) U (A7 U U (Al U ca_15 (Ug _) U ?_));rintro v w ⟨rfl,hx24⟩;replace H:=H.call hx24;refine AG U U (.bool _) U (Ai U U (Ab (Aa (A5 (AA (v:=(.bool _)) U U U ?_)))));exact ⟨rfl,H.ext⟩
end Go.Proofs.YtdagmpmdcgedcaaGreat

/- What the form reads of this seat's arguments. -/
namespace Go.Proofs.YtdagmpmdcgedcaaGreat
open Go.GV Go.ChangeShapes Go.WideShapes

theorem own:ownKnob Tryz.prog.godebug=none:=by kernel_rfl
theorem Ab5:laidOutB Tryz.prog=true:=by kernel_rfl
section
variable {H:Type} {enc:TypeId × Value→H} {w:World} {base:Nat} {spare:Nat→Bool} {held:Bool}
/-- What a due's numbers may be, as its type has it. -/
def DuT (d:Du):Prop:=(0≤d.id∧d.id<18446744073709551616)∧I64 d.fr∧I64 d.to∧I64 d.am∧I64 d.we∧I64 d.un
def EdT (e:Ed):Prop:=I64 e.f∧I64 e.t∧I64 e.cap∧I64 e.cost
/-- What a round's numbers may be, as its type has it. -/
structure RT (r:Rnd):Prop where
 no:0≤r.no∧r.no<18446744073709551616
 day:I64 r.day
 ids:∀ x∈r.ids,0≤x∧x<18446744073709551616
 N:I64 r.N
 es:∀ e∈r.es,EdT e
 fl:∀ x∈r.fl,I64 x
 pot:∀ x∈r.pot,I64 x
end
end Go.Proofs.YtdagmpmdcgedcaaGreat

/- What the form reads of what is asked. -/
namespace Go.Proofs.YtdagmpmdcgedcaaGreat
open Go.GV Go.ChangeShapes Go.WideShapes
section
variable {H:Type} {enc:TypeId × Value→H} {w:World} {base:Nat} {spare:Nat→Bool} {held:Bool}
theorem SA:∃ fs,Tryz.prog.underlying 40=some (.struct fs)∧(List.range 7).map (fun i=>fs[i]?.map fun f=>(f.type,f.offset))=[some (5,0),some (3,1),some (3,2),some (2,3),some (2,4),some (2,5),some (28,6)]:=⟨_,Tryz.underlying40,by kernel_rfl⟩
theorem Ab6:Tryz.prog.cellsOf 40=7:=by kernel_rfl
theorem Ahf:∀ n cs y,DataW.trod enc Tryz.prog w base spare held n 40 cs=some y→∃ k:Ak,cs=Cd k∧AkIn k:=by
 intro n cs y h;obtain ⟨fs,ht,hf⟩:=SA;have hl:=VB ht h;rw [Ab6] at hl;simp only [List.range,List.range.loop,List.map_cons,List.map_nil,List.cons.injEq,and_true] at hf;obtain ⟨f0,f1,f2,f3,f4,f5,f6⟩:=hf;obtain ⟨a,ha,a1,a2⟩:=I5 ht h 0 0 f0 Tryz.underlying5;obtain ⟨b,hb,hb'⟩:=I5 ht h 1 1 f1 Tryz.underlying3;obtain ⟨c,hc,hc'⟩:=I5 ht h 2 2 f2 Tryz.underlying3;obtain ⟨d,hd,hd'⟩:=I5 ht h 3 3 f3 Tryz.underlying2;obtain ⟨e,he,he'⟩:=I5 ht h 4 4 f4 Tryz.underlying2;obtain ⟨f,hf,hf'⟩:=I5 ht h 5 5 f5 Tryz.underlying2;obtain ⟨g,hg,g1,g2⟩:=I5 ht h 6 6 f6 Tryz.underlying28;refine ⟨⟨a,b,c,d,e,f,g⟩,?_,⟨⟨a1,a2⟩,hb',hc',hd',he',hf',g1,g2⟩⟩
 match cs,hl with
 | [_,_,_,_,_,_,_],_ =>
  simp at ha hb hc hd he hf hg;simp [ha,hb,hc,hd,he,hf,hg]
set_option maxRecDepth 100000 in
theorem Ahg {b:Nat} {v:Value} {d:DataW H} {ps:List MemPlace} (hv:Value.okWide Tryz.prog w .any b 40 v) (h:DataW.Trod enc Tryz.prog w base spare held 40 v d ps):∃ k:Ak,v = .agg (Cd k).toArray∧AkIn k:=by
 obtain ⟨fs,ht,_⟩:=SA;obtain ⟨cs,rfl,_⟩:=okWide_struct ht hv;obtain ⟨fuel,hf⟩:=h;obtain ⟨k,hx,h1⟩:=Ahf fuel cs.toList (d,ps) (by simpa [Value.cells] using hf);exact ⟨k,by rw [← hx],h1⟩
end
end Go.Proofs.YtdagmpmdcgedcaaGreat

/- LedgerNil: for every input the law answers true, and turns nothing. -/
namespace Go.Proofs.YtdagmpmdcgedcaaGreat
open Go.GV Go.ChangeShapes Go.WideShapes Go.RowKit

set_option maxRecDepth 100000 in
theorem LY (os:Os) (started:os.Started) (H:Type) (enc:TypeId × Value→H) :
  ReturnsInHanded {} Tryz.checked os 5 .any (Rows.ledgerNilSpec.pre6 enc Tryz.prog Tryz.f5 Rows.ledgerNilRow.domain false) (Rows.ledgerNilSpec.post enc Tryz.prog Tryz.f5 false true false false):=by
 refine returnsInHanded_of_change (C:=Tryz.checked) own started (by kernel_rfl) Tryz.func5
  (ChangeSpec.witness6 (enc:=enc) (C:=Tryz.checked) false ⟨#[],#[.agg #[.int .u8 0,.int .i64 0,.int .i64 0,.int .i64 0,.int .i64 0,.int .i64 0,.int .u64 0]],[]⟩ 8 (by kernel_rfl) (by kernel_rfl) (by kernel_rfl) (by kernel_rfl)) ?_
 intro W base args ds gs before hval0 hW hcnd _;have hval:∀ (j:Nat) t v,Tryz.f5.params[j]? = some t→args[j]? = some v→Value.okWide Tryz.prog W .any base t v:=hval0;have hW':=hW;obtain ⟨p,q,hA0,hV,rfl,hfz,hnd⟩:=hW;have hA:DataW.TrodAll enc Tryz.prog W 0 (fun _=>true) true Tryz.f5.params.toList args.toList ds p:=hA0;rw [Tryz.params5] at hA hval;obtain ⟨v0,vs0,d0,ds0,p0,q0,hargs,rfl,rfl,h0,r0⟩:=trodAll_cons hA;obtain ⟨rfl,rfl,rfl⟩:=trodAll_nil r0;obtain rfl:args=#[v0]:=by cases args; simp_all
 obtain ⟨k0,rfl,H0⟩:=Ahg (hval 0 _ v0 rfl rfl) h0;refine (Q3 k0 W).calls.mono ?_;rintro e W' ⟨v,rfl,rfl,hx⟩;exact ⟨_,rfl,Xf Ab5 U (by kernel_rfl) U Tryz.underlying4 (fun ds h=>match ds,h with | [_],_=>rfl) hW' hx⟩

theorem Q4:jn1 Tryz.prog 5 Tryz.f5 Rows.ledgerNilSpec Rows.ledgerNilRow=true:=by kernel_rfl
theorem Q5:jn2 Tryz.prog 5 Tryz.f5 Rows.ledgerNilSpec Rows.ledgerNilRow=true:=by kernel_rfl
theorem Q6:jn3 Tryz.prog 5 Tryz.f5 Rows.ledgerNilSpec Rows.ledgerNilRow=true:=by kernel_rfl
theorem Q7:jn4 Tryz.prog 5 Tryz.f5 Rows.ledgerNilSpec Rows.ledgerNilRow=true:=by kernel_rfl
theorem Q8:jn5 Tryz.prog 5 Tryz.f5 Rows.ledgerNilSpec Rows.ledgerNilRow=true:=by kernel_rfl
theorem Q9:joinedFacts Tryz.prog 5 Tryz.f5 Rows.ledgerNilSpec Rows.ledgerNilRow=true:=V9 Q4 Q5 Q6 Q7 Q8
theorem ledgerNil_holds:Rows.LedgerNilSaid :=
 OpenClaim.holds_of_wide 5 Tryz.f5 rfl rfl rfl rfl rfl rfl rfl ⟨rfl,rfl,rfl,rfl,rfl⟩ rfl rfl rfl rfl rfl (by kernel_rfl) Tryz.func5 Q9
  (of_decide_eq_true (by kernel_rfl)) (by unfold Func.isWrapper; rw [if_neg (of_decide_eq_false (by kernel_rfl))]; exact ⟨rfl,rfl⟩)
  (fun os started H enc _=>LY os started H enc)
#print axioms ledgerNil_holds
end Go.Proofs.YtdagmpmdcgedcaaGreat
