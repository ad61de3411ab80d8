/- Part 11 of the proof. -/
import Derived.Test.YtcpgbcabmcbclaaGreatDoorPart10
set_option maxRecDepth 20000
set_option maxHeartbeats 4000000
namespace Go.Proofs.YtcpgbcabmcbclaaGreatDoor
open Go.GV Go.Proofs.Tryz
attribute [local irreducible] A7 W Wq Wt
section
variable {w0 w w':World}{b16 b14 b5 b1 bd bs bj gen m1 m2:Nat}{F:Mut}{A:Dev}{N:Nat}{R:Rj}{V:Nat->Byt}{fv:List Value}{vj vp vt:Value}{root n r0:Int}{pq qq:Nat}{Y:List (Nat × Obj)}
theorem fo_bs(h:Fo w F (nwB b16 b14 b5 b1 bs bd gen m1 m2 pq qq root n r0 fv vj vp vt++Y))(hx:Ext [bs] w w')(hb:w'.heap[bs]?=some (Bl CA (C3 (ptr bd) (ptr bj) vp vt gen root m1 m2 n false)))(hbj:w.heap.size<=bj) :
  Fo w' (Fj F bj) (nwB b16 b14 b5 b1 bs bd gen m1 m2 pq qq root n r0 fv (ptr bj) vp vt++Y):=by
 have hnd:=h.nd;have hk:(nwB b16 b14 b5 b1 bs bd gen m1 m2 pq qq root n r0 fv (ptr bj) vp vt++Y).map (·.1)=(nwB b16 b14 b5 b1 bs bd gen m1 m2 pq qq root n r0 fv vj vp vt++Y).map (·.1):=rfl
 have hn:(nwB b16 b14 b5 b1 bs bd gen m1 m2 pq qq root n r0 fv (ptr bj) vp vt++Y).Pairwise fun x y=>x.1≠y.1:=by
  have h1:((nwB b16 b14 b5 b1 bs bd gen m1 m2 pq qq root n r0 fv vj vp vt++Y).map (·.1)).Pairwise (·≠·):=qbn.2 hnd;rw[<-hk]at h1;exact qbn.1 h1
 have hin:∀y∈nwB b16 b14 b5 b1 bs bd gen m1 m2 pq qq root n r0 fv (ptr bj) vp vt++Y,y=(bs,Bl CA (C3 (ptr bd) (ptr bj) vp vt gen root m1 m2 n false))\/y∈nwB b16 b14 b5 b1 bs bd gen m1 m2 pq qq root n r0 fv vj vp vt++Y:=fun y hy=>by
  simp only[qb8,qba,qab]at hy |-
  rcases hy with h|h|h|h|h|h <;> simp[h]
 have hbl:=hn;refine⟨fun y hy=>?_,hn,fun y hy h5=>?_⟩
 .by_cases he:y.1=bs
  .have hm:(bs,Bl CA (C3 (ptr bd) (ptr bj) vp vt gen root m1 m2 n false))∈nwB b16 b14 b5 b1 bs bd gen m1 m2 pq qq root n r0 fv (ptr bj) vp vt++Y:=by simp
   by_cases h9:y=(bs,Bl CA (C3 (ptr bd) (ptr bj) vp vt gen root m1 m2 n false))
   .rw[h9];exact hb
   .exact absurd he (fun he=>by
     obtain⟨i,hi⟩:=qce.1 hy;obtain⟨j,hj⟩:=qce.1 hm;obtain⟨hi1,hi2⟩:=qaq.1 hi;obtain⟨hj1,hj2⟩:=qaq.1 hj
     rcases Nat.lt_trichotomy i j with hlt|rfl|hlt
     .have:=qb5.1 hn i j hi1 hj1 hlt;rw[hi2,hj2]at this;exact this he
     .rw[hi2]at hj2;exact h9 hj2
     .have:=qb5.1 hn j i hj1 hi1 hlt
      rw[hi2,hj2]at this;exact this he.symm)
  .have hy':=(hin y hy).resolve_left fun h=>he (by rw[h]);rw[hx.block y.1 (Al (h.blk y hy')) (by simpa using he)];exact h.blk y hy'
 .have hk2:∃z∈nwB b16 b14 b5 b1 bs bd gen m1 m2 pq qq root n r0 fv vj vp vt++Y,z.1=y.1:=by
   have h1:y.1∈(nwB b16 b14 b5 b1 bs bd gen m1 m2 pq qq root n r0 fv (ptr bj) vp vt++Y).map (·.1):=qah.2 ⟨y,hy,rfl⟩;rw[hk]at h1;obtain⟨z,hz,he⟩:=qah.1 h1;exact⟨z,hz,he⟩
  obtain⟨z,hz,he⟩:=hk2;rw[<-he]at h5
  rcases h5 with h5|h5
  .exact h.off z hz h5
  .have:=Al (h.blk z hz);omega
abbrev nwF(b14 b5 b1:Nat):List Value:=[.func (.func 38) #[] #[ptr b1,ptr b14,ptr b5],.func (.func 41) #[] #[ptr b1,ptr b5,ptr b14]]
def nwI(w0 wb:World)(b16 b14 b5 b1 bs bd gen m1 m2 pq qq:Nat)(vp vt:Value)(Y:List (Nat × Obj))(A:Dev)(R:Rj)(F:Mut):Nat->World->Prop
 |0,w'=>Own w0 w' bd A F/\Fo w' F (nwB b16 b14 b5 b1 bs bd gen m1 m2 pq qq (-1) 0 (-1) (nwF b14 b5 b1) FE vp vt++Y)/\Grown F F wb w'
 |1,w'=>∃F1,Own w0 w' bd (Eh A gen (tpB (-1) pq qq)) F1/\Fo w' F1 (nwB b16 b14 b5 b1 bs bd gen m1 m2 pq qq (-1) 0 (-1) (nwF b14 b5 b1) FE vp vt++Y)/\Grown F F1 wb w'
 |_,w'=>∃F1 bj,Jone w0 w' bd bj (Eh A gen (tpB (-1) pq qq)) (jrK 2 R R.L) F1/\Fo w' (Fj F1 bj) (nwB b16 b14 b5 b1 bs bd gen m1 m2 pq qq (-1) 0 (-1) (nwF b14 b5 b1) (ptr bj) vp vt++Y)/\Grown F (Fj F1 bj) wb w'
theorem YI{L0 L1:List (Nat × Obj)}(H:Ctx w0 [] w L0)(hF:∀x,F x->x<w0.heap.size)(hs:L1.Sublist L0):Fo w F L1 :=
 ⟨fun y hy=>H.blk y (hs.subset hy),H.nd.sublist hs,fun y hy h=>by have h1:=(H.own y (hs.subset hy)).resolve_left (by simp);have:=hF _ h;omega⟩
theorem ZT{M:Mut}{Y2:List (Nat × Obj)}(O:Fo w M Y)(h:∀y∈Y2,y∈Y)(nd:Y2.Pairwise fun x y=>x.1≠y.1):Fo w M Y2:=⟨fun y hy=>O.blk y (h y hy),nd,fun y hy=>O.off y (h y hy)⟩
theorem side9{M M':Mut}{S:List Nat}(t:Grown M M' w0 w)(hx:Ext S w w')(hy:∀y∈S,w0.heap.size<=y):Grown M M' w0 w':=by
 obtain⟨⟨T,hT,hx1⟩,g⟩:=t;exact⟨⟨T,hT,hx1.then hx fun x h => .inr (hy x h)⟩,g⟩
theorem Amh{wb:World}{i:Nat}(h:nwI w0 wb b16 b14 b5 b1 bs bd gen m1 m2 pq qq vp vt Y A R F i w):w.heap[b16]?=some (Bl 46 (nwF b14 b5 b1)):=by
 match i,h with
 |0,h=>exact Fo.at h.2.1 (k:=0) rfl
 |1,⟨_,h⟩=>exact Fo.at h.2.1 (k:=0) rfl
 |_+2,⟨_,_,h⟩=>exact Fo.at h.2.1 (k:=0) rfl
theorem Ami{wb:World}(h0:nwI w0 wb b16 b14 b5 b1 bs bd gen m1 m2 pq qq vp vt Y A R F 0 w)(g:SG N A R V)(hl:A.left = -1)(hR:R.size=360/\R.first=pq/\R.seq=qq)(hpq:pq<360)(hqq:1<=qq/\qq<=4611686018427387904)(hgn:1<=gen/\gen<=4611686018427387904)(hge:w0.heap.size<=bs)(hgb:wb.heap.size<=bs) :
  Ret prog 37 #[.slice (some ⟨b16,0,none⟩) 2 2] w fun v w'=>∃e,v=.int .i64 e/\((e=0/\nwI w0 wb b16 b14 b5 b1 bs bd gen m1 m2 pq qq vp vt Y A R F 2 w')\/(e≠0/\False)):=by
 have gs:=g.save0 hl gen (tpB (-1) pq qq) hgn.1 hgn.2 (by rw[DN];decide);refine Ag2 (E:=fun _ _=>False) (nwF b14 b5 b1) w (by simp) (I:=nwI w0 wb b16 b14 b5 b1 bs bd gen m1 m2 pq qq vp vt Y A R F) h0 (fun i w' h=>Amh h) (fun v hv=>?_) (fun i f caps w' hi h=>?_)
 .simp only[qab,qaj,or_false]at hv
  rcases hv with rfl|rfl <;> exact⟨_,_,rfl⟩
 .match i,hi,h with
  |0,hi,⟨O,FY,G⟩ =>
   cases hi;exact⟨by kernel_rfl,(Ajg O g hl FY hgn.1 hgn.2).mono fun v w'' ⟨hv,F',O',G'⟩=>⟨0,hv,.inl ⟨rfl,F',O',(FY.call G').1,Grown.trans G G'⟩⟩⟩
  |1,hi,⟨F1,O,FY,G⟩ =>
   cases hi
   exact⟨by kernel_rfl,(Ajh O hge gs.2.2 ⟨hR.1,hR.2.1,hR.2.2,hqq.1,hqq.2⟩ FY).mono fun v w'' ⟨hv,bj,hbj,J,hx,hb⟩=>⟨0,hv,.inl ⟨rfl,F1,bj,J,fo_bs FY hx hb hbj,by
    have G2:=side9 G hx (fun y hy=>by rw[qaa.1 hy];exact hgb)
    exact⟨G2.1,fun y hy=>hy.elim (G2.2 y) fun h => .inr (by have:=G.1.size;omega)⟩⟩⟩⟩
theorem ZU{r:Int}{p q:Nat}(hr : -1<=r/\r<=4294967294)(hp:p<4294967296)(hq:q<18446744073709551616:=by omega):tpR (tpB r p q)=tpC r p q:=by
 obtain⟨n,hn⟩:∃n:Nat,r+1=n:=⟨(r+1).toNat,by omega⟩;unfold tpR;rw[if_pos (DN ..)];unfold tpB;have e1:(Bo (r+1).toNat 4++(Bo p 4++Bo q 8)).take 4=Bo (r+1).toNat 4:=qd2 (AP ..);have e2:(Bo (r+1).toNat 4++(Bo p 4++Bo q 8)).drop 4=Bo p 4++Bo q 8:=List.drop_left' (AP ..)
 have e3:(Bo (r+1).toNat 4++(Bo p 4++Bo q 8)).drop 8=Bo q 8:=by
  rw[<-qa0];exact List.drop_left' (by rw[qan,AP,AP])
 have e4:(Bo p 4++Bo q 8).take 4=Bo p 4:=qd2 (AP ..);have e5:(Bo q 8).take 8=Bo q 8:=qa5 (by rw[AP];decide);rw[e1,e2,e3,e4,e5,EH,EH,EH,hn,qbm];have d4:(256:Nat) ^ 4=4294967296:=by decide
 have d8:(256:Nat) ^ 8=18446744073709551616:=by decide
 have m1:n % 256 ^ 4=n:=qa7 (by omega);have m2:p % 256 ^ 4=p:=qa7 (by omega);have m3:q % 256 ^ 8=q:=qa7 (by omega);rw[m1,m2,m3,<-hn];show tpC (r+1 - 1) p q=_;rw[show r+1 - 1=r by omega]
theorem ZV{m:Nat}(O:Own w0 w bd A F)(g:SG (m+362) A R V)(hl:A.left = -1)(hR:R.L=[]/\R.size=360/\R.first=pq/\R.seq=qq)(hpq:pq<360)(hqq:1<=qq/\qq<=4611686018427387904)(hgn:EV A+1<=4611686018427387904)(hm:1<=m)(hmay:JS A=0)(hT:(El A=4/\DD A=[]/\pq=0/\qq=1)\/(El A=0/\∃r0 R0,DD A=tpB r0 R0.first R0.seq/\(-1<=r0/\r0<=4294967294)/\SG (m+362) A R0 V/\R0.size=360/\(1<=R0.seq/\R0.seq<=4611686018427387904)/\pq=R0.at'/\qq=R0.seq+R0.L.length+1)) :
  Ret prog 10 #[ptr bd] w fun v w'=>∃p F' ,v=.tuple #[ptr p.bs,.int .i64 0]/\p.bd=bd/\Sok w0 w' p (Eh A (EV A+1) (tpB (-1) pq qq)) R ⟨EV A+1,-1,0,[],[],List.replicate m 0,0,fun q=>if q=(EV A+1) % 2 then Ds (EV A+1) (tpB (-1) pq qq)else V q⟩ F'/\Grown F (Ms F' p) w w':=by
 obtain⟨wI,rfl⟩:=qD w;have hN:=g.lim;have hlen:=g.len;have hE04:El A=0\/El A=4:=hT.elim (fun h => .inr h.1) fun h => .inl h.1;obtain⟨gl,hgl⟩:=qD (EV A);rw[<-hgl]at hgn |-
 have hll:(DD A).length<=16:=by
  rcases hT with⟨-,h,-⟩|⟨-,r0,R0,h,-⟩
  .rw[h];decide
  .rw[h,DN];decide
 obtain⟨tr,tp,tq,htR⟩:∃r p q,tpR (DD A)=tpC r p q:=by unfold tpR;split <;> exact⟨_,_,_,rfl⟩
 have H:=Ctx.start wI [];refine A6 (fn:=f10) func10 U [ptr bd] U (Ad (Co _ (.pointer _) U U H ?_));rintro b1 w - H;refine B5 U (Ac U (qA (Ar (Ad (AG CY U H at0 U (Ah qB (UY (O.call H.ext).dev) U ?_))))));rintro v w ⟨rfl,rfl⟩;rw[hmay];refine Ac U (qA (Ad (Ae U (AZ U U (qA (Au _ U ?_ ?_))))))
 .intro h1;replace h1:=Bu h1;exact absurd U h1
 .intro h1;replace h1:=Bv h1;refine Aq (Aa (Ad (B0 (tpC (-1) 0 1) Aez Q7 ?_)));refine Be Q7 H ?_;rintro b5 w - H;refine Bi Nb U U U (by simp[Bg]) H at0 U ?_;rintro w H;refine qA (Ad (AG CY U H at1 U (Ah qB (RF g.good.few (O.call H.ext).dev) U ?_)));rw[<-hgl];rintro v w ⟨a23,c23,rfl,R23,h23,-,hx23⟩;replace H:=H.call hx23;refine AM U (Ag U U (Ag U U (Ag U U (Ac U (Aj U (Ac U (qA (Ar (Ad (BB (α:=Unit) 8455716864 (fun _=>[(32,.bool (false))]) (fun _ w'=>Ctx wI [] w' [(b5,Bl 76 (tpC (-1) 0 1)),(b1,Bl 27 [ptr bd])]/\w'=w) U ?_ ?_))))))))))
  .refine Ae U (AZ U U (AC U (AX 29 U ?_ ?_)))
   .intro h1;replace h1:=Bu h1;refine Ae U (AZ U U (AQ U (.bool _) U (Ab ?_)));exact⟨rfl,(),rfl,⟨qac Value.bool (by rcases hE04 with h|h <;> simp_all),trivial⟩,⟨H,rfl⟩⟩
   .intro h2;replace h2:=Bv h2;refine Ak U (Ak U (AN U (.bool _) U (Ab ?_)));exact⟨rfl,(),rfl,⟨qac Value.bool (by rcases hE04 with h|h <;> simp_all),trivial⟩,⟨H,rfl⟩⟩
  rintro - j32 w ⟨H,rfl⟩;refine Bw U (Aq (Aa (Ar (Ad (Ai U (Ah qB (WD a23 c23 (DD A) _ R23 h23) U ?_))))));rw[htR];rintro v w ⟨rfl,hx36⟩;replace H:=H.call hx36;refine AM U (Ag U U (Ag U U (Be Q7 H ?_)));rintro b9 w - H;refine Bi Nb U U U (by simp[Bg]) H at0 U ?_;rintro w H;refine Am U (qA (Ad (BB (α:=Unit) 17042430230528 (fun _=>[(43,.bool (decide (El A=0)))]) (fun _ w'=>w'=w) U ?_ ?_)))
  .refine Ae U (B1 U U (AC U (AX 41 U ?_ ?_)))
   .intro h3;replace h3:=AU h3;refine AC U (AQ U (.bool _) U (Ab ?_));exact⟨rfl,(),rfl,⟨qac Value.bool (by rcases hT with⟨h,h2,-⟩|⟨h,r0,R0,h2,-⟩ <;> simp_all[DN]),trivial⟩,rfl⟩
   .intro h4;replace h4:=AV h4;refine Ak U (AN U (.bool _) U (Ab ?_));exact⟨rfl,(),rfl,⟨qac Value.bool (by rcases hT with⟨h,h2,-⟩|⟨h,r0,R0,h2,-⟩ <;> simp_all[DN]),trivial⟩,rfl⟩
  rintro - j43 w rfl;refine FF 1180591603125225273356 (α:=Unit) (fun _=>[]) (fun _ w'=>Ctx wI [] w' [(b9,Bl 76 (tpC tr tp tq)),(b5,Bl 76 (tpC (-1) pq qq)),(b1,Bl 27 [ptr bd])]) U ?_ ?_
  .skip
   refine Au _ U ?_ ?_
   .intro h43;obtain⟨-,r0,R0,hL0,hr0,g0,hz0,hq0,hp1,hq1⟩:=hT.resolve_left (fun h=>by rw[h.1]at h43;cases qde h43);have hok0:=g0.ok
    have hrt:tpR (DD A)=tpC r0 R0.first R0.seq:=by rw[hL0];exact ZU hr0 (by have:=hok0.a;omega)
    have hopen:=fun(w1:World) (O1:Own w0 w1 bd A F)=>Pi O1 g0.good hq0.1 hq0.2;rw[hz0]at hopen;rw[<-htR,hrt]at H;refine Ad (AG CY U H at2 U (Af MX U (AG DU U H at0 U (Af JA U (AG FU U H at0 U (Ah qB (hopen _ (O.call H.ext)) U ?_))))));rintro v w6 ⟨bj0,aj,nj,cj,rfl,hx6,hbj,J6,-⟩;replace H:=H.call hx6;refine AM U (Ag U U (Ag U U (Ag U U (B5 U (Aj U (Ac U (qA (Ar (Ad ?_)))))))));refine Ae U (B1 U U (qA (Au _ U ?_ ?_)))
    .intro h44;replace h44:=AU h44;exact absurd h44 (by decide)
    .intro h44;replace h44:=AV h44;refine Aq (Aa (Ad (Ae U (B1 U U (qA (Au _ U ?_ ?_))))))
     .intro h45;replace h45:=AU h45;refine Ad (An U (Ah qB (Ach J6) U ?_));rintro v w7 ⟨rfl,hx7⟩;replace H:=H.call hx7;refine AM U (Ag U U (Ag U U (Af MX U (Bc (.int _ _) GZ U U U H at1 (by decide) ?_))));rintro w H;refine Af JA U (Bc (.int _ _) VH U U U H at1 (by(simp;done)) ?_);rintro w H;refine qA (Av (Af JA U (AG FU U H at1 U (Jw U U U ?_))));refine Af JA U (Bc (.int _ _) VH U U U H at1 (by(simp;done)) ?_);rintro w H;refine qA ?_;refine⟨(),rfl,trivial,?_⟩;rw[hp1,hq1,htR.symm.trans hrt];exact H
     .intro h45;replace h45:=AV h45;exact absurd U h45
   .intro h43;obtain⟨-,-,rfl,rfl⟩:=hT.resolve_right (fun h=>by rw[h.1]at h43;exact absurd h43 (by decide));refine Aq (Aa ?_);exact⟨(),rfl,trivial,H⟩
  .rintro - j43 w H;refine Ad (AG CY U H at2 U (Ae U (Jw U U U ?_)));refine Ah qB (W8 _ (O.call H.ext).dev hlen ⟨hm,by omega⟩ (gl+1)) U ?_;rintro v w ⟨bs,m1,m2,o1,o2,bp,ba,bt,rfl,hm1,hm2,HE⟩;replace H:=H.callEnt HE.ext (fun x hx=>⟨HE.blk x hx,(HE.own x hx).resolve_left (by simp)⟩) HE.nd;refine AM U (Ag U U (Ag U U (Be Ae6 H ?_)));rintro b14 w - H;refine Bc (.pointer _) Ae1 U U U H at0 (by decide) ?_;rintro w H;refine Ac U (qA (Ar (Ad (Ae U (AZ U U (qA (Au _ U ?_ ?_)))))))
   .intro h2;replace h2:=Bu h2;exact absurd U h2
   .intro h2;replace h2:=Bv h2;refine Aq (Aa (Ad (Cz [.pointer _,.pointer _,.pointer _] U (Cz [.pointer _,.pointer _,.pointer _] U (BQ (nwF b14 b5 b1) NW VG Zr H ?_)))));rintro b82 w - H;have hall:=(fun y hy=>(H.own y hy).resolve_left (by simp));have hbs9:wI.heap.size<=bs:=hall (bs,Bl CA (C3 (ptr bd) FE (ptr bp) (ptr bt) (gl+1) (-1) m1 m2 0 false)) (by simp);refine Ah qB (Ami (Y:=[(m2,o2),(m1,o1)]++(pgB bp ba m++trB bt bd bp)) ⟨O.call H.ext,YI H (fun x h=>(O.own x h).2) (.cons_cons _ (.cons_cons _ (.cons _ (List.Sublist.refl _)))),Grown.call H.ext⟩ g hl hR.2 hpq hqq ⟨by omega,hgn⟩ (qas O.ext.size hbs9) hbs9) U ?_;rintro v w ⟨e,rfl,he⟩;clear H;obtain⟨rfl,F1,bj,J,FY2,G2⟩:=he.resolve_right (fun h=>h.2);clear he;refine Ac U (qA (Ar (Ad (Ae U (AZ U U (qA (Au _ U ?_ ?_)))))))
    .intro h3;replace h3:=Bu h3;exact absurd U h3
    .intro h3;replace h3:=Bv h3;refine Aq (Aa (Ad (Bf ET U ((by rw[Ap (Fo.at FY2 (k:=1) rfl)];rfl)) ?_)));refine B5 U (Ac U (qA (Ax (Ce (v1:=(.pointer _)) (v2:=(.int _ _)) U U U U ?_))));have gs:=(g.save0 hl (gl+1) (tpB (-1) pq qq) (by omega) hgn (by rw[DN];decide)).2.2;have hmN:(List.replicate m 0).length=m:=qa8;have hp6:=FY2.nd.sublist (List.drop_sublist 4 _)
     have hge:∀q∈[bs,m1,m2,bp,ba,bt],wI.heap.size<=q:=fun q hq=>by
      have h9:∃o,(q,o)∈([(bs,Bl CA (C3 (ptr bd) FE (ptr bp) (ptr bt) (gl+1) (-1) m1 m2 0 false)),(m2,o2),(m1,o1)]++(pgB bp ba m++trB bt bd bp)):=by
       simp only[qab,qaj,or_false]at hq
       rcases hq with rfl|rfl|rfl|rfl|rfl|rfl
       .exact⟨_,qae ..⟩
       .exact⟨o1,by simp⟩
       .exact⟨o2,by simp⟩
       .exact⟨Bl TPg [.slice (some ⟨ba,0,none⟩) m m],by simp⟩
       .exact⟨Bl TSt ((List.replicate m 0).map stv),by simp⟩
       .exact⟨Bl TT (Pa bd bp 362),by simp⟩
      obtain⟨o,ho⟩:=h9;have:=hall (q,o) (qag _ (qag _ (qax _ ho)));dsimp only at this;omega
     refine⟨⟨bd,bs,bj,bp,ba,bt,m1,m2,0,0⟩,F1,rfl,rfl,⟨J,by rw[gs.len];exact gs,⟨[],o1,o2,ZT FY2 (fun y hy=>?_) ?_,⟨hm1,(fun q hq=>by cases hq),fun q hq=>by cases hq⟩,rfl,hm2⟩,fun q hq=>qas O.ext.size (hge q hq),by simp,(fun q hq=>by cases hq),by simp,qak _⟩,G2.1,fun y hy=>hy.elim (G2.2 y) fun h => .inr (hge y h)⟩
     .simp only[Sp.blk,qa8,qab,qaj,or_false]at hy
      rcases hy with rfl|rfl|rfl|rfl|rfl|rfl <;> simp
     .simp only[Sp.blk,qa8];exact(List.Perm.pairwise_iff (fun h=>Ne.symm h) ((List.Perm.swap _ _ _).cons _)).1 hp6
end
open Go.GV Go.Proofs.Tryz Go.Maps Go.Sort Go.Shelf Go.RowKit
def Cy{α:Type}(m:List (Byt × α)):List Byt:=(m.map (·.1)).mergeSort fun x y=>decide (x<=y)
theorem L4{α:Type}(m:List (Byt × α)):(Cy m).length=m.length:=by rw[Cy,qco,qal]
theorem Acl(mb:Option Nat)(w:World):Ret prog 66 #[.map mb] w fun v w'=>v=.func (.func 104) #[] #[.pointer (some ⟨w.heap.size,0,none⟩)]/\w'=w.alloc (Bl 91 [.map mb]):=by
 have h:=AnyZ.keys_in keysS Fence.wide 5 trivial rfl mb w;exact CallsIn.mono (callsIn_wide.2 (callsIn_wide.1 h)) fun e w' ⟨h1,h2⟩=>⟨_,h1,rfl,h2⟩
theorem WS{w:World}{bx bm:Nat}{m:List (Byt × Value)}{o:Obj}(hx:w.heap[bx]?=some (Bl 91 [.map (some bm)]))(hb:w.heap[bm]?=some o)(hM:DT str m o)(nd:(m.map (·.1)).Nodup)(hsz:m.length<=100000)(hr:∀p∈m,p.1.length<=32) :
  Ret prog 65 #[.func (.func 104) #[] #[.pointer (some ⟨bx,0,none⟩)]] w fun v w'=>∃a c,v=.slice a (Cy m).length c/\Rd w' a 1 (fun x:Byt=>[str x]) (Cy m)/\(Cy m).length<=c/\(Cy m=[]\/w.heap.size<=(adr a).block)/\Ext [] w w':=by
 obtain⟨D0,hown,hperm,hsize⟩:=OT (P:=prog) Fq hb hM nd (qas hsz (by decide)) (fun p hp=>qas (hr p hp) (by decide))
 have hseq:SeqGives Fence.wide 2 prog 104 #[.pointer (some ⟨bx,0,none⟩)] encStr (fun ss=>ss.Perm (strKeys D0)) (Maps.size D0) w :=
  AnyZ.keys_gives (ρ:=keysS_ren) { keysS with } Fence.wide _ trivial rfl (by omega) bx bm m.length D0 w (Al hx) (by rw[Ap hx];rfl) hown
 have cS:=AnyZ.sorted_in sortedS Fence.wide 5 trivial trivial trivial trivial rfl (by omega) (sortsS _) (enters_of func103 (by kernel_rfl) rfl) 104 #[.pointer (some ⟨bx,0,none⟩)] trivial (enters_of func104 (by kernel_rfl) rfl) _ (Maps.size D0) (by rw[hsize];exact qas hsz (by decide)) (by rw[hsize];omega) _ hseq;refine CallsIn.mono (callsIn_wide.2 (callsIn_wide.1 cS)) ?_;rintro e w' ⟨v,ss,rfl,hS,hrow,_,hbel⟩;have he:ss.mergeSort (fun x y=>decide (x<=y))=Cy m:=mergeSort_of_perm (hS.trans hperm);rw[he]at hrow;obtain⟨a,c,rfl,R,hc,hnew⟩:=OU (by rw[<-he,qco]) hrow;exact⟨_,rfl,a,c,rfl,R,hc,hnew,J3 hbel⟩
section
variable {w:World}{bd:Nat}{A:Dev}{F:Mut}
theorem YJ(D:DevAt w bd A F)(hmay:JS A=0)(hE:El A≠0){mx:Nat}(hfew:Few A mx)(hl:A.B.length<=100000:=by decide)(hmx:mx<1000000000000:=by decide):Ret prog 19 #[ptr bd] w fun v w'=>v=.tuple #[.pointer none,.int .i64 (El A)]/\Ext [] w w':=by
 obtain⟨w0,rfl,H⟩:=qE w;refine A6 (fn:=f19) func19 U [ptr bd] U (Ad (Co _ (.pointer _) U U H ?_));rintro b1 w - H;refine B5 U (Ac U (qA (Ar (Ad (AG CY U H at0 U (Ah qB (UY (D.keep0 H.ext) (hl:=hl)) U ?_))))));rintro v w ⟨rfl,rfl⟩;rw[hmay];refine Ac U (qA (Ad (Ae U (AZ U U (qA (Au _ U ?_ ?_))))))
 .intro h1;replace h1:=Bu h1;exact absurd U h1
 .intro h1;replace h1:=Bv h1;refine Aq (Aa (Ad (AG CY U H at0 U (Ah qB (Ai3 hfew hmx (D.keep0 H.ext)) U ?_))));rintro v w ⟨a23,c23,rfl,R23,-,hx23⟩;replace H:=H.call hx23;refine AM U (Ag U U (Ag U U (Ag U U (Ac U (Aj U (Ac U (qA (Ar (Ad ?_)))))))));refine Ae U (AZ U U (qA (Au _ U ?_ ?_)))
  .intro h2;replace h2:=Bu h2;refine Ad (Ae U (B5 U (Ac U (qA (Ax (Ao (Ce (v1:=(.pointer _)) (v2:=(.int _ _)) U U U U ?_)))))));exact⟨rfl,H.ext⟩
  .intro h2;replace h2:=Bv h2;exact absurd h2 hE
end
theorem ZW(k v:Byt)(w:World):Ret prog 30 #[str k,str v] w fun r w'=>Ext [] w w'/\∃m:Wm,r=.agg (Dx m).toArray/\m.x=⟨k,v,false⟩/\Rd w' m.ka 1 B8 k/\Rd w' m.va 1 B8 v/\k.length<=m.kc/\v.length<=m.vc/\(k=[]\/w.heap.size<=(adr m.ka).block)/\(v=[]\/w.heap.size<=(adr m.va).block):=by
 obtain⟨w0,rfl,H⟩:=qE w;refine A6 (fn:=f30) func30 U [str k,str v] U (Ad (Be Ha H ?_));rintro b4 w - H;refine qA (Ad (BW U (Kl (l:=k) U Fq AW FB U ?_)));rintro b6 c6 w hb6 hc6 hx6 R6;have hs6:=H.size;have hb46:=Al (H.get at0);replace H:=H.call hx6;refine BW U (Kl (l:=v) U Fq AW FB U ?_);rintro b8 c8 w8 hb8 hc8 hx8 R8;have hs8:=H.size;have hb48:=Al (H.get at0);replace H:=H.call hx8;replace R6:=R6.ext0 hx8;have HX:=H.ext;have hb4:=(H.own _ (qae ..)).resolve_left (by simp);have hb4':=Al (H.get at0);replace H:=Ctx.start1 (H.get at0);refine B0 (Dx ⟨some ⟨b6,0,none⟩,c6,some ⟨b8,0,none⟩,c8,⟨k,v,false⟩⟩) Tf Ha ?_;refine Bi Fx U U U (by exact HK ⟨some ⟨b6,0,none⟩,c6,some ⟨b8,0,none⟩,c8,⟨k,v,false⟩⟩) H at0 U ?_;rintro w H;refine qA (Ax (MK U U U Qt Fx H at0 U ?_))
 exact⟨HX.then H.ext fun x hx => .inr (by rw[qaa.1 hx];exact hb4),_,rfl,rfl,R6.ext H.ext (by simp[adr];omega),R8.ext H.ext (by simp[adr];omega),hc6,hc8,.inr (by show _<=b6;omega),.inr (by show _<=b8;omega)⟩
def Vg(kf kt k:Byt):Bool:=(!decide (Lib.compareBytes k kf = -1)) && (decide (kt.length=0) || decide (Lib.compareBytes k kt = -1))
def Uf(l:List (Byt × Sv))(kf kt:Byt)(ks:List Byt):List Pr:=(ks.filter (Vg kf kt)).map fun k=>(k,KK l k)
def Pl(l:List (Byt × Sv))(kf kt:Byt):List Pr:=Uf l kf kt (Cy (mv l))
theorem YK{l:List (Byt × Sv)}{kf kt k:Byt}{ks:List Byt}:Uf l kf kt (ks++[k])=Uf l kf kt ks++if Vg kf kt k=true then[(k,KK l k)]else[]:=by
 unfold Uf;rw[qbo,qaz]
 by_cases h:Vg kf kt k=true
 .rw[if_pos h,qbt,if_pos h];rfl
 .rw[if_neg h,qbt,if_neg h];rfl
theorem RT:∀{q:List Im},(q.flatMap LD).length=2*q.length
 | []=>rfl
 |x::q=>by rw[qb6,qan,RT (q:=q),qaw];simp[LD];omega
def Mk(wK:World)(e:List (Nat × Obj)):Mut:=fun x=>x<wK.heap.size\/x∈e.map (·.1)
theorem NF{wK w1 wb w:World}{e9 e28:List (Nat × Obj)}{a:Option Addr}{l:Byt}(h:Rdx w1 (Mk wK e9) a l)(hx:Ext [] w1 wb)(H:Ctx wb (e9.map (·.1)) w e28):Rdx w (Mk wK e28) a l:=by
 have h1:=h.call hx;refine⟨Rdx.read h1 H.ext fun y hy => .inr hy,?_⟩
 rcases Rd.lt8 h1.1 with h2|h2
 .exact .inl h2
 .refine h.2.imp id fun h3 h4=>?_
  rcases h4 with h4|h4
  .exact h3 (.inl h4)
  .obtain⟨y,hy,he⟩:=qah.1 h4
   rcases H.own y hy with h5|h5
   .rw[he]at h5;exact h3 (.inr h5)
   .omega
theorem ZX{wK w1 wb w:World}{e9 e28:List (Nat × Obj)}{m:Im}(h:m.Ok w1 (Mk wK e9))(hx:Ext [] w1 wb)(H:Ctx wb (e9.map (·.1)) w e28):m.Ok w (Mk wK e28) :=
 ⟨NF h.k hx H,NF h.v hx H,h.kc,h.vc⟩
structure Scj(wK:World)(l:List (Byt × Sv))(kf kt:Byt)(i:Nat)(a9:Option Addr)(n9 c9:Nat)(f9:List Value)(qs:List Im)(w':World):Prop where
 ext:Ext [] wK w'
 blk:∀y∈ent a9 68 f9,w'.heap[y.1]?=some y.2/\wK.heap.size<=y.1
 os:OS a9 n9 c9 2 f9 (qs.flatMap LD)
 eq:qs.map (fun m=>prI m.it)=Uf l kf kt ((Cy (mv l)).take i)
 ok:∀m∈qs,m.Ok w' (Mk wK (ent a9 68 f9))
theorem WT{w:World}{bs m1 m2 gen:Nat}{n root:Int}{vd vj vp vt:Value}{o1:Obj}{M:Mut}{l:List (Byt × Sv)}(hs:w.heap[bs]?=some (Bl CA (C3 vd vj vp vt gen root m1 m2 n false)))(h1m:w.heap[m1]?=some o1)(K:KvAt w M l o1)(hnd:((mv l).map (·.1)).Nodup)(hsz:l.length<=100000)(fa ta:Option Addr)(fc tc:Nat)(kf kt:Byt)(Rf:Rd w fa 1 B8 kf)(Rt:Rd w ta 1 B8 kt) :
  Ret prog 20 #[ptr bs,.slice fa kf.length fc,.slice ta kt.length tc] w fun v w'=>∃a c,v=.tuple #[.slice a (Pl l kf kt).length c,.int .i64 0]/\Prs w' (Old w) a (Pl l kf kt).length c (Pl l kf kt)/\Ext [] w w':=by
 obtain⟨wI,rfl,H⟩:=qE w;refine A6 (fn:=f20) func20 U [ptr bs,.slice fa kf.length fc,.slice ta kt.length tc] U (Ad (Aj U (Ac U (qA (Ar (Ad (An U (Ah qB (Jn hs) U ?_))))))));rintro v w ⟨rfl,rfl⟩;refine Ac U (qA (Ad (Ae U (AZ U U (qA (Au _ U ?_ ?_))))))
 .intro h1;replace h1:=Bu h1;exact absurd U h1
 .intro h1;replace h1:=Bv h1;refine Aq (Aa (Ad (Aj U (qA (Ar (Ad (An U (Ay U (Af GP U (Bf LN U ((by rw[Ap hs];rfl)) ?_))))))))));refine Ah qB (Acl (some m1) _) U ?_;rintro v w ⟨rfl,rfl⟩;replace H:=H.alloc (Bl 91 [.map (some m1)]);refine Ah qB (WS (H.get at0) (H.ext.to h1m (by simp)) K.m hnd (by simpa using hsz) (fun p hp=>by obtain⟨q,hq,rfl⟩:=qah.1 hp;exact(K.few q hq).1)) U ?_;rintro v w ⟨aK,cK,rfl,RK,hcK,-,hx22⟩;replace H:=H.call hx22;have hxK:=H.ext;clear H;refine AO Qz U (Ae U (qA (AD ?_)));obtain⟨wK,rfl⟩:=qD w;have hkl:(Cy (mv l)).length<=100000:=by rw[L4];simpa using hsz
  refine BF 144115188059081216 (α:=Nat × Option Addr × Nat × Nat × List Value × List Im) (fun s=>[(24,.int .i64 (s.1:Int)),(9,.slice s.2.1 s.2.2.1 s.2.2.2.1)]) (fun s w'=>s.1<=(Cy (mv l)).length/\s.2.2.1<=s.1/\Scj wK l kf kt s.1 s.2.1 s.2.2.1 s.2.2.2.1 s.2.2.2.2.1 s.2.2.2.2.2 w') (fun s=>(Cy (mv l)).length - s.1) (0,none,0,0,[],[]) U ?_ ?_ ?_
  .exact⟨rfl,rfl,trivial⟩
  .exact⟨qak _,qaf _,Ext.refl _ _,(fun y hy=>by cases hy),OS.nil,rfl,fun m hm=>by cases hm⟩
  .rintro⟨i,a9,n9,c9,f9,qs⟩ j w1 ⟨hi,hn9,S⟩;dsimp only at hi hn9 S;dsimp only;have H:=Ctx.start w1 [];refine Ad (Bt U U (qA (Ar (Au _ U ?_ ?_))))
   .intro h2;replace h2:=AU h2;obtain⟨k,hk⟩:=AR (l:=Cy (mv l)) (i:=i);have hI1:=hxK.trans S.ext;have hsn:=YK (l:=l) (kf:=kf) (kt:=kt) (k:=k) (ks:=(Cy (mv l)).take i);rw[<-Bx hk]at hsn;refine Aq (Aa (Ar (AD (Ad (Bj (RK.ext0 S.ext) Qz sz_9 U U (hn:=by rfl) ?_)))));refine Bf ag_9 U ((RK.ext0 S.ext).one (f:=str) hk) ?_;refine HP U U (qA (Ad (BB (α:=Unit) 8795824586752 (fun _=>[(42,.bool (Vg kf kt k))]) (fun _ w'=>w1=w') U ?_ ?_)))
    .refine BW U (Ai U (Jz AW FB Fq U (Rf.ext0 hI1) ?_));refine Adt U U U ?_;refine AC U (AX 32 U ?_ ?_)
     .intro h1;refine Ai U (AO AW U (B1 U U (AC U (AX 36 U ?_ ?_))))
      .intro h2;replace h2:=AU h2;refine Ak U (Ak U (Ak U (Ak U (AQ U (.bool _) U (AQ U (.bool _) U (Ab ?_))))));exact⟨rfl,(),rfl,⟨qac Value.bool (by unfold Vg;simp_all),trivial⟩,rfl⟩
      .intro h3;replace h3:=AV h3;refine BW U (Ai U (Jz AW FB Fq U (Rt.ext0 hI1) ?_));refine Ads U U U (AN U (.bool _) U (AQ U (.bool _) U (Ab ?_)));exact⟨rfl,(),rfl,⟨qac Value.bool (by unfold Vg;simp_all),trivial⟩,rfl⟩
     .intro h4;refine Ak U (Ak U (Ak U (Ak U (Ak U (Ak U (Ak U (Ak U (Ak U (AN U (.bool _) U ?_)))))))));refine Ab ?_;exact⟨rfl,(),rfl,⟨qac Value.bool (by unfold Vg;simp_all),trivial⟩,rfl⟩
    rintro - j42 w rfl;refine Au _ U ?_ ?_
    .intro h3;rw[if_pos h3]at hsn
     obtain⟨A9,C9,hz,hR9,hlen9⟩:∃A9 C9,((BA l k).map Sv.enc).getD (.slice none 0 0)=.slice A9 (KK l k).length C9/\Rd wI A9 1 B8 (KK l k)/\(KK l k).length<=128:=by
      unfold KK
      cases hq:BA l k with
      |none=>exact⟨none,0,rfl,Rd.nil,by simp⟩
      |some s=>exact⟨s.a,s.c,rfl,(K.ok _ (Es hq)).1.1,(K.few _ (Es hq)).2⟩
     refine Av (Ai U (BW U (Kl (l:=k) U Fq AW FB U ?_)));rintro b45 c45 w hb45 hc45 hx45 R45;replace H:=H.call hx45;refine An U (Ay U (Af GP U (Bf LN U ((by rw[Ap ((hI1.trans H.ext).to hs (by simp))];rfl)) ?_)));refine BW U (Qp (m:=mv l) (n:=k) U Na (ER Fq) Q8 U U (Ctx.start1 ((hI1.trans H.ext).to h1m (by simp))) at0 K.m ?_);rw[EE (f:=Sv.enc),hz];refine Ah qB (Je A9 C9 _ (KK l k) _ ((hR9.ext0 hI1).ext0 H.ext) U) U ?_;rintro v wb ⟨F52,-⟩;have hsz45:=H.size;obtain⟨a52,c52,rfl,R52,hc52,hn52⟩:=Fresh.newB F52;replace R45:=R45.ext0 F52.ext;have Hb:=H.call F52.ext;obtain⟨im,him⟩:=qD (⟨some ⟨b45,0,none⟩,c45,a52,c52,⟨k,KK l k,0⟩⟩:Im);have hblk:∀y∈ent a9 68 f9,wb.heap[y.1]?=some y.2:=(fun y hy=>Hb.ext.to (S.blk y hy).1 (by simp));clear H;have H:=Ctx.startL hblk Ki;refine B0 (LD ⟨some ⟨b45,0,none⟩,c45,a52,c52,⟨k,KK l k,0⟩⟩) Aey Ku ?_
     rw[<-him];refine BP (LD im) (.agg _) EU FV Ku U U U U H ?_;rintro b54 w - H;refine Cf (L:=[]) EU EU FV Aj0 Ku U U U H S.os U (KF im) ?_;clear H;rintro a28 c28 f28 w2 H O28;refine Aj U (Ab (AF (Aa (Av (AA U U ?_)))));refine Ae U (qA ?_);have hltm:∀y∈ent a9 68 f9,y.1<w1.heap.size:=fun y hy=>Al (S.blk y hy).1;have hKs:=S.ext.size
     have himk:im.Ok wb (Mk wK (ent a9 68 f9)):=by
      subst him;refine⟨⟨R45,.inr fun h=>?_⟩,⟨R52,hn52.imp id fun h5 h=>?_⟩,hc45,hc52⟩
      .rcases h with h|h
       .have h6:b45<wK.heap.size:=h;omega
       .obtain⟨y,hy,he⟩:=qah.1 h;have h6:=hltm y hy;have h7:y.1=b45:=he;omega
      .rcases h with h|h
       .have h6:(adr a52).block<wK.heap.size:=h;omega
       .obtain⟨y,hy,he⟩:=qah.1 h;have h6:=hltm y hy;have h7:y.1=(adr a52).block:=he;omega
     refine⟨(i+1,a28,n9+1,c28,f28,qs++[im]),rfl,⟨rfl,rfl,trivial⟩,⟨by dsimp only;omega,by dsimp only;omega,⟨?_,?_,?_,?_,?_⟩⟩,by dsimp only;omega⟩
     .exact(S.ext.trans Hb.ext).then H.ext fun y hy=>by
       obtain⟨z,hz,he⟩:=qah.1 hy;rw[<-he];exact .inr (S.blk z hz).2
     .intro y hy;refine⟨H.blk y hy,?_⟩
      rcases H.own y hy with h|h
      .obtain⟨z,hz,he⟩:=qah.1 h;rw[<-he];exact(S.blk z hz).2
      .have:=Hb.size;omega
     .dsimp only;rw[qbp,qc7];exact O28
     .dsimp only;rw[qaz,S.eq,hsn,him];rfl
     .intro m hm;dsimp only at hm |-
      rcases qau.1 hm with hm|hm
      .exact ZX (S.ok m hm) Hb.ext H
      .rw[qaa.1 hm];exact ZX himk (Ext.refl _ _) H
    .intro h3;rw[if_neg (by simp[h3]),qa2]at hsn;refine Aq (AF (Aa (Av (AA U U ?_))));refine Ae U (qA ?_);exact⟨(i+1,a9,n9,c9,f9,qs),rfl,⟨rfl,rfl,trivial⟩,⟨by dsimp only;omega,by dsimp only;omega,S.ext,S.blk,S.os,by dsimp only;rw[S.eq,hsn],S.ok⟩,by dsimp only;omega⟩
   .intro h2;replace h2:=AV h2;obtain rfl:i=(Cy (mv l)).length:=by omega
    have he:=S.eq;rw[qbb]at he
    have hnq:n9=(Pl l kf kt).length:=by
     have h5:=S.os.llen;rw[RT]at h5;have h6:qs.length=(Pl l kf kt).length:=by rw[<-qal (f:=fun m:Im=>prI m.it),he];rfl
     omega
    have hKI:=hxK.size;refine B9 (A8 (A8 (Bd (Aa (Ad (Ai U (Aj U (Ac U (qA (Ax (Ce (v1:=(.slice _ _ _)) (v2:=(.int _ _)) U U U U ?_)))))))))));refine⟨a9,c9,by rw[<-hnq],⟨⟨qs,OS.rd S.os (fun y hy=>(S.blk y hy).1) (fun _ _=>rfl) (by decide),?_,he,fun m hm=>(S.ok m hm).weak fun x hx => .inl (qat hx hKI)⟩,rfl,by rw[<-hnq];exact S.os.le⟩,hxK.trans S.ext⟩
    cases ha:a9 with
    |none =>
     left;have h5:=S.os.none' ha;have h6:=S.os.le;have h7:=S.os.llen;rw[RT]at h7;exact qa9 (by omega)
    |some q =>
     right;intro h;have h5:=(S.blk (q.block,Bl 68 f9) (by rw[ha];exact qaa.2 rfl)).2;have h6:q.block<wI.heap.size:=h;dsimp only at h5;omega
theorem JL{α:Type}{k:Byt}:∀{m:List (Byt × α)},(m.map (·.1)).Nodup->((FH m k).map (·.1)).Nodup/\k∉(FH m k).map (·.1)
 | [],h=>⟨h,by simp[FH]⟩
 |p::m,h=>by
  rw[qay,qci]at h;unfold FH
  split
  .rename_i he
   exact⟨h.2,he ▸ h.1⟩
  .rename_i he
   obtain⟨h1,h2⟩:=JL (k:=k) h.2;refine⟨?_,?_⟩
   .rw[qay,qci];refine⟨fun h3=>h.1 ?_,h1⟩;obtain⟨q,hq,e⟩:=qah.1 h3;exact qah.2 ⟨q,Jm hq,e⟩
   .rw[qay,qab];rintro(h3|h3)
    .exact he h3.symm
    .exact h2 h3
theorem M8{kv:Kvl}{x:Wr}(h:(kv.map (·.1)).Nodup):((KR kv x).map (·.1)).Nodup:=by
 obtain⟨h1,h2⟩:=JL (k:=x.k) h;unfold KR
 split
 .exact h1
 .have h3:BA (FH kv x.k) x.k=none:=by
   rw[<-qda,Ft]
   simpa using h2
  rw[Fm h3,qaz,qdj];refine⟨h1,by simp,fun a ha b hb=>?_⟩;simp only[qay,qbr,qaa]at hb;rintro rfl;exact h2 (hb ▸ ha)
def KU(kv:Kvl)(kf kt:Byt):List Pr:=((Cy kv).filter (Vg kf kt)).map fun k=>(k,(BA kv k).getD [])
theorem ZY(l:List (Byt × Sv))(k:Byt):KK l k=(BA (Ei l) k).getD []:=by rw[KT];rfl
theorem Ahb(l:List (Byt × Sv)):Cy (mv l)=Cy (Ei l):=by simp[Cy,Ei,qcm]
theorem WU(l:List (Byt × Sv))(kf kt:Byt):Pl l kf kt=KU (Ei l) kf kt:=by
 unfold Pl Uf KU;rw[Ahb];simp only[ZY]
section
variable {w0 w w':World}{p:Sp}{A:Dev}{R:Rj}{x:Sx}{F:Mut}
theorem ZZ(O:Sok w0 w p A R x F)(a:Option Addr)(c:Nat)(k:Byt)(Rk:Rd w a 1 B8 k) :
  Ret prog 26 #[ptr p.bs,.slice a k.length c] w fun v w'=>∃a' c',v=.tuple #[.slice a' ((BA x.kv k).getD []).length c',.bool (BA x.kv k).isSome,.int .i64 0]/\Rd w' a' 1 B8 ((BA x.kv k).getD [])/\Sok w0 w' p A R x F/\Ext [] w w':=by
 obtain⟨l,o1,o2,hF,K,hk,hM⟩:=O.ex;refine(Ai5 (hF.blk _ (qae ..)) (hF.blk (p.m1,o1) (by simp[Sp.blk])) K a c k Rk).mono fun v w' ⟨a',c',hv,hR,hx⟩=>?_;rw[ZY,hk]at hv hR;refine⟨a',c',?_,hR,O.call hx,hx⟩;rw[hv,<-hk,KT,qez]
theorem Ug(O:Sok w0 w p A R x F):Ret prog 25 #[ptr p.bs] w fun v w'=>v=.int .i64 x.n/\w=w':=by
 obtain⟨l,o1,o2,hF,-⟩:=O.ex;exact Ab7 (hF.blk _ (qae ..))
theorem WV(O:Sok w0 w p A R x F)(hnd:(x.kv.map (·.1)).Nodup)(hsz:x.kv.length<=100000)(fa ta:Option Addr)(fc tc:Nat)(kf kt:Byt)(Rf:Rd w fa 1 B8 kf)(Rt:Rd w ta 1 B8 kt) :
  Ret prog 20 #[ptr p.bs,.slice fa kf.length fc,.slice ta kt.length tc] w fun v w'=>∃a c,v=.tuple #[.slice a (KU x.kv kf kt).length c,.int .i64 0]/\Prs w' (Old w) a (KU x.kv kf kt).length c (KU x.kv kf kt)/\Sok w0 w' p A R x F/\Ext [] w w':=by
 obtain⟨l,o1,o2,hF,K,hk,hM⟩:=O.ex
 have h1:((mv l).map (·.1)).Nodup:=by
  have h2:(mv l).map (·.1)=(Ei l).map (·.1):=by simp[Ei,qcm]
  rw[h2,hk];exact hnd
 have h3:l.length<=100000:=by
  have:(Ei l).length=l.length:=qal ..
  rw[hk]at this;omega
 refine(WT (hF.blk _ (qae ..)) (hF.blk (p.m1,o1) (by simp[Sp.blk])) K h1 h3 fa ta fc tc kf kt Rf Rt).mono fun v w' ⟨a,c,hv,hP,hx⟩=>?_;rw[WU,hk]at hv hP;exact⟨a,c,hv,hP,O.call hx,hx⟩
theorem YL(O:Sok w0 w p A R x F):Own w0 w p.bd A F/\SG A.B.length A R x.V:=⟨O.jone.own,O.good⟩
end
theorem Ahc:∀{a b:Byt},a<b↔ltB a b
 | [],[]=>by simp[ltB,show DE [] []=0 from rfl]
 | [],y::b=>by simp[ltB,show DE [] (y::b) = -1 from rfl]
 |x::a,[]=>by simp[ltB,show DE (x::a) []=1 from rfl]
 |x::a,y::b=>by
  rw[List.cons_lt_cons_iff,Ahc (a:=a) (b:=b)];unfold ltB;rw[FZ]
  by_cases h1:x<y
  .rw[if_pos h1];simp[h1]
  .rw[if_neg h1]
   by_cases h2:y<x
   .rw[if_pos h2]
    have:x≠y:=fun h=>by rw[h]at h2;exact UInt8.lt_irrefl _ h2
    simp[h1,this]
   .rw[if_neg h2];have h3:x=y:=UInt8.le_antisymm (UInt8.not_lt.1 h2) (UInt8.not_lt.1 h1);simp[h3]
theorem Amj{a b:Byt}:a<=b↔¬ltB b a:=by
 rw[<-Ahc,List.not_lt]
theorem Aaa{L:List Pr}{k v k' u:Byt}:(k',u)∈Hp L k v↔(k'=k/\u=v)\/((k',u)∈L/\k'≠k):=by
 unfold Hp;simp only[qau,qab,qbh,qap,qd5];constructor
 .rintro(⟨h1,h2⟩|h|⟨h1,h2⟩)
  .exact .inr ⟨h1,GH h2⟩
  .exact .inl h
  .exact .inr ⟨h1,fun e=>GH h2 e.symm⟩
 .rintro(h|⟨h1,h2⟩)
  .exact .inr (.inl h)
  .rcases Nh k' k with h|h|h
   .exact .inl ⟨h1,h⟩
   .exact absurd h h2
   .exact .inr (.inr ⟨h1,h⟩)
theorem Aji{L:List Pr}{k k' u:Byt}:(k',u)∈IQ L k↔(k',u)∈L/\k'≠k:=by
 unfold IQ;simp
theorem WW{L:List Pr}(h:Rising L)(k v k':Byt):DK (Hp L k v) k'=if k'=k then some v else DK L k':=by
 refine Option.ext fun u=>?_;rw[EG (Gb h k v),Aaa]
 by_cases he:k'=k
 .rw[if_pos he];simp[he,eq_comm]
 .rw[if_neg he,EG h];simp[he]
theorem WX{L:List Pr}(h:Rising L)(k k':Byt):DK (IQ L k) k'=if k'=k then none else DK L k':=by
 refine Option.ext fun u=>?_;rw[EG (Hg h k),Aji]
 by_cases he:k'=k
 .rw[if_pos he];simp[he]
 .rw[if_neg he,EG h];simp[he]
theorem Iu{L:List Pr}(h:Rising L):(L.map (·.1)).Nodup:=by
 rw[qdl,qbn];exact h.imp fun h=>GH h
theorem EK{kv:List Pr}(h:(kv.map (·.1)).Nodup):kv.Nodup:=(qbn.1 h).imp fun h e=>h (by rw[e])
theorem WY{L M:List Pr}(hL:Rising L)(hM:Rising M)(h:∀k,DK L k=DK M k):L=M:=by
 have hm:∀p,p∈L↔p∈M:=fun p=>by rw[show p=(p.1,p.2)from rfl,<-EG hL,<-EG hM,h]
 have n1:L.Nodup:=EK (Iu hL);have n2:M.Nodup:=EK (Iu hM);refine qfb (le:=fun(x y:Pr)=>ltB x.1 y.1) (fun a b _ _ h1 h2=>absurd h2 (Fs h1)) hL hM ((qdw n1 n2).2 hm)
theorem Ahd{kv:Kvl}(h:(kv.map (·.1)).Nodup){k v:Byt}:BA kv k=some v↔(k,v)∈kv:=by
 refine⟨Es,fun hm=>?_⟩
 induction kv with
 |nil=>cases hm
 |cons p kv ih =>
  rw[qay,qci]at h;unfold BA at ih |-;rw[qc4]
  rcases qab.1 hm with rfl|hm
  .simp
  .have hne:¬p.1=k:=fun e=>h.1 (by rw[e];exact qah.2 ⟨_,hm,rfl⟩);rw[qai hne];exact ih h.2 hm
theorem WZ{kv:Kvl}(h:(kv.map (·.1)).Nodup)(k k':Byt):BA (FH kv k) k'=if k'=k then none else BA kv k':=by
 induction kv with
 |nil=>split <;> rfl
 |cons p kv ih =>
  rw[qay,qci]at h;have ih:=ih h.2;unfold FH
  by_cases hp:p.1=k
  .rw[if_pos hp]
   by_cases he:k'=k
   .rw[if_pos he];rw[<-qda,Ft];simp only[qap];rw[he,<-hp];exact h.1
   .rw[if_neg he];unfold BA;rw[qc4,qai (fun e=>he (by rw[<-e,hp]))]
  .rw[if_neg hp];unfold BA at ih |-;rw[qc4,qc4]
   by_cases he:p.1=k'
   .rw[qam he,if_neg (fun e=>hp (by rw[he,e]))]
   .rw[qai he];exact ih
theorem Xa{kv:Kvl}(h:(kv.map (·.1)).Nodup)(x:Wr)(k:Byt):BA (KR kv x) k=if k=x.k then(if x.d=true then none else some x.v)else BA kv k:=by
 unfold KR
 split
 .rw[WZ h]
 .obtain⟨h1,h2⟩:=JL (k:=x.k) h
  have h3:BA (FH kv x.k) x.k=none:=by
   rw[<-qda,Ft]
   simpa using h2
  rw[Fm h3];have hd:=WZ h x.k k;unfold BA at hd |-;rw[qea,Option.map_or,hd]
  by_cases he:k=x.k
  .simp[he]
  .have he':¬x.k=k:=fun e=>he e.symm;simp[he,he']
def doP(L:List Pr)(x:Wr):List Pr:=if x.d=true then IQ L x.k else Hp L x.k x.v
def GM(L:List Pr)(W:List Wr):List Pr:=W.foldl doP L
structure KL(kv:Kvl)(L:List Pr):Prop where
 nd:(kv.map (·.1)).Nodup
 rise:Rising L
 get:∀k,BA kv k=DK L k
theorem MA{L:List Pr}(h:Rising L)(x:Wr):Rising (doP L x):=by
 unfold doP
 split
 .exact Hg h _
 .exact Gb h _ _
theorem Pm:∀{W:List Wr} {L:List Pr},Rising L->Rising (GM L W)
 | [],_,h=>h
 |x::W,_,h=>Pm (W:=W) (MA h x)
theorem Aab{L:List Pr}(h:Rising L)(x:Wr)(k:Byt):DK (doP L x) k=if k=x.k then(if x.d=true then none else some x.v)else DK L k:=by
 unfold doP
 split
 .rw[WX h]
 .rw[WW h]
section
variable {kv:Kvl}{L:List Pr}
theorem KL.set(h:KL kv L)(x:Wr):KL (KR kv x) (doP L x) :=
 ⟨M8 h.nd,MA h.rise x,fun k=>by rw[Xa h.nd,Aab h.rise,h.get]⟩
theorem KL.sets:∀{W:List Wr} {kv:Kvl} {L:List Pr},KL kv L->KL (Fy kv W) (GM L W)
 | [],_,_,h=>h
 |x::W,_,_,h=>KL.sets (W:=W) (h.set x)
theorem KL.nil:KL [] []:=⟨qb9,List.Pairwise.nil,fun _=>rfl⟩
theorem KL.perm(h:KL kv L):kv.Perm L:=by
 refine(qdw (EK h.nd) (EK (Iu h.rise))).2 fun p=>?_;rw[show p=(p.1,p.2)from rfl,<-Ahd h.nd,<-EG h.rise,h.get]
theorem KL.len(h:KL kv L):kv.length=L.length:=h.perm.length_eq
theorem KL.one{M:List Pr}(h:KL kv L)(h2:KL kv M):L=M:=WY h.rise h2.rise fun k=>by rw[<-h.get,h2.get]
theorem KL.scan(h:KL kv L)(kf kt:Byt):KU kv kf kt=LV kf kt L:=by
 have hs:(Cy kv).Pairwise (fun x y=>ltB x y):=by
  have h1:(Cy kv).Pairwise (fun x y=>x<=y):=by
   have:=qe4 (le:=fun x y:Byt=>decide (x<=y)) (fun a b c h1 h2=>by simp only[qap]at *;exact List.le_trans h1 h2) (fun a b=>by simp only[qcd,qap];exact List.le_total a b) (kv.map (·.1));exact this.imp fun h=>by simpa using h
  have h2:(Cy kv).Nodup:=((qcc _ _).nodup_iff).2 h.nd;refine(h1.and h2).imp fun{a b} hab=>?_
  rcases Nh a b with h3|h3|h3
  .exact h3
  .exact absurd h3 hab.2
  .exact absurd h3 (Amj.1 hab.1)
 have hk:Cy kv=L.map (·.1):=by
  have hp:(Cy kv).Perm (L.map (·.1)):=(qcc _ _).trans (h.perm.map _);exact qfb (le:=ltB) (fun a b _ _ h1 h2=>absurd h2 (Fs h1)) hs (qbn.2 h.rise) hp
 unfold KU LV;rw[hk,List.filter_map,qbf];have hf:(Vg kf kt ∘ fun x:Pr=>x.1)=fun p:Pr=>inR kf kt p.1:=rfl;rw[hf]
 have:∀p∈L.filter fun p=>inR kf kt p.1,((fun k=>(k,(BA kv k).getD [])) ∘ fun x:Pr=>x.1) p=p:=fun p hp=>by
  have h1:=(EG h.rise (k:=p.1) (v:=p.2)).2 (qbh.1 hp).1;show(p.1,(BA kv p.1).getD [])=p;rw[h.get,h1];rfl
 rw[qcw this,List.map_id''];exact fun _=>rfl
end
theorem Gh(p:Pr)(L:List Pr):Bz (p::L)=4+p.1.length+p.2.length+Bz L:=by simp[Bz]
theorem YM(A B:List Pr):Bz (A++B)=Bz A+Bz B:=by simp[Bz]
theorem Gi{A B:List Pr}(h:A.Perm B):Bz A=Bz B:=(h.map _).sum_nat
theorem Uh:∀{kv:Kvl} (_:(kv.map (·.1)).Nodup) (k:Byt),(Bz (FH kv k):Int)=Bz kv - KS kv k
 | [],_,k=>by simp[FH,KS,BA,Bz]
 |p::kv,h,k=>by
  rw[qay,qci]at h;have ih:=Uh h.2 k;unfold KS BA at ih |-;unfold FH;rw[qc4]
  by_cases hp:p.1=k
  .rw[if_pos hp,qam hp,Gh];simp only[qbd,LF,<-hp];omega
  .rw[if_neg hp,qai hp,Gh,Gh];dsimp only;omega
theorem Acm{kv:Kvl}(h:(kv.map (·.1)).Nodup)(x:Wr):(Bz (KR kv x):Int)=Bz kv - KS kv x.k+GL x:=by
 have hd:=Uh h x.k;unfold KR GL
 split
 .rw[hd];omega
 .obtain⟨h1,h2⟩:=JL (k:=x.k) h
  have h3:BA (FH kv x.k) x.k=none:=by
   rw[<-qda,Ft]
   simpa using h2
  rw[Fm h3,YM,Gh]
  have:Bz []=0:=rfl
  rw[this,<-hd];unfold LF
  push_cast
  omega
theorem Iv:∀{W:List Wr} {kv:Kvl} (_:(kv.map (·.1)).Nodup) (n:Int),DQ kv n W=n - Bz kv+Bz (Fy kv W)
 | [],kv,h,n=>by show n=n - _+((Bz kv:Nat):Int);omega
 |x::W,kv,h,n=>by
  have h1:=Iv (W:=W) (M8 (x:=x) h) (n - KS kv x.k+GL x);have h2:=Acm h x;show DQ (KR kv x) _ W=n - Bz kv+Bz (Fy (KR kv x) W);omega
def LH:List Byt->List Wr->Bool
 |_,[]=>true
 |seen,x::W => !LG (decide (x.k∈seen)) x && LH (seen++[x.k]) W
theorem Ahe{kv:Kvl}{room:Int}:∀{W:List Wr} {kv':Kvl} {seen:List Byt} {b:Int},(∀k,k∉seen->BA kv' k=BA kv k)->(kv'.map (·.1)).Nodup->goK kv room seen b W=if LH seen W=true then(if room<DQ kv' b W then 7 else 0)else 1
 | [],kv',seen,b,_,_=>rfl
 |x::W,kv',seen,b,hk,hnd=>by
  rw[goK]
  by_cases hb:LG (decide (x.k∈seen)) x=true
  .have:¬LH seen (x::W)=true:=by unfold LH;rw[hb];simp
   rw[if_pos hb,if_neg this]
  .have hm:LH seen (x::W)=LH (seen++[x.k]) W:=by
    unfold LH;rw[qd8.2 hb];show(true && LH (seen++[x.k]) W)=_;rw[Bool.true_and];cases W <;> rfl
   have hs:x.k∉seen:=by
    unfold LG at hb;simp only[qcd,qap,not_or]at hb;exact hb.1
   have ho:KS kv' x.k=KS kv x.k:=by unfold KS;rw[hk x.k hs]
   rw[if_neg hb,hm,Ahe (kv':=KR kv' x) (seen:=seen++[x.k]) (fun k hk2=>?_) (M8 hnd)]
   .rw[<-ho];rfl
   .simp only[qau,qaa,not_or]at hk2;rw[Xa hnd,if_neg hk2.2,hk k hk2.1]
theorem Ahf{kv:Kvl}(h:(kv.map (·.1)).Nodup)(room:Int)(W:List Wr):DO kv (Bz kv) room W=if 1000<W.length then 6 else if LH [] W=true then(if room<Bz (Fy kv W)then 7 else 0)else 1:=by
 unfold DO;rw[Ahe (kv':=kv) (fun _ _=>rfl) h,Iv h];rw[show(Bz kv:Int) - Bz kv+Bz (Fy kv W)=Bz (Fy kv W)by omega]
theorem KL.right{kv:Kvl}{L:List Pr}(h:KL kv L)(room:Int)(W:List Wr):DO kv (Bz L) room W=if 1000<W.length then 6 else if LH [] W=true then(if room<Bz (GM L W)then 7 else 0)else 1:=by
 rw[<-Gi h.perm,Ahf h.nd,Gi (h.sets (W:=W)).perm]
theorem Xb:∀{W:List Wr} {seen:List Byt},LH seen W=true->∀x∈W,x.Few/\1<=x.k.length
 | [],_,_,x,hx=>by cases hx
 |y::W,seen,h,x,hx=>by
  unfold LH at h;simp only[qao,qd0]at h
  rcases qab.1 hx with rfl|hx
  .have hb:=h.1;unfold LG at hb;simp only[qdu,qc5]at hb;refine⟨⟨by omega,by omega⟩,?_⟩
   have:0<x.k.length:=qbv.2 hb.2.1
   omega
  .exact Xb h.2 x hx
theorem Amk{L:List Pr}(h:OkP L){x:Wr}(hx:x.Few/\1<=x.k.length):OkP (doP L x):=fun p hp=>by
 unfold doP at hp
 split at hp
 .exact h p (VQ hp)
 .rcases VP hp with rfl|hp
  .exact⟨hx.2,hx.1⟩
  .exact h p hp
theorem Aac:∀{W:List Wr} {L:List Pr},OkP L->(∀x∈W,x.Few/\1<=x.k.length)->OkP (GM L W)
 | [],_,h,_=>h
 |x::W,_,h,hx=>Aac (W:=W) (Amk h (hx x (qae ..))) fun y hy=>hx y (qag _ hy)
theorem Ahg(L:List Pr)(V W:List Wr):GM L (V++W)=GM (GM L V) W:=qdm
theorem Ui:∀{W:List Wr} {L:List Pr} (_:Rising L) {k:Byt},(∀x∈W,x.k≠k)->DK (GM L W) k=DK L k
 | [],_,_,_,_=>rfl
 |x::W,L,h,k,hk=>by
  show DK (GM (doP L x) W) k=_;rw[Ui (MA h x) fun y hy=>hk y (qag _ hy),Aab h,if_neg fun e=>hk x (qae ..) e.symm]
structure Base9(A0:Dev)(P0:List Nat)(A:Dev)(P:List Nat):Prop where
 back:P.map Dm=P0
 blk:∀q,(∀x:Nat,P0[x]?=some 0->q≠362+x)->A.B.getD q (zeros,[])=A0.B.getD q (zeros,[])
 blen:A.B.length=A0.B.length
 left:A0.left = -1->A.left = -1
section
variable {A0 A A':Dev}{P0 P P':List Nat}{root:Int}{L M:List Pr}{mx:Nat}
theorem Base9.len(s:Base9 A0 P0 A P):P.length=P0.length:=by rw[<-s.back,qal]
theorem Base9.after(s:Base9 A0 P0 A P)(af:After 362 A P A' P'):Base9 A0 P0 A' P' :=
 ⟨af.back.trans s.back,fun q hq=>(af.blk q fun x hx=>hq x (by rw[<-s.back,qav,hx];rfl)).trans (s.blk q hq),af.blen.trans s.blen,fun h=>af.left (s.left h)⟩
theorem Base9.start(h01:∀s∈P,s=0\/s=1):Base9 A P A P:=by
 refine⟨?_,fun q _=>rfl,rfl,id⟩
 have h:∀s∈P,Dm s=id s:=fun s hs=>by rcases h01 s hs with rfl|rfl <;> rfl
 rw[qcw h,List.map_id]
theorem Base9.old(s:Base9 A0 P0 A P)(T:TreeAt 362 A0 P0 root M):TreeAt 362 A P0 root M:=by
 obtain⟨S,h1,h2,h3⟩:=T.lies;refine⟨⟨S,h1.frame fun x hx=>?_,h2,h3⟩,T.rise,T.ok⟩;unfold RD;rw[s.blk _ fun y hy he=>?_];obtain rfl:x=y:=by omega
 rcases(h3 x).1 hx with h|h <;> (rw[hy]at h;cases h)
def LX(f:Byt->Option Byt)(M:List Pr)(k:Byt):List Pr:=match f k with|some v=>Hp M k v|none=>IQ M k
def Oy(f:Byt->Option Byt)(M:List Pr)(ts:List Byt):List Pr:=ts.foldl (LX f) M
theorem Vh(h:Rising M)(f:Byt->Option Byt)(k:Byt):Rising (LX f M k):=by
 unfold LX
 split
 .exact Gb h _ _
 .exact Hg h _
theorem Acn(h:Rising M)(f:Byt->Option Byt)(k k':Byt):DK (LX f M k) k'=if k'=k then f k else DK M k':=by
 unfold LX
 cases hf:f k with
 |none=>dsimp only;rw[WX h]
 |some v=>dsimp only;rw[WW h]
theorem RU(f:Byt->Option Byt):∀{ts:List Byt} {M:List Pr},Rising M->Rising (Oy f M ts)/\∀k,DK (Oy f M ts) k=if k∈ts then f k else DK M k
 | [],M,h=>⟨h,fun k=>by simp[Oy]⟩
 |t::ts,M,h=>by
  obtain⟨h1,h2⟩:=RU f (ts:=ts) (Vh h f t);refine⟨h1,fun k=>?_⟩;show DK (Oy f (LX f M t) ts) k=_;rw[h2,Acn h]
  by_cases h3:k∈ts
  .rw[if_pos h3,if_pos (qag _ h3)]
  .rw[if_neg h3]
   by_cases h4:k=t
   .rw[if_pos h4,if_pos (by rw[h4];exact qae ..),h4]
   .rw[if_neg h4,if_neg (by simp[h3,h4])]
theorem Uj{f:Byt->Option Byt}{ts:List Byt}(hM:Rising M)(hL:Rising L)(hf:∀k,f k=DK L k)(hts:∀k,k∉ts->DK M k=DK L k):Oy f M ts=L:=by
 obtain⟨h1,h2⟩:=RU f (ts:=ts) hM;refine WY h1 hL fun k=>?_;rw[h2]
 split
 .exact hf k
 .rename_i h;exact hts k h
def Iw(f:Byt->Option Byt)(k:Byt)(r:Int)(A:Dev)(P:List Nat):Int × Int × Dev × List Nat :=
 match f k with
 |some v=>Jh 362 A P r k v
 |none=>((Gt 362 A P r k).1,(Gt 362 A P r k).2.1,(Gt 362 A P r k).2.2.2.1,(Gt 362 A P r k).2.2.2.2)
def CZ(f:Byt->Option Byt):List Byt->Int->Dev->List Nat->Int × Int × Dev × List Nat
 | [],r,A,P=>(0,r,A,P)
 |k::ts,r,A,P=>if(Iw f k r A P).1=0 then CZ f ts (Iw f k r A P).2.1 (Iw f k r A P).2.2.1 (Iw f k r A P).2.2.2 else Iw f k r A P
theorem Xc{f:Byt->Option Byt}{k:Byt}(hf:∀v,f k=some v->v.length<=128)(hk:1<=k.length/\k.length<=32)(T:TreeAt 362 A P root M)(hon:A.on=true)(hl:362+P.length<=A.B.length)(hP:P.length<=2000)(hfew:Few A mx) :
  Res9 A P (LX f M k) (Iw f k root A P).1 (Iw f k root A P).2.1 (Iw f k root A P).2.2.1 (Iw f k root A P).2.2.2 (mx+40):=by
 unfold Iw LX
 cases h:f k with
 |none =>
  dsimp only;exact Agv T hon hl hP hfew (by unfold CU;simp only[qao,qap];omega)
 |some v =>
  dsimp only;have:=hf v h;exact Agu T hon hl hP hfew (by unfold CU;simp only[qao,qap];omega)
theorem Oz{f:Byt->Option Byt}(hf:∀k v,f k=some v->v.length<=128):∀(ts:List Byt) (root:Int) (A:Dev) (P:List Nat) (M:List Pr) (mx:Nat),(∀k∈ts,1<=k.length/\k.length<=32)->TreeAt 362 A P root M->A.on=true->362+P.length<=A.B.length->P.length<=2000->Few A mx->Base9 A0 P0 A P ->
  Base9 A0 P0 (CZ f ts root A P).2.2.1 (CZ f ts root A P).2.2.2/\Few (CZ f ts root A P).2.2.1 (mx+40*ts.length) /\
   (((CZ f ts root A P).1=0/\(CZ f ts root A P).2.2.1.on=true/\TreeAt 362 (CZ f ts root A P).2.2.1 (CZ f ts root A P).2.2.2 (CZ f ts root A P).2.1 (Oy f M ts))\/((CZ f ts root A P).1=8/\A0.left ≠ -1/\(CZ f ts root A P).2.2.1.on=false)\/((CZ f ts root A P).1=7/\(CZ f ts root A P).2.2.1.on=true))
 | [],root,A,P,M,mx,_,T,hon,hl,hP,hfew,b=>⟨b,hfew,.inl ⟨rfl,hon,T⟩⟩
 |k::ts,root,A,P,M,mx,hts,T,hon,hl,hP,hfew,b=>by
  have h:=Xc (f:=f) (hf k) (hts k (qae ..)) T hon hl hP hfew;have b1:=b.after h.aft
  rcases h.out with⟨h1,h2,h3⟩|⟨h1,h2,h3⟩|⟨h1,h2⟩
  .have hst:CZ f (k::ts) root A P=CZ f ts (Iw f k root A P).2.1 (Iw f k root A P).2.2.1 (Iw f k root A P).2.2.2:=if_pos h1;rw[hst];obtain⟨i1,i2,i3⟩:=Oz hf ts _ _ _ _ _ (fun k hk=>hts k (qag _ hk)) h3 h2 (by rw[h.aft.blen,h.aft.len];exact hl) (by rw[h.aft.len];exact hP) h.few b1;exact⟨i1,i2.mono (by rw[qaw];omega),i3⟩
  .have hst:CZ f (k::ts) root A P=Iw f k root A P:=if_neg (by rw[h1];decide);rw[hst];exact⟨b1,h.few.mono (by rw[qaw];omega),.inr (.inl ⟨h1,fun h=>h2 (b.left h),h3⟩)⟩
  .have hst:CZ f (k::ts) root A P=Iw f k root A P:=if_neg (by rw[h1];decide);rw[hst];exact⟨b1,h.few.mono (by rw[qaw];omega),.inr (.inr ⟨h1,h2⟩)⟩
def Gw(P:List Nat):Nat:=(Gu P P.length).length
theorem Aco{P S:List Nat}(hnd:S.Nodup)(hS:∀x:Nat,x∈S↔P[x]?=some 1\/P[x]?=some 2):S.Perm (Gu P P.length):=by
 refine(qdw hnd (List.nodup_range.filter _)).2 fun x=>?_;rw[qbh,qdo,hS];unfold II;rw[qcd,qap,qap];refine⟨fun h=>⟨h.elim (fun h=>(qaq.1 h).1) fun h=>(qaq.1 h).1,h⟩,And.right⟩
theorem HL{P S:List Nat}(hnd:S.Nodup)(hS:∀x:Nat,x∈S↔P[x]?=some 1\/P[x]?=some 2):Gw P=S.length:=(Aco hnd hS).length_eq.symm
def Jp(A:Dev)(P:List Nat)(L:List Pr):Int × Ch × Int:=if L=[]then(0,⟨A,P,[],[]⟩,-1)else BZ 362 1500 ⟨A,P,[],[]⟩ false (L.map BC)
def RW(A:Dev)(P:List Nat)(L:List Pr):List Nat:=if L=[]then P else(Dq (BZ 362 1500 ⟨A,P,[],[]⟩ false (L.map BC)).2.1 (BZ 362 1500 ⟨A,P,[],[]⟩ false (L.map BC)).1).P
theorem YN{P:List Nat}(h01:∀s∈P,s=0\/s=1):Gw P+Dn P=P.length:=by
 have hs:P.map BD=P:=by
  have h:∀s∈P,BD s=id s:=fun s hs=>by rcases h01 s hs with rfl|rfl <;> rfl
  rw[qcw h,List.map_id]
 have h1:=JH (P:=P) (fun s hs=>by rcases h01 s hs with rfl|rfl <;> decide) P.length (qaf _);rw[qa5 (by rw[qal];omega),hs]at h1;exact h1
theorem Pn(hon:A.on=true)(hl:362+P.length<=A.B.length)(hP:P.length<=2000)(hfew:Few A mx)(h01:∀s∈P,s=0\/s=1)(hL:Rising L)(ho:OkP L){S:List Nat}(hnd:S.Nodup)(hS:∀x:Nat,x∈S↔P[x]?=some 1\/P[x]?=some 2){h:Nat}(hroom:S.length+h<=P.length)(hh:Fg 1500 (2*Bz L / 503+1)<=h)(hb:2*Bz L / 503+1<=1500) :
  Base9 A P (Jp A P L).2.1.A (RW A P L)/\Few (Jp A P L).2.1.A (mx+2000)/\(((Jp A P L).1=8/\A.left ≠ -1/\(Jp A P L).2.1.A.on=false)\/((Jp A P L).1=0/\(Jp A P L).2.1.A.on=true/\TreeAt 362 (Jp A P L).2.1.A (S.foldl Ef (RW A P L)) (Jp A P L).2.2 L/\Base9 A P (Jp A P L).2.1.A (S.foldl Ef (RW A P L))/\Gw (S.foldl Ef (RW A P L))<=h)):=by
 have hdrop:∀{A':Dev} {P':List Nat},Base9 A P A' P'->Base9 A P A' (S.foldl Ef P'):=fun{A' P'} b=>by
  refine⟨?_,b.blk,b.blen,b.left⟩;rw[<-b.back];refine qcg fun x=>?_;rw[qav,qav,Ji S P' hnd x]
  split
  .cases P'[x]? with
   |none=>rfl
   |some s=>simp only[qbd];rw[TI]
  .rfl
 have hfc:=YN h01;rw[HL hnd hS]at hfc;unfold Jp RW
 by_cases hne:L=[]
 .rw[if_pos hne,if_pos hne];subst hne;have b0:Base9 A P A P:=Base9.start h01
  have hT:∀x:Nat,(S.foldl Ef P)[x]?=some 1\/(S.foldl Ef P)[x]?=some 2->False:=fun x hx=>by
   rw[Ji S P hnd x]at hx
   by_cases hxS:x∈S
   .rw[if_pos hxS]at hx
    cases hpx:P[x]? with
    |none=>rw[hpx]at hx;simp at hx
    |some s =>
     rw[hpx]at hx;simp only[qbd,qbc]at hx;have:=Lt s;omega
   .rw[if_neg hxS]at hx;exact hxS ((hS x).2 hx)
  refine⟨b0,hfew.mono (by omega),.inr ⟨rfl,hon,⟨⟨[],.inl ⟨rfl,rfl,rfl⟩,qb9,fun x=>⟨(fun h=>by cases h),fun hx=>(hT x hx).elim⟩⟩,hL,ho⟩,hdrop b0,?_⟩⟩;rw[HL (S:=[]) qb9 fun x=>⟨(fun h=>by cases h),fun hx=>(hT x hx).elim⟩];exact qak _
 .rw[if_neg hne,if_neg hne];have hm0:=Ri 1500 (2*Bz L / 503+1);obtain⟨t,c1,c2⟩:=Pf (fr:=362) (n:=1500) (h:=0) (c:=⟨A,P,[],[]⟩) (i:=false) (M:=L.map BC) (L:=L) (S:=[]) (2*Bz L / 503+1) hb (qaf _) ⟨rfl,rfl,rfl⟩ ho (fun x hx=>by cases hx) ⟨hon,hl,by show P.length<=4096;omega⟩ (by show L.map BC≠[];simpa using hne) (by rw[Ru];exact qaf _) (by show _<=Dn P;omega) (by show 0+Dn P<=5000;omega);have ht:=N1 (fr:=362) (n:=1500) (c:=⟨A,P,[],[]⟩) (i:=false) (M:=L.map BC) hon
  have hft:t.length<=P.length:=by
   have:=c1.free;have h2:Dn P<=P.length:=Af8 P;dsimp only at this;omega
  have hfw:Few (BZ 362 1500 ⟨A,P,[],[]⟩ false (L.map BC)).2.1.A (mx+2000):=by
   have h1:=Pg (fr:=362) (n:=1500) (c:=⟨A,P,[],[]⟩) (i:=false) (M:=L.map BC) (m:=mx) (hfew.mono (qck ..));rw[c1.tk]at h1;exact h1.mono (by simp;omega)
  rcases c2 with⟨e8,el⟩|⟨d1,e0,d3,S',d5,d6,d7⟩
  .rw[e8]at ht |-;obtain⟨af,hPP⟩:=QY (e:=8) c1 ⟨rfl,rfl⟩ (by decide);have b1:=(Base9.start (A:=A) h01).after af;exact⟨b1,hfw,.inl ⟨rfl,el,ht.off⟩⟩
  .rw[e0]at ht |-
   have hP2:(Dq (BZ 362 1500 ⟨A,P,[],[]⟩ false (L.map BC)).2.1 0).P=(BZ 362 1500 ⟨A,P,[],[]⟩ false (L.map BC)).2.1.P:=by
    unfold Dq;rw[if_neg (by decide)];have:=c1.gn;dsimp only at this |-;rw[this];rfl
   rw[hP2];have hnow:=c1.now;have hwas:=c1.was;dsimp only at hnow hwas
   have b1:Base9 A P (BZ 362 1500 ⟨A,P,[],[]⟩ false (L.map BC)).2.1.A (BZ 362 1500 ⟨A,P,[],[]⟩ false (L.map BC)).2.1.P:=by
    refine⟨qcg fun x=>?_,fun q hq=>c1.blk q fun x hx=>hq x (hwas x hx),c1.blen,c1.left⟩;rw[qav,hnow x]
    by_cases hx:x∈t
    .rw[if_pos hx,hwas x hx];rfl
    .rw[if_neg hx]
     cases hpx:P[x]? with
     |none=>rfl
     |some s=>rcases h01 s (qad hpx)with rfl|rfl <;> rfl
   have hSt:S'.Perm t:=by simpa using d6
   have hm:∀x:Nat,x∈S'↔(S.foldl Ef (BZ 362 1500 ⟨A,P,[],[]⟩ false (L.map BC)).2.1.P)[x]?=some 1\/(S.foldl Ef (BZ 362 1500 ⟨A,P,[],[]⟩ false (L.map BC)).2.1.P)[x]?=some 2:=fun x=>by
    rw[hSt.mem_iff,Ji S _ hnd x,hnow x]
    by_cases hx:x∈t
    .have h0:=hwas x hx
     have hxS:x∉S:=fun h=>by rcases(hS x).1 h with h|h <;> (rw[h0]at h;cases h)
     rw[if_neg hxS,if_pos hx];simp[hx]
    .rw[if_neg hx]
     by_cases hxS:x∈S
     .rw[if_pos hxS];refine⟨fun h=>absurd h hx,fun h=>?_⟩
      cases hpx:P[x]? with
      |none=>rw[hpx]at h;simp at h
      |some s =>
       rw[hpx]at h;simp only[qbd,qbc]at h;have:=Lt s;omega
     .rw[if_neg hxS];exact⟨fun h=>absurd h hx,fun h=>absurd ((hS x).2 h) hxS⟩
   have hnS:S'.Nodup:=hSt.nodup_iff.2 c1.nd;refine⟨b1,hfw,.inr ⟨rfl,ht.on (by decide),⟨⟨S',d5,hnS,hm⟩,hL,ho⟩,hdrop b1,?_⟩⟩;rw[HL hnS hm,hSt.length_eq];omega
def DG(f:Byt->Option Byt)(ts:List Byt)(L:List Pr)(h:Nat)(A:Dev)(P:List Nat)(root:Int)(S:List Nat):Int × Int × Dev × List Nat :=
 let s:=CZ f ts root A P
 if s.1≠7/\(s.1≠0\/Gw s.2.2.2<=h)then(s.1,s.2.1,s.2.2.1,s.2.2.2)
 else
  let b:=Jp s.2.2.1 (s.2.2.2.map Dm) L
  if b.1≠0 then(b.1,b.2.2,b.2.1.A,RW s.2.2.1 (s.2.2.2.map Dm) L)
  else(0,b.2.2,b.2.1.A,S.foldl Ef (RW s.2.2.1 (s.2.2.2.map Dm) L))
theorem Acp{f:Byt->Option Byt}{ts:List Byt}{h:Nat}{S:List Nat}(T:TreeAt 362 A P root M)(h01:∀s∈P,s=0\/s=1)(hnd:S.Nodup)(hS:∀x:Nat,x∈S↔P[x]?=some 1\/P[x]?=some 2)(hon:A.on=true)(hfew:Few A 0)(hL:Rising L)(ho:OkP L)(hf:∀k,f k=DK L k)(hts:∀k,k∉ts->DK M k=DK L k)(htk:∀k∈ts,1<=k.length/\k.length<=32)(hroom:S.length+h<=P.length)(hh:Fg 1500 (2*Bz L / 503+1)<=h)(hb:2*Bz L / 503+1<=1500)(hl:362+P.length<=A.B.length:=by omega)(hP:P.length<=2000:=by omega):
  Base9 A P (DG f ts L h A P root S).2.2.1 (DG f ts L h A P root S).2.2.2/\Few (DG f ts L h A P root S).2.2.1 (40*ts.length+2000)/\(((DG f ts L h A P root S).1=8/\A.left ≠ -1/\(DG f ts L h A P root S).2.2.1.on=false)\/((DG f ts L h A P root S).1=0/\(DG f ts L h A P root S).2.2.1.on=true/\TreeAt 362 (DG f ts L h A P root S).2.2.1 (DG f ts L h A P root S).2.2.2 (DG f ts L h A P root S).2.1 L/\Gw (DG f ts L h A P root S).2.2.2<=h)):=by
 obtain⟨s1,s2,s3⟩:=Oz (A0:=A) (P0:=P) (f:=f) (fun k v hv=>(ho (k,v) ((EG hL).1 (by rw[<-hf,hv]))).2.2) ts root A P M 0 htk T hon hl hP hfew (Base9.start h01);rw[Uj T.rise hL hf hts]at s3;unfold DG;dsimp only
 have hbld:(CZ f ts root A P).2.2.1.on=true->(CZ f ts root A P).1=7\/(CZ f ts root A P).1=0->¬((CZ f ts root A P).1≠7/\((CZ f ts root A P).1≠0\/Gw (CZ f ts root A P).2.2.2<=h)) ->
   Base9 A P (DG f ts L h A P root S).2.2.1 (DG f ts L h A P root S).2.2.2/\Few (DG f ts L h A P root S).2.2.1 (40*ts.length+2000)/\(((DG f ts L h A P root S).1=8/\A.left ≠ -1/\(DG f ts L h A P root S).2.2.1.on=false)\/((DG f ts L h A P root S).1=0/\(DG f ts L h A P root S).2.2.1.on=true/\TreeAt 362 (DG f ts L h A P root S).2.2.1 (DG f ts L h A P root S).2.2.2 (DG f ts L h A P root S).2.1 L/\Gw (DG f ts L h A P root S).2.2.2<=h)):=fun hon2 _ hc=>by
  have hbk:(CZ f ts root A P).2.2.2.map Dm=P:=s1.back;have hlen:=s1.blen;have b:=Pn (A:=(CZ f ts root A P).2.2.1) (P:=P) (L:=L) (mx:=40*ts.length) hon2 (by rw[hlen];exact hl) hP (s2.mono (by omega)) h01 hL ho hnd hS hroom hh hb;have hlift:∀{A':Dev} {P':List Nat},Base9 (CZ f ts root A P).2.2.1 P A' P'->Base9 A P A' P':=fun b=>⟨b.back,fun q hq=>(b.blk q hq).trans (s1.blk q hq),b.blen.trans hlen,fun h=>b.left (s1.left h)⟩;unfold DG;dsimp only;rw[if_neg hc,hbk];obtain⟨b1,b2,b3⟩:=b
  rcases b3 with⟨b3,b4,b5⟩|⟨b3,b4,b5,b6,b7⟩
  .rw[if_pos (by rw[b3];decide)];exact⟨hlift b1,b2,.inl ⟨b3,fun h=>b4 (s1.left h),b5⟩⟩
  .rw[if_neg (by rw[b3];simp)];exact⟨hlift b6,b2,.inr ⟨rfl,b4,b5,b7⟩⟩
 rcases s3 with⟨t1,t2,t3⟩|⟨t1,t2,t3⟩|⟨t1,t2⟩
 .by_cases hlo:Gw (CZ f ts root A P).2.2.2<=h
  .rw[if_pos ⟨by rw[t1];decide,.inr hlo⟩];exact⟨s1,s2.mono (by omega),.inr ⟨t1,t2,t3,hlo⟩⟩
  .have:=hbld t2 (.inr t1) (fun h=>h.2.elim (fun h=>h t1) hlo);unfold DG at this;exact this
 .rw[if_pos ⟨by rw[t1];decide,.inl (by rw[t1];decide)⟩];exact⟨s1,s2.mono (by omega),.inl ⟨t1,t2,t3⟩⟩
 .have:=hbld t2 (.inl t1) (fun h=>h.1 t1);unfold DG at this;exact this
end
def RV(V:Nat->Byt)(p:Nat):Option (Bool × List It):=DZ (V (362+p))
structure Dsk(N:Nat)(V:Nat->Byt)(R:Rj)(gen:Nat)(root:Int)(M:List Pr)(S:List Nat)(Ws:List (List Wr))(L:List Pr):Prop where
 n:442<=N/\N<=841
 z:R.size=360
 r1:Cn ((gen % 2:Nat):Int) (V (gen % 2))=gen
 rl:Dr ((gen % 2:Nat):Int) (V (gen % 2))=tpB root R.first R.seq
 r0:Cn (((gen+1) % 2:Nat):Int) (V ((gen+1) % 2))<gen
 tr:Root (RV V) root M S
 nd:S.Nodup
 low:∀x∈S,x+362<N
 half:S.length<=(N - 362) / 2
 rise:Rising M
 ok:OkP M
 mx:M.length<=10000
 ws:R.L=Ws.map opB
 few:∀W∈Ws,W.length<=1000/\∀x∈W,x.Few/\1<=x.k.length
 l:L=GM M Ws.flatten
 room:(Bz L:Int)<=DY N
structure Alv(N:Nat)(A:Dev)(R:Rj)(x:Sx)(M:List Pr)(S:List Nat)(Ws:List (List Wr))(L:List Pr)(b:Nat):Prop where
 sg:SG N A R x.V
 d:Dsk N x.V R x.gen x.root M S Ws L
 kl:KL x.kv L
 n:x.n=Bz L
 t:x.t=Ec [] Ws.flatten
 len:x.P.length=N - 362
 p01:∀s∈x.P,s=0\/s=1
 mem:∀y:Nat,y∈S↔x.P[y]?=some 1\/x.P[y]?=some 2
 gen:x.gen<=b
 seq:1<=R.seq/\R.seq+R.L.length<=b
def Bs(N:Nat)(b:Nat)(L:List Pr)(A:Dev):Prop :=
 ∃R V gen root M S Ws,SG N A R V/\Dsk N V R gen root M S Ws L/\gen<=b/\1<=R.seq/\R.seq+R.L.length<=b
def Bk(N:Nat)(b:Nat)(L:List Pr)(A:Dev):Prop :=
 A.left = -1/\Bs N b L A
section
variable {N b:Nat}{A:Dev}{R:Rj}{V V':Nat->Byt}{gen:Nat}{root:Int}{M L:List Pr}{S:List Nat}{Ws:List (List Wr)}{x:Sx}
theorem L6(h:442<=N/\N<=841):KJ N=(((N - 362) / 2:Nat):Int):=by unfold KJ;omega
theorem PE(h:442<=N/\N<=841):DY N=(4*KJ N / 5 - 1)*251:=by unfold DY;rw[if_neg (by rw[L6 h];omega)]
theorem Dsk.lo(d:Dsk N V R gen root M S Ws L):1<=gen:=by have:=d.r0;omega
theorem Dsk.fewW(d:Dsk N V R gen root M S Ws L):∀y∈Ws.flatten,y.Few/\1<=y.k.length:=fun y hy=>by
 obtain⟨W,h1,h2⟩:=qe0.1 hy;exact(d.few W h1).2 y h2
theorem Dsk.riseL(d:Dsk N V R gen root M S Ws L):Rising L:=by rw[d.l];exact Pm d.rise
theorem Dsk.okL(d:Dsk N V R gen root M S Ws L):OkP L:=by rw[d.l];exact Aac d.ok d.fewW
theorem Uk:∀{L:List Pr},OkP L->5*L.length<=Bz L
 | [],_=>qak _
 |p::L,h=>by
  have h1:=Uk (L:=L) fun q hq=>h q (qag _ hq);have h2:=(h p (qae ..)).1;rw[Gh,qaw];omega
theorem Dsk.num(d:Dsk N V R gen root M S Ws L):L.length<=10000/\Bz L<=50000:=by
 have h1:=Uk d.okL;have h2:=d.room;have h3:=d.n;rw[PE d.n,L6 d.n]at h2;omega
theorem Dsk.most(d:Dsk N V R gen root M S Ws L):Fg 1500 (2*Bz L / 503+1)<=(N - 362) / 2/\2*Bz L / 503+1<=1500:=by
 have h2:=d.room;have h3:=d.n;rw[PE d.n,L6 d.n]at h2;have h4:=Y5 (2*Bz L / 503+1) (by omega);have h5:max 40 ((5*(2*Bz L / 503+1)+3) / 4)<=(N - 362) / 2:=by omega
 omega
theorem Aad:∀{Ws:List (List Wr)},(∀W∈Ws,∀y∈W,y.Few/\1<=y.k.length)->6*Ws.flatten.length<=480*B7 (Ws.map opB)
 | [],_=>qak _
 |W::Ws,h=>by
  have h1:=Aad (Ws:=Ws) fun W hW=>h W (qag _ hW)
  have h2:∀{W:List Wr},(∀y∈W,y.Few/\1<=y.k.length)->6*W.length<=(opB W).length:=by
   intro W
   induction W with
   |nil=>intro _;exact qak _
   |cons y W ih =>
    intro h;have h3:=ih fun z hz=>h z (qag _ hz);have h4:=(h y (qae ..)).2;have h5:=Va y;unfold opB at h3 |-;rw[qb6,qan,qaw,h5];omega
  have h3:=h2 (h W (qae ..));have h4:=Aja (opB W).length;rw[qey,qan];have h5:B7 ((W::Ws).map opB)=blk (opB W).length+B7 (Ws.map opB):=by simp[B7]
  rw[h5];omega
theorem Dsk.num2(d:Dsk N V R gen root M S Ws L)(hR:R.Ok):Ws.flatten.length<=28800/\Ws.length<=180:=by
 have h1:=Aad (Ws:=Ws) fun W hW=>(d.few W hW).2;have h2:=hR.t;have h3:=JK R.L;rw[d.z]at h2;rw[d.ws]at h2 h3;rw[qal]at h3;omega
theorem Root.same{R1 R2:Nat->Option (Bool × List It)}(h:Root R1 root M S)(he:∀x∈S,R2 x=R1 x):Root R2 root M S:=h.frame he
theorem Dsk.congr(d:Dsk N V R gen root M S Ws L)(h0:∀q,q<2->V' q=V q)(hS:∀y∈S,V' (362+y)=V (362+y)):Dsk N V' R gen root M S Ws L :=
 ⟨d.n,d.z,by rw[h0 _ (qbi _ (by decide))];exact d.r1,by rw[h0 _ (qbi _ (by decide))];exact d.rl,by rw[h0 _ (qbi _ (by decide))];exact d.r0,d.tr.frame fun y hy=>by unfold RV;rw[hS y hy],d.nd,d.low,d.half,d.rise,d.ok,d.mx,d.ws,d.few,d.l,d.room⟩
theorem NG{α:Type}{k:Byt}{v:α}:∀{m:List (Byt × α)},k∈m.map (·.1)->(IP m k v).map (·.1)=m.map (·.1)
 | [],h=>by cases h
 |p::m,h=>by
  unfold IP
  by_cases hp:p.1=k
  .rw[if_pos hp];simp[hp]
  .rw[if_neg hp,qay,qay,NG]
   rcases qab.1 h with h|h
   .exact absurd h.symm hp
   .exact h
theorem Po:∀{W:List Wr} {t:List (Byt × Int)},(t.map (·.1)).Nodup->((Ec t W).map (·.1)).Nodup/\(∀k,k∈(Ec t W).map (·.1)↔k∈t.map (·.1)\/∃y∈W,y.k=k)/\(Ec t W).length<=t.length+W.length
 | [],t,h=>⟨h,fun k=>by simp[Ec],by simp[Ec]⟩
 |y::W,t,h=>by
  have hk:∀k,k∈(Jl t y.k).map (·.1)↔k∈t.map (·.1)\/y.k=k:=fun k=>by
   unfold Jl
   by_cases hy:y.k∈t.map (·.1)
   .rw[NG hy];exact⟨.inl,fun h5=>h5.elim id fun h5=>h5 ▸ hy⟩
   .rw[Fm (by rw[<-qda,Ft];simpa using hy)];simp[eq_comm]
  have hn:((Jl t y.k).map (·.1)).Nodup:=by
   unfold Jl
   by_cases hy:y.k∈t.map (·.1)
   .rw[NG hy];exact h
   .rw[Fm (by rw[<-qda,Ft];simpa using hy),qaz,qdj];refine⟨h,by simp,fun a ha c hc=>?_⟩;simp only[qay,qbr,qaa]at hc;rintro rfl;exact hy (hc ▸ ha)
  have hl:(Jl t y.k).length<=t.length+1:=by
   unfold Jl
   by_cases hy:y.k∈t.map (·.1)
   .have:=qac List.length (NG (v:=(BA t y.k).getD 0+1) hy);rw[qal,qal]at this;omega
   .rw[Fm (by rw[<-qda,Ft];simpa using hy)];simp
  obtain⟨i1,i2,i3⟩:=Po (W:=W) hn;refine⟨i1,fun k=>?_,?_⟩
  .show k∈(Ec (Jl t y.k) W).map (·.1)↔_;rw[i2,hk];simp only[qab,exists_eq_or_imp];exact or_assoc
  .show(Ec (Jl t y.k) W).length<=_;rw[qaw];omega
structure Loo(N:Nat)(V:Nat->Byt)(FP:Nat->Prop)(D:Dev):Prop where
 len:D.B.length=N
 get:∀q,q<N->¬FP q->D.B[q]?=some (V q,[])
theorem Loo.on{FP:Nat->Prop}{D:Dev}(h:Loo N V FP D)(ho:D.on=false)(picks:List Int):(onD D picks).on=true/\(onD D picks).left = -1/\∃V',Pend (onD D picks) N V' (fun _=>[])/\∀q,q<N->¬FP q->V' q=V q:=by
 have hd:onD D picks=⟨DW D.B picks,-1,true⟩:=by unfold onD;rw[ho];rfl
 rw[hd];refine⟨rfl,rfl,fun q=>((DW D.B picks).getD q (zeros,[])).1,⟨(Ge _ _).trans h.len,fun q hq=>?_⟩,fun q hq hn=>?_⟩
 .obtain⟨y,hy⟩:=AR (l:=DW D.B picks) (i:=q) (h:=by rw[Ge,h.len];exact hq);have h2:=(Oa (qad hy)).1;show(DW D.B picks)[q]?=_;rw[qa6,hy];obtain⟨y1,y2⟩:=y;obtain rfl:y2=[]:=h2;rfl
 .obtain⟨y,hy,hy2⟩:=Jo (picks:=picks) (h.get q hq hn);show((DW D.B picks).getD q (zeros,[])).1=V q;rw[qa6,hy];exact hy2.resolve_right fun h=>by cases h
end
theorem Aae{wK w1 wb w:World}{e9 e28:List (Nat × Obj)}{m:Wm}(h:m.Ok w1 (Mk wK e9))(hx:Ext [] w1 wb)(H:Ctx wb (e9.map (·.1)) w e28):m.Ok w (Mk wK e28) :=
 ⟨NF h.k hx H,NF h.v hx H,h.kc,h.vc⟩
theorem Wm.Ok.weak{w:World}{M M':Mut}{m:Wm}(h:m.Ok w M)(hM:∀x,M' x->M x):m.Ok w M':=⟨⟨h.k.1,h.k.2.imp id fun h2 h3=>h2 (hM _ h3)⟩,⟨h.v.1,h.v.2.imp id fun h2 h3=>h2 (hM _ h3)⟩,h.kc,h.vc⟩
theorem Ajj(d:Bool):WE d<256:=by cases d <;> decide
theorem Acq{X B:Byt}{f p:Nat}(hp:X.length=p)(hf:f<256):FC (X++(Bo f 1++B)) (p:Int) 1=.tuple #[.int .u64 (f:Int),.int .i64 ((p:Int)+1),.int .i64 0]:=by
 have hl:(X++(Bo f 1++B)).length=p+1+B.length:=by simp[AP,hp];omega
 have he:CV (X++(Bo f 1++B)) (p:Int) 1=0:=by
  unfold CV;rw[hl,qam (show(0:Int)<=(p:Int)by omega),qam (show(p:Int)<=((p+1+B.length:Nat):Int)by omega),qam (show(1:Int)<=((p+1+B.length:Nat):Int) - (p:Int)by omega)];rfl
 have hd:((X++(Bo f 1++B)).drop p).take 1=Bo f 1:=by
  subst hp;rw[List.drop_left,qcn (by rw[AP];decide),qa5 (by rw[AP];decide)]
 have hn:numN (Bo f 1)=f:=by rw[EH];exact qa7 (by simpa using hf)
 unfold FC;rw[he];show Value.tuple #[.int .u64 (numN (((X++(Bo f 1++B)).drop (p:Int).toNat).take 1):Int),_,_]=_;rw[qbm,hd,hn]
theorem Aaf{L:List Wr}{i:Nat}{x:Wr}(h:L[i]?=some x):opB L=opB (L.take i)++(Bo (WE x.d) 1++(Bo x.k.length 2++(x.k++(Bo x.v.length 2++(x.v++opB (L.drop (i+1))))))):=by
 obtain⟨hlt,he⟩:=qaq.1 h;have h1:L=L.take i++(x::L.drop (i+1)):=by rw[<-he,<-qdv hlt,qbl]
 conv=>lhs;rw[h1]
 unfold opB;rw[qbp,qb6];simp[wrB]
structure Wcj(wK:World)(L:List Wr)(i:Nat)(a9:Option Addr)(n9 c9:Nat)(f9:List Value)(qs:List Wm)(w':World):Prop where
 ext:Ext [] wK w'
 blk:∀y∈ent a9 56 f9,w'.heap[y.1]?=some y.2/\wK.heap.size<=y.1
 os:OS a9 n9 c9 3 f9 (qs.flatMap Dx)
 eq:qs.map (·.x)=L.take i
 ok:∀m∈qs,m.Ok w' (Mk wK (ent a9 56 f9))
theorem Aml{w:World}(a:Option Addr)(c n:Nat)(L:List Wr)(R:Rd w a 1 B8 (opB L))(hn:(opB L).length=n)(hc:n<=c)(hL:∀x∈L,x.Few)(hl:L.length<=1000) :
  Ret prog 64 #[.slice a n c] w fun v w'=>∃a' c',v=.slice a' L.length c'/\Wrs w' (Old w) a' L.length c' L/\Ext [] w w':=by
 obtain⟨wI,rfl⟩:=qD w;have hOL:=N6 hL;refine A6 (fn:=f64) func64 U [.slice a n c] U ?_;refine Ad (Aj U (qA (Ar (Ad (Ac U (qA (AD (BF 4611686018427387900 (α:=Nat × Option Addr × Nat × Nat × List Value × List Wm) (fun s=>[(3,.int .i64 ((opB (L.take s.1)).length:Int)),(2,.slice s.2.1 s.2.2.1 s.2.2.2.1)]) (fun s w'=>s.1<=L.length/\s.2.2.1=s.1/\Wcj wI L s.1 s.2.1 s.2.2.1 s.2.2.2.1 s.2.2.2.2.1 s.2.2.2.2.2 w') (fun s=>L.length - s.1) (0,none,0,0,[],[]) U ?_ ?_ ?_))))))))
 .exact⟨rfl,rfl,trivial⟩
 .exact⟨qak _,rfl,Ext.refl _ _,(fun y hy=>by cases hy),OS.nil,rfl,fun m hm=>by cases hm⟩
 .rintro⟨i,a9,n9,c9,f9,qs⟩ j w1 ⟨hi,hn9,S⟩;dsimp only at hi hn9 S;dsimp only;have H:=Ctx.start w1 [];refine Ar (Ad (Ae U (Ai U (AO AW U (Bt U U (qA (Au _ U ?_ ?_)))))))
  .intro h1;replace h1:=AU h1
   have hiL:i<L.length:=by
    by_cases h:i<L.length
    .exact h
    .rw[qa5 (by omega)]at h1;omega
   obtain⟨x,hx⟩:=AR (l:=L) (i:=i) (h:=hiL);have hcut:=Aaf hx;have hxf:=hL x (qad hx);unfold Wr.Few at hxf;obtain⟨p,hp⟩:=qD ((opB (L.take i)).length);rw[<-hp];have hlen:=qac List.length hcut;simp only[qan,AP]at hlen;have hv1:=Acq (X:=opB (L.take i)) (B:=Bo x.k.length 2++(x.k++(Bo x.v.length 2++(x.v++opB (L.drop (i+1)))))) hp.symm (Ajj x.d);rw[<-hcut]at hv1;have hcut2:opB L=(opB (L.take i)++(Bo (WE x.d) 1++(Bo x.k.length 2++x.k)))++(Bo x.v.length 2++(x.v++opB (L.drop (i+1)))):=by rw[hcut];simp
   have ht1:tbO (opB L) (p+1)=some (x.k,p+1+2+x.k.length):=by rw[hcut,<-qa0];exact Nj (by simp[AP,hp]) (by omega)
   have ht2:tbO (opB L) (p+1+2+x.k.length)=some (x.v,p+1+2+x.k.length+2+x.v.length):=by rw[hcut2];exact Nj (by simp[AP,hp];omega) (by omega)
   refine Aq (Aa (AD (Ad (Ai U (Ae U (Ah qB (Gq a c _ (opB L) (p:Int) 1 _ (R.ext0 S.ext) hn (by omega)) U ?_))))));rintro v w ⟨rfl,hx18⟩;replace H:=H.call hx18;rw[hv1];refine AM U (Ag U U (Ag U U (Ag U U (Ac U (Ac U (Ac U (qA (Ad (Ai U ?_)))))))));refine Ae U (Ai U (AO AW U (U1 U U U ?_)));rw[show min ((p:Int)+1) (n:Int)=((p+1:Nat):Int)by omega];refine Ah qB (Gs a c n (opB L) (p+1) _ ((R.ext0 S.ext).ext0 H.ext) hn hc) U ?_;rintro v w ⟨ka,k,kc,nx,e,rfl,hx28,Xk,hkc,-,-,h0,h1e⟩;have e0:e=0:=Classical.byContradiction (fun h=>by have h5:=(h1e h).1;rw[ht1]at h5;cases h5);subst e0;have hk2:=h0 rfl;rw[ht1]at hk2;obtain⟨rfl,rfl⟩:x.k=k/\p+1+2+x.k.length=nx:=(by injection hk2 with h;injection h with h2 h3;exact⟨h2,h3⟩);have hs28:=H.size;replace H:=H.call hx28
   refine AM U (Ag U U (Ag U U (Ag U U (Aj U (Ac U (Ac U (qA (Ad (Ai U ?_)))))))));refine Ae U (Ai U (AO AW U (U1 U U U ?_)));rw[show min (((p+1+2+x.k.length:Nat)):Int) (n:Int)=((p+1+2+x.k.length:Nat):Int)by omega];refine Ah qB (Gs a c n (opB L) (p+1+2+x.k.length) _ ((R.ext0 S.ext).ext0 H.ext) hn hc) U ?_;rintro v w ⟨va,vl,vc,nx2,e2,rfl,hx38,Xv,hvc,-,-,h0v,h1v⟩;have e0:e2=0:=Classical.byContradiction (fun h=>by have h5:=(h1v h).1;rw[ht2]at h5;cases h5);subst e0;have hv2:=h0v rfl;rw[ht2]at hv2;obtain⟨rfl,rfl⟩:x.v=vl/\p+1+2+x.k.length+2+x.v.length=nx2:=(by injection hv2 with h;injection h with h2 h3;exact⟨h2,h3⟩);have hs38:=H.size;replace Xk:=Xk.call hx38;replace H:=H.call hx38
   refine AM U (Ag U U (Ag U U (Ag U U (Aj U (Ac U (Ac U (qA (Ar (Ad (BB (α:=Unit) 4499201580859392 (fun _=>[(51,.bool (false))]) (fun _ w'=>w=w') U ?_ ?_))))))))))
   .refine Ae U (AZ U U (AC U (AX 44 U ?_ ?_)))
    .intro h1;replace h1:=Bu h1;refine Ak U (Ak U (AQ U (.bool _) U (AC U (Ak U (Ak U (AQ U (.bool _) U (Ab ?_)))))));exact⟨rfl,(),rfl,⟨qac Value.bool (by simp_all),trivial⟩,rfl⟩
    .intro h2;replace h2:=Bv h2;refine Ae U (AZ U U (AN U (.bool _) U (AC U (AX 48 U ?_ ?_))))
     .intro h3;replace h3:=Bu h3;refine Ak U (Ak U (AQ U (.bool _) U (Ab ?_)));exact⟨rfl,(),rfl,⟨qac Value.bool (by simp_all),trivial⟩,rfl⟩
     .intro h4;replace h4:=Bv h4;refine Ae U (AZ U U (AN U (.bool _) U (Ab ?_)));exact⟨rfl,(),rfl,⟨qac Value.bool (by rfl),trivial⟩,rfl⟩
   rintro - j51 w rfl;obtain⟨wb,rfl⟩:=qD w;have Hb:=H;clear H;obtain⟨im,him⟩:=qD (⟨ka,kc,va,vc,x⟩:Wm);have hblk:∀y∈ent a9 56 f9,wb.heap[y.1]?=some y.2:=fun y hy=>Hb.ext.to (S.blk y hy).1 (by simp);have H:=Ctx.startL hblk Ki;refine Bw U (Aq (Aa (Ad (Ai U (Ai U (Ai U (Ae U (B1 U U ?_))))))));rw[show decide ((WE x.d:Int)=1)=x.d by(cases x.d <;> rfl)];refine B0 (Dx ⟨ka,kc,va,vc,x⟩) Tf Ha ?_;rw[<-him];refine BP (Dx im) (.agg _) GX Fx Ha U U U U H ?_;rintro b59 w - H;refine Cf (L:=[]) GX GX Fx by_56 Ha U U U H S.os U (HK im) ?_;clear H;rintro a28 c28 f28 w2 H O28;refine Aj U (qA (Av (Ae U (Ac U (Ab (AF (Aa ?_)))))));have hltm:∀y∈ent a9 56 f9,y.1<w1.heap.size:=fun y hy=>Al (S.blk y hy).1;have hKs:=S.ext.size
   have hmk:∀q,Mk wI (ent a9 56 f9) q->q<w1.heap.size:=fun q h=>by
    rcases h with h|h
    .have h6:q<wI.heap.size:=h;omega
    .obtain⟨y,hy,he⟩:=qah.1 h;have h6:=hltm y hy;have h7:y.1=q:=he;omega
   have himk:im.Ok wb (Mk wI (ent a9 56 f9)):=by
    subst him;exact⟨⟨Xk.1,Xk.2.imp id fun h5 h=>h5 (qat (hmk _ h) hs28)⟩,⟨Xv.1,Xv.2.imp id fun h5 h=>h5 (qat (hmk _ h) hs38)⟩,hkc,hvc⟩
   have hnext:p+1+2+x.k.length+2+x.v.length=(opB (L.take (i+1))).length:=by rw[WF hx,qan,Va,<-hp];omega
   rw[hnext];refine⟨(i+1,a28,n9+1,c28,f28,qs++[im]),rfl,⟨rfl,rfl,trivial⟩,⟨by dsimp only;omega,by dsimp only;omega,⟨?_,?_,?_,?_,?_⟩⟩,by dsimp only;omega⟩
   .exact(S.ext.trans Hb.ext).then H.ext fun y hy=>by
     obtain⟨z,hz,he⟩:=qah.1 hy;rw[<-he];exact .inr (S.blk z hz).2
   .intro y hy;refine⟨H.blk y hy,?_⟩
    rcases H.own y hy with h|h
    .obtain⟨z,hz,he⟩:=qah.1 h;rw[<-he];exact(S.blk z hz).2
    .have:=Hb.size;omega
   .dsimp only;rw[qbp,qc7];exact O28
   .dsimp only;rw[qaz,S.eq,Bx hx,him];rfl
   .intro m hm;dsimp only at hm |-
    rcases qau.1 hm with hm|hm
    .exact Aae (S.ok m hm) Hb.ext H
    .rw[qaa.1 hm];exact Aae himk (Ext.refl _ _) H
  .intro h1;replace h1:=AV h1
   have hiL:i=L.length:=by
    by_cases h:i<L.length
    .obtain⟨x,hx⟩:=AR (l:=L) (i:=i) (h:=h);have hlen:=qac List.length (Aaf hx);simp only[qan,AP]at hlen;omega
    .omega
   subst hiL;have he:=S.eq;rw[qbb]at he;refine B9 (A8 (A8 (Bd (Aa (Ad (Ai U (Aj U (qA (Ax (AH (v:=(.slice _ _ _)) U U U ?_))))))))));subst hn9;have hq:qs.length=L.length:=by rw[<-he,qal]
   refine⟨a9,c9,rfl,⟨⟨qs,OS.rd S.os (fun y hy=>(S.blk y hy).1) (fun _ _=>rfl) (by decide),?_,he,fun m hm=>(S.ok m hm).weak fun x hx => .inl hx⟩,rfl,S.os.le⟩,S.ext⟩
   cases ha:a9 with
   |none =>
    left;have h5:=S.os.none' ha;have h6:=S.os.le;exact qa9 (by omega)
   |some q =>
    right;intro h;have h5:=(S.blk (q.block,Bl 56 f9) (by rw[ha];exact qaa.2 rfl)).2;have h6:q.block<wI.heap.size:=h;dsimp only at h5;omega
section
variable {w:World}{bp ba:Nat}{P:List Nat}
theorem Ajk(h:PgAt w bp ba P)(k:Nat)(hk:P[k]?=some 0):Ret prog 99 #[ptr bp,.int .i64 (k:Int)] w fun v w'=>v=.int .i64 0/\PgAt w' bp ba (P.set k 1)/\Ext [ba] w w':=by
 obtain⟨w0,rfl⟩:=qD w;have hlen:=h.len;have hlt:=(qaq.1 hk).1;have hh:Nw P (k:Int)=true:=by unfold Nw;simp;omega
 have H:=Ctx.start1 h.st;have hpz:∀{z:World},Ext [ba] w0 z->z.heap[bp]?=some (Bl TPg [.slice (some ⟨ba,0,none⟩) P.length P.length]):=fun{z} hz=>by rw[hz.block bp (Al h.hd) (by simpa using h.ne)];exact h.hd
 refine A6 (fn:=f99) func99 U [.pointer (some ⟨bp,0,none⟩),.int .i64 (k:Int)] U ?_;refine Ad (Ac U (qA (Ar (Ad (An U (Ae U (Ah qB (UP h (k:Int)) U ?_)))))));rintro v w ⟨rfl,rfl⟩;rw[hh];refine Ac U (qA (Ad (Ae U (AZ U U (qA (Bw U (Aq (Aa (Ar (Ad ?_))))))))));refine An U (Ay U (Af DF U (Bf F7 U (Ap (hpz H.ext) (0+0)) ?_)));refine Ae U (BT Ep DV U U ?_);refine Bf NU U (Lo (H.get at0) hk) (AZ U U (qA (Au _ U ?_ ?_)))
 .intro h1;replace h1:=Bu h1;exact absurd U h1
 .intro h1;replace h1:=Bv h1;refine Aq (Aa (Ad (An U (Ay U (Af DF U (Bf F7 U (Ap (hpz H.ext) (0+0)) ?_))))));refine Ae U (BT Ep DV U U ?_);refine Bc (.int _ _) DV U U U H at0 (by(simp;omega)) ?_;rintro w H;refine qA (Ad (Ac U (qA (Ax (AH (v:=(.int _ _)) U U U ?_)))));exact⟨rfl,h.set H.ext (by decide) (by rw[H.get at0];simp[stv]),H.ext⟩
end
section
variable {wb w w' w1 w2:World}{bs m1 m2 gen:Nat}{vd vj vp vt:Value}{root n T:Int}{kv:Kvl}{t0:List (Byt × Int)}{W:List Wr}{M:Mut}{l:List (Byt × Sv)}{z1 z2:Obj}
structure Sr(wb:World)(M:Mut)(bs m1 m2:Nat)(vd vj vp vt:Value)(gen:Nat)(root:Int)(kv:Kvl)(n:Int)(t0:List (Byt × Int))(W:List Wr)(l:List (Byt × Sv))(z1 z2:Obj)(w':World):Prop where
 H:Ctx wb [bs,m1,m2] w' [(bs,Bl CA (C3 vd vj vp vt gen root m1 m2 (DQ kv n W) false)),(m1,z1),(m2,z2)]
 K:KvAt w' M l z1
 k:Ei l=Fy kv W
 m:DT str (mi (Ec t0 W)) z2
theorem OC:∀{W:List Wr} {t:List (Byt × Int)} {T:Int},(∀p∈t,0<=p.2/\p.2<=T)->0<=T->∀p∈Ec t W,0<=p.2/\p.2<=T+W.length
 | [],t,T,h,_=>by simpa[Ec]using h
 |x::W,t,T,h,hT=>fun p hp=>by
  have:=OC (W:=W) (RI (k:=x.k) h hT).1 (by omega) p hp;rw[qaw];omega
theorem Sr.step(S:Sr wb M bs m1 m2 vd vj vp vt gen root kv n t0 W l z1 z2 w)(hx:Ext [] w w1)(hS:∀x∈[bs,m1,m2],M x)(hMb:∀x,M x->x<wb.heap.size)(m:Wm)(hm:m.Ok w1 M)(hf:m.x.Few)(hT:0<=T/\T+W.length<=4000000)(ht:∀p∈t0,0<=p.2/\p.2<=T)(hn : -(200*T)<=n/\n<=200*T)(hkv:∀q∈kv,q.1.length<=32/\q.2.length<=128)(hW:∀x∈W,x.Few) :
  Ret prog 49 #[ptr bs,.agg (Dx m).toArray] w1 fun v w'=>v=.tuple #[]/\∃l' z1' z2',Sr wb M bs m1 m2 vd vj vp vt gen root kv n t0 (W++[m.x]) l' z1' z2' w'/\Ext [bs,m1,m2] w1 w':=by
 have hn1:=Io (m:=T) hkv hW hn.1 hn.2;have hb1:=S.H.ext.size;have hb2:=hx.size;refine(ZK (T:=T+W.length) (Ctx.startL (S.H.call hx).blk (S.H.call hx).nd) ⟨S.K.m,fun q hq=>⟨(S.K.ok q hq).1.call hx,(S.K.ok q hq).2⟩,S.K.few⟩ S.m hS (fun y hy=>by have:=hMb y hy;omega) hS m hm hf (OC ht hT.1)).mono fun v w' ⟨hv,s,z1',z2',H7,K7,hsv,hM7⟩=>⟨hv,_,z1',z2',⟨?_,K7,?_,?_⟩,H7.ext⟩
 .rw[Mz,<-S.k,<-Vf];exact⟨(S.H.call hx).ext.trans H7.ext,H7.blk,H7.nd,fun y hy => .inl (by simp only[qab,qaj,or_false]at hy |-;rcases hy with rfl|rfl|rfl <;> simp)⟩
 .rw[ZR hsv,S.k,RQ]
 .rw[Pj];exact hM7
theorem Sr.call(S:Sr wb M bs m1 m2 vd vj vp vt gen root kv n t0 W l z1 z2 w)(hx:Ext [] w w'):Sr wb M bs m1 m2 vd vj vp vt gen root kv n t0 W l z1 z2 w' :=
 ⟨S.H.call hx,⟨S.K.m,fun q hq=>⟨(S.K.ok q hq).1.call hx,(S.K.ok q hq).2⟩,S.K.few⟩,S.k,S.m⟩
end
def toW(p:Pr):Wr:=⟨p.1,p.2,false⟩
def JX(P:List Nat)(l:List Int):List Nat:=l.foldl (fun P k=>P.set k.toNat 1) P
theorem Jq:∀(l:List Int) (P:List Nat),(JX P l).length=P.length
 | [],P=>rfl
 |k::l,P=>by rw[show JX P (k::l)=JX (P.set k.toNat 1) l from rfl,Jq l,qcf]
theorem Acr{P:List Nat}{l:List Int}{k:Int}:JX P (l++[k])=(JX P l).set k.toNat 1:=by simp[JX]
theorem RX:∀(l:List Int) (P:List Nat) (x:Nat),(JX P l)[x]?=if(x:Int)∈l.map (fun k=>((k.toNat:Nat):Int))then P[x]?.map (fun _=>1)else P[x]?
 | [],P,x=>by simp[JX]
 |k::l,P,x=>by
  rw[show JX P (k::l)=JX (P.set k.toNat 1) l from rfl,RX l,qdg]
  by_cases h:k.toNat=x
  .rw[if_pos h];have h2:(x:Int)∈(k::l).map (fun k=>((k.toNat:Nat):Int)):=by rw[qay,h];exact qae ..
   rw[if_pos h2]
   by_cases hl:k.toNat<P.length
   .rw[if_pos hl,qbg (by omega:x<P.length)]
    split <;> rfl
   .rw[if_neg hl,qb0 (by omega:P.length<=x)]
    split <;> rfl
  .rw[if_neg h]
   have h2:(x:Int)∈(k::l).map (fun k=>((k.toNat:Nat):Int))↔(x:Int)∈l.map (fun k=>((k.toNat:Nat):Int)):=by
    rw[qay,qab];exact⟨fun h5=>h5.resolve_left (by omega),.inr⟩
   by_cases h3:(x:Int)∈l.map (fun k=>((k.toNat:Nat):Int))
   .rw[if_pos h3,if_pos (h2.2 h3)]
   .rw[if_neg h3,if_neg fun h5=>h3 (h2.1 h5)]
theorem Ul(L:List Pr)(h:Rising L):KL (Fy [] (L.map toW)) L:=by
 have h1:=KL.nil.sets (W:=L.map toW)
 have h2:∀(B A:List Pr),Rising (A++B)->GM A (B.map toW)=A++B:=by
  intro B
  induction B with
  |nil=>intro A _;simp[GM]
  |cons p B ih =>
   intro A hA
   have hp:doP A (toW p)=A++[p]:=by
    show Hp A p.1 p.2=_;have h3:=(Rising.append.1 hA).2.2;have:=UV (A:=A) (B:=[]) (k:=p.1) (v:=p.2) (L:=A) (fun q hq=>h3 q hq p (qae ..)) (fun q hq=>by cases hq) (.inl (qa2 A).symm);exact this
   show GM (doP A (toW p)) (B.map toW)=_;rw[hp,ih (A++[p]) (by simpa using hA)];simp
 rw[h2 L [] (by simpa using h)]at h1;exact h1
theorem Ahh{w:World}{bs bd bp ba bt m1 m2 gen m:Nat}{root:Int}{vj:Value}{A:Dev}{F:Mut}{o1 o2:Obj}{L:List Pr}{S:List Nat}(T:Tx w bt bd bp ba 362 A (List.replicate m 0) F [(bs,Bl CA (C3 (ptr bd) vj (ptr bp) (ptr bt) gen root m1 m2 0 false)),(m1,o1),(m2,o2)])(hm1:DT str (mv []) o1)(hm2:DT str (mi []) o2)(td:Told 362 A (List.replicate m 0) root L S)(hS:∀x∈S,x<m)(hnd:S.Nodup)(_:Rising L)(ho:OkP L){mx:Nat}(hfew:Few A mx)(hLn:L.length<=50000)(hmx:mx<=1000000000:=by decide):
  Ret prog 61 #[ptr bs] w fun v w'=>v=.int .i64 0/\∃l z1 z2,Ctx w [bs,m1,m2,ba] w' [(bs,Bl CA (C3 (ptr bd) vj (ptr bp) (ptr bt) gen root m1 m2 (DQ [] 0 (L.map toW)) false)),(m1,z1),(m2,z2),(ba,Bl TSt ((JX (List.replicate m 0) (Ik (S.map fun x:Nat=>(x:Int)))).map stv))]/\KvAt w' (Old w) l z1/\Ei l=Fy [] (L.map toW)/\DT str ([]:List (Byt × Value)) z2:=by
 obtain⟨wI,rfl⟩:=qD w;have hs:=T.blk (bs,Bl CA (C3 (ptr bd) vj (ptr bp) (ptr bt) gen root m1 m2 0 false)) (qae ..);have hb1:=T.blk (m1,o1) (by simp);have hb2:=T.blk (m2,o2) (by simp);have hoffs:=T.off;have hndT:=T.nd;dsimp only at hs hb1 hb2;have T0:Tx wI bt bd bp ba 362 A (List.replicate m 0) F []:=⟨T.tr,T.pg,T.dev,(fun x hx=>by cases hx),List.Pairwise.nil,(fun x hx=>by cases hx),T.nbt,T.nbp,T.nba,T.lt⟩;have hbsa:bs≠ba:=(hoffs _ (qae ..)).2.1;have hm1a:m1≠ba:=(hoffs (m1,o1) (by simp)).2.1;have hm2a:m2≠ba:=(hoffs (m2,o2) (by simp)).2.1;have hbpa:=T.pg.ne;have halt:=Al T.pg.st;have hlen:(List.replicate m 0).length=m:=qa8;have hw:=td.walk;have hsc:=td.scan [] [];have hnum:=td.num;have hSl:=td.len;have hr1:=td.rlo;have hr2:=td.rhi;have hPl:=T.pg.len;rw[Lu]at hsc;obtain⟨ks,hks⟩:=qD (Ik (S.map fun x:Nat=>(x:Int)))
 have hperm:ks.Perm (S.map fun x:Nat=>(x:Int)):=by rw[hks];exact qcc _ _
 have hkn:ks.Nodup:=hperm.nodup_iff.2 (qbn.2 (hnd.imp fun h e=>h (by omega)));have hkl:ks.length=S.length:=by rw[hperm.length_eq,qal]
 rw[<-hks]at hw |-;have hwalk:=fun(z:World) (Tz:Tx z bt bd bp ba 362 A (List.replicate m 0) F [])=>Wl Tz root hfew hmx;simp only[hw]at hwalk;have hscan:=fun(z:World) (P:List Nat) (hP:P.length=(List.replicate m 0).length) (Tz:Tx z bt bd bp ba 362 A P F [])=>Agm Tz root none none 0 0 0 0 [] [] Rd.nil rfl Rd.nil rfl hfew hmx (by rw[hP];omega);have H:=Ctx.start wI [];refine A6 (fn:=f61) func61 U [ptr bs] U ?_;refine Ad (Ac U (qA (BR [([0,1,2,3,4,5,6,7],8),([9,10,11,12],13)] (fun z=>z.heap[bs]?=some (Bl CA (C3 (ptr bd) vj (ptr bp) (ptr bt) gen root m1 m2 0 false))) [] mixed (H.drew.ext.to hs (by simp)) ?_)));refine AB U U (CE U (Bn U (AE JC U (BJ Jc U (fun _ hx=>(by rw[Ap hx];rfl)) ?_))))
 refine CE U (Bn U (AE IF U (BJ DU U (fun _ hx=>(by rw[Ap hx];rfl)) ?_)));refine Bm ?_;replace H:=H.drew;refine Ah qB (hwalk _ (T0.call H.ext)) U ?_;rintro v w ⟨a20,c20,rfl,R20,hn20,hc20,hx20⟩;have hsz20:=H.size;replace H:=H.call hx20;refine Ab (Bb (H.ext.to hs (by simp)) ?_);refine AB U U (H1 U (Cu U U (Cu U U (HF U U (Bm (Ac U (Ab (Bb (H.ext.to hs (by simp)) ?_))))))));refine B3 (Ar (Ad (Ae U (AZ U U (qA (Au _ U ?_ ?_))))))
 .intro h1;replace h1:=Bu h1;exact absurd U h1
 .intro h1;replace h1:=Bv h1;have hs2:=H.ext.to hs (by simp);have T2:=T0.call H.ext;have hx2:=H.ext;obtain⟨wA,hwA⟩:=qD w;rw[<-hwA]at H hs2 T2 hx2 R20 |-;clear H
  have hka:∀{z:World},Ext [ba] wA z->Rd z a20 1 (fun x:Int=>[.int .i64 x]) ks:=fun{z} hz=>by
   rcases hn20 with h|h
   .rw[h];exact Rd.nil
   .exact R20.ext hz fun h5=>by rw[qaa.1 h5]at h;omega
  have hpg:∀{z:World} {P:List Nat},Ctx wA [ba] z [(ba,Bl TSt (P.map stv))]->P.length=m->(∀s∈P,s<=3)->PgAt z bp ba P:=fun{z P} Hz hP h3=>⟨by rw[Hz.ext.block bp (Al T2.pg.hd) (by simpa using hbpa),T2.pg.hd,hlen,hP],Hz.get at0,hbpa,h3,by omega⟩;refine Aq (Aa (Ar (Ad (Ai U (AO Fv U (Ae U (qA (AD (BF 4397778075844 (α:=Nat) (fun i=>[(28,.int .i64 (i:Int))]) (fun i w'=>i<=ks.length/\Ctx wA [ba] w' [(ba,Bl TSt ((JX (List.replicate m 0) (ks.take i)).map stv))]) (fun i=>ks.length - i) 0 U ?_ ?_ ?_)))))))))
  .exact⟨rfl,trivial⟩
  .exact⟨qak _,by rw[qds];exact Ctx.start1 T2.pg.st⟩
  .rintro i j w1 ⟨hi,H⟩
   have hget:∀x:Nat,(JX (List.replicate m 0) (ks.take i))[x]?=if(x:Int)∈ks.take i then(if x<m then some 1 else none)else if x<m then some 0 else none:=fun x=>by
    rw[RX]
    have h5:(ks.take i).map (fun k=>((k.toNat:Nat):Int))=ks.take i:=by
     have:∀k∈ks.take i,((k.toNat:Nat):Int)=id k:=fun k hk=>by
      obtain⟨y,hy,rfl⟩:=qah.1 (hperm.mem_iff.1 (qbs hk));simp
     rw[qcw this,List.map_id]
    rw[h5,qed]
    split <;> split <;> rfl
   have h03:∀s∈JX (List.replicate m 0) (ks.take i),s<=3:=fun s hs5=>by
    obtain⟨x,hx5⟩:=qce.1 hs5;rw[hget]at hx5
    split at hx5 <;> split at hx5 <;> simp at hx5 <;> omega
   have hPG:=hpg H (by rw[Jq,hlen]) h03;refine Ad (Bt U U (qA (Ar (Au _ U ?_ ?_))))
   .intro h2;replace h2:=AU h2;obtain⟨k,hk⟩:=AR (l:=ks) (i:=i);obtain⟨y,hy,hyk⟩:=qah.1 (hperm.mem_iff.1 (qad hk));have hym:=hS y hy
    have hno:(y:Int)∉ks.take i:=fun h5=>by
     obtain⟨j,hj⟩:=qce.1 h5;have hj2:=(qaq.1 hj).1;rw[qa1]at hj2;rw[List.getElem?_take,if_pos (by omega)]at hj;obtain⟨q1,q2⟩:=qaq.1 hj;obtain⟨q3,q4⟩:=qaq.1 hk;exact qb5.1 hkn j i q1 q3 (by omega) (by rw[q2,q4,hyk])
    have h0:(JX (List.replicate m 0) (ks.take i))[y]?=some 0:=by rw[hget,if_neg hno,if_pos hym]
    refine Aq (Aa (Ar (AD (Ad (Bj (hka H.ext) Fv GZ U U (hn:=by rfl) ?_)))));refine Bf DU U (((hka H.ext).one hk)) ?_;refine Ac U (qA (Ad (An U (Ay U (Af IE U (Bf JQ U ((by rw[Ap (H.ext.to hs2 (by simpa using hbsa))];rfl)) ?_))))));refine Ae U ?_;rw[<-hyk];refine Ah qB (Ajk hPG y h0) U ?_;rintro v w ⟨rfl,hP7,hx37⟩;replace H:Ctx wA [ba] w [(ba,Bl TSt ((JX (List.replicate m 0) (ks.take (i+1))).map stv))]:=⟨H.ext.trans hx37,(fun z hz=>by rw[qaa.1 hz,Bx hk,Acr,<-hyk,qbm];exact hP7.st),qei _ _,fun z hz => .inl (by rw[qaa.1 hz];exact qaa.2 rfl)⟩;refine Ac U (qA (Ad (Ae U (AZ U U (qA (Au _ U ?_ ?_))))))
    .intro h3;replace h3:=Bu h3;exact absurd U h3
    .intro h3;replace h3:=Bv h3;refine Aq (AF (Aa (Av (AA U U ?_))));refine Ae U (qA ?_);exact⟨i+1,rfl,⟨rfl,trivial⟩,⟨by omega,H⟩,by omega⟩
   .intro h2;replace h2:=AV h2;obtain rfl:i=ks.length:=by omega
    rw[qbb]at H hPG;obtain⟨T3,-⟩:=T2.page hPG H.ext;have hxA:Ext [ba] wI w1:=(hx2.mono (by simp)).trans H.ext;have hs3:=H.ext.to hs2 (by simpa using hbsa);have hP3:=H.get at0;obtain⟨wC,hwC⟩:=qD w1;rw[<-hwC]at T3 hxA hs3 hP3 |-;clear H hPG hpg hka;have H:=Ctx.start wC [];refine B9 (A8 (A8 (Bd (Aa (BR [([0,1,2,3,4,5,6,7],8),([9,10,11,12],13)] (fun z=>z.heap[bs]?=some (Bl CA (C3 (ptr bd) vj (ptr bp) (ptr bt) gen root m1 m2 0 false))) [] mixed (H.drew.ext.to hs3 (by simp)) ?_)))));refine AB U U (CE U (Bn U (AE JC U (BJ Jc U (fun _ hx=>(by rw[Ap hx];rfl)) ?_))));refine CE U (Bn U (AE IF U (BJ DU U (fun _ hx=>(by rw[Ap hx];rfl)) ?_)));refine Bm ?_;replace H:=H.drew;refine Ah qB (hscan _ _ (Jq _ _) (T3.call H.ext)) U ?_;rw[Jq,hsc];dsimp only;rintro v w ⟨a51,c51,rfl,P51,hx51⟩;have hsz51:=H.size;replace H:=H.call hx51
    refine Ab (Bb (H.ext.to hs3 (by simp)) ?_);refine AB U U (H1 U (Cu U U (Cu U U (HF U U (Bm (Ac U (Ab (Bb (H.ext.to hs3 (by simp)) ?_))))))));refine B3 (Ar (Ad (Ai U (AO EU U (Ae U (qA (AD ?_)))))));obtain⟨ps,R9,hn9,hl9,hp9⟩:=P51.ex;have hpn:ps.length=L.length:=by rw[<-hl9,qal]
    obtain⟨wB,hwB⟩:=qD w;rw[<-hwB]at H R9 hp9 |-;have hCB:=H.ext;have hIB:Ext [ba] wI wB:=hxA.trans (hCB.mono (by simp));clear H
    have hne:∀y∈[bs,m1,m2],y∉[ba]:=fun y hy=>by
     simp only[qab,qaj,or_false]at hy |-
     rcases hy with rfl|rfl|rfl
     .exact hbsa
     .exact hm1a
     .exact hm2a
    have hS3:∀y∈[bs,m1,m2],Old wI y:=fun y hy=>by
     simp only[qab,qaj,or_false]at hy
     rcases hy with rfl|rfl|rfl
     .exact Al hs
     .exact Al hb1
     .exact Al hb2
    have hIBs:=hIB.size;have hwIC:wI.heap.size<=wC.heap.size:=hxA.size;have hk0:∀x∈L,(toW x).Few:=fun x hx=>⟨(ho x hx).2.1,(ho x hx).2.2⟩;refine BF 295075847585314898944 (α:=Nat × List (Byt × Sv) × Obj × Obj) (fun s=>[(56,.int .i64 (s.1:Int))]) (fun s w'=>s.1<=L.length/\Sr wB (Old wI) bs m1 m2 (ptr bd) vj (ptr bp) (ptr bt) gen root [] 0 [] ((L.map toW).take s.1) s.2.1 s.2.2.1 s.2.2.2 w') (fun s=>L.length - s.1) (0,[],o1,o2) U ?_ ?_ ?_
    .exact⟨rfl,trivial⟩
    .refine⟨qak _,Ctx.startL (L:=[(bs,Bl CA (C3 (ptr bd) vj (ptr bp) (ptr bt) gen root m1 m2 0 false)),(m1,o1),(m2,o2)]) (fun y hy=>?_) hndT,⟨hm1,(fun q hq=>by cases hq),fun q hq=>by cases hq⟩,rfl,hm2⟩;simp only[qab,qaj,or_false]at hy
     rcases hy with rfl|rfl|rfl
     .exact hIB.to hs (by simpa using hbsa)
     .exact hIB.to hb1 (by simpa using hm1a)
     .exact hIB.to hb2 (by simpa using hm2a)
    .rintro⟨i,li,z1,z2⟩ j w1 ⟨hi,C⟩;dsimp only at hi C;dsimp only;have H:=Ctx.start w1 [];refine Ad (Bt U U (qA (Ar (Au _ U ?_ ?_))))
     .intro h4;replace h4:=AU h4;obtain⟨q,hq⟩:=AR (l:=ps) (i:=i);have hok:=hp9 q (qad hq);have hqL:L[i]?=some (prI q.it):=by rw[<-hl9,qav,hq];rfl
      have hqW:(L.map toW)[i]?=some (toW (prI q.it)):=by rw[qav,hqL];rfl
      have hqf:=hk0 _ (qad hqL);have hoff:∀y∈[bs,m1,m2],¬wB.heap.size<=y:=fun y hy=>by have:=hS3 y hy;have h5:y<wI.heap.size:=this;omega
      have hk9:Rdx w1 (Old wI) q.ka q.it.key:=⟨Rdx.read hok.k C.H.ext (fun y hy=>by have h5:y<wI.heap.size:=hS3 y hy;show y<_;omega),hok.k.2.imp id fun h5 h6=>h5 (by have h7:_<wI.heap.size:=h6;show _<_;omega)⟩;have hv9:Rdx w1 (Old wI) q.va q.it.val:=⟨Rdx.read hok.v C.H.ext (fun y hy=>by have h5:y<wI.heap.size:=hS3 y hy;show y<_;omega),hok.v.2.imp id fun h5 h6=>h5 (by have h7:_<wI.heap.size:=h6;show _<_;omega)⟩
      have R9w:Rd w1 a51 2 LD ps:=by
       rcases hn9 with h5|h5
       .rw[h5];exact Rd.nil
       .exact R9.ext C.H.ext fun h6=>h5 (by have h7:_<wI.heap.size:=hS3 _ h6;show _<_;omega)
      refine Aq (Aa (Ar (AD (Ad (Bj R9w EU FV U U ?_)))));refine EL _ Ady FV U U (R9w.row hq U) (Be Ku H ?_);rintro b10 w - H;refine Bi FV U U U (by exact KF q) H at0 U ?_;rintro w H;refine qA (Av (An U (Af H3 U (AG BL U H at0 U (Af Lf U (AG BL U H at0 U (B0 (Dx ⟨q.ka,q.kc,q.va,q.vc,toW (prI q.it)⟩) Tf Ha ?_)))))));refine Ah qB (C.step (T:=0) H.ext hS3 (fun y hy=>by have h5:y<wI.heap.size:=hy;omega) ⟨q.ka,q.kc,q.va,q.vc,toW (prI q.it)⟩ ⟨hk9.call H.ext,hv9.call H.ext,hok.kc,hok.vc⟩ hqf (by rw[qa1,qal];omega) (fun y hy=>by cases hy) (by omega) (fun y hy=>by cases hy) (fun x hx=>by obtain⟨y,hy,rfl⟩:=qah.1 (qbs hx);exact hk0 y hy)) U ?_;rintro v w7 ⟨rfl,l7,z17,z27,C7,-⟩;refine Ab (AF (Aa (Av (AA U U ?_))))
      refine Ae U (qA ?_);exact⟨(i+1,l7,z17,z27),rfl,⟨rfl,trivial⟩,⟨by dsimp only;omega,by dsimp only;rw[Bx hqW];exact C7⟩,by dsimp only;omega⟩
     .intro h4;replace h4:=AV h4;obtain rfl:i=L.length:=by omega
      have hLt:(L.map toW).take L.length=L.map toW:=qa5 (by rw[qal];omega);rw[hLt]at C;refine B9 (A8 (A8 (Bd (Aa (Ad (An U (Ay U (Af PA U (Bf Zi U ((by rw[Ap (C.H.get at0)];rfl)) ?_)))))))));refine SZ (V:=str) (κ:=Byt) U Q4 U (Ctx.startL C.H.blk C.H.nd) at2 C.m ?_;rintro o2' w hM2 HM2;refine qA (Ad (Ae U (Ac U (qA (Ax (AH (v:=(.int _ _)) U U U ?_))))))
      have hab:w.heap[ba]?=some (Bl TSt ((JX (List.replicate m 0) ks).map stv)):=by
       have h6:=(C.H.ext.trans HM2.ext).to (hCB.to hP3 (by simp)) (fun h5=>hne _ h5 (by simp));exact h6
      have hw1:Ext [bs,m1,m2] w1 w:=HM2.ext;have hKw:KvAt w (Old wI) li z1:=⟨C.K.m,(fun p hp=>⟨⟨Rdx.read (C.K.ok p hp).1 hw1 (fun y hy=>hS3 y hy),(C.K.ok p hp).1.2⟩,(C.K.ok p hp).2⟩),C.K.few⟩;refine⟨rfl,li,z1,o2',⟨(hIB.mono (by simp)).trans ((C.H.ext.trans hw1).mono (by simp +contextual)),fun y hy=>?_,?_,fun y hy => .inl ?_⟩,hKw,C.k,hM2⟩
      .simp only[qab,qaj,or_false]at hy
       rcases hy with rfl|rfl|rfl|rfl
       .exact HM2.get at0
       .exact HM2.get at1
       .exact HM2.get at2
       .exact hab
      .have h5:=HM2.nd;have h6:=hne bs (by simp);have h7:=hne m1 (by simp);have h8:=hne m2 (by simp);simp only[qaa]at h6 h7 h8;simp only[List.set_cons_succ,qew,qbj,qab,qaj,or_false,forall_eq_or_imp,forall_eq,List.Pairwise.nil,and_true]at h5 |-;exact⟨⟨h5.1.1,h5.1.2,h6⟩,⟨h5.2.1,h7⟩,h8,fun _ h=>h.elim⟩
      .simp only[qab,qaj,or_false]at hy |-
       rcases hy with rfl|rfl|rfl|rfl <;> simp
section
variable {w0 w:World}{b16 b11 b10 b8 b1 bd bs gen m1 m2:Nat}{F:Mut}{A:Dev}{N frm:Nat}{R:Rj}{V:Nat->Byt}{fv:List Value}{vj vp vt:Value}{root n r0:Int}{pq qq:Nat}{Y:List (Nat × Obj)}
theorem YO(O:Own w0 w bd A F)(g:Good N frm A R)(h1:1<=R.seq)(h2:R.seq<=4611686018427387904) :
  Ret prog 34 #[ptr bd,.int .i64 (frm:Int),.int .i64 (R.size:Int),.int .i64 (R.first:Int),.int .u64 (R.seq:Int)] w fun v w'=>∃bj a n c,v=.tuple #[ptr bj,.slice a n c,.int .i64 0]/\Ext [] w w'/\w.heap.size<=bj/\Jone w0 w' bd bj A (jrK frm R R.L) F/\StrsF w.heap.size w' a n c R.L:=by
 have hr:=g.right h1 h2;have hr2:=hr;simp only[Eb,qao,qap]at hr2;have hhi:=O.dev.wf.hi;refine(Ub (frm:Int) (R.size:Int) (R.first:Int) R.seq (by omega) (by omega) hhi g.on g.few (by decide) O.dev).mono fun v w' ⟨hx,h⟩=>?_
 rcases h with⟨h1,_⟩|⟨_,bj,a,n,c,hv,hb,hj,hs⟩
 .rw[hr]at h1;cases h1
 .have hsz:=O.ext.size;rw[g.open]at hj hs;exact⟨bj,a,n,c,hv,hx,hb,⟨O.call hx,hj,fun h5=>by have:=(O.own bj h5).2;omega,by omega⟩,hs⟩
abbrev YP(b16 b11 b10 b8 b1 bs bd gen m1 m2 pq qq:Nat)(root n r0:Int)(fv:List Value)(vj vp vt vl:Value):List (Nat × Obj) :=
 [(b16,Bl 46 fv),(b11,Bl 69 [vl]),(b10,Bl 31 [ptr bs]),(b8,Bl Aha (tpC r0 pq qq)),(b1,Bl 27 [ptr bd]),(bs,Bl CA (C3 (ptr bd) vj vp vt gen root m1 m2 n false))]
theorem Ahi(O:Own w0 w bd A F)(hge:w0.heap.size<=bs/\w0.heap.size<=b11)(g:SG N A R V)(hR:R.size=360/\R.first=pq/\R.seq=qq/\1<=qq/\qq<=4611686018427387904)(Y:Fo w F (YP b16 b11 b10 b8 b1 bs bd gen m1 m2 pq qq root n r0 fv vj vp vt (.slice none 0 0)++Y)) :
  Ret prog 62 #[ptr b1,ptr b8,ptr b10,ptr b11] w fun v w'=>v=.int .i64 0/\∃bj al nl cl,w.heap.size<=bj/\Jone w0 w' bd bj A (jrK 2 R R.L) F/\Ctx w [bs,b11] w' [(bs,Bl CA (C3 (ptr bd) (ptr bj) vp vt gen root m1 m2 n false)),(b11,Bl 69 [.slice al nl cl])]/\StrsF w.heap.size w' al nl cl R.L:=by
 obtain⟨hz,rfl,rfl,hq1,hq2⟩:=hR;obtain⟨wI,rfl⟩:=qD w;have h1:=Fo.at Y (k:=4) rfl;have h10:=Fo.at Y (k:=2) rfl;have h8:=Fo.at Y (k:=3) rfl;have hs:=Fo.at Y (k:=5) rfl;have h11:=Fo.at Y (k:=1) rfl;have hnd:=Y.nd;simp only[qb8,qba,qbj,qab,forall_eq_or_imp]at hnd;obtain⟨-,⟨n1,n2,n3,n4,-⟩,⟨n5,n6,n7,-⟩,⟨n8,n9,-⟩,⟨n10,-⟩,-⟩:=hnd;have hb1:b1∉[bs,b11]:=by simp only[qab,qaj,or_false,not_or];exact⟨n10,fun h=>n3 h.symm⟩
 have hb10:b10∉[bs,b11]:=by simp only[qab,qaj,or_false,not_or];exact⟨n7,fun h=>n1 h.symm⟩
 have hb8:b8∉[bs,b11]:=by simp only[qab,qaj,or_false,not_or];exact⟨n9,fun h=>n2 h.symm⟩
 have hopen:=fun(w1:World) (O1:Own w0 w1 bd A F)=>YO O1 g.good hq1 hq2;rw[hz]at hopen
 have H0:∀{z:World},Ext [] wI z->Ctx z [bs,b11] z [(bs,Bl CA (C3 (ptr bd) vj vp vt gen root m1 m2 n false)),(b11,Bl 69 [.slice none 0 0])]:=fun hx=>Ctx.startL (L:=[(bs,Bl CA (C3 (ptr bd) vj vp vt gen root m1 m2 n false)),(b11,Bl 69 [.slice none 0 0])]) (fun y hy=>by
  simp only[qab,qaj,or_false]at hy
  rcases hy with rfl|rfl
  .exact hx.to hs (by simp)
  .exact hx.to h11 (by simp)) (List.Pairwise.cons (fun y hy=>by rw[qaa.1 hy];exact fun h=>n4 h.symm) (qei _ _))
 have H:=H0 (Ext.refl [] wI);refine A6 (fn:=f62) func62 U [ptr b1,ptr b8,ptr b10,ptr b11] U ?_;refine Ad (Ac U (qA (BR [([0,1,2,3,4,5],6),([7,8,9,10,11,12],13),([],14),([],15)] (fun z=>(z.heap[b1]?=some (Bl 27 [ptr bd])/\z.heap[b10]?=some (Bl 31 [ptr bs])/\z.heap[b8]?=some (Bl Aha (tpC r0 R.first R.seq)))) [13,14,15] mixed (⟨H.drew.ext.to h1 hb1,H.drew.ext.to h10 hb10,H.drew.ext.to h8 hb8⟩) ?_)));refine AB U U (BJ ET U (fun _ hx=>(by rw[Ap hx.2.1];rfl)) ?_);refine BJ CY U (fun _ hx=>(by rw[Ap hx.1];rfl)) ?_;refine AE MX U (BJ DU U (fun _ hx=>(by rw[Ap hx.2.2];rfl)) ?_);refine AE JA U (BJ FU U (fun _ hx=>(by rw[Ap hx.2.2];rfl)) ?_);refine Bm ?_;replace H:=H.drew;refine Ah qB (hopen _ (O.call (Ext.drew [] wI))) U ?_;clear H;rintro v w6 ⟨bj,aj,nj,cj,rfl,hx6,hbj,J6,S6⟩;have E6:=(Ext.drew [] wI).trans hx6
 have k1:=E6.to h1 (by simp);have k10:=E6.to h10 (by simp);have k8:=E6.to h8 (by simp);have H:=H0 E6;refine Ab (Bb ((by exact⟨H.ext.to k1 hb1,H.ext.to k10 hb10,H.ext.to k8 hb8⟩)) ?_);refine AB U U (H1 U (Cu U U (Cu U U (Cu U U (Bn U (AE Lh U (Bm (Bc (.pointer _) Akl U U U H at0 (by(simp;done)) ?_))))))));rintro w H;refine Ab (CR U (AB U U ?_));refine Bm (Bc (.slice _ _ _) sz_69 U U U H at1 (by decide) ?_);rintro w H;refine Ab (CR U (AB U U ?_));refine Bm (Ac U (Ab (CR U (B3 (Ad (Ae U (Ac U (qA (Ax (AH (v:=(.int _ _)) U U U ?_))))))))))
 have hlt:∀y∈[bs,b11],y<wI.heap.size:=fun y hy=>by
  simp only[qab,qaj,or_false]at hy
  rcases hy with rfl|rfl
  .exact Al hs
  .exact Al h11
 have hoff:∀y∈[bs,b11],¬Fj F bj y:=fun y hy h=>by
  have h5:=hlt y hy;have h6:wI.heap.size<=bj:=hbj
  rcases h with h|h
  .simp only[qab,qaj,or_false]at hy
   rcases hy with rfl|rfl
   .exact Y.off (y,Bl CA (C3 (ptr bd) vj vp vt gen root m1 m2 n false)) (by simp) h
   .exact Y.off (y,Bl 69 [.slice none 0 0]) (by simp) h
  .omega
 refine⟨rfl,bj,aj,nj,cj,hbj,J6.over H.ext hoff (fun y hy=>?_),⟨(E6.mono (by simp)).trans H.ext,H.blk,H.nd,fun y hy => .inl ?_⟩,S6.side H.ext hlt⟩
 .simp only[qab,qaj,or_false]at hy
  rcases hy with rfl|rfl
  .exact hge.1
  .exact hge.2
 .simp only[qab,qaj,or_false]at hy |-
  rcases hy with rfl|rfl
  .exact .inl U
  .exact .inr U
end
theorem YQ{α:Type}{L:List (List α)}{i:Nat}{x:List α}(h:L[i]?=some x):(L.take (i+1)).flatten=(L.take i).flatten++x:=by
 rw[Bx h,qcq,qcr]
theorem Um{α:Type}{L:List (List α)}{m:Nat}:(∀x∈L,x.length<=m)->L.flatten.length<=m*L.length:=by
 induction L with
 |nil=>intro _;simp
 |cons x L ih =>
  intro h;have h1:=ih fun y hy=>h y (qag _ hy);have h2:=h x (qae ..);rw[qey,qan,qaw,Nat.mul_add,qch];omega
theorem Ahj{w:World}{b10 b11 bs m1 m2 gen N nl cl:Nat}{al:Option Addr}{vd vj vp vt:Value}{root n T:Int}{M:Mut}{l:List (Byt × Sv)}{o1 o2:Obj}{Ws:List (List Wr)}(hb11:w.heap[b11]?=some (Bl 69 [.slice al nl cl]))(hb10:w.heap[b10]?=some (Bl 31 [ptr bs]))(S:StrsF N w al nl cl (Ws.map opB))(hN:∀y∈[bs,m1,m2],y<N)(h10:b10∉[bs,m1,m2])(_:b11∉[bs,m1,m2])(H:Ctx w [bs,m1,m2] w [(bs,Bl CA (C3 vd vj vp vt gen root m1 m2 n false)),(m1,o1),(m2,o2)])(K:KvAt w M l o1)(hM2:DT str (mi []) o2)(hS:∀y∈[bs,m1,m2],M y)(hMb:∀y,M y->y<w.heap.size)(hW:∀W∈Ws,W.length<=1000/\∀x∈W,x.Few)(hWn:Ws.length<=400)(hT:0<=T/\T<=1000000:=by omega)(hn: -(200*T)<=n/\n<=200*T:=by omega):
  Ret prog 63 #[ptr b11,ptr b10] w fun v w'=>v=.int .i64 0/\∃l' z1 z2,Sr w M bs m1 m2 vd vj vp vt gen root (Ei l) n [] Ws.flatten l' z1 z2 w':=by
 obtain⟨wI,rfl⟩:=qD w;obtain⟨xs,RS,hxl,hxr,hxa,hxn⟩:=S.ex;have hnl:=S.num;have hxlen:xs.length=Ws.length:=by rw[<-qal (f:=opB),<-hxl,qal]
 rw[qal]at hnl;have hkv:=K.fewK
 have hall:∀i,(∀x∈(Ws.take i).flatten,x.Few)/\(Ws.take i).flatten.length<=400000:=fun i=>by
  refine⟨fun x hx=>?_,?_⟩
  .obtain⟨W,hW1,hW2⟩:=qe0.1 hx;exact(hW W (qbs hW1)).2 x hW2
  .have h5:=Um (L:=Ws.take i) (m:=1000) fun W hW1=>(hW W (qbs hW1)).1;have h6:=List.length_take_le' i Ws;have h7:1000*(Ws.take i).length<=1000*400:=qb7 _ (by omega);omega
 have hx9:∀{z:World},Ext [bs,m1,m2] wI z->Rd z al 1 Afw xs:=fun{z} hz=>by
  rcases hxa with h5|h5
  .rw[h5];exact Rd.nil
  .exact RS.ext hz fun h6=>by have:=hN _ h6;omega
 refine A6 (fn:=f63) func63 U [ptr b11,ptr b10] U (Ad (Ac U (qA (Ar (Ad (Bf Ta U ((by rw[Ap hb11];rfl)) ?_))))));refine AO Ew U (Ae U (qA (AD (BF 33554000 (α:=Nat × List (Byt × Sv) × Obj × Obj) (fun s=>[(9,.int .i64 (s.1:Int))]) (fun s w'=>s.1<=nl/\Sr wI M bs m1 m2 vd vj vp vt gen root (Ei l) n [] (Ws.take s.1).flatten s.2.1 s.2.2.1 s.2.2.2 w') (fun s=>nl - s.1) (0,l,o1,o2) U ?_ ?_ ?_))))
 .exact⟨rfl,trivial⟩
 .exact⟨qak _,H,K,rfl,hM2⟩
 .clear H K hM2;rintro⟨i,li,z1,z2⟩ j w1 ⟨hi,C⟩;dsimp only at hi C;dsimp only;refine Ad (Bt U U (qA (Ar (Au _ U ?_ ?_))))
  .intro h1;replace h1:=AU h1;obtain⟨x,hx⟩:=AR (l:=xs) (i:=i);obtain⟨W,hWi⟩:=AR (l:=Ws) (i:=i)
   have hxW:x.2.1=opB W:=by
    have h5:(xs.map fun x=>x.2.1)[i]? = (Ws.map opB)[i]? := by rw[hxl]
    rw[qav,qav,hx,hWi]at h5;exact qby h5
   obtain⟨hW1,hW2⟩:=hW W (qad hWi);have hxR:=hxr x (qad hx);obtain⟨xa,xb,xc⟩:=x;dsimp only at hxW;subst hxW
   have hRx:Rd w1 xa 1 B8 (opB W):=by
    rcases hxn _ (qad hx)with h5|h5
    .dsimp only at h5;rw[h5];exact Rd.nil
    .exact hxR.1.ext C.H.ext fun h6=>by have:=hN _ h6;dsimp only at h5 this;omega
   refine Aq (Aa (Ar (AD (Ad (Bj (hx9 C.H.ext) Ew FA U U ?_)))));refine Bf BL U (((hx9 C.H.ext).one hx)) (Aj U (qA (Ad (Ai U (Ah qB (Aml xa xc (opB W).length W hRx U hxR.2 hW2 hW1) U ?_)))));rintro v w ⟨a14,c14,rfl,X14,hx14⟩;refine AO GX U (Ae U (qA (AD ?_)));obtain⟨ps,R9,hn9,hl9,hp9⟩:=X14.ex;have hpn:ps.length=W.length:=by rw[<-hl9,qal]
   obtain⟨wB,hwB⟩:=qD w;rw[<-hwB]at hx14 R9 hp9 |-;have CB:=C.call hx14;have hsz1:=C.H.ext.size;have hfl:=hall i;refine BF 16711744 (α:=Nat × List (Byt × Sv) × Obj × Obj) (fun s=>[(16,.int .i64 (s.1:Int))]) (fun s w'=>s.1<=W.length/\Ext [bs,m1,m2] wB w'/\Sr wI M bs m1 m2 vd vj vp vt gen root (Ei l) n [] ((Ws.take i).flatten++W.take s.1) s.2.1 s.2.2.1 s.2.2.2 w') (fun s=>W.length - s.1) (0,li,z1,z2) U ?_ ?_ ?_
   .exact⟨rfl,trivial⟩
   .exact⟨qak _,Ext.refl _ _,by rw[qds,qa2];exact CB⟩
   .rintro⟨k,lk,y1,y2⟩ jj w2 ⟨hk,hE,D⟩;dsimp only at hk hE D;dsimp only;have H:=Ctx.start w2 [];refine Ad (Bt U U (qA (Ar (Au _ U ?_ ?_))))
    .intro h2;replace h2:=AU h2;obtain⟨q,hq⟩:=AR (l:=ps) (i:=k);have hok:=hp9 q (qad hq);have hqW:W[k]?=some q.x:=by rw[<-hl9,qav,hq];rfl
     have hqf:=hW2 _ (qad hqW);have hMw:∀y,M y->y<w1.heap.size:=fun y hy=>by have:=hMb y hy;omega
     have hok2:q.Ok w2 M:=⟨⟨Rdx.read hok.k hE fun y hy=>hMw y (hS y hy),hok.k.2.imp id fun h5 h6=>h5 (hMw _ h6)⟩,⟨Rdx.read hok.v hE fun y hy=>hMw y (hS y hy),hok.v.2.imp id fun h5 h6=>h5 (hMw _ h6)⟩,hok.kc,hok.vc⟩
     have R9w:Rd w2 a14 3 Dx ps:=by
      rcases hn9 with h5|h5
      .rw[h5];exact Rd.nil
      .exact R9.ext hE fun h6=>h5 (hMw _ (hS _ h6))
     have hbs2:=D.H.get at0;refine Aq (Aa (Ar (AD (Ad (Bj R9w GX Fx U U ?_)))));refine EL _ Qt Fx U U (R9w.row hq U) (Be Ha H ?_);rintro b6 w - H;refine Bi Fx U U U (by exact HK q) H at0 U ?_;rintro w H;refine qA (Av (Bf ET U ((by rw[Ap (H.ext.to (D.H.ext.to hb10 h10) (by simp))];rfl)) ?_));refine BG Qt Fx U H at0 U (Ah qB (D.step (T:=T) H.ext hS hMb q (hok2.call H.ext) hqf (by rw[qan];have:=List.length_take_le' k W;omega) (fun y hy=>by cases hy) hn hkv (fun y hy=>(qau.1 hy).elim (hfl.1 y) fun h=>hW2 y (qbs h))) U ?_);rintro v w7 ⟨rfl,l7,z17,z27,C7,E7⟩;refine Ab (AF (Aa (Av (AA U U ?_))));refine Ae U (qA ?_)
     refine⟨(k+1,l7,z17,z27),rfl,⟨rfl,trivial⟩,⟨by dsimp only;omega,?_,by dsimp only;rw[Bx hqW,<-qa0];exact C7⟩,by dsimp only;omega⟩;exact hE.trans ((H.ext.mono (by simp)).trans E7)
    .intro h2;replace h2:=AV h2;obtain rfl:k=W.length:=by omega
     refine B9 (A8 (A8 (Bd (AF (Aa (Av (AA U U ?_)))))));refine Ae U (qA ?_);exact⟨(i+1,lk,y1,y2),rfl,⟨rfl,trivial⟩,⟨by dsimp only;omega,by dsimp only;rw[YQ hWi];rw[qbb]at D;exact D⟩,by dsimp only;omega⟩
  .intro h1;replace h1:=AV h1;obtain rfl:i=nl:=by omega
   rw[qa5 (by omega)]at C;refine B9 (A8 (A8 (Bd (Aa (Ad (Ac U (qA (Ax (AH (v:=(.int _ _)) U U U ?_)))))))));exact⟨rfl,li,z1,z2,C⟩
end Go.Proofs.YtcpgbcabmcbclaaGreatDoor
