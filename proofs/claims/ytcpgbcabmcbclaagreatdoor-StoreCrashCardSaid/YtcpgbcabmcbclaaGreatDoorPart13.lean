/- Part 13 of the proof. -/
import Derived.Test.YtcpgbcabmcbclaaGreatDoorPart12
set_option maxRecDepth 20000
set_option maxHeartbeats 16000000
namespace Go.Proofs.YtcpgbcabmcbclaaGreatDoor
open Go.GV Go.Proofs.Tryz
attribute [local irreducible] AB W Wq Wt
theorem OS.setN{a:Option Addr}{n c s:Nat}{full l:List Value}(O:OS a n c s full l)(k:Nat)(v:Value):OS a n c s (full.set k v) (l.set k v) :=
 ⟨O.zero,O.none',by rw[qch];exact O.len,O.le,by rw[List.take_set,O.pre]⟩
theorem Akr(inner:Bool)(ps:List SN):(ps.flatMap (Lm inner)).length=ps.length*2:=by
 induction ps with
 |nil=>rfl
 |cons p ps ih=>rw[qcc,qan,ih,qaw];show 2+_=_;omega
theorem Afq(inner:Bool)(qs:List SN)(q:SN)(v:Value)(p:SN)(hv:v=.slice p.1 p.2.1.length p.2.2):((qs++[q]).flatMap (Lm inner)).set (qs.length*2+1) v=(qs++[p]).flatMap (Lm inner):=by
 have h:=Akr inner qs;rw[qbf,qbf,qfe _ _ (by omega),h,show qs.length*2+1 - qs.length*2=1 by omega,hv];rfl
theorem Am6{α:Type}{l:List α}(h:l≠[]):∃qs q,l=qs++[q]:=⟨l.dropLast,l.getLast h,(qfh h).symm⟩
theorem MY.sub{M:Mut}{Y Y2:List (Nat × Obj)}(h:∀y∈Y2,y∈Y):∀x,MY M Y2 x->MY M Y x:=fun _ hx=>hx.imp id fun hx=>by
 obtain⟨y,hy,rfl⟩:=qah.1 hx;exact qah.2 ⟨y,h y hy,rfl⟩
theorem Fo.sub{w:World}{M:Mut}{Y Y2:List (Nat × Obj)}(O:Fo w M Y)(h:∀y∈Y2,y∈Y)(nd:Y2.Pairwise fun x y=>x.1≠y.1):Fo w M Y2:=⟨fun y hy=>O.blk y (h y hy),nd,fun y hy=>O.off y (h y hy)⟩
theorem Its.mine{w:World}{M:Mut}{Y:List (Nat × Obj)}(O:Fo w M Y){pa:Option Addr}{pc:Nat}{pf:List Value}{pm:List Im}(OA:OS pa pm.length pc 3 pf (pm.flatMap Im.enc))(hb:∀x∈ent pa 185 pf,x∈Y)(hm:∀m∈pm,m.Ok w M):Its w M pa pm.length pc (pm.map (·.it)):=by
 refine⟨⟨pm,OS.rd OA (fun y hy=>O.blk y (hb y hy)) (fun _ _=>rfl) (by decide),?_,rfl,hm⟩,by simp,OA.le⟩
 cases ha:pa with
 |none=>exact .inl (qa4 (by have h8:=OA.le;have h9:=OA.none' ha;omega))
 |some q =>
  subst ha;exact .inr fun h=>O.off (q.block,_) (hb _ (qaa.2 rfl)) (by obtain⟨qb,qo,qs⟩:=q;exact h)
theorem Its.push{w:World}{M:Mut}{Y:List (Nat × Obj)}{pa:Option Addr}{pc:Nat}{pf:List Value}{pm:List Im}(O:Fo w M (Y++ent pa 185 pf))(OA:OS pa pm.length pc 3 pf (pm.flatMap Im.enc))(hm:∀m∈pm,m.Ok w (MY M (Y++ent pa 185 pf))) :
  Fo w M Y/\Its w (MY M Y) pa pm.length pc (pm.map (·.it)):=by
 have hnd:=qca.1 O.nd;refine⟨O.sub (fun y hy=>qa5 _ hy) hnd.1,⟨⟨pm,OS.rd OA (fun y hy=>O.blk y (qax _ hy)) (fun _ _=>rfl) (by decide),?_,rfl,fun m h=>(hm m h).weak (MY.sub fun y hy=>qa5 _ hy)⟩,by simp,OA.le⟩⟩
 cases ha:pa with
 |none=>exact .inl (qa4 (by have h8:=OA.le;have h9:=OA.none' ha;omega))
 |some q =>
  subst ha;refine .inr fun h=>?_;have hq:(adr (some q)).block=q.block:=by obtain⟨qb,qo,qs⟩:=q;rfl
  rw[hq]at h
  rcases h with h|h
  .exact O.off (q.block,_) (qax _ (qaa.2 U)) h
  .obtain⟨y,hy,he⟩:=qah.1 h;exact hnd.2.2 y hy (q.block,_) (qaa.2 U) he
theorem Ctx.nilE{w0 w:World}{S:List Nat}{L:List (Nat × Obj)}(t:TypeId)(H:Ctx w0 S w L):Ctx w0 S w (L++ent none t []):=by simpa[ent]using H
theorem FZ(inner:Bool)(a:Option Addr)(n c:Nat):∀v∈[Value.bool inner,.slice a n c],Bi v=true:=fun v hv=>by
 simp only[qac,qam,or_false]at hv
 rcases hv with rfl|rfl <;> rfl
theorem Afr(i:Bool)(l:List (List It))(q part:List It):Aaf i (l++[q]) part=if i=true/\part.length=1 then l++[q.take (q.length - 1)]++[q.drop (q.length - 1)++part]else l++[q]++[part]:=by
 unfold Aaf Tj;have h1:(l++[q])≠[]:=by simp
 have h2:(l++[q]).getLastD []=q:=by simp
 have h3:(l++[q]).take ((l++[q]).length - 1)=l:=by simp
 rw[h2,h3]
 by_cases h:i=true/\part.length=1
 .rw[if_pos ⟨h.1,h.2,h1⟩,if_pos h]
 .rw[if_neg fun h5=>h ⟨h5.1,h5.2.1⟩,if_neg h]
theorem Kz(i:Bool):∀(M part:List It) (l:List (List It)),(Fg i M part l).1.flatten++(Fg i M part l).2=l.flatten++(part++M)
 | [],part,l=>by simp[Fg]
 |x::M,part,l=>by
  unfold Fg
  split
  .rw[Kz i M];simp
  .rw[Kz i M];simp
structure FS where
 i:Nat
 la:Option Addr
 lc:Nat
 lf:List Value
 ps:List SN
 pa:Option Addr
 pc:Nat
 pf:List Value
 pm:List Im
abbrev FY(b1 b3:Nat)(inner:Bool)(a:Option Addr)(n cc:Nat)(s:FS):List (Nat × Obj) :=
 (b3,Bl 183 [.bool inner,.slice s.pa s.pm.length s.pc])::(b1,Bl 183 [.bool inner,.slice a n cc])::(ent s.la 183 s.lf++ent s.pa 185 s.pf)
structure FInv(w0 w:World)(M:Mut)(b1 b3:Nat)(inner:Bool)(a:Option Addr)(n cc:Nat)(L:List It)(s:FS):Prop where
 O:Fo w M (FY b1 b3 inner a n cc s)
 I:Its w (MY M (FY b1 b3 inner a n cc s)) a n cc L
 OL:OS s.la s.ps.length s.lc 2 s.lf (s.ps.flatMap (Lm inner))
 OP:OS s.pa s.pm.length s.pc 3 s.pf (s.pm.flatMap Im.enc)
 pm:∀m∈s.pm,m.Ok w (MY M (FY b1 b3 inner a n cc s))/\m.it∈L
 ps:∀p∈s.ps,Its w (MY M (FY b1 b3 inner a n cc s)) p.1 p.2.1.length p.2.2 p.2.1/\p.2.1≠[]
 eq:Fg inner (L.drop s.i) (s.pm.map (·.it)) (s.ps.map (fun p=>p.2.1))=Fg inner L [] []
 hx:Ext [] w0 w
 yo:∀y∈(FY b1 b3 inner a n cc s).map (·.1),w0.heap.size<=y
 num:s.ps.length+s.pm.length<=s.i
theorem Am7{w:World}{M:Mut}(hM:∀x,M x->x<w.heap.size)(inner:Bool){a:Option Addr}{n c:Nat}{L:List It}(I:Its w M a n c L)(hm:n<=100000)(hsz:∀x∈L,x.key.length<=65535/\x.val.length<=65535)(hs5:∀x∈L,CK inner x<=503) :
  Ret prog 130 #[.agg #[.bool inner,.slice a n c]] w fun v w'=>∃a' n' c',v=.slice a' n' c'/\Nds w' M inner a' n' c' (Dl inner L)/\Ext [] w w':=by
 obtain⟨w0,rfl,H⟩:=qE w;have hnum:=I.num;refine A6 (fn:=f130) func130 U [.agg #[.bool inner,.slice a n c]] U (Ad (Cn [.bool inner,.slice a n c] (.agg _) U U H ?_));rintro b1 w - H;refine Ak U (qA (Ad (Af DD U (AH Gf U H at0 U (B2 [.bool inner,.slice none 0 0] Ha Cl ?_)))));refine Bj Cl H ?_;rintro b3 w - H;refine Bo Bh U U U (by exact FZ _ _ _ _) H at0 U ?_;rintro w H;refine qA (Aq (Ad (Af Br U (AH BT U H at1 U (AP Bw U (Ae U (qA (AE ?_))))))));have hlt0:∀{z:World},Ext [] w0 z->∀x,M x->x<z.heap.size:=fun{z} hz x h=>qas (hM x h) hz.size;obtain⟨O0,G0⟩:=(Fo.nil (w:=w0) (M:=M)).own hM H
 refine B7 549755797540 (α:=FS) (fun s=>[(14,.int .i64 (s.i:Int)),(2,.slice s.la s.ps.length s.lc)]) (fun s w'=>s.i<=n/\FInv w0 w' M b1 b3 inner a n c L s) (fun s=>n - s.i) ⟨0,none,0,[],[],none,0,[],[]⟩ U ?_ ?_ ?_
 .exact⟨rfl,rfl,trivial⟩
 .exact⟨qak _,⟨O0,(I.weak MY.nil).turn G0,OS.nil,OS.nil,(fun m h=>by cases h),(fun p h=>by cases h),rfl,H.ext,Om (w0:=w0) (Y:=[]) (fun y h=>by cases h) (qae _) H,qae _⟩⟩
 .rintro⟨i,la,lc,lf,ps,pa,pc,pf,pm⟩ j w ⟨hi,V⟩;dsimp only at hi;dsimp only;have hpn:=V.num;have VOP:=V.OP;have VOL:=V.OL;dsimp only at hpn VOP VOL;refine Ad (Bn U U (qA (Aq (Au _ U ?_ ?_))))
  .intro h1;replace h1:=AV h1;obtain⟨ms,R,-,hl,hok⟩:=V.I.ex;have hml:ms.length=n:=by rw[hnum,<-hl,qaj]
   obtain⟨x,hx1⟩:=AO (l:=ms) (i:=i);have hxL:=Im.at hl hx1;have hxm:=qad hxL;have hxs:=hsz x.it hxm;have hx5:=hs5 x.it hxm;have hxo:=hok x (qad hx1);have heq:=V.eq;dsimp only at heq;rw[Ey hxL,Fg]at heq;obtain⟨w3,rfl⟩:=qD w;have H:=V.O.ctx;have hlt3:=hlt0 V.hx;have hyo3:=V.yo;refine Ap (Aa (Aq (AE (Ad (AY R Bw Bm U U ?_)))));refine EY _ Ds Bm U U (R.row hx1 U) (Bj C3 H ?_);rintro b5 w - H;refine Bo Bm U U U (by exact Im.oneE _) H at0 U ?_;rintro w H;refine qA (Aq ?_);obtain⟨w4,rfl⟩:=qD w;obtain⟨O4,G4⟩:=V.O.own hlt3 H;have hx04:Ext [] w0 w4:=V.hx.then H.ext fun x hx => .inr (hyo3 x hx);have hyo4:=Om hyo3 V.hx.size H;have hlt4:=hlt0 hx04;have hb5:=H.get at0;have hb3:=H.get at1;have hb1:=H.get at2;have hxo4:=hxo.turn G4
   have Ip:Its w4 M pa pm.length pc (pm.map (·.it)):=Its.mine O4 V.OP (fun y hy=>qai _ (qai _ (qai _ (qax _ hy)))) (fun m hm=>((V.pm m hm).1.turn G4).weak MY.le)
   have hszp:∀y∈pm.map (·.it),y.key.length<=65535/\y.val.length<=65535:=fun y hy=>by
    obtain⟨m,hm,rfl⟩:=qah.1 hy;exact hsz _ (V.pm m hm).2
   have htp:=Ll (inner:=inner) hszp;rw[qaj]at htp;have hD:=Ext.drew [] w4;have hk3:∀{z:World},Ext [] w4 z->z.heap[b3]?=some (Bl 183 [.bool inner,.slice pa pm.length pc]):=fun{z} h=>by rw[h.block b3 (Al hb3) (by simp)];exact hb3
   have hk1:∀{z:World},Ext [] w4 z->z.heap[b1]?=some (Bl 183 [.bool inner,.slice a n c]):=fun{z} h=>by rw[h.block b1 (Al hb1) (by simp)];exact hb1
   have hk5:∀{z:World},Ext [] w4 z->z.heap[b5]?=some (Bl 185 x.enc):=fun{z} h=>by rw[h.block b5 (Al hb5) (by simp)];exact hb5
   refine BR [([0,2,3],1),([],4),([5],6)] (fun z=>Ext [] w4 z) [] mixed (hD) (AC U U ?_);refine Qa _ BQ Bh U U (fun _ hx=>(fun j v hv=>by rw[Ar (hk3 hx),qa2];exact hv)) ?_;refine Qa _ BQ Bh U U (fun _ hx=>(fun j v hv=>by rw[Ar (hk1 hx),qa2];exact hv)) ?_;refine Qa _ Ds Bm U U (fun _ hx=>(fun j v hv=>by rw[Ar (hk5 hx),qa2];exact hv)) ?_;refine AU ?_
   skip
   refine Ai qB (SR inner (Ip.call hD) (by omega) hszp) U ?_;rintro v w5 ⟨rfl,hx19⟩;have hx5:=hD.trans hx19;refine Ab (Bc (hx5) (AC U U ?_));refine AU (Ai qB (SO inner a n c (hxo4.call hx5)) U ?_);rintro v w6 ⟨rfl,hx22⟩;have hx6:=hx5.trans hx22;refine Ab (Bc (hx6) (AC U U ?_));refine Fk U U (AU (BZ U U (Ab (Bc (hx6) (B1 (Au _ U ?_ ?_))))))
   .intro h2;replace h2:=AV h2;rw[if_pos (by omega)]at heq
    have hpm0:pm.map (·.it)≠[]:=fun h=>by
     rw[h]at h2
     have:Bd inner []=0:=rfl
     omega
    obtain⟨w6,rfl⟩:=qD w;obtain⟨O6,G6⟩:=O4.call (.call0 hx6);have G36:=G4.trans G6;obtain⟨O7,Ipush⟩:=Its.push (Y:=(b5,Bl 185 x.enc)::(b3,Bl 183 [.bool inner,.slice pa pm.length pc])::(b1,Bl 183 [.bool inner,.slice a n c])::ent la 183 lf) O6 V.OP fun m hm=>(V.pm m hm).1.turn G36;have hsub:∀x,MY M ((b5,Bl 185 _)::(b3,Bl 183 [.bool inner,.slice pa pm.length pc])::(b1,Bl 183 [.bool inner,.slice a n c])::ent la 183 lf) x->_:=MY.sub (Y:=((b5,Bl 185 x.enc)::(b3,Bl 183 [.bool inner,.slice pa pm.length pc])::(b1,Bl 183 [.bool inner,.slice a n c])::ent la 183 lf)++ent pa 185 pf) fun y hy=>qa5 _ hy
    have hyo7:∀y∈((b5,Bl 185 x.enc)::(b3,Bl 183 [.bool inner,.slice pa pm.length pc])::(b1,Bl 183 [.bool inner,.slice a n c])::ent la 183 lf).map (·.1),w0.heap.size<=y:=fun y hy=>by
     obtain⟨z,hz,rfl⟩:=qah.1 hy;exact hyo4 _ (qah.2 ⟨z,qa5 (bs:=ent pa 185 pf) hz,rfl⟩)
    have hx06:=hx04.trans hx6;have hlt6:=hlt0 hx06;have H:=O7.ctx;have hb1':=H.get at2;have hb3':=H.get at1;refine Kg [([0,1,4,5,6],2),([],3),([7],8)] (fun z=>z.heap[b1]?=some (Bl 183 [.bool inner,.slice a n c])/\z.heap[b3]?=some (Bl 183 [.bool inner,.slice pa pm.length pc])) [8] mixed (⟨hb1',hb3'⟩) ?_;refine AC U U (BF U (Qa _ BQ Bh U U (fun _ hx=>(fun j v hv=>by rw[Ar hx.2,qa2];exact hv)) ?_));refine AD DD U (BG Gf U (fun _ hx=>Ar hx.1 (0+0)) ?_);refine ED [.bool inner,.slice none 0 0] Ha Cl (AU ?_);replace H:=H.drew;refine BJ _ (.agg _) EQ Bh Cl U U U U H ?_;rintro b27 w - H;refine Ab (Bc (⟨H.get at3,H.get at2⟩) (AC U U ?_));refine AU (BO (L:=[_,_,_]) EQ EQ Bh Z3 Cl U U U H VOL U (FZ _ _ _ _) ?_);rintro a28 c28 f28 w H O28
    refine Ab (Bc (⟨H.get at2,H.get at1⟩) (AC U U ?_));refine Iv U U (AU (Bo Bh U U U (by exact FZ _ _ _ _) H at1 U ?_));rintro w H;refine Ab (De U (B1 (Aa (Av (Af Br U (AH BT U H at1 U (BN Ds Bm U H at0 U (BJ _ (.agg _) Bw Bm C3 U U U U H ?_))))))));rintro b35 w - H;refine BO (L:=_::_::_::ent a28 183 f28) (a:=none) (full:=[]) (l:=[]) Bw Bw Bm Kn C3 U U U (Ctx.nilE _ H) OS.nil U (Im.oneE x) ?_;rintro a36 c36 f36 w H O36;refine Af Br U (Bf (.slice _ _ _) CP U U U H at1 (by(simp;done)) ?_);rintro w H;refine Ab (AF (Aa (Av (A7 U U ?_))));refine Ae U (qA ?_);have H8:=H.tail;obtain⟨O8,G8⟩:=O7.own hlt6 H8;have hpl:(ps++[((pa,pm.map (·.it),pc):SN)]).length=ps.length+1:=by simp
    refine⟨⟨i+1,a28,c28,f28,ps++[(pa,pm.map (·.it),pc)],a36,c36,f36,[x]⟩,rfl,⟨rfl,by rw[hpl];rfl,trivial⟩,⟨by dsimp only;omega,?_⟩,by dsimp only;omega⟩;refine⟨O8,((V.I.turn G36).weak hsub).turn G8,?_,O36,fun m hm=>?_,fun p hp=>?_,?_,hx06.then H8.ext fun x hx => .inr (hyo7 x hx),Om hyo7 hx06.size H8,?_⟩
    .dsimp only;rw[hpl,qbf]
     simpa[Lm]using O28
    .dsimp only at hm |-;rw[qaa.1 hm];exact⟨((hxo.turn G36).weak hsub).turn G8,hxm⟩
    .dsimp only at hp |-
     rcases qau.1 hp with hp|hp
     .exact⟨(((V.ps p hp).1.turn G36).weak hsub).turn G8,(V.ps p hp).2⟩
     .rw[qaa.1 hp];refine⟨?_,hpm0⟩;have:=Ipush.turn G8;dsimp only;rw[qaj];exact this
    .dsimp only;rw[<-heq];simp
    .dsimp only;rw[hpl];simp;omega
   .intro h2;replace h2:=AW h2;rw[if_neg (by omega)]at heq;obtain⟨w6,rfl⟩:=qD w;obtain⟨O6,G6⟩:=O4.call (.call0 hx6);have G36:=G4.trans G6;have hx06:=hx04.trans hx6;have hlt6:=hlt0 hx06;have H:=O6.ctx;refine Ap (Aa (Av (Af Br U (AH BT U H at1 U (BN Ds Bm U H at0 U (BJ _ (.agg _) Bw Bm C3 U U U U H ?_))))));rintro b35 w - H;refine BO (n:=pm.length) (L:=_::_::_::ent la 183 lf) Bw Bw Bm Kn C3 U U U H VOP U (Im.oneE x) ?_;rintro a36 c36 f36 w H O36;refine Af Br U (Bf (.slice _ _ _) CP U U U H at1 (by(simp;done)) ?_);rintro w H;refine Ab (AF (Aa (Av (A7 U U ?_))));refine Ae U (qA ?_);have H8:=H.tail;obtain⟨O8,G8⟩:=O6.own hlt6 H8;have hql:(pm++[x]).length=pm.length+1:=by simp
    refine⟨⟨i+1,la,lc,lf,ps,a36,c36,f36,pm++[x]⟩,rfl,⟨rfl,rfl,trivial⟩,⟨by dsimp only;omega,?_⟩,by dsimp only;omega⟩
    have hFY:FY b1 b3 inner a n c ⟨i+1,la,lc,lf,ps,a36,c36,f36,pm++[x]⟩=(b3,Bl 183 [.bool inner,.slice a36 (pm.length+1) c36])::(b1,Bl 183 [.bool inner,.slice a n c])::(ent la 183 lf++ent a36 185 f36):=by
     unfold FY;dsimp only;rw[hql]
    have hV:∀Y,Y=FY b1 b3 inner a n c ⟨i+1,la,lc,lf,ps,a36,c36,f36,pm++[x]⟩->Fo w M Y->Its w (MY M Y) a n c L->(∀m∈pm++[x],m.Ok w (MY M Y)/\m.it∈L)->(∀p∈ps,Its w (MY M Y) p.1 p.2.1.length p.2.2 p.2.1/\p.2.1≠[])->(∀y∈Y.map (·.1),w0.heap.size<=y)->FInv w0 w M b1 b3 inner a n c L ⟨i+1,la,lc,lf,ps,a36,c36,f36,pm++[x]⟩:=by
     rintro Y rfl v1 v2 v3 v4 v5;refine⟨v1,v2,V.OL,?_,v3,v4,?_,hx06.then H8.ext fun x hx => .inr (hyo4 x hx),v5,?_⟩
     .dsimp only;rw[hql,qbf]
      simpa using O36
     .dsimp only;rw[<-heq];simp
     .dsimp only;rw[hql];omega
    refine hV _ hFY.symm O8 ((V.I.turn G36).turn G8) (fun m hm=>?_) (fun p hp=>⟨((V.ps p hp).1.turn G36).turn G8,(V.ps p hp).2⟩) (Om hyo4 hx06.size H8)
    rcases qau.1 hm with hm|hm
    .exact⟨((V.pm m hm).1.turn G36).turn G8,(V.pm m hm).2⟩
    .rw[qaa.1 hm];exact⟨(hxo.turn G36).turn G8,hxm⟩
  .intro h1;replace h1:=AW h1;have heq:=V.eq;dsimp only at heq;rw[qb7 (by omega),Fg]at heq;have hflat:=Kz inner L [] [];rw[<-heq]at hflat;have hfull:Dl inner L=Aaf inner (ps.map fun p=>p.2.1) (pm.map (·.it)):=by unfold Dl;rw[<-heq]
   obtain⟨w9,rfl⟩:=qD w;have H:=V.O.ctx;have hlt9:=hlt0 V.hx;have hyo9:=V.yo;refine B3 (Ay (Ay (Bb (Aa (Aq (Ad (Aj U (AP EQ U (BB U U ?_)))))))));refine Ac U (qA (Ad (BE (α:=Unit) 18010000462970880 (fun _=>[(53,.bool ((inner && decide (pm.length=1)) && decide (0<ps.length)))]) (fun _ w'=>w9=w') U ?_ ?_)))
   .refine Af DD U (AH Gf U H at1 U (AA U (AR 44 U ?_ ?_)))
    .intro h1;refine Af Br U (AH BT U H at0 U (AP Bw U (B6 U U (AN U (.bool _) U (AA U (AR 50 U ?_ ?_))))))
     .intro h2;replace h2:=AV h2;refine Ae U (IE U U (AN U (.bool _) U (Ab ?_)));exact⟨rfl,(),rfl,⟨qab Value.bool (by rw[qar];simp_all;try omega),trivial⟩,rfl⟩
     .intro h3;replace h3:=AW h3;refine Ag U (Ag U (AK U (.bool _) U (Ab ?_)));exact⟨rfl,(),rfl,⟨qab Value.bool (by rw[qar];simp_all;try omega),trivial⟩,rfl⟩
    .intro h4;refine Ag U (Ag U (Ag U (Ag U (AK U (.bool _) U (AA U (Ag U (Ag U (AK U (.bool _) U (Ab ?_)))))))));exact⟨rfl,(),rfl,⟨qab Value.bool (by rw[qar];simp_all;try omega),trivial⟩,rfl⟩
   rintro - j53 w rfl;refine Au _ U ?_ ?_
   .intro h5;simp only[qao,qap]at h5;obtain⟨⟨hin,hp1⟩,hps⟩:=h5;obtain⟨qs,q,rfl⟩:=Am6 (l:=ps) (fun h=>by rw[h]at hps;exact absurd hps (by simp));have hql:(qs++[q]).length=qs.length+1:=by simp
    rw[show(((qs++[q]).length:Nat):Int) - 1=((qs.length:Nat):Int)by omega];have hq1:(qs++[q])[qs.length]?=some q:=by simp
    obtain⟨Iq,hqne⟩:=V.ps q (qax _ (qaa.2 rfl));obtain⟨r,hr⟩:∃r,q.2.1.length=r+1:=⟨q.2.1.length - 1,by have:=qbv.2 hqne;omega⟩
    have hq5:q.2.1.length<=n:=by
     have h:=qab List.length hflat;simp at h;omega
    obtain⟨bl,hbl⟩:=V.OL.form (by dsimp only;omega);dsimp only at hbl;subst hbl;have hcap:=V.OL.le;have hlfl:=V.OL.len;dsimp only at hcap hlfl;have hqcap:=Iq.le;have hRL:∀{z:World} {S:List Nat} {A B:List (Nat × Obj)} {z0:World},Ctx z0 S z (A++((bl,Bl 183 lf)::B))->Rd z (some ⟨bl,0,none⟩) 2 (Lm inner) (qs++[q]):=fun{z S A B z0} H=>OS.rd V.OL (fun y hy=>H.blk y (qax _ (qac.2 (.inl (qaa.1 hy))))) (fun _ _=>rfl) (by decide);have RL:=hRL (A:=[_,_]) H;refine Ad (Aj U (Ae U (AY RL EQ Bh U U (hn:=by rfl) ?_)));refine Af Br U (Be BT U (RL.fld hq1 U (j:=1) U) ?_);refine AP Bw U (BB U U ?_);rw[show((q.2.1.length:Nat):Int) - 1=(r:Int)by omega];refine Ac U (qA ?_)
    obtain⟨O2,Ip⟩:=Its.push (Y:=(b3,Bl 183 [.bool inner,.slice pa pm.length pc])::(b1,Bl 183 [.bool inner,.slice a n c])::[(bl,Bl 183 lf)]) V.O V.OP fun m hm=>(V.pm m hm).1;have hsub:∀x,MY M ((b3,Bl 183 [.bool inner,.slice pa pm.length pc])::(b1,Bl 183 [.bool inner,.slice a n c])::[(bl,Bl 183 lf)]) x->_:=MY.sub (Y:=((b3,Bl 183 [.bool inner,.slice pa pm.length pc])::(b1,Bl 183 [.bool inner,.slice a n c])::[(bl,Bl 183 lf)])++ent pa 185 pf) fun y hy=>qa5 _ hy
    have hyo2:∀y∈((b3,Bl 183 [.bool inner,.slice pa pm.length pc])::(b1,Bl 183 [.bool inner,.slice a n c])::[(bl,Bl 183 lf)]).map (·.1),w0.heap.size<=y:=fun y hy=>by
     obtain⟨z,hz,rfl⟩:=qah.1 hy;exact hyo9 _ (qah.2 ⟨z,qa5 (bs:=ent pa 185 pf) hz,rfl⟩)
    have Iq2:=(Iq.weak hsub).drop (k:=r) (by omega);have Iq3:=(Iq.weak hsub).take (k:=r) (by omega);have hdl:(q.2.1.drop r).length=q.2.1.length - r:=qbg;have htl:(q.2.1.take r).length=r:=by rw[qa0];omega
    have hpml:(pm.map (·.it)).length=pm.length:=qaj ..;have H:=O2.ctx;have hb3:=H.get at0;have RL2:=hRL (A:=[_,_]) (B:=[]) H;refine BR [([0,1,2,3,4,5,6,7,8],9),([],10),([11],12)] (fun z=>z.heap[b3]?=some (Bl 183 [.bool inner,.slice pa pm.length pc])/\Rd z (some ⟨bl,0,none⟩) 2 (Lm inner) (qs++[q])) [12] mixed (⟨hb3,RL2.ext0 (Ext.drew [] w9)⟩) ?_;refine AC U U (BF U (B9 U (Cr RL EQ Bh U U (hn:=by rfl) ?_)));refine AD Br U (BG BT U (fun _ hx=>hx.2.fld hq1 rfl (j:=1) rfl) ?_);refine B9 U (Gp Bw Bm U U ?_);refine AD Br U (BG BT U (fun _ hx=>Ar hx.1 (0+1)) ?_);refine AU ?_;replace H:=H.drew;refine Cb [.slice (EL q.1 q.2.2 r 3) (q.2.1.length - r) (q.2.2 - r),.slice pa pm.length pc] IL CP Nf H ?_;rintro b70 w10 - H
    refine Ab (Bc (⟨H.get at1,hRL (A:=[_,_,_]) (B:=[]) H⟩) ?_);refine AC U U (AU ?_);obtain⟨O10,G10⟩:=O2.own hlt9 H;have hx10:Ext [] w0 w10:=V.hx.then H.ext (fun x hx => .inr (hyo2 x hx));have hyo10:=Om hyo2 V.hx.size H;refine Ai qB (Gt (O10.lt (hlt0 hx10)) [(EL q.1 q.2.2 r 3,q.2.1.drop r,q.2.2 - r),(pa,pm.map (·.it),pc)] (Rd.of_bl (r:=[]) (H.get at0) (by simp[Oh]) (fun _ _=>rfl)) (fun x hx=>(qac.1 hx).elim (fun e=>by subst e;dsimp only;rw[hdl];exact Iq2.turn G10) fun hx=>by rw[qaa.1 hx];dsimp only;rw[hpml];exact Ip.turn G10) U (hm:=by show 2<=1000000;omega) (by simp;omega)) U ?_;rintro v w11 ⟨a71,c71,rfl,I71,hx71⟩;obtain⟨O11,G11⟩:=O10.call (.call0 hx71);have hx11:=hx10.trans hx71;replace H:=O11.ctx;refine Ab (Bc (⟨H.get at1,hRL (A:=[_,_,_]) (B:=[]) H⟩) ?_);refine AC U U ?_
    refine AD Br U (AU (Bf (.slice _ _ _) CP U U U H at1 (by(simp;done)) ?_));rintro w H;refine Ab (De U (B1 ?_));have RL3:=hRL (A:=[_,_,_]) (B:=[]) H;refine Av (Aj U (Ae U (Aj U (Ae U (AY RL3 EQ Bh U U (hn:=by rfl) ?_)))));refine Af Br U (Be BT U (RL3.fld hq1 U (j:=1) U) ?_);refine Ae U (Ei Bw Bm U U ?_);refine AY RL3 EQ Bh U U (hn:=by rfl) (Af Br U (Bf (.slice _ _ _) CP U U U H at3 (by show 0+qs.length*2+1<_;omega) ?_));rintro w H;refine qA ?_;have O13:OS (some ⟨bl,0,none⟩) (qs++[q]).length lc 2 (lf.set (0+qs.length*2+1) (.slice q.1 r q.2.2)) (((qs++[q]).flatMap (Lm inner)).set (qs.length*2+1) (.slice q.1 r q.2.2)):=by rw[qa2];exact OS.setN V.OL _ _
    rw[Afq inner qs q _ (q.1,q.2.1.take r,q.2.2) (by rw[htl])]at O13;refine Ad (Aj U (BN BQ Bh U H at1 U (BJ _ (.agg _) EQ Bh Cl U U U U H ?_)));rintro b86 w - H;refine BO (L:=[_,_,_]) EQ EQ Bh Z3 Cl U U U H O13 U (FZ _ _ _ _) ?_;rintro a87 c87 f87 w H O87;refine Ak U (qA (Ax (AG (v:=(.slice _ _ _)) U U U ?_)));obtain⟨O14,G14⟩:=O11.own (hlt0 hx11) H;have GT:=(G10.trans G11).trans G14;have I71':=I71.turn G14;have hfm:([(EL q.1 q.2.2 r 3,q.2.1.drop r,q.2.2 - r),(pa,pm.map (·.it),pc)]:List SI).flatMap (fun x=>x.2.1)=q.2.1.drop r++pm.map (·.it):=by simp
    rw[hfm]at I71' O87
    have heqF:((qs++[((q.1,q.2.1.take r,q.2.2):SN)])++[((a71,q.2.1.drop r++pm.map (·.it),c71):SN)]).map (fun x=>x.2.1)=Dl inner L:=by
     rw[hfull,show(qs++[q]).map (fun p=>p.2.1)=qs.map (fun p=>p.2.1)++[q.2.1]by simp,Afr,if_pos ⟨hin,by rw[hpml];exact hp1⟩,show q.2.1.length - 1=r by omega];simp
    have O88:OS a87 ((qs++[q]).length+1) c87 2 f87 (((qs++[((q.1,q.2.1.take r,q.2.2):SN)])++[((a71,q.2.1.drop r++pm.map (·.it),c71):SN)]).flatMap (Lm inner)):=by
     rw[qbf,qb8];exact O87
    refine⟨a87,(qs++[q]).length+1,c87,rfl,⟨⟨_,OS.rd O88 (fun y hy=>O14.blk y (qax _ hy)) (fun _ _=>rfl) (by decide),?_,heqF,fun m hm=>?_⟩,by rw[<-heqF];simp⟩,hx11.then H.ext fun x hx => .inr (hyo10 x hx)⟩
    .obtain⟨b,rfl⟩:=O88.form (by omega);exact .inr fun h=>O14.off (b,_) (qax _ (qaa.2 rfl)) h
    .rcases qau.1 hm with hm|hm
     .rcases qau.1 hm with hm|hm
      .exact(((V.ps m (qa5 _ hm)).1.weak hsub).turn GT).weak MY.le
      .rw[qaa.1 hm];have:=(Iq3.turn GT).weak MY.le;dsimp only;rw[htl];exact this
     .rw[qaa.1 hm];exact I71'.weak MY.le
   .intro h5;refine Ap (Aa ?_);have H:=V.O.ctx;refine Ad (Aj U (BN BQ Bh U H at0 U (BJ _ (.agg _) EQ Bh Cl U U U U H ?_)));rintro b86 w - H;refine BO (L:=_::_::ent pa 185 pf) EQ EQ Bh Z3 Cl U U U (H.perm (List.Perm.cons _ (List.Perm.cons _ (List.Perm.cons _ qcn)))) VOL U (FZ _ _ _ _) ?_;rintro a87 c87 f87 w H O87;refine Ak U (qA (Ax (AG (v:=(.slice _ _ _)) U U U ?_)));obtain⟨O14,G14⟩:=V.O.own hlt9 H;have hpml:(pm.map (·.it)).length=pm.length:=qaj ..
    have heqF:(ps++[((pa,pm.map (·.it),pc):SN)]).map (fun x=>x.2.1)=Dl inner L:=by
     rw[hfull];unfold Aaf
     have hn:¬(inner=true/\(pm.map (·.it)).length=1/\(ps.map fun p=>p.2.1)≠[]):=fun⟨h1,h2,h3⟩=>by
      have e:((inner && decide (pm.length=1)) && decide (0<ps.length))=true:=by
       rw[h1,qal (show pm.length=1 by rw[<-hpml];exact h2),qal (show 0<ps.length from qbv.2 fun e=>h3 (by rw[e];rfl))];rfl
      exact absurd (e.symm.trans h5) (by decide)
     rw[if_neg hn,qaz];rfl
    have O88:OS a87 (ps.length+1) c87 2 f87 ((ps++[((pa,pm.map (·.it),pc):SN)]).flatMap (Lm inner)):=by
     rw[qbf,qb8];show OS _ _ _ _ _ (_++[.bool inner,.slice pa (pm.map (·.it)).length pc]);rw[hpml];exact O87
    refine⟨a87,ps.length+1,c87,rfl,⟨⟨_,OS.rd O88 (fun y hy=>O14.blk y (qax _ hy)) (fun _ _=>rfl) (by decide),?_,heqF,fun m hm=>?_⟩,by rw[<-heqF];simp⟩,V.hx.then H.ext fun x hx => .inr (hyo9 x hx)⟩
    .obtain⟨b,rfl⟩:=O88.form (by omega);exact .inr fun h=>O14.off (b,_) (qax _ (qaa.2 rfl)) h
    .rcases qau.1 hm with hm|hm
     .exact((V.ps m hm).1.turn G14).weak MY.le
     .rw[qaa.1 hm];have:=Its.mine O14 V.OP (fun y hy=>qa5 _ (qai _ (qai _ hy))) fun m hm=>((V.pm m hm).1.turn G14).weak MY.le;dsimp only;rw[hpml];exact this
theorem W8{P:Program}{fn:Func}{R:Value->World->Prop}{e:Env}{w:World}(hd:e.ds=[])(hK:∀tmps:Array Value,(∀i,tmps.getD i undef=e.g i)->∃v,(results fn tmps).run P w=.ok v w/\R v w):Agz P fn R .ret e w:=by
 show Defs P e.ds w _;rw[hd];exact hK
theorem V6{w:World}{bt bd bp ba fr bc:Nat}{c:Ch}{F:Mut}{L:List (Nat × Obj)}(X:Cx w bt bd bp ba fr bc c F L){b10 b9 t1 t2:Nat}{e:Int}{l1 l2:List Value}(h10:w.heap[b10]?=some (Bl t1 (ptr bc::l1)))(h9:w.heap[b9]?=some (Bl t2 (.int .i64 e::l2)))(hgn:c.gn.length<=1000000)(htk:c.tk.length<=1000000:=by omega):
  Agy prog 128 #[ptr b10,ptr b9] w fun w'=>Cx w' bt bd bp ba fr bc (DH c e) F L/\Grown (TM F ba bt bp L) (TM F ba bt bp L) w w':=by
 obtain⟨w0,rfl,H⟩:=qE w;refine U2 (fn:=f128) func128 U [.pointer (some ⟨b10,0,none⟩),.pointer (some ⟨b9,0,none⟩)] U ?_;refine Av (Be RY U ((by rw[Ar h10];rfl)) ?_);refine Be EW U ((by rw[Ar h9];rfl)) ?_;refine Ai qB (XK X e htk hgn) U ?_;rintro v w2 ⟨rfl,X2,g2⟩;refine Ab (Ih U U ?_);exact⟨X2,g2⟩
theorem Fr.sub{w0 w:World}{Z M0:Mut}{bt bd bp ba fr bc:Nat}{c:Ch}{F:Mut}{L Y Y2:List (Nat × Obj)}(E:Fr w0 Z M0 w bt bd bp ba fr bc c F L Y)(h:∀y∈Y2,y∈Y)(nd:Y2.Pairwise fun x y=>x.1≠y.1):Fr w0 Z M0 w bt bd bp ba fr bc c F L Y2 :=
 ⟨E.X,E.O.sub h nd,E.GT,E.GA.weak (MY.sub h),fun y hy=>by
  obtain⟨z,hz,rfl⟩:=qah.1 hy
  exact E.yo _ (qah.2 ⟨z,h z hz,rfl⟩),E.sz,E.hZ⟩
theorem Afs{fr:Nat}{c:Ch}{inner:Bool}{M:List It}{m:Nat}(h:Few c.A (m+c.tk.length)):Few (wrC fr c inner M).2.A (m+(wrC fr c inner M).2.tk.length):=by
 unfold wrC
 split
 .exact h
 .split
  .rw[qan];exact h.mono (by rw[qbu];omega)
  .rw[qan];exact Hy h _ _
theorem Aqf{c:Ch}{i:Bool}{M:List It}(h:okF c i M=true):M.length<=100000/\c.tk.length+(Dl i M).length<=50000/\(∀x∈M,x.key.length<=65535/\x.val.length<=65535)/\(∀x∈M,x.page<9223372036854775808)/\(∀x∈M,CK i x<=503)/\∀a∈Dl i M,a≠[]/\a.length<=1000/\∀x∈a,x∈M:=by
 unfold okF at h;simp only[qao,qap,qb0]at h;obtain⟨h1,h2,h3,h4⟩:=h;refine⟨h1,h2,fun x hx=>⟨(h3 x hx).1,(h3 x hx).2.1⟩,fun x hx=>(h3 x hx).2.2.1,fun x hx=>(h3 x hx).2.2.2,fun a ha=>⟨(h4 a ha).1,(h4 a ha).2,fun x hx=>?_⟩⟩
 have hf:(Dl i M).flatten=M:=by
  have hfl:=Kz i M [] [];simp only[List.flatten_nil,qa7]at hfl;unfold Dl;obtain⟨l,hl⟩:=qD ((Fg i M [] []).1);obtain⟨pt,hpt⟩:=qD ((Fg i M [] []).2);rw[<-hl,<-hpt]at hfl |-;unfold Aaf
  split
  .rename_i hc
   have hs:=MS hc.2.2;rw[<-hfl]
   conv=>rhs;rw[hs]
   simp only[qcv,qcw,qa1]
   congr 1
   rw[<-qa1,Lz]
  .rw[qcv,qcw];exact hfl
 rw[<-hf];exact qe7.2 ⟨a,ha,hx⟩
def zI(m:Im):Im:=⟨m.ka,m.kc,m.va,m.vc,BL (prI m.it)⟩
structure BS where
 n:Nat
 i:Bool
 a:Option Addr
 k:Nat
 c:Nat
 M:List It
 ch:Ch
 F:Mut
 L:List (Nat × Obj)
abbrev Y0(b5 b6 b9 bc:Nat)(i:Bool)(a:Option Addr)(k c:Nat):List (Nat × Obj) :=
 [(b9,Bl 186 [ptr bc]),(b6,Bl 183 [.bool i,.slice a k c]),(b5,Bl 28 [.int .i64 0])]
structure BInv(w0 w:World)(Z M0:Mut)(bt bd bp ba fr bc b5 b6 b9 mx:Nat)(R:Int × Ch × Int)(s:BS):Prop where
 E:Fr w0 Z M0 w bt bd bp ba fr bc s.ch s.F s.L (Y0 b5 b6 b9 bc s.i s.a s.k s.c)
 I:Its w (MY (MZ (TM s.F ba bt bp s.L) Z) (Y0 b5 b6 b9 bc s.i s.a s.k s.c)) s.a s.k s.c s.M
 eq:R=Cg fr s.n s.ch s.i s.M
 few:Few s.ch.A (mx+s.ch.tk.length)
 gn:s.ch.gn=[]
 tk:s.ch.tk.length<=50000
structure LS where
 j:Nat
 a:Option Addr
 c:Nat
 full:List Value
 ms:List Im
 ch:Ch
 F:Mut
 L:List (Nat × Obj)
abbrev Y1(b5 b6 b9 b10 bc:Nat)(i:Bool)(a:Option Addr)(k c:Nat)(s:LS):List (Nat × Obj) :=
 (b10,Bl 183 [.bool true,.slice s.a s.ms.length s.c])::(Y0 b5 b6 b9 bc i a k c++ent s.a 185 s.full)
structure LInv(w0 w:World)(Z M0:Mut)(bt bd bp ba fr bc b5 b6 b9 b10 mx:Nat)(i:Bool)(a:Option Addr)(k c:Nat)(an:Option Addr)(nn cn:Nat)(Ps:List (List It))(T:Int × Ch × List It)(c0:Ch)(s:LS):Prop where
 E:Fr w0 Z M0 w bt bd bp ba fr bc s.ch s.F s.L (Y1 b5 b6 b9 b10 bc i a k c s)
 N:Nds w (MY (MZ (TM s.F ba bt bp s.L) Z) (Y1 b5 b6 b9 b10 bc i a k c s)) i an nn cn Ps
 O:OS s.a s.ms.length s.c 3 s.full (s.ms.flatMap Im.enc)
 ms:∀m∈s.ms,m.Ok w (MY (MZ (TM s.F ba bt bp s.L) Z) (Y1 b5 b6 b9 b10 bc i a k c s))
 eq:T=C4 fr i (Ps.drop s.j) s.ch (s.ms.map (·.it))
 few:Few s.ch.A (mx+s.ch.tk.length)
 gn:s.ch.gn=[]
 tk:s.ch.tk.length<=c0.tk.length+s.j
 num:s.ms.length=s.j
def YL(fr:Nat)(A:Dev)(P:List Nat)(L:List Pr):Int × Ch × Int:=Cg fr 1500 ⟨A,P,[],[]⟩ false (L.map BL)
theorem Aft{fr:Nat}{w:World}{bt bd bp ba:Nat}{A:Dev}{P:List Nat}{F:Mut}(T:Tx w bt bd bp ba fr A P F []){a:Option Addr}{n c:Nat}{L:List Pr}(PL:Prs w (TM F ba bt bp []) a n c L)(hn:n<=100000){mx:Nat}(hfew:Few A mx)(hmx:mx<=800000000)(hok:(∀i,i<L.length->Tm L i)->L≠[]->(YL fr A P L).1≠99)(hfr:fr<=5000:=by decide):
  Ret prog 93 #[ptr bt,.slice a n c] w fun v w' =>
   ((∃i,i<L.length/\¬Tm L i)/\v=.tuple #[.int .i64 (-1),.int .i64 1]/\Ext [] w w') \/
   ((∀i,i<L.length->Tm L i)/\L=[]/\v=.tuple #[.int .i64 (-1),.int .i64 0]/\Ext [] w w') \/
   ((∀i,i<L.length->Tm L i)/\L≠[]/\∃F',v=.tuple #[.int .i64 (YL fr A P L).2.2,.int .i64 (YL fr A P L).1]/\Tx w' bt bd bp ba fr (YL fr A P L).2.1.A (DH (YL fr A P L).2.1 (YL fr A P L).1).P F' []/\Grown (TM F ba bt bp []) (TM F' ba bt bp []) w w'):=by
 obtain⟨w0,rfl⟩:=qD w;have hnL:=PL.num;obtain⟨ps,Rp,hps,hl,hp⟩:=PL.ex;have hpn:ps.length=n:=by rw[hnL,<-hl,qaj]
 have hmlt:=T.mlt;have H:=Ctx.start w0 [];refine U3 (fn:=f93) func93 U [.pointer (some ⟨bt,0,none⟩),.slice a n c] U ?_;refine Ad (Ac U (Bj Xr H ?_));rintro b5 w - H;refine qA (Aq (Ad (Am U (BW Aoe U ?_))));refine qA (Bz U (Ap (Aa (Ad (B2 [.bool false,.slice none 0 0] Ha Cl ?_)))));refine Bj Cl H ?_;rintro b6 w - H;refine Bo Bh U U U (by exact FZ _ _ _ _) H at0 U ?_;rintro w H;refine qA (Aq (Ad (Aj U (AP Cv U (Ae U (qA (AE (B7 72057594036879760 (α:=Nat × Option Addr × Nat × List Value) (fun s=>[(20,.int .i64 (s.1:Int))]) (fun s w'=>s.1<=n/\(∀i,i<s.1->Tm L i)/\Ctx w0 [] w' ([(b6,Bl 183 [.bool false,.slice s.2.1 s.1 s.2.2.1]),(b5,Bl 28 [.int .i64 0])]++ent s.2.1 185 s.2.2.2)/\OS s.2.1 s.1 s.2.2.1 3 s.2.2.2 (((ps.take s.1).map zI).flatMap Im.enc)) (fun s=>n - s.1) (0,none,0,[]) U ?_ ?_ ?_))))))))
 .exact⟨rfl,trivial⟩
 .exact⟨qak _,(fun i h=>absurd h (qc3 _)),H,OS.nil⟩
 .rintro⟨i,ia,ic,fi⟩ j w ⟨hi,hg,H,O⟩;dsimp only at hi hg H O;dsimp only;refine Ad (Bn U U (qA (Aq (Au _ U ?_ ?_))))
  .intro h1;replace h1:=AV h1;obtain⟨x,hx1⟩:=AO (l:=ps) (i:=i);have hxo:=hp x (qad hx1);have hxL:L[i]?=some (prI x.it):=by rw[<-hl,qat,hx1];rfl
   have hts:((ps.take (i+1)).map zI).flatMap Im.enc=((ps.take i).map zI).flatMap Im.enc++(zI x).enc:=by rw[Bp hx1,qaz,qbf];simp
   refine Ap (Aa (Aq (AE (Ad (Ae U (AY Rp Cv Dq U U ?_))))));refine EY _ Ag3 Dq U U ((Rp.ext0 H.ext).row hx1 U) (Bj FD H ?_);rintro b8 w - H;refine Ac U (Bo Dq U U U (by exact Hi _) H at0 U ?_);rintro w H;refine qA (Aq (Ad (Af FV U (AH B4 U H at0 U (Af Jq U (AH B4 U H at0 U (Ai qB (Px x.ka x.va _ _ x.kc x.vc _) U ?_)))))));rintro v w9 ⟨rfl,rfl⟩;refine BX U (qA (Au _ U ?_ ?_))
   .intro h2;replace h2:=Cz h2;refine Ad (Ac U (Bf (.int _ _) Ga U U U H at2 (by decide) ?_));rintro w H;refine qA (Ax (Ao (AL (Ao (Ao (AL (Ao ?_)))))));refine W8 U fun tmps ht=>⟨_,Qe rfl ht rfl rfl EW (H.get at2),.inl ⟨⟨i,by omega,fun⟨p,q1,q2,_⟩=>?_⟩,rfl,H.ext⟩⟩;rw[hxL]at q1;cases q1;have q3:Dh x.it.key.length x.it.val.length=true:=q2;rw[h2]at q3;cases q3
   .intro h2;replace h2:=C0 h2;obtain⟨w8,rfl⟩:=qD w;have hb8:=H.get at0;have hx08:=H.ext;have hk8:∀{z:World},Ext [] w8 z->z.heap[b8]?=some (Bl 68 (Hh x)):=fun{z} h=>by rw[h.block b8 (Al hb8) (by simp)];exact hb8
    have hD:=Ext.drew [] w8;refine Ap (Aa (Aq (BR [([0,1,2,3,4,5,6,7,8,9,10],11),([12],13)] (fun z=>Ext [] w8 z) [] mixed (hD) ?_)));refine AC U U (B9 U (Ann U U U (LX U U (KS 33 U ?_ ?_))))
    .intro h3;replace h3:=AV h3;refine BF U (B9 U ?_);obtain⟨y,hy⟩:=AO (l:=ps) (i:=i - 1);have hyo:=hp y (qad hy);refine Iu U U U ?_;rw[show(i:Int) - 1=((i - 1:Nat):Int)by omega];refine Cr Rp Cv Dq U U ?_;refine AD FV U (BG B4 U (fun _ hx=>(((Rp.ext0 hx08).ext0 hx).fld hy rfl (j:=0) rfl)) ?_);refine AD FV U (BG B4 U (fun _ hx=>(by rw[Ar (hk8 hx)];rfl)) ?_);refine AU ?_;replace H:=H.drew;refine Ai qB (IV y.ka x.ka y.kc x.kc _ _ y.it.key x.it.key (hyo.k.1.ext0 (hx08.trans hD)) (hxo.k.1.ext0 (hx08.trans hD)) U U) U ?_;rintro v w9 ⟨rfl,rfl⟩;refine Ab (Bc (hD) (AC U U ?_));refine t_geq U U U (AU (AN U (.bool _) U (Ab (Bc (hD) (B1 (Au _ U ?_ ?_))))))
     .intro h4;replace h4:=AV h4;refine Ad (Ac U (Bf (.int _ _) Ga U U U H at2 (by decide) ?_));rintro w H;refine qA (Ax (Ao (AL (Ao (Ao (AL (Ao ?_)))))));refine W8 U fun tmps ht=>⟨_,Qe rfl ht rfl rfl EW (H.get at2),.inl ⟨⟨i,by omega,fun⟨p,q1,_,q3⟩=>?_⟩,rfl,H.ext⟩⟩;rw[hxL]at q1;cases q1;have hyL:L[i - 1]?=some (prI y.it):=by rw[<-hl,qat,hy];rfl
      have q4:DX y.it.key x.it.key<0:=Ju.2 (q3 _ (by omega) hyL);omega
     .intro h4;replace h4:=AW h4;refine Ap (Aa (Av (Af Br U (AH BT U H at1 U (Af FV U (AH B4 U H at0 U (Af Jq U (AH B4 U H at0 U (B2 (zI x).enc Nc C3 ?_)))))))));refine BJ _ (.agg _) Bw Bm C3 U U U U H ?_;rintro b52 w - H;refine BO (L:=[_,_,_]) Bw Bw Bm Kn C3 U U U H O U (Im.oneE (zI x)) ?_;rintro a53 c53 f53 w H O53;refine Af Br U (Bf (.slice _ _ _) CP U U U H at1 (by(simp;done)) ?_);rintro w H;refine Ab (AF (Aa (Av (A7 U U ?_))));refine Ae U (qA ?_);refine⟨(i+1,a53,c53,f53),rfl,⟨rfl,trivial⟩,⟨by dsimp only;omega,fun k hk=>?_,H.tail,by dsimp only;rw[hts];exact O53⟩,by dsimp only;omega⟩;dsimp only at hk
      rcases qbr k i with h7|h7
      .exact hg k h7
      .obtain rfl:k=i:=by omega
       exact⟨_,hxL,h2,fun q h0 hq=>by
        have hyL:L[k - 1]?=some (prI y.it):=by rw[<-hl,qat,hy];rfl
        rw[hyL]at hq;cases hq
        exact Ju.1 (show DX y.it.key x.it.key<0 by omega)⟩
    .intro h3;replace h3:=AW h3;refine Co U (Co U (Co U (Co U (Co U (Co U (Co U (Co U (AU ?_))))))));replace H:=H.drew;refine Ag U (Ab (Bc (hD) (AC U U ?_)));refine Co U (AU (AK U (.bool _) U (Ab (Bc (hD) (B1 (Bz U (Ap (Aa (Av (Af Br U (AH BT U H at1 U ?_)))))))))));refine Af FV U (AH B4 U H at0 U (Af Jq U (AH B4 U H at0 U (B2 (zI x).enc Nc C3 ?_))));refine BJ _ (.agg _) Bw Bm C3 U U U U H ?_;rintro b52 w - H;refine BO (L:=[_,_,_]) Bw Bw Bm Kn C3 U U U H O U (Im.oneE (zI x)) ?_;rintro a53 c53 f53 w H O53;refine Af Br U (Bf (.slice _ _ _) CP U U U H at1 (by(simp;done)) ?_);rintro w H;refine Ab (AF (Aa (Av (A7 U U ?_))));refine Ae U (qA ?_)
     refine⟨(i+1,a53,c53,f53),rfl,⟨rfl,trivial⟩,⟨by dsimp only;omega,fun k hk=>?_,H.tail,by dsimp only;rw[hts];exact O53⟩,by dsimp only;omega⟩;dsimp only at hk
     rcases qbr k i with h7|h7
     .exact hg k h7
     .obtain rfl:k=i:=by omega
      exact⟨_,hxL,h2,fun q h0 hq=>absurd h0 (by omega)⟩
  .intro h1;replace h1:=AW h1;have hin:i=n:=by omega
   rw[qa6 (by omega)]at O;have hgood:∀k,k<L.length->Tm L k:=fun k hk=>hg k (by omega);refine B3 (Ay (Ay (Bb (Aa (Aq (Ad (Aj U (AP Cv U (B6 U U (qA (Au _ U ?_ ?_)))))))))))
   .intro h5;replace h5:=AV h5;refine Ad (Ac U (Bf (.int _ _) Ga U U U H at1 (by decide) ?_));rintro w H;refine qA (Ax (Ao ?_));exact W8 U fun tmps ht=>⟨_,Qe rfl ht rfl rfl EW (H.get at1),.inr (.inl ⟨hgood,qa4 (by omega),rfl,H.ext⟩)⟩
   .intro h5;replace h5:=AW h5;have hne:L≠[]:=fun e=>h5 (by rw[hnL,e];rfl);have hok':=hok hgood hne;obtain⟨R,hR⟩:=qD (YL fr A P L);rw[<-hR]at hok' |-;refine Ap (Aa (Ad (Am U (B2 [ptr bt,.slice none 0 0,.slice none 0 0] Ah4 Aia ?_))));refine Cn [ptr bt,.slice none 0 0,.slice none 0 0] (.agg _) U U H ?_;rintro bc w - H;refine Bj Ah9 H ?_;rintro b9 w - H;refine Bf (.pointer _) Ah6 U U U H at0 (by decide) ?_;rintro w H;refine qA (Ad (CG [.pointer _,.pointer _] U (WT U U ?_)));refine qA (AE ?_);have E1:Fr w0 (fun _=>False) (TM F ba bt bp []) w bt bd bp ba fr bc ⟨A,P,[],[]⟩ F [(bc,Bl TC [ptr bt,.slice none 0 0,.slice none 0 0])] (Y0 b5 b6 b9 bc false ia i ic++ent ia 185 fi):=Fr.born T (fun x h=>h.elim) (H.perm (List.Perm.swap _ _ _)) ⟨none,0,[],none,0,[],rfl,OS.nil,OS.nil⟩;have hpsl:(ps.map zI).length=i:=by rw[qaj];omega
    have O9:OS ia (ps.map zI).length ic 3 fi ((ps.map zI).flatMap Im.enc):=by rw[hpsl];exact O
    obtain⟨-,I9⟩:=Its.push E1.O O9 fun m hm=>by
     obtain⟨q,hq,rfl⟩:=qah.1 hm;have:=((hp q hq).weak (M':=MZ (TM F ba bt bp []) fun _=>False) fun x h=>h.elim id False.elim).turn E1.GA;exact⟨this.k,this.v,this.kc,this.vc⟩
    have hmap:(ps.map zI).map (·.it)=L.map BL:=by rw[<-hl,qbi,qbi];rfl
    rw[hpsl,hmap]at I9;have E2:=E1.sub (Y2:=Y0 b5 b6 b9 bc false ia i ic) (fun y hy=>qa5 _ hy) (qca.1 E1.O.nd).1;refine B7 158456325019305303150233154576 (α:=BS) (fun _=>[]) (fun s w'=>BInv w0 w' (fun _=>False) (TM F ba bt bp []) bt bd bp ba fr bc b5 b6 b9 mx R s) (fun s=>s.n) ⟨1500,false,ia,i,ic,L.map BL,⟨A,P,[],[]⟩,F,[(bc,Bl TC [ptr bt,.slice none 0 0,.slice none 0 0])]⟩ U ?_ ?_ ?_
    .exact trivial
    .exact⟨E2,I9,hR,hfew,rfl,qak _⟩
    .rintro⟨m,si,sa,sk,sc,sM,sch,sF,sL⟩ j w V;have hVeq:=V.eq;dsimp only at hVeq;dsimp only
     cases m with
     |zero=>rw[hVeq]at hok';exact absurd rfl hok'
     |succ m =>
     have hokF:okF sch si sM=true:=by
      cases h:okF sch si sM with
      |true=>rfl
      |false =>
       rw[hVeq]at hok';unfold Cg at hok';rw[if_pos h]at hok';exact absurd U hok'
     obtain⟨k1,k2,k3,k4,k5,k6⟩:=Aqf hokF;unfold Cg at hVeq;rw[if_neg (by rw[hokF];simp)]at hVeq;obtain⟨Tp,hTp⟩:=qD (C4 fr si (Dl si sM) sch []);rw[<-hTp]at hVeq;have hskn:=V.I.num;have hfew9:=V.few;have hgn9:=V.gn;dsimp only at hskn hfew9 hgn9;have H:=V.E.O.ctx;refine AE (Ad (B2 [.bool true,.slice none 0 0] Ha Cl ?_));refine Bj Cl H ?_;rintro b10 w - H;refine Bo Bh U U U (by exact FZ _ _ _ _) H at0 U ?_;rintro w H;refine qA (Aq (Ad (BN BQ Bh U H at2 U ?_)));obtain⟨E3,g3⟩:=V.E.own H;refine Ai qB (Am7 E3.mylt si (V.I.turn g3) (by dsimp only;omega) k3 k5) U ?_;rintro v w2 ⟨an,nn,cn,rfl,N,hx2⟩;obtain⟨E4,g4⟩:=E3.call0 hx2;have N4:=N;refine AP EQ U (Ae U (qA (AE ?_)));have hnn:nn=(Dl si sM).length:=N4.num
     refine B7 154742357336719944686006288 (α:=LS) (fun s=>[(67,.int .i64 (s.j:Int))]) (fun s w'=>s.j<=nn/\LInv w0 w' (fun _=>False) (TM F ba bt bp []) bt bd bp ba fr bc b5 b6 b9 b10 mx si sa sk sc an nn cn (Dl si sM) Tp sch s) (fun s=>nn - s.j) ⟨0,none,0,[],[],sch,sF,sL⟩ U ?_ ?_ ?_
     .exact⟨rfl,trivial⟩
     .exact⟨qak _,E4,N4,OS.nil,(fun m h=>by cases h),hTp,hfew9,hgn9,qae _,rfl⟩
     .rintro⟨jj,ua,uc,uf,um,ch,cF,cL⟩ j w ⟨hj,V2⟩;dsimp only at hj;dsimp only;obtain⟨ns,R3,hs3,hl3,hok3⟩:=V2.N.ex;have hnl:ns.length=nn:=by rw[hnn,<-hl3,qaj]
      have htk2:=V2.tk;have hum:=V2.num;have hTq:=V2.eq;have hf2:=V2.few;have VE:=V2.E;have VO:=V2.O;dsimp only at htk2 hum hTq hf2 VE VO;have H:=VE.O.ctx;refine Ad (Bn U U (qA (Aq (Au _ U ?_ ?_))))
      .intro h6;replace h6:=AV h6;obtain⟨x,hx1⟩:=AO (l:=ns) (i:=jj);have hxL:(Dl si sM)[jj]?=some x.2.1:=by rw[<-hl3,qat,hx1];rfl
       obtain⟨kx1,kx2,kx3⟩:=k6 _ (qad hxL);have Ix:=hok3 x (qad hx1);rw[Ey hxL,C4]at hTq;refine Ap (Aa (Aq (AE (Ad (AY R3 EQ Bh U U ?_)))));refine EY (Lm si x) BQ Bh U U (R3.row hx1 U) (Bj Cl H ?_);rintro b12 w - H;refine Bo Bh U U U (by exact FZ _ _ _ _) H at0 U ?_;rintro w H;refine qA (Ad (AH RY U H at2 U (BN BQ Bh U H at0 U ?_)));obtain⟨E5,g5⟩:=VE.own H;have Iy:=Ix.turn g5;refine Ai qB (Py E5.X (by omega) si (MY (fun _=>False) _) (Iy.weak MYZ) kx1 (fun y hy=>k3 y (kx3 y hy)) (fun y hy=>k4 y (kx3 y hy)) hf2) U ?_;rintro v w5 ⟨mi,F5,L5,rfl,X5,G5,hmo,hmp,hmi⟩;have hmo:=hmo.weak Aef;obtain⟨E6,g6⟩:=E5.call X5 G5;replace H:=E6.O.ctx;refine AQ U (Ah U U (Ah U U (Bj C3 H ?_)));rintro b13 w - H;refine Bo Bm U U U (by exact Im.oneE _) H at0 U ?_
       rintro w H;refine Ac U (qA (Aq (Ad (Ae U (Ba U U (qA (Au _ U ?_ ?_)))))))
       .intro h7;replace h7:=Bu h7;rw[if_neg (show ¬(wrC fr ch si x.2.1).1=0 from h7)]at hTq;rw[hTq,if_pos (show(wrC fr ch si x.2.1).1≠0 from h7)]at hVeq;have hgn6:(wrC fr ch si x.2.1).2.gn=[]:=wrC_gn.trans V2.gn;have htk6:=SW (fr:=fr) (c:=ch) (inner:=si) (M:=x.2.1);refine Ad (Ae U (Ac U (Bf (.int _ _) Ga U U U H at5 (by decide) ?_)));rintro w H;refine qA (Ax (Ao (AL (Ao (Ao (AL (Ao (AL (Ao (AL ?_))))))))));obtain⟨E7,-⟩:=E6.own H;refine RQ U qB _ (V6 E7.X (H.get at3) (H.get at5) (by rw[hgn6];exact qak _)) (fun w7 hK tmps ht=>?_);exact⟨_,Qe U ht U U EW ((E7.O.call (hK.2.or _)).1.blk (b5,_) (qad (i:=5) U)),.inr (.inr ⟨hgood,hne,F5,by rw[hVeq];rfl,by rw[hVeq];exact hK.1.T.none,(E7.GT.trans hK.2).weak TM.none⟩)⟩
       .intro h7;replace h7:=Bv h7;have h7':(wrC fr ch si x.2.1).1=0:=by simpa using h7
        rw[if_pos h7']at hTq;have hmi':=hmi h7';refine Ap (Aa (Av (Af Br U (AH BT U H at2 U (BN Ds Bm U H at0 U (BJ _ (.agg _) Bw Bm C3 U U U U H ?_))))));rintro b83 w - H;refine BO (n:=um.length) (L:=[_,_,_,_,_,_]) Bw Bw Bm Kn C3 U U U H VO U (Im.oneE mi) ?_;rintro a84 c84 f84 w H O84;refine Af Br U (Bf (.slice _ _ _) CP U U U H at2 (by(simp;done)) ?_);rintro w H;refine Ab (AF (Aa (Av (A7 U U ?_))));refine Ae U (qA ?_);have H8:=H.tail.tail;obtain⟨E7,g7⟩:=E6.own H8;have hql:(um++[mi]).length=um.length+1:=by simp
        have gg:=(g5.trans g6).trans g7;have htk6:=SW (fr:=fr) (c:=ch) (inner:=si) (M:=x.2.1)
        have hfin:∀Y,Y=Y1 b5 b6 b9 b10 bc si sa sk sc ⟨jj+1,a84,c84,f84,um++[mi],(wrC fr ch si x.2.1).2,F5,L5⟩->Fr w0 (fun _=>False) (TM F ba bt bp []) w bt bd bp ba fr bc (wrC fr ch si x.2.1).2 F5 L5 Y->Nds w (MY (MZ (TM F5 ba bt bp L5) fun _=>False) Y) si an nn cn (Dl si sM)->(∀m∈um++[mi],m.Ok w (MY (MZ (TM F5 ba bt bp L5) fun _=>False) Y))->LInv w0 w (fun _=>False) (TM F ba bt bp []) bt bd bp ba fr bc b5 b6 b9 b10 mx si sa sk sc an nn cn (Dl si sM) Tp sch ⟨jj+1,a84,c84,f84,um++[mi],(wrC fr ch si x.2.1).2,F5,L5⟩:=by
         rintro Y rfl v1 v2 v3;refine⟨v1,v2,?_,v3,?_,Afs hf2,wrC_gn.trans V2.gn,by dsimp only;omega,by dsimp only;rw[hql,hum]⟩
         .dsimp only;rw[hql,qbf]
          simpa using O84
         .dsimp only;rw[hTq,qaz,<-hmi'];rfl
        refine⟨⟨jj+1,a84,c84,f84,um++[mi],(wrC fr ch si x.2.1).2,F5,L5⟩,rfl,⟨rfl,trivial⟩,⟨by dsimp only;omega,hfin _ ?_ E7 (V2.N.turn gg) fun q hq=>?_⟩,by dsimp only;omega⟩
        .show(b10,Bl 183 [.bool true,.slice a84 (um.length+1) c84])::_=(b10,Bl 183 [.bool true,.slice a84 (um++[mi]).length c84])::_;rw[hql];rfl
        .rcases qau.1 hq with hq|hq
         .exact(V2.ms q hq).turn gg
         .rw[qaa.1 hq];exact hmo.turn g7
      .intro h6;replace h6:=AW h6;rw[qb7 (by omega),C4]at hTq;rw[hTq,if_neg (by simp)]at hVeq;dsimp only at hVeq;rw[qaj]at hVeq;have hgn2:=V2.gn;dsimp only at hgn2;refine B3 (Ay (Ay (Bb (Aa (Ad (BN BQ Bh U H at0 U (Bo Bh U U U (by exact FZ _ _ _ _) H at2 U ?_)))))));rintro w H;refine qA (Ad (Af Br U (AH BT U H at2 U (AP Bw U (B6 U U (qA (Au _ U ?_ ?_)))))))
       .intro h8;replace h8:=AV h8;have h81:um.length=1:=by have h9:(um.length:Int)=1:=h8;omega
        rw[if_pos h81]at hVeq;obtain⟨q0,hq0⟩:=AO (l:=um) (i:=0);have Rm:Rd w ua 3 Im.enc um:=OS.rd VO (fun y hy=>H.blk y (show y∈(b10,Bl 183 [.bool true,.slice ua um.length uc])::(Y0 b5 b6 b9 bc true ua um.length uc++ent ua 185 uf)from qai _ (qax _ hy))) (fun _ _=>rfl) (by decide);have hpg0:Cq (um.map (·.it)) 0=q0.it.page:=by unfold Cq;rw[qat,hq0];rfl
        refine Ad (Af Br U (AH BT U H at2 U (AY Rm Bw Bm U U (hn:=by rfl) ?_)));refine Af Gg U (Be DW U (Rm.fld hq0 U (j:=2) U) ?_);refine Ac U (Bf (.int _ _) Ga U U U H at3 (by decide) ?_);rintro w H;refine qA (Ax (AL (Ao (AL ?_))));obtain⟨E7,-⟩:=VE.own H;refine RQ U qB _ (V6 E7.X (H.get at1) (H.get at3) (by rw[hgn2];exact qak _)) (fun w7 hK tmps ht=>?_);exact⟨_,Qe U ht U U EW ((E7.O.call (hK.2.or _)).1.blk (b5,_) (qad (i:=3) U)),.inr (.inr ⟨hgood,hne,cF,by rw[hVeq,hpg0];rfl,by rw[hVeq];exact hK.1.T.none,(E7.GT.trans hK.2).weak TM.none⟩)⟩
       .intro h8;replace h8:=AW h8;rw[if_neg (show ¬um.length=1 by have h9:¬(um.length:Int)=1:=h8;omega)]at hVeq;refine Ap (AF (Aa ?_));obtain⟨E7,g7⟩:=VE.own H;obtain⟨-,I7⟩:=Its.push (Y:=(b10,Bl 183 [.bool true,.slice ua um.length uc])::Y0 b5 b6 b9 bc true ua um.length uc) E7.O VO fun q hq=>(V2.ms q hq).turn g7;have hsub:∀y∈Y0 b5 b6 b9 bc true ua um.length uc,y∈((b10,Bl 183 [.bool true,.slice ua um.length uc])::Y0 b5 b6 b9 bc true ua um.length uc)++ent ua 185 uf:=fun y hy=>qa5 _ (qai _ hy);have E8:=E7.sub hsub (qbh.1 (qca.1 (show(((b10,Bl 183 [.bool true,.slice ua um.length uc])::Y0 b5 b6 b9 bc true ua um.length uc)++ent ua 185 uf).Pairwise _ from E7.O.nd)).1).2
        exact⟨⟨m,true,ua,um.length,uc,um.map (·.it),ch,cF,cL⟩,rfl,trivial,⟨E8,I7.weak (MY.sub fun y hy=>qai _ hy),hVeq,hf2,hgn2,by dsimp only;omega⟩,by dsimp only;omega⟩
section
variable {w0 w w':World}{p:Sp}{A A':Dev}{P P':List Nat}{F F':Mut}{J:Jr}{gen:Nat}{root n:Int}{l:List (Byt × Sv)}{o1 o2:Obj}
theorem Gk.page(g:Gk w0 w p A P F J gen root n l o1 o2)(h:PgAt w' p.bp p.ba P')(hx:Ext [p.ba] w w'):Gk w0 w' p A P' F J gen root n l o1 o2/\Grown (Ms F p) (Ms F p) w w':=by
 obtain⟨T,t⟩:=g.T.page h hx;exact⟨g.tree T t,Kb t⟩
theorem Afu(g:Gk w0 w p A P F J gen root n l o1 o2)(hA:A.B.length<=4096):Ret prog 90 #[ptr p.bs] w fun v w'=>v=.bool (decide (Jx A.B.length<(Hm P:Int)))/\w=w':=by
 obtain⟨wI,rfl⟩:=qD w;obtain⟨dn,ds,hhd⟩:=g.T.dev.hd;have hs:=Fo.at g.O (k:=0) rfl;have hPl:=g.T.pg.len;refine A6 (fn:=f90) func90 U [ptr p.bs] U (Ad (An U (qA (Ad (Ac U (qA (Aq (Ad (Am U (A8 U ?_))))))))));refine Af Js U (Be K3 U ((by rw[Ar hs];rfl)) ?_);refine Ai qB (Oi g.T.pg) U ?_;rintro v w ⟨rfl,rfl⟩;refine Ae U (qA (AE (B7 536868920 (α:=Nat) (fun i=>[(11,.int .i64 (i:Int)),(3,.int .i64 ((Hj P i).length:Int))]) (fun i w'=>i<=P.length/\w'=wI) (fun i=>P.length - i) 0 U ?_ ?_ ?_)))
 .exact⟨rfl,rfl,trivial⟩
 .exact⟨qak _,rfl⟩
 .rintro i j w1 ⟨hi,hw⟩;rw[hw]
  have hhl:(Hj P i).length<=i:=by
   have:=qev (Jw P) (List.range i);rw[List.length_range]at this;exact this
  refine Ad (Bn U U (qA (Aq (Au _ U ?_ ?_))))
  .intro h1;replace h1:=AV h1;obtain⟨s,hk⟩:=AO (l:=P) (i:=i);have hs3:=g.T.pg.ok s (qad hk);have hb:Jw P i=(decide (s=1) || decide (s=2)):=by unfold Jw;rw[hk];simp
   have hsu:(Hj P (i+1)).length=(Hj P i).length+if Jw P i=true then 1 else 0:=by
    rw[Tg,qan]
    split <;> rfl
   refine Ap (Aa (Aq (AE (Ad (Ae U (Ac U (qA (Ad (Am U (A8 U ?_))))))))));refine Af Js U (Be K3 U ((by rw[Ar hs];rfl)) ?_);refine Ae U (Ai qB (Ad9 g.T.pg i hk) U ?_);rintro v w ⟨rfl,rfl⟩;refine Ac U (qA (Ad (BE (α:=Unit) 66060288 (fun _=>[(25,.bool (Jw P i))]) (fun _ w'=>w'=wI) U ?_ ?_)))
   .refine Ae U (B6 U U (AA U (AR 22 U ?_ ?_)))
    .intro h1;replace h1:=AV h1;refine Ag U (Ag U (AN U (.bool _) U (Ab ?_)));exact⟨rfl,(),rfl,⟨qab Value.bool (by rw[hb,qar];simp_all;try omega),trivial⟩,rfl⟩
    .intro h2;replace h2:=AW h2;refine Ae U (B6 U U (AK U (.bool _) U (Ab ?_)));exact⟨rfl,(),rfl,⟨qab Value.bool (by rw[hb,qar];simp_all;try omega),trivial⟩,rfl⟩
   rintro - j25 w hw2;rw[hw2];refine Au _ U ?_ ?_
   .intro h2;rw[if_pos h2]at hsu;refine Av (Ae U (A7 U U ?_));refine Ac U (Ab (AF (Aa (Av (A7 U U ?_)))));refine Ae U (qA ?_);exact⟨i+1,rfl,⟨rfl,by rw[hsu];rfl,trivial⟩,⟨by omega,rfl⟩,by omega⟩
   .intro h2;rw[if_neg (by rw[h2];simp)]at hsu;refine Ap (AF (Aa (Av (A7 U U ?_))));refine Ae U (qA ?_);exact⟨i+1,rfl,⟨rfl,by rw[hsu];rfl,trivial⟩,⟨by omega,rfl⟩,by omega⟩
  .intro h1;replace h1:=AW h1;obtain rfl:i=P.length:=by omega
   refine B3 (Ay (Ay (Bb (Aa (Ad (Ae U (Am U (A8 U (Af QH U (Be Dn U ((by rw[Ar hs];rfl)) ?_))))))))));refine Ai qB (He hhd) U ?_;rintro v w ⟨rfl,rfl⟩;refine Ai qB (Acm _ (by omega) _) U ?_;rintro v w ⟨rfl,rfl⟩;refine BZ U U (An U (qA (Ax (AG (v:=(.bool _)) U U U ?_))));exact⟨rfl,rfl⟩
theorem Am8{L:List Pr}(ho:OkP L)(hr:Rising L):∀i,i<L.length->Tm L i:=fun i hi=>by
 obtain⟨q,hq⟩:=AO (l:=L) (i:=i) (h:=hi);have hok:=ho q (qad hq);refine⟨q,hq,by unfold Dh;simp only[qao,qap];omega,fun r h0 hr2=>?_⟩;obtain⟨q1,q2⟩:=qaq.1 hq;obtain⟨q3,q4⟩:=qaq.1 hr2;have:=qb9.1 hr (i - 1) i q3 q1 (by omega);rw[q2,q4]at this;exact this
theorem Aks{M M':Mut}{a:Option Addr}{n c:Nat}{L:List Pr}(h:Prs w M a n c L)(hM:∀x,M' x->M x):Prs w M' a n c L:=by
 obtain⟨ps,R,hs,hl,hm⟩:=h.ex;exact⟨⟨ps,R,hs.imp id fun h5 h6=>h5 (hM _ h6),hl,fun m hm'=>(hm m hm').weak hM⟩,h.num,h.le⟩
theorem Am9{bt bd bp ba:Nat}(T:Tx w bt bd bp ba 362 A P F []){a:Option Addr}{c:Nat}{L:List Pr}(PL:Prs w (TM F ba bt bp []) a L.length c L)(hn:L.length<=100000){mx:Nat}(hfew:Few A mx)(ho:OkP L)(hr:Rising L)(hok:(JZ A P L).1≠99)(hmx:mx<=800000000:=by decide):
  Ret prog 93 #[ptr bt,.slice a L.length c] w fun v w'=>∃F',v=.tuple #[.int .i64 (JZ A P L).2.2,.int .i64 (JZ A P L).1]/\Tx w' bt bd bp ba 362 (JZ A P L).2.1.A (TN A P L) F' []/\Grown (TM F ba bt bp []) (TM F' ba bt bp []) w w':=by
 have hg:=Am8 ho hr;have hbF:L≠[]->YL 362 A P L=JZ A P L:=fun h=>(if_neg h).symm;refine(Aft T PL hn hfew hmx fun _ h=>by rw[hbF h];exact hok).mono fun v w' h=>?_
 rcases h with⟨⟨i,hi,h⟩,-⟩|⟨-,h,hv,hx⟩|⟨-,h,F',hv,T',t'⟩
 .exact absurd (hg i hi) h
 .subst h;exact⟨F,hv,T.call hx,Grown.call hx⟩
 .rw[hbF h]at hv T';refine⟨F',hv,?_,t'⟩;unfold TN;rw[if_neg h];unfold JZ at T' |-;rw[if_neg h]at T' |-;exact T'
theorem Akt{M L:List Pr}{t:List (Byt × Int)}{S:List Nat}{h:Nat}(g:Gk w0 w p A P F J gen root n l o1 o2)(hM:En str (mi t) o2)(hnt:(t.map (·.1)).Nodup)(htk:∀q∈t,1<=q.1.length/\q.1.length<=32)(hkl:KL (EH l) L)(ho:OkP L)(hdiff:∀k,k∉t.map (·.1)->DQ M k=DQ L k)(TT:TreeAt 362 A P root M)(h01:∀s∈P,s=0\/s=1)(hnd:S.Nodup)(hS:∀x:Nat,x∈S↔P[x]?=some 1\/P[x]?=some 2)(hsort:(S.map fun x:Nat=>(x:Int)).Pairwise (·<=·))(hon:A.on=true)(hfew:Few A 0)(hh:(h:Int)=Jx A.B.length)(hroom:S.length+h<=P.length)(hm:FL 1500 (2*B0 L / 503+1)<=h)(hb:2*B0 L / 503+1<=1500)(htn:t.length<=100000:=by omega)(hLn:L.length<=100000:=by omega)(hl:362+P.length<=A.B.length:=by omega)(hA:A.B.length<=4096:=by omega)(hP:P.length<=2000:=by omega):
  Ret prog 53 #[ptr p.bs] w fun v w'=>v=.int .i64 (DZ (BI (EH l)) (CF (mi t)) L h A P root S).1/\∃F' root',Gk w0 w' p (DZ (BI (EH l)) (CF (mi t)) L h A P root S).2.2.1 (DZ (BI (EH l)) (CF (mi t)) L h A P root S).2.2.2 F' J gen root' n l o1 o2/\((DZ (BI (EH l)) (CF (mi t)) L h A P root S).1=0->root'=(DZ (BI (EH l)) (CF (mi t)) L h A P root S).2.1)/\Grown (Ms F p) (Ms F' p) w w':=by
 obtain⟨wI,rfl⟩:=qD w;obtain⟨f,hf⟩:=qD (BI (EH l));obtain⟨ts,hts⟩:=qD (CF (mi t));have hstep:=Akq g hM hnt htn htk TT hon hl hP hfew;rw[<-hf,<-hts]at hstep |-
 have htm:∀k,k∈ts↔k∈t.map (·.1):=fun k=>by
  rw[hts];have h1:=(qce ((mi t).map (·.1)) fun x y=>decide (x<=y)).mem_iff (a:=k);rw[show(mi t).map (·.1)=t.map (·.1)by simp[qcr]]at h1;unfold CF;rw[show(mi t).map (·.1)=t.map (·.1)by simp[qcr]];exact h1
 have htl:ts.length<=100000:=by rw[hts,M6,qaj];exact htn
 obtain⟨s1,s2,s3⟩:=PF (A0:=A) (P0:=P) (f:=f) (fun k v hv=>(ho (k,v) ((ET hkl.rise).1 (by rw[<-hkl.get,<-hf,hv]))).2.2) ts root A P M 0 (fun k hk=>by
  obtain⟨q,hq,rfl⟩:=qah.1 ((htm k).1 hk)
  exact htk q hq) TT hon hl hP hfew (Base9.start h01)
 rw[Vz TT.rise hkl.rise (fun k=>by rw[hf,hkl.get]) (fun k hk=>hdiff k fun h=>hk ((htm k).2 h))]at s3;obtain⟨e1,r1,A1,P1,hst⟩:∃e1 r1 A1 P1,Dp f ts root A P=(e1,r1,A1,P1):=⟨_,_,_,_,rfl⟩;unfold DZ;rw[hst]at hstep s1 s2 s3 |-;dsimp only at hstep s1 s2 s3 |-;have H:=Ctx.start wI [];have hs:=Fo.at g.O (k:=0) rfl;refine A6 (fn:=Tryz.f53) func53 U [ptr p.bs] U (Ad (Ac U (qA (Ad (Am U (A8 U (Af Jt U (Be DW U ((by rw[Ar hs];rfl)) ?_))))))));refine Ac U (qA (Ad (Am U (Ai qB hstep U ?_))));rintro v w1 ⟨rfl,F1,g1,G1⟩;refine Ac U (qA (Aq (Ad (BE (α:=Unit) 134152192 (fun _=>[(26,.bool (decide (e1≠7/\(e1≠0\/Hm P1<=h))))]) (fun _ w'=>w'=w1) U ?_ ?_))))
 .refine Ae U (Ba U U (AA U (AR 18 U ?_ ?_)))
  .intro h1;replace h1:=Bu h1;refine Ae U (Ba U U (AA U (AR 21 U ?_ ?_)))
   .intro h2;replace h2:=Bu h2;refine Ag U (Ag U (Ag U (AN U (.bool _) U (AN U (.bool _) U (Ab ?_)))));exact⟨rfl,(),rfl,⟨qab Value.bool (by rw[qar];have:=s1.blen;simp_all;try omega),trivial⟩,rfl⟩
   .intro h3;replace h3:=Bv h3;refine Am U (Ai qB (Afu g1 (by rw[s1.blen];exact hA)) U ?_);rintro v w ⟨rfl,rfl⟩;refine BX U (AK U (.bool _) U (AN U (.bool _) U (Ab ?_)));exact⟨rfl,(),rfl,⟨qab Value.bool (by rw[qar];have:=s1.blen;simp_all;try omega),trivial⟩,rfl⟩
  .intro h4;replace h4:=Bv h4;refine Ag U (Ag U (Ag U (Ag U (Ag U (Ag U (Ag U (AK U (.bool _) U (Ab ?_))))))));exact⟨rfl,(),rfl,⟨qab Value.bool (by rw[qar];have:=s1.blen;simp_all;try omega),trivial⟩,rfl⟩
 rintro - j26 w hw2;rw[hw2];clear H;refine Au _ U ?_ ?_
 .intro h1;have h1:=qb5 h1;rw[if_pos h1];refine Ad (Ae U (Ac U (qA (Ax (Ao (AG (v:=(.int _ _)) U U U ?_))))));refine⟨rfl,F1,_,g1,fun h2=>if_pos h2,G1⟩
 .intro h1;have h1:=qcx h1;rw[if_neg h1];have hbk:P1.map DE=P:=s1.back;rw[hbk]
  have hon1:A1.on=true:=by
   rcases s3 with⟨-,h2,-⟩|⟨h2,-,-⟩|⟨-,h2⟩
   .exact h2
   .exact absurd ⟨by rw[h2];decide,.inl (by rw[h2];decide)⟩ h1
   .exact h2
  have hs1:=Fo.at g1.O (k:=0) rfl;have TM1:=s1.old TT;obtain⟨S',td,hnd',hS'⟩:=TM1.told hon1 (by rw[s1.blen];exact hl) hP;have hperm:S'.Perm S:=(qd2 hnd' hnd).2 fun x=>(hS' x).trans (hS x).symm
  have hwk:Lt A1 362 P.length root=(0,S.map fun x:Nat=>(x:Int)):=by
   rw[td.walk]
   have h2:(Jd (S'.map fun x:Nat=>(x:Int))).Pairwise (·<=·):=by
    have:=qfc (le:=fun x y:Int=>decide (x<=y)) (fun a b c h1 h2=>by simp only[qap]at *;omega) (fun a b=>by simp only[qcf,qap];omega) (S'.map fun x:Nat=>(x:Int));exact this.imp fun h=>by simpa using h
   rw[qfi (le:=fun x y:Int=>x<=y) (fun a b _ _ h1 h2=>by omega) h2 hsort ((qce _ _).trans (hperm.map _))]
  have hnn:=td.num;have hr1:=td.rlo;have hr2:=td.rhi
  have hSl:S'.length<=2000:=by
   have h5:=hperm.length_eq;omega
  have hs4:Few A1 4000000:=s2.mono (by omega);have hspec:=Q2 (A:=A1) (P:=P) (L:=L) (mx:=4000000) hon1 (by rw[s1.blen];exact hl) hP hs4 h01 hkl.rise ho hnd hS hroom hm hb
  have h99:(JZ A1 P L).1≠99:=by rcases hspec.2.2 with h|h <;> (have:=h.1;omega)
  have hwalk:=fun(z:World) (Tz:Tx z p.bt p.bd p.bp p.ba 362 A1 P F1 [])=>XQ Tz root hs4 (by decide);simp only[hwk]at hwalk;refine Ap (Aa (Ad (Am U (A8 U (Af Js U (Be K3 U ((by rw[Ar hs1];rfl)) ?_))))));refine Ai qB (Aje g1.T.pg) U ?_;rw[hbk];rintro v w2 ⟨rfl,P2,hx2⟩;obtain⟨g2,G2⟩:=g1.page P2 hx2;refine qA (Ad (Am U (A8 U (Af Kq U (Be JK U ((by rw[Ar (Fo.at g2.O (k:=0) rfl)];rfl)) ?_)))));refine Ae U (Ai qB (hwalk _ g2.T) U ?_);rintro v w3 ⟨a39,c39,rfl,R39,hn39,hc39,hx39⟩;have g3:=g2.call hx39;have lt2:=g2.mlt;refine AQ U (Ah U U (Ah U U (Ak U (Ac U (qA (Aq (Ad (Ae U (Ba U U ?_)))))))));refine qA (Au _ U ?_ ?_)
  .intro h2;replace h2:=Bu h2;exact absurd U h2
  .intro h2;replace h2:=Bv h2
   have X39:∀{z:World} {F2:Mut},Grown (Ms F1 p) (Ms F2 p) w3 z->Rd z a39 1 (fun x:Int=>[.int .i64 x]) (S.map fun x:Nat=>(x:Int)):=fun{z F2} hz=>by
    rcases hn39 with h|h
    .rw[h];exact Rd.nil
    .exact(Rd.turnM R39 (.inr fun h5=>by have:=lt2 _ h5;omega) (by decide) (fun _ _=>rfl) hz).1
   have hsc:Q1 l [] []=L:=by rw[Y9,hkl.scan,P9]
   have hscan:=Y7 (Fo.at g3.O (k:=0) rfl) (Fo.at g3.O (k:=1) rfl) g3.K (by rw[show(mv l).map (·.1)=(EH l).map (·.1)by simp[EH,qcr]];exact hkl.nd) (by have:=hkl.len;rw[show(EH l).length=l.length from qaj ..]at this;omega) none none 0 0 [] [] Rd.nil Rd.nil;rw[hsc]at hscan;have lt3:=g3.mlt;refine Ap (Aa (Ad (Am U (Ai qB hscan U ?_))));rintro v w4 ⟨a47,c47,rfl,P47,hx47⟩;have g4:=g3.call hx47;refine AQ U (Ah U U (Ah U U (Ak U (Ac U (qA (Aq (Ad (Am U (Am U ?_)))))))));refine A8 U (Af Kq U (Be JK U ((by rw[Ar (Fo.at g4.O (k:=0) rfl)];rfl)) ?_));refine Aj U (Ai qB (Am9 g4.T (Aks P47 fun x hx=>lt3 x (V5 x hx)) hLn hs4 ho hkl.rise h99) U ?_);rintro v w5 ⟨F5,rfl,T5,t5⟩;have g5:=g4.tree T5 t5;have G5:Grown (Ms F1 p) (Ms F5 p) w3 w5:=Grown.trans (Grown.call hx47) (Kb t5)
   have H:=Ctx.start1 (Fo.at g5.O (k:=0) rfl);refine AQ U (Ah U U (Ah U U (A8 U (Af Jt U (Bf (.int _ _) Hv U U U H at0 (by(simp;done)) ?_)))));rintro w H;refine Ac U (qA (Ad (Ae U (Ba U U (qA (Au _ U ?_ ?_))))))
   .intro h3;replace h3:=Bu h3;rw[if_pos h3];have g6:=g5.set H;refine Ad (Ae U (Ac U (qA (Ax (Ao (AG (v:=(.int _ _)) U U U ?_))))));exact⟨rfl,F5,_,g6,fun h=>absurd h h3,Grown.trans G1 (Grown.trans G2 (Grown.trans (Grown.call hx39) (Grown.trans G5 (PH H))))⟩
   .intro h3;replace h3:=Bv h3;rw[if_neg (by rw[h3];simp)];have g6:=g5.set H;have G6:=Grown.trans G5 (PH (F:=F5) H);have hpl:(TN A1 P L).length=P.length:=hspec.1.len;obtain⟨w6,hw6⟩:=qD w;rw[<-hw6]at g6 G6 H |-;clear H;refine Ap (Aa (Aq (Ad (Aj U (AP FB U (Ae U (qA (AE (B7 302083880951067617264128 (α:=Nat) (fun i=>[(67,.int .i64 (i:Int))]) (fun i w'=>i<=S.length/\Gk w0 w' p (JZ A1 P L).2.1.A ((S.take i).foldl EE (TN A1 P L)) F5 J gen (JZ A1 P L).2.2 n l o1 o2/\Grown (Ms F1 p) (Ms F5 p) w3 w') (fun i=>S.length - i) 0 U ?_ ?_ ?_)))))))))
    .exact⟨rfl,trivial⟩
    .exact⟨qak _,g6,G6⟩
    .rintro i j w7 ⟨hi,g7,G7⟩;have H:=Ctx.start w7 [];refine Ad (Bn U U (qA (Aq (Au _ U ?_ ?_))))
     .intro h4;replace h4:=AV h4;obtain⟨k,hk⟩:=AO (l:=S) (i:=i) (h:=by simpa using h4);have hkI:(S.map fun x:Nat=>(x:Int))[i]?=some (k:Int):=by rw[qat,hk];rfl
      have hkl2:k<P.length:=by
       rcases(hS k).1 (qad hk)with h|h <;> exact(qaq.1 h).1
      refine Ap (Aa (Aq (AE (Ad (AY (X39 G7) FB Hv U U (hn:=by rfl) ?_)))));refine Be DW U (((X39 G7).one (f:=fun x:Int => .int .i64 x) hkI)) ?_;refine Ac U (qA (Av (Am U (A8 U (Af Js U (Be K3 U ((by rw[Ar (H.ext.to (Fo.at g7.O (k:=0) rfl) (by simp))];rfl)) ?_))))));refine Ae U (Ai qB (XD (g7.call H.ext).T.pg k (by rw[P3,hpl];exact hkl2)) U ?_);rintro v w8 ⟨⟨e8,rfl⟩,P8,hx8⟩;obtain⟨g8,G8⟩:=(g7.call H.ext).page P8 hx8;have G9:=Grown.trans G7 (Grown.trans (Grown.call H.ext) G8);clear H;refine Ab (AF (Aa (Av (A7 U U ?_))));refine Ae U (qA ?_);exact⟨i+1,rfl,⟨rfl,trivial⟩,⟨by have:=(qaq.1 hk).1;omega,by rw[Bp hk,qdp];exact g8,G9⟩,by have:=(qaq.1 hk).1;omega⟩
     .intro h4;replace h4:=AW h4;have hiS:i=S.length:=by simp at h4;omega
      subst hiS;rw[qbe]at g7;refine B3 (Ay (Ay (Bb (Aa (Ad (Ac U (qA (Ax (AG (v:=(.int _ _)) U U U ?_)))))))));exact⟨rfl,F5,_,g7,fun _=>rfl,Grown.trans G1 (Grown.trans G2 (Grown.trans (Grown.call hx39) G7))⟩
end
section
variable {P:Program}{ops rest:List Oper}{e:Env}{dst:Option Tmp}{ty:TypeId}{pos:String}{af:Array Edge}{g:Option (Nat × Bool)}{C:World->Prop}{K:Env->Prop}
theorem Jz{fn:Fn}{x:Operand}(v:Value)(hg:AJ ⟨dst,.makeFunc fn #[x] #[],ty,pos,af,g⟩ ops e=true)(hx:ev e x=v)(h:Wt P ops C K rest (put e dst (.func fn #[v] #[]))) :
  Wt P ops C K (⟨dst,.makeFunc fn #[x] #[],ty,pos,af,g⟩::rest) e :=
 EJ hg (fun w _=>by simp[execOp,hx,Instr.makeFunc]) h
theorem Q5{fn:Fn}{cap:Array Operand}(l:List Value)(hg:AJ ⟨dst,.makeFunc fn #[] cap,ty,pos,af,g⟩ ops e=true)(hl:cap.toList.map (ev e)=l)(h:Wt P ops C K rest (put e dst (.func fn #[] l.toArray))) :
  Wt P ops C K (⟨dst,.makeFunc fn #[] cap,ty,pos,af,g⟩::rest) e:=by
 have h1:cap.map (ev e)=l.toArray:=by subst hl;apply qcd;simp only[qcz]
 exact EJ hg (fun w _=>by simp[execOp,h1,Instr.makeFunc]) h
end
section
variable {w0 w w':World}{p:Sp}{A A':Dev}{P P':List Nat}{F F':Mut}{J J':Jr}{gen gen':Nat}{root root' n:Int}{l:List (Byt × Sv)}{o1 o2 o2':Obj}
theorem Gk.own(g:Gk w0 w p A P F J gen root n l o1 o2):Own w0 w p.bd A F:=⟨g.x0,g.T.dev,fun x h=>⟨g.ge x (.inl (.inl h)),g.T.lt x h⟩⟩
theorem Gk.devs(g:Gk w0 w p A P F J gen root n l o1 o2)(O:Own w0 w' p.bd A' F')(t:Grown F F' w w'):Gk w0 w' p A' P F' J gen root n l o1 o2/\Grown (Ms F p) (Ms F' p) w w':=by
 obtain⟨T,t2⟩:=g.T.devs (F':=F') O.dev t.1 fun x hx=>(t.2 x hx).imp id fun h=>⟨h,(O.own x hx).2⟩;exact⟨g.tree T t2,Kb t2⟩
theorem Gk.turns{T:List Nat}(g:Gk w0 w p A P F J gen root n l o1 o2)(hx:Ext T w w')(hT:∀y∈T,y=p.bs\/y=p.m2\/y=p.bj)(hs:w'.heap[p.bs]?=some (Bl CU (CN (ptr p.bd) (ptr p.bj) (ptr p.bp) (ptr p.bt) gen' root' p.m1 p.m2 n false)))(h2:w'.heap[p.m2]?=some o2')(hj:w'.heap[p.bj]?=some (Bl TJ (JB p.bd J'))) :
  Gk w0 w' p A P F J' gen' root' n l o1 o2'/\Grown (Ms F p) (Ms F p) w w':=by
 have hb:∀y∈T,Ms F p y:=fun y hy=>by
  rcases hT y hy with rfl|rfl|rfl
  .exact .inr (by simp[Sp.own])
  .exact .inr (by simp[Sp.own])
  .exact .inl (.inr U)
 have hoff:∀y∈T,¬TM F p.ba p.bt p.bp [] y:=fun y hy=>by
  rcases hT y hy with rfl|rfl|rfl
  .exact g.O.off _ (qad (i:=0) U)
  .exact g.O.off _ (qad (i:=2) U)
  .exact g.O.off _ (qad (i:=3) U)
 have hTx:Tx w' p.bt p.bd p.bp p.ba 362 A P F [] :=
  ⟨hx.to g.T.tr fun h=>hoff _ h (.inr (.inr (.inl rfl))),g.T.pg.keep hx (fun h=>hoff _ h (.inr (.inr (.inr (.inl rfl))))) (fun h=>hoff _ h (.inr (.inl rfl))),g.T.dev.keep hx (fun y hy h=>hoff y hy (.inl h)),(fun x hx=>by cases hx),List.Pairwise.nil,(fun x hx=>by cases hx),g.T.nbt,g.T.nbp,g.T.nba,fun x hx2=>qas (g.T.lt x hx2) hx.size⟩
 have h1:p.m1∉T:=fun h=>by
  rcases hT _ h with h|h|h
  .exact absurd h (Dd g.O 1 0 U U)
  .exact absurd h (Dd g.O 1 2 U U)
  .exact absurd h (Dd g.O 1 3 U U)
 refine⟨⟨hTx,MB g.O hx U fun y hy=>?_,⟨g.K.m,fun q hq=>⟨⟨Rdx.read (g.K.ok q hq).1 hx (fun y hy => .inl (hb y hy)),(g.K.ok q hq).1.2⟩,(g.K.ok q hq).2⟩,g.K.few⟩,g.x0.then hx fun y hy => .inr (g.ge y (hb y hy)),g.ge⟩,Turn.of hx hb,fun _ h => .inl h⟩;simp only[qac,qam,or_false]at hy
 rcases hy with rfl|rfl|rfl|rfl
 .exact .inl hs
 .exact .inr ⟨qad (i:=1) rfl,h1⟩
 .exact .inl h2
 .exact .inl hj
abbrev ckB(b39 b1 b4 b5 bs q:Nat)(z:Int)(fv:List Value):List (Nat × Obj):=[(b39,Bl 46 fv),(b5,Bl 74 [.int .u64 (q:Int)]),(b4,Bl 3 [.int .i64 z]),(b1,Bl 31 [ptr bs])]
theorem Afv{b39 b1 b4 b5 q pp mx:Nat}{fv:List Value}(g:Gk w0 w p A P F J gen root n l o1 o2)(Y:Fo w (Ms F p) (ckB b39 b1 b4 b5 p.bs q pp fv))(hr : -1<=root/\root<=4294967294)(hp:pp<4294967296)(hq:q<18446744073709551616)(hg:gen+1<18446744073709551616)(hfew:Few A mx)(hmx:mx<1000000000000:=by omega):
  Ret prog 55 #[ptr b1,ptr b4,ptr b5] w fun v w'=>v=.int .i64 (GN A (gen+1) (tpB root pp q))/\∃F',Gk w0 w' p (EG A (gen+1) (tpB root pp q)) P F' J gen root n l o1 o2/\Grown (Ms F p) (Ms F' p) w w':=by
 obtain⟨wI,rfl,H⟩:=qE w;have h1:=Fo.at Y (k:=3) rfl;have h4:=Fo.at Y (k:=2) rfl;have h5:=Fo.at Y (k:=1) rfl;have hs:=Fo.at g.O (k:=0) rfl;refine A6 (fn:=f55) func55 U [ptr b1,ptr b4,ptr b5] U ?_;refine Ad (Ac U (qA (BR [([0,1,2,3,4,5,6,7,8,9,10,11,12,13,14,15],16),([],17),([],18)] (fun z=>(z.heap[b1]?=some (Bl 31 [ptr p.bs])/\z.heap[b4]?=some (Bl 3 [.int .i64 (pp:Int)])/\z.heap[b5]?=some (Bl 74 [.int .u64 (q:Int)])/\z.heap[p.bs]?=some (Bl CU (CN (ptr p.bd) (ptr p.bj) (ptr p.bp) (ptr p.bt) gen root p.m1 p.m2 n false)))) [] mixed (⟨H.drew.ext.to h1 (by simp),H.drew.ext.to h4 (by simp),H.drew.ext.to h5 (by simp),H.drew.ext.to hs (by simp)⟩) ?_)));refine AC U U (BG Fc U (fun _ hx=>(by rw[Ar hx.1];rfl)) ?_);refine Bg U (AD QH U (BG Dn U (fun _ hx=>(by rw[Ar hx.2.2.2];rfl)) ?_))
 refine BG Fc U (fun _ hx=>(by rw[Ar hx.1];rfl)) ?_;refine Bg U (AD QI U (BG GC U (fun _ hx=>(by rw[Ar hx.2.2.2];rfl)) ?_));refine Uy U U U ?_;rw[show((gen:Int)+1)=((gen+1:Nat):Int)by omega];refine BG Fc U (fun _ hx=>(by rw[Ar hx.1];rfl)) ?_;refine Bg U (AD Jt U (BG DW U (fun _ hx=>(by rw[Ar hx.2.2.2];rfl)) ?_));refine BG DW U (fun _ hx=>(by rw[Ar hx.2.1];rfl)) ?_;refine BG GC U (fun _ hx=>(by rw[Ar hx.2.2.1];rfl)) ?_;refine ED (tpC root pp q) Ah5 Su (AU ?_);replace H:=H.drew;refine Ai qB (Aco root pp q _ hr hp hq) U ?_;rintro v w F10;obtain⟨a10,c10,rfl,R10,hc10,h10⟩:=Fresh.newB F10;replace H:=H.call F10.ext;refine Ab (Bc ((by exact⟨H.ext.to h1 (by simp),H.ext.to h4 (by simp),H.ext.to h5 (by simp),H.ext.to hs (by simp)⟩)) ?_);refine AC U U ?_
 refine AU (Ai qB (Yh (g.call H.ext).own (gen+1) hg a10 c10 _ (tpB root pp q) R10 U (by rw[Eg];decide) hfew hmx) U ?_);rintro v w ⟨rfl,F',O',G'⟩;obtain⟨g2,G2⟩:=(g.call H.ext).devs O' G';have Y2:=(Y.call (Grown.trans (Grown.call H.ext) G2)).1;refine Ab (Bc ((by exact⟨Fo.at Y2 (k:=3) rfl,Fo.at Y2 (k:=2) rfl,Fo.at Y2 (k:=1) rfl,Fo.at g2.O (k:=0) rfl⟩)) ?_);refine AC U U (AU (Ac U (Ab (Bc ((by exact⟨Fo.at Y2 (k:=3) rfl,Fo.at Y2 (k:=2) rfl,Fo.at Y2 (k:=1) rfl,Fo.at g2.O (k:=0) rfl⟩)) ?_))));refine B1 (Ax (AG (v:=(.int _ _)) U U U ?_));exact⟨rfl,F',g2,Grown.trans (Grown.call H.ext) G2⟩
theorem Afw{b39 b1 b4 b5 q pp:Nat}{fv:List Value}{t:List (Byt × Int)}(g:Gk w0 w p A P F J gen root n l o1 o2)(hM:En str (mi t) o2)(Y:Fo w (Ms F p) (ckB b39 b1 b4 b5 p.bs q pp fv))(hg:gen+1<18446744073709551616) :
  Ret prog 58 #[ptr b1] w fun v w'=>v=.int .i64 0/\∃o2',Gk w0 w' p A P F J (gen+1) root n l o1 o2'/\En str ([]:List (Byt × Value)) o2'/\Grown (Ms F p) (Ms F p) w w':=by
 obtain⟨wI,rfl⟩:=qD w;have h1:=Fo.at Y (k:=3) rfl;have hs:=Fo.at g.O (k:=0) rfl;have h2:=Fo.at g.O (k:=2) rfl;have hne:=Dd g.O 0 2 rfl rfl;have hbj:=CV g.O (k:=3) rfl [0,2] rfl
 have hb1:b1∉[p.bs,p.m2]:=by
  have h3:=Y.off (b1,Bl 31 [ptr p.bs]) (by simp);intro h;simp only[qac,qam,or_false]at h
  rcases h with rfl|rfl
  .exact h3 (.inr (by simp[Sp.own]))
  .exact h3 (.inr (by simp[Sp.own]))
 have H:=Ctx.startL (w:=wI) (L:=[(p.bs,Bl CU (CN (ptr p.bd) (ptr p.bj) (ptr p.bp) (ptr p.bt) gen root p.m1 p.m2 n false)),(p.m2,o2)]) (fun y hy=>by
  simp only[qac,qam,or_false]at hy
  rcases hy with rfl|rfl
  .exact hs
  .exact h2) (by simpa using hne)
 refine A6 (fn:=f58) func58 U [ptr b1] U (Ad (Ac U (qA (Ad (Be Fc U ((by rw[Ar (H.ext.to h1 hb1)];rfl)) ?_)))));refine A8 U (Af QI U (AH GC U H at0 U (Kh U U U ?_)));rw[show((gen:Int)+1)=((gen+1:Nat):Int)by omega];refine A8 U (Af QI U (Bf (.int _ _) Xq U U U H at0 (by(simp;done)) ?_));rintro w H;refine qA (Ad (Be Fc U ((by rw[Ar (H.ext.to h1 hb1)];rfl)) ?_));refine A8 U (Af QJ U (AH Abo U H at0 U (U5 (V:=str) (κ:=Byt) U Sn U H at1 hM ?_)));rintro o2' w hM2 H2;refine qA (Ad (Ac U (qA (Ax (AG (v:=(.int _ _)) U U U ?_)))))
 obtain⟨g2,G2⟩:=g.turns (J':=J) (gen':=gen+1) (root':=root) (o2':=o2') H2.ext (fun y hy=>by
  simp only[qay,qbn,qac,qam,or_false]at hy
  rcases hy with h|h
  .exact .inl h
  .exact .inr (.inl h)) (H2.get at0) (H2.get at1) (H2.ext.to (Fo.at g.O (k:=3) U) hbj)
 exact⟨rfl,o2',g2,hM2,G2⟩
end
section
variable {w0 wb w w':World}{p:Sp}{A A':Dev}{P P':List Nat}{F F':Mut}{J J':Jr}{gen gen':Nat}{root root' n:Int}{l:List (Byt × Sv)}{o1 o2 o2':Obj}{b39 b1 b4 b5 q pp:Nat}{G:Int × Int × Dev × List Nat}{t:List (Byt × Int)}
abbrev ckF(b1 b4 b5:Nat)(p:Sp):List Value:=[.func (.func 53) #[ptr p.bs] #[],.func (.func 54) #[ptr p.bd] #[],.func (.func 55) #[] #[ptr b1,ptr b4,ptr b5],.func (.func 56) #[ptr p.bp] #[],.func (.func 57) #[ptr p.bj] #[],.func (.func 58) #[] #[ptr b1]]
abbrev OK(G:Int × Int × Dev × List Nat):Dev:=Cp G.2.2.1
abbrev TP(G:Int × Int × Dev × List Nat)(pp q:Nat):Byt:=tpB G.2.1 pp q
abbrev YM(G:Int × Int × Dev × List Nat)(gen pp q:Nat):Dev:=EG (OK G) (gen+1) (TP G pp q)
def Gok(G:Int × Int × Dev × List Nat):Prop:=G.1=0 /\ -1<=G.2.2.1.left
def Aku(G:Int × Int × Dev × List Nat)(gen pp q:Nat)(e:Int)(A':Dev):Prop :=
 (G.1=e/\A'=G.2.2.1)\/(Gok G/\Du G.2.2.1=e/\A'=OK G)\/(Gok G/\Du G.2.2.1=0/\GN (OK G) (gen+1) (TP G pp q)=e/\A'=YM G gen pp q)
structure Cs9(w0 wb w:World)(p:Sp)(F:Mut)(b39 b1 b4 b5 q pp:Nat)(A:Dev)(P:List Nat)(F':Mut)(J:Jr)(gen:Nat)(root n:Int)(l:List (Byt × Sv))(o1 o2:Obj):Prop where
 g:Gk w0 w p A P F' J gen root n l o1 o2
 Y:Fo w (Ms F' p) (ckB b39 b1 b4 b5 p.bs q pp (ckF b1 b4 b5 p))
 G:Grown (Ms F p) (Ms F' p) wb w
def ckI(w0 wb:World)(p:Sp)(F:Mut)(b39 b1 b4 b5 q pp:Nat)(A:Dev)(P:List Nat)(G:Int × Int × Dev × List Nat)(J:Jr)(gen:Nat)(root n:Int)(l:List (Byt × Sv))(o1 o2:Obj):Nat->World->Prop
 |0,w'=>∃F',Cs9 w0 wb w' p F b39 b1 b4 b5 q pp A P F' J gen root n l o1 o2
 |1,w'=>Gok G/\∃F',Cs9 w0 wb w' p F b39 b1 b4 b5 q pp G.2.2.1 G.2.2.2 F' J gen G.2.1 n l o1 o2
 |2,w'=>(Gok G/\Du G.2.2.1=0)/\∃F',Cs9 w0 wb w' p F b39 b1 b4 b5 q pp (OK G) G.2.2.2 F' J gen G.2.1 n l o1 o2
 |3,w'=>(Gok G/\Du G.2.2.1=0/\GN (OK G) (gen+1) (TP G pp q)=0)/\∃F',Cs9 w0 wb w' p F b39 b1 b4 b5 q pp (YM G gen pp q) G.2.2.2 F' J gen G.2.1 n l o1 o2
 |4,w'=>(Gok G/\Du G.2.2.1=0/\GN (OK G) (gen+1) (TP G pp q)=0)/\∃F',Cs9 w0 wb w' p F b39 b1 b4 b5 q pp (YM G gen pp q) (G.2.2.2.map BM) F' J gen G.2.1 n l o1 o2
 |5,w'=>(Gok G/\Du G.2.2.1=0/\GN (OK G) (gen+1) (TP G pp q)=0)/\∃F',Cs9 w0 wb w' p F b39 b1 b4 b5 q pp (YM G gen pp q) (G.2.2.2.map BM) F' { J with taken:=0 } gen G.2.1 n l o1 o2
 |_,w'=>(Gok G/\Du G.2.2.1=0/\GN (OK G) (gen+1) (TP G pp q)=0)/\∃F' o2',Cs9 w0 wb w' p F b39 b1 b4 b5 q pp (YM G gen pp q) (G.2.2.2.map BM) F' { J with taken:=0 } (gen+1) G.2.1 n l o1 o2'/\En str (mi []) o2'
theorem Cs9.at(h:Cs9 w0 wb w p F b39 b1 b4 b5 q pp A P F' J gen root n l o1 o2):w.heap[b39]?=some (Bl 46 (ckF b1 b4 b5 p)):=Fo.at h.Y (k:=0) rfl
theorem Aqg{i:Nat}(h:ckI w0 wb p F b39 b1 b4 b5 q pp A P G J gen root n l o1 o2 i w):w.heap[b39]?=some (Bl 46 (ckF b1 b4 b5 p)):=by
 match i,h with
 |0,⟨_,h⟩=>exact h.at
 |1,⟨_,_,h⟩=>exact h.at
 |2,⟨_,_,h⟩=>exact h.at
 |3,⟨_,_,h⟩=>exact h.at
 |4,⟨_,_,h⟩=>exact h.at
 |5,⟨_,_,h⟩=>exact h.at
 |_+6,⟨_,_,_,h,_⟩=>exact h.at
theorem Cs9.next{F2:Mut}{A2:Dev}{P2:List Nat}{J2:Jr}{gen2:Nat}{root2:Int}{o22:Obj}(h:Cs9 w0 wb w p F b39 b1 b4 b5 q pp A P F' J gen root n l o1 o2)(g:Gk w0 w' p A2 P2 F2 J2 gen2 root2 n l o1 o22)(t:Grown (Ms F' p) (Ms F2 p) w w'):Cs9 w0 wb w' p F b39 b1 b4 b5 q pp A2 P2 F2 J2 gen2 root2 n l o1 o22 :=
 ⟨g,(h.Y.call t).1,h.G.trans t⟩
def ckE(w0 wb:World)(p:Sp)(F:Mut)(b39 b1 b4 b5 q pp:Nat)(G:Int × Int × Dev × List Nat)(J:Jr)(gen:Nat)(n:Int)(l:List (Byt × Sv))(o1 o2:Obj)(e:Int)(w':World):Prop :=
 ∃A' P' F' root',Cs9 w0 wb w' p F b39 b1 b4 b5 q pp A' P' F' J gen root' n l o1 o2/\Aku G gen pp q e A'
theorem ckAll{mx:Nat}(h0:ckI w0 wb p F b39 b1 b4 b5 q pp A P G J gen root n l o1 o2 0 wb)(hM:En str (mi t) o2)(hJ:J.dead=false)(hgrow:∀(z:World) (F1:Mut),Gk w0 z p A P F1 J gen root n l o1 o2->Ret prog 53 #[ptr p.bs] z fun v w'=>v=.int .i64 G.1/\∃F' root',Gk w0 w' p G.2.2.1 G.2.2.2 F' J gen root' n l o1 o2/\(G.1=0->root'=G.2.1)/\Grown (Ms F1 p) (Ms F' p) z w')(hfew:Few G.2.2.1 mx)(hmx:mx<=1000000000)(hr:G.1=0 -> -1<=G.2.1/\G.2.1<=4294967294)(hp:pp<4294967296)(hq:q<18446744073709551616)(hg:gen+1<18446744073709551616) :
  Ret prog 37 #[.slice (some ⟨b39,0,none⟩) 6 6] wb fun v w'=>∃e,v=.int .i64 e/\((e=0/\ckI w0 wb p F b39 b1 b4 b5 q pp A P G J gen root n l o1 o2 6 w')\/(e≠0/\ckE w0 wb p F b39 b1 b4 b5 q pp G J gen n l o1 o2 e w')):=by
 refine Wx (E:=ckE w0 wb p F b39 b1 b4 b5 q pp G J gen n l o1 o2) (ckF b1 b4 b5 p) wb (by simp) (I:=ckI w0 wb p F b39 b1 b4 b5 q pp A P G J gen root n l o1 o2) h0 (fun i w' h=>Aqg h) (fun v hv=>?_) (fun i f fi caps w' hi h=>?_)
 .simp only[qac,qam,or_false]at hv
  rcases hv with rfl|rfl|rfl|rfl|rfl|rfl <;> exact⟨_,_,_,rfl⟩
 .match i,hi,h with
  |0,hi,⟨F1,h⟩ =>
   cases hi;refine⟨by kernel_rfl,(hgrow w' F1 h.g).mono fun v w'' ⟨hv,F2,r2,g2,hr2,G2⟩=>⟨G.1,hv,?_⟩⟩
   by_cases he:G.1=0
   .exact .inl ⟨he,⟨he,g2.T.dev.wf.left⟩,F2,by have:=h.next g2 G2;rw[hr2 he]at this;exact this⟩
   .exact .inr ⟨he,_,_,F2,r2,h.next g2 G2,.inl ⟨rfl,rfl⟩⟩
  |1,hi,⟨he0,F1,h⟩ =>
   cases hi;refine⟨by kernel_rfl,(Mo hfew h.g.T.dev).mono fun v w'' ⟨hv,hD,hT⟩=>⟨Du G.2.2.1,hv,?_⟩⟩;obtain⟨g2,G2⟩:=h.g.devs (h.g.own.same hD hT).1 (h.g.own.same hD hT).2
   by_cases he:Du G.2.2.1=0
   .exact .inl ⟨he,⟨he0,he⟩,F1,h.next g2 G2⟩
   .exact .inr ⟨he,_,_,F1,_,h.next g2 G2,.inr (.inl ⟨he0,rfl,rfl⟩)⟩
  |2,hi,⟨⟨he0,he1⟩,F1,h⟩ =>
   cases hi;refine⟨by kernel_rfl,(Afv h.g h.Y (hr he0.1) hp hq hg (I0 hfew)).mono fun v w'' ⟨hv,F2,g2,G2⟩=>⟨_,hv,?_⟩⟩
   by_cases he:GN (OK G) (gen+1) (TP G pp q)=0
   .exact .inl ⟨he,⟨he0,he1,he⟩,F2,h.next g2 G2⟩
   .exact .inr ⟨he,_,_,F2,_,h.next g2 G2,.inr (.inr ⟨he0,he1,rfl,rfl⟩)⟩
  |3,hi,⟨he,F1,h⟩ =>
   cases hi;refine⟨by kernel_rfl,(ZR h.g.T.pg).mono fun v w'' ⟨hv,hP,hx⟩=>⟨0,hv,.inl ⟨rfl,he,F1,?_⟩⟩⟩;obtain⟨g2,G2⟩:=h.g.page hP hx
   exact h.next g2 G2
  |4,hi,⟨he,F1,h⟩ =>
   cases hi;refine⟨by kernel_rfl,(Aal (Fo.at h.g.O (k:=3) rfl)).mono fun v w'' ⟨hv,hb,hx⟩=>⟨0,by rw[hv,hJ];rfl,.inl ⟨rfl,he,F1,?_⟩⟩⟩;rw[if_neg (by rw[hJ];decide)]at hb;have hn0:p.bs∉[p.bj]:=CV h.g.O (k:=0) rfl [3] rfl;have hn2:p.m2∉[p.bj]:=CV h.g.O (k:=2) rfl [3] rfl;obtain⟨g2,G2⟩:=h.g.turns (J':={ J with taken:=0 }) (gen':=gen) (root':=G.2.1) (o2':=o2) hx (fun y hy => .inr (.inr (qaa.1 hy))) (hx.to (Fo.at h.g.O (k:=0) rfl) hn0) (hx.to (Fo.at h.g.O (k:=2) rfl) hn2) hb
   exact h.next g2 G2
  |5,hi,⟨he,F1,h⟩ =>
   cases hi;refine⟨by kernel_rfl,(Afw h.g hM h.Y hg).mono fun v w'' ⟨hv,o2',g2,hM2,G2⟩=>⟨0,hv,.inl ⟨rfl,he,F1,o2',h.next g2 G2,hM2⟩⟩⟩
theorem ckEnd{e:Int}(h:(e=0/\ckI w0 wb p F b39 b1 b4 b5 q pp A P G J gen root n l o1 o2 6 w)\/(e≠0/\ckE w0 wb p F b39 b1 b4 b5 q pp G J gen n l o1 o2 e w)):∃A' P' F' J' gen' root' o2',Cs9 w0 wb w p F b39 b1 b4 b5 q pp A' P' F' J' gen' root' n l o1 o2':=by
 rcases h with⟨-,-,F',o2',h,-⟩|⟨-,A',P',F',root',h,-⟩
 .exact⟨_,_,_,_,_,_,_,h⟩
 .exact⟨_,_,_,_,_,_,_,h⟩
def CkRes(w0 w:World)(p:Sp)(F:Mut)(q pp:Nat)(G:Int × Int × Dev × List Nat)(J:Jr)(gen:Nat)(n:Int)(l:List (Byt × Sv))(o1:Obj)(v:Value)(w':World):Prop :=
 (v=.int .i64 0/\(Gok G/\Du G.2.2.1=0/\GN (OK G) (gen+1) (TP G pp q)=0)/\∃F' o2',Gk w0 w' p (YM G gen pp q) (G.2.2.2.map BM) F' { J with taken:=0 } (gen+1) G.2.1 n l o1 o2'/\En str (mi []) o2'/\Grown (Ms F p) (Ms F' p) w w') \/
 (∃e A' F' root',v=.int .i64 e/\e≠0/\Aku G gen pp q e A'/\Own w0 w' p.bd A' F'/\¬F' p.bs/\w'.heap[p.bs]?=some (Bl CU (CN (ptr p.bd) (ptr p.bj) (ptr p.bp) (ptr p.bt) gen root' p.m1 p.m2 n true))/\Grown (Ms F p) (Ms F' p) w w')
theorem Afx{mx:Nat}(g:Gk w0 w p A P F J gen root n l o1 o2)(hM:En str (mi t) o2)(hJ:J.dead=false)(hgrow:∀(z:World) (F1:Mut),Gk w0 z p A P F1 J gen root n l o1 o2->Ret prog 53 #[ptr p.bs] z fun v w'=>v=.int .i64 G.1/\∃F' root',Gk w0 w' p G.2.2.1 G.2.2.2 F' J gen root' n l o1 o2/\(G.1=0->root'=G.2.1)/\Grown (Ms F1 p) (Ms F' p) z w')(hfew:Few G.2.2.1 mx)(hr:G.1=0 -> -1<=G.2.1/\G.2.1<=4294967294)(hp:J.at'<4294967296)(hq:J.seq<18446744073709551616)(hmx:mx<=1000000000:=by decide)(hg:gen+1<18446744073709551616:=by omega):
  Ret prog 16 #[ptr p.bs] w (CkRes w0 w p F J.seq J.at' G J gen n l o1):=by
 obtain⟨wI,rfl,H⟩:=qE w;have hs:=Fo.at g.O (k:=0) rfl;have hj:=Fo.at g.O (k:=3) rfl;have lt:=g.mlt;refine A6 (fn:=f16) func16 U [ptr p.bs] U (Ad (Cn _ (.pointer _) U U H ?_));rintro b1 w - H;refine Ac U (qA (Aq (Ad (AH Fc U H at0 U (Ai qB (GP (H.ext.to hs (by simp))) U ?_)))));rintro v w ⟨rfl,rfl⟩;refine Ac U (qA (Ad (Ae U (Ba U U (qA (Au _ U ?_ ?_))))))
 .intro h1;replace h1:=Bu h1;exact absurd U h1
 .intro h1;replace h1:=Bv h1;refine Ap (Aa (Ad (AH Fc U H at0 U (A8 U (Af Mg U (Be MK U ((by rw[Ar (H.ext.to hs (by simp))];rfl)) ?_))))));refine Ai qB (Acu (H.ext.to hj (by simp))) U ?_;rintro v w ⟨rfl,hx16⟩;replace H:=H.call hx16;refine AQ U (Ah U U (Ah U U (Bj ZF H ?_)));rintro b4 w - H;refine Bj zc_74 H ?_;rintro b5 w - H;refine Bf (.int _ _) Hv U U U H at1 (by decide) ?_;rintro w H;refine Bf (.int _ _) Xq U U U H at0 (by decide) ?_;rintro w H;refine qA (BR [([0,1,2,3,4,5,6,7,8,9,10,11,12,13,14,15,16,17,18,19],20),([],21),([],22),([],23)] (fun z=>(z.heap[b1]?=some (Bl 31 [ptr p.bs])/\∃(gen':Nat) (root' n':Int) (dd:Bool),z.heap[p.bs]?=some (Bl CU (CN (ptr p.bd) (ptr p.bj) (ptr p.bp) (ptr p.bt) gen' root' p.m1 p.m2 n' dd)))) [] mixed (⟨H.drew.get at2,gen,root,n,false,H.drew.ext.to hs (by simp)⟩) ?_);refine AC U U ?_
  refine BG Fc U (fun _ hx=>(by rw[Ar hx.1];rfl)) ?_;refine BG Fc U (fun _ hx=>(by rw[Ar hx.1];rfl)) ?_;refine Jz (ptr p.bs) U U (BG Fc U (fun _ hx=>(by rw[Ar hx.1];rfl)) ?_);refine Bg U (AD QH U (BG Dn U (fun _ hx=>(by obtain⟨_,_,_,_,_,hx2⟩:=hx;rw[Ar hx2];rfl)) ?_));refine Jz (ptr p.bd) U U (Q5 [.pointer _,.pointer _,.pointer _] U U ?_);refine BG Fc U (fun _ hx=>(by rw[Ar hx.1];rfl)) ?_;refine Bg U (AD Js U (BG K3 U (fun _ hx=>(by obtain⟨_,_,_,_,_,hx2⟩:=hx;rw[Ar hx2];rfl)) ?_));refine Jz (ptr p.bp) U U (BG Fc U (fun _ hx=>(by rw[Ar hx.1];rfl)) ?_);refine Bg U (AD Mg U (BG MK U (fun _ hx=>(by obtain⟨_,_,_,_,_,hx2⟩:=hx;rw[Ar hx2];rfl)) ?_));refine Jz (ptr p.bj) U U (Q5 [.pointer _] U U ?_);refine AU ?_;replace H:=H.drew;refine Cb (ckF b1 b4 b5 p) Pg Xp Abz H ?_
  rintro b39 w39 - H;have hx39:=H.ext;refine Ab (Bc (⟨H.get at3,gen,root,n,false,H.ext.to hs (by simp)⟩) ?_);refine AC U U (AU (Ai qB (ckAll (wb:=w39) (p:=p) (F:=F) (b39:=b39) (b1:=b1) (b4:=b4) (b5:=b5) (q:=J.seq) (pp:=J.at') (A:=A) (P:=P) (G:=G) (J:=J) (gen:=gen) (root:=root) (n:=n) (l:=l) (o1:=o1) (o2:=o2) (t:=t) ⟨F,g.call hx39,Aas H lt (List.Sublist.refl _),Grown.call (Ext.refl _ _)⟩ hM hJ hgrow hfew hmx hr hp hq hg) U ?_));clear H;rintro v w40 ⟨e,rfl,h40⟩;obtain⟨A4,P4,F4,J4,gen4,root4,o24,h4⟩:=ckEnd h40;have hs4:=Fo.at h4.g.O (k:=0) rfl;have hb14:=Fo.at h4.Y (k:=3) rfl;have hS40:w40.heap[b1]?=some (Bl 31 [ptr p.bs])/\∃(gen':Nat) (root' n':Int) (dd:Bool),w40.heap[p.bs]?=some (Bl CU (CN (ptr p.bd) (ptr p.bj) (ptr p.bp) (ptr p.bt) gen' root' p.m1 p.m2 n' dd)):=⟨hb14,gen4,root4,n,false,hs4⟩;refine Ab (Bc (hS40) (AC U U ?_))
  refine AU (Ai qB (Ys (Ctx.start1 hs4) e) U ?_);rintro v w41 ⟨rfl,H6⟩;have hnb:b1∉[p.bs]:=(fun h5=>h4.Y.off (b1,Bl 31 [ptr p.bs]) (by simp) (by rw[qaa.1 h5];exact .inr (by simp[Sp.own])));have hS41:w41.heap[b1]?=some (Bl 31 [ptr p.bs])/\∃(gen':Nat) (root' n':Int) (dd:Bool),w41.heap[p.bs]?=some (Bl CU (CN (ptr p.bd) (ptr p.bj) (ptr p.bp) (ptr p.bt) gen' root' p.m1 p.m2 n' dd)):=⟨H6.ext.to hb14 hnb,gen4,root4,n,_,H6.get at0⟩;refine Ab (Bc (hS41) (AC U U ?_));refine AU (Ac U (Ab (Bc (hS41) (B1 (Ax (AG (v:=(.int _ _)) U U U ?_))))));have htl:∀{F5:Mut},Grown (Ms F5 p) (Ms F5 p) w40 w41:=fun{F5}=>⟨Turn.of H6.ext fun y hy => .inr (by rw[qaa.1 hy];simp[Sp.own]),fun _ h => .inl h⟩
  have hsame:∀{g5:Nat} {r5:Int},w40.heap[p.bs]?=some (Bl CU (CN (ptr p.bd) (ptr p.bj) (ptr p.bp) (ptr p.bt) g5 r5 p.m1 p.m2 n false))->gen4=g5/\root4=r5:=fun{g5 r5} h5=>by
   have h6:=hs4.symm.trans h5;have h7:(gen4:Int)=g5/\root4=r5:=by simpa[Bl,CN]using h6
   exact⟨by omega,h7.2⟩
  rcases h40 with⟨rfl,he,F5,o25,h5,hM5⟩|⟨he,A5,P5,F5,root5,h5,hbad⟩
  .obtain⟨hg4,hr4⟩:=hsame (Fo.at h5.g.O (k:=0) rfl);rw[hg4,hr4]at H6;refine .inl ⟨rfl,he,F5,o25,h5.g.set H6,hM5,Grown.trans (Grown.trans (Grown.call hx39) h5.G) htl⟩
  .obtain⟨hg4,hr4⟩:=hsame (Fo.at h5.g.O (k:=0) rfl);rw[hg4,hr4]at H6;have hnF:¬F5 p.bs:=fun h=>h5.g.O.off _ (qad (i:=0) rfl) (.inl h);have hb:=H6.get at0;rw[qag he]at hb;exact .inr ⟨e,A5,F5,root5,rfl,he,hbad,h5.g.own.over H6.ext (fun y hy=>by rw[qaa.1 hy];exact hnF) (fun y hy=>by rw[qaa.1 hy];exact g.ge p.bs (.inr (by simp[Sp.own]))),hnF,hb,Grown.trans (Grown.trans (Grown.call hx39) h5.G) htl⟩
end
section
variable {N b:Nat}{A:Dev}{R:Rj}{V V':Nat->Byt}{gen:Nat}{root:Int}{M L:List Pr}{S:List Nat}{Ws:List (List Wr)}{x:Sx}
theorem IC(h:Pend A N V (fun _=>[])){q:Nat}(hq:q<N):A.B.getD q (zeros,[])=(V q,[]):=by rw[qa8,h.get q hq];rfl
theorem Alv.tree(a:Alv N A R x M S Ws L b):TreeAt 362 A x.P x.root M:=by
 refine⟨⟨S,a.d.tr.frame fun y hy=>?_,a.d.nd,a.mem⟩,a.d.rise,a.d.ok⟩;unfold RD RV;rw[IC a.sg.pend (by have:=a.d.low y hy;omega)];rfl
theorem SG.forget(g:SG N A R V)(hq:R.seq+R.L.length<=8000000000000000000):SG N A R.forget V:=⟨Vu g.ok hq,g.fit,g.lim,g.on,g.left,g.pend,g.held.forget⟩
theorem V7{t:List (Byt × Int)}{k:Byt}:k∈CF (mi t)↔k∈t.map (·.1):=by
 have h1:=(qce ((mi t).map (·.1)) fun x y=>decide (x<=y)).mem_iff (a:=k);have h2:(mi t).map (·.1)=t.map (·.1):=by simp[qcr]
 unfold CF;rw[h2]at h1 |-;exact h1
theorem YN(P:List Nat)(y:Nat):y∈Hj P P.length↔P[y]?=some 1\/P[y]?=some 2:=by
 unfold Hj;rw[qbk,qdc];unfold Jw;rw[qcf,qap,qap];exact⟨And.right,fun h=>⟨h.elim (fun h=>(qaq.1 h).1) fun h=>(qaq.1 h).1,h⟩⟩
theorem Adb(P:List Nat):(Hj P P.length).Nodup:=List.nodup_range.filter _
theorem Alv.keys(a:Alv N A R x M S Ws L b):(x.t.map (·.1)).Nodup/\x.t.length<=28800/\(∀q∈x.t,1<=q.1.length/\q.1.length<=32)/\∀k,k∉x.t.map (·.1)->DQ M k=DQ L k:=by
 obtain⟨h1,h2,h3⟩:=Q4 (W:=Ws.flatten) (t:=[]) qcb;rw[<-a.t]at h1 h2 h3;have hn:=(a.d.num2 a.sg.ok).1;refine⟨h1,by rw[qby]at h3;omega,fun q hq=>?_,fun k hk=>?_⟩
 .obtain⟨y,hy,he⟩:=((h2 q.1).1 (qah.2 ⟨q,hq,rfl⟩)).resolve_left (by simp);have:=a.d.fewW y hy;unfold Wr.Few at this;rw[<-he];omega
 .rw[a.d.l,Vy a.d.rise fun y hy he=>hk ((h2 k).2 (.inr ⟨y,hy,he⟩))]
abbrev ckG(N:Nat)(A:Dev)(x:Sx)(L:List Pr):Int × Int × Dev × List Nat:=DZ (BI x.kv) (CF (mi x.t)) L ((N - 362) / 2) A x.P x.root (Hj x.P x.P.length)
theorem Alv.grow(a:Alv N A R x M S Ws L b):Base9 A x.P (ckG N A x L).2.2.1 (ckG N A x L).2.2.2/\Few (ckG N A x L).2.2.1 2000000/\(((ckG N A x L).1=8/\A.left ≠ -1/\(ckG N A x L).2.2.1.on=false)\/((ckG N A x L).1=0/\(ckG N A x L).2.2.1.on=true/\TreeAt 362 (ckG N A x L).2.2.1 (ckG N A x L).2.2.2 (ckG N A x L).2.1 L/\Hm (ckG N A x L).2.2.2<=(N - 362) / 2)):=by
 obtain⟨k1,k2,k3,k4⟩:=a.keys;have hn:=a.d.n;have hlen:=a.sg.len;have hP:=a.len;have hh:=IB a.d.nd a.mem;have hhalf:=a.d.half;obtain⟨m1,m2⟩:=a.d.most
 obtain⟨g1,g2,g3⟩:=Afm (f:=BI x.kv) (ts:=CF (mi x.t)) (h:=(N - 362) / 2) (L:=L) (S:=Hj x.P x.P.length) a.tree a.p01 (Adb _) (YN _) a.sg.on a.sg.good.few a.d.riseL a.d.okL a.kl.get (fun k hk=>k4 k fun h=>hk (V7.2 h)) (fun k hk=>by
  obtain⟨q,hq,rfl⟩:=qah.1 (V7.1 hk)
  exact k3 q hq) (by unfold Hm at hh;omega) m1 m2
 refine⟨g1,g2.mono ?_,g3⟩;rw[M6,qaj];omega
theorem Alv.loo(a:Alv N A R x M S Ws L b){A':Dev}{P':List Nat}(h:Base9 A x.P A' P'):Loo N x.V (fun q=>∃y:Nat,x.P[y]?=some 0/\q=362+y) A':=by
 refine⟨h.blen.trans a.sg.len,fun q hq hn=>?_⟩;have h1:=h.blk q fun y hy he=>hn ⟨y,hy,he⟩;rw[IC a.sg.pend hq]at h1;obtain⟨z,hz⟩:=AO (l:=A'.B) (i:=q) (h:=by rw[h.blen,a.sg.len];exact hq);rw[qa8,hz]at h1;rw[hz];exact qab some h1
theorem Alv.back(a:Alv N A R x M S Ws L b){D:Dev}(h:Loo N x.V (fun q=>∃y:Nat,x.P[y]?=some 0/\q=362+y) D)(ho:D.on=false){b':Nat}(hb:b<=b')(picks:List Int):Bk N b' L (onD D picks):=by
 obtain⟨k1,k2,V',k3,k4⟩:=h.on ho picks;have hz:=a.d.z;have hn:=a.d.n;have hne:∀q,q<362->¬ ∃y:Nat,x.P[y]?=some 0/\q=362+y:=fun q hq ⟨y,_,he⟩=>by omega
 refine⟨k2,R,V',x.gen,x.root,M,S,Ws,a.sg.put k1 (by omega) k3 fun q h1 h2=>k4 q (by omega) (hne q (by omega)),a.d.congr (fun q hq=>k4 q (by omega) (hne q (by omega))) (fun y hy=>k4 _ (by have:=a.d.low y hy;omega) fun⟨z,h1,h2⟩=>?_),qav a.gen hb,a.seq.1,qav a.seq.2 hb⟩;obtain rfl:y=z:=by omega
 rcases(a.mem y).1 hy with h|h <;> (rw[h1]at h;cases h)
theorem PI{D:Dev}(ho:D.on=true):(D.left=0/\Du D=8/\Cp D={ D with on:=false })\/(D.left≠0/\Du D=0/\Cp D=Ig D.less/\D.less.on=true/\D.less.left=if D.left = -1 then -1 else D.left - 1):=by
 by_cases h:D.left=0
 .left;have h1:D.goes=true:=by unfold Dev.goes;rw[qal h]
  refine⟨h,by unfold Du;rw[ho,h1];rfl,?_⟩;unfold Cp;rw[ho,h1];show D.less=_;unfold Dev.less;rw[if_pos h]
 .right;have h1:D.goes=false:=by unfold Dev.goes;rw[qag h]
  obtain⟨h2,h3⟩:=W1 h ho;refine⟨h,by unfold Du;rw[ho,h1];rfl,?_,h2,h3⟩;unfold Cp;rw[ho,h1];rfl
def Ug(D:Dev)(q:Nat):Byt:=stands (D.B.getD q (zeros,[]))
theorem TQ{D:Dev}(h:D.B.length=N):Pend (Ig D.less) N (Ug D) (fun _=>[]):=by
 refine⟨by simp[Ig,Gs,h],fun q hq=>?_⟩;obtain⟨z,hz⟩:=AO (l:=D.B) (i:=q);show(D.less.B.map fun p=>(stands p,([]:List Byt)))[q]?=_;rw[Gs,qat,hz];unfold Ug;rw[qa8,hz];rfl
theorem Afy{P P0:List Nat}(h:P.map DE=P0)(h0:∀s∈P0,s=0\/s=1):∀s∈P.map BM,s=0\/s=1:=fun s hs=>by
 obtain⟨z,hz,rfl⟩:=qah.1 hs;have h1:=h0 (DE z) (by rw[<-h];exact qah.2 ⟨z,hz,rfl⟩);unfold DE at h1;unfold BM
 split at h1
 .rename_i h2;rw[if_pos h2];exact .inr rfl
 .split at h1
  .rename_i h2 h3;rw[if_neg h2,if_pos h3];exact .inl rfl
  .rename_i h2 h3;rw[if_neg h2,if_neg h3];exact h1
theorem par2(n:Nat):(n+1+1) % 2=n % 2/\(n+1) % 2≠n % 2:=by omega
theorem Alv.saved(a:Alv N A R x M S Ws L b)(hb:b<=1000000){D1:Dev}{P1:List Nat}{root':Int}(hB:Base9 A x.P D1 P1)(TT:TreeAt 362 D1 P1 root' L)(hlo:Hm P1<=(N - 362) / 2){A3:Dev}{V3:Nat->Byt}(g3:SG N A3 R V3)(hV:∀q,q<N->V3 q=if q=(x.gen+1) % 2 then DJ (x.gen+1) (tpB root' R.at' (R.seq+R.L.length))else Ug D1 q) :
  ∃S',Alv N A3 R.forget ⟨x.gen+1,root',x.n,x.kv,[],P1.map BM,x.T,V3⟩ L S' [] L (b+1):=by
 have hn:=a.d.n;have hz:=a.d.z;have hq:=a.seq;have hg:=a.gen;have hlen:=a.sg.len;have hblen:=hB.blen;have hPl:=hB.len;have hal:=a.len
 have hold:∀q,q<362->Ug D1 q=x.V q:=fun q hq5=>by
  have h1:=hB.blk q fun y hy he=>by omega
  rw[IC a.sg.pend (by omega)]at h1;unfold Ug;rw[h1];rfl
 have htl:=Eg root' R.at' (R.seq+R.L.length);obtain⟨S',s1,s2,s3⟩:=TT.lies;have hlow:∀y∈S',y<P1.length:=fun y hy=>((s3 y).1 hy).elim (fun h=>(qaq.1 h).1) fun h=>(qaq.1 h).1;have hm:=qbl (x.gen+1) (show 0<2 by decide);have hm0:=qbl x.gen (show 0<2 by decide);have hgo:=hV ((x.gen+1) % 2) (by omega);rw[if_pos rfl]at hgo;refine⟨S',⟨SG.forget g3 (by omega),⟨hn,hz,?_,?_,?_,s1.frame fun y hy=>?_,s2,fun y hy=>by have:=hlow y hy;omega,by rw[<-IB s2 s3];exact hlo,TT.rise,TT.ok,a.d.num.1,rfl,(fun W hW=>by cases hW),rfl,a.d.room⟩,a.kl,a.n,rfl,by rw[qaj];show P1.length=_;omega,Afy hB.back a.p01,fun y=>(s3 y).trans (Qu P1 y).symm,by show x.gen+1<=_;omega,⟨by show 1<=R.seq+R.L.length;omega,by show R.seq+R.L.length+0<=_;omega⟩⟩⟩
 .show Cy (((x.gen+1) % 2:Nat):Int) (V3 ((x.gen+1) % 2))=x.gen+1;rw[hgo];exact Nr (gen:=x.gen+1) (by omega)
 .show DI (((x.gen+1) % 2:Nat):Int) (V3 ((x.gen+1) % 2))=tpB root' R.at' (R.seq+R.L.length);rw[hgo];exact Ns (gen:=x.gen+1) (by omega)
 .show Cy (((x.gen+1+1) % 2:Nat):Int) (V3 ((x.gen+1+1) % 2))<x.gen+1;rw[(par2 x.gen).1,hV (x.gen % 2) (by omega),if_neg (fun h=>(par2 x.gen).2 h.symm),hold _ (by omega),a.d.r1];omega
 .have:=hlow y hy;unfold RD RV;show Eu (V3 (362+y))=_;rw[hV (362+y) (by omega),if_neg (by omega)];rfl
end
section
variable {N b:Nat}{A:Dev}{R:Rj}{V V':Nat->Byt}{gen:Nat}{root:Int}{M L:List Pr}{S:List Nat}{Ws:List (List Wr)}{x:Sx}
theorem Alv.done(a:Alv N A R x M S Ws L b)(hb:b<=1000000)(h0:Gok (ckG N A x L))(h1:Du (ckG N A x L).2.2.1=0)(h2:GN (OK (ckG N A x L)) (x.gen+1) (TP (ckG N A x L) R.at' (R.seq+R.L.length))=0) :
  ∃V3 S',Alv N (YM (ckG N A x L) x.gen R.at' (R.seq+R.L.length)) R.forget ⟨x.gen+1,(ckG N A x L).2.1,x.n,x.kv,[],(ckG N A x L).2.2.2.map BM,x.T,V3⟩ L S' [] L (b+1)/\(A.left = -1->(YM (ckG N A x L) x.gen R.at' (R.seq+R.L.length)).left = -1):=by
 obtain⟨hB,hF,hO⟩:=a.grow;obtain⟨-,on1,TT,hlo⟩:=hO.resolve_left (fun h=>by have:=h.1;have:=h0.1;omega);have hlen:(ckG N A x L).2.2.1.B.length=N:=hB.blen.trans a.sg.len;have hz:=a.d.z;have hn:=a.d.n;have hg:=a.gen;have hleft:=h0.2
 rcases PI on1 with⟨-,h3,-⟩|⟨f1,f2,f3,f4,f5⟩
 .rw[h3]at h1;cases h1
 .have g2:SG N (OK (ckG N A x L)) R (Ug (ckG N A x L).2.2.1):=by
   have hp:=TQ (N:=N) hlen;rw[<-f3]at hp;refine a.sg.put (by show(Cp _).on=true;rw[f3];exact f4) (by show -1<=(Cp _).left;rw[f3];show -1<=(Dev.less _).left;rw[f5];split <;> omega) hp fun q q1 q2=>?_;have h5:=hB.blk q fun y hy he=>by omega
   rw[IC a.sg.pend (by omega)]at h5;unfold Ug;rw[h5];rfl
  have hl2:A.left = -1->(OK (ckG N A x L)).left = -1:=fun h=>by
   show(Cp _).left = -1;rw[f3];show(Dev.less _).left = -1;rw[f5,if_pos (hB.left h)]
  rcases g2.save (x.gen+1) (TP (ckG N A x L) R.at' (R.seq+R.L.length)) (by omega) (by omega) (by rw[Eg];decide)with⟨-,s2,s3⟩|⟨-,s2,-⟩
  .obtain⟨S',h6⟩:=a.saved hb hB TT hlo s3 fun q _=>rfl;exact⟨_,S',h6,fun h=>s2 (hl2 h)⟩
  .rw[s2]at h2;cases h2
theorem Alv.cut(a:Alv N A R x M S Ws L b)(hb:b<=1000000){e:Int}{A':Dev}(he:e≠0)(h:Aku (ckG N A x L) x.gen R.at' (R.seq+R.L.length) e A'):e=8/\A.left ≠ -1/\A'.on=false/\Few A' 10000000/\∀picks,Bk N (b+1) L (onD A' picks):=by
 obtain⟨hB,hF,hO⟩:=a.grow;have hlen:(ckG N A x L).2.2.1.B.length=N:=hB.blen.trans a.sg.len;have hz:=a.d.z;have hn:=a.d.n;have hg:=a.gen
 rcases h with⟨h1,rfl⟩|⟨h0,h1,rfl⟩|⟨h0,h1,h2,rfl⟩
 .obtain⟨o1,o2,o3⟩:=hO.resolve_right (fun h=>he (by rw[<-h1];exact h.1));exact⟨by rw[<-h1];exact o1,o2,o3,hF.mono (by decide),fun picks=>a.back (a.loo hB) o3 (qdd b) picks⟩
 .obtain⟨-,on1,TT,hlo⟩:=hO.resolve_left (fun h=>by have:=h.1;have:=h0.1;omega)
  rcases PI on1 with⟨f0,f1,f2⟩|⟨-,f2,-⟩
  .refine⟨by rw[<-h1];exact f1,fun h=>by have:=hB.left h;omega,by show(Cp _).on=false;rw[f2],(I0 hF).mono (by decide),fun picks=>a.back ?_ (by show(Cp _).on=false;rw[f2]) (qdd b) picks⟩;have hl:=a.loo hB;show Loo N x.V _ (Cp _);rw[f2];exact⟨hl.len,hl.get⟩
  .exact absurd (h1.symm.trans f2) he
 .obtain⟨-,on1,TT,hlo⟩:=hO.resolve_left (fun h=>by have:=h.1;have:=h0.1;omega);have hleft:=h0.2
  rcases PI on1 with⟨-,h3,-⟩|⟨f1,f2,f3,f4,f5⟩
  .rw[h3]at h1;cases h1
  .have hold:∀q,q<N->(¬ ∃y:Nat,x.P[y]?=some 0/\q=362+y)->Ug (ckG N A x L).2.2.1 q=x.V q:=fun q q1 q2=>by
    have h5:=hB.blk q fun y hy he=>q2 ⟨y,hy,he⟩;rw[IC a.sg.pend q1]at h5;unfold Ug;rw[h5];rfl
   have hne:∀q,q<362->¬ ∃y:Nat,x.P[y]?=some 0/\q=362+y:=fun q hq ⟨y,_,he⟩=>by omega
   have g2:SG N (OK (ckG N A x L)) R (Ug (ckG N A x L).2.2.1):=by
    have hp:=TQ (N:=N) hlen;rw[<-f3]at hp;exact a.sg.put (by show(Cp _).on=true;rw[f3];exact f4) (by show -1<=(Cp _).left;rw[f3];show -1<=(Dev.less _).left;rw[f5];split <;> omega) hp fun q q1 q2=>hold q (by omega) (hne q (by omega))
   rcases g2.save (x.gen+1) (TP (ckG N A x L) R.at' (R.seq+R.L.length)) (by omega) (by omega) (by rw[Eg];decide)with⟨s1,-⟩|⟨s1,s2,s3,s4,-,s6⟩
   .exact absurd (h2.symm.trans s1) he
   .refine⟨by rw[<-h2];exact s2,fun h=>s1 ?_,s3,s4.mono (by decide),fun picks=>?_⟩
    .show(Cp _).left = -1;rw[f3];show(Dev.less _).left = -1;rw[f5,if_pos (hB.left h)]
    .obtain⟨p1,p2⟩:=s6 picks
     rcases p2 with p2|p2
     .refine⟨p1,R,_,x.gen,x.root,M,S,Ws,p2,a.d.congr (fun q hq=>hold q (by omega) (hne q (by omega))) (fun y hy=>hold _ (by have:=a.d.low y hy;omega) fun⟨z,q1,q2⟩=>?_),by omega,a.seq.1,by have:=a.seq.2;omega⟩;obtain rfl:y=z:=by omega
      rcases(a.mem y).1 hy with h|h <;> (rw[q1]at h;cases h)
     .obtain⟨S',h6⟩:=a.saved hb hB TT hlo p2 fun q _=>rfl;exact⟨p1,R.forget,_,x.gen+1,(ckG N A x L).2.1,L,S',[],h6.sg,h6.d,h6.gen,h6.seq.1,h6.seq.2⟩
theorem Alv.more(a:Alv N A R x M S Ws L b){W:List Wr}(hW:W.length<=1000/\∀y∈W,y.Few/\1<=y.k.length)(hroom:(B0 (DO L W):Int)<=Cu N){A':Dev}{V':Nat->Byt}(g:SG N A' (R.more (opB W)) V')(hV:∀q,(q<2\/2+R.size<=q)->q<N->V' q=x.V q){T:Int} :
  Alv N A' (R.more (opB W)) { x with n:=Ek x.kv x.n W,kv:=Gb x.kv W,t:=Ex x.t W,T:=T,V:=V' } M S (Ws++[W]) (DO L W) (b+1):=by
 have hz:=a.d.z;have hn:=a.d.n;have hd:=a.d.congr (V':=V') (fun q hq=>hV q (.inl hq) (by omega)) (fun y hy=>hV _ (.inr (by omega)) (by have:=a.d.low y hy;omega));have hkl:=a.kl.sets (W:=W);refine⟨g,⟨hd.n,hz,hd.r1,hd.rl,hd.r0,hd.tr,hd.nd,hd.low,hd.half,hd.rise,hd.ok,hd.mx,?_,fun W' hW'=>?_,?_,hroom⟩,hkl,?_,?_,a.len,a.p01,a.mem,by have:=a.gen;show x.gen<=_;omega,a.seq.1,?_⟩
 .show R.L++[opB W]=_;rw[a.d.ws,qaz];rfl
 .rcases qau.1 hW' with h|h
  .exact a.d.few W' h
  .rw[qaa.1 h];exact hW
 .rw[qcv,qcw,YG,<-a.d.l]
 .show Ek x.kv x.n W=_;rw[Jh a.kl.nd,a.n,<-GQ a.kl.perm,<-GQ hkl.perm];omega
 .show Ex x.t W=_;rw[a.t,qcv,qcw];unfold Ex;rw[qdp]
 .show R.seq+(R.L++[opB W]).length<=_;have:=a.seq.2;rw[qan,qbu];omega
theorem Alv.torn(a:Alv N A R x M S Ws L b){W:List Wr}(hW:W.length<=1000/\∀y∈W,y.Few/\1<=y.k.length)(hroom:(B0 (DO L W):Int)<=Cu N){A':Dev}{V':Nat->Byt}(hl:A'.left = -1)(hV:∀q,(q<2\/2+R.size<=q)->q<N->V' q=x.V q)(g:SG N A' R V'\/SG N A' (R.more (opB W)) V') :
  Bk N (b+1) L A'\/Bk N (b+1) (DO L W) A':=by
 have hz:=a.d.z;have hn:=a.d.n
 rcases g with g|g
 .exact .inl ⟨hl,R,V',x.gen,x.root,M,S,Ws,g,a.d.congr (fun q hq=>hV q (.inl hq) (by omega)) (fun y hy=>hV _ (.inr (by omega)) (by have:=a.d.low y hy;omega)),by have:=a.gen;omega,a.seq.1,by have:=a.seq.2;omega⟩
 .have h:=a.more (T:=0) hW hroom g hV;exact .inr ⟨hl,_,_,_,_,_,_,_,h.sg,h.d,h.gen,h.seq.1,h.seq.2⟩
theorem Alv.mono(a:Alv N A R x M S Ws L b){b':Nat}(h:b<=b'):Alv N A R x M S Ws L b':=⟨a.sg,a.d,a.kl,a.n,a.t,a.len,a.p01,a.mem,qav a.gen h,a.seq.1,qav a.seq.2 h⟩
theorem Bk.mono(h:Bk N b L A){b':Nat}(hb:b<=b'):Bk N b' L A:=by
 obtain⟨h1,R,V,gen,root,M,S,Ws,h2,h3,h4,h5,h6⟩:=h;exact⟨h1,R,V,gen,root,M,S,Ws,h2,h3,qav h4 hb,h5,qav h6 hb⟩
theorem Alv.off(a:Alv N A R x M S Ws L b)(picks:List Int):Bk N b L (onD (MF A) picks) :=
 ⟨rfl,R,x.V,x.gen,x.root,M,S,Ws,a.sg.off picks,a.d,a.gen,a.seq.1,a.seq.2⟩
end
section
variable {w0 w w':World}{p:Sp}{N b:Nat}{A A':Dev}{R R':Rj}{M L:List Pr}{S:List Nat}{Ws:List (List Wr)}{x:Sx}{F F':Mut}{P:List Nat}{J:Jr}{gen:Nat}{root n:Int}{l:List (Byt × Sv)}{o1 o2:Obj}
theorem Sok.gk(O:Sok w0 w p A R x F)(h3:∀s∈x.P,s<=3)(hP:x.P.length<=4096):∃l o1 o2,Gk w0 w p A x.P F (jrK 2 R R.L) x.gen x.root x.n l o1 o2/\EH l=x.kv/\En str (mi x.t) o2:=by
 obtain⟨l,o1,o2,hF,K,hk,hM⟩:=O.ex;have hoff:∀y∈p.blk x o1 o2,¬F y.1/\y.1≠p.bj:=fun y hy=>⟨fun h=>hF.off y hy (.inl h),fun h=>hF.off y hy (.inr h)⟩;have hb:=hoff (p.bs,Bl CU (CN (ptr p.bd) (ptr p.bj) (ptr p.bp) (ptr p.bt) x.gen x.root p.m1 p.m2 x.n false)) (qaf ..);have h1:=hoff (p.m1,o1) (by simp[Sp.blk]);have h2:=hoff (p.m2,o2) (by simp[Sp.blk]);have hbp:=hoff (p.bp,Bl TPg [.slice (some ⟨p.ba,0,none⟩) x.P.length x.P.length]) (by simp[Sp.blk]);have hba:=hoff (p.ba,Bl TSt (x.P.map stv)) (by simp[Sp.blk]);have hbt:=hoff (p.bt,Bl TT (Qq p.bd p.bp 362)) (by simp[Sp.blk]);dsimp only at hb h1 h2 hbp hba hbt
 have hno:∀{y:Nat},¬F y->y≠p.ba->y≠p.bt->y≠p.bp->¬TM F p.ba p.bt p.bp [] y:=fun q1 q2 q3 q4 h=>by
  rcases h with h|h|h|h|h
  .exact q1 h
  .exact q2 h
  .exact q3 h
  .exact q4 h
  .cases h
 refine⟨l,o1,o2,⟨⟨Fo.at hF (k:=5) rfl,⟨Fo.at hF (k:=3) rfl,Fo.at hF (k:=4) rfl,Dd hF 3 4 U U,h3,hP⟩,O.jone.own.dev,(fun y hy=>by cases hy),List.Pairwise.nil,(fun y hy=>by cases hy),⟨hbt.1,Dd hF 5 4 U U⟩,hbp.1,hba.1,fun y hy=>(O.jone.own.own y hy).2⟩,⟨fun y hy=>?_,?_,fun y hy=>?_⟩,K,O.jone.own.ext,fun y hy=>?_⟩,hk,hM⟩
 .simp only[qac,qam,or_false]at hy
  rcases hy with rfl|rfl|rfl|rfl
  .exact Fo.at hF (k:=0) U
  .exact Fo.at hF (k:=1) U
  .exact Fo.at hF (k:=2) U
  .exact O.jone.jr
 .have q1:=Dd hF 0 1 rfl rfl;have q2:=Dd hF 0 2 rfl rfl;have q3:=Dd hF 1 2 rfl rfl;simp[q1,q2,q3,hb.2,h1.2,h2.2]
 .simp only[qac,qam,or_false]at hy
  rcases hy with rfl|rfl|rfl|rfl
  .exact hno hb.1 (Dd hF 0 4 U U) (Dd hF 0 5 U U) (Dd hF 0 3 U U)
  .exact hno h1.1 (Dd hF 1 4 U U) (Dd hF 1 5 U U) (Dd hF 1 3 U U)
  .exact hno h2.1 (Dd hF 2 4 U U) (Dd hF 2 5 U U) (Dd hF 2 3 U U)
  .exact hno O.jone.nF (Ne.symm hba.2) (Ne.symm hbt.2) (Ne.symm hbp.2)
 .rcases hy with(hy|rfl)|hy
  .exact(O.jone.own.own y hy).1
  .exact O.jone.ge
  .exact O.ge y hy
theorem Gk.sok(g:Gk w0 w p A P F (jrK 2 R R.L) gen root n l o1 o2)(sg:SG N A R x.V)(h:x.gen=gen/\x.root=root/\x.n=n/\x.P=P/\x.kv=EH l)(hM:En str (mi x.t) o2)(hn : -(200*x.T)<=x.n/\x.n<=200*x.T)(ht:∀q∈x.t,0<=q.2/\q.2<=x.T)(hT:0<=x.T/\x.T<=4000000)(hz:∀y,p.z y->y<w.heap.size):Sok w0 w p A R x F:=by
 obtain⟨rfl,rfl,rfl,rfl,hkv⟩:=h;have hno:∀{y:Nat},¬TM F p.ba p.bt p.bp [] y->¬F y/\y≠p.ba/\y≠p.bt/\y≠p.bp:=fun h=>⟨fun q=>h (.inl q),fun q=>h (.inr (.inl q)),fun q=>h (.inr (.inr (.inl q))),fun q=>h (.inr (.inr (.inr (.inl q))))⟩;have hb:=hno (g.O.off _ (qad (i:=0) rfl));have h1:=hno (g.O.off _ (qad (i:=1) rfl));have h2:=hno (g.O.off _ (qad (i:=2) rfl));have hj:=hno (g.O.off _ (qad (i:=3) rfl));have b0:=Dd g.O 0 3 rfl rfl;have b1:=Dd g.O 1 3 rfl rfl;have b2:=Dd g.O 2 3 rfl rfl;have hfj:∀{y:Nat},¬F y->y≠p.bj->¬Fj F p.bj y:=fun q1 q2 h=>h.elim q1 q2
 have hpt:p.bp≠p.bt:=fun h=>by
  have h5:=g.T.pg.hd;rw[h,g.T.tr]at h5;simp[Bl,Qq]at h5
 refine⟨⟨g.own,Fo.at g.O (k:=3) rfl,hj.1,g.ge _ (.inl (.inr U))⟩,by rw[sg.len];exact sg,⟨l,o1,o2,⟨fun y hy=>?_,?_,fun y hy=>?_⟩,g.K,hkv.symm,hM⟩,fun q hq=>g.ge q (.inr hq),hn,ht,hT,hz⟩
 .simp only[Sp.blk,qac,qam,or_false]at hy
  rcases hy with rfl|rfl|rfl|rfl|rfl|rfl
  .exact Fo.at g.O (k:=0) U
  .exact Fo.at g.O (k:=1) U
  .exact Fo.at g.O (k:=2) U
  .exact g.T.pg.hd
  .exact g.T.pg.st
  .exact g.T.tr
 .have q1:=Dd g.O 0 1 rfl rfl;have q2:=Dd g.O 0 2 rfl rfl;have q3:=Dd g.O 1 2 rfl rfl;simp[Sp.blk,q1,q2,q3,hb.2.1,hb.2.2.1,hb.2.2.2,h1.2.1,h1.2.2.1,h1.2.2.2,h2.2.1,h2.2.2.1,h2.2.2.2,g.T.pg.ne,hpt,Ne.symm g.T.nbt.2]
 .simp only[Sp.blk,qac,qam,or_false]at hy
  rcases hy with rfl|rfl|rfl|rfl|rfl|rfl
  .exact hfj hb.1 b0
  .exact hfj h1.1 b1
  .exact hfj h2.1 b2
  .exact hfj g.T.nbp (Ne.symm hj.2.2.2)
  .exact hfj g.T.nba (Ne.symm hj.2.1)
  .exact hfj g.T.nbt.1 (Ne.symm hj.2.2.1)
theorem Afz(P:List Nat):((Hj P P.length).map fun x:Nat=>(x:Int)).Pairwise (·<=·):=by
 rw[qbs];unfold Hj;exact(List.Pairwise.filter _ List.pairwise_lt_range).imp fun h=>by omega
def CkC(N:Nat)(A:Dev)(x:Sx)(L:List Pr)(b:Nat)(A':Dev)(R':Rj)(x':Sx):Prop :=
 (∃M' S',Alv N A' R' x' M' S' [] L b)/\(A.left = -1->A'.left = -1)/\x'.kv=x.kv/\x'.n=x.n/\x'.T=x.T
def CkZ(N:Nat)(A:Dev)(L:List Pr)(b:Nat)(A':Dev):Prop:=A.left ≠ -1/\∀picks,Bk N b L (onD A' picks)
theorem TS(O:Sok w0 w p A R x F)(a:Alv N A R x M S Ws L b)(hb:b<=1000000:=by omega):
  Ret prog 16 #[ptr p.bs] w (CkOut w0 p F (CkC N A x L (b+1)) (CkZ N A L (b+1)) w):=by
 have h3:∀s∈x.P,s<=3:=fun s hs=>by rcases a.p01 s hs with rfl|rfl <;> decide
 have hn:=a.d.n;have hlen:=a.sg.len;have hP:=a.len;have hg:=a.gen;have hq:=a.seq;have hok:=a.sg.ok;obtain⟨l,o1,o2,g,hk,hM⟩:=O.gk h3 (by omega);obtain⟨k1,k2,k3,k4⟩:=a.keys;obtain⟨gb,gf,go⟩:=a.grow;obtain⟨m1,m2⟩:=a.d.most;have hnum:=a.d.num;have hhalf:=a.d.half;have hlo:=IB a.d.nd a.mem;have hkl:KL (EH l) L:=by rw[hk];exact a.kl
 have hroot:(ckG N A x L).1=0 -> -1<=(ckG N A x L).2.1/\(ckG N A x L).2.1<=4294967294:=fun h0=>by
  obtain⟨-,on1,TT,-⟩:=go.resolve_left (fun h=>by have:=h.1;omega);have hl1:=gb.len;obtain⟨S1,td,-⟩:=TT.told on1 (by rw[gb.blen];omega) (by omega);have:=td.rlo;have:=td.rhi;omega
 have hat:R.at'<360:=by
  have h1:=a.d.z;unfold Rj.at';rw[h1];exact qbl _ (by decide)
 have hgrow:∀(z:World) (F1:Mut),Gk w0 z p A x.P F1 (jrK 2 R R.L) x.gen x.root x.n l o1 o2->Ret prog 53 #[ptr p.bs] z fun v w'=>v=.int .i64 (ckG N A x L).1/\∃F' root',Gk w0 w' p (ckG N A x L).2.2.1 (ckG N A x L).2.2.2 F' (jrK 2 R R.L) x.gen root' x.n l o1 o2/\((ckG N A x L).1=0->root'=(ckG N A x L).2.1)/\Grown (Ms F1 p) (Ms F' p) z w':=fun z F1 gz=>by
  have h:=Akt (h:=(N - 362) / 2) (S:=Hj x.P x.P.length) gz hM k1 k3 hkl a.d.okL k4 a.tree a.p01 (Adb _) (YN _) (Afz _) a.sg.on a.sg.good.few (by rw[hlen];exact(MA hn).symm) (by unfold Hm at hlo;omega) m1 m2;rw[hk]at h;exact h
 refine(Afx g hM U hgrow gf hroot (by show R.at'<_;omega) (by show R.seq+R.L.length<_;omega)).mono fun v w' h=>?_
 rcases h with⟨hv,⟨h0,h1,h2⟩,F',o2',g',hM',G'⟩|⟨e,A',F',root',hv,he,hbad,O',hnF,hbs,G'⟩
 .obtain⟨V3,S',a',hl'⟩:=a.done hb h0 h1 h2;refine⟨0,_,F',hv,G',.inl ⟨rfl,R.forget,_,?_,⟨L,S',a'⟩,hl',rfl,rfl,rfl⟩⟩;have hjr:jrK 2 R.forget R.forget.L={ jrK 2 R R.L with taken:=0 }:=Aar hok;rw[<-hjr]at g';exact g'.sok a'.sg ⟨rfl,rfl,rfl,rfl,hk.symm⟩ hM' O.nn (fun q hq=>by cases hq) O.tT (fun y hy=>qas (O.zl y hy) G'.1.size)
 .obtain⟨rfl,hl,hoff,hfw,hbk⟩:=a.cut hb he hbad;exact⟨8,A',F',hv,G',.inr ⟨rfl,⟨O',⟨_,_,_,_,_,_,hbs⟩,hnF,O.ge p.bs (by simp[Sp.own]),hoff,hfw⟩,hl,hbk⟩⟩
end
def C8(N:Nat)(L:List Pr)(W:List Wr):Int:=if 1000<W.length then 6 else if Hl [] W=true then(if Cu N<B0 (DO L W)then 7 else 0)else 1
def Lv(w0 w:World)(p:Sp)(A:Dev)(F:Mut)(N b:Nat)(L:List Pr):Prop :=
 ∃R x M S Ws,Sok w0 w p A R x F/\Alv N A R x M S Ws L b/\x.T<=80000+500*(b:Int)
section
variable {w0 w w':World}{p:Sp}{N b:Nat}{A A':Dev}{M L:List Pr}{F F':Mut}
theorem CkOut.weak{C C':Dev->Rj->Sx->Prop}{Z Z':Dev->Prop}{v:Value}(h:CkOut w0 p F C Z w v w')(hC:∀{A' R' x'},C A' R' x'->C' A' R' x')(hZ:∀{A'},Z A'->Z' A'):CkOut w0 p F C' Z' w v w':=by
 obtain⟨e,A',F',hv,hG,h⟩:=h;exact⟨e,A',F',hv,hG,h.imp (fun⟨h1,R',x',h2,h3⟩=>⟨h1,R',x',h2,hC h3⟩) fun⟨h1,h2,h3⟩=>⟨h1,h2,hZ h3⟩⟩
theorem Lv.call(O:Lv w0 w p A F N b L)(hx:Ext [] w w'):Lv w0 w' p A F N b L :=
 let ⟨R,x,M,S,Ws,h1,h2,h3⟩:=O;⟨R,x,M,S,Ws,h1.call hx,h2,h3⟩
theorem Lv.mono(O:Lv w0 w p A F N b L){b':Nat}(h:b<=b'):Lv w0 w p A F N b' L :=
 let ⟨R,x,M,S,Ws,h1,h2,h3⟩:=O;⟨R,x,M,S,Ws,h1,h2.mono h,by omega⟩
theorem K1{W:List Wr}(h:C8 N L W=0):W.length<=1000/\(∀y∈W,y.Few/\1<=y.k.length)/\(B0 (DO L W):Int)<=Cu N:=by
 unfold C8 at h
 by_cases h1:1000<W.length
 .rw[if_pos h1]at h;cases h
 .rw[if_neg h1]at h
  by_cases h2:Hl [] W=true
  .rw[if_pos h2]at h
   by_cases h3:Cu N<B0 (DO L W)
   .rw[if_pos h3]at h;cases h
   .exact⟨by omega,TK h2,by omega⟩
  .rw[if_neg h2]at h;cases h
def Cut9(w0 w:World)(p:Sp)(A:Dev)(F:Mut)(N b:Nat)(L L':List Pr)(w':World):Prop :=
 A.left ≠ -1/\∃A' F',Dd9 w0 w' p A' F'/\Grown (Ms F p) (Ms F' p) w w'/\∀picks,Bk N b L (onD A' picks)\/Bk N b L' (onD A' picks)
def Got9(w0 w:World)(p:Sp)(A:Dev)(F:Mut)(N b:Nat)(L':List Pr)(w':World):Prop :=
 ∃A' F',Lv w0 w' p A' F' N b L'/\Grown (Ms F p) (Ms F' p) w w'/\(A.left = -1->A'.left = -1)
theorem YO(O:Lv w0 w p A F N b L)(a:Option Addr)(nn c:Nat)(W:List Wr)(X:Wrs w (Ms F p) a nn c W)(hb:b<=5000:=by omega)(hnn:nn<=1000000000:=by omega):
  Ret prog 13 #[ptr p.bs,.slice a nn c] w fun v w'=>(v=.int .i64 (C8 N L W)/\Got9 w0 w p A F N (b+2) (if C8 N L W=0 then DO L W else L) w')\/(v=.int .i64 8/\C8 N L W=0/\W≠[]/\Cut9 w0 w p A F N (b+2) L (DO L W) w'):=by
 obtain⟨R,x,M,S,Ws,O,a1,hT⟩:=O;have hlen:=a1.sg.len;have hr:Eh x.kv x.n (Cu A.B.length) W=C8 N L W:=by rw[hlen,a1.n];exact a1.kl.right _ _
 have hz:=a1.d.z;refine(Nx (C:=fun A1 R1 x1=>(∃M' S' Ws',Alv N A1 R1 x1 M' S' Ws' L (b+1))/\(A.left = -1->A1.left = -1)/\x1.kv=x.kv/\x1.n=x.n/\x1.T=x.T/\BD R1.L+blk (opB W).length<=R1.size) (Z:=CkZ N A L (b+1)) O a nn c W X hnn (by omega) (fun⟨⟨M',S',Ws',h1⟩,h2,h3,h4,h5,h6⟩=>⟨h3,h4,h5,h1.sg.len.trans hlen.symm,h6⟩) (fun _ _ h=>⟨⟨M,S,Ws,a1.mono (qdd b)⟩,id,rfl,rfl,rfl,h⟩) (fun w1 hx h0 _ _=>(TS (O.call hx) a1).mono fun v w' h=>h.weak (fun⟨⟨M',S',h1⟩,h2,h3,h4,h5⟩=>⟨⟨M',S',[],h1⟩,h2,h3,h4,h5,?_⟩) id)).mono fun v w' h=>?_
 .rw[hr]at h0;obtain⟨r1,r2,-⟩:=K1 h0;have h6:=Ox (L:=W) fun y hy=>(r2 y hy).1;have h7:=Et (opB W).length;have h8:=h1.d.ws;rw[h8,h1.d.z];show 0+blk _<=360;unfold blk at h7 |-;omega
 .unfold Aom at h;rw[hr]at h
  rcases h with⟨hv,h,O',hx⟩|⟨h0,hne,hv,A1,R1,x1,A',F',V',⟨⟨M',S',Ws',h1⟩,h2,h3,h4,h5,-⟩,O',hln,hle,hV,G⟩|⟨h0,hne,hv,A',F',O',G,h⟩
  .refine .inl ⟨hv,A,F,?_,Grown.call hx,id⟩
   have hL:(if C8 N L W=0 then DO L W else L)=L:=by
    rcases h with h|rfl
    .rw[if_neg h]
    .split <;> rfl
   rw[hL];exact⟨R,x,M,S,Ws,O',a1.mono (by omega),by omega⟩
  .obtain⟨r1,r2,r3⟩:=K1 h0
   have g:SG N A' (R1.more (opB W)) V':=by
    have:=O'.good;rw[hln,hlen]at this;exact this
   have h9:=h1.more (T:=x1.T+W.length) ⟨r1,r2⟩ r3 g fun q q1 q2=>hV q q1 (by omega);refine .inl ⟨by rw[hv,h0],A',F',?_,G,fun h=>hle (h2 h)⟩;rw[if_pos h0];exact⟨_,_,M',S',_,O',h9,by show x1.T+W.length<=_;omega⟩
  .obtain⟨r1,r2,r3⟩:=K1 h0
   rcases h with h|⟨A1,R1,x1,⟨⟨M',S',Ws',h1⟩,h2,h3,h4,h5,-⟩,h6,h7⟩
   .exact .inr ⟨hv,h0,hne,h.1,A',F',O',G,fun picks => .inl ((h.2 picks).mono (by omega))⟩
   .refine .inr ⟨hv,h0,hne,fun h=>h6 (h2 h),A',F',O',G,fun picks=>?_⟩;obtain⟨q1,V',q2,q3⟩:=h7 picks;rw[hlen]at q2 q3;exact h1.torn ⟨r1,r2⟩ r3 q1 q2 q3
theorem Aa0(O:Lv w0 w p A F N b L)(hb:b<=5000:=by omega):
  Ret prog 16 #[ptr p.bs] w fun v w'=>(v=.int .i64 0/\Got9 w0 w p A F N (b+2) L w')\/(v=.int .i64 8/\Cut9 w0 w p A F N (b+2) L L w'):=by
 obtain⟨R,x,M,S,Ws,O,a1,hT⟩:=O;refine(TS O a1).mono fun v w' ⟨e,A',F',hv,G,h⟩=>?_
 rcases h with⟨rfl,R',x',O',⟨M',S',h1⟩,h2,h3,h4,h5⟩|⟨rfl,O',h1,h2⟩
 .exact .inl ⟨hv,A',F',⟨R',x',M',S',[],O',h1.mono (by omega),by omega⟩,G,h2⟩
 .exact .inr ⟨hv,h1,A',F',O',G,fun picks => .inl ((h2 picks).mono (by omega))⟩
theorem Akv(O:Lv w0 w p A F N b L)(a:Option Addr)(c:Nat)(k:Byt)(Rk:Rd w a 1 B8 k) :
  Ret prog 26 #[ptr p.bs,.slice a k.length c] w fun v w'=>∃a' c',v=.tuple #[.slice a' ((DQ L k).getD []).length c',.bool (DQ L k).isSome,.int .i64 0]/\Rd w' a' 1 B8 ((DQ L k).getD [])/\Ext [] w w':=by
 obtain⟨R,x,M,S,Ws,O,a1,hT⟩:=O;refine(W5 O a c k Rk).mono fun v w' ⟨a',c',hv,hR,_,hx⟩=>?_;rw[a1.kl.get]at hv hR;exact⟨a',c',hv,hR,hx⟩
theorem Aa1(O:Lv w0 w p A F N b L):Ret prog 25 #[ptr p.bs] w fun v w'=>v=.int .i64 (B0 L:Int)/\w=w':=by
 obtain⟨R,x,M,S,Ws,O,a1,hT⟩:=O;have h:=Vw O;rw[a1.n]at h;exact h
theorem Lv.nums(O:Lv w0 w p A F N b L):442<=N/\N<=841/\L.length<=10000/\B0 L<=50000/\(B0 L:Int)<=Cu N/\Rising L/\OkP L:=by
 obtain⟨R,x,M,S,Ws,O,a1,hT⟩:=O;exact⟨a1.d.n.1,a1.d.n.2,a1.d.num.1,a1.d.num.2,a1.d.room,a1.d.riseL,a1.d.okL⟩
theorem Af0(O:Lv w0 w p A F N b L)(fa ta:Option Addr)(fc tc:Nat)(kf kt:Byt)(Rf:Rd w fa 1 B8 kf)(Rt:Rd w ta 1 B8 kt) :
  Ret prog 20 #[ptr p.bs,.slice fa kf.length fc,.slice ta kt.length tc] w fun v w'=>∃a c,v=.tuple #[.slice a (MR kf kt L).length c,.int .i64 0]/\Prs w' (Old w) a (MR kf kt L).length c (MR kf kt L)/\Ext [] w w':=by
 have hn:=O.nums;obtain⟨R,x,M,S,Ws,O,a1,hT⟩:=O;refine(YA O a1.kl.nd (by rw[a1.kl.len];omega) fa ta fc tc kf kt Rf Rt).mono fun v w' ⟨a',c',hv,hP,_,hx⟩=>?_;rw[a1.kl.scan]at hv hP;exact⟨a',c',hv,hP,hx⟩
theorem Lv.off(O:Lv w0 w p A F N b L)(picks:List Int):Bk N b L (onD (MF A) picks):=by
 obtain⟨R,x,M,S,Ws,O,a1,hT⟩:=O;exact a1.off picks
theorem Lv.bs(O:Lv w0 w p A F N b L):Own w0 w p.bd A F/\Bs N b L A:=by
 obtain⟨R,x,M,S,Ws,O,a1,hT⟩:=O;exact⟨O.jone.own,R,x.V,x.gen,x.root,M,S,Ws,a1.sg,a1.d,a1.gen,a1.seq.1,a1.seq.2⟩
end
end Go.Proofs.YtcpgbcabmcbclaaGreatDoor
