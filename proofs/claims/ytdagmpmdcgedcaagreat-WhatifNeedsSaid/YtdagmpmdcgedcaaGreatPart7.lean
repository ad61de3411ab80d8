/- Part 7 of the proof. -/
import Derived.Test.YtdagmpmdcgedcaaGreatPart6
set_option maxRecDepth 20000
set_option maxHeartbeats 8000000
namespace Go.Proofs.YtdagmpmdcgedcaaGreat
open Go.GV Tryz
attribute [local irreducible] AN W Wq Wt
def Kq(c c':Nat->Int)(i j:Nat):Int:=if j<i then c' j else c j
def flW(g:Gr)(c' x p:Nat->Int)(i j:Nat):Int:=if j<i then Ll g c' x p j else x j
theorem YP{c c':Nat->Int}{i j:Nat}(h:j≠i):Kq c c' (i+1) j=Kq c c' i j:=by unfold Kq;split <;> split <;> first|rfl|omega
theorem Afd{g:Gr}{c' x p:Nat->Int}{i j:Nat}(h:j≠i):flW g c' x p (i+1) j=flW g c' x p i j:=by unfold flW;split <;> split <;> first|rfl|omega
abbrev FL(bf bo n N:Nat)(x ov:Nat->Int)(ae:Option Addr)(full:List Value):List (Nat × Obj):=(bf,Bl 2 (Ce x n))::(bo,Bl 2 (Ce ov N))::ent ae 59 full
theorem Afe{w:World}{bs:Nat}{N:Nat}{ae aw:Option Addr}{ce cw bf bp bo k:Nat}{kk:Int}{es:List Ed}{c x p ov:Nat->Int}{full:List Value}(H0:Ctx w ((FL bf bo es.length N x ov ae full).map (·.1)) w (FL bf bo es.length N x ov ae full))(O:OS ae es.length ce 4 full ((esC es c).flatMap CJ))(hs:w.heap[bs]?=some (Bl 254 (SC N ae es.length ce bf bp bo kk)))(hbs:bs∉(FL bf bo es.length N x ov ae full).map (·.1))(hp:w.heap[bp]?=some (Bl 2 (Ce p N)))(hbp:bp∉(FL bf bo es.length N x ov ae full).map (·.1))(Rw:Rd w aw 4 CJ es)(hRw:es≠[]->(adr aw).block∉(FL bf bo es.length N x ov ae full).map (·.1))(hr:Cv (N:Int) es=true)(hc:∀i,i<es.length->2*c i<=GW es k i/\GW es k i<=2*c i+1)(hF:Fine (grE (N:Int) es) c x p)(hx0:∀v,v<N->BP (grE (N:Int) es) x v=0)(hov:∀v,v<N->ov v=0)(hpb:∀v,v<N -> -1073741824<=p v/\p v<=1073741824)(hk:k<=64:=by omega):
  Ret prog 211 #[ptr bs,Dx (N:Int) aw es.length cw,.int .i64 (k:Int)] w fun v w'=>v=.tuple #[]/\∃full',OS ae es.length ce 4 full' ((esC es (GW es k)).flatMap CJ) /\
   Ctx w ((FL bf bo es.length N x ov ae full).map (·.1)) w' (FL bf bo es.length N (Ll (grE (N:Int) es) (GW es k) x p) (BP (grE (N:Int) es) (Ll (grE (N:Int) es) (GW es k) x p)) ae full'):=by
 obtain⟨w0,rfl⟩:=qD w;obtain⟨ids,hids⟩:=qD ((FL bf bo es.length N x ov ae full).map (·.1));rw[<-hids]at H0 hbs hbp hRw |-;have H:=H0;obtain⟨hN1,hN40,hn200,hall,-⟩:=CB hr;obtain⟨g,hg⟩:=qD (grE (N:Int) es);obtain⟨c',hc'⟩:∃c',c'=GW es k:=⟨_,rfl⟩;have hgE:g.E=es.length:=by rw[hg];rfl
 have hgo:g.Ok:=by rw[hg];exact Kn hr
 have hin:=P8 hr k;have hcb:=P9 hr;rw[<-hg]at hF hx0 |-;rw[<-hc']at hc hin |-;have hF2:=Q5 hF (cap':=c') (fun i hi=>hc i (by rw[<-hgE];exact hi))
 have hxb:∀i,i<es.length->0<=x i/\2*x i<=c' i/\c' i<=4503599627370496:=fun i hi=>by
  have h1:=hF.in' i (by rw[hgE];exact hi);have h2:=hc i hi;have h3:=hin i hi;have h4:=hcb i hi;omega
 have hmix:∀i v,-900719925474099200<=BP g (Jw g c' x p i) v/\BP g (Jw g c' x p i) v<=900719925474099200:=fun i v=>YO (fun j hj=>by
  have h1:=hxb j (by rw[<-hgE];exact hj);have h2:=hF2.in' j hj;unfold Jw
  split <;> omega) v
 refine A2 (fn:=f211) func211 U [.pointer (some ⟨bs,0,none⟩),Dx (N:Int) aw es.length cw,.int .i64 (k:Int)] U ?_;refine Ad (Bu [.int .i64 (N:Int),.slice aw es.length cw] (.agg _) U U H ?_);rintro b4 w - H;refine qA (Ad (A9 U (AP U (Ah F8 U (Ba Cc U ((by rw[An (H.ext.to hs hbs)];rfl)) ?_)))));refine AU AR U (Ae U (qA (Ax (Bn 21778071482940061661655974875633165517248 (α:=Nat × List Value) (fun t=>[(14,.int .i64 (t.1:Int))]) (fun t w'=>t.1<=es.length/\OS ae es.length ce 4 t.2 ((esC es (Kq c c' t.1)).flatMap CJ)/\Ctx w0 ids w' ((b4,Bl 51 [.int .i64 (N:Int),.slice aw es.length cw])::FL bf bo es.length N (flW g c' x p t.1) (BP g (Jw g c' x p t.1)) ae t.2)) (fun t=>es.length - t.1) (0,full) U ?_ ?_ ?_))))
 .exact⟨rfl,trivial⟩
 .refine⟨qaf _,?_,?_⟩
  .rw[LO (d:=c) fun i _=>by unfold Kq;rw[if_neg (qaw _)]];exact O
  .have e1:Ce (flW g c' x p 0) es.length=Ce x es.length:=qbi fun i _=>by unfold flW;rw[if_neg (qaw _)]
   have e2:Ce (BP g (Jw g c' x p 0)) N=Ce ov N:=qbi fun v hv=>by
    have hv:=qaz.1 hv;rw[Aes (hx0 v hv),hov v hv]
   dsimp only[FL];rw[e1,e2];exact H
 .rintro⟨i,full1⟩ j w ⟨hi,O,H⟩;dsimp only at hi O H;dsimp only;refine Ad (AZ U U (qA (Ap (Av _ U ?_ ?_))))
  .intro h1;replace h1:=AJ h1;have hil:i<es.length:=by omega
   obtain⟨e,he⟩:=AB (h:=hil);have hee:=Em (hall e (qac he));obtain⟨un,hun⟩:∃un:Nat,e.f=un:=⟨e.f.toNat,by omega⟩;obtain⟨vn,hvn⟩:∃vn:Nat,e.t=vn:=⟨e.t.toNat,by omega⟩;obtain⟨cc,hcc⟩:∃cc:Nat,e.cap=cc:=⟨e.cap.toNat,by omega⟩;have hgf:g.f i=un:=by rw[hg];show(es.getD i e0).f.toNat=un;rw[Br he,hun];rfl
   have hgt:g.t i=vn:=by rw[hg];show(es.getD i e0).t.toNat=vn;rw[Br he,hvn];rfl
   have hgc:g.co i=e.cost:=by rw[hg];show(es.getD i e0).cost=_;rw[Br he]
   have hck:c' i=((cc / 2 ^ k:Nat):Int):=by
    rw[hc'];unfold GW CA;rw[Br he,hcc];rfl
   have hunN:un<N:=by omega
   have hvnN:vn<N:=by omega
   obtain⟨q,rfl⟩:=O.form (by omega);have hxi:=hxb i hil;obtain⟨xi,hxie⟩:=qD (x i);obtain⟨ck,hcke⟩:=qD (c' i);rw[<-hxie,<-hcke]at hxi;rw[<-hcke]at hck;have hgx:(tab (flW g c' x p i) es.length)[i]?=some xi:=by rw[Cd hil,hxie];unfold flW;rw[if_neg (qei _)]
   have hcap2:(CJ e)[2]?=some (.int .i64 (cc:Int)):=by unfold CJ;rw[hcc];rfl
   have hes:es≠[]:=fun h=>by rw[h]at he;cases he
   have hqn:=O.le;have hOl:=O.len;refine Aq (Aa (Ap (Ax (Ad (Ae U (Af U (qA (Ad (A9 U (AP U ?_))))))))));refine Ah HM U (Ah C8 U (Ba DO U ((by rw[An (H.ext.to hs hbs)];rfl)) ?_));refine Ae U (Bq CU CW U U ?_);refine BE U (qA (Ad (A9 U (AP U (Ah F8 U (Ba Cc U ((by rw[An (H.ext.to hs hbs)];rfl)) ?_))))));refine Ae U (Bq AR Bt U U ?_);refine Ba Bm U (((CE (H.get at1)).fld hgx U (j:=0) U)) (D8 U U ?_);refine Bq AR Bt U U (Cl i (fun z => .int .i64 (if z=i then xi*2 else flW g c' x p i z)) (.int _ _) Bt U U U H at1 (by simp) (hk:=hil) (by rw[if_pos rfl]) (fun z _ hz=>by rw[if_neg hz]) ?_);rintro w H;refine qA (Ad (A9 U (Ah C8 U (AG DO U H at0 U (Ae U (AM Rw CU CW U U (by rfl) ?_))))))
   refine Ah DX U (Ba Bm U (((Rw.ext H.ext (hRw hes)).fld he U (j:=2) hcap2)) ?_);refine Ae U (Kd (a:=cc) (n:=k) U U U ?_);rw[<-hck];refine AP U (Ah DX U (Cz (.int _ _) Bt U U U H at3 (by omega) ?_));rintro w H;refine qA ?_;rw[show 0+((i:Int)).toNat*4+2=i*4+2 by omega]at H;have O1:=OS.setf O (y:=edC es (Kq c c' (i+1)) i) (j:=2) (v := .int .i64 ck) (fun _=>rfl) (Kp (c:=Kq c c' i) hil) (by decide) (by unfold edC CJ Kq;dsimp only;rw[if_pos (by omega),<-hcke];rfl);rw[YM rfl (fun j _ hj=>YP hj)]at O1;obtain⟨full2,hf2⟩:=qD (full1.set (i*4+2) (.int .i64 ck));rw[<-hf2]at O1;replace H:Ctx w0 ids w ((b4,Bl 51 [.int .i64 (N:Int),.slice aw es.length cw])::(bf,Bl 2 (Ce (fun z=>if z=i then xi*2 else flW g c' x p i z) es.length))::(bo,Bl 2 (Ce (BP g (Jw g c' x p i)) N))::[(q,Bl 59 full2)]):=by rw[hf2];exact H
   have hrow:=Kp (c:=Kq c c' (i+1)) hil
   have henc:CJ (edC es (Kq c c' (i+1)) i)=[.int .i64 (un:Int),.int .i64 (vn:Int),.int .i64 ck,.int .i64 e.cost]:=by
    unfold edC CJ Kq;rw[Br he];dsimp only;rw[if_pos (by omega),hun,hvn,<-hcke]
   have hfin:Ll g c' x p i=if 2*xi<ck/\e.cost+p un - p vn<0 then ck else 2*xi:=by
    unfold Ll;rw[hgc,hgf,hgt,<-hxie,<-hcke]
   have hms:=fun v=>Aet (g:=g) (cap':=c') (x:=x) (p:=p) (k:=i) v;rw[hgf,hgt,<-hxie]at hms;obtain⟨pu,hpu⟩:=qD (p un);obtain⟨pv,hpv⟩:=qD (p vn);have hpbu:=hpb un hunN;have hpbv:=hpb vn hvnN;rw[<-hpu]at hpbu hfin;rw[<-hpv]at hpbv hfin;have hgpu:(tab p N)[un]?=some pu:=by rw[Cd hunN,hpu]
   have hgpv:(tab p N)[vn]?=some pv:=by rw[Cd hvnN,hpv]
   have hgx2:(tab (fun z=>if z=i then xi*2 else flW g c' x p i z) es.length)[i]?=some (xi*2):=by rw[Cd hil,if_pos rfl]
   have RP:=CE hp;have hRE:∀{z:World},z.heap[q]?=some (Bl 59 full2)->Rd z (some ⟨q,0,none⟩) 4 CJ (esC es (Kq c c' (i+1))):=fun h=>O1.rd (t:=59) (fun y hy=>by have hy:=qab.1 hy;rw[hy];exact h) (fun _ _=>rfl) (by decide);have RE:=hRE (H.drew.get at3);refine Eo 38685626227650541404553216 (α:=Unit) (fun _=>[(84,.bool (decide (xi*2<ck/\e.cost+pu - pv<0)))]) (fun _ w'=>Ctx w0 ids w' ((b4,Bl 51 [.int .i64 (N:Int),.slice aw es.length cw])::(bf,Bl 2 (Ce (fun z=>if z=i then xi*2 else flW g c' x p i z) es.length))::(bo,Bl 2 (Ce (BP g (Jw g c' x p i)) N))::[(q,Bl 59 full2)])) U ?_ ?_
   .skip
    refine TV (fun x=>x=_) Bs U ?_;refine BO U (Bh U (A3 F8 U (BF Cc U (by rintro _ rfl;exact((by rw[An (H.drew.ext.to hs hbs)];rfl))) ?_)));refine AY U (Bd AR Bt U U ?_);refine BF Bm U (by rintro _ rfl;exact(((CE (H.drew.get at1)).fld hgx2 rfl (j:=0) rfl))) ?_;refine BO U (Bh U (A3 DX U (BF Bm U (by rintro _ rfl;exact((RE.fld hrow rfl (j:=2) (by rw[henc];rfl)))) ?_)));refine K8 U U (Co U (DE 56 U ?_ ?_))
    .intro h1;replace h1:=AJ h1;refine BO U (Bh U (A3 EZ U (BF Bm U (by rintro _ rfl;exact((RE.fld hrow rfl (j:=3) (by rw[henc];rfl)))) ?_)));refine BO U (Bh U (A3 F9 U (BF Cc U (by rintro _ rfl;exact((by rw[An (H.drew.ext.to hs hbs)];rfl))) ?_)));refine BO U (Bh U (A3 EX U (BF B6 U (by rintro _ rfl;exact((RE.fld hrow rfl (j:=0) (by rw[henc];rfl)))) ?_)));refine Bd AR Bt U U ?_;refine BF Bm U (by rintro _ rfl;exact(((RP.ext H.drew.ext hbp).fld hgpu rfl (j:=0) rfl))) ?_;refine CX U U ?_;refine BO U (Bh U (A3 F9 U (BF Cc U (by rintro _ rfl;exact((by rw[An (H.drew.ext.to hs hbs)];rfl))) ?_)));refine BO U (Bh U (A3 EY U (BF B6 U (by rintro _ rfl;exact((RE.fld hrow rfl (j:=1) (by rw[henc];rfl)))) ?_)));refine Bd AR Bt U U ?_
     refine BF Bm U (by rintro _ rfl;exact(((RP.ext H.drew.ext hbp).fld hgpv rfl (j:=0) rfl))) ?_;refine Dp U U (K8 U U (Gb U (.bool _) U (BM ?_)));rintro _ rfl;replace H:=H.drew;refine Aa ?_;exact⟨(),rfl,⟨qaa Value.bool (by clear hgx hgx2 hgpu hgpv hcke hxie hpu hpv hms hmix hxb hfin henc hrow hgf hgt hgc;rw[qad];simp_all;try omega),trivial⟩,H⟩
    .intro h2;replace h2:=AK h2;refine A4 U (A4 U (A4 U (A4 U (A4 U (A4 U (A4 U (A4 U (A4 U (A4 U ?_)))))))));refine A4 U (A4 U (A4 U (A4 U (A4 U (A4 U (A4 U (A4 U (A4 U (A4 U ?_)))))))));refine A4 U (A4 U (A4 U (A4 U (A4 U (A4 U (A4 U (D6 U (.bool _) U (BM ?_))))))));rintro _ rfl;replace H:=H.drew;refine Aa ?_;exact⟨(),rfl,⟨qaa Value.bool (by clear hgx hgx2 hgpu hgpv hcke hxie hpu hpv hms hmix hxb hfin henc hrow hgf hgt hgc;rw[qad];simp_all;try omega),trivial⟩,H⟩
   .rintro - j6 w H;refine Av _ U ?_ ?_
    .intro h2;have h2:=qbd h2;rw[if_pos ⟨by omega,h2.2⟩]at hfin;have ob1:=hmix i un;have ob2:=hmix i vn;have ob3:=hmix (i+1) un;have ob4:=hmix (i+1) vn;obtain⟨ov1,hov1⟩:=qD (BP g (Jw g c' x p i));have hgo2:(tab ov1 N)[vn]?=some (ov1 vn):=Cd hvnN;have hgo1:(tab (upd ov1 vn (ov1 vn+(ck - xi*2))) N)[un]?=some (upd ov1 vn (ov1 vn+(ck - xi*2)) un):=Cd hunN;rw[<-hov1]at ob1 ob2 H;rw[hms,hfin,<-hov1]at ob3 ob4
     have ob5:upd ov1 vn (ov1 vn+(ck - xi*2)) un=ov1 un+(ck - xi*2)*one (vn=un):=by
      by_cases e:un=vn
      .rw[e,D0,Fj rfl];omega
      .rw[EM e,E4 (Ne.symm e)];omega
     have ob6:∀u,one (vn=u)=0\/one (vn=u)=1:=fun u=>by unfold one;split <;> omega
     have ob7:=ob6 un
     have ob8 : -1801439850948198400<=upd ov1 vn (ov1 vn+(ck - xi*2)) un/\upd ov1 vn (ov1 vn+(ck - xi*2)) un<=1801439850948198400:=by
      rw[ob5]
      rcases ob7 with h|h <;> rw[h] <;> omega
     refine CN (fun x=>x=_) Bs U ?_;refine BO U (Bh U (A3 DX U (BF Bm U (by rintro _ rfl;exact(((hRE (H.drew.get at3)).fld hrow rfl (j:=2) (by rw[henc];rfl)))) ?_)));refine BO U (Bh U (A3 F8 U (BF Cc U (by rintro _ rfl;exact((by rw[An (H.drew.ext.to hs hbs)];rfl))) ?_)));refine AY U (Bd AR Bt U U ?_);refine BF Bm U (by rintro _ rfl;exact(((CE (H.drew.get at1)).fld hgx2 rfl (j:=0) rfl))) ?_;refine Dp U U (C6 U (BM ?_));rintro _ rfl;replace H:=H.drew;refine Ad (A9 U (AP U (Ah F8 U (Ba Cc U ((by rw[An (H.ext.to hs hbs)];rfl)) ?_))));refine Ae U (Bq AR Bt U U ?_);refine Ba Bm U (((CE (H.get at1)).fld hgx2 U (j:=0) U)) (Ae U (Aw U U ?_));refine Bq AR Bt U U ?_
     refine Cl i (fun z => .int .i64 (if z=i then ck else flW g c' x p i z)) (.int _ _) Bt U U U H at1 (by simp) (hk:=hil) (by rw[if_pos rfl];congr 1;omega) (fun z _ hz=>by dsimp only;rw[if_neg hz,if_neg hz]) ?_;rintro w H;refine qA (EB 13 Bs U U ?_);refine BO U (Bh U (A3 HO U (BF Cc U (by rintro _ rfl;exact((by rw[An (H.drew.ext.to hs hbs)];rfl))) ?_)));refine BO U (Bh U (A3 EY U (BF B6 U (by rintro _ rfl;exact(((hRE (H.drew.get at3)).fld hrow rfl (j:=1) (by rw[henc];rfl)))) ?_)));refine Bd AR Bt U U ?_;refine BF Bm U (by rintro _ rfl;exact(((CE (H.drew.get at2)).fld hgo2 rfl (j:=0) rfl))) ?_;refine AY U (CX U U ?_);refine Bd AR Bt U U (BM ?_);replace H:=H.drew
     refine Cl vn (fun z => .int .i64 (upd ov1 vn (ov1 vn+(ck - xi*2)) z)) (.int _ _) Bt U U U H at2 (by simp) (hk:=hvnN) (by rw[D0]) (fun z _ hz=>by rw[EM hz]) ?_;rintro w H;refine qA (FK 13 Bs U U ?_);refine BO U (Bh U (A3 HO U (BF Cc U (by rintro _ rfl;exact((by rw[An (H.drew.ext.to hs hbs)];rfl))) ?_)));refine BO U (Bh U (A3 EX U (BF B6 U (by rintro _ rfl;exact(((hRE (H.drew.get at3)).fld hrow rfl (j:=0) (by rw[henc];rfl)))) ?_)));refine Bd AR Bt U U ?_;refine BF Bm U (by rintro _ rfl;exact(((CE (H.drew.get at2)).fld hgo1 rfl (j:=0) rfl))) ?_;refine AY U (Dp U U ?_);refine Bd AR Bt U U (BM ?_);replace H:=H.drew
     refine Cl un (fun z => .int .i64 (upd (upd ov1 vn (ov1 vn+(ck - xi*2))) un (upd ov1 vn (ov1 vn+(ck - xi*2)) un - (ck - xi*2)) z)) (.int _ _) Bt U U U H at2 (by simp) (hk:=hunN) (by rw[D0]) (fun z _ hz=>by rw[EM hz]) ?_;rintro w H;refine Ab (A7 (Aa (Ay (Aw U U ?_))));refine Ae U (qA ?_)
     have e1:Ce (fun z=>if z=i then ck else flW g c' x p i z) es.length=Ce (flW g c' x p (i+1)) es.length:=qbi fun z _=>by
      dsimp only
      by_cases e:z=i
      .subst e;rw[if_pos rfl];unfold flW;rw[if_pos (by omega),hfin]
      .rw[if_neg e,Afd e]
     have e2:Ce (upd (upd ov1 vn (ov1 vn+(ck - xi*2))) un (upd ov1 vn (ov1 vn+(ck - xi*2)) un - (ck - xi*2))) N=Ce (BP g (Jw g c' x p (i+1))) N:=qbi fun z _=>by
      congr 1
      rw[hms,hfin,<-hov1]
      by_cases e:z=un
      .subst e;rw[D0,ob5,Fj rfl]
       rcases ob7 with h|h <;> rw[h] <;> omega
      .rw[EM e,E4 (p:=un=z) (Ne.symm e)]
       by_cases e3:z=vn
       .subst e3;rw[D0,Fj rfl];omega
       .rw[EM e3,E4 (Ne.symm e3)];omega
     refine⟨(i+1,full2),rfl,⟨rfl,trivial⟩,⟨by dsimp only;omega,O1,?_⟩,by dsimp only;omega⟩;dsimp only[FL];rw[<-e1,<-e2];exact H
    .intro h2;have h2:=qbk h2;rw[if_neg (fun h=>h2 ⟨by omega,h.2⟩)]at hfin;refine Aq (A7 (Aa (Ay (Aw U U ?_))));refine Ae U (qA ?_)
     have e1:Ce (fun z=>if z=i then xi*2 else flW g c' x p i z) es.length=Ce (flW g c' x p (i+1)) es.length:=qbi fun z _=>by
      dsimp only
      by_cases e:z=i
      .subst e;rw[if_pos rfl];unfold flW;rw[if_pos (by omega),hfin];congr 1;omega
      .rw[if_neg e,Afd e]
     have e2:Ce (BP g (Jw g c' x p i)) N=Ce (BP g (Jw g c' x p (i+1))) N:=qbi fun z _=>by
      congr 1
      rw[hms,hfin,Int.sub_self,Int.zero_mul,qca]
     refine⟨(i+1,full2),rfl,⟨rfl,trivial⟩,⟨by dsimp only;omega,O1,?_⟩,by dsimp only;omega⟩;dsimp only[FL];rw[<-e1,<-e2];exact H
  .intro h1;replace h1:=AK h1;refine Be (Aj (Aj (AH (Dd U U ?_))));obtain rfl:i=es.length:=by omega
   rw[LO (d:=c') fun i hi=>by unfold Kq;rw[if_pos hi]]at O
   have e1:Ce (flW g c' x p es.length) es.length=Ce (Ll g c' x p) es.length:=qbi fun z hz=>by
    unfold flW;rw[if_pos (qaz.1 hz)]
   have e2:Ce (BP g (Jw g c' x p es.length)) N=Ce (BP g (Ll g c' x p)) N:=qbi fun z _=>by
    congr 1
    refine M6 (fun i hi=>?_) z;rw[<-hgE];exact Ai4 hi
   refine⟨rfl,full1,O,?_⟩;have H:=H.tail;dsimp only[FL]at H |-;rw[e1,e2]at H;exact H
section
variable {P:Program}{r:Option Nat}{ops rest:List Oper}{Q:Exit->Env->World->Prop}{e:Env}{w:World}{dst:Option Tmp}{ty:TypeId}{pos:String}{af:Array Edge}{gd:Option (Nat × Bool)}{t t2:TypeId}{x y:Operand}{a b:Int}
theorem OY(hg:Bc ⟨dst,.binOp .add t x y t2,ty,pos,af,gd⟩ ops e=true)(hx:ev e x=.int .i64 a)(hy:ev e y=.int .i64 b)(h:∀z,AN P r ops Q rest (put e dst (.int .i64 z)) w):AN P r ops Q (⟨dst,.binOp .add t x y t2,ty,pos,af,gd⟩::rest) e w:=BU (v := .int .i64 (IntKind.i64.wrap (a+b))) hg rfl (Cn hx hy (by simp[binOp,Op.intArith])) (h _)
theorem Aaj{D1 D2:Nat}{ds:List Deferred}{K:World->Prop}(h2:w.heap[D2]?=some (.deferred (some [])))(h1:w.heap[D1]?=some (.deferred (some [])))(hne:D1≠D2)(hds:ds=[{ target := .collected D2,args:=#[] },{ target := .collected D1,args:=#[] }])(hK:∀wF,Ext [D2,D1] w wF->K wF):Marks ds w K:=by
 subst hds;have x2:=Ext.setB w D2 (.deferred none);have x1:=Ext.setB (w.putObj D2 (.deferred none)) D1 (.deferred none);refine⟨D2,rfl,h2,D1,rfl,x2.to h1 (by rw[qab];exact hne),hK _ ((x2.mono (by simp)).trans (x1.mono (by simp)))⟩
end
theorem Rd.map{α β:Type}{w:World}{a:Option Addr}{s:Nat}{enc:α->List Value}{f:β->α}{xs:List β}(R:Rd w a s (fun x=>enc (f x)) xs):Rd w a s enc (xs.map f):=by
 refine⟨fun h=>R.some' fun h'=>h (by rw[h'];rfl),fun i x hx j v hv hj=>?_⟩;rw[qa1]at hx;obtain⟨y,hy,rfl⟩:=qdn.1 hx;exact R.cell i y hy j v hv hj
def V5(g:Gr)(v:Nat)(l:List Nat):Nat:=l.foldl (fun _ a=>g.u a) v
theorem Aak{g:Gr}{v i a:Nat}{l:List Nat}(h:l[i]?=some a):V5 g v (l.take (i+1))=g.u a:=by
 unfold V5;rw[CP h,qej];rfl
theorem Tf{g:Gr}{cap x p:Nat->Int}{s:Lb}{by':Nat->Option Nat}(hB:Bys g cap x p s by'):∀{k v:Nat},s.d v ≠ -1->s.h v=k->V5 g v (EK by' g k v)=OU by' g k v
 |0,_,_,_=>rfl
 |k+1,v,hd,hk=>by
  obtain⟨a,h1,h2,h3⟩:=hB.2 v hd (by omega);have hh:=h2.h;rw[h3,hk]at hh;obtain⟨e1,e2⟩:=Ix (g:=g) (k:=k) h1;rw[e1,e2,<-Tf hB h2.du (by omega)];rfl
theorem Aal{m:Int}{x:Nat->Int}{l:List Nat}{i a:Nat}(h:l[i]?=some a):Gs m x (l.take (i+1))=JE m (Gs m x (l.take i)) a:=by
 unfold Gs;rw[CP h,qej];rfl
theorem OZ{N:Int}{es:List Ed}{x p:Nat->Int}(hr:Cv N es=true)(h:Fine (grE N es) (CA es) x p):Cf N es (tab x es.length)=true:=by
 have h1:=Afc (c:=CA es) (x:=x) hr (fun i hi=>by have:=P9 hr i hi;omega) (fun i hi=>h.in' i hi);rw[QH]at h1;exact h1
theorem Ajx{N:Nat}{p:Nat->Int}(hp:∀v,v<N -> -1073741824<=p v/\p v<=1073741824):FQ (N:Int) (tab p N)=true:=by
 unfold FQ;rw[CY,qal rfl,qdo];refine qas.2 fun x hx=>?_;obtain⟨i,hi⟩:=qdj hx;obtain⟨h1,rfl⟩:=NZ hi;have:=hp i h1;unfold LZ;simp only[qae,qam];omega
theorem Ctx.ltI{w0 w:World}{S:List Nat}{L:List (Nat × Obj)}(H:Ctx w0 S w L):∀b∈L.map (·.1),b<w.heap.size:=fun b hb=>by
 obtain⟨y,hy,rfl⟩:=qah.1 hb;exact Bf (H.blk y hy)
theorem Ht{L L':List (Nat × Obj)}(h:(L++L').Pairwise (fun x y=>x.1≠y.1)){x:Nat × Obj}(hx:x∈L'):x.1∉L.map (·.1):=fun hm=>by
 obtain⟨y,hy,he⟩:=qah.1 hm;exact(qbz.1 h).2.2 y hy x hx he
theorem Aam{α:Type}{R:α->α->Prop}{l:List α}(h:l.Pairwise R){i:Nat}{a:α}(ha:l[i]?=some a):∀b∈l.take i,R b a:=fun b hb=>by
 rw[<-qbn i l]at h;exact(qbz.1 h).2.2 b hb a (qac (i:=0) (by rw[qcb];exact ha))
theorem Ajy{N:Nat}{p:Nat->Int}(hpn:FH (tab p N)=p)(hpb:∀v,v<N -> -1073741824<=p v/\p v<=1073741824)(v:Nat) : -1152921504606846976<=p v/\p v<=1152921504606846976:=by
 rcases qap v N with h|h
 .have:=hpb v h;omega
 .rw[<-hpn];unfold FH;rw[qby,qba (by rw[CY];exact h)];exact⟨by decide,by decide⟩
abbrev SL(bs bf bp bo:Nat)(N:Nat)(ae:Option Addr)(n ce:Nat)(k:Int)(x p ov:Nat->Int)(full:List Value):List (Nat × Obj) :=
 (bs,Bl 254 (SC N ae n ce bf bp bo k))::(bf,Bl 2 (Ce x n))::(bp,Bl 2 (Ce p N))::(bo,Bl 2 (Ce ov N))::ent ae 59 full
theorem Aqb{ov:Nat->Int}{N:Nat}:(∀v∈IY ov N,v<N)/\(IY ov N).Nodup/\∀v,v∈IY ov N↔v<N/\0<ov v:=by
 have h:∀v,v∈IY ov N↔v<N/\0<ov v:=fun v=>by unfold IY;rw[qbc,qaz,qam]
 exact⟨fun v hv=>((h v).1 hv).1,List.nodup_range.filter _,h⟩
theorem Ajz{w:World}{bs bf bp bo:Nat}{N:Nat}{ae:Option Addr}{ce:Nat}{kk:Int}{es:List Ed}{x p ov:Nat->Int}{full:List Value}(H0:Ctx w ((SL bs bf bp bo N ae es.length ce kk x p ov full).map (·.1)) w (SL bs bf bp bo N ae es.length ce kk x p ov full))(O:OS ae es.length ce 4 full (es.flatMap CJ))(hr:Cv (N:Int) es=true)(hF:Fine (grE (N:Int) es) (CA es) x p)(hov:∀v,v<N->ov v=BP (grE (N:Int) es) x v)(hpb:∀v,v<N -> -1073741824<=p v/\p v<=1073741824)(hxn:flE (tab x es.length)=x)(hpn:FH (tab p N)=p) :
  Ret prog 212 #[ptr bs] w fun v w'=>∃(b:Bool) (x' p' ov':Nat->Int) (kk':Int),v=.bool b/\Ctx w ((SL bs bf bp bo N ae es.length ce kk x p ov full).map (·.1)) w' (SL bs bf bp bo N ae es.length ce kk' x' p' ov' full)/\Fine (grE (N:Int) es) (CA es) x' p'/\(∀v,v<N->ov' v=BP (grE (N:Int) es) x' v)/\(∀v,v<N -> -1073741824<=p' v/\p' v<=1073741824) /\
   (b=false->∀v,v<N->BP (grE (N:Int) es) x' v<=0)/\(b=true->IE (grE (N:Int) es) x'+1<=IE (grE (N:Int) es) x):=by
 obtain⟨w0,rfl⟩:=qD w;obtain⟨ids,hids⟩:=qD ((SL bs bf bp bo N ae es.length ce kk x p ov full).map (·.1));rw[<-hids]at H0 |-;have H:=H0;obtain⟨hN1,hN40,hn200,hall,-⟩:=CB hr;have hI:I64 (N:Int):=by unfold I64;omega
 have hw:=OZ hr hF;have hpot:=Ajx hpb;have hfit:Jg (N:Int) es (tab x es.length) (tab p N)=true:=Uy hw hpot (by rw[hxn,hpn];exact hF);obtain⟨hsrc,hsnd,hsm⟩:=Aqb (ov:=ov) (N:=N);have hRe:∀{z:World},(∀y∈ent ae 59 full,z.heap[y.1]?=some y.2)->Rd z ae 4 CJ es:=fun h=>O.rd h (fun _ _=>rfl) (by decide);obtain⟨g,hg⟩:=qD (grE (N:Int) es);have hgE:g.E=es.length:=by rw[hg];rfl
 have hgN:g.N=N:=by rw[hg];rfl
 have hgo:g.Ok:=by rw[hg];exact Kn hr
 have hxb:=hF.in';rw[<-hg]at hF hov hxb |-;rw[hgE]at hxb;have hcb:=P9 hr
 have hovb:∀v,v<N -> -900719925474099200<=ov v/\ov v<=900719925474099200:=fun v hv=>by
  rw[hov v hv];exact YO (fun i hi=>by have h1:=hxb i (by omega);have h2:=hcb i (by omega);omega) v
 refine Iv (fn:=f212) func212 U [.pointer (some ⟨bs,0,none⟩)] U ?_;refine Ad (Bu _ (.pointer _) U U H ?_);rintro b1 w - H;refine Ai U (qA (Ad (AG F5 U H at0 U (Am qB (Xz (H.get at1) (H.get (k:=4) U)) U ?_))));rintro v w ⟨⟨fr,fn,fc,ff,rfl,Of,hbf⟩,hx14⟩;have hfn:=Of.num;subst hfn;have Rs:Rd w fr 1 I1 ((IY ov N).map fun v:Nat=>(v:Int)):=Rd.map (Of.rd1 (f:=iN) fun y hy=>(hbf y hy).1);replace H:=H.call hx14;refine Az U (qA (Ap (Ad (Ao U (AU Ct U (Cj U U (qA (Av _ U ?_ ?_))))))))
 .intro h1;replace h1:=AJ h1;refine Ad (Ai U (qA (A6 (Al (MT (v:=(.bool _)) U U ?_)))));have hp0:IY ov N=[]:=qb5 (by omega);have H2:=H.tail;refine⟨false,x,p,ov,kk,rfl,H2,hF,hov,hpb,fun _ v hv=>?_,fun h=>by cases h⟩;rw[<-hov v hv]
  rcases qci 0 (ov v)with h|h
  .have:=(hsm v).2 ⟨hv,h⟩;rw[hp0]at this;cases this
  .exact h
 .intro h1;replace h1:=AK h1;have hs0:0<(IY ov N).length:=by omega
  refine Aq (Aa (C1 [([0,1,2,3,4,5,6,7,8,9,10,11,12],13),([14,15,16,17,18,19],20)] (fun z=>z.heap[b1]?=some (Bl 252 [ptr bs])/\z.heap[bs]?=some (Bl 254 (SC N ae es.length ce bf bp bo kk))) [] Bs (⟨H.drew.get at0,H.drew.get at1⟩) ?_));refine AO U U (B5 F5 U (fun _ hx=>(by rw[An hx.1];rfl)) ?_);refine Bp U (A1 HM U (GX _ CG C2 U U (fun _ hx=>(JL hx.2)) ?_));refine B5 F5 U (fun _ hx=>(by rw[An hx.1];rfl)) ?_;refine Bp U (A1 F8 U (B5 Cc U (fun _ hx=>(by rw[An hx.2];rfl)) ?_));refine B5 F5 U (fun _ hx=>(by rw[An hx.1];rfl)) ?_;refine Bp U (A1 F9 U (B5 Cc U (fun _ hx=>(by rw[An hx.2];rfl)) ?_));refine B4 U (Bb ?_);replace H:=H.drew
  refine Am qB (Ajw (N:Int) ae (some ⟨bf,0,none⟩) (some ⟨bp,0,none⟩) fr es.length ce es.length es.length N N fc es (tab x es.length) (tab p N) (IY ov N) _ (hRe fun y hy=>H.blk y (qa0 [_,_,_,_,_] hy)) U hI (CE (H.get at2)) (CY _ _) (CE (H.get at3)) (CY _ _) (Rs.ext0 (Ext.drew [] _)) hfit hsrc hsnd hs0) U ?_;rintro rv w ⟨od,ob,s,by',hrv,DN,BY,hby,H3⟩;rw[qa7]at hrv DN H3;subst hrv;replace H:=Ctx.back (L1:=[]) (L2:=_::_::_::_::_::_) H H3;refine Ab (BR (⟨H.get at2,H.get at3⟩) (AO U U ?_));refine Ek U (B7 U U (B7 U U (B7 U U (E7 U (E7 U (Bb (Af U (Ab (BR (⟨H.get at2,H.get at3⟩) (BK ?_))))))))));refine Ap (Ad (Ae U (C0 U U (qA (Av _ U ?_ ?_)))))
  .intro h2;replace h2:=CC h2;exact absurd h2 (by decide)
  .intro h2;replace h2:=CD h2;have hlow:=DN.J.low;have hds:∀v,v∈IY ov N->s.d v=0/\s.h v=0:=fun v hv=>(DN.J.src' v hv).2;rw[<-hg,hxn,hpn]at DN BY;rw[<-hgN]at DN;refine Aq (Aa (Ad (AG F5 U H at2 U (Ao U (Am qB (X0 (H.get at3) (H.get at6) (H.get at0)) U ?_)))));rintro rv w ⟨⟨to,rfl,hto⟩,rfl⟩;refine Af U (qA (Ap (Ad (Ae U (AZ U U (qA (Av _ U ?_ ?_)))))))
   .intro h3;replace h3:=AJ h3;exfalso
    rcases hto with⟨h,h7⟩|⟨tv,_,h,-,-⟩
    .obtain⟨v0,hv0⟩:=AB (h:=hs0);have hm:=qac hv0;have h8:=(hsm v0).1 hm;obtain⟨z,hz1,hz2,hz3⟩:=reach hgo hF DN (v:=v0) (by omega) (by rw[(hds v0 hm).1];omega) (by rw[<-hov v0 h8.1];exact h8.2);rw[hgN]at hz1;exact h7 z hz1 ⟨by rw[hov z hz1];exact hz3,(hlow z).resolve_left hz2⟩
    .omega
   .intro h3;replace h3:=AK h3
    obtain⟨tv,htv,rfl,hov0,hd0⟩:∃tv:Nat,tv<N/\to=tv/\ov tv<0/\0<=s.d tv:=by
     rcases hto with⟨h,_⟩|h
     .omega
     .exact h
    have hdt:s.d tv ≠ -1:=by omega
    have hovt:=hovb tv htv;have hgot:(tab ov N)[tv]?=some (ov tv):=Cd htv;refine Aq (Aa (Eo 4494803534349056 (α:=Nat × Nat) (fun z=>[(8,ptr z.1),(9,ptr z.2)]) (fun z w'=>Ctx w0 ids w' ((z.1,Bl 3 [.int .i64 (tv:Int)])::(z.2,Bl 2 [.int .i64 (-ov tv)])::(od,Bl 2 (Ce s.d N))::(ob,Bl 3 (Ce by' N))::(b1,Bl 252 [ptr bs])::SL bs bf bp bo N ae es.length ce kk x p ov full)) U ?_ ?_))
    .skip
     refine PS (.two [0,1,2,3,4,5,6,7,8] 9 (.one [] 10 (.one [] 11 (.one [] 12 .stop))) 10 (.one [] 9 (.one [] 11 (.one [] 12 .stop)))) (fun z=>z.heap[b1]?=some (Bl 252 [ptr bs])/\z.heap[bs]?=some (Bl 254 (SC N ae es.length ce bf bp bo kk))/\z.heap[bo]?=some (Bl 2 (Ce ov N))) Bs (⟨H.drew.get at2,H.drew.get at3,H.drew.get at6⟩) ?_;refine Jq U U U (Bg U (B5 F5 U (fun _ hx=>(by rw[An hx.1];rfl)) ?_));refine Bp U (A1 HO U (B5 Cc U (fun _ hx=>(by rw[An hx.2.1];rfl)) ?_));refine Bg U (AV AR Bt U U ?_);refine B5 Bm U (fun _ hx=>((CE hx.2.2).fld hgot rfl (j:=0) rfl)) (ZH U U ?_);refine Bb ?_;replace H:=H.drew;refine⟨?_,?_⟩
     .skip
      refine AX M4 H ?_;rintro b8 w - H;refine Ab (Ck (⟨H.get at3,H.get at4,H.get at7⟩) (Cg U U ?_));refine Bb (AX Eh H ?_);rintro b9 w - H;refine Ab (Ck (⟨H.get at4,H.get at5,H.get at8⟩) (Cg U U ?_));refine Bb (Cz (.int _ _) D9 U U U H at1 (by decide) ?_);rintro w H;refine Ab (Ck (⟨H.get at4,H.get at5,H.get at8⟩) (Cg U U ?_));refine Bb (Cz (.int _ _) Bt U U U H at0 (by decide) ?_);rintro w H;refine Ab (Ck (⟨H.get at4,H.get at5,H.get at8⟩) (EG ?_));refine Aa ?_;exact⟨(b8,b9),rfl,⟨rfl,rfl,trivial⟩,H.perm (List.Perm.swap ..)⟩
     .skip
      refine AX Eh H ?_;rintro b9 w - H;refine Ab (Ck (⟨H.get at3,H.get at4,H.get at7⟩) (Cg U U ?_));refine Bb (AX M4 H ?_);rintro b8 w - H;refine Ab (Ck (⟨H.get at4,H.get at5,H.get at8⟩) (Cg U U ?_));refine Bb (Cz (.int _ _) D9 U U U H at0 (by decide) ?_);rintro w H;refine Ab (Ck (⟨H.get at4,H.get at5,H.get at8⟩) (Cg U U ?_));refine Bb (Cz (.int _ _) Bt U U U H at1 (by decide) ?_);rintro w H;refine Ab (Ck (⟨H.get at4,H.get at5,H.get at8⟩) (EG ?_));refine Aa ?_;exact⟨(b8,b9),rfl,⟨rfl,rfl,trivial⟩,H⟩
    .rintro⟨b8,b9⟩ j w H;dsimp only at H;dsimp only;obtain⟨path,hpath⟩:=qD (EK (byO by') g (s.h tv) tv);have BY':Bys g (CA es) x p s (byO by'):=BY;obtain⟨q1,q2,q3,q4⟩:=LM BY' hdt rfl;have hpe:=Q4 BY' hdt rfl;have hwp:=Tf BY' hdt rfl;rw[<-hpath]at q1 hpe hwp;have hsd0:=fun v=>DN.J.dist (by omega) (by omega) v;refine Ap (Ad (AG F5 U H at4 U (Ao U (Ae U ?_))));have hlt:=Ctx.ltI H;have hwb0:=H.size;refine Am qB (V2 _ _ (some ⟨ob,0,none⟩) N N bs (tv:Int) _ U U) U ?_;rintro rv w ⟨b3,b4,b5,rfl,hb3,hb4,hb5,s3,s4,s5,n53,n54,hx55⟩;replace H:=H.call hx55;refine qA (Ax ?_);obtain⟨ws,rfl⟩:=qD w;have l3:=Bf hb3;have l4:=Bf hb4;have l5:=Bf hb5;have hwsz:=H.size;have h05:w0.heap.size<=b5:=qbe hwb0 s5;have n8:=hlt b8 (qaj ..);have n9:=hlt b9 (qai _ (qaj ..))
     refine Vd (gf:=271) U qB (V4 (b3:=b3) (b4:=b4) (b5:=b5) (bs:=bs) (ob:=ob) (N:=N) (ae:=ae) (ce:=ce) (bf:=bf) (bp:=bp) (bo:=bo) (kk:=kk) (es:=es) (by':=by') (x:=x) (p:=p) (s:=s) hw (by rw[<-hg];exact BY') hby htv hdt U) (by kernel_rfl) (by kernel_rfl) (fun v hv=>by obtain⟨p,-,rfl⟩:=qah.1 hv;rfl)
      (fun i M w'=>(M=fun y=>y=b8\/y=b9)/\(∃mo:Int,Ctx w0 ids w' ((b8,Bl 3 [.int .i64 ((V5 g tv (path.take i):Nat):Int)])::(b9,Bl 2 [.int .i64 (mo)])::(od,Bl 2 (Ce s.d N))::(ob,Bl 3 (Ce by' N))::(b1,Bl 252 [ptr bs])::SL bs bf bp bo N ae es.length ce kk (x) (p) (ov) full)/\0<mo/\mo <= -ov tv/\∀a∈path.take i,mo<=Da (CA es) x a)/\w'.heap[b3]?=some (Bl 252 [ptr bs])/\w'.heap[b4]?=some (Bl 94 [.slice (some ⟨ob,0,none⟩) N N]))
      (fun _=>False) (by simp only[qab];omega) (fun w2 hx2=>hx2.to hb5 (by simp))
      (fun w2 hx2 _=>⟨_,rfl,⟨-ov tv,H.call hx2,by omega,qav _,fun a ha=>by cases ha⟩,hx2.to hb3 (by simp),hx2.to hb4 (by simp)⟩)
      (fun i M w' w'' hJ hx=>?_) (fun _ _ h _=>h) (fun i M w' hJ=>?_) ?_ ?_ (fun _ h _=>h.elim)
     .obtain⟨hM,⟨mo,HJ,m1,m2,m3⟩,g3,g4⟩:=hJ;refine⟨hM,⟨mo,HJ.step hx (fun y hy=>?_) (fun z hz => .inr ?_),m1,m2,m3⟩,hx.to g3 ?_,hx.to g4 ?_⟩
      .have h7:=qa8 (f:=(·.1)) hy;have:=hlt y.1 h7;simp only[qag,qar,or_false];omega
      .simp only[qag,qar,or_false]at hz;omega
      .simp only[qag,qar,or_false];omega
      .simp only[qag,qar,or_false];omega
     .obtain⟨hM,⟨mo,HJ,m1,m2,m3⟩,g3,g4⟩:=hJ;refine⟨fun y hy=>?_,g4,g3,HJ.get at5,HJ.get at3,hRe fun y hy=>HJ.blk y (qa0 [_,_,_,_,_,_,_,_,_] hy),?_⟩
      .rw[hM]at hy
       rcases hy with rfl|rfl
       .exact⟨Bf (HJ.get at0),by omega,by omega⟩
       .exact⟨Bf (HJ.get at1),by omega,by omega⟩
      .rw[hM];dsimp only;omega
     .rintro i v _ w hxv ⟨rfl,⟨mo,HJ,m1,m2,m3⟩,g3,g4⟩ hsz;rw[<-hg,<-hpath,qa1]at hxv;obtain⟨a,ha,rfl⟩:=qdn.1 hxv;obtain⟨hWa,-⟩:=q1 a (qac ha);have hWlt:=hWa.lt;obtain⟨-,hR,-⟩:=QE hw (k:=a) (by omega);obtain⟨w1,rfl⟩:=qD w;refine Ad (Af U (qA (Ay (Af U (Ab ?_)))));refine⟨Ext.refl _ _,fun wB hxB=>?_⟩;have HB:=HJ.step hxB (fun y hy=>by have h7:=qa8 (f:=(·.1)) hy;have:=hlt y.1 h7;rw[qab];omega) (fun z hz => .inr (by rw[qab.1 hz];omega));have e3:=hxB.to g3 (by rw[qab];omega);have e4:=hxB.to g4 (by rw[qab];omega);have k1:=HB.get at4;have ks:=HB.get at5;have kf:=HB.get at6;have hn1:=Ht (L:=[_,_]) HB.nd (x:=(b1,_)) (qac (i:=2) rfl);have hns:=Ht (L:=[_,_]) HB.nd (x:=(bs,_)) (qac (i:=3) rfl)
      have hnf:=Ht (L:=[_,_]) HB.nd (x:=(bf,_)) (qac (i:=4) rfl);have hke:∀y∈ent ae 59 full,wB.heap[y.1]?=some y.2/\y.1∉[b8,b9]:=fun y hy=>⟨HB.blk y (qa0 [_,_,_,_,_,_,_,_,_] hy),Ht (L:=[_,_]) HB.nd (qa0 [_,_,_,_,_,_,_] hy)⟩;obtain⟨w2,rfl⟩:=qD wB;have H:=Ctx.lend (L1:=[_,_]) (L2:=_::_::_::_::_::_::_::_) HB;refine Ax (ET [([0,1,2,3,4,5,6,7,8,9,10],11),([12],13),([],14)] (fun z=>z.heap[b9]?=some (Bl 2 [.int .i64 mo])/\z.heap[b1]?=some (Bl 252 [ptr bs])/\z.heap[bs]?=some (Bl 254 (SC N ae es.length ce bf bp bo kk))) [14] Bs (⟨H.drew.get at1,H.drew.ext.to k1 hn1,H.drew.ext.to ks hns⟩) ?_);refine AO U U (Bg U (B5 Bm U (fun _ hx=>(by rw[An hx.1];rfl)) ?_));refine B5 F5 U (fun _ hx=>(by rw[An hx.2.1];rfl)) ?_;refine Bp U (A1 HM U (GX _ CG C2 U U (fun _ hx=>(JL hx.2.2)) ?_))
      refine B5 F5 U (fun _ hx=>(by rw[An hx.2.1];rfl)) ?_;refine Bp U (A1 F8 U (B5 Cc U (fun _ hx=>(by rw[An hx.2.2];rfl)) ?_));refine Bg U (Bb ?_);replace H:=H.drew;refine Am qB (Uv (N:Int) ae (some ⟨bf,0,none⟩) es.length ce es.length es.length es (tab x es.length) _ (hRe fun y hy=>H.ext.to (hke y hy).1 (hke y hy).2) U hI (CE (H.ext.to kf hnf)) (CY _ _) (a:Int)) U ?_;rintro v w ⟨rfl,hx69⟩;replace H:=H.call hx69;rw[hR];refine Ab (BR (⟨H.get at1,H.ext.to k1 hn1,H.ext.to ks hns⟩) (AO U U ?_));refine Aco U U U (Bb (Cz (.int _ _) D9 U U U H at0 (by(simp;done)) ?_));rintro w H;refine Ab (BR (⟨H.get at1,H.ext.to k1 hn1,H.ext.to ks hns⟩) (AO U U ?_));refine Bb (Cz (.int _ _) Bt U U U H at1 (by(simp;done)) ?_);rintro w H;refine Ab (BH U (BK (A7 ?_)));have hrm:=hWa.room;have HH:=Ctx.back (L1:=[_,_]) (L2:=_::_::_::_::_::_::_::_) HB H
      refine⟨_,⟨rfl,⟨min mo (Da (CA es) x a),by rw[Aak ha];exact HH,by omega,by omega,fun a' ha'=>?_⟩,H.ext.to e3 (by simp only[qau,qb3,qag,qar,or_false];omega),H.ext.to e4 (by simp only[qau,qb3,qag,qar,or_false];omega)⟩,fun x hx => .inl hx,_,H.ext,fun x hx => .inl (by simpa using hx)⟩;rw[CP ha]at ha'
      rcases qbg.1 ha' with h|h
      .have:=m3 a' h;omega
      .rw[qab.1 h];omega
     .rintro M w ⟨-,⟨mo,HJ,m1,m2,m3⟩,-,-⟩ hD;have hxl:(List.map (Afb (grE (N:Int) es)) (EK (byO by') (grE (N:Int) es) (s.h tv) tv)).length=path.length:=by rw[qak,<-hg,<-hpath]
      rw[hxl,qbf]at HJ m3;obtain⟨f0,hf0⟩:=qD (V5 g tv path);rw[<-hf0]at HJ hwp;rw[<-hwp]at q3 q4;have hf0s:=(hsm f0).1 (by have h7:=DN.J.zero f0 q3 q4;rw[hgN]at h7;exact h7);have hovf:=hovb f0 hf0s.1;have hgof:(tab ov N)[f0]?=some (ov f0):=Cd hf0s.1;have H:=HJ.add hD (.inr hwsz) (fun y hy e=>by have h7:=qa8 (f:=(·.1)) hy;have:=hlt y.1 h7;omega);refine A7 (Aa (EB 9 Bs U U ?_));refine BS Bm U (by rintro _ rfl;exact H.drew) at2 U ?_;refine BS F5 U (by rintro _ rfl;exact H.drew) at5 U ?_;refine Bh U (A3 HO U (BS Cc U (by rintro _ rfl;exact H.drew) at6 U ?_));refine BS B6 U (by rintro _ rfl;exact H.drew) at1 U ?_;refine Bd AR Bt U U ?_;refine BF Bm U (by rintro _ rfl;exact(((CE (H.drew.get at9)).fld hgof rfl (j:=0) rfl))) ?_;refine Amo U U U (BM ?_);replace H:=H.drew
      refine Cz (.int _ _) Bt U U U H at2 (by(simp;done)) ?_;rintro w H;refine qA (Ap ?_);obtain⟨mm,hmm⟩:=qD (min mo (ov f0));rw[<-hmm]at H;have hmm0:0<mm/\mm<=ov f0/\mm <= -ov tv:=by omega
      refine Ad (AG F5 U H at5 U (Ao U (Ae U ?_)));have hlt2:=Ctx.ltI H;have hwb2:=H.size;refine Am qB (V2 _ _ (some ⟨ob,0,none⟩) N N bs (tv:Int) _ U U) U ?_;rintro rv w ⟨c3,c4,c5,rfl,hc3,hc4,hc5,t3,t4,t5,nc53,nc54,hx83⟩;replace H:=H.call hx83;refine qA (Ax ?_);obtain⟨wt,rfl⟩:=qD w;have j3:=Bf hc3;have j4:=Bf hc4;have j5:=Bf hc5;have hwtz:=H.size;have nbf:=hlt2 bf (qac (i:=7) rfl)
      refine Vd (gf:=271) U qB (V4 (b3:=c3) (b4:=c4) (b5:=c5) (bs:=bs) (ob:=ob) (N:=N) (ae:=ae) (ce:=ce) (bf:=bf) (bp:=bp) (bo:=bo) (kk:=kk) (es:=es) (by':=by') (x:=x) (p:=p) (s:=s) hw (by rw[<-hg];exact BY') hby htv hdt U) (by kernel_rfl) (by kernel_rfl) (fun v hv=>by obtain⟨p,-,rfl⟩:=qah.1 hv;rfl)
       (fun i M w'=>(M=fun y=>y=bf)/\Ctx w0 ids w' ((ws.heap.size,.deferred (some []))::((b8,Bl 3 [.int .i64 (f0:Int)])::(b9,Bl 2 [.int .i64 (mm)])::(od,Bl 2 (Ce s.d N))::(ob,Bl 3 (Ce by' N))::(b1,Bl 252 [ptr bs])::SL bs bf bp bo N ae es.length ce kk (Gs mm x (path.take i)) (p) (ov) full))/\w'.heap[c3]?=some (Bl 252 [ptr bs])/\w'.heap[c4]?=some (Bl 94 [.slice (some ⟨ob,0,none⟩) N N]))
       (fun _=>False) (by simp only[qab];omega) (fun w2 hx2=>hx2.to hc5 (by simp))
       (fun w2 hx2 _=>⟨_,rfl,H.call hx2,hx2.to hc3 (by simp),hx2.to hc4 (by simp)⟩)
       (fun i M w' w'' hJ hx=>?_) (fun _ _ h _=>h) (fun i M w' hJ=>?_) ?_ ?_ (fun _ h _=>h.elim)
      .obtain⟨hM,HJ,g3,g4⟩:=hJ;refine⟨hM,HJ.step hx (fun y hy=>?_) (fun z hz => .inr ?_),hx.to g3 ?_,hx.to g4 ?_⟩
       .have h7:=qa8 (f:=(·.1)) hy;have:=hlt2 y.1 h7;simp only[qag,qar,or_false];omega
       .simp only[qag,qar,or_false]at hz;omega
       .simp only[qag,qar,or_false];omega
       .simp only[qag,qar,or_false];omega
      .obtain⟨hM,HJ,g3,g4⟩:=hJ;refine⟨fun y hy=>?_,g4,g3,HJ.get at6,HJ.get at4,hRe fun y hy=>HJ.blk y (qa0 [_,_,_,_,_,_,_,_,_,_] hy),?_⟩
       .rw[hM]at hy;rw[hy];exact⟨Bf (HJ.get at7),by omega,by omega⟩
       .rw[hM];dsimp only;omega
      .rintro i v _ w hxv ⟨rfl,HJ,g3,g4⟩ hsz;rw[<-hg,<-hpath,qa1]at hxv;obtain⟨a,ha,rfl⟩:=qdn.1 hxv;have ham:=qac ha;obtain⟨hWa,-⟩:=q1 a ham;have hWlt:=hWa.lt;have hai:a / 2<es.length:=by omega
       have hm4:=m3 a ham;have hcb2:=hcb (a / 2) hai;have hxb2:=hxb (a / 2) hai;have hxa:Gs mm x (path.take i) (a / 2)=x (a / 2):=Kj fun b hb=>Aam hpe ha b hb;have hgxa:(tab (Gs mm x (path.take i)) es.length)[a / 2]?=some (x (a / 2)):=by rw[Cd hai,hxa]
       have hsuc:∀z,Gs mm x (path.take (i+1)) z=if z=a / 2 then(if a % 2=0 then x (a / 2)+mm else x (a / 2) - mm)else Gs mm x (path.take i) z:=fun z=>by
        rw[Aal ha];unfold JE
        by_cases e:z=a / 2
        .rw[if_pos e,if_pos e,e,hxa]
        .rw[if_neg e,if_neg e]
       have ha9:a<9223372036854775808:=by omega
       have hml:mm<=Da (CA es) x a:=by omega
       obtain⟨w1,rfl⟩:=qD w;refine Ay (Af U (Ab ?_));refine⟨Ext.refl _ _,fun wB hxB=>?_⟩;have HB:=HJ.step hxB (fun y hy=>by have h7:=qa8 (f:=(·.1)) hy;have:=hlt2 y.1 h7;rw[qab];omega) (fun z hz => .inr (by rw[qab.1 hz];omega));have e3:=hxB.to g3 (by rw[qab];omega);have e4:=hxB.to g4 (by rw[qab];omega);have HP:=HB.perm (qbu (l₁:=[_,_,_,_,_,_,_]) (l₂:=_::_::_));have k1:=HP.get at6;have ks:=HP.get at7;have k9:=HP.get at3;have hn1:=Ht (L:=[_]) HP.nd (x:=(b1,_)) (qac (i:=5) rfl);have hns:=Ht (L:=[_]) HP.nd (x:=(bs,_)) (qac (i:=6) rfl);have hn9:=Ht (L:=[_]) HP.nd (x:=(b9,_)) (qac (i:=2) rfl);have hnc:bf≠c3/\bf≠c4:=by omega
       obtain⟨w2,rfl⟩:=qD wB;have H:=Ctx.lend (L1:=[_]) (L2:=_::_::_::_::_::_::_::_::_::_) HP;clear HJ g3 g4 hlt hlt2 m1 m2 m3 q1 hpe hwp hRe hall hxb hovb hsrc hsnd hsm hds hlow hto hfit hpot hw hov hpb DN BY BY' hby hd0 hovt hgot hgof hwb0 hwb2 hWa ham ha hxv hsz hxB hsd0 hcb q2 q3 q4 hF;refine Ax (Ad (Ae U (Qg (a:=a) (b:=1) U U U ha9 (by decide) ?_)));rw[Nat.and_one_is_mod];refine Cj U U (qA (Av _ U ?_ ?_))
       .intro hpar;replace hpar:=AJ hpar;have hp2:a % 2=0:=by omega
        unfold Da at hml;rw[if_pos hp2]at hml;refine ET [([0,1,2,3,4,5,6,7,8,9,10],11)] (fun z=>z.heap[b1]?=some (Bl 252 [ptr bs])/\z.heap[bs]?=some (Bl 254 (SC N ae es.length ce bf bp bo kk))/\z.heap[b9]?=some (Bl 2 [.int .i64 mm])/\z.heap[bf]?=some (Bl 2 (Ce (Gs mm x (path.take i)) es.length))) [11] Bs (⟨H.drew.ext.to k1 hn1,H.drew.ext.to ks hns,H.drew.ext.to k9 hn9,H.drew.get at0⟩) ?_;refine AO U U (B5 F5 U (fun _ hx=>(by rw[An hx.1];rfl)) ?_);refine Bp U (A1 F8 U (B5 Cc U (fun _ hx=>(by rw[An hx.2.1];rfl)) ?_));refine Bg U (SN (a:=a) (n:=1) U U U ?_);rw[Nat.pow_one];refine AV AR Bt U U ?_;refine B5 Bm U (fun _ hx=>((CE hx.2.2.2).fld hgxa rfl (j:=0) rfl)) (B5 Bm U (fun _ hx=>(by rw[An hx.2.2.1];rfl)) ?_);refine E6 U U (AV AR Bt U U ?_)
        refine Bb ?_;replace H:=H.drew;refine Cl (a / 2) (fun z => .int .i64 (Gs mm x (path.take (i+1)) z)) (.int _ _) Bt U U U H at0 (by omega) (hk:=hai) (by rw[hsuc,if_pos rfl,if_pos hp2]) (fun z _ hz=>by(try dsimp only);rw[hsuc,if_neg hz]) ?_;rintro w H;refine Ab (BH U (BK (A7 ?_)));have HH:=(Ctx.back (L1:=[_]) (L2:=_::_::_::_::_::_::_::_::_::_) HP H).perm (qbu (l₁:=[_,_,_,_,_,_,_]) (l₂:=_::_::_)).symm;exact⟨_,⟨rfl,HH,H.ext.to e3 (by rw[qau,qb3,qab];exact Ne.symm hnc.1),H.ext.to e4 (by rw[qau,qb3,qab];exact Ne.symm hnc.2)⟩,fun x hx => .inl hx,_,H.ext,fun x hx => .inl (qab.1 hx)⟩
       .intro hpar;replace hpar:=AK hpar;have hp2:¬a % 2=0:=by omega
        unfold Da at hml;rw[if_neg hp2]at hml;refine ET [([0,1,2,3,4,5,6,7,8,9,10],11)] (fun z=>z.heap[b1]?=some (Bl 252 [ptr bs])/\z.heap[bs]?=some (Bl 254 (SC N ae es.length ce bf bp bo kk))/\z.heap[b9]?=some (Bl 2 [.int .i64 mm])/\z.heap[bf]?=some (Bl 2 (Ce (Gs mm x (path.take i)) es.length))) [11] Bs (⟨H.drew.ext.to k1 hn1,H.drew.ext.to ks hns,H.drew.ext.to k9 hn9,H.drew.get at0⟩) ?_;refine AO U U (B5 F5 U (fun _ hx=>(by rw[An hx.1];rfl)) ?_);refine Bp U (A1 F8 U (B5 Cc U (fun _ hx=>(by rw[An hx.2.1];rfl)) ?_));refine Bg U (SN (a:=a) (n:=1) U U U ?_);rw[Nat.pow_one];refine AV AR Bt U U ?_;refine B5 Bm U (fun _ hx=>((CE hx.2.2.2).fld hgxa rfl (j:=0) rfl)) (B5 Bm U (fun _ hx=>(by rw[An hx.2.2.1];rfl)) ?_);refine EO U U (AV AR Bt U U ?_)
        refine Bb ?_;replace H:=H.drew;refine Cl (a / 2) (fun z => .int .i64 (Gs mm x (path.take (i+1)) z)) (.int _ _) Bt U U U H at0 (by omega) (hk:=hai) (by rw[hsuc,if_pos rfl,if_neg hp2]) (fun z _ hz=>by(try dsimp only);rw[hsuc,if_neg hz]) ?_;rintro w H;refine Ab (BH U (BK (A7 ?_)));have HH:=(Ctx.back (L1:=[_]) (L2:=_::_::_::_::_::_::_::_::_::_) HP H).perm (qbu (l₁:=[_,_,_,_,_,_,_]) (l₂:=_::_::_)).symm;exact⟨_,⟨rfl,HH,H.ext.to e3 (by rw[qau,qb3,qab];exact Ne.symm hnc.1),H.ext.to e4 (by rw[qau,qb3,qab];exact Ne.symm hnc.2)⟩,fun x hx => .inl hx,_,H.ext,fun x hx => .inl (qab.1 hx)⟩
      .rintro M w ⟨-,HJ,-,-⟩ hD2;rw[hxl,qbf]at HJ;have H:=HJ.add hD2 (.inr hwtz) (fun y hy e=>by have h7:=qa8 (f:=(·.1)) hy;have:=hlt2 y.1 h7;omega);replace H:=H.erase 5;obtain⟨x',hx'⟩:∃x',x'=Gs mm x path:=⟨_,rfl⟩;rw[<-hx']at H;have FF:=ZV hF DN BY' hdt (m:=mm) (fun a ha=>by have:=m3 a (hpath ▸ ha);omega);rw[<-hpath,<-hx']at FF;have hov':∀z,BP g x' z=BP g x z+mm*(one (tv=z) - one (f0=z)):=fun z=>by rw[hx',hpath,hwp];exact OW g mm BY' z x hdt rfl
       have hw':=OZ hr (x:=x') (by rw[<-hg];exact FF);have hne:tv≠f0:=fun e=>by rw[e]at hov0;omega
       have hgo2:(tab (upd ov f0 (ov f0 - mm)) N)[tv]?=some (ov tv):=by rw[Cd htv,EM hne]
       have hgdt:(tab s.d N)[tv]?=some (s.d tv):=Cd htv;have hsdt:=hsd0 tv;have hpf:=Ajy hpn hpb
       have hne0:es≠[]->(adr ae).block≠bp:=fun h e=>by
        obtain⟨q,rfl⟩:=O.form (qbv.2 h);have h7:=X1 (L:=[_,_,_,_]) H0.nd (x:=(bp,_)) (qac (i:=2) rfl);exact h7 (by show bp∈[q];rw[qab];exact e.symm)
       have hex:=ZW (g:=g) (x:=x) (x':=x') (u:=f0) (v:=tv) (m:=mm) (by rw[<-hov f0 hf0s.1];omega) (by rw[<-hov tv htv];omega) hov';refine A7 (Aa ?_);clear hlt hlt2 q1 hpe hall hxb hovb hsrc hsnd hsm hds hlow hto hfit hpot hw DN BY BY' hby hwb0 hwb2 hsd0 hcb q2 q3 q4 HJ;refine EB 10 Bs U U (BS F5 U (by rintro _ rfl;exact H.drew) at5 U ?_);refine Bh U (A3 HO U (BS Cc U (by rintro _ rfl;exact H.drew) at6 U ?_));refine BS B6 U (by rintro _ rfl;exact H.drew) at2 U ?_;refine Bd AR Bt U U ?_;refine BF Bm U (by rintro _ rfl;exact(((CE (H.drew.get at9)).fld hgof rfl (j:=0) rfl))) ?_;refine BS Bm U (by rintro _ rfl;exact H.drew) at3 U ?_;refine Dp U U (Bd AR Bt U U ?_);refine BM ?_;replace H:=H.drew
       refine Cl f0 (fun z => .int .i64 (upd ov f0 (ov f0 - mm) z)) (.int _ _) Bt U U U H at9 (by simp) (hk:=hf0s.1) (by rw[D0]) (fun z _ hz=>by(try dsimp only);rw[EM hz]) ?_;rintro w H;refine qA (EB 10 Bs U U ?_);refine BS F5 U (by rintro _ rfl;exact H.drew) at5 U ?_;refine Bh U (A3 HO U (BS Cc U (by rintro _ rfl;exact H.drew) at6 U ?_));refine AY U (Bd AR Bt U U ?_);refine BF Bm U (by rintro _ rfl;exact(((CE (H.drew.get at9)).fld hgo2 rfl (j:=0) rfl))) ?_;refine BS Bm U (by rintro _ rfl;exact H.drew) at3 U ?_;refine CX U U (Bd AR Bt U U ?_);refine BM ?_;replace H:=H.drew;refine Cl tv (fun z => .int .i64 (upd (upd ov f0 (ov f0 - mm)) tv (ov tv+mm) z)) (.int _ _) Bt U U U H at9 (by simp) (hk:=htv) (by rw[D0]) (fun z _ hz=>by(try dsimp only);rw[EM hz]) ?_;rintro w H
       refine qA (EB 6 Bs U U ?_);refine BS F5 U (by rintro _ rfl;exact H.drew) at5 U ?_;refine B0 U (B0 U (AY U (Bd AR Bt U U ?_)));refine BF Bm U (by rintro _ rfl;exact(((CE (H.drew.get at4)).fld hgdt rfl (j:=0) rfl))) ?_;refine BM ?_;replace H:=H.drew;have Hp:=H.perm (qbu (l₁:=[_,_,_,_,_,_,_,_]) (l₂:=_::_));refine Am qB (Ae8 (H.get at6) (H.get at8) (H.get at4) (H.ne at6 at8 (by decide)) (H.ne at4 at8 (by decide)) ⟨by omega,by omega⟩ hpf) U ?_;rintro rv w ⟨rfl,H2⟩;replace H:=Ctx.back (L1:=[_]) (L2:=_::_::_::_::_::_::_::_::_::_) Hp H2;refine qA (Ad (AG F5 U H at6 U (Am qB (Aaf (H.get at7) (hRe fun y hy=>H.blk y (qa0 [_,_,_,_,_,_,_,_,_,_] hy)) hne0 (H.get at8) (H.get at0) (H.ne at7 at0 (by decide)) (H.ne at8 at0 (by decide)) hw' (by rw[<-hg];exact FF)) U ?_)))
       rintro rv w ⟨rfl,p',FF2,hpb',H2⟩;replace H:=Ctx.back (L1:=[_]) (L2:=_::_::_::_::_::_::_::_::_::_) H H2;refine qA (Ad (AG F5 U H at6 U (AP U (Ah Qt U (AG B6 U H at7 U (OY U U U ?_))))));intro kk2;refine AP U (Ah Qt U (Cz (.int _ _) D9 U U U H at7 (by(simp;done)) ?_));rintro w H;refine qA (Ad (Ai U (qA (A6 (MT (v:=(.bool _)) U U (Aaj (H.get at1) (H.get at2) (H.ne at2 at1 (by decide)) U fun wF hxF=>?_))))));have HF:=(H.perm (qbu (l₁:=[_,_,_,_,_,_,_,_]) (l₂:=_::_)).symm);rw[<-hg]at FF2;refine⟨true,x',p',upd (upd ov f0 (ov f0 - mm)) tv (ov tv+mm),kk2,rfl,(HF.drop 6).step hxF (fun y hy=>Ht (L:=[_,_]) HF.nd (qc3 (i:=4) hy)) (fun z hz => .inr ?_),FF2,fun z hz=>?_,hpb',(fun h=>by cases h),fun _=>by omega⟩
       .simp only[qag,qar,or_false]at hz;omega
       .rw[hov',<-hov z hz]
        by_cases e1:z=tv
        .subst e1;rw[D0,Fj rfl,E4 (Ne.symm hne)];omega
        .rw[EM e1,E4 (Ne.symm e1)]
         by_cases e2:z=f0
         .subst e2;rw[D0,Fj rfl];omega
         .rw[EM e2,E4 (Ne.symm e2)];omega
def Uz:List UInt8:=[0]++List.replicate 1 1++List.replicate 2 2++List.replicate 4 3++List.replicate 8 4++List.replicate 16 5++List.replicate 32 6++List.replicate 64 7++List.replicate 128 8
theorem Aan:∀i,i<256->∃b:UInt8,Uz[i]?=some b/\i<2 ^ b.toNat/\b.toNat<=8/\(0<i->2 ^ b.toNat<=2*i):=fun i hi=>by
 have h:(List.range 256).all (fun i=>match Uz[i]? with|some b=>decide (i<2 ^ b.toNat) && (decide (b.toNat<=8) && (decide (i=0) || decide (2 ^ b.toNat<=2*i)))|none=>false)=true:=by kernel_rfl
 have h1:=qas.1 h i (qaz.2 hi)
 cases hb:Uz[i]? with
 |none=>rw[hb]at h1;cases h1
 |some b =>
  rw[hb]at h1;simp only[qae,qb6,qam]at h1;exact⟨b,rfl,h1.1,h1.2.1,fun h=>h1.2.2.resolve_left (by omega)⟩
theorem X2{x k n:Nat}(h:x / 2 ^ k<2 ^ n):x<2 ^ (n+k):=by
 rw[Nat.pow_add];exact(Nat.div_lt_iff_lt_mul (Nat.two_pow_pos k)).1 h
theorem X3{x k n:Nat}(h:2 ^ n<=2*(x / 2 ^ k)):2 ^ (n+k)<=2*x:=by
 rw[Nat.pow_add];have h1:2 ^ n*2 ^ k<=2*(x / 2 ^ k)*2 ^ k:=qcr _ h;have h2:x / 2 ^ k*2 ^ k<=x:=Nat.div_mul_le_self x _;rw[Nat.mul_assoc]at h1;omega
theorem V6(x:Nat)(hx:x<=4503599627370496)(w:World):Ret prog 210 #[.int .u64 (x:Int)] w fun v w'=>∃r:Nat,v=.int .i64 (r:Int)/\x<2 ^ r/\r<=64/\(0<x->2 ^ r<=2*x)/\w=w':=by
 obtain⟨w0,rfl,H⟩:=qE w;refine A2 (fn:=f210) func210 U [.int .u64 (x:Int)] U ?_;refine Ad (Af U (qA (Ap (Ad (Ae U (Cq U U (qA (FO 101 (α:=Nat × Nat) (fun z=>[(0,.int .u64 (z.1:Int)),(2,.int .i64 (z.2:Int))]) (fun z w'=>w0=w'/\(∀k,z.1<2 ^ k->x<2 ^ (k+z.2))/\(∀k,2 ^ k<=2*z.1->2 ^ (k+z.2)<=2*x)/\(0<x->0<z.1)/\z.1<4294967296/\z.2<=32) U ?_ ?_))))))))
 .skip
  refine Av _ U ?_ ?_
  .intro h;replace h:=AJ h;refine Ad (Ae U (FS (n:=32) U U ?_));refine Af U (qA (Ay (Af U (qA ?_))));exact⟨(x / 2 ^ 32,32),rfl,⟨rfl,rfl,trivial⟩,rfl,fun k hk=>X2 hk,fun k hk=>X3 hk,fun _=>by dsimp only;omega,by dsimp only;omega,by dsimp only;omega⟩
  .intro h;replace h:=AK h;refine Aq (Aa ?_);exact⟨(x,0),rfl,⟨rfl,rfl,trivial⟩,rfl,fun k hk=>hk,fun k hk=>hk,fun h=>h,by dsimp only;omega,by dsimp only;omega⟩
 .rintro⟨y,n⟩ j w ⟨rfl,hk,hg,h0,hy,hn⟩;dsimp only at hk hg h0 hy hn;dsimp only;refine Ap (Ad (Ae U (Cq U U (qA (FO 7685 (α:=Nat × Nat) (fun z=>[(0,.int .u64 (z.1:Int)),(2,.int .i64 (z.2:Int))]) (fun z w'=>w0=w'/\(∀k,z.1<2 ^ k->x<2 ^ (k+z.2))/\(∀k,2 ^ k<=2*z.1->2 ^ (k+z.2)<=2*x)/\(0<x->0<z.1)/\z.1<65536/\z.2<=48) U ?_ ?_)))))
  .skip
   refine Av _ U ?_ ?_
   .intro h;replace h:=AJ h;refine Ad (Ae U (FS (n:=16) U U ?_));refine Af U (qA (Ay (Ae U (Aw U U ?_))));refine Af U (qA ?_);exact⟨(y / 2 ^ 16,n+16),rfl,⟨rfl,rfl,trivial⟩,rfl,fun k h7=>by have:=hk _ (X2 h7);rw[show k+(n+16)=k+16+n by omega];exact this,(fun k h7=>by have:=hg _ (X3 h7);rw[show k+(n+16)=k+16+n by omega];exact this),fun _=>by dsimp only;omega,by dsimp only;omega,by dsimp only;omega⟩
   .intro h;replace h:=AK h;refine Aq (Aa ?_);exact⟨(y,n),rfl,⟨rfl,rfl,trivial⟩,rfl,hk,hg,h0,by dsimp only;omega,by dsimp only;omega⟩
  .rintro⟨y,n⟩ j2 w ⟨rfl,hk,hg,h0,hy,hn⟩;dsimp only at hk hg h0 hy hn;dsimp only;refine Ap (Ad (Ae U (Cq U U (qA (FO 491525 (α:=Nat × Nat) (fun z=>[(0,.int .u64 (z.1:Int)),(2,.int .i64 (z.2:Int))]) (fun z w'=>w0=w'/\(∀k,z.1<2 ^ k->x<2 ^ (k+z.2))/\(∀k,2 ^ k<=2*z.1->2 ^ (k+z.2)<=2*x)/\(0<x->0<z.1)/\z.1<256/\z.2<=56) U ?_ ?_)))))
   .skip
    refine Av _ U ?_ ?_
    .intro h;replace h:=AJ h;refine Ad (Ae U (FS (n:=8) U U ?_));refine Af U (qA (Ay (Ae U (Aw U U ?_))));refine Af U (qA ?_);exact⟨(y / 2 ^ 8,n+8),rfl,⟨rfl,rfl,trivial⟩,rfl,fun k h7=>by have:=hk _ (X2 h7);rw[show k+(n+8)=k+8+n by omega];exact this,(fun k h7=>by have:=hg _ (X3 h7);rw[show k+(n+8)=k+8+n by omega];exact this),fun _=>by dsimp only;omega,by dsimp only;omega,by dsimp only;omega⟩
    .intro h;replace h:=AK h;refine Aq (Aa ?_);exact⟨(y,n),rfl,⟨rfl,rfl,trivial⟩,rfl,hk,hg,h0,by dsimp only;omega,by dsimp only;omega⟩
   .rintro⟨y,n⟩ j3 w ⟨rfl,hk,hg,h0,hy,hn⟩;dsimp only at hk hg h0 hy hn;dsimp only;obtain⟨b,hb,hb1,hb2,hb3⟩:=Aan y hy;have hb0:(bv b)=.int .u8 ((b.toNat:Nat):Int):=rfl;refine Ad (Ae U (Ae U (WN U U FD un_5 ?_)));refine ZJ (l:=Uz) b U un_9 U hb ?_;rw[hb0];refine H6 U U un_5 NY (Aw U U ?_);refine Af U (qA (A6 (AD (v:=(.int _ _)) U U U ?_)));refine⟨n+b.toNat,qaa (Value.int .i64) (by omega),?_,by omega,fun hx0=>?_,rfl⟩
    .have:=hk _ hb1;rw[qdu];exact this
    .have:=hg _ (hb3 (h0 hx0));rw[qdu];exact this
structure Bk where
 b:Nat
 c:Nat
 f:List Value
instance:Inhabited Bk:=⟨⟨0,0,[]⟩⟩
def Ie:Nat->List Nat
 |1=>[0]|4=>[3]|5=>[2,4,3]|6=>[1,0,5,2,4,3]|8=>[7]|9=>[8,7]|10=>[9,8,7]|12=>[11]|13=>[12,11]|15=>[14]|16=>[15,14]
 |17=>[6,1,0,5,2,4,3,10,9,8,7,13,12,11,16,15,14]|18=>[17,6,1,0,5,2,4,3,10,9,8,7,13,12,11,16,15,14]|19=>[18,17,6,1,0,5,2,4,3,10,9,8,7,13,12,11,16,15,14]|_=>[]
def sQ(n:Nat)(B:Nat->Bk):Bk:=if n=0 then⟨(B 2).b,0,[]⟩else B 5
def sSC(N n:Nat)(B:Nat->Bk):List Value:=SC N (some ⟨(sQ n B).b,0,none⟩) n (sQ n B).c (B 10).b (B 13).b (B 16).b 0
def V7(b1:Nat)(N n:Nat)(a:Option Addr)(c:Nat)(i:Nat)(B:Nat->Bk):Value :=
 if i=0\/i=11\/i=14 then .pointer (some ⟨b1,0+0,none⟩)else if i=1\/i=12\/i=15 then .int .i64 (N:Int)
 else if i=2 then .slice (some ⟨(B 2).b,0,none⟩) 0 0 else if i=3\/i=7 then .pointer (some ⟨b1,0+1,none⟩)else if i=4\/i=8 then .slice a n c
 else if i=5 then .slice (some ⟨(sQ n B).b,0,none⟩) n (sQ n B).c else if i=6 then .agg #[.int .i64 (N:Int),.slice (some ⟨(sQ n B).b,0,none⟩) n (sQ n B).c]
 else if i=9 then .int .i64 (n:Int)else if i=10 then .slice (some ⟨(B 10).b,0,none⟩) n n else if i=13 then .slice (some ⟨(B 13).b,0,none⟩) N N
 else if i=16 then .slice (some ⟨(B 16).b,0,none⟩) N N else if i=17 then .agg (sSC N n B).toArray else ptr (B 18).b
def Ig(N n:Nat)(i:Nat):Option ((Nat->Bk)->Obj) :=
 if i=2 then some fun _=>Bl 59 []else if i=5 then(if n=0 then none else some fun B=>Bl 59 (B 5).f)else if i=10 then some fun _=>Bl 2 (Ce (fun _=>0) n)else if i=13\/i=16 then some fun _=>Bl 2 (Ce (fun _=>0) N)
 else if i=18 then some fun B=>Bl 254 (sSC N n B)else none
def Amf(n:Nat)(es:List Ed)(i:Nat)(b:Bk):Prop:=i=5->n=0\/OS (some ⟨b.b,0,none⟩) n b.c 4 b.f (es.flatMap CJ)
theorem sStab(b1 N n:Nat)(a:Option Addr)(c i k:Nat)(b:Bk)(B:Nat->Bk)(hi:i<19)(hki:k≠i)(hka:k∉Ie i):V7 b1 N n a c i (KV B k b)=V7 b1 N n a c i B/\∀ob,Ig N n i=some ob->ob (KV B k b)=ob B:=by
 have hne:∀j,k≠j->KV B k b j=B j:=fun j h=>Kf (Ne.symm h);have hq:k≠2->k≠5->sQ n (KV B k b)=sQ n B:=fun h2 h5=>by unfold sQ;rw[hne 2 h2,hne 5 h5]
 have hcs:i=0\/i=1\/i=2\/i=3\/i=4\/i=5\/i=6\/i=7\/i=8\/i=9\/i=10\/i=11\/i=12\/i=13\/i=14\/i=15\/i=16\/i=17\/i=18:=by omega
 have hs:(k≠2/\k≠5/\k≠10/\k≠13/\k≠16)->sSC N n (KV B k b)=sSC N n B:=fun h=>by unfold sSC;rw[hq h.1 h.2.1,hne 10 h.2.2.1,hne 13 h.2.2.2.1,hne 16 h.2.2.2.2]
 rcases hcs with rfl|rfl|rfl|rfl|rfl|rfl|rfl|rfl|rfl|rfl|rfl|rfl|rfl|rfl|rfl|rfl|rfl|rfl|rfl <;> simp only[Ie,qag,qar,or_false,not_or,not_false_eq_true]at hka <;> (try simp[V7,Ig]) <;> (try rw[hne _ hki]) <;> (try rw[hq (by omega) (by omega)]) <;> (try rw[hs (by omega)]) <;> (try (constructor)) <;> (try rfl) <;> (try (split <;> simp)) <;> (try (intro ob h;subst h;rw[hne _ hki])) <;> (try (intro ob h;subst h;rw[hs (by omega)])) <;> (try exact⟨rfl,rfl⟩) <;> (try (intro _;rfl))
abbrev CZ(f:Nat->Int)(m:Nat):List Value:=(List.range m).map fun i => .int .u64 (f i)
theorem CH{w:World}{q m i:Nat}{f:Nat->Int}(h:w.heap[q]?=some (Bl 28 (CZ f m)))(hi:i<m:=by omega):w.cell? ⟨q,0+i*1,none⟩=some (.int .u64 (f i)):=by
 rw[An h,qa2,qcl,Ei hi]
def sw(f:Nat->Int)(i j k:Nat):Int:=if k=j then f i else if k=i then f j else f k
theorem Ez(f:Nat->Int)(i j:Nat):sw f i j j=f i:=if_pos rfl
theorem Ev{f:Nat->Int}{i j k:Nat}(h:k≠j):sw f i j k=if k=i then f j else f k:=if_neg h
theorem II(f:Nat->Int)(i j:Nat):sw f i j i=f j:=by
 unfold sw
 by_cases e:i=j
 .subst e;rw[if_pos rfl]
 .rw[if_neg e,if_pos rfl]
theorem Fw{f:Nat->Int}{i j k:Nat}(h1:k≠i:=by omega)(h2:k≠j:=by omega):sw f i j k=f k:=by unfold sw;rw[if_neg h2,if_neg h1]
inductive Sw (a b:Nat):(Nat->Int)->(Nat->Int)->Prop
 |refl (f:Nat->Int):Sw a b f f
 |step {f g:Nat->Int} (h:Sw a b f g) (i j:Nat) (hi:a<=i/\i<b) (hj:a<=j/\j<b):Sw a b f (sw g i j)
theorem Sw.trans{a b:Nat}{f g h:Nat->Int}(h1:Sw a b f g)(h2:Sw a b g h):Sw a b f h:=by
 induction h2 with
 |refl=>exact h1
 |step _ i j hi hj ih=>exact ih.step i j hi hj
theorem Sw.mono{a b a' b':Nat}{f g:Nat->Int}(h:Sw a b f g)(ha:a'<=a)(hb:b<=b'):Sw a' b' f g:=by
 induction h with
 |refl=>exact .refl _
 |step _ i j hi hj ih=>exact ih.step i j ⟨by omega,by omega⟩ ⟨by omega,by omega⟩
theorem Sw.out{a b:Nat}{f g:Nat->Int}(h:Sw a b f g):∀k,(k<a\/b<=k)->g k=f k:=by
 induction h with
 |refl=>exact fun _ _=>rfl
 |step _ i j hi hj ih=>exact fun k hk=>by rw[Fw];exact ih k hk
theorem Sw.mem{a b:Nat}{f g:Nat->Int}(h:Sw a b f g):∀k,a<=k->k<b->∃k',a<=k'/\k'<b/\g k=f k':=by
 induction h with
 |refl=>exact fun k h1 h2=>⟨k,h1,h2,rfl⟩
 | @step g h i j hi hj ih =>
  intro k h1 h2
  by_cases e2:k=j
  .rw[e2,Ez];exact ih i hi.1 hi.2
  .by_cases e1:k=i
   .rw[e1,II];exact ih j hj.1 hj.2
   .rw[Fw (h1:=e1) (h2:=e2)];exact ih k h1 h2
theorem Aqc{f:Nat->Int}{n i j:Nat}(hi:i<n:=by omega)(hj:j<n:=by omega):(tab (sw f i j) n).Perm (tab f n):=by
 have h:=Oa (L:=tab f n) (i:=i) (j:=j) (x:=f i) (y:=f j) (Cd hi) (Cd hj)
 have e:((tab f n).set i (f j)).set j (f i)=tab (sw f i j) n:=by
  unfold tab;rw[J5 (g:=fun k=>if k=i then f j else f k) (if_pos rfl) (fun k _ hk=>if_neg hk),J5 (g:=sw f i j) (Ez f i j) (fun k _ hk=>Ev hk)]
 rw[e]at h;exact h
theorem Sw.perm{a b n:Nat}{f g:Nat->Int}(h:Sw a b f g)(hb:b<=n):(tab g n).Perm (tab f n):=by
 induction h with
 |refl=>exact .refl _
 |step _ i j hi hj ih=>exact(Aqc).trans ih
def KH(f:Nat->Int)(a b:Nat):Prop:=∀x y,a<=x->x<y->y<b->f x<=f y
def InsU(f:Nat->Int)(a j i:Nat):Prop:=∀x y,a<=x->x<y->y<=i->y≠j->f x<=f y
theorem InsU.step{f:Nat->Int}{a j i:Nat}(h:InsU f a j i)(ha:a<j)(hi:j<=i)(hlt:f j<f (j - 1)):InsU (sw f j (j - 1)) a (j - 1) i:=fun x y hx hxy hy hne=>by
 by_cases e1:y=j
 .subst e1;rw[II]
  by_cases e2:x=y - 1
  .rw[e2,Ez];omega
  .rw[Fw (h2:=e2)];exact h x (y - 1) hx (by omega) (by omega) (by omega)
 .rw[Fw (h1:=e1) (h2:=hne)]
  by_cases e2:x=j - 1
  .rw[e2,Ez];exact h j y (by omega) (by omega) hy e1
  .by_cases e3:x=j
   .rw[e3,II];exact h (j - 1) y (by omega) (by omega) hy e1
   .rw[Fw (h1:=e3) (h2:=e2)];exact h x y hx hxy hy e1
theorem InsU.done{f:Nat->Int}{a j i:Nat}(h:InsU f a j i)(hj:a<=j)(hj0:a<j->f (j - 1)<=f j):KH f a (i+1):=fun x y hx hxy hy=>by
 by_cases e:y=j
 .subst e;have h1:=hj0 (by omega)
  by_cases e2:x=y - 1
  .rw[e2];exact h1
  .exact qbj (h x (y - 1) hx (by omega) (by omega) (by omega)) h1
 .exact h x y hx hxy (by omega) e
theorem FP(x y:Int)(w:World):Ret prog 236 #[.int .u64 x,.int .u64 y] w fun v w'=>v=.bool (decide (x<y))/\w=w':=by
 have nan:∀(x:Int) (w:World),Ret prog 261 #[.int .u64 x] w fun v w'=>v=.bool false/\w=w':=fun x w=>by
  refine A2 (fn:=f261) func261 U [.int .u64 x] U (Ad (Ai U (qA (Ad (Ae U (Ae U (C0 U U (Ai U (qA (A6 (AD (v:=(.bool _)) U U U ?_)))))))))));exact⟨qaa Value.bool (by simp),rfl⟩
 refine A2 (fn:=f236) func236 U [.int .u64 x,.int .u64 y] U (Ad (Ai U (qA (Ad (Ae U (Am qB (nan x w) U ?_))))));rintro v w ⟨rfl,rfl⟩;refine Au U (AE 7 U ?_ ?_)
 .intro h1;refine Ae U (Am qB (nan y _) U ?_);rintro v w ⟨rfl,rfl⟩;refine B1 U (A8 U (.bool _) U (Au U (AE 12 U ?_ ?_)))
  .intro h2;replace h2:=Bv h2;refine Ag U (Ag U (Ag U (A8 U (.bool _) U (Ai U (qA (A6 (AD (v:=(.bool _)) U U U ?_)))))));exact⟨qaa Value.bool (by simp_all),rfl⟩
  .intro h3;replace h3:=Bw h3;refine Ae U (Ae U (AZ U U (AA U (.bool _) U (Ai U (qA (A6 (AD (v:=(.bool _)) U U U ?_)))))));exact⟨qaa Value.bool (by simp_all),rfl⟩
 .intro h4;refine Ag U (Ag U (Ag U (AA U (.bool _) U (Au U (Ae U (Ae U (AZ U U (AA U (.bool _) U (Ai U ?_)))))))));refine qA (A6 (AD (v:=(.bool _)) U U U ?_));exact⟨qaa Value.bool (by simp_all),rfl⟩
section
variable {w:World}{q n c m a b:Nat}{f:Nat->Int}
theorem U0(hd:w.heap[q]?=some (Bl 28 (CZ f m)))(hab:a<=b)(hn:n<=m)(hm:n<=1000000000)(hb:b<=n:=by omega):
  Ret prog 230 #[.slice (some ⟨q,0,none⟩) n c,.int .i64 (a:Int),.int .i64 (b:Int)] w fun v w'=>v=.tuple #[]/\∃g,Sw a b f g/\KH g a b/\Ctx w [q] w' [(q,Bl 28 (CZ g m))]:=by
 obtain⟨w0,rfl⟩:=qD w;have H:=Ctx.start1 hd;refine A2 (fn:=f230) func230 U [.slice (some ⟨q,0,none⟩) n c,.int .i64 (a:Int),.int .i64 (b:Int)] U ?_;refine Ad (Ae U (Aw U U ?_));refine Af U (qA (Ax (Bn 562949953420480 (α:=Nat × (Nat->Int)) (fun t=>[(6,.int .i64 (t.1:Int))]) (fun t w'=>a+1<=t.1/\t.1<=max b (a+1)/\Sw a b f t.2/\KH t.2 a t.1/\Ctx w0 [q] w' [(q,Bl 28 (CZ t.2 m))]) (fun t=>b - t.1) (a+1,f) U ?_ ?_ ?_)))
 .exact⟨qaa (Value.int .i64) (by dsimp only;omega),trivial⟩
 .exact⟨qan _,by dsimp only;omega,.refl _,fun x y h1 h2 h3=>by dsimp only at h3;omega,H⟩
 .rintro⟨i,g⟩ j0 w ⟨hi1,hi2,hS,hO,H⟩;dsimp only at hi1 hi2 hS hO H;dsimp only;refine Ap (Ad (Ae U (Ae U (AZ U U (qA (Av _ U ?_ ?_))))))
  .intro h1;replace h1:=AJ h1;refine Aq (Aa (Ap (Ax (Ad (Ae U (Af U (qA (Ax (Bn 562949953355904 (α:=Nat × (Nat->Int)) (fun t=>[(7,.int .i64 (t.1:Int))]) (fun t w'=>a<=t.1/\t.1<=i/\Sw a b f t.2/\InsU t.2 a t.1 i/\Ctx w0 [q] w' [(q,Bl 28 (CZ t.2 m))]) (fun t=>t.1) (i,g) U ?_ ?_ ?_)))))))))
   .exact⟨rfl,trivial⟩
   .exact⟨by dsimp only;omega,qan _,hS,fun x y hx hxy hy hne=>hO x y hx hxy (by dsimp only at hne;omega),H⟩
   .rintro⟨j,g⟩ j1 w ⟨hj1,hj2,hS,hI,H⟩;dsimp only at hj1 hj2 hS hI H;dsimp only;have e1:(j:Int).toNat=j:=rfl;have e2:((j:Int) - 1).toNat=j - 1:=by omega
    refine Ap (EB 13 Bs U U ?_);refine AY U (AY U (K9 U U (Co U (DE 19 U ?_ ?_))))
    .intro h2;replace h2:=AJ h2;refine B0 U (AY U (Bd BA Bx U U ?_));refine BF BL U (by rintro _ rfl;exact((CH (H.drew.get at0)))) ?_;refine B0 U (AY U (Dp U U ?_));refine Bd BA Bx U U ?_;refine BF BL U (by rintro _ rfl;exact((CH (H.drew.get at0)))) ?_;refine BM ?_;replace H:=H.drew;refine Am qB (FP _ _ _) U ?_;rintro v w ⟨rfl,rfl⟩;refine A8 U (.bool _) U (qA (Av _ U ?_ ?_))
     .intro h3;rw[e1,e2]at h3;have h3:=qbd h3;refine Aq (Aa (Ap (Ax (ET [([0,1,2,3,4,5,6,7,8,9,10,11,12,13,14],15),([16],17)] (fun z=>z.heap[q]?=some (Bl 28 (CZ g m))) [15,17] Bs (H.drew.get at0) ?_))));refine AO U U (B4 U (Bg U (B4 U (Bg U (EO U U ?_)))));refine B4 U (Bg U (EO U U ?_));refine AV BA Bx U U (B5 BL U (fun _ hx=>(CH hx)) ?_);refine B4 U (Bg U (AV BA Bx U U ?_));refine B5 BL U (fun _ hx=>(CH hx)) (AV BA Bx U U ?_);refine Bb ?_;replace H:=H.drew
      refine Cl j (fun k => .int .u64 (if k=j then g (j - 1)else g k)) (.int _ _) Bx U U U H at0 (by omega) (by rw[if_pos rfl];exact qaa (fun z=>Value.int .u64 (g z)) (by omega)) (fun k _ hk=>by rw[if_neg hk]) ?_;rintro w H;refine Ab (BH U (AO U U ?_));refine AV BA Bx U U ?_;refine Bb (Cl (j - 1) (fun k => .int .u64 (sw g j (j - 1) k)) (.int _ _) Bx U U U H at0 (by omega) (by rw[Ez];rfl) (fun k _ hk=>by rw[Ev hk]) ?_);rintro w H;refine Ab (BH U (BK (A7 (Aa (Ay (Ae U (B3 U U ?_)))))));refine Af U (qA ?_);exact⟨(j - 1,sw g j (j - 1)),rfl,⟨qaa (Value.int .i64) (by dsimp only;omega),trivial⟩,⟨by dsimp only;omega,by dsimp only;omega,hS.step j (j - 1) ⟨by omega,by omega⟩ ⟨by omega,by omega⟩,hI.step (by omega) hj2 h3,H⟩,by dsimp only;omega⟩
     .intro h3;rw[e1,e2]at h3;have h3:=qbk h3;refine Be (Aj (Aj (AH (A7 (Aa (Ay (Ae U (Aw U U ?_))))))));refine Af U (qA ?_);exact⟨(i+1,g),rfl,⟨rfl,trivial⟩,⟨by dsimp only;omega,by dsimp only;omega,hS,hI.done hj1 fun _=>by omega,H⟩,by dsimp only;omega⟩
    .intro h2;replace h2:=AK h2;refine A4 U (A4 U (A4 U (A4 U (A4 U (A4 U (A4 U (A4 U (A4 U (BM ?_)))))))));replace H:=H.drew;refine Ag U (AA U (.bool _) U (qA (D5 U (Be (Aj (Aj (AH (A7 (Aa (Ay (Ae U (Aw U U ?_))))))))))));refine Af U (qA ?_);exact⟨(i+1,g),rfl,⟨rfl,trivial⟩,⟨by dsimp only;omega,by dsimp only;omega,hS,hI.done hj1 fun h=>by omega,H⟩,by dsimp only;omega⟩
  .intro h1;replace h1:=AK h1;refine Be (Aj (Aj (AH (Dd U U ?_))));exact⟨rfl,g,hS,fun x y hx hxy hy=>hO x y hx hxy (by omega),H⟩
end
def HeapU(g:Nat->Int)(o lo hi:Nat):Prop:=∀i c,lo<=i->(c=2*i+1\/c=2*i+2)->c<hi->g (o+c)<=g (o+i)
structure SiftU(g:Nat->Int)(o lo r hi:Nat):Prop where
 oth:∀i c,lo<=i->i≠r->(c=2*i+1\/c=2*i+2)->c<hi->g (o+c)<=g (o+i)
 up:∀p c,lo<=p->(r=2*p+1\/r=2*p+2)->(c=2*r+1\/c=2*r+2)->c<hi->g (o+c)<=g (o+p)
theorem SiftU.start{g:Nat->Int}{o lo hi:Nat}(h:HeapU g o (lo+1) hi):SiftU g o lo lo hi:=⟨fun i c hi hne hc hh=>h i c (by omega) hc hh,fun p c hp hr _ _=>by omega⟩
theorem SiftU.done{g:Nat->Int}{o lo r hi:Nat}(h:SiftU g o lo r hi)(hr:∀c,(c=2*r+1\/c=2*r+2)->c<hi->g (o+c)<=g (o+r)):HeapU g o lo hi:=fun i c hl hc hh=>by
 by_cases e:i=r
 .subst e;exact hr c hc hh
 .exact h.oth i c hl e hc hh
theorem SiftU.step{g:Nat->Int}{o lo r hi c:Nat}(h:SiftU g o lo r hi)(_:lo<=r)(hc:c=2*r+1\/c=2*r+2)(hch:c<hi)(hmax:∀d,(d=2*r+1\/d=2*r+2)->d<hi->g (o+d)<=g (o+c))(hlt:g (o+r)<g (o+c)):SiftU (sw g (o+r) (o+c)) o lo c hi:=by
 refine⟨fun i d hi' hne hd hh=>?_,fun p e hp hcp he hh=>?_⟩
 .by_cases e1:i=r
  .rw[e1,II]
   by_cases e2:d=c
   .rw[e2,Ez];omega
   .rw[Fw];exact hmax d (by omega) hh
  .rw[Fw (k:=o+i)]
   by_cases e2:d=r
   .rw[e2,II];exact h.up i c hi' (by omega) hc hch
   .rw[Fw];exact h.oth i d hi' e1 hd hh
 .have e1:p=r:=by omega
  rw[e1,II,Fw];exact h.oth c e (by omega) (by omega) he hh
theorem HeapU.root{g:Nat->Int}{o hi:Nat}(h:HeapU g o 0 hi):∀i,i<hi->g (o+i)<=g (o+0):=fun i=>by
 induction i using Nat.strongRecOn with
 |_ i ih =>
  intro hi'
  rcases qdy i with h0|h0
  .rw[h0];exact qav _
  .exact qbj (h ((i - 1) / 2) i (qaf _) (by omega) hi') (ih ((i - 1) / 2) (by omega) (by omega))
section
variable {w:World}{q n c m:Nat}{f:Nat->Int}
theorem YQ{lo hi o:Nat}(hd:w.heap[q]?=some (Bl 28 (CZ f m)))(hn:n<=m)(hm:n<=1000000000)(hH:HeapU f o (lo+1) hi)(hb:o+hi<=n:=by omega)(hl:lo<=1000000000:=by omega):
  Ret prog 256 #[.slice (some ⟨q,0,none⟩) n c,.int .i64 (lo:Int),.int .i64 (hi:Int),.int .i64 (o:Int)] w fun v w'=>v=.tuple #[]/\∃g,Sw o (o+hi) f g/\HeapU g o lo hi/\Ctx w [q] w' [(q,Bl 28 (CZ g m))]:=by
 obtain⟨w0,rfl⟩:=qD w;have H:=Ctx.start1 hd;refine A2 (fn:=f256) func256 U [.slice (some ⟨q,0,none⟩) n c,.int .i64 (lo:Int),.int .i64 (hi:Int),.int .i64 (o:Int)] U ?_;refine Ad (Ae U (Af U (qA (Ax (Bn 75557863725914323417856 (α:=Nat × (Nat->Int)) (fun t=>[(8,.int .i64 (t.1:Int))]) (fun t w'=>lo<=t.1/\t.1<=1000000000/\Sw o (o+hi) f t.2/\SiftU t.2 o lo t.1 hi/\Ctx w0 [q] w' [(q,Bl 28 (CZ t.2 m))]) (fun t=>1000000000 - t.1) (lo,f) U ?_ ?_ ?_)))))
 .exact⟨rfl,trivial⟩
 .exact⟨qan _,hl,.refl _,.start hH,H⟩
 .rintro⟨r,g⟩ j0 w ⟨hr1,hr2,hS,hD,H⟩;dsimp only at hr1 hr2 hS hD H;dsimp only;refine Ax (Ad (Ae U (D8 U U ?_)));refine Aw U U ?_;rw[show 2*(r:Int)+1=((2*r+1:Nat):Int)by omega];refine Af U (qA (Ap (Ad (Ae U (Ae U (Cq U U (qA (Av _ U ?_ ?_))))))))
  .intro h1;replace h1:=AJ h1;refine Be (Aj (FJ U (Aj (AH (Dd U U ?_)))));exact⟨rfl,g,hS,hD.done fun c hc hh=>by omega,H⟩
  .intro h1;replace h1:=AK h1;have e1:((o:Int)+((2*r+1:Nat):Int)).toNat=o+(2*r+1):=by omega
   have e2:((o:Int)+((2*r+1:Nat):Int)+1).toNat=o+(2*r+2):=by omega
   refine Aq (Aa (Ap (Eo 137438822400 (α:=Unit) (fun _=>[(36,.bool (decide (2*r+2<hi/\g (o+(2*r+1))<g (o+(2*r+2)))))]) (fun _ w'=>Ctx w0 [q] w' [(q,Bl 28 (CZ g m))]) U ?_ ?_)))
   .skip
    refine FK 18 Bs U U (AY U (CX U U ?_));refine AY U (K8 U U (Co U (DE 21 U ?_ ?_)))
    .intro h1;replace h1:=AJ h1;refine B0 U (AY U (AY U (CX U U ?_)));refine Bd BA Bx U U ?_;refine BF BL U (by rintro _ rfl;exact((CH (H.drew.get at0)))) ?_;refine B0 U (AY U (AY U (CX U U ?_)));refine CX U U (Bd BA Bx U U ?_);refine BF BL U (by rintro _ rfl;exact((CH (H.drew.get at0)))) ?_;refine BM ?_;replace H:=H.drew;refine Am qB (FP _ _ _) U ?_;rintro v w ⟨rfl,rfl⟩;rw[e1,e2];refine A8 U (.bool _) U (qA ?_);exact⟨(),rfl,⟨qaa Value.bool (by rw[qad];simp_all;try omega),trivial⟩,H⟩
    .intro h2;replace h2:=AK h2;refine A4 U (A4 U (A4 U (A4 U (A4 U (A4 U (A4 U (A4 U (A4 U (A4 U ?_)))))))));refine A4 U (A4 U (A4 U (BM ?_)));replace H:=H.drew;refine Ag U (AA U (.bool _) U (qA ?_));exact⟨(),rfl,⟨qaa Value.bool (by rw[qad];simp_all;try omega),trivial⟩,H⟩
   .rintro - j1 w H;refine FO 412316860928 (α:=Nat) (fun d=>[(9,.int .i64 (d:Int))]) (fun d w'=>(d=2*r+1\/d=2*r+2)/\d<hi/\(∀e,(e=2*r+1\/e=2*r+2)->e<hi->g (o+e)<=g (o+d))/\Ctx w0 [q] w' [(q,Bl 28 (CZ g m))]) U ?_ ?_
    .skip
     refine Av _ U ?_ ?_
     .intro h2;have h2:=qbd h2;refine Ay (Ae U (Aw U U ?_));refine Af U (qA ?_);refine⟨2*r+2,rfl,⟨qaa (Value.int .i64) (by omega),trivial⟩,.inr rfl,h2.1,fun e he _=>?_,H⟩
      rcases he with rfl|rfl
      .omega
      .omega
     .intro h2;have h2:=qbk h2;refine Aq (Aa ?_);refine⟨2*r+1,rfl,⟨rfl,trivial⟩,.inl rfl,by omega,fun e he hh=>?_,H⟩
      rcases he with rfl|rfl
      .omega
      .rcases qci (g (o+(2*r+1))) (g (o+(2*r+2)))with h7|h7
       .exact absurd ⟨hh,h7⟩ h2
       .exact h7
    .rintro d j2 w ⟨hd1,hd2,hmax,H⟩;have e3:((o:Int)+(r:Int)).toNat=o+r:=by omega
     have e4:((o:Int)+(d:Int)).toNat=o+d:=by omega
     refine Ap (EB 12 Bs U U ?_);refine B0 U (AY U (AY U (CX U U ?_)));refine Bd BA Bx U U ?_;refine BF BL U (by rintro _ rfl;exact((CH (H.drew.get at0)))) ?_;refine B0 U (AY U (AY U (CX U U ?_)));refine Bd BA Bx U U ?_;refine BF BL U (by rintro _ rfl;exact((CH (H.drew.get at0)))) ?_;refine BM ?_;replace H:=H.drew;refine Am qB (FP _ _ _) U ?_;rintro v w ⟨rfl,rfl⟩;rw[e3,e4];refine B1 U (qA (Av _ U ?_ ?_))
     .intro h3;replace h3:=Bv h3;refine A6 (Al (A5 (Al (A5 (Gx U U ?_)))));have h3:¬g (o+r)<g (o+d):=by simpa using h3
      exact⟨rfl,g,hS,hD.done fun c hc hh=>qbj (hmax c hc hh) (by omega),H⟩
     .intro h3;replace h3:=Bw h3;have h3:g (o+r)<g (o+d):=by simpa using h3
      refine Aq (Aa (C1 [([0,1,2,3,4,5,6,7,8,9,10,11,12,13,14,15,16,17,18,19,20],21),([22],23)] (fun z=>z.heap[q]?=some (Bl 28 (CZ g m))) [21,23] Bs (H.drew.get at0) ?_));refine AO U U (B4 U (Bg U (Bg U (E6 U U ?_))));refine B4 U (Bg U (Bg U (E6 U U ?_)));refine B4 U (Bg U (Bg U (E6 U U ?_)));refine AV BA Bx U U (B5 BL U (fun _ hx=>(CH hx)) ?_);refine B4 U (Bg U (Bg U (E6 U U ?_)));refine AV BA Bx U U (B5 BL U (fun _ hx=>(CH hx)) ?_);refine AV BA Bx U U (Bb ?_);replace H:=H.drew
      refine Cl (o+r) (fun k => .int .u64 (if k=o+r then g (o+d)else g k)) (.int _ _) Bx U U U H at0 (by omega) (by rw[if_pos rfl];exact qaa (fun z=>Value.int .u64 (g z)) (by omega)) (fun k _ hk=>by rw[if_neg hk]) ?_;rintro w H;refine Ab (BH U (AO U U ?_));refine AV BA Bx U U ?_;refine Bb (Cl (o+d) (fun k => .int .u64 (sw g (o+r) (o+d) k)) (.int _ _) Bx U U U H at0 (by omega) (by rw[Ez];exact qaa (fun z=>Value.int .u64 (g z)) (by omega)) (fun k _ hk=>by rw[Ev hk]) ?_);rintro w H;refine Ab (BH U (BK (Ay (Ae U (Af U (Ab (A7 (Aa ?_))))))));exact⟨(d,sw g (o+r) (o+d)),rfl,⟨rfl,trivial⟩,⟨by dsimp only;omega,by dsimp only;omega,hS.step _ _ ⟨by omega,by omega⟩ ⟨by omega,by omega⟩,hD.step hr1 hd1 hd2 hmax h3,H⟩,by dsimp only;omega⟩
structure HsU(g:Nat->Int)(a i b:Nat):Prop where
 srt:KH g (a+i) b
 le:∀x y,x<i->a+i<=y->y<b->g (a+x)<=g y
theorem V8{a b:Nat}(hd:w.heap[q]?=some (Bl 28 (CZ f m)))(hn:n<=m)(hm:n<=1000000000)(hab:a<b:=by omega)(hb:b<=n:=by omega):
  Ret prog 231 #[.slice (some ⟨q,0,none⟩) n c,.int .i64 (a:Int),.int .i64 (b:Int)] w fun v w'=>v=.tuple #[]/\∃g,Sw a b f g/\KH g a b/\Ctx w [q] w' [(q,Bl 28 (CZ g m))]:=by
 obtain⟨w0,rfl⟩:=qD w;have H:=Ctx.start1 hd;obtain⟨l,rfl⟩:∃l,b=a+l:=⟨b - a,by omega⟩;have hl:((a+l:Nat):Int) - (a:Int)=(l:Int):=by omega
 have hl1:(l:Int) - 1=((l - 1:Nat):Int):=by omega
 refine A2 (fn:=f231) func231 U [.slice (some ⟨q,0,none⟩) n c,.int .i64 (a:Int),.int .i64 ((a+l:Nat):Int)] U ?_;refine Ad (Ae U (Af U (qA (Ad (Af U (qA (Ad (Ae U (Ae U ?_)))))))));refine B3 U U ?_;rw[hl];refine Af U (qA (Ap (Ad (Ae U (B3 U U ?_)))));refine Jr U U (show _<=(9223372036854775807:Int)by omega) ?_;refine Af U (qA (Ax (Bn 133956096 (α:=Nat × (Nat->Int)) (fun t=>[(9,.int .i64 ((t.1:Int) - 1))]) (fun t w'=>t.1<=l+1/\Sw a (a+l) f t.2/\HeapU t.2 a t.1 l/\Ctx w0 [q] w' [(q,Bl 28 (CZ t.2 m))]) (fun t=>t.1) ((l - 1) / 2+1,f) U ?_ ?_ ?_)))
 .exact⟨qaa (Value.int .i64) (by dsimp only;omega),trivial⟩
 .exact⟨by dsimp only;omega,.refl _,fun i c h1 h2 h3=>by dsimp only at h1;omega,H⟩
 .rintro⟨k,g⟩ j0 w ⟨hk,hS,hP,H⟩;dsimp only at hk hS hP H;dsimp only
  rcases k with _|k
  .skip
   refine Ap (Ad (Ae U (Cq U U (qA (Av _ U ?_ ?_)))))
   .intro h1;replace h1:=AJ h1;omega
   .intro h1;replace h1:=AK h1;refine Be (Aj (Aj (AH (Aa (Ad (Ae U (B3 U U ?_)))))));refine Af U (qA (Ax (Bn 72057593501058048 (α:=Nat × (Nat->Int)) (fun t=>[(10,.int .i64 ((t.1:Int) - 1))]) (fun t w'=>t.1<=l/\Sw a (a+l) f t.2/\HeapU t.2 a 0 t.1/\HsU t.2 a t.1 (a+l)/\Ctx w0 [q] w' [(q,Bl 28 (CZ t.2 m))]) (fun t=>t.1) (l,g) U ?_ ?_ ?_)))
    .exact⟨rfl,trivial⟩
    .exact⟨qan _,hS,hP,⟨fun x y h1 h2 h3=>by dsimp only at h1;omega,fun x y h1 h2 h3=>by dsimp only at h2;omega⟩,H⟩
    .rintro⟨k,g⟩ j1 w ⟨hk,hS,hP,hQ,H⟩;dsimp only at hk hS hP hQ H;dsimp only
     rcases k with _|k
     .skip
      refine Ap (Ad (Ae U (Cq U U (qA (Av _ U ?_ ?_)))))
      .intro h2;replace h2:=AJ h2;omega
      .intro h2;replace h2:=AK h2;refine Be (Aj (Aj (AH (Dd U U ?_))));exact⟨rfl,g,hS,hQ.srt,H⟩
     .rw[show((k+1:Nat):Int) - 1=(k:Int)by omega];refine Ap (Ad (Ae U (Cq U U (qA (Av _ U ?_ ?_)))))
      .intro h2;replace h2:=AJ h2;refine Aq (Aa (Ap (Ax (C1 [([0,1,2,3,4,5,6,7,8,9,10,11,12,13,14,15,16],17),([18],19)] (fun z=>z.heap[q]?=some (Bl 28 (CZ g m))) [17,19] Bs (H.drew.get at0) ?_))));refine AO U U (B4 U (Bg U (B4 U (Bg U (Bg U (E6 U U ?_))))));refine B4 U (Bg U (Bg U (E6 U U ?_)));refine AV BA Bx U U (B5 BL U (fun _ hx=>(CH hx)) ?_);refine B4 U (Bg U (AV BA Bx U U ?_));refine B5 BL U (fun _ hx=>(CH hx)) (AV BA Bx U U ?_);refine Bb ?_;replace H:=H.drew
       refine Cl (a+0) (fun z => .int .u64 (if z=a+0 then g (a+k)else g z)) (.int _ _) Bx U U U H at0 (by omega) (by rw[if_pos rfl];exact qaa (fun z=>Value.int .u64 (g z)) (by omega)) (fun z _ hz=>by rw[if_neg hz]) ?_;rintro w H;refine Ab (BH U (AO U U ?_));refine AV BA Bx U U ?_;refine Bb (Cl (a+k) (fun z => .int .u64 (sw g (a+0) (a+k) z)) (.int _ _) Bx U U U H at0 (by omega) (by rw[Ez];exact qaa (fun z=>Value.int .u64 (g z)) (by omega)) (fun z _ hz=>by rw[Ev hz]) ?_);rintro w H;refine Ab (BH U (BK (Ay (Ao U (Ae U (Ae U (Ae U (Am qB (YQ (lo:=0) (hi:=k) (o:=a) (f:=sw g (a+0) (a+k)) (H.get at0) hn hm (fun i c h1 h2 h3=>by rw[Fw,Fw];exact hP i c (by omega) h2 (by omega))) U ?_))))))));rintro rv w ⟨rfl,g2,hS2,hP2,H2⟩
       replace H:=Ctx.back (L1:=[_]) (L2:=[]) H H2;refine Ab (A7 (Aa (Ay (Ae U (B3 U U ?_)))));refine Af U (qA ?_);have hout:=fun z hz=>hS2.out z hz;have hk2:g2 (a+k)=g (a+0):=by rw[hout _ (.inr (qan _)),Ez]
       have hot:∀z,a+k<z->g2 z=g z:=fun z hz=>by rw[hout _ (.inr (by omega)),Fw]
       refine⟨(k,g2),rfl,⟨rfl,trivial⟩,⟨by dsimp only;omega,(hS.step (a+0) (a+k) ⟨by omega,by omega⟩ ⟨by omega,by omega⟩).trans (hS2.mono (qan _) (by omega)),hP2,⟨fun x y h1 h2 h3=>?_,fun x y h1 h2 h3=>?_⟩,H⟩,by dsimp only;omega⟩
       .dsimp only at h1 |-;rw[hot y (by omega)]
        by_cases e:x=a+k
        .rw[e,hk2];exact hQ.le 0 y (by omega) (by omega) h3
        .rw[hot x (by omega)];exact hQ.srt x y (by omega) h2 h3
       .dsimp only at h1 h2 |-;obtain⟨z,hz1,hz2,hz3⟩:=hS2.mem (a+x) (by omega) (by omega)
        obtain⟨u,hu1,hu2⟩:∃u,u<k+1/\g2 (a+x)=g (a+u):=by
         by_cases e:z=a+0
         .exact⟨k,by omega,by rw[hz3,e,II]⟩
         .exact⟨z - a,by omega,by rw[hz3,Fw (h1:=e)];congr 1;omega⟩
        rw[hu2]
        by_cases e:y=a+k
        .rw[e,hk2];exact hP.root u hu1
        .rw[hot y (by omega)];exact hQ.le u y hu1 (by omega) h3
      .intro h2;replace h2:=AK h2;omega
  .rw[show((k+1:Nat):Int) - 1=(k:Int)by omega];refine Ap (Ad (Ae U (Cq U U (qA (Av _ U ?_ ?_)))))
   .intro h1;replace h1:=AJ h1;refine Aq (Aa (Ap (Ax (Ay (Ao U (Ae U (Ae U (Ae U (Am qB (YQ (lo:=k) (hi:=l) (o:=a) (f:=g) (H.get at0) hn hm hP) U ?_)))))))));rintro rv w ⟨rfl,g2,hS2,hP2,H2⟩;replace H:=Ctx.back (L1:=[_]) (L2:=[]) H H2;refine Ab (A7 (Aa (Ay (Ae U (B3 U U ?_)))));refine Af U (qA ?_);exact⟨(k,g2),rfl,⟨rfl,trivial⟩,⟨by dsimp only;omega,hS.trans hS2,hP2,H⟩,by dsimp only;omega⟩
   .intro h1;replace h1:=AK h1;omega
end
section
variable {w:World}{q n c m s:Nat}{k:Int}{f:Nat->Int}
theorem Oc{i j:Nat}(hd:w.heap[q]?=some (Bl 28 (CZ f m)))(hs:w.heap[s]?=some (Bl 3 [.int .i64 k]))(hj:j<n)(hn:n<=m)(_:n<=1000000000)(hi:i<n:=by omega):
  Ret prog 277 #[.slice (some ⟨q,0,none⟩) n c,.int .i64 (i:Int),.int .i64 (j:Int),ptr s] w fun v w'=>∃(x y:Nat) (k':Int),((x=i/\y=j)\/(x=j/\y=i))/\v=.tuple #[.int .i64 (x:Int),.int .i64 (y:Int)]/\Ctx w [s] w' [(s,Bl 3 [.int .i64 k'])]:=by
 obtain⟨w0,rfl⟩:=qD w;have H:=Ctx.start1 hs;refine A2 (fn:=f277) func277 U [.slice (some ⟨q,0,none⟩) n c,.int .i64 (i:Int),.int .i64 (j:Int),.pointer (some ⟨s,0,none⟩)] U ?_;refine Ad (Af U (Af U (qA (Ap (EB 8 Bs U U ?_)))));refine B0 U (AY U (Bd BA Bx U U ?_));refine BF BL U (by rintro _ rfl;exact((CH (w:=w0.drew) hd))) ?_;refine B0 U (AY U (Bd BA Bx U U ?_));refine BF BL U (by rintro _ rfl;exact((CH (w:=w0.drew) hd))) ?_;refine BM ?_;replace H:=H.drew;refine Am qB (FP _ _ _) U ?_;rintro v w ⟨rfl,rfl⟩;refine qA (Av _ U ?_ ?_)
 .intro h1;refine Ad (A9 U (AP U (AG B6 U H at0 U (OY U U U ?_))));intro k2;refine AP U (Cz (.int _ _) D9 U U U H at0 (by(simp;done)) ?_);rintro w H;refine qA (Ad (Ae U (Ae U (Af U (Af U (qA (A6 (Al (BG (v1:=(.int _ _)) (v2:=(.int _ _)) U U U U ?_)))))))));exact⟨j,i,k2,.inr ⟨rfl,rfl⟩,rfl,H⟩
 .intro h1;refine Aq (Aa (Ad (Ae U (Ae U (Af U (Af U (qA (A6 (BG (v1:=(.int _ _)) (v2:=(.int _ _)) U U U U ?_)))))))));exact⟨i,j,k,.inl ⟨rfl,rfl⟩,rfl,H⟩
theorem Th{i j l:Nat}(hd:w.heap[q]?=some (Bl 28 (CZ f m)))(hs:w.heap[s]?=some (Bl 3 [.int .i64 k]))(hne:q≠s)(hn:n<=m)(hm:n<=1000000000)(hi:i<n:=by omega)(hj:j<n:=by omega)(hl:l<n:=by omega):
  Ret prog 260 #[.slice (some ⟨q,0,none⟩) n c,.int .i64 (i:Int),.int .i64 (j:Int),.int .i64 (l:Int),ptr s] w fun v w'=>∃(x:Nat) (k':Int),(x=i\/x=j\/x=l)/\v=.int .i64 (x:Int)/\Ctx w [s] w' [(s,Bl 3 [.int .i64 k'])]:=by
 obtain⟨w0,rfl⟩:=qD w;have H:=Ctx.start1 hs;have hq:q∉[s]:=by rw[qab];exact hne
 refine A2 (fn:=f260) func260 U [.slice (some ⟨q,0,none⟩) n c,.int .i64 (i:Int),.int .i64 (j:Int),.int .i64 (l:Int),.pointer (some ⟨s,0,none⟩)] U ?_;refine Ad (Af U (qA (Ad (Ao U (Ae U (Ae U (A9 U (Am qB (Oc (i:=i) (j:=j) (H.ext.to hd hq) (H.get at0) (hi:=hi) hj hn hm) U ?_))))))));rintro v w ⟨x1,y1,k1,h1,rfl,H2⟩;replace H:=Ctx.back (L1:=[_]) (L2:=[]) H H2;refine BN U (AF U U (AF U U (Af U (Af U (qA (Ad (Ao U (Ae U (Ae U ?_)))))))));refine A9 U (Am qB (Oc (i:=y1) (j:=l) (H.ext.to hd hq) (H.get at0) hl hn hm) U ?_);rintro v w ⟨x2,y2,k2,h2,rfl,H2⟩;replace H:=Ctx.back (L1:=[_]) (L2:=[]) H H2;refine BN U (AF U U (AF U U (Af U (Af U (qA (Ad (Ao U (Ae U (Ae U ?_)))))))));refine A9 U (Am qB (Oc (i:=x1) (j:=x2) (H.ext.to hd hq) (H.get at0) (by omega) hn hm) U ?_)
 rintro v w ⟨x3,y3,k3,h3,rfl,H2⟩;replace H:=Ctx.back (L1:=[_]) (L2:=[]) H H2;refine BN U (AF U U (AF U U (Af U (Af U (qA (Ad (Ae U (Af U (qA ?_)))))))));refine A6 (AD (v:=(.int _ _)) U U U ?_);exact⟨y3,k3,by omega,rfl,H⟩
theorem Kr{i:Nat}(hd:w.heap[q]?=some (Bl 28 (CZ f m)))(hs:w.heap[s]?=some (Bl 3 [.int .i64 k]))(hne:q≠s)(hn:n<=m)(hm:n<=1000000000)(hi0:0<i:=by omega)(hi:i+1<n:=by omega):
  Ret prog 259 #[.slice (some ⟨q,0,none⟩) n c,.int .i64 (i:Int),ptr s] w fun v w'=>∃(x:Nat) (k':Int),(x+1=i\/x=i\/x=i+1)/\v=.int .i64 (x:Int)/\Ctx w [s] w' [(s,Bl 3 [.int .i64 k'])]:=by
 obtain⟨w0,rfl⟩:=qD w;refine A2 (fn:=f259) func259 U [.slice (some ⟨q,0,none⟩) n c,.int .i64 (i:Int),.pointer (some ⟨s,0,none⟩)] U ?_;refine Ad (Af U (qA (Ad (Ao U (Ae U (B3 U U ?_))))));rw[show(i:Int) - 1=((i - 1:Nat):Int)by omega];refine Ae U (Ae U (Aw U U ?_));rw[show(i:Int)+1=((i+1:Nat):Int)by omega];refine A9 U (Am qB (Th (i:=i - 1) (j:=i) (l:=i+1) hd hs hne hn hm) U ?_);rintro v w ⟨x1,k1,h1,rfl,H⟩;refine Af U (qA (A6 (AD (v:=(.int _ _)) U U U ?_)));exact⟨x1,k1,by omega,rfl,H⟩
theorem Aff{a b:Nat}(hd:w.heap[q]?=some (Bl 28 (CZ f m)))(hn:n<=m)(hm:n<=1000000000)(hab:a<b:=by omega)(hb:b<=n:=by omega):
  Ret prog 233 #[.slice (some ⟨q,0,none⟩) n c,.int .i64 (a:Int),.int .i64 (b:Int)] w fun v w'=>∃(x:Nat) (h:Int),a<=x/\x<b/\v=.tuple #[.int .i64 (x:Int),.int .i64 h]/\Ext [] w w':=by
 obtain⟨w0,rfl,H⟩:=qE w;obtain⟨l,rfl⟩:∃l,b=a+l:=⟨b - a,by omega⟩;have hl:((a+l:Nat):Int) - (a:Int)=(l:Int):=by omega
 have hql:=Bf hd;refine A2 (fn:=f233) func233 U [.slice (some ⟨q,0,none⟩) n c,.int .i64 (a:Int),.int .i64 ((a+l:Nat):Int)] U ?_;refine Ad (Af U (Af U (qA (Ad (Ae U (Ae U (B3 U U ?_)))))));rw[hl];refine Af U (qA (Ad (AX M4 H ?_)));rintro b9 w - H;refine qA (Ad (Ae U (Ae U (Jr U U (show _<=(9223372036854775807:Int)by omega) ?_))));refine D8 U U (Aw U U ?_);rw[show(a:Int)+(l:Int) / 4*1=((a+l / 4:Nat):Int)by omega];refine Af U (qA (Ad (Ae U (Ae U (Jr U U (show _<=(9223372036854775807:Int)by omega) ?_)))));refine D8 U U (Aw U U ?_);rw[show(a:Int)+(l:Int) / 4*2=((a+l / 4*2:Nat):Int)by omega]
 refine Af U (qA (Ad (Ae U (Ae U (Jr U U (show _<=(9223372036854775807:Int)by omega) ?_)))));refine D8 U U (Aw U U ?_);rw[show(a:Int)+(l:Int) / 4*3=((a+l / 4*3:Nat):Int)by omega];refine Af U (qA (Ap (Ad (Ae U (Cq U U (qA ?_))))));have hqs:=H.own _ (qaj ..)
 have hne:q≠b9:=fun e=>by subst e;rcases hqs with h|h;cases h;dsimp only at h;omega
 refine FO 562941363493888 (α:=Nat × Int) (fun z=>[(11,.int .i64 (z.1:Int))]) (fun z w'=>a<=z.1/\z.1<a+l/\Ctx w0 [] w' [(b9,Bl 3 [.int .i64 z.2])]) U ?_ ?_
 .skip
  refine Av _ U ?_ ?_
  .intro h1;replace h1:=AJ h1;refine Ap (Ad (Ae U (Cq U U (qA (FO 17557826313216 (α:=Nat × Nat × Nat × Int) (fun z=>[(10,.int .i64 (z.1:Int)),(11,.int .i64 (z.2.1:Int)),(12,.int .i64 (z.2.2.1:Int))]) (fun z w'=>(a<=z.1/\z.1<a+l)/\(a<=z.2.1/\z.2.1<a+l)/\(a<=z.2.2.1/\z.2.2.1<a+l)/\Ctx w0 [] w' [(b9,Bl 3 [.int .i64 z.2.2.2])]) U ?_ ?_)))))
   .skip
    refine Av _ U ?_ ?_
    .intro h2;replace h2:=AJ h2;refine Ad (Ao U (Ae U (Am qB (Kr (i:=a+l / 4) (H.ext.to hd (by simp)) (H.get at0) hne hn hm) U ?_)));rintro v w ⟨x1,k1,h3,rfl,H2⟩;replace H:=Ctx.back (L1:=[_]) (L2:=[]) H H2;refine Af U (qA (Ad (Ao U (Ae U (Am qB (Kr (i:=a+l / 4*2) (H.ext.to hd (by simp)) (H.get at0) hne hn hm) U ?_)))));rintro v w ⟨x2,k2,h4,rfl,H2⟩;replace H:=Ctx.back (L1:=[_]) (L2:=[]) H H2;refine Af U (qA (Ay (Ao U (Ae U (Am qB (Kr (i:=a+l / 4*3) (H.ext.to hd (by simp)) (H.get at0) hne hn hm) U ?_)))));rintro v w ⟨x3,k3,h5,rfl,H2⟩;replace H:=Ctx.back (L1:=[_]) (L2:=[]) H H2;refine Af U (qA ?_);exact⟨(x1,x2,x3,k3),rfl,⟨rfl,rfl,rfl,trivial⟩,by dsimp only;omega,by dsimp only;omega,by dsimp only;omega,H⟩
    .intro h2;replace h2:=AK h2;refine Aq (Aa ?_);exact⟨(a+l / 4,a+l / 4*2,a+l / 4*3,_),rfl,⟨rfl,rfl,rfl,trivial⟩,by dsimp only;omega,by dsimp only;omega,by dsimp only;omega,H⟩
   .rintro⟨x1,x2,x3,k1⟩ j1 w ⟨g1,g2,g3,H⟩;dsimp only at g1 g2 g3 H;dsimp only;refine Ay (Ao U (Ae U (Ae U (Ae U (Am qB (Th (i:=x1) (j:=x2) (l:=x3) (H.ext.to hd (by simp)) (H.get at0) hne hn hm) U ?_)))));rintro v w ⟨x4,k4,h3,rfl,H2⟩;replace H:=Ctx.back (L1:=[_]) (L2:=[]) H H2;refine Af U (qA ?_);exact⟨(x4,k4),rfl,⟨rfl,trivial⟩,by dsimp only;omega,by dsimp only;omega,H⟩
  .intro h1;replace h1:=AK h1;refine Aq (Aa ?_);exact⟨(a+l / 4*2,_),rfl,⟨rfl,trivial⟩,by dsimp only;omega,by dsimp only;omega,H⟩
 .rintro⟨x,k⟩ j w ⟨g1,g2,H⟩;dsimp only at g1 g2 H;dsimp only;refine Ad (AG B6 U H at0 U (qA (Ax (Ad (Cj U U (Ai U (qA (Av _ U ?_ ?_))))))))
  .intro h1;replace h1:=AJ h1;refine Ad (Ae U (Af U (Af U (qA (A6 (A5 (BG (v1:=(.int _ _)) (v2:=(.int _ _)) U U U U ?_)))))));exact⟨x,_,g1,g2,rfl,H.ext⟩
  .intro h2;replace h2:=AK h2;refine Ad (Cj U U (Ai U (qA (Av _ U ?_ ?_))))
   .intro h3;replace h3:=AJ h3;refine Ad (Ae U (Af U (Af U (qA (A6 (A5 (BG (v1:=(.int _ _)) (v2:=(.int _ _)) U U U U ?_)))))));exact⟨x,_,g1,g2,rfl,H.ext⟩
   .intro h4;replace h4:=AK h4;refine Ad (Ae U (Af U (Af U (qA (A6 (A5 (BG (v1:=(.int _ _)) (v2:=(.int _ _)) U U U U ?_)))))));exact⟨x,_,g1,g2,rfl,H.ext⟩
theorem X4{a b:Nat}(hd:w.heap[q]?=some (Bl 28 (CZ f m)))(hn:n<=m)(hm:n<=1000000000)(hab:a<b:=by omega)(hb:b<=n:=by omega):
  Ret prog 234 #[.slice (some ⟨q,0,none⟩) n c,.int .i64 (a:Int),.int .i64 (b:Int)] w fun v w'=>v=.tuple #[]/\∃g,Sw a b f g/\Ctx w [q] w' [(q,Bl 28 (CZ g m))]:=by
 obtain⟨w0,rfl⟩:=qD w;have H:=Ctx.start1 hd;refine A2 (fn:=f234) func234 U [.slice (some ⟨q,0,none⟩) n c,.int .i64 (a:Int),.int .i64 (b:Int)] U ?_;refine Ad (Ae U (Af U (qA (Ad (Ae U (B3 U U ?_))))));rw[show(b:Int) - 1=((b - 1:Nat):Int)by omega];refine Af U (qA (Ax (Bn 4294965440 (α:=Nat × Nat × (Nat->Int)) (fun t=>[(6,.int .i64 (t.1:Int)),(7,.int .i64 (t.2.1:Int))]) (fun t w'=>a<=t.1/\t.2.1<b/\t.1<=b/\Sw a b f t.2.2/\Ctx w0 [q] w' [(q,Bl 28 (CZ t.2.2 m))]) (fun t=>b - t.1) (a,b - 1,f) U ?_ ?_ ?_)))
 .exact⟨rfl,rfl,trivial⟩
 .exact⟨qan _,by dsimp only;omega,by dsimp only;omega,.refl _,H⟩
 .rintro⟨i,j,g⟩ j0 w ⟨g1,g2,g3,hS,H⟩;dsimp only at g1 g2 g3 hS H;dsimp only;refine Ap (Ad (Ae U (Ae U (AZ U U (qA (Av _ U ?_ ?_))))))
  .intro h1;replace h1:=AJ h1;refine Aq (Aa (Ax (C1 [([0,1,2,3,4,5,6,7,8,9,10,11,12],13),([14],15)] (fun z=>z.heap[q]?=some (Bl 28 (CZ g m))) [13,15] Bs (H.drew.get at0) ?_)));refine AO U U (B4 U (Bg U (B4 U (Bg U (B4 U (Bg U (AV BA Bx U U ?_)))))));refine B5 BL U (fun _ hx=>(CH hx)) (B4 U (Bg U (AV BA Bx U U ?_)));refine B5 BL U (fun _ hx=>(CH hx)) (AV BA Bx U U ?_);refine Bb ?_;replace H:=H.drew;refine Cl i (fun z => .int .u64 (if z=i then g j else g z)) (.int _ _) Bx U U U H at0 (by omega) (by rw[if_pos rfl];exact qaa (fun z=>Value.int .u64 (g z)) (by omega)) (fun z _ hz=>by rw[if_neg hz]) ?_;rintro w H;refine Ab (BH U (AO U U ?_));refine AV BA Bx U U ?_
   refine Bb (Cl j (fun z => .int .u64 (sw g i j z)) (.int _ _) Bx U U U H at0 (by omega) (by rw[Ez];exact qaa (fun z=>Value.int .u64 (g z)) (by omega)) (fun z _ hz=>by rw[Ev hz]) ?_);rintro w H;refine Ab (BH U (BK (Ad (Ae U (Aw U U ?_)))));refine Af U (qA (Ay (Ae U (B3 U U ?_))));refine Af U (Ab (A7 (Aa ?_)));exact⟨(i+1,j - 1,sw g i j),rfl,⟨qaa (Value.int .i64) (by dsimp only;omega),qaa (Value.int .i64) (by dsimp only;omega),trivial⟩,⟨by dsimp only;omega,by dsimp only;omega,by dsimp only;omega,hS.step i j ⟨by omega,by omega⟩ ⟨by omega,by omega⟩,H⟩,by dsimp only;omega⟩
  .intro h1;replace h1:=AK h1;refine Be (Aj (Aj (AH (Dd U U ?_))));exact⟨rfl,g,hS,H⟩
end
structure PartU(g:Nat->Int)(a mid b:Nat):Prop where
 le:∀x,a<=x->x<mid->g x<=g mid
 ge:∀y,mid<y->y<b->g mid<=g y
theorem Ti{g:Nat->Int}{a j b:Nat}(h1:∀x,a<x->x<=j->g x<g a)(h2:∀y,j<y->y<b->g a<=g y)(hj:a<=j:=by omega):PartU (sw g j a) a j b:=by
 have hv:sw g j a j=g a:=II g j a;refine⟨fun x hx hxj=>?_,fun y hy hyb=>?_⟩
 .rw[hv]
  by_cases e:x=a
  .rw[e,Ez];exact Int.le_of_lt (h1 j (by omega) (qan _))
  .rw[Fw (h2:=e)];exact Int.le_of_lt (h1 x (by omega) (by omega))
 .rw[hv,Fw];exact h2 y hy hyb
theorem Tj{g:Nat->Int}{a i j b:Nat}(h:a+1<=i/\i<=j+1/\j<b/\(∀x,a<x->x<i->g x<g a)/\∀y,j<y->y<b->g a<=g y)(hij:i<j)(hi:g a<=g i)(hj:g j<g a) :
  a+1<=i+1/\i+1<=j - 1+1/\j - 1<b/\(∀x,a<x->x<i+1->sw g i j x<sw g i j a)/\∀y,j - 1<y->y<b->sw g i j a<=sw g i j y:=by
 obtain⟨h1,h2,h3,h4,h5⟩:=h;have ha:sw g i j a=g a:=Fw;rw[ha];refine⟨by omega,by omega,by omega,fun x hx hxi=>?_,fun y hy hyb=>?_⟩
 .by_cases e:x=i
  .rw[e,II];exact hj
  .rw[Fw (h1:=e)];exact h4 x hx (by omega)
 .by_cases e:y=j
  .rw[e,Ez];exact hi
  .rw[Fw (h2:=e)];exact h5 y (by omega) hyb
section
variable {w:World}{q n c m:Nat}{f:Nat->Int}
theorem U2{a b p:Nat}(hd:w.heap[q]?=some (Bl 28 (CZ f m)))(hn:n<=m)(hm:n<=1000000000)(hp:a<=p/\p<b)(hab:a<b:=by omega)(hb:b<=n:=by omega):
  Ret prog 238 #[.slice (some ⟨q,0,none⟩) n c,.int .i64 (a:Int),.int .i64 (b:Int),.int .i64 (p:Int)] w fun v w'=>∃(mid:Nat) (t:Bool) (g:Nat->Int),v=.tuple #[.int .i64 (mid:Int),.bool t]/\Sw a b f g/\a<=mid/\mid<b/\PartU g a mid b/\Ctx w [q] w' [(q,Bl 28 (CZ g m))]:=by
 obtain⟨w0,rfl⟩:=qD w;have H:=Ctx.start1 hd;refine A2 (fn:=f238) func238 U [.slice (some ⟨q,0,none⟩) n c,.int .i64 (a:Int),.int .i64 (b:Int),.int .i64 (p:Int)] U ?_;refine Ad (Af U (Ai U (qA (C1 [([0,1,2,3,4,5,6,7,8,9,10,11,12],13),([14],15)] (fun z=>z.heap[q]?=some (Bl 28 (CZ (f) m))) [13,15] Bs (H.drew.get at0) ?_))));refine AO U U (B4 U (Bg U (B4 U (Bg U (B4 U (Bg U (AV BA Bx U U ?_)))))));refine B5 BL U (fun _ hx=>(CH hx)) (B4 U (Bg U (AV BA Bx U U ?_)));refine B5 BL U (fun _ hx=>(CH hx)) (AV BA Bx U U ?_);refine Bb ?_;replace H:=H.drew
 refine Cl (a) (fun z => .int .u64 (if z=a then(f) (p)else(f) z)) (.int _ _) Bx U U U H at0 (by omega) (by rw[if_pos rfl];exact qaa (fun z=>Value.int .u64 ((f) z)) (by omega)) (fun z _ hz=>by rw[if_neg hz]) ?_;rintro w H;refine Ab (BH U (AO U U ?_));refine AV BA Bx U U ?_;refine Bb (Cl (p) (fun z => .int .u64 (sw (f) (a) (p) z)) (.int _ _) Bx U U U H at0 (by omega) (by rw[Ez];exact qaa (fun z=>Value.int .u64 ((f) z)) (by omega)) (fun z _ hz=>by rw[Ev hz]) ?_);rintro w H;refine Ab (BH U (BK ?_));have hS0:=(Sw.refl (a:=a) (b:=b) f).step a p ⟨by omega,by omega⟩ hp;obtain⟨g,hg⟩:=qD (sw f a p);rw[<-hg]at hS0 H;have hi0:a+1<=(a+1)/\(a+1)<=(b - 1)+1/\(b - 1)<b/\(∀x,a<x->x<(a+1)->(g) x<(g) a)/\∀y,(b - 1)<y->y<b->(g) a<=(g) y:=⟨qan _,by omega,by omega,fun x h1 h2=>by omega,fun y h1 h2=>by omega⟩
 refine Ad (Ae U (Aw U U ?_));rw[show(a:Int)+1=((a+1:Nat):Int)by omega];refine Ae U (B3 U U ?_);rw[show(b:Int) - 1=((b - 1:Nat):Int)by omega];refine Af U (Af U (qA (Ap (Ax (Bn 70367670436864 (α:=Nat) (fun i=>[(10,.int .i64 (i:Int))]) (fun i w'=>(a+1<=i/\i<=(b - 1)+1/\(b - 1)<b/\(∀x,a<x->x<i->(g) x<(g) a)/\∀y,(b - 1)<y->y<b->(g) a<=(g) y)/\Ctx w0 [q] w' [(q,Bl 28 (CZ (g) m))]) (fun i=>b - i) (a+1) U ?_ ?_ ?_)))))
 .exact⟨by rfl,trivial⟩
 .exact⟨by assumption,H⟩
 .rintro i jx w ⟨hiv,H⟩;refine Ap (Eo 17591112302592 (α:=Unit) (fun _=>[(43,.bool (decide (i<=b - 1/\g i<g a)))]) (fun _ w'=>Ctx w0 [q] w' [(q,Bl 28 (CZ (g) m))]) U ?_ ?_)
  .skip
   refine FK 12 Bs U U (AY U (AY U (PX U U (Co U (DE 33 U ?_ ?_)))))
   .intro h1;replace h1:=AJ h1;refine B0 U (AY U (Bd BA Bx U U ?_));refine BF BL U (by rintro _ rfl;exact((CH (H.drew.get at0)))) ?_;refine B0 U (AY U (Bd BA Bx U U ?_));refine BF BL U (by rintro _ rfl;exact((CH (H.drew.get at0)))) ?_;refine BM ?_;replace H:=H.drew;refine Am qB (FP _ _ _) U ?_;rintro v w ⟨rfl,rfl⟩;simp only[qa7];refine A8 U (.bool _) U (qA ?_);exact⟨(),rfl,⟨qaa Value.bool (by clear hiv;rw[qad];simp_all;try omega),trivial⟩,H⟩
   .intro h2;replace h2:=AK h2;refine A4 U (A4 U (A4 U (A4 U (A4 U (A4 U (A4 U (A4 U (BM ?_))))))));replace H:=H.drew;refine Ag U (AA U (.bool _) U (qA ?_));exact⟨(),rfl,⟨qaa Value.bool (by clear hiv;rw[qad];simp_all;try omega),trivial⟩,H⟩
  .rintro - jy w H;refine Av _ U ?_ ?_
   .intro hc;have hc:=qbd hc;refine Aq (Aa (Ax (Ay (Ae U (Aw U U ?_)))));refine Af U (Ab (A7 (Aa ?_)));exact⟨i+1,rfl,⟨qaa (Value.int .i64) (by omega),trivial⟩,⟨⟨by omega,by omega,by omega,fun x h1 h2=>(if e:x=i then by rw[e];exact hc.2 else hiv.2.2.2.1 x h1 (by omega)),hiv.2.2.2.2⟩,H⟩,by omega⟩
   .intro hc;have hc:=qbk hc;have hci:=hc;have hi0:=hiv;refine Be (Aj (Aj (AH (Aa (Ap (Ax (Bn 9223301668110600192 (α:=Nat) (fun j=>[(11,.int .i64 (j:Int))]) (fun j w'=>(a+1<=i/\i<=j+1/\j<b/\(∀x,a<x->x<i->(g) x<(g) a)/\∀y,j<y->y<b->(g) a<=(g) y)/\Ctx w0 [q] w' [(q,Bl 28 (CZ (g) m))]) (fun j=>j) (b - 1) U ?_ ?_ ?_)))))))
    .exact⟨by rfl,trivial⟩
    .exact⟨by assumption,H⟩
    .rintro j jx w ⟨hiv,H⟩;refine Ap (Eo 2305772640469516288 (α:=Unit) (fun _=>[(60,.bool (decide (i<=j/\g a<=g j)))]) (fun _ w'=>Ctx w0 [q] w' [(q,Bl 28 (CZ (g) m))]) U ?_ ?_)
     .skip
      refine FK 12 Bs U U (AY U (AY U (PX U U (Co U (DE 49 U ?_ ?_)))))
      .intro h3;replace h3:=AJ h3;refine B0 U (AY U (Bd BA Bx U U ?_));refine BF BL U (by rintro _ rfl;exact((CH (H.drew.get at0)))) ?_;refine B0 U (AY U (Bd BA Bx U U ?_));refine BF BL U (by rintro _ rfl;exact((CH (H.drew.get at0)))) ?_;refine BM ?_;replace H:=H.drew;refine Am qB (FP _ _ _) U ?_;rintro v w ⟨rfl,rfl⟩;simp only[qa7];refine B1 U (A8 U (.bool _) U (qA ?_));exact⟨(),rfl,⟨qaa Value.bool (by clear hiv;rw[qad];simp_all;try omega),trivial⟩,H⟩
      .intro h4;replace h4:=AK h4;refine A4 U (A4 U (A4 U (A4 U (A4 U (A4 U (A4 U (A4 U (BM ?_))))))));replace H:=H.drew;refine Ag U (Ag U (AA U (.bool _) U (qA ?_)));exact⟨(),rfl,⟨qaa Value.bool (by clear hiv;rw[qad];simp_all;try omega),trivial⟩,H⟩
     .rintro - jy w H;refine Av _ U ?_ ?_
      .intro hc;have hc:=qbd hc;refine Aq (Aa (Ax (Ay (Ae U (B3 U U ?_)))));refine Af U (Ab (A7 (Aa ?_)));exact⟨j - 1,rfl,⟨qaa (Value.int .i64) (by omega),trivial⟩,⟨⟨by omega,by omega,by omega,hiv.2.2.2.1,fun y h1 h2=>(if e:y=j then by rw[e];exact hc.2 else hiv.2.2.2.2 y (by omega) h2)⟩,H⟩,by omega⟩
      .intro hc;have hc:=qbk hc;have hci:¬(i<=j/\g i<g a):=fun h=>hci ⟨by omega,h.2⟩;refine Be (Aj (Aj (AH (Aa (Ap (Ad (Ae U (Ae U (Cp U U (qA (Av _ U ?_ ?_)))))))))))
       .intro h5;replace h5:=AJ h5;have hji:j+1=i:=by omega
        refine C1 [([0,1,2,3,4,5,6,7,8,9,10,11,12],13),([14],15)] (fun z=>z.heap[q]?=some (Bl 28 (CZ (g) m))) [13,15] Bs (H.drew.get at0) (AO U U ?_);refine B4 U (Bg U (B4 U (Bg U (B4 U (Bg U (AV BA Bx U U ?_))))));refine B5 BL U (fun _ hx=>(CH hx)) (B4 U (Bg U (AV BA Bx U U ?_)));refine B5 BL U (fun _ hx=>(CH hx)) (AV BA Bx U U ?_);refine Bb ?_;replace H:=H.drew;refine Cl (j) (fun z => .int .u64 (if z=j then(g) (a)else(g) z)) (.int _ _) Bx U U U H at0 (by omega) (by rw[if_pos rfl];exact qaa (fun z=>Value.int .u64 ((g) z)) (by omega)) (fun z _ hz=>by rw[if_neg hz]) ?_;rintro w H;refine Ab (BH U (AO U U ?_));refine AV BA Bx U U ?_
        refine Bb (Cl (a) (fun z => .int .u64 (sw (g) (j) (a) z)) (.int _ _) Bx U U U H at0 (by omega) (by rw[Ez];exact qaa (fun z=>Value.int .u64 ((g) z)) (by omega)) (fun z _ hz=>by rw[Ev hz]) ?_);rintro w H;refine Ab (BH U (BK (Ad (Ae U (Af U (Ai U (qA (A6 (Al (BG (v1:=(.int _ _)) (v2:=(.bool _)) U U U U ?_))))))))));exact⟨j,true,sw g j a,rfl,hS0.step j a ⟨by omega,by omega⟩ ⟨by omega,by omega⟩,by omega,by omega,Ti (fun x h1 h2=>hiv.2.2.2.1 x h1 (by omega)) hiv.2.2.2.2,H⟩
       .intro h5;replace h5:=AK h5
        have hne:i<j:=by
         rcases qap i j with h|h
         .exact h
         .obtain rfl:i=j:=by omega
          exact absurd ⟨qan i,by rcases qci (g i) (g a)with h7|h7;exact absurd ⟨qan i,h7⟩ hci;exact h7⟩ hc
        have hgi:g a<=g i:=by rcases qci (g i) (g a)with h7|h7;exact absurd ⟨by omega,h7⟩ hci;exact h7
        have hgj:g j<g a:=by rcases qci (g j) (g a)with h7|h7;exact h7;exact absurd ⟨by omega,h7⟩ hc
        refine Aq (Aa (C1 [([0,1,2,3,4,5,6,7,8,9,10,11,12],13),([14],15)] (fun z=>z.heap[q]?=some (Bl 28 (CZ (g) m))) [13,15] Bs (H.drew.get at0) ?_));refine AO U U (B4 U (Bg U (B4 U (Bg U (B4 U (Bg U (AV BA Bx U U ?_)))))));refine B5 BL U (fun _ hx=>(CH hx)) (B4 U (Bg U (AV BA Bx U U ?_)));refine B5 BL U (fun _ hx=>(CH hx)) (AV BA Bx U U ?_);refine Bb ?_;replace H:=H.drew;refine Cl (i) (fun z => .int .u64 (if z=i then(g) (j)else(g) z)) (.int _ _) Bx U U U H at0 (by omega) (by rw[if_pos rfl];exact qaa (fun z=>Value.int .u64 ((g) z)) (by omega)) (fun z _ hz=>by rw[if_neg hz]) ?_;rintro w H;refine Ab (BH U (AO U U ?_));refine AV BA Bx U U ?_
        refine Bb (Cl (j) (fun z => .int .u64 (sw (g) (i) (j) z)) (.int _ _) Bx U U U H at0 (by omega) (by rw[Ez];exact qaa (fun z=>Value.int .u64 ((g) z)) (by omega)) (fun z _ hz=>by rw[Ev hz]) ?_);rintro w H;refine Ab (BH U (BK (Ad (Ae U (Aw U U ?_)))));refine Af U (qA (Ad (Ae U (B3 U U ?_))));refine Af U (qA (Ap (Ax (Bn 11417981541647678414640987641481260342710373376 (α:=Nat × Nat × (Nat->Int)) (fun t=>[(10,.int .i64 (t.1:Int)),(11,.int .i64 (t.2.1:Int))]) (fun t w'=>(a+1<=t.1/\t.1<=t.2.1+1/\t.2.1<b/\(∀x,a<x->x<t.1->(t.2.2) x<(t.2.2) a)/\∀y,t.2.1<y->y<b->(t.2.2) a<=(t.2.2) y)/\Sw a b f t.2.2/\Ctx w0 [q] w' [(q,Bl 28 (CZ t.2.2 m))]) (fun t=>b - t.1) (i+1,j - 1,sw g i j) U ?_ ?_ ?_))))
        .exact⟨rfl,qaa (Value.int .i64) (by dsimp only;omega),trivial⟩
        .exact⟨Tj hiv hne hgi hgj,hS0.step i j ⟨by omega,by omega⟩ ⟨by omega,by omega⟩,H⟩
        .rintro⟨i,j,g⟩ j0 w ⟨hi0,hS0,H⟩;dsimp only at hi0 hS0 H;dsimp only;obtain⟨i0,hi0e⟩:=qD i;obtain⟨j1,hj1e⟩:=qD j;have hi1:i0<=i/\a+1<=i/\i<=j+1/\j<b/\(∀x,a<x->x<i->(g) x<(g) a)/\∀y,j<y->y<b->(g) a<=(g) y:=⟨by omega,hi0⟩;refine Ax (Ap (Ax (Bn 41537741042978506913543222282159104 (α:=Nat) (fun i=>[(10,.int .i64 (i:Int))]) (fun i w'=>(i0<=i/\a+1<=i/\i<=j+1/\j<b/\(∀x,a<x->x<i->(g) x<(g) a)/\∀y,j<y->y<b->(g) a<=(g) y)/\Ctx w0 [q] w' [(q,Bl 28 (CZ (g) m))]) (fun i=>j+1 - i) i U ?_ ?_ ?_)))
         .exact⟨by rfl,trivial⟩
         .exact⟨hi1,H⟩
         .rintro i jx w ⟨hiv,H⟩;refine Ap (Eo 10383959891769541142360244306837504 (α:=Unit) (fun _=>[(112,.bool (decide (i<=j/\g i<g a)))]) (fun _ w'=>Ctx w0 [q] w' [(q,Bl 28 (CZ (g) m))]) U ?_ ?_)
          .skip
           refine FK 12 Bs U U (AY U (AY U (PX U U (Co U (DE 102 U ?_ ?_)))))
           .intro h5;replace h5:=AJ h5;refine B0 U (AY U (Bd BA Bx U U ?_));refine BF BL U (by rintro _ rfl;exact((CH (H.drew.get at0)))) ?_;refine B0 U (AY U (Bd BA Bx U U ?_));refine BF BL U (by rintro _ rfl;exact((CH (H.drew.get at0)))) ?_;refine BM ?_;replace H:=H.drew;refine Am qB (FP _ _ _) U ?_;rintro v w ⟨rfl,rfl⟩;simp only[qa7];refine A8 U (.bool _) U (qA ?_);exact⟨(),rfl,⟨qaa Value.bool (by clear hiv;rw[qad];simp_all;try omega),trivial⟩,H⟩
           .intro h6;replace h6:=AK h6;refine A4 U (A4 U (A4 U (A4 U (A4 U (A4 U (A4 U (A4 U (BM ?_))))))));replace H:=H.drew;refine Ag U (AA U (.bool _) U (qA ?_));exact⟨(),rfl,⟨qaa Value.bool (by clear hiv;rw[qad];simp_all;try omega),trivial⟩,H⟩
          .rintro - jy w H;refine Av _ U ?_ ?_
           .intro hc;have hc:=qbd hc;refine Aq (Aa (Ax (Ay (Ae U (Aw U U ?_)))));refine Af U (Ab (A7 (Aa ?_)));exact⟨i+1,rfl,⟨qaa (Value.int .i64) (by omega),trivial⟩,⟨⟨by omega,by omega,by omega,by omega,fun x h1 h2=>(if e:x=i then by rw[e];exact hc.2 else hiv.2.2.2.2.1 x h1 (by omega)),hiv.2.2.2.2.2⟩,H⟩,by omega⟩
           .intro hc;have hc:=qbk hc;have hci:=hc;have hi2:j<=j1/\a+1<=i/\i<=j+1/\j<b/\(∀x,a<x->x<i->(g) x<(g) a)/\∀y,j<y->y<b->(g) a<=(g) y:=⟨by omega,hiv.2⟩;have hi3:=hiv.1;refine Be (Aj (Aj (AH (Aa (Ap (Ax (Bn 5444476332360147136792965474937657624576 (α:=Nat) (fun j=>[(11,.int .i64 (j:Int))]) (fun j w'=>(j<=j1/\a+1<=i/\i<=j+1/\j<b/\(∀x,a<x->x<i->(g) x<(g) a)/\∀y,j<y->y<b->(g) a<=(g) y)/\Ctx w0 [q] w' [(q,Bl 28 (CZ (g) m))]) (fun j=>j) j U ?_ ?_ ?_)))))))
            .exact⟨by rfl,trivial⟩
            .exact⟨hi2,H⟩
            .rintro j jx w ⟨hiv,H⟩;refine Ap (Eo 1361087929308885575232470185756439085056 (α:=Unit) (fun _=>[(129,.bool (decide (i<=j/\g a<=g j)))]) (fun _ w'=>Ctx w0 [q] w' [(q,Bl 28 (CZ (g) m))]) U ?_ ?_)
             .skip
              refine FK 12 Bs U U (AY U (AY U (PX U U (Co U (DE 118 U ?_ ?_)))))
              .intro h7;replace h7:=AJ h7;refine B0 U (AY U (Bd BA Bx U U ?_));refine BF BL U (by rintro _ rfl;exact((CH (H.drew.get at0)))) ?_;refine B0 U (AY U (Bd BA Bx U U ?_));refine BF BL U (by rintro _ rfl;exact((CH (H.drew.get at0)))) ?_;refine BM ?_;replace H:=H.drew;refine Am qB (FP _ _ _) U ?_;rintro v w ⟨rfl,rfl⟩;simp only[qa7];refine B1 U (A8 U (.bool _) U (qA ?_));exact⟨(),rfl,⟨qaa Value.bool (by clear hiv;rw[qad];simp_all;try omega),trivial⟩,H⟩
              .intro h8;replace h8:=AK h8;refine A4 U (A4 U (A4 U (A4 U (A4 U (A4 U (A4 U (A4 U (BM ?_))))))));replace H:=H.drew;refine Ag U (Ag U (AA U (.bool _) U (qA ?_)));exact⟨(),rfl,⟨qaa Value.bool (by clear hiv;rw[qad];simp_all;try omega),trivial⟩,H⟩
             .rintro - jy w H;refine Av _ U ?_ ?_
              .intro hc;have hc:=qbd hc;refine Aq (Aa (Ax (Ay (Ae U (B3 U U ?_)))));refine Af U (Ab (A7 (Aa ?_)));exact⟨j - 1,rfl,⟨qaa (Value.int .i64) (by omega),trivial⟩,⟨⟨by omega,by omega,by omega,by omega,hiv.2.2.2.2.1,fun y h1 h2=>(if e:y=j then by rw[e];exact hc.2 else hiv.2.2.2.2.2 y (by omega) h2)⟩,H⟩,by omega⟩
              .intro hc;have hc:=qbk hc;have hci:¬(i<=j/\g i<g a):=fun h=>hci ⟨by omega,h.2⟩;replace hiv:=hiv.2;refine Be (Aj (Aj (AH (Aa (Ap (Ad (Ae U (Ae U (Cp U U (qA (Av _ U ?_ ?_)))))))))))
               .intro h5;replace h5:=AJ h5;have hji:j+1=i:=by omega
                refine Be (Aj (FJ U (Aj (AH (Aa (C1 [([0,1,2,3,4,5,6,7,8,9,10,11,12],13),([14],15)] (fun z=>z.heap[q]?=some (Bl 28 (CZ (g) m))) [13,15] Bs (H.drew.get at0) ?_))))));refine AO U U (B4 U (Bg U (B4 U (Bg U (B4 U (Bg U (AV BA Bx U U ?_)))))));refine B5 BL U (fun _ hx=>(CH hx)) (B4 U (Bg U (AV BA Bx U U ?_)));refine B5 BL U (fun _ hx=>(CH hx)) (AV BA Bx U U ?_);refine Bb ?_;replace H:=H.drew;refine Cl (j) (fun z => .int .u64 (if z=j then(g) (a)else(g) z)) (.int _ _) Bx U U U H at0 (by omega) (by rw[if_pos rfl];exact qaa (fun z=>Value.int .u64 ((g) z)) (by omega)) (fun z _ hz=>by rw[if_neg hz]) ?_;rintro w H;refine Ab (BH U (AO U U ?_));refine AV BA Bx U U ?_
                refine Bb (Cl (a) (fun z => .int .u64 (sw (g) (j) (a) z)) (.int _ _) Bx U U U H at0 (by omega) (by rw[Ez];exact qaa (fun z=>Value.int .u64 ((g) z)) (by omega)) (fun z _ hz=>by rw[Ev hz]) ?_);rintro w H;refine Ab (BH U (BK (Ad (Ae U (Af U (Ai U (qA (A6 (BG (v1:=(.int _ _)) (v2:=(.bool _)) U U U U ?_)))))))));exact⟨j,false,sw g j a,rfl,hS0.step j a ⟨by omega,by omega⟩ ⟨by omega,by omega⟩,by omega,by omega,Ti (fun x h1 h2=>hiv.2.2.2.1 x h1 (by omega)) hiv.2.2.2.2,H⟩
               .intro h5;replace h5:=AK h5
                have hne:i<j:=by
                 rcases qap i j with h|h
                 .exact h
                 .obtain rfl:i=j:=by omega
                  exact absurd ⟨qan i,by rcases qci (g i) (g a)with h7|h7;exact absurd ⟨qan i,h7⟩ hci;exact h7⟩ hc
                refine Aq (Aa (C1 [([0,1,2,3,4,5,6,7,8,9,10,11,12],13),([14],15)] (fun z=>z.heap[q]?=some (Bl 28 (CZ (g) m))) [13,15] Bs (H.drew.get at0) ?_));refine AO U U (B4 U (Bg U (B4 U (Bg U (B4 U (Bg U (AV BA Bx U U ?_)))))));refine B5 BL U (fun _ hx=>(CH hx)) (B4 U (Bg U (AV BA Bx U U ?_)));refine B5 BL U (fun _ hx=>(CH hx)) (AV BA Bx U U ?_);refine Bb ?_;replace H:=H.drew;refine Cl (i) (fun z => .int .u64 (if z=i then(g) (j)else(g) z)) (.int _ _) Bx U U U H at0 (by omega) (by rw[if_pos rfl];exact qaa (fun z=>Value.int .u64 ((g) z)) (by omega)) (fun z _ hz=>by rw[if_neg hz]) ?_;rintro w H;refine Ab (BH U (AO U U ?_));refine AV BA Bx U U ?_
                refine Bb (Cl (j) (fun z => .int .u64 (sw (g) (i) (j) z)) (.int _ _) Bx U U U H at0 (by omega) (by rw[Ez];exact qaa (fun z=>Value.int .u64 ((g) z)) (by omega)) (fun z _ hz=>by rw[Ev hz]) ?_);rintro w H;refine Ab (BH U (BK (Ad (Ae U (Aw U U ?_)))));refine Af U (qA (Ay (Ae U (B3 U U ?_))));refine Af U (Ab (A7 (Aa ?_)))
                have hgi:g a<=g i:=by rcases qci (g i) (g a)with h7|h7;exact absurd ⟨by omega,h7⟩ hci;exact h7
                have hgj:g j<g a:=by rcases qci (g j) (g a)with h7|h7;exact h7;exact absurd ⟨by omega,h7⟩ hc
                exact⟨(i+1,j - 1,sw g i j),rfl,⟨rfl,qaa (Value.int .i64) (by dsimp only;omega),trivial⟩,⟨Tj hiv hne hgi hgj,hS0.step i j ⟨by omega,by omega⟩ ⟨by omega,by omega⟩,H⟩,by dsimp only;omega⟩
end
end Go.Proofs.YtdagmpmdcgedcaaGreat
