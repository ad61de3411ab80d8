/- Part 9 of the proof. -/
import Derived.Test.YtdagmpmdcgedcaaGreatPart8
set_option maxRecDepth 20000
set_option maxHeartbeats 4000000
namespace Go.Proofs.YtdagmpmdcgedcaaGreat
open Go.GV Tryz
attribute [local irreducible] AN W Wq Wt
def EA(acs:List Ac):Int:=if 16<acs.length then 6 else if acs.all Jj=false then 1 else(EN (acs.map Ac.ba)).2
theorem Aqh(a:Option Addr)(n c:Nat)(acs:List Ac)(w:World)(R:Rd w a 2 Dm acs)(hn:acs.length=n)(hm:n<=1000000000:=by omega):
  Ret prog 78 #[.slice a n c] w fun v w'=>∃p,v=.tuple #[p,.int .i64 (EA acs)]/\(EA acs≠0->p=.pointer none)/\(EA acs=0->∃bd a' c' full,p=ptr bd/\w'.heap[bd]?=some (Bl 162 [.slice a' acs.length c'])/\OS a' acs.length c' 2 full (acs.flatMap Dm) /\
   (∀x∈ent a' 43 full,w'.heap[x.1]?=some x.2/\w.heap.size<=x.1/\x.1≠bd)/\w.heap.size<=bd)/\Ext [] w w':=by
 subst hn;obtain⟨w0,rfl,H⟩:=qE w;refine A2 (fn:=f78) func78 U [.slice a acs.length c] U (Ad (BE U (Af U (qA (Ap (Ad (Ao U (AU Dz U (Cp U U (qA ?_))))))))));refine Av _ U ?_ ?_
 .intro h1;replace h1:=AJ h1;refine Ad (BE U (Af U (qA (A6 (Al (BG (v1:=(.pointer _)) (v2:=(.int _ _)) U U U U ?_))))));have h1':EA acs=6:=by unfold EA;rw[if_pos (by omega)]
  exact⟨_,by rw[h1'],fun _=>rfl,(fun h=>by omega),H.ext⟩
 .intro h1;replace h1:=AK h1;have h1':¬16<acs.length:=by omega
  refine Aq (Aa (Ad (Ao U (Am qB (To a acs.length c acs _ R U hm) U ?_))));rintro v w F;obtain⟨a3,n3,c3,full3,rfl,O3,hb3⟩:=F.ex;have hx13:=F.ext;replace H:=H.call hx13;have hl3:=O3.llen;rw[QJ]at hl3;obtain rfl:acs.length=n3:=by omega
  obtain⟨w13,rfl⟩:=qD w;replace H:=Ctx.start w13 [];refine Bz [.slice a3 acs.length c3] Ad8 Aei (Bu [.slice a3 acs.length c3] (.agg _) U U H ?_);rintro b15 w - H;refine BE U (qA (Ap (Ad (Ao U (AU Dz U (Ae U (qA (Ax (Bn 8589672524 (α:=Nat) (fun i=>[(18,.int .i64 (i:Int))]) (fun i w'=>i<=acs.length/\Ctx w13 [] w' [(b15,Bl 162 [.slice a3 acs.length c3])]/\(∀(k:Nat) (x:Ac),k<i->acs[k]?=some x->Jj x=true)) (fun i=>acs.length - i) 0 U ?_ ?_ ?_)))))))))
  .exact⟨rfl,trivial⟩
  .exact⟨qaf _,H,(fun k x h=>absurd h (qaw _))⟩
  .rintro i j w ⟨hi,H,hall⟩;obtain⟨w1,rfl⟩:=qD w;have R1:=R.ext0 (hx13.trans H.ext);have hd1:=H.get at0;have H1:=H;clear H;have H:=Ctx.start w1 [];refine Ad (AZ U U (qA (Ap (Av _ U ?_ ?_))))
   .intro h2;replace h2:=AJ h2;obtain⟨x,hx⟩:=AB (l:=acs) (i:=i);refine Aq (Aa (Ap (Ax (Ad (AM R1 Dz DP U U (by rfl) ?_)))));refine Ca _ SU DP U U ((R1.ext0 H.ext).row hx U) (AX JC H ?_);rintro b6 w - H;refine Bi DP U U U (by exact IJ _) H at0 U ?_;rintro w H;refine qA (Ad (B9 (α:=Unit) 4290772992 (fun _=>[(31,.bool (!Jj x))]) (fun _ w'=>Ctx w1 [] w' [(b6,Bl 43 (Dm x))]) U ?_ ?_))
    .refine Ah Ex U (AG Bm U H at0 U (Am qB (Ks x.ba _) U ?_));rintro v w ⟨rfl,rfl⟩;refine B1 U (Au U (AE 26 U ?_ ?_))
     .intro h1;replace h1:=Bv h1;refine Ag U (Ag U (Ag U (Ag U (A8 U (.bool _) U (Ab ?_)))));exact⟨rfl,(),rfl,⟨qaa Value.bool (by unfold Jj;rw[qad];simp_all;try omega),trivial⟩,H⟩
     .intro h2;replace h2:=Bw h2;refine Ah Hn U (AG Bm U H at0 U (Am qB (Ks x.re _) U ?_));rintro v w ⟨rfl,rfl⟩;refine B1 U (AA U (.bool _) U (Ab ?_));exact⟨rfl,(),rfl,⟨qaa Value.bool (by unfold Jj;rw[qad];simp_all;try omega),trivial⟩,H⟩
    rintro - j31 w H;refine Av _ U ?_ ?_
    .intro h3;replace h3:=Bv h3;refine Ad (BE U (Af U (qA (A6 (A5 (Al (Al (A5 (Al (BG (v1:=(.pointer _)) (v2:=(.int _ _)) U U U U ?_))))))))));have h3':EA acs=1:=by unfold EA;rw[if_neg h1',if_pos (Dw hx (by simpa using h3))]
     exact⟨_,by rw[h3'],fun _=>rfl,(fun h=>by omega),(hx13.trans H1.ext).trans H.ext⟩
    .intro h3;replace h3:=Bw h3;refine Aq (A7 (Aa (Ay (Aw U U ?_))));refine Ae U (qA ?_);refine⟨i+1,rfl,⟨rfl,trivial⟩,⟨by omega,H1.call H.ext,(fun k y hk hy=>?_)⟩,by omega⟩
     rcases qap k i with h7|h7
     .exact hall k y h7 hy
     .obtain rfl:k=i:=by omega
      rw[hx]at hy;cases hy
      simpa using h3
   .intro h2;replace h2:=AK h2;obtain rfl:i=acs.length:=by omega
    have hal:acs.all Jj=true:=Eb fun k x hk hx=>hall k x hk hx
    have hb3':∀x∈ent a3 43 full3,w1.heap[x.1]?=some x.2/\w0.heap.size<=x.1/\x.1≠b15:=fun x hx=>by
     have h9:=hb3 x hx;have h8:=Bf h9.1;have h7:=(H1.own (b15,_) (qac (i:=0) rfl)).elim (fun h=>by cases h) id;dsimp only at h7;exact⟨H1.ext.to h9.1 (by simp),h9.2,by omega⟩
    have R3:Rd w1 a3 2 Dm acs:=OS.rd O3 (fun x hx=>(hb3' x hx).1) (fun _ _=>rfl) (by omega);obtain⟨tt,htt⟩:=qD (EN (acs.map Ac.ba));have hC:EA acs=tt.2:=by unfold EA;rw[if_neg h1',if_neg (by rw[hal];decide),htt]
    rw[hC];refine Be (Aj (Aj (AH (Aa (Ap (Ad (A9 U (Am qB (Ji a3 acs.length c3 acs _ hd1 R3 U) U ?_))))))));rintro v w F4;obtain⟨a4,n4,c4,f4,rfl,O4,hb4⟩:=F4.ex;replace H:=H.call F4.ext;have hl4:=O4.llen;rw[qak,qak]at hl4;refine Am qB (LP a4 n4 c4 (acs.map Ac.ba) _ (O4.rd1 fun x hx=>(hb4 x hx).1) (by rw[qak];omega)) U ?_;rintro v w ⟨rfl,rfl⟩;rw[<-htt];refine BN U (AF U U (AF U U (Af U (Af U (qA (Ad (Ae U (C0 U U (qA ?_)))))))));refine Av _ U ?_ ?_
    .intro h5;replace h5:=CC h5;refine Ad (Ae U (BE U (Af U (qA (A6 (Al (BG (v1:=(.pointer _)) (v2:=(.int _ _)) U U U U ?_)))))));exact⟨_,rfl,fun _=>rfl,(fun h=>absurd h h5),(hx13.trans H1.ext).trans H.ext⟩
    .intro h5;replace h5:=CD h5;refine Aq (Aa (Ad (A9 U (BE U (Af U (qA (A6 (BG (v1:=(.pointer _)) (v2:=(.int _ _)) U U U U ?_))))))));have h5':tt.2=0:=by omega
     refine⟨_,by rw[h5'],(fun h=>absurd h5' h),(fun _=>⟨b15,a3,c3,full3,rfl,H.ext.to hd1 (by simp),O3,fun x hx=>⟨H.ext.to (hb3' x hx).1 (by simp),(hb3' x hx).2⟩,?_⟩),(hx13.trans H1.ext).trans H.ext⟩;exact qbe hx13.size ((H1.own (b15,_) (qac (i:=0) U)).elim (fun h=>by cases h) id)
def a00:Ac:=⟨0,0⟩
def acZ(acs:List Ac)(z:Nat->Int)(k i:Nat):Ac:=if i<k then⟨z i,(acs.getD i a00).re⟩else acs.getD i a00
def U3(acs:List Ac)(z:Nat->Int)(k:Nat):List Ac:=(List.range acs.length).map (acZ acs z k)
theorem VC(acs:List Ac)(z:Nat->Int)(k:Nat):(U3 acs z k).length=acs.length:=by unfold U3;simp
theorem QL{acs:List Ac}{z:Nat->Int}{k i:Nat}(h:i<acs.length):(U3 acs z k)[i]?=some (acZ acs z k i):=Ei h
theorem Tp(acs:List Ac)(z:Nat->Int):U3 acs z 0=acs:=by
 refine qb2 fun i=>?_
 rcases qap i acs.length with h|h
 .obtain⟨e,he⟩:=AB (h:=h);rw[QL h,he];unfold acZ;rw[if_neg (by omega),Br he]
 .rw[qba (by rw[VC];exact h),qba h]
theorem Afs{acs:List Ac}{z:Nat->Int}{i:Nat}:(U3 acs z i).set i (acZ acs z (i+1) i)=U3 acs z (i+1):=by
 unfold U3;refine J5 U fun j hj hn=>?_;unfold acZ
 by_cases h:j<i
 .rw[if_pos h,if_pos (by omega)]
 .rw[if_neg h,if_neg (by omega)]
def shA(acs:List Ac)(ys:List Int):List Ac:=if Ec (acs.map Ac.ba) ys=0 then List.zipWith (fun a y=>⟨a.ba+y,a.re⟩) acs ys else acs
def shZ(acs:List Ac)(ys:List Int):List Int:=if Ec (acs.map Ac.ba) ys=0 then Dy (acs.map Ac.ba) ys else[]
theorem XB{xs ys:List Int}(h:Ec xs ys=0):xs.length=ys.length:=by
 unfold Ec at h
 split at h
 .omega
 .rename_i h1
  have h2:(decide (xs.length=ys.length) && (xs.all Db && Jh ys))=true:=by simpa using h1
  simp only[qae,qam]at h2;exact h2.1
theorem Aqi(acs:List Ac)(ys:List Int):(shZ acs ys).length<=acs.length:=by
 unfold shZ
 split
 .unfold Dy;rw[qck,qak];omega
 .simp
theorem Aqj(acs:List Ac)(ys:List Int):U3 acs (fun i=>(shZ acs ys).getD i 0) (shZ acs ys).length=shA acs ys:=by
 unfold shA shZ
 by_cases h:Ec (acs.map Ac.ba) ys=0
 .rw[if_pos h,if_pos h];have hl:=XB h;rw[qak]at hl;have hsl:(Dy (acs.map Ac.ba) ys).length=acs.length:=by unfold Dy;rw[qck,qak];omega
  refine qb2 fun i=>?_
  rcases qap i acs.length with h7|h7
  .obtain⟨e,he⟩:=AB (h:=h7);obtain⟨y,hy⟩:=AB (l:=ys) (i:=i);rw[QL h7,qcw,he,hy];unfold acZ;dsimp only;rw[if_pos (by omega),Br he,Br (Lr (xs:=acs.map Ac.ba) (x:=e.ba) (by rw[qa1,he];rfl) hy)]
  .rw[qba (by rw[VC];exact h7),qba (by rw[qck];omega)]
 .rw[if_neg h,if_neg h];exact Tp _ _
theorem Aqk{acs:List Ac}{ys zs:List Int}{v':Value}{w0 w1 w:World}(hz:zs=shZ acs ys)(hx:Ext [] w0 w1)(h1:Ec (acs.map Ac.ba) ys≠0->v'=.slice none 0 0)(h2:Ec (acs.map Ac.ba) ys=0->Fresh w1 w 2 1 v' ((Dy (acs.map Ac.ba) ys).map CQ)) :
  ∃a4 n4 c4,v'=.slice a4 n4 c4/\zs.length=n4/\Rd w a4 1 I1 zs/\(zs≠[]->w0.heap.size<=(adr a4).block):=by
 subst hz;unfold shZ
 by_cases h:Ec (acs.map Ac.ba) ys=0
 .rw[if_pos h];obtain⟨a,n,c,full,rfl,O,hb⟩:=(h2 h).ex;have hl:=O.llen;rw[qak]at hl;refine⟨a,n,c,rfl,by omega,O.rd1 fun x hx=>(hb x hx).1,fun hne=>?_⟩
  have hpos:0<n:=by
   have:=qbv.2 hne;omega
  obtain⟨q,rfl⟩:=O.form hpos;exact qbe hx.size (hb (q,Bl 2 full) (qab.2 U)).2
 .rw[if_neg h];exact⟨none,0,0,h1 h,rfl,Rd.nil,fun h=>absurd rfl h⟩
structure HSt where
 i:Nat
 full:List Value
theorem Aax{bd:Nat}(a b:Option Addr)(c m d:Nat)(full:List Value)(acs:List Ac)(ys:List Int)(w:World)(hd:w.heap[bd]?=some (Bl 162 [.slice a acs.length c]))(O:OS a acs.length c 2 full (acs.flatMap Dm))(hb:∀x∈ent a 43 full,w.heap[x.1]?=some x.2/\x.1≠bd)(Ry:Rd w b 1 I1 ys)(hm:ys.length=m)(hn:acs.length<=1000000:=by omega)(hm2:m<=1000000:=by omega):
  Ret prog 186 #[ptr bd,.slice b m d] w fun v w'=>v=.int .i64 (Ec (acs.map Ac.ba) ys)/\∃full',OS a acs.length c 2 full' ((shA acs ys).flatMap Dm)/\(∀x∈ent a 43 full',w'.heap[x.1]?=some x.2)/\Ext ((ent a 43 full).map (·.1)) w w':=by
 obtain⟨w0,rfl⟩:=qD w;have R:Rd w0 a 2 Dm acs:=OS.rd O (fun x hx=>(hb x hx).1) (fun _ _=>rfl) (by omega);obtain⟨code,hcode⟩:=qD (Ec (acs.map Ac.ba) ys);obtain⟨zs,hzs⟩:=qD (shZ acs ys);have hzl:zs.length<=acs.length:=by rw[hzs];exact Aqi acs ys
 rw[<-Aqj,<-hzs,<-hcode];refine A2 (fn:=f186) func186 U [.pointer (some ⟨bd,0,none⟩),.slice b m d] U ?_;refine Ad (Af U (qA (Ap (Ad (A9 U (C7 OJ U ?_))))));refine qA (Av _ U ?_ ?_)
 .intro h0;cases h0
 .intro h0;refine Aq (Aa (Ad (A9 U (Am qB (Ji a acs.length c acs _ hd R U (hm:=hn)) U ?_))));rintro v w F;obtain⟨a3,n3,c3,f3,rfl,O3,hb3⟩:=F.ex;have hl3:=O3.llen;rw[qak,qak]at hl3;refine Ao U (Am qB (Aar a3 b n3 c3 m d (acs.map Ac.ba) ys _ (O3.rd1 fun x hx=>(hb3 x hx).1) (by rw[qak];omega) (Ry.ext0 F.ext) hm hm2) U ?_);rintro v w ⟨v',rfl,hv1,hv2,hx15⟩;rw[<-hcode];obtain⟨a4,n4,c4,rfl,hn4,R4,hbz⟩:∃a4 n4 c4,v'=.slice a4 n4 c4/\zs.length=n4/\Rd w a4 1 I1 zs/\(zs≠[]->w0.heap.size<=(adr a4).block):=Aqk hzs F.ext hv1 hv2;refine BN U (AF U U (AF U U (Az U (Af U (qA (Ap (Ad (Ao U (AU AR U ?_)))))))));refine Ae U (qA (Ax ?_));subst hn4;obtain⟨w1,rfl⟩:=qD w;have hx1:=F.ext.trans hx15;have hb1:∀x∈ent a 43 full,w1.heap[x.1]?=some x.2:=fun x hx=>hx1.to (hb x hx).1 (by simp)
  obtain⟨ids,hids⟩:=qD ((ent a 43 full).map (·.1))
  have hidl:∀y∈ids,y<w0.heap.size/\y≠bd:=fun y hy=>by
   rw[hids]at hy;obtain⟨x,hx,rfl⟩:=qah.1 hy;exact⟨Bf (hb x hx).1,(hb x hx).2⟩
  have H:Ctx w1 ids w1 (ent a 43 full):=⟨Ext.refl _ _,hb1,FM,fun x hx => .inl (by rw[hids];exact qa8 (f:=(·.1)) hx)⟩;have hd1:=hx1.to hd (by simp);rw[<-hids];refine Bn 17178820992 (α:=HSt) (fun t=>[(20,.int .i64 (t.i:Int))]) (fun t w'=>t.i<=zs.length/\OS a acs.length c 2 t.full ((U3 acs (fun i=>zs.getD i 0) t.i).flatMap Dm)/\Ctx w1 ids w' (ent a 43 t.full)) (fun t=>zs.length - t.i) ⟨0,full⟩ U ?_ ?_ ?_
  .exact⟨rfl,trivial⟩
  .exact⟨qaf _,by dsimp only;rw[Tp];exact O,H⟩
  .rintro⟨i,fu⟩ j w ⟨hi,O,H⟩;dsimp only at hi O H;dsimp only;refine Ad (AZ U U (qA (Ap (Av _ U ?_ ?_))))
   .intro h1;replace h1:=AJ h1;obtain⟨z,hz⟩:=AB (l:=zs) (i:=i);have hzne:zs≠[]:=fun h=>by rw[h]at hz;cases hz
    have hz0:zs.getD i 0=z:=Br hz;obtain⟨q,rfl⟩:=O.form (by omega);have hil:i<acs.length:=by omega
    obtain⟨ac,hac⟩:=AB (h:=hil);have hOl:=O.len;have hqn:=O.le;have hzb:(adr a4).block∉ids:=fun h=>by have:=hidl _ h;have:=hbz hzne;omega
    refine Aq (Aa (Ap (Ax (Ad (Ae U (AM R4 AR Bt U U (by rfl) ?_))))));refine Ba Bm U (((R4.ext H.ext hzb).fld hz U (j:=0) U)) (Af U (Af U (qA (Ay (A9 U (AP U (Ah Fg U (Ba E3 U ((H.old (An hd1 _) (fun h=>(hidl _ h).2 rfl))) ?_))))))));refine Ae U (Ae U (Bq Dz DP U U ?_));refine Ah Ex U (Cz (.int _ _) Bt U U U H at0 (by omega) ?_);rintro w H;refine Ab (A7 (Aa (Ay (Aw U U ?_))));refine Ae U (qA ?_);rw[show 0+((i:Int)).toNat*2+0=i*2+0 by omega]at H;have O1:=OS.setf O (y:=acZ acs (fun i=>zs.getD i 0) (i+1) i) (j:=0) (v := .int .i64 z) (fun _=>rfl) (QL hil) (by decide) (by unfold acZ Dm;dsimp only;rw[if_pos (by omega),if_neg (by omega),hz0];rfl);rw[Afs]at O1;exact⟨⟨i+1,_⟩,rfl,⟨rfl,trivial⟩,⟨by dsimp only;omega,O1,H⟩,by dsimp only;omega⟩
   .intro h1;replace h1:=AK h1;refine Be (Aj (Aj (AH (Aa (Ad (Ae U (Af U (qA (A6 (AD (v:=(.int _ _)) U U U ?_))))))))));obtain rfl:i=zs.length:=by omega
    exact⟨rfl,fu,O,fun x hx=>H.blk x hx,(hx1.mono (by simp)).trans H.ext⟩
theorem Oe(x:Int)(w:World):Ret prog 122 #[.int .i64 x] w fun v w'=>v=.bool (Db x)/\w=w':=by
 obtain⟨w0,rfl⟩:=qD w;refine A2 (fn:=f122) func122 U [.int .i64 x] U (Ad (Ai U (qA (Ad (Ae U (Cq U U (Au U (AE 5 U ?_ ?_))))))))
 .intro h1;replace h1:=AJ h1;refine Ae U (Ib U U (A8 U (.bool _) U (Ai U (qA (A6 (AD (v:=(.bool _)) U U U ?_))))));exact⟨qaa Value.bool (by unfold Db;rw[qad];simp_all;try omega),rfl⟩
 .intro h2;replace h2:=AK h2;refine Ag U (Ag U (AA U (.bool _) U (Ai U (qA (A6 (AD (v:=(.bool _)) U U U ?_))))));exact⟨qaa Value.bool (by unfold Db;rw[qad];simp_all;try omega),rfl⟩
theorem Gv{xs:List Int}{f:Int->Bool}{i:Nat}{x:Int}(hx:xs[i]?=some x)(h:∀(k:Nat) (y:Int),k<i->xs[k]?=some y->f y=true)(hf:f x=true):∀(k:Nat) (y:Int),k<i+1->xs[k]?=some y->f y=true:=fun k y hk hy=>by
 rcases qap k i with h7|h7
 .exact h k y h7 hy
 .obtain rfl:k=i:=by omega
  rw[hx]at hy;cases hy;exact hf
theorem QM{xs:List Int}(i:Nat)(h:∀x∈xs,0<=x):0<=Ch (xs.take i)/\Ch (xs.take i)<=Ch xs:=by
 have h6:Ch xs=Ch (xs.take i)+Ch (xs.drop i):=by rw[<-ES,qbn]
 have h7:=FX (xs:=xs.drop i) fun y hy=>h y (qc3 hy);have h8:=FX (xs:=xs.take i) fun y hy=>h y (qdh hy);exact⟨h8,by omega⟩
theorem Aay(a:Option Addr)(n c:Nat)(xs:List Int)(w:World)(R:Rd w a 1 I1 xs)(hn:xs.length=n)(hn2:n<=1000000:=by omega):
  Ret prog 124 #[.slice a n c] w fun v w'=>v=.tuple #[.int .i64 (EN xs).1,.int .i64 (EN xs).2]/\w=w':=by
 subst hn;obtain⟨w0,rfl⟩:=qD w;refine A2 (fn:=f124) func124 U [.slice a xs.length c] U ?_;refine Ad (Af U (Af U (qA (Ap (Ad (Af U (qA (Ax (Bn 524188 (α:=Nat) (fun i=>[(4,.int .i64 (i:Int))]) (fun i w'=>i<=xs.length/\w0=w'/\∀(k:Nat) (x:Int),k<i->xs[k]?=some x->Db x=true) (fun i=>xs.length - i) 0 U ?_ ?_ ?_)))))))))
 .exact⟨rfl,trivial⟩
 .exact⟨qaf _,rfl,fun k x h=>absurd h (qaw _)⟩
 .rintro i j w ⟨hi,rfl,hb⟩;refine Ap (Ad (Ae U (Ao U (AU AR U (AZ U U (qA (Av _ U ?_ ?_)))))))
  .intro h1;replace h1:=AJ h1;obtain⟨x,hx⟩:=AB (l:=xs) (i:=i);refine Aq (Aa (Ap (Ax (Ad (Ao U (Ae U (AM R AR Bt U U (by rfl) ?_)))))));refine Ba Bm U ((R.fld hx U (j:=0) U)) (Am qB (Oe x _) U ?_);rintro v w ⟨rfl,rfl⟩;refine B1 U (qA (Av _ U ?_ ?_))
   .intro h2;replace h2:=Bv h2;refine Ad (Af U (Af U (qA (A6 (A5 (Al (Al (A5 (Al (BG (v1:=(.int _ _)) (v2:=(.int _ _)) U U U U ?_))))))))));exact⟨by unfold EN;rw[if_pos (Dw hx (by simpa using h2))],rfl⟩
   .intro h2;replace h2:=Bw h2;refine Aq (A7 (Aa (Ay (Ae U (Aw U U ?_)))));refine Af U (qA ?_);exact⟨i+1,rfl,⟨rfl,trivial⟩,⟨by omega,rfl,Gv hx hb (by simpa using h2)⟩,by omega⟩
  .intro h1;replace h1:=AK h1;obtain rfl:i=xs.length:=by omega
   have hal:xs.all Db=true:=Eb fun k x hk hx=>hb k x hk hx;have hpos:∀x∈xs,0<=x:=fun x hx=>(CR.1 (qas.1 hal x hx)).1;refine Be (Aj (Aj (AH (Aa (Ad (Af U (qA (Ap (Ad (Af U (qA (Ax (Bn 8589410412 (α:=Nat) (fun i=>[(5,.int .i64 (Ch (xs.take i))),(6,.int .i64 (i:Int))]) (fun i w'=>i<=xs.length/\w0=w'/\Ch (xs.take i)<=4503599627370496) (fun i=>xs.length - i) 0 U ?_ ?_ ?_)))))))))))))
   .exact⟨rfl,rfl,trivial⟩
   .exact⟨qaf _,rfl,by show(0:Int)<=_;omega⟩
   .rintro i j2 w ⟨hi,rfl,hs⟩;have hs0:=QM (xs:=xs) i hpos;refine Ap (Ad (Ae U (Ao U (AU AR U (AZ U U (qA (Av _ U ?_ ?_)))))))
    .intro h2;replace h2:=AJ h2;obtain⟨x,hx⟩:=AB (l:=xs) (i:=i);have hx1:=CR.1 (qas.1 hal x (qac hx));have hst:=Iy hx;have hs1:=QM (xs:=xs) (i+1) hpos;refine Aq (Aa (Ap (Ax (Ad (Ae U (Ao U (Ae U (AM R AR Bt U U (by rfl) ?_))))))));refine Ba Bm U ((R.fld hx U (j:=0) U)) (Aw U U ?_);rw[<-hst];refine Af U (qA (Ad (Ae U (Cp U U (qA (Av _ U ?_ ?_))))))
     .intro h3;replace h3:=AJ h3;refine Ad (Af U (Af U (qA (A6 (A5 (Al (Al (A5 (Al (BG (v1:=(.int _ _)) (v2:=(.int _ _)) U U U U ?_))))))))));exact⟨by unfold EN;rw[if_neg (by rw[hal];decide),if_neg (by omega)],rfl⟩
     .intro h3;replace h3:=AK h3;refine Aq (A7 (Aa (Ay (Ae U (Aw U U ?_)))));refine Af U (qA ?_);exact⟨i+1,rfl,⟨rfl,rfl,trivial⟩,⟨by omega,rfl,by omega⟩,by omega⟩
    .intro h2;replace h2:=AK h2;refine Be (Aj (Aj (AH (Aa (Ad (Ae U (Af U (Af U (qA (A6 (BG (v1:=(.int _ _)) (v2:=(.int _ _)) U U U U ?_)))))))))));obtain rfl:i=xs.length:=by omega
     rw[qbf]at hs |-;exact⟨by unfold EN;rw[if_neg (by rw[hal];decide),if_pos hs],rfl⟩
def inM(x y:Int):Bool:=Db x && Hf y
theorem YV{α:Type}{xs ys:List α}(hl:xs.length=ys.length)(h:∀(k:Nat) (x y:α),k<xs.length->xs[k]?=some x->ys[k]?=some y->x=y):xs=ys:=by
 refine qb2 fun i=>?_
 rcases qap i xs.length with h7|h7
 .obtain⟨x,hx⟩:=AB (l:=xs) (i:=i) (h:=h7);obtain⟨y,hy⟩:=AB (l:=ys) (i:=i);rw[hx,hy,h i x y h7 hx hy]
 .rw[qba (by omega),qba (by omega)]
theorem Aaz(d:Du)(w:World):Ret prog 123 #[G0 d] w fun v w'=>v=.bool (mayD d)/\Ext [] w w':=by
 obtain⟨w0,rfl,H⟩:=qE w;refine A2 (fn:=f123) func123 U [G0 d] U (Ad (Bu (CM d) (.agg _) U U H ?_));rintro b1 w - H;refine Ai U (qA (Ad (B9 (α:=Unit) 536870904 (fun _=>[(3,.bool (E5 d.fr && (E5 d.to && !decide (d.fr=d.to))))]) (fun _ w'=>Ctx w0 [] w' [(b1,Bl 67 (CM d))]) U ?_ ?_)))
 .refine Ah Dk U (AG B6 U H at0 U (Cq U U (Au U (AE 7 U ?_ ?_))))
  .intro h1;replace h1:=AJ h1;refine Ah Dk U (AG B6 U H at0 U (AZ U U (A8 U (.bool _) U (Au U (AE 12 U ?_ ?_)))))
   .intro h2;replace h2:=AJ h2;refine Ah D7 U (AG B6 U H at0 U (Cq U U (A8 U (.bool _) U (Au U (AE 17 U ?_ ?_)))))
    .intro h3;replace h3:=AJ h3;refine Ah D7 U (AG B6 U H at0 U (AZ U U (A8 U (.bool _) U (Au U (AE 22 U ?_ ?_)))))
     .intro h4;replace h4:=AJ h4;refine Ah Dk U (AG B6 U H at0 U (Ah D7 U (AG B6 U H at0 U (C0 U U (A8 U (.bool _) U (Ai U (Ab ?_)))))));exact⟨rfl,(),rfl,⟨qaa Value.bool (by unfold E5;rw[qad];simp_all;try omega),trivial⟩,H⟩
     .intro h5;replace h5:=AK h5;refine Ag U (Ag U (Ag U (Ag U (Ag U (AA U (.bool _) U (Ai U (Ab ?_)))))));exact⟨rfl,(),rfl,⟨qaa Value.bool (by unfold E5;rw[qad];simp_all;try omega),trivial⟩,H⟩
    .intro h6;replace h6:=AK h6;refine Ag U (Ag U (Ag U (AA U (.bool _) U (Au U (Ag U (Ag U (Ag U (Ag U (Ag U ?_)))))))));refine AA U (.bool _) U (Ai U (Ab ?_));exact⟨rfl,(),rfl,⟨qaa Value.bool (by unfold E5;rw[qad];simp_all;try omega),trivial⟩,H⟩
   .intro h7;replace h7:=AK h7;refine Ag U (Ag U (Ag U (AA U (.bool _) U (Au U (Ag U (Ag U (Ag U (AA U (.bool _) U (Au U ?_)))))))));refine Ag U (Ag U (Ag U (Ag U (Ag U (AA U (.bool _) U (Ai U (Ab ?_)))))));exact⟨rfl,(),rfl,⟨qaa Value.bool (by unfold E5;rw[qad];simp_all;try omega),trivial⟩,H⟩
  .intro h8;replace h8:=AK h8;refine Ag U (Ag U (Ag U (AA U (.bool _) U (Au U (Ag U (Ag U (Ag U (AA U (.bool _) U (Au U ?_)))))))));refine Ag U (Ag U (Ag U (AA U (.bool _) U (Au U (Ag U (Ag U (Ag U (Ag U (Ag U ?_)))))))));refine AA U (.bool _) U (Ai U (Ab ?_));exact⟨rfl,(),rfl,⟨qaa Value.bool (by unfold E5;rw[qad];simp_all;try omega),trivial⟩,H⟩
 rintro - j3 w H;refine Ad (Au U (Au U (AE 30 U ?_ ?_)))
 .intro h9;refine Ah Dl U (AG Bm U H at0 U (Cq U U (A8 U (.bool _) U (Au U (AE 35 U ?_ ?_)))))
  .intro h10;replace h10:=AJ h10;refine Ah Dl U (AG Bm U H at0 U (Am qB (Oe d.am _) U ?_));rintro v w ⟨rfl,rfl⟩;refine A8 U (.bool _) U (Au U (AE 40 U ?_ ?_))
   .intro h11;refine Ah Hs U (AG Bm U H at0 U (Cq U U (A8 U (.bool _) U (Au U (AE 45 U ?_ ?_)))))
    .intro h12;replace h12:=AJ h12;refine Ah Hs U (AG Bm U H at0 U (Ib U U (A8 U (.bool _) U (Au U (AE 50 U ?_ ?_)))))
     .intro h13;replace h13:=AJ h13;refine Ah Nc U (AG Bm U H at0 U (Cq U U (A8 U (.bool _) U (Ai U (qA (A6 (AD (v:=(.bool _)) U U U ?_)))))));exact⟨qaa Value.bool (by unfold mayD;generalize(E5 d.fr && (E5 d.to && !decide (d.fr=d.to)))=B at *;rw[qad];simp_all;try omega),H.ext⟩
     .intro h14;replace h14:=AK h14;refine Ag U (Ag U (Ag U (AA U (.bool _) U (Ai U (qA (A6 (AD (v:=(.bool _)) U U U ?_)))))));exact⟨qaa Value.bool (by unfold mayD;generalize(E5 d.fr && (E5 d.to && !decide (d.fr=d.to)))=B at *;rw[qad];simp_all;try omega),H.ext⟩
    .intro h15;replace h15:=AK h15;refine Ag U (Ag U (Ag U (AA U (.bool _) U (Au U (Ag U (Ag U (Ag U (AA U (.bool _) U (Ai U ?_)))))))));refine qA (A6 (AD (v:=(.bool _)) U U U ?_));exact⟨qaa Value.bool (by unfold mayD;generalize(E5 d.fr && (E5 d.to && !decide (d.fr=d.to)))=B at *;rw[qad];simp_all;try omega),H.ext⟩
   .intro h16;refine Ag U (Ag U (Ag U (AA U (.bool _) U (Au U (Ag U (Ag U (Ag U (AA U (.bool _) U (Au U ?_)))))))));refine Ag U (Ag U (Ag U (AA U (.bool _) U (Ai U (qA (A6 (AD (v:=(.bool _)) U U U ?_)))))));exact⟨qaa Value.bool (by unfold mayD;generalize(E5 d.fr && (E5 d.to && !decide (d.fr=d.to)))=B at *;rw[qad];simp_all;try omega),H.ext⟩
  .intro h17;replace h17:=AK h17;refine Ag U (Ag U (Ag U (AA U (.bool _) U (Au U (Ag U (Ag U (Ag U (AA U (.bool _) U (Au U ?_)))))))));refine Ag U (Ag U (Ag U (AA U (.bool _) U (Au U (Ag U (Ag U (Ag U (AA U (.bool _) U (Ai U ?_)))))))));refine qA (A6 (AD (v:=(.bool _)) U U U ?_));exact⟨qaa Value.bool (by unfold mayD;generalize(E5 d.fr && (E5 d.to && !decide (d.fr=d.to)))=B at *;rw[qad];simp_all;try omega),H.ext⟩
 .intro h18;refine Ag U (Ag U (Ag U (AA U (.bool _) U (Au U (Ag U (Ag U (Ag U (AA U (.bool _) U (Au U ?_)))))))));refine Ag U (Ag U (Ag U (AA U (.bool _) U (Au U (Ag U (Ag U (Ag U (AA U (.bool _) U (Au U ?_)))))))));refine Ag U (Ag U (Ag U (AA U (.bool _) U (Ai U (qA (A6 (AD (v:=(.bool _)) U U U ?_)))))));exact⟨qaa Value.bool (by unfold mayD;generalize(E5 d.fr && (E5 d.to && !decide (d.fr=d.to)))=B at *;rw[qad];simp_all;try omega),H.ext⟩
theorem Aa0(ds:List Du):∀v∈ds.flatMap CM,AS v=true:=fun v hv=>by
 obtain⟨a,_,h⟩:=qel.1 hv;exact Dt a v h
theorem QN(ds:List Du):(ds.flatMap CM).length=ds.length*7:=by
 induction ds with
 |nil=>rfl
 |cons a ds ih =>
  rw[qcc,qat,ih];show 7+ds.length*7=(ds.length+1)*7;omega
def pC(d:Du)(x:Int):Int:=if x<0 then 1 else if d.held=true then 14 else if d.am<x then 12 else 0
def pD(d:Du)(x:Int):Du:=if pC d x=0 then{ d with am:=d.am - x }else d
theorem Aj5{b7 bx:Nat}{d:Du}{x:Int}(w:World)(h7:w.heap[b7]?=some (Bl 67 (CM d)))(hx:w.heap[bx]?=some (Bl 2 [.int .i64 x]))(ham:0<=d.am/\d.am<=4503599627370496)(hne:bx≠b7:=by omega):
  Ret prog 222 #[ptr b7,ptr bx] w fun v w'=>v=.int .i64 (pC d x)/\Ctx w [b7] w' [(b7,Bl 67 (CM (pD d x)))]:=by
 obtain⟨w0,rfl⟩:=qD w;have H:=Ctx.start1 h7;have hn:bx∉[b7]:=by rw[qab];exact hne
 refine A2 (fn:=f222) func222 U [.pointer (some ⟨b7,0,none⟩),.pointer (some ⟨bx,0,none⟩)] U ?_;refine Ad (Af U (qA (Ap (Ax (Ad (Ba Bm U ((H.old (An hx _) hn)) ?_))))));refine AZ U U (Ai U (qA (Av _ U ?_ ?_)))
 .intro h1;replace h1:=AJ h1;refine Ad (Af U (qA (A6 (A5 (Al (AD (v:=(.int _ _)) U U U ?_))))));have hp:pC d x=1:=if_pos h1;exact⟨by rw[hp],by unfold pD;rw[hp,if_neg (by decide)];exact H⟩
 .intro h1;replace h1:=AK h1;refine Ad (A9 U (AP U (Ah F6 U (AG HI U H at0 U (Ai U (qA (Av _ U ?_ ?_)))))))
  .intro h2;refine Ad (Af U (qA (A6 (A5 (Al (AD (v:=(.int _ _)) U U U ?_))))));have hp:pC d x=14:=by unfold pC;rw[if_neg (by omega),if_pos h2]
   exact⟨by rw[hp],by unfold pD;rw[hp,if_neg (by decide)];exact H⟩
  .intro h2;refine CN (fun x=>x=_) Bs U ?_;refine BF Bm U (by rintro _ rfl;exact((H.old (An hx _) hn))) ?_;refine BO U (Bh U (A3 Dl U (BS Bm U (by rintro _ rfl;exact H.drew) at0 U ?_)));refine K9 U U (J6 U U (BM ?_));rintro _ rfl;replace H:=H.drew;refine Av _ U ?_ ?_
   .intro h3;replace h3:=AJ h3;refine Ad (Af U (qA (A6 (A5 (Al (AD (v:=(.int _ _)) U U U ?_))))));have hp:pC d x=12:=by unfold pC;rw[if_neg (by omega),if_neg (by rw[h2];decide),if_pos h3]
    exact⟨by rw[hp],by unfold pD;rw[hp,if_neg (by decide)];exact H⟩
   .intro h3;replace h3:=AK h3;refine Aq (A7 (Aa (EB 8 Bs U U ?_)));refine BO U (Bh U (A3 Dl U (BS Bm U (by rintro _ rfl;exact H.drew) at0 U ?_)));refine BF Bm U (by rintro _ rfl;exact((H.old (An hx _) hn))) ?_;refine Dp U U (Bh U (A3 Dl U (BM ?_)));replace H:=H.drew;refine Cz (.int _ _) Bt U U U H at0 (by(simp;done)) ?_;rintro w H;refine qA (Ad (Af U (qA (A6 (AD (v:=(.int _ _)) U U U ?_)))));have hp:pC d x=0:=by unfold pC;rw[if_neg (by omega),if_neg (by rw[h2];decide),if_neg (by omega)]
    exact⟨by rw[hp],by unfold pD;rw[hp,if_pos rfl];exact H⟩
def Dn(ds:List Du)(k:Int):Option Du:=ds.find? fun d=>d.id == k
theorem Iz(ds:List Du)(k:Int):Eg (dm ds) k=(Dn ds k).map G0:=by
 induction ds with
 |nil=>rfl
 |cons x ds ih =>
  unfold dm Eg Dn at ih |-;rw[qau,qch,qch]
  cases h:x.id == k with
  |true=>rfl
  |false=>exact ih
def G1:List Du->Int->Int->List Du
 | [],_,_=>[]
 |d::ds,k,x=>if d.id=k then(if d.am=x then ds else{ d with am:=d.am - x }::ds)else d::G1 ds k x
theorem Aft{ds:List Du}{k x:Int}{d:Du}(h:Dn ds k=some d)(hx:d.am=x:=by omega):Mw (dm ds) k=dm (G1 ds k x):=by
 induction ds with
 |nil=>cases h
 |cons y ds ih =>
  unfold Dn at h;rw[qch]at h
  by_cases e:y.id=k
  .rw[show(y.id == k)=true by simpa using e]at h
   injection h with h
   subst h;unfold G1;rw[if_pos e,if_pos hx];show(if y.id=k then dm ds else _)=_;rw[if_pos e]
  .rw[show(y.id == k)=false by simpa using e]at h;unfold G1;rw[if_neg e];show(if y.id=k then _ else(y.id,G0 y)::Mw (dm ds) k)=_;rw[if_neg e,ih h];rfl
theorem Afu{ds:List Du}{k x:Int}{d:Du}(h:Dn ds k=some d)(hx:¬d.am=x):KG (dm ds) k (G0 { d with am:=d.am - x })=dm (G1 ds k x):=by
 induction ds with
 |nil=>cases h
 |cons y ds ih =>
  unfold Dn at h;rw[qch]at h
  by_cases e:y.id=k
  .rw[show(y.id == k)=true by simpa using e]at h
   injection h with h
   subst h;unfold G1;rw[if_pos e,if_neg hx];show(if y.id=k then(k,_)::dm ds else _)=_;rw[if_pos e,<-e];rfl
  .rw[show(y.id == k)=false by simpa using e]at h;unfold G1;rw[if_neg e];show(if y.id=k then _ else(y.id,G0 y)::KG (dm ds) k _)=_;rw[if_neg e,ih h];rfl
def Pj(ds:List Du)(k x:Int):Int:=match Dn ds k with
 |none=>11
 |some d=>pC d x
def VD(ds:List Du)(k x:Int):List Du:=if Pj ds k x=0 then G1 ds k x else ds
def Pk(bx:Nat):Value := .func (.func 222) #[] #[ptr bx]
theorem Aa1{bd b bx:Nat}{nx k x:Int}{o:Obj}{ds:List Du}(w:World)(hd:w.heap[bd]?=some (Bl 165 (DU b nx)))(hb:w.heap[b]?=some o)(hM:Ds .u64 (dm ds) o)(hbd:bd≠b)(hf:Dn ds k=none) :
  Ret prog 177 #[ptr bd,.int .u64 k,Pk bx] w fun v w'=>v=.int .i64 (Pj ds k x)/\∃o',Ds .u64 (dm (VD ds k x)) o'/\Ctx w [b] w' [(b,o')]:=by
 obtain⟨w0,rfl⟩:=qD w;have H:=Ctx.start1 hb;have hc:Pj ds k x=11:=by unfold Pj;rw[hf]
 have hmg:Eg (dm ds) k=none:=by rw[Iz,hf];rfl
 unfold VD;rw[hc,if_neg (by decide)];refine A2 (fn:=f177) func177 U [.pointer (some ⟨bd,0,none⟩),.int .u64 k,.func (.func 222) #[] #[.pointer (some ⟨bx,0,none⟩)]] U ?_;refine Ad (Af U (qA (Ap (Ad (A9 U (C7 Ju U ?_))))));refine qA (Av _ U ?_ ?_)
 .intro h0;cases h0
 .intro h0;refine Aq (Aa (Ad (A9 U (AP U (Ah Et U (Ba FU U ((H.old (An hd _) (by rw[qab];exact hbd))) ?_))))));refine Ae U (HD U Gl FD Qz U U H at0 hM ?_);rw[hmg];rw[Option.getD_none,Option.isSome_none];refine BN U (AF U U (AF U U (AX DR H ?_)));rintro b7 w - H;refine Bi BC U U U (by exact Dt d00) H at0 U ?_;rintro w H;refine Ai U (qA (Ap (Ad (Au U (B1 U (qA (Av _ U ?_ ?_)))))))
  .intro h1;replace h1:=Bv h1;refine Ad (Af U (qA (A6 (Al (AD (v:=(.int _ _)) U U U ?_)))));exact⟨rfl,o,hM,H.tail⟩
  .intro h1;replace h1:=Bw h1;cases h1
theorem IK{ds:List Du}{k:Int}{d:Du}(h:Dn ds k=some d):d∈ds/\d.id=k:=by
 have h1:=List.mem_of_find?_eq_some h;have h2:=List.find?_some h;exact⟨h1,by simpa using h2⟩
theorem Afv(d:Du)(x:Int):pC d x=1\/pC d x=14\/pC d x=12\/(pC d x=0/\0<=x/\x<=d.am/\d.held=false):=by
 unfold pC
 split
 .exact .inl U
 .split
  .exact .inr (.inl U)
  .rename_i h2
   split
   .exact .inr (.inr (.inl U))
   .exact .inr (.inr (.inr ⟨rfl,by omega,by omega,by simpa using h2⟩))
theorem Aa2{bd b bx:Nat}{nx k x:Int}{o:Obj}{ds:List Du}{d:Du}(w:World)(hd:w.heap[bd]?=some (Bl 165 (DU b nx)))(hb:w.heap[b]?=some o)(hM:Ds .u64 (dm ds) o)(hbd:bd≠b)(hf:Dn ds k=some d)(hx:w.heap[bx]?=some (Bl 2 [.int .i64 x]))(hbx:bx≠b)(ham:0<=d.am/\d.am<=4503599627370496) :
  Ret prog 177 #[ptr bd,.int .u64 k,Pk bx] w fun v w'=>v=.int .i64 (Pj ds k x)/\∃o',Ds .u64 (dm (VD ds k x)) o'/\Ctx w [b] w' [(b,o')]:=by
 obtain⟨w0,rfl⟩:=qD w;have H:=Ctx.start1 hb;have hxl:=Bf hx;have hc:Pj ds k x=pC d x:=by unfold Pj;rw[hf]
 have hmg:Eg (dm ds) k=some (G0 d):=by rw[Iz,hf];rfl
 have hcs:=Afv d x;unfold VD;rw[hc];obtain⟨code,hcode⟩:=qD (pC d x);obtain⟨e,he⟩:=qD (pD d x);have heam:code=0->e={ d with am:=d.am - x }:=fun h=>by rw[he];unfold pD;rw[if_pos (by omega)]
 rw[<-hcode]at hcs;rw[<-hcode];refine A2 (fn:=f177) func177 U [.pointer (some ⟨bd,0,none⟩),.int .u64 k,.func (.func 222) #[] #[.pointer (some ⟨bx,0,none⟩)]] U ?_;refine Ad (Af U (qA (Ap (Ad (A9 U (C7 Ju U ?_))))));refine qA (Av _ U ?_ ?_)
 .intro h0;cases h0
 .intro h0;refine Aq (Aa (Ad (A9 U (AP U (Ah Et U (Ba FU U ((H.old (An hd _) (by rw[qab];exact hbd))) ?_))))));refine Ae U (HD U Gl FD Qz U U H at0 hM ?_);rw[hmg];rw[qdq,Option.isSome_some];refine BN U (AF U U (AF U U (AX DR H ?_)));rintro b7 w - H;refine Bi BC U U U (by exact Dt _) H at0 U ?_;rintro w H;refine Ai U (qA (Ap (Ad (Au U (B1 U (qA (Av _ U ?_ ?_)))))))
  .intro h1;replace h1:=Bv h1;cases h1
  .intro h1;replace h1:=Bw h1;refine Aq (Aa (Ad (De U (.func _ _ _) U ?_)));have hb7:w0.heap.size<=b7:=(H.own _ (qaj ..)).elim (fun h=>by have h8:=H.ne at0 at1 (by decide);exact absurd (qab.1 h) h8) id;refine EC U qB (Aj5 (x:=x) (d:=d) _ (H.get at0) (H.ext.to hx (by rw[qab];exact hbx)) ham) U ?_;rintro v w ⟨rfl,H2⟩;replace H:=Ctx.back (L1:=[_]) (L2:=[_]) H H2;rw[<-hcode];rw[<-he]at H;refine Af U (qA (Ap (Ax (Ad (Ae U (C0 U U (Ai U (qA (Av _ U ?_ ?_)))))))))
   .intro h2;replace h2:=CC h2;refine Aq (A7 (Aa (Ad (Ae U (Af U (qA (A6 (AD (v:=(.int _ _)) U U U ?_))))))));rw[if_neg h2];exact⟨rfl,o,hM,H.tail⟩
   .intro h2;replace h2:=CD h2;have h2':code=0:=by omega
    have hee:=heam h2';have hea:e.am=d.am - x:=by rw[hee]
    rw[if_pos h2'];refine Ad (Ah Dl U (AG Bm U H at0 U (Cj U U (Ai U (qA (Av _ U ?_ ?_))))))
    .intro h3;replace h3:=AJ h3;refine Ay (A9 U (AP U (Ah Et U (Ba FU U ((H.old (An hd _) (by rw[qab];exact hbd))) ?_))));refine Ae U (NN U Gl FD U U H at1 hM ?_);rintro o2 w hM2 H;refine Ab (A7 (Aa (Ad (Ae U (Af U (qA (A6 (AD (v:=(.int _ _)) U U U ?_))))))));exact⟨rfl,o2,by rw[<-Aft hf];exact hM2,H.tail⟩
    .intro h3;replace h3:=AK h3;refine FK 6 Bs U U ?_;refine BO U (Bh U (A3 Et U (BF FU U (by rintro _ rfl;exact((H.old (An hd _) (by rw[qab];exact hbd)))) ?_)));refine AY U (PW U EF BC U (by rintro _ rfl;exact H.drew) at0 U ?_);refine BM ?_;replace H:=H.drew;refine Im (G0 e) U Gl FD U U U H at1 hM ?_;rintro o2 w hM2 H;refine Ab (A7 (Aa (Ad (Ae U (Af U (qA (A6 (AD (v:=(.int _ _)) U U U ?_))))))));exact⟨rfl,o2,by rw[<-Afu hf (show ¬d.am=x by omega),<-hee];exact hM2,H.tail⟩
theorem Afw{bd b bx:Nat}{nx k x:Int}{o:Obj}{ds:List Du}(w:World)(hd:w.heap[bd]?=some (Bl 165 (DU b nx)))(hb:w.heap[b]?=some o)(hM:Ds .u64 (dm ds) o)(hbd:bd≠b)(hx:w.heap[bx]?=some (Bl 2 [.int .i64 x]))(ham:∀d∈ds,0<=d.am/\d.am<=4503599627370496)(hbx:bx≠b:=by omega):
  Ret prog 177 #[ptr bd,.int .u64 k,Pk bx] w fun v w'=>v=.int .i64 (Pj ds k x)/\∃o',Ds .u64 (dm (VD ds k x)) o'/\Ctx w [b] w' [(b,o')]:=by
 cases hf:Dn ds k with
 |none=>exact Aa1 w hd hb hM hbd hf
 |some d=>exact Aa2 w hd hb hM hbd hf hx hbx (ham d (IK hf).1)
theorem Aj6{bd b:Nat}{nx k x:Int}{o:Obj}{ds:List Du}(w:World)(hd:w.heap[bd]?=some (Bl 165 (DU b nx)))(hb:w.heap[b]?=some o)(hM:Ds .u64 (dm ds) o)(hbd:bd≠b)(ham:∀d∈ds,0<=d.am/\d.am<=4503599627370496) :
  Ret prog 185 #[ptr bd,.int .u64 k,.int .i64 x] w fun v w'=>v=.int .i64 (Pj ds k x)/\∃o',Ds .u64 (dm (VD ds k x)) o'/\Ctx w [b] w' [(b,o')]:=by
 obtain⟨w0,rfl,H⟩:=qE w;have hbl:=Bf hb;refine A2 (fn:=f185) func185 U [.pointer (some ⟨bd,0,none⟩),.int .u64 k,.int .i64 x] U ?_;refine Ad (Bu _ (.int _ _) U U H ?_);rintro b5 w - H;refine Af U (qA (Ad (A9 U (Ae U (Cm [.pointer _] U ?_)))));have hb5:w0.heap.size<=b5:=(H.own _ (qaj ..)).elim (fun h=>by cases h) id;refine Am qB (Afw (x:=x) _ (H.ext.to hd (by simp)) (H.ext.to hb (by simp)) hM hbd (H.get at0) ham) U ?_;rintro v w ⟨rfl,o',hM',H2⟩;refine Af U (qA (A6 (AD (v:=(.int _ _)) U U U ?_)));have H3:=H.ext.mono (S':=[b]) (by simp);exact⟨rfl,o',hM',⟨H3.trans H2.ext,H2.blk,H2.nd,fun y hy=>by rw[qab.1 hy];exact .inl (qab.2 rfl)⟩⟩
structure PlD(ds:List Du)(k:Int)(i:Nat)(d:Du):Prop where
 at':ds[i]?=some d
 id:d.id=k
 fst:∀(j:Nat) (e:Du),j<i->ds[j]?=some e->e.id≠k
theorem PlD.pay{ds:List Du}{k x:Int}{i:Nat}{d:Du}(h:PlD ds k i d):G1 ds k x=if d.am=x then ds.eraseIdx i else ds.set i { d with am:=d.am - x }:=by
 induction ds generalizing i with
 |nil=>have:=h.at';cases this
 |cons y ds ih =>
  unfold G1
  cases i with
  |zero =>
   have h1:=h.at'
   injection h1 with h1
   rw[h1,if_pos h.id];rfl
  |succ i =>
   have h1:=h.fst 0 y (Nat.succ_pos _) rfl;rw[if_neg h1,ih ⟨h.at',h.id,fun j e hj he=>h.fst (j+1) e (Nat.succ_lt_succ hj) he⟩]
   split <;> rfl
theorem Aa3(a:Option Addr)(n c:Nat)(ds:List Du)(w:World)(R:Rd w a 7 CM ds)(hn:ds.length=n)(hm:n<=1000000000:=by omega):
  Ret prog 225 #[.slice a n c] w fun v w'=>Fresh w w' 67 7 v (ds.flatMap CM):=by
 subst hn;obtain⟨w0,rfl,H⟩:=qE w;refine A2 (fn:=f225) func225 U [.slice a ds.length c] U (Ad (Az U (qA (Ap (Ad (Ao U (Iu U BT U (qA (Av _ U ?_ ?_)))))))))
 .intro h1;have ha:a=none:=by simpa using h1
  subst ha
  have hxs:ds=[]:=by
   cases ds with
   |nil=>rfl
   |cons x xs=>obtain⟨b,o,h⟩:=R.some' (by simp);cases h
  subst hxs;refine Ad (Az U (qA (A6 (Al (AD (v:=(.slice _ _ _)) U U U ?_)))));exact Fresh.nil H _ _
 .intro h1;refine Aq (Aa (Ad (Hd BT BC H ?_)));rintro b5 w H O;refine Ao U (Hb U BT BT BC Y0 DR U (ds.flatMap CM) U U H O (QN ds) (Aa0 ds) ((R.ext0 H.ext).app (fun _ _=>rfl) (by omega)) ?_);rintro a7 c7 full7 w H O;refine Az U (qA (A6 (AD (v:=(.slice _ _ _)) U U U ?_)));exact H.fresh O
theorem VE(d:Du)(w:World):Ret prog 226 #[G0 d] w fun v w'=>v=.bool d.held/\Ext [] w w':=by
 obtain⟨w0,rfl,H⟩:=qE w;refine A2 (fn:=f226) func226 U [G0 d] U (Ad (Bu (CM d) (.agg _) U U H ?_));rintro b1 w - H;refine Ai U (qA (Ad (Ah F6 U (AG HI U H at0 U (Ai U (qA (A6 (AD (v:=(.bool _)) U U U ?_))))))));exact⟨rfl,H.ext⟩
abbrev Amh:Value := .func (.func 226) #[] #[]
structure FstH(ds:List Du)(i:Nat):Prop where
 at':∃d,ds[i]?=some d/\d.held=true
 fst:∀(j:Nat) (e:Du),j<i->ds[j]?=some e->e.held=false
theorem Aj7(a:Option Addr)(n c:Nat)(ds:List Du)(w:World)(R:Rd w a 7 CM ds)(hn:ds.length=n)(hn2:n<=1000000) :
  Ret prog 201 #[.slice a n c,Amh] w fun v w'=>Ext [] w w'/\((v=.int .i64 (-1)/\∀d∈ds,d.held=false)\/∃i:Nat,v=.int .i64 (i:Int)/\FstH ds i):=by
 subst hn;obtain⟨w0,rfl,H⟩:=qE w;refine A2 (fn:=f201) func201 U [.slice a ds.length c,.func (.func 226) #[] #[]] U (Ad (Af U (qA (Ap (Ad (Ao U (AU BT U (Ae U (qA (Ax ?_))))))))));refine Bn 524080 (α:=Nat) (fun i=>[(8,.int .i64 (i:Int))]) (fun i w'=>i<=ds.length/\Ctx w0 [] w' []/\∀(j:Nat) (e:Du),j<i->ds[j]?=some e->e.held=false) (fun i=>ds.length - i) 0 U ?_ ?_ ?_
 .exact⟨rfl,trivial⟩
 .exact⟨qaf _,H,fun j e h=>absurd h (qaw _)⟩
 .clear H;rintro i j w ⟨hi,H,hb⟩;refine Ad (AZ U U (qA (Ap (Av _ U ?_ ?_))))
  .intro h1;replace h1:=AJ h1;obtain⟨d,hd2⟩:=AB (l:=ds) (i:=i);refine Aq (Aa (Ap (Ax (Ad (Ae U (Af U (qA (Ad (De U (.func _ _ _) U ?_)))))))));refine Ao U (Ae U (AM R BT BC U U (by rfl) ?_));refine Ca _ EF BC U U ((R.ext0 H.ext).row hd2 U) (EC U qB (VE d _) U ?_);rintro v w ⟨rfl,hx16⟩;replace H:=H.call hx16;refine qA (Av _ U ?_ ?_)
   .intro h2;refine Ad (Ae U (Af U (qA (A6 (A5 (Al (Al (A5 (Al (AD (v:=(.int _ _)) U U U ?_))))))))));exact⟨H.ext,.inr ⟨i,rfl,⟨d,hd2,h2⟩,hb⟩⟩
   .intro h2;refine Aq (A7 (Aa (Ay (Aw U U ?_))));refine Ae U (qA ?_);refine⟨i+1,rfl,⟨rfl,trivial⟩,⟨by omega,H,fun j e hj he=>?_⟩,by omega⟩
    rcases qap j i with h7|h7
    .exact hb j e h7 he
    .obtain rfl:j=i:=by omega
     rw[hd2]at he;cases he;exact h2
  .intro h1;replace h1:=AK h1;refine Be (Aj (Aj (AH (Aa (Ad (Af U (qA (A6 (AD (v:=(.int _ _)) U U U ?_)))))))));refine⟨H.ext,.inl ⟨rfl,fun d hd=>?_⟩⟩;obtain⟨j,hj⟩:=qbl.1 hd;exact hb j d (by have:=Cb hj;omega) hj
def opn(ds:List Du):List Du:=ds.filter fun d => !d.held
theorem Tq:∀(vs l:List Value) (o k:Nat),k<=o->(over l o vs).take k=l.take k
 | [],_,_,_,_=>rfl
 |v::vs,l,o,k,h=>by
  show(over (l.set o v) (o+1) vs).take k=_;rw[Tq vs (l.set o v) (o+1) k (by omega)];refine qb2 fun j=>?_;rw[qb0,qb0]
  split
  .rw[qbo (by omega)]
  .rfl
theorem OS.shrink{α:Type}{a:Option Addr}{n c s i:Nat}{full vs:List Value}{enc:α->List Value}{L:List α}{o:Nat}(O:OS a n c s full (L.flatMap enc))(hs:∀x∈L,(enc x).length=s)(hi:i<=n)(hL:L.length=n)(ho:vs=[]\/i*s<=o):OS a i c s (Go.GV.over full o vs) ((L.take i).flatMap enc):=by
 refine⟨O.zero,O.none',by rw[DY];exact O.len,qbe hi O.le,?_⟩
 have h1:(Go.GV.over full o vs).take (i*s)=full.take (i*s):=by
  rcases ho with rfl|ho
  .rfl
  .exact Tq _ _ _ _ ho
 rw[h1]
 have h2:full.take (i*s)=(full.take (n*s)).take (i*s):=by
  rw[List.take_take,qce (qcr _ hi)]
 rw[h2,O.pre];have h3:L.flatMap enc=(L.take i).flatMap enc++(L.drop i).flatMap enc:=by rw[<-qb1,qbn]
 have h4:((L.take i).flatMap enc).length=i*s:=by
  rw[FE fun z hz=>hs z (qdh hz),qbm,qce (by omega)]
 rw[h3];exact qct h4
theorem Nm(ds:List Du)(d:Du):opn (ds++[d])=opn ds++if d.held=true then[]else[d]:=by
 unfold opn;rw[qco];cases h:d.held <;> simp[h]
theorem YW{ds:List Du}(h:∀d∈ds,d.held=false):opn ds=ds:=by
 unfold opn;rw[List.filter_eq_self];intro d hd;rw[h d hd];rfl
structure DSt where
 i:Nat
 j:Nat
 L:List Du
 full:List Value
theorem Aql(a:Option Addr)(c:Nat)(full:List Value)(ds:List Du)(w:World)(O:OS a ds.length c 7 full (ds.flatMap CM))(hb:∀y∈ent a 67 full,w.heap[y.1]?=some y.2)(hn2:ds.length<=1000000) :
  Ret prog 224 #[.slice a ds.length c,Amh] w fun v w'=>∃full',v=.slice a (opn ds).length c/\OS a (opn ds).length c 7 full' ((opn ds).flatMap CM)/\Ctx w ((ent a 67 full).map (·.1)) w' (ent a 67 full'):=by
 obtain⟨w0,rfl⟩:=qD w;have R:Rd w0 a 7 CM ds:=OS.rd O hb (fun _ _=>rfl) (by omega);have H:Ctx w0 ((ent a 67 full).map (·.1)) w0 (ent a 67 full):=⟨Ext.refl _ _,hb,FM,fun x hx => .inl (qa8 (f:=(·.1)) hx)⟩;refine A2 (fn:=f224) func224 U [.slice a ds.length c,.func (.func 226) #[] #[]] U (Ad (Az U (qA (Ad (Ao U (De U (.func _ _ _) U ?_))))));refine Am qB (Aj7 a ds.length c ds _ R U hn2) U ?_;rintro v w ⟨hx10,hidx⟩;replace H:=H.call hx10;obtain⟨pi,rfl,hpi⟩:∃pi:Int,v=.int .i64 pi/\((pi = -1/\∀d∈ds,d.held=false)\/∃i:Nat,pi=(i:Int)/\FstH ds i):=hidx.elim (fun h=>⟨-1,h.1,.inl ⟨rfl,h.2⟩⟩) (fun⟨i,h1,h2⟩=>⟨i,h1,.inr ⟨i,rfl,h2⟩⟩);refine Af U (qA (Ap (Ad (Ae U (Cj U U (qA (Av _ U ?_ ?_)))))))
 .intro h1;replace h1:=AJ h1;refine Ad (Ao U (Az U (qA (A6 (Al (AD (v:=(.slice _ _ _)) U U U ?_))))));have hal:∀d∈ds,d.held=false:=hpi.elim (fun h=>h.2) fun⟨i,h,_⟩=>by omega
  rw[YW hal];exact⟨full,rfl,O,H⟩
 .intro h1;replace h1:=AK h1;obtain⟨i,hpe,P⟩:∃i:Nat,pi=(i:Int)/\FstH ds i:=hpi.elim (fun h=>absurd h.1 h1) id;subst hpe;obtain⟨d0,hd0,hh0⟩:=P.at';have hil:=Cb hd0;obtain⟨q,rfl⟩:=O.form (by omega);replace H:Ctx w0 [q] w [(q,Bl 67 full)]:=H
  have hop0:opn (ds.take i)=ds.take i:=YW fun d hd=>by
   obtain⟨j,hj⟩:=qbl.1 hd;rw[qb0]at hj
   split at hj
   .exact P.fst j d (by assumption) hj
   .cases hj
  have hst0:opn (ds.take (i+1))=ds.take i:=by
   rw[qbt,hd0];show opn (ds.take i++[d0])=_;rw[Nm,if_pos hh0,hop0,qa4]
  refine Aq (Aa (Ap (Ad (Ae U (Aw U U ?_)))));refine Af U (qA (Ax (Bn 68719411424 (α:=DSt) (fun t=>[(5,.int .i64 (t.i:Int)),(6,.int .i64 (t.j:Int))]) (fun t w'=>t.i<t.j/\t.j<=ds.length/\t.L.length=ds.length/\t.L.take t.i=opn (ds.take t.j)/\(∀p,t.j<=p->t.L[p]?=ds[p]?)/\OS (some ⟨q,0,none⟩) ds.length c 7 t.full (t.L.flatMap CM)/\Ctx w0 [q] w' [(q,Bl 67 t.full)]) (fun t=>ds.length - t.j) ⟨i,i+1,ds,full⟩ U ?_ ?_ ?_)))
  .exact⟨rfl,rfl,trivial⟩
  .exact⟨Nat.lt_succ_self _,by dsimp only;omega,rfl,hst0.symm,fun p _=>rfl,O,H⟩
  .clear H;rintro⟨i,j,L,fu⟩ jj w ⟨hij,hj,hL,hT,hS,O1,H⟩;dsimp only at hij hj hL hT hS O1 H;dsimp only;have hOl:=O1.len;have hOle:=O1.le;refine Ap (Ad (Ae U (Ao U (AU BT U (AZ U U (qA (Av _ U ?_ ?_)))))))
   .intro h2;replace h2:=AJ h2;obtain⟨d,hdj⟩:=AB (l:=ds) (i:=j);have hLd:L[j]?=some d:=by rw[hS j (qan _),hdj]
    have R1:Rd w (some ⟨q,0,none⟩) 7 CM L:=O1.rd (t:=67) (fun y hy=>by have hy:=qab.1 hy;rw[hy];exact H.get at0) (fun _ _=>rfl) (by decide);have htk:ds.take (j+1)=ds.take j++[d]:=by rw[qbt,hdj];rfl
    refine Aq (Aa (Ap (Ax (Ad (Ao U (Ae U (AM R1 BT BC U U (by omega) ?_)))))));refine Ca _ EF BC U U (R1.row hLd U) (AX DR H ?_);rintro b7 w - H;refine Bi BC U U U (by exact Dt _) H at0 U ?_;rintro w H;refine qA (Ad (De U (.func _ _ _) U ?_));refine BV EF BC U H at0 U (EC U qB (VE d _) U ?_);rintro v w ⟨rfl,hx28⟩;replace H:=H.call hx28;refine B1 U (qA (Av _ U ?_ ?_))
    .intro h3;replace h3:=Bv h3;have h3':¬d.held=true:=by simpa using h3
     obtain⟨y,hy⟩:=AB (l:=L) (i:=i);have O2:=OS.over O1 (fun _=>rfl) hy d;refine Ad (Ao U (Ae U (BV EF BC U H at0 U (AM R1 BT BC U U (by omega) ?_))));refine Il (vs:=CM d) U BC U U U (Dt d) H at1 (by show 0+(i:Int).toNat*7+7<=_;omega) ?_;rintro w H;replace H:Ctx w0 [q] w [(b7,Bl 67 (CM d)),(q,Bl 67 (over fu (i*7) (CM d)))]:=by rw[show i*7=0+((i:Int)).toNat*7 by omega];exact H
     refine qA (Ay (Ae U (Aw U U ?_)));refine Af U (Ab (A7 (Aa (Ay (Ae U (Aw U U ?_))))));refine Af U (qA ?_);refine⟨⟨i+1,j+1,L.set i d,over fu (i*7) (CM d)⟩,rfl,⟨rfl,rfl,trivial⟩,⟨by dsimp only;omega,by dsimp only;omega,by dsimp only;rw[qb4];exact hL,?_,fun p hp=>?_,O2,?_⟩,by dsimp only;omega⟩
     .dsimp only;rw[htk,Nm,if_neg h3',<-hT,qbt,qc1 (by omega)]
      congr 1
      refine qb2 fun z=>?_;rw[qb0,qb0]
      split
      .rw[qbo (by omega)]
      .rfl
     .dsimp only at hp |-;rw[qbo (by omega)];exact hS p (by omega)
     .exact H.tail
    .intro h3;replace h3:=Bw h3;have h3':d.held=true:=by simpa using h3
     refine Aq (A7 (Aa (Ay (Ae U (Aw U U ?_)))));refine Af U (qA ?_);refine⟨⟨i,j+1,L,fu⟩,rfl,⟨rfl,rfl,trivial⟩,⟨by dsimp only;omega,by dsimp only;omega,hL,?_,fun p hp=>hS p (by dsimp only at hp;omega),O1,H.tail⟩,by dsimp only;omega⟩;dsimp only;rw[htk,Nm,if_pos h3',qa4];exact hT
   .intro h2;replace h2:=AK h2;obtain rfl:j=ds.length:=by omega
    rw[qbf]at hT;have hlen:(opn ds).length=i:=by rw[<-hT,qbm];omega
    obtain⟨o',ho',ho2⟩:∃o',UU (some ⟨q,0,none⟩) c i 7=some ⟨q,o',none⟩/\((c=i/\o'=0)\/o'=i*7):=by
     unfold UU
     by_cases h:c=i
     .rw[if_pos h];exact⟨0,rfl,.inl ⟨h,rfl⟩⟩
     .rw[if_neg h];exact⟨0+i*7,(by show some (Addr.add _ _)=_;rw[Dr]),.inr (qa2 _)⟩
    refine Be (Aj (Aj (AH (Aa (Ad (Ao U (Ae U (OE U BT BC U U ?_))))))));refine SO (b:=q) (o:=o') (n:=ds.length - i) (c:=c - i) (s:=7) U BT DR U (by simp[AS]) (show Value.slice (UU (some ⟨q,0,none⟩) c i 7) (ds.length - i) (c - i)=_ by rw[ho']) H at0 (by omega) ?_;rintro w H;refine qA (Ad (Ao U (Ae U (Hz U BT BC U U ?_))));refine Az U (qA (A6 (AD (v:=(.slice _ _ _)) U U U ?_)));have O3:=OS.shrink (i:=i) (o:=o') (vs:=(List.replicate (ds.length - i) [Value.int .u64 0,.int .i64 0,.int .i64 0,.int .i64 0,.int .i64 0,.int .i64 0,.bool false]).flatten) O1 (fun _ _=>rfl) (by omega) hL (ho2.elim (fun h=>by omega) fun h => .inr (by omega));rw[hT]at O3;rw[hlen];exact⟨_,rfl,O3,H⟩
theorem YX(a:Option Addr)(n c:Nat)(ds:List Du)(w:World)(R:Rd w a 7 CM ds)(hn:ds.length=n)(hm:n<=1000000) :
  Ret prog 187 #[.slice a n c] w fun v w'=>Fresh w w' 67 7 v ((opn ds).flatMap CM):=by
 subst hn;obtain⟨w0,rfl⟩:=qD w;refine A2 (fn:=f187) func187 U [.slice a ds.length c] U (Ad (Az U (qA (Ad (Ao U (Am qB (Aa3 a ds.length c ds _ R U) U ?_))))));rintro v w F;obtain⟨a4,n4,c4,f4,rfl,O4,hb4⟩:=F.ex;have hl4:=O4.llen;rw[QN]at hl4;obtain rfl:ds.length=n4:=by omega
 refine Am qB (Aql a4 c4 f4 ds _ O4 (fun y hy=>(hb4 y hy).1) hm) U ?_;rintro v w ⟨f5,rfl,O5,H5⟩;refine Az U (qA (A6 (AD (v:=(.slice _ _ _)) U U U ?_)));refine⟨⟨_,_,_,f5,rfl,O5,fun x hx=>⟨H5.blk x hx,?_⟩⟩,F.ext.then H5.ext fun x hx=>?_⟩
 .rcases H5.own x hx with h|h
  .obtain⟨y,hy,hyx⟩:=qah.1 h;rw[<-hyx];exact(hb4 y hy).2
  .exact qbe F.ext.size h
 .obtain⟨y,hy,rfl⟩:=qah.1 hx;exact .inr (hb4 y hy).2
def Fo:Nat->List Du->List Du
 |_,[]=>[]
 |i,d::ds=>{ d with id:=(i:Int)+1 }::Fo (i+1) ds
theorem Ts(i:Nat)(ds:List Du):(Fo i ds).length=ds.length:=by
 induction ds generalizing i with
 |nil=>rfl
 |cons d ds ih=>show(Fo (i+1) ds).length+1=ds.length+1;rw[ih]
theorem U4(i:Nat)(ds es:List Du):Fo i (ds++es)=Fo i ds++Fo (i+ds.length) es:=by
 induction ds generalizing i with
 |nil=>rfl
 |cons d ds ih =>
  show _::Fo (i+1) (ds++es)=_::(Fo (i+1) ds++Fo (i+(ds.length+1)) es);rw[ih,show i+1+ds.length=i+(ds.length+1)by omega]
theorem XC{ds:List Du}{i:Nat}{d:Du}(h:ds[i]?=some d):Fo 0 (ds.take (i+1))=Fo 0 (ds.take i)++[{ d with id:=(i:Int)+1 }]:=by
 have hl:=Cb h;rw[qbt,h];show Fo 0 (ds.take i++[d])=_;rw[U4,qbm,qce (by omega),qa2];rfl
theorem Afx{ds:List Du}:∀(i:Nat) (d:Du),d∈Fo i ds->(i:Int)<d.id/\d.id<=i+ds.length:=by
 induction ds with
 |nil=>intro i d h;cases h
 |cons x ds ih =>
  intro i d h
  rcases qag.1 h with rfl|h
  .dsimp only[List.length_cons];omega
  .have:=ih (i+1) d h;rw[qa6];omega
theorem Aa4{ds:List Du}:∀(i:Nat),Gu ((i:Int)+ds.length+1) i (Fo i ds)=ds.all mayD:=by
 induction ds with
 |nil=>intro i;rfl
 |cons d ds ih =>
  intro i;have h:=ih (i+1);show((mayD d && (decide ((i:Int)<(i:Int)+1) && decide ((i:Int)+1<_))) && Gu _ ((i:Int)+1) (Fo (i+1) ds))=(mayD d && ds.all mayD);rw[<-h,qal (show(i:Int)<(i:Int)+1 by omega),qal (show(i:Int)+1<(i:Int)+((d::ds).length:Nat)+1 by rw[qa6];omega),show((i:Int)+((d::ds).length:Nat)+1)=(((i+1:Nat):Int)+ds.length+1)by rw[qa6];omega];simp
def DH(rs:List Int)(ds:List Du):Bool :=
 decide (rs.length<=16) && (!decide ((EN rs).2=1) && (ds.all (fun d=>decide (max d.fr d.to<rs.length)) && decide (ofC (Fo 0 ds) (ds.length+1)=0)))
theorem Aa5{rs:List Int}{ds:List Du}{i:Nat}{d:Du}(hd:ds[i]?=some d)(h:¬max d.fr d.to<rs.length):DH rs ds=false:=by
 unfold DH
 have:ds.all (fun d=>decide (max d.fr d.to<rs.length))=false:=by
  rw[List.all_eq_false];exact⟨d,qac hd,by simpa using h⟩
 rw[this];simp
theorem Aa6(a b:Option Addr)(n c m e:Nat)(rs:List Int)(ds:List Du)(w:World)(R:Rd w a 1 I1 rs)(hn:rs.length=n)(hn2:n<=1000000)(Rd':Rd w b 7 CM ds)(hm:ds.length=m)(hm2:m<=1000000) :
  Ret prog 207 #[.slice a n c,.slice b m e] w fun v w'=>v=.bool (DH rs ds)/\Ext [] w w':=by
 subst hn hm;obtain⟨w0,rfl,H⟩:=qE w;obtain⟨tt,htt⟩:=qD (EN rs);refine A2 (fn:=f207) func207 U [.slice a rs.length c,.slice b ds.length e] U (Ad (Ai U (qA (Ap (Ad (Ao U (AU AR U (Cp U U (qA (Av _ U ?_ ?_))))))))))
 .intro h1;replace h1:=AJ h1;refine Ad (Ai U (qA (A6 (Al (AD (v:=(.bool _)) U U U ?_)))));exact⟨qaa Value.bool (by unfold DH;rw[qay (show ¬rs.length<=16 by omega)];rfl),H.ext⟩
 .intro h1;replace h1:=AK h1;have h1':decide (rs.length<=16)=true:=qal (by omega);refine Aq (Aa (Ap (Ad (Ao U (Am qB (LP a rs.length c rs _ R U (hn2:=hn2)) U ?_)))));rintro v w ⟨rfl,rfl⟩;rw[<-htt];refine BN U (AF U U (AF U U (Af U (Af U (qA (Ad (Ae U (Cj U U (qA ?_)))))))));refine Av _ U ?_ ?_
  .intro h2;replace h2:=AJ h2;refine Ad (Ai U (qA (A6 (Al (AD (v:=(.bool _)) U U U ?_)))));exact⟨qaa Value.bool (by unfold DH;rw[<-htt,h2,h1'];rfl),H.ext⟩
  .intro h2;replace h2:=AK h2;refine Aq (Aa (Ad (Az U (qA (Ap (Ad (Ao U (AU BT U (Ae U (qA ?_))))))))));refine Ax (Bn 70368727401360 (α:=LSt) (fun t=>[(7,.slice t.a t.i t.c),(24,.int .i64 (t.i:Int))]) (fun t w'=>t.i<=ds.length/\OS t.a t.i t.c 7 t.full ((Fo 0 (ds.take t.i)).flatMap CM)/\Ctx w0 [] w' (ent t.a 67 t.full)/\∀(j:Nat) (d:Du),j<t.i->ds[j]?=some d->max d.fr d.to<rs.length) (fun t=>ds.length - t.i) ⟨0,none,0,[]⟩ U ?_ ?_ ?_)
   .exact⟨rfl,rfl,trivial⟩
   .exact⟨qaf _,OS.nil,H,fun j d h=>absurd h (qaw _)⟩
   .clear H;rintro⟨i,a2,c2,full⟩ jj w ⟨hi,O,H,hb⟩;dsimp only at hi O H hb;dsimp only;refine Ad (AZ U U (qA (Ap (Av _ U ?_ ?_))))
    .intro h3;replace h3:=AJ h3;obtain⟨d,hd⟩:=AB (l:=ds) (i:=i);obtain⟨d',hd'⟩:∃d':Du,d'={ d with id:=(i:Int)+1 }:=⟨_,rfl⟩;refine Aq (Aa (Ap (Ax (Ad (Ae U (AM Rd' BT BC U U (by rfl) ?_))))));refine Ca _ EF BC U U ((Rd'.ext0 H.ext).row hd U) (AX DR H ?_);rintro b9 w - H;refine Af U (Bi BC U U U (by exact Dt _) H at0 U ?_);rintro w H;refine qA (Ap (Ad (Ah Dk U (AG B6 U H at0 U (Ah D7 U (AG B6 U H at0 U (Jc U U ?_)))))));refine Ao U (AU AR U (Cq U U (qA (Av _ U ?_ ?_))))
     .intro h4;replace h4:=AJ h4;refine Ad (Ai U (qA (A6 (Al (A5 (Al (Al (A5 (Al (AD (v:=(.bool _)) U U U ?_))))))))));exact⟨qaa Value.bool (Aa5 hd (show ¬max d.fr d.to<rs.length by omega)).symm,H.ext⟩
     .intro h4;replace h4:=AK h4;refine Aq (Aa (Ad (Ae U (E0 U NY FD ?_))));refine EE U U (Ah Hr U (Cz (.int _ _) Bx U U U H at0 (by(simp;done)) ?_));rintro w H;refine qA ?_;replace H:Ctx w0 [] w ((b9,Bl 67 (CM d'))::ent a2 67 full):=by rw[hd'];exact H
      refine Ay (Ao U (BV EF BC U H at0 U (Cs _ (.agg _) BT BC DR U U U U H ?_)));rintro b43 w - H;refine C3 (L:=[_]) BT BT BC Y0 DR U U U H O U (by simp[AS]) ?_;rintro a' c' full' w H O;refine Az U (Ab (A7 (Aa (Ay (Aw U U ?_)))));refine Ae U (qA ?_);refine⟨⟨i+1,a',c',full'⟩,rfl,⟨rfl,rfl,trivial⟩,⟨by dsimp only;omega,?_,H.tail,fun j x hj hx=>?_⟩,by dsimp only;omega⟩
      .dsimp only;rw[XC hd,<-hd',qb1];exact O
      .rcases qap j i with h7|h7
       .exact hb j x h7 hx
       .obtain rfl:j=i:=by dsimp only at hj;omega
        rw[hd]at hx;cases hx;omega
    .intro h3;replace h3:=AK h3;obtain rfl:i=ds.length:=by omega
     rw[qbf]at O
     have hal:ds.all (fun d=>decide (max d.fr d.to<rs.length))=true:=by
      rw[qas];intro d hd;obtain⟨j,hj⟩:=qbl.1 hd;exact qal (hb j d (Cb hj) hj)
     have RO:Rd w a2 7 CM (Fo 0 ds):=OS.rd O (fun y hy=>H.blk y hy) (fun _ _=>rfl) (by omega)
     have hbr:DH rs ds=decide (ofC (Fo 0 ds) (ds.length+1)=0):=by
      unfold DH;rw[h1',hal,<-htt,qay h2];rfl
     obtain⟨cd,hcd⟩:=qD (ofC (Fo 0 ds) (ds.length+1));rw[hbr,<-hcd];refine Be (Aj (Aj (AH (Aa (Ad (Ao U (Ao U (AU BT U (E0 U NY FD ?_)))))))));refine EE U U (Am qB (Afq a2 ds.length c2 (Fo 0 ds) (ds.length+1) _ RO (Ts 0 ds) (fun d hd=>by have:=Afx 0 d hd;omega)) U ?_);rintro v w ⟨p,rfl,hp1,hp2,hx52⟩;obtain⟨pp,rfl⟩:∃pp,p=.pointer pp:=by by_cases hz:ofC (Fo 0 ds) (ds.length+1)=0;(obtain⟨bd,_,_,e1,_⟩:=hp2 hz;exact⟨_,e1⟩);exact⟨none,hp1 hz⟩
     replace H:=H.call hx52;rw[<-hcd];refine BN U (AF U U (AF U U (BE U (Af U (qA (Ad (Ae U (Cj U U (Ai U ?_)))))))));refine qA (A6 (AD (v:=(.bool _)) U U U ?_));exact⟨rfl,H.ext⟩
def KI(d:Du):Ed:=⟨d.fr,d.to,d.am,-d.we⟩
def Og(rs:List Int):List Ed:=(List.range (2*rs.length)).map fun j=>if j % 2=0 then⟨rs.length,(j / 2:Nat),rs.getD (j / 2) 0,0⟩else⟨(j / 2:Nat),rs.length,4503599627370496,0⟩
def BX(rs:List Int)(ds:List Du)(net:Bool):List Ed:=ds.map KI++if net=true then[]else Og rs
theorem Nn{rs:List Int}{i:Nat}{x:Int}(h:rs[i]?=some x):(Og rs)[2*i]?=some ⟨rs.length,i,x,0⟩:=by
 have hl:=Cb h;unfold Og;rw[Ei (by omega),if_pos (by omega),show 2*i / 2=i by omega,Br h]
theorem PA{rs:List Int}{i:Nat}(h:i<rs.length):(Og rs)[2*i+1]?=some ⟨i,rs.length,4503599627370496,0⟩:=by
 unfold Og;rw[Ei (by omega),if_neg (by omega),show(2*i+1) / 2=i by omega]
theorem YY(rs:List Int):(Og rs).length=2*rs.length:=by unfold Og;simp
def edV(e:Ed):List Value:=[.agg (CJ e).toArray]
structure RndK(b1 b2 b3:Nat)(a b:Option Addr)(n c m e:Nat)(rs:List Int)(ds:List Du)(net:Bool)(w:World):Prop where
 h1:w.heap[b1]?=some (Bl 27 [.slice b m e])
 h2:w.heap[b2]?=some (Bl 4 [.bool net])
 h3:w.heap[b3]?=some (Bl 35 [.slice a n c])
 R:Rd w a 1 I1 rs
 Rd':Rd w b 7 CM ds
theorem XE{b1 b2 b3:Nat}{a b:Option Addr}{n c m e:Nat}{rs:List Int}{ds:List Du}{net:Bool}(hn:rs.length=n)(hm:ds.length=m)(hn2:n<=1000000)(hw:∀d∈ds,-1000000000<=d.we/\d.we<=1000000000)(hm2:m<=1000000:=by omega):
  TY prog 240 #[ptr b1,ptr b2,ptr b3] [] (fun _ w=>RndK b1 b2 b3 a b n c m e rs ds net w) ((BX rs ds net).map edV):=by
 subst hn hm;intro l w J E hJ0 hJs hEs hK hY;obtain⟨M0,hJ0⟩:=hJ0;obtain⟨w0,rfl⟩:=qD w
 have hat1:∀(i:Nat) (d:Du),ds[i]?=some d->((BX rs ds net).map edV)[i]?=some (edV (KI d)):=fun i d hd=>by
  unfold BX;have hl:=Cb hd;rw[qa1,qb7 (by rw[qak];exact hl),qa1,hd];rfl
 have hat2:net=false->∀(j:Nat) (x:Ed),(Og rs)[j]?=some x->((BX rs ds net).map edV)[ds.length+j]?=some (edV x):=fun h0 j x hx=>by
  unfold BX;rw[h0,qa1,qc4 (by rw[qak];omega),qak,show ds.length+j - ds.length=j by omega];show((Og rs)[j]?).map edV=_;rw[hx];rfl
 have hlen:((BX rs ds net).map edV).length=ds.length+if net=true then 0 else 2*rs.length:=by
  unfold BX;rw[qak,qat,qak]
  split
  .rfl
  .rw[YY]
 refine A2 (fn:=f240) func240 U [.func (.yield l) #[] #[],.pointer (some ⟨b1,0,none⟩),.pointer (some ⟨b2,0,none⟩),.pointer (some ⟨b3,0,none⟩)] U ?_;have K0:=(hK _ _ _ hJ0).2;have H:=Ctx.start w0 [];refine Ap (Ad (Ba Gj U ((by rw[An K0.h1];rfl)) ?_));refine AU BT U (Ae U (qA (Ax (Bn 1073737792 (α:=Nat) (fun i=>[(12,.int .i64 (i:Int))]) (fun i w'=>i<=ds.length/\∃M,J i M w') (fun i=>ds.length - i) 0 U ?_ ?_ ?_))))
 .exact⟨rfl,trivial⟩
 .exact⟨qaf _,M0,hJ0⟩
 .clear H;rintro i j w ⟨hi,M,hJ⟩;have KK:=(hK _ _ _ hJ).2;have R:=KK.Rd';obtain⟨w1,rfl,H⟩:=qE w;refine Ad (AZ U U (qA (Ap (Av _ U ?_ ?_))))
  .intro h1;replace h1:=AJ h1;obtain⟨d,hd⟩:=AB (l:=ds) (i:=i);have hwd:=hw d (qac hd);refine Aq (Aa (Ap (Ax (Ad (AM R BT BC U U (by rfl) ?_)))));refine Ca _ EF BC U U ((R.ext0 H.ext).row hd U) (AX DR H ?_);rintro b6 w - H;refine Bi BC U U U (by exact Dt _) H at0 U ?_;rintro w H;refine qA (Ad (De U (.func _ _ _) U ?_));refine Ah Dk U (AG B6 U H at0 U (Ah D7 U (AG B6 U H at0 U (Ah Dl U (AG Bm U H at0 U (Ah Hs U (AG Bm U H at0 U (JZ U U ?_))))))));refine Bz (CJ (KI d)) Aed GY ?_;have hY1:=hY i (edV (KI d)) M _ (hat1 i d hd) (hJs _ _ _ _ hJ H.ext);refine HG (vs:=edV (KI d)) U hY1 U ?_;rintro u w hu
   obtain⟨bb,rfl,hu1,hu0⟩:∃bb,u=.bool bb/\(bb=true->∃M,J (i+1) M w)/\(bb=false->E w):=hu.elim (fun h=>⟨true,h.1,fun _=>let ⟨M',h1,_⟩:=h.2;⟨M',h1⟩,fun h=>by cases h⟩) (fun h=>⟨false,h.1,(fun h=>by cases h),fun _=>h.2⟩);refine B1 U (qA (Av _ U ?_ ?_))
   .intro h2;replace h2:=Bv h2;refine A6 (A5 (Al (Al (A5 (Al (Gx U U ?_))))));exact .inr (hu0 (by simpa using h2))
   .intro h2;replace h2:=Bw h2;refine Aq (A7 (Aa (Ay (Aw U U ?_))));refine Ae U (qA ?_);exact⟨i+1,rfl,⟨rfl,trivial⟩,⟨by omega,hu1 (by simpa using h2)⟩,by omega⟩
  .intro h1;replace h1:=AK h1;obtain rfl:i=ds.length:=by omega
   refine Be (Aj (Aj (AH (Aa (Ap (Ad (Ba HI U ((H.old0 (by rw[An KK.h2];rfl))) ?_)))))));refine qA (Av _ U ?_ ?_)
   .intro h2;refine A6 (Al (Gx U U ?_));exact .inl ⟨M,by rw[hlen,if_pos h2];exact hJ⟩
   .intro h2;refine Aq (Aa (Ad (Ba Cc U ((H.old0 (by rw[An KK.h3];rfl))) ?_)));refine AU AR U (Af U (qA (Ad (Ba Cc U ((H.old0 (by rw[An KK.h3];rfl))) ?_))));refine AU AR U (Ae U (qA (Ax (Bn 72057559678190336 (α:=Nat) (fun i=>[(35,.int .i64 (i:Int))]) (fun i w'=>i<=rs.length/\∃M,J (ds.length+2*i) M w') (fun i=>rs.length - i) 0 U ?_ ?_ ?_))))
    .exact⟨rfl,trivial⟩
    .exact⟨qaf _,M,hJ⟩
    .clear H;rintro i j2 w ⟨hi,M,hJ⟩;have KK:=(hK _ _ _ hJ).2;have R:=KK.R;obtain⟨w1,rfl,H⟩:=qE w;refine Ad (AZ U U (qA (Ap (Av _ U ?_ ?_))))
     .intro h3;replace h3:=AJ h3;obtain⟨x,hx⟩:=AB (l:=rs) (i:=i);refine Aq (Aa (Ap (Ax (Ad (Ae U (AM R AR Bt U U (by rfl) ?_))))));refine Ba Bm U (((R.ext0 H.ext).fld hx U (j:=0) U)) (Af U (Af U (qA (Ad (De U (.func _ _ _) U ?_)))));refine Ae U (Ae U (Ae U (Bz (CJ ⟨rs.length,i,x,0⟩) Aed GY ?_)));have hY1:=hY _ (edV ⟨rs.length,i,x,0⟩) M _ (hat2 h2 _ _ (Nn hx)) (hJs _ _ _ _ hJ H.ext);refine HG (vs:=edV ⟨rs.length,i,x,0⟩) U hY1 U ?_;rintro u w hu;clear H;obtain⟨bb,rfl,hu1,hu0⟩:∃bb,u=.bool bb/\(bb=true->∃M,J (ds.length+2*i+1) M w)/\(bb=false->E w):=hu.elim (fun h=>⟨true,h.1,fun _=>let ⟨M',h1,_⟩:=h.2;⟨M',h1⟩,fun h=>by cases h⟩) (fun h=>⟨false,h.1,(fun h=>by cases h),fun _=>h.2⟩);refine B1 U (Au U (AE 47 U ?_ ?_))
      .intro h4;replace h4:=Bv h4;refine Ag U (Ag U (Ag U (Ag U (Ag U (Ag U (A8 U (.bool _) U (qA (D4 U (A6 (A5 (Al (Al (A5 (Gx U U ?_))))))))))))));exact .inr (hu0 (by simpa using h4))
      .intro h4;replace h4:=Bw h4;refine De U (.func _ _ _) U (Ae U (Ae U (Bz (CJ ⟨i,rs.length,4503599627370496,0⟩) Aed GY ?_)));obtain⟨M2,hJ2⟩:∃M,J (ds.length+2*i+1) M w:=hu1 (by simp_all);have hY2:=hY _ (edV ⟨i,rs.length,4503599627370496,0⟩) M2 _ (hat2 h2 _ _ (PA (by omega))) hJ2;refine HG (vs:=edV ⟨i,rs.length,4503599627370496,0⟩) U hY2 U ?_;rintro u w hu;obtain⟨bb,rfl,hv1,hv0⟩:∃bb,u=.bool bb/\(bb=true->∃M,J (ds.length+2*i+1+1) M w)/\(bb=false->E w):=hu.elim (fun h=>⟨true,h.1,fun _=>let ⟨M',h1,_⟩:=h.2;⟨M',h1⟩,fun h=>by cases h⟩) (fun h=>⟨false,h.1,(fun h=>by cases h),fun _=>h.2⟩);refine B1 U (AA U (.bool _) U (qA (Av _ U ?_ ?_)))
       .intro h5;replace h5:=Bv h5;refine A6 (A5 (Al (Al (A5 (Gx U U ?_)))));exact .inr (hv0 (by simpa using h5))
       .intro h5;replace h5:=Bw h5;refine Aq (A7 (Aa (Ay (Aw U U ?_))));refine Ae U (qA ?_);exact⟨i+1,rfl,⟨rfl,trivial⟩,⟨by omega,by rw[show ds.length+2*(i+1)=ds.length+2*i+1+1 by omega];exact hv1 (by simpa using h5)⟩,by omega⟩
     .intro h3;replace h3:=AK h3;refine Be (Aj (Aj (AH (Dd U U ?_))));obtain rfl:i=rs.length:=by omega
      exact .inl ⟨M,by rw[hlen,if_neg (by rw[h2];decide)];exact hJ⟩
abbrev U1(x:Int):List Value:=[HY x]
instance:DecidableEq Ed:=fun x y=>if h:x.f=y.f/\x.t=y.t/\x.cap=y.cap/\x.cost=y.cost then isTrue (by cases x;cases y;simp_all)else isFalse fun e=>h (by subst e;exact⟨rfl,rfl,rfl,rfl⟩)
theorem Afy(x y:Ed):decide (x=y)=true↔CJ x=CJ y:=by
 obtain⟨a,b,c,d⟩:=x;obtain⟨a',b',c',d'⟩:=y;simp[CJ]
theorem Aqm(a b:Option Addr)(n c m d:Nat)(xs ys:List Ed)(w:World)(R:Rd w a 4 CJ xs)(hn:xs.length=n)(hn2:n<=1000000)(Ry:Rd w b 4 CJ ys)(hm:ys.length=m)(hm2:m<=1000000) :
  Ret prog 220 #[.slice a n c,.slice b m d] w fun v w'=>v=.bool (decide (xs=ys))/\Ext [] w w':=by
 subst hn hm;obtain⟨w0,rfl,H⟩:=qE w;refine A2 (fn:=f220) func220 U [.slice a xs.length c,.slice b ys.length d] U (Ad (Ai U (qA (Ap (Ad (Ao U (AU CU U (Ao U (AU CU U (C0 U U ?_))))))))));refine qA (Av _ U ?_ ?_)
 .intro h1;replace h1:=CC h1;refine Ad (Ai U (qA (A6 (Al (AD (v:=(.bool _)) U U U ?_)))));exact⟨qaa Value.bool (qay fun h=>by rw[h]at h1;simp at h1).symm,H.ext⟩
 .intro h1;replace h1:=CD h1;have hle:xs.length=ys.length:=by omega
  refine Aq (Aa (Ap (Ad (Ao U (AU CU U (Ae U (qA (Ax (Bn 67100720 (α:=Nat) (fun i=>[(13,.int .i64 (i:Int))]) (fun i w'=>i<=xs.length/\Ctx w0 [] w' []/\∀(k:Nat) (x y:Ed),k<i->xs[k]?=some x->ys[k]?=some y->x=y) (fun i=>xs.length - i) 0 U ?_ ?_ ?_)))))))))
  .exact⟨rfl,trivial⟩
  .exact⟨qaf _,H,fun k x y h=>absurd h (qaw _)⟩
  .clear H;rintro i j w ⟨hi,H,hb⟩;refine Ad (AZ U U (qA (Ap (Av _ U ?_ ?_))))
   .intro h2;replace h2:=AJ h2;obtain⟨x,hx⟩:=AB (l:=xs) (i:=i);obtain⟨y,hy⟩:=AB (l:=ys) (i:=i);refine Aq (Aa (Ap (Ax (Ad (Ae U (Af U (qA (CN (fun x=>x=_) Bs U ?_))))))));refine B0 U (AY U (Bo R CU CW U U (by rfl) ?_));refine Me _ U Je CW U U (by rintro _ rfl;exact((R.ext0 H.drew.ext).row hx rfl)) ?_;refine B0 U (AY U (Bo Ry CU CW U U (by rfl) ?_));refine Me _ U Je CW U U (by rintro _ rfl;exact((Ry.ext0 H.drew.ext).row hy rfl)) ?_;refine q_neS (ks:=[true,true,true,true]) (xs:=CJ x) (ys:=CJ y) (decide (x=y)) U (by kernel_rfl) U U ⟨rfl,rfl,rfl,rfl,trivial⟩ (Afy x y) ?_;refine BM ?_;rintro _ rfl;replace H:=H.drew;refine Av _ U ?_ ?_
    .intro h3;refine Ad (Ai U (qA (A6 (A5 (Al (Al (A5 (Al (AD (v:=(.bool _)) U U U ?_)))))))));have hne:¬x=y:=by simpa using h3
     exact⟨qaa Value.bool (qay fun h=>by subst h;rw[hx]at hy;injection hy with hy;exact hne hy).symm,H.ext⟩
    .intro h3;refine Aq (A7 (Aa (Ay (Aw U U ?_))));refine Ae U (qA ?_);have heq:x=y:=by simpa using h3
     refine⟨i+1,rfl,⟨rfl,trivial⟩,⟨by omega,H,fun k x' y' hk hx' hy'=>?_⟩,by omega⟩
     rcases qap k i with h7|h7
     .exact hb k x' y' h7 hx' hy'
     .obtain rfl:k=i:=by omega
      rw[hx]at hx';rw[hy]at hy';cases hx';cases hy';exact heq
   .intro h2;replace h2:=AK h2;refine Be (Aj (Aj (AH (Aa (Ad (Ai U (qA (A6 (AD (v:=(.bool _)) U U U ?_)))))))));obtain rfl:i=xs.length:=by omega
    exact⟨qaa Value.bool (qal (YV hle hb)).symm,H.ext⟩
theorem Aqn(a b:Option Addr)(n c m d:Nat)(xs ys:List Int)(w:World)(R:Rd w a 1 U1 xs)(hn:xs.length=n)(hn2:n<=1000000)(Ry:Rd w b 1 U1 ys)(hm:ys.length=m)(hm2:m<=1000000) :
  Ret prog 221 #[.slice a n c,.slice b m d] w fun v w'=>v=.bool (decide (xs=ys))/\Ext [] w w':=by
 subst hn hm;obtain⟨w0,rfl,H⟩:=qE w;refine A2 (fn:=f221) func221 U [.slice a xs.length c,.slice b ys.length d] U (Ad (Ai U (qA (Ap (Ad (Ao U (AU BA U (Ao U (AU BA U (C0 U U ?_))))))))));refine qA (Av _ U ?_ ?_)
 .intro h1;replace h1:=CC h1;refine Ad (Ai U (qA (A6 (Al (AD (v:=(.bool _)) U U U ?_)))));exact⟨qaa Value.bool (qay fun h=>by rw[h]at h1;simp at h1).symm,H.ext⟩
 .intro h1;replace h1:=CD h1;have hle:xs.length=ys.length:=by omega
  refine Aq (Aa (Ap (Ad (Ao U (AU BA U (Ae U (qA (Ax (Bn 67100720 (α:=Nat) (fun i=>[(13,.int .i64 (i:Int))]) (fun i w'=>i<=xs.length/\Ctx w0 [] w' []/\∀(k:Nat) (x y:Int),k<i->xs[k]?=some x->ys[k]?=some y->x=y) (fun i=>xs.length - i) 0 U ?_ ?_ ?_)))))))))
  .exact⟨rfl,trivial⟩
  .exact⟨qaf _,H,fun k x y h=>absurd h (qaw _)⟩
  .clear H;rintro i j w ⟨hi,H,hb⟩;refine Ad (AZ U U (qA (Ap (Av _ U ?_ ?_))))
   .intro h2;replace h2:=AJ h2;obtain⟨x,hx⟩:=AB (l:=xs) (i:=i);obtain⟨y,hy⟩:=AB (l:=ys) (i:=i);refine Aq (Aa (Ap (Ax (Ad (Ae U (Af U (qA (CN (fun x=>x=_) Bs U ?_))))))));refine B0 U (AY U (Bo R BA Bx U U (by rfl) ?_));refine BF BL U (by rintro _ rfl;exact(((R.ext0 H.drew.ext).fld hx rfl (j:=0) rfl))) ?_;refine B0 U (AY U (Bo Ry BA Bx U U (by rfl) ?_));refine BF BL U (by rintro _ rfl;exact(((Ry.ext0 H.drew.ext).fld hy rfl (j:=0) rfl))) ?_;refine Gi U U (BM ?_);rintro _ rfl;replace H:=H.drew;refine Av _ U ?_ ?_
    .intro h3;replace h3:=CC h3;refine Ad (Ai U (qA (A6 (A5 (Al (Al (A5 (Al (AD (v:=(.bool _)) U U U ?_)))))))));have hne:¬x=y:=h3;exact⟨qaa Value.bool (qay fun h=>by subst h;rw[hx]at hy;injection hy with hy;exact hne hy).symm,H.ext⟩
    .intro h3;replace h3:=CD h3;refine Aq (A7 (Aa (Ay (Aw U U ?_))));refine Ae U (qA ?_);have heq:x=y:=by omega
     refine⟨i+1,rfl,⟨rfl,trivial⟩,⟨by omega,H,fun k x' y' hk hx' hy'=>?_⟩,by omega⟩
     rcases qap k i with h7|h7
     .exact hb k x' y' h7 hx' hy'
     .obtain rfl:k=i:=by omega
      rw[hx]at hx';rw[hy]at hy';cases hx';cases hy';exact heq
   .intro h2;replace h2:=AK h2;refine Be (Aj (Aj (AH (Aa (Ad (Ai U (qA (A6 (AD (v:=(.bool _)) U U U ?_)))))))));obtain rfl:i=xs.length:=by omega
    exact⟨qaa Value.bool (qal (YV hle hb)).symm,H.ext⟩
theorem Aa7(a b:Option Addr)(n c m d:Nat)(net:Bool)(w:World):Ret prog 208 #[.slice a n c,.slice b m d,.bool net] w fun v w'=>∃b1 b2 b3,v=.func (.func 240) #[] #[ptr b1,ptr b2,ptr b3]/\Ctx w [] w' [(b2,Bl 4 [.bool net]),(b1,Bl 27 [.slice b m d]),(b3,Bl 35 [.slice a n c])]:=by
 obtain⟨w0,rfl,H⟩:=qE w;refine A2 (fn:=f208) func208 U [.slice a n c,.slice b m d,.bool net] U (Ad (Bu _ (.slice _ _ _) U U H ?_));rintro b3 w - H;refine Bu _ (.slice _ _ _) U U H ?_;rintro b4 w - H;refine Bu _ (.bool _) U U H ?_;rintro b5 w - H;refine Dg U .nilFunc U (qA (Ad (Cm [.pointer _,.pointer _,.pointer _] U (Dg U (.func _ _ _) U ?_))));refine qA (A6 (AD (v:=(.func _ _ _)) U U U ?_));exact⟨_,_,_,rfl,H⟩
theorem QO(a:Option Addr)(n c:Nat)(ds:List Du)(w:World)(R:Rd w a 7 CM ds)(hn:ds.length=n)(hm:n<=1000000) :
  Ret prog 71 #[.slice a n c] w fun v w'=>Fresh w w' 67 7 v ((opn ds).flatMap CM):=by
 subst hn;obtain⟨w0,rfl,H⟩:=qE w;refine A2 (fn:=f71) func71 U [.slice a ds.length c] U (Ad (Az U (qA (Ad (Az U (qA (Ap (Ad (Af U (qA ?_))))))))));refine Ax (Bn 16777208 (α:=LSt) (fun t=>[(3,.slice t.a (opn (ds.take t.i)).length t.c),(4,.int .i64 (t.i:Int))]) (fun t w'=>t.i<=ds.length/\OS t.a (opn (ds.take t.i)).length t.c 7 t.full ((opn (ds.take t.i)).flatMap CM)/\Ctx w0 [] w' (ent t.a 67 t.full)) (fun t=>ds.length - t.i) ⟨0,none,0,[]⟩ U ?_ ?_ ?_)
 .exact⟨rfl,rfl,trivial⟩
 .exact⟨qaf _,OS.nil,H⟩
 .clear H;rintro⟨i,a2,c2,full⟩ j w ⟨hi,O,H⟩;dsimp only at hi O H;dsimp only;have hol:(opn (ds.take i)).length<=i:=qbe (qdp _ _) (by rw[qbm];omega);refine Ap (Ad (Ae U (Ao U (AU BT U (AZ U U (qA (Av _ U ?_ ?_)))))))
  .intro h1;replace h1:=AJ h1;obtain⟨d,hd⟩:=AB (l:=ds) (i:=i)
   have hos:opn (ds.take (i+1))=opn (ds.take i)++if d.held=true then[]else[d]:=by
    rw[qbt,hd];exact Nm _ _
   refine Aq (Aa (Ap (Ax (Ad (Ao U (Ae U (AM R BT BC U U (by rfl) ?_)))))));refine Ah F6 U (Ba HI U (((R.ext0 H.ext).fld hd U (j:=6) U)) ?_);refine B1 U (qA (Av _ U ?_ ?_))
   .intro h2;replace h2:=Bv h2;have h2':¬d.held=true:=by simpa using h2
    rw[if_neg h2']at hos;refine Ay (Ao U (Ao U (Ae U (AM R BT BC U U (by rfl) ?_))));refine Ca _ EF BC U U ((R.ext0 H.ext).row hd U) (Cs _ (.agg _) BT BC DR U U U U H ?_);rintro b22 w - H;refine C3 (L:=[]) BT BT BC Y0 DR U U U H O U (by simp[AS]) ?_;rintro a' c' full' w H O;refine Az U (Ab (A7 (Aa (Ay (Ae U (Aw U U ?_))))));refine Af U (qA ?_);exact⟨⟨i+1,a',c',full'⟩,rfl,⟨by dsimp only;rw[hos,qat];rfl,rfl,trivial⟩,⟨by dsimp only;omega,by dsimp only;rw[hos,qat,qb1];exact O,H⟩,by dsimp only;omega⟩
   .intro h2;replace h2:=Bw h2;have h2':d.held=true:=by simpa using h2
    rw[if_pos h2',qa4]at hos;refine Aq (A7 (Aa (Ay (Ae U (Aw U U ?_)))));refine Af U (qA ?_);exact⟨⟨i+1,a2,c2,full⟩,rfl,⟨by dsimp only;rw[hos];rfl,rfl,trivial⟩,⟨by dsimp only;omega,by dsimp only;rw[hos];exact O,H⟩,by dsimp only;omega⟩
  .intro h1;replace h1:=AK h1;refine Be (Aj (Aj (AH (Aa (Ad (Ao U (Az U (qA (A6 (AD (v:=(.slice _ _ _)) U U U ?_))))))))));obtain rfl:i=ds.length:=by omega
   rw[qbf]at O |-;exact Ctx.fresh (L:=[]) H O
theorem Afz(l:List Int):∀v∈l.map CQ,AS v=true:=fun v hv=>by
 obtain⟨x,_,rfl⟩:=qah.1 hv;rfl
theorem Oh(a:Option Addr)(n c:Nat)(xs:List Int)(w:World)(R:Rd w a 1 I1 xs)(hn:xs.length=n)(hm:n<=1000000000:=by omega):
  Ret prog 166 #[.slice a n c] w fun v w'=>Fresh w w' 2 1 v (xs.map CQ):=by
 subst hn;obtain⟨w0,rfl,H⟩:=qE w;refine A2 (fn:=f166) func166 U [.slice a xs.length c] U (Ad (Az U (qA (Ap (Ad (Ao U (Iu U AR U (qA (Av _ U ?_ ?_)))))))))
 .intro h1;have ha:a=none:=by simpa using h1
  subst ha
  have hxs:xs=[]:=by
   cases xs with
   |nil=>rfl
   |cons x xs=>obtain⟨b,o,h⟩:=R.some' (by simp);cases h
  subst hxs;refine Ad (Az U (qA (A6 (Al (AD (v:=(.slice _ _ _)) U U U ?_)))));exact Fresh.nil H _ _
 .intro h1;refine Aq (Aa (Ad (Hd AR Bt H ?_)));rintro b5 w H O;refine Ao U (Hb U AR AR Bt J9 Eh U (xs.map CQ) U U H O (by simp) (Afz xs) (Rd.app1 (f:=CQ) (R.ext0 H.ext)) ?_);rintro a7 c7 full7 w H O;refine Az U (qA (A6 (AD (v:=(.slice _ _ _)) U U U ?_)));exact H.fresh O
def U5(k:Int)(n:Nat):Nat:=(max 0 (min k (n:Int))).toNat
theorem YZ(N:Int)(a b:Option Addr)(n c m d:Nat)(k:Int)(fl:List Int)(w:World)(R:Rd w b 1 I1 fl)(hm:fl.length=m)(hd:m<=d)(hm2:m<=1000000) :
  Ret prog 114 #[Dx N a n c,.slice b m d,.int .i64 k] w fun v w'=>Fresh w w' 2 1 v ((fl.take (U5 k m)).map CQ):=by
 subst hm;obtain⟨w0,rfl,H⟩:=qE w;have hk:U5 k fl.length<=fl.length:=by unfold U5;omega
 refine A2 (fn:=f114) func114 U [Dx N a n c,.slice b fl.length d,.int .i64 k] U (Ad (Bu [.int .i64 N,.slice a n c] (.agg _) U U H ?_));rintro b3 w - H;refine Az U (qA (Ad (Ao U (Ae U (Ao U (AU AR U (Yo U U U ?_)))))));refine Jc U U (Hz U AR Bt U U ?_);refine Am qB (Oh b (U5 k fl.length) d (fl.take (U5 k fl.length)) _ ((R.ext0 H.ext).take _) (by rw[qbm];omega)) U ?_;rintro v w F;obtain⟨a9,n9,c9,f9,rfl,O9,hb9⟩:=F.ex;refine Az U (qA (A6 (AD (v:=(.slice _ _ _)) U U U ?_)));exact⟨⟨a9,n9,c9,f9,rfl,O9,fun x hx=>⟨(hb9 x hx).1,qbe H.size (hb9 x hx).2⟩⟩,H.ext.trans F.ext⟩
section
variable {P:Program}{r:Option Nat}{ops rest:List Oper}{Q:Exit->Env->World->Prop}{e:Env}{w:World}{dst:Option Tmp}{ty:TypeId}{pos:String}{af:Array Edge}{g:Option (Nat × Bool)}
theorem U6{t k el:TypeId}{kk:IntKind}{x y:Operand}{b:Nat}{o:Obj}{m:List (Int × Value)}{n:Int}{z:Value}(hg:Bc ⟨dst,.lookup t x y true,ty,pos,af,g⟩ ops e=true)(ht:LY P t=some (k,el))(hk:P.underlying k=some (.int kk))(hz:(P.info? el).bind (·.zero)=some z)(hx:ev e x=.map (some b))(hy:ev e y=.int kk n)(hb:w.heap[b]?=some o)(hM:Ds kk m o)(h:AN P r ops Q rest (put e dst (.tuple #[(Eg m n).getD z,.bool (Eg m n).isSome])) w):AN P r ops Q (⟨dst,.lookup t x y true,ty,pos,af,g⟩::rest) e w:=by
 have H:Ctx w [b] w [(b,o)]:=Ctx.start1 hb;exact HD hg ht hk hz hx hy H at0 hM h
end
def Np(ds:List Du)(k:Int):Du:=(Dn ds k).getD d00
theorem U7{bd b:Nat}{nx k:Int}{o:Obj}{ds:List Du}(w:World)(hd:w.heap[bd]?=some (Bl 165 (DU b nx)))(hb:w.heap[b]?=some o)(hM:Ds .u64 (dm ds) o) :
  Ret prog 118 #[ptr bd,.int .u64 k] w fun v w'=>v=.tuple #[G0 (Np ds k),.bool (Dn ds k).isSome]/\Ext [] w w':=by
 obtain⟨w0,rfl,H⟩:=qE w
 have hmg:(Eg (dm ds) k).getD (G0 d00)=G0 (Np ds k):=by
  rw[Iz];unfold Np;cases Dn ds k <;> rfl
 have hms:(Eg (dm ds) k).isSome=(Dn ds k).isSome:=by
  rw[Iz];cases Dn ds k <;> rfl
 refine A2 (fn:=f118) func118 U [.pointer (some ⟨bd,0,none⟩),.int .u64 k] U ?_;refine Ad (AX DR H ?_);rintro b4 w - H;refine Ai U (qA (Ap (Ad (A9 U (C7 Ju U ?_)))));refine qA (Av _ U ?_ ?_)
 .intro h0;cases h0
 .intro h0;refine Aq (Aa (Ad (A9 U (AP U (Ah Et U (Ba FU U ((H.old0 (by rw[An hd];rfl))) ?_))))));refine Ae U (U6 (z:=G0 d00) U Gl FD Qz U U (H.ext.to hb (by simp)) hM ?_);rw[hmg,hms];refine BN U (AF U U (AF U U (AX DR H ?_)));rintro b6 w - H;refine Bi BC U U U (by exact Dt (Np ds k)) H at0 U ?_;rintro w H;refine Ai U (qA (Ad (BV EF BC U H at0 U (Au U (Bi BC U U U (by exact Dt (Np ds k)) H at1 U ?_)))));rintro w H;refine Ai U (qA (A6 (Jd U U U EF BC H at1 U (show _=(.bool _)from rfl) ?_)));exact⟨rfl,H.ext⟩
theorem Aj8(w:World):Ret prog 47 #[] w fun v w'=>∃bd b o,v=ptr bd/\Ds .u64 (dm []) o/\Ctx w [] w' [(bd,Bl 165 (DU b 1)),(b,o)]:=by
 obtain⟨w0,rfl,H⟩:=qE w;refine A2 (fn:=f47) func47 U [] U (Ad (BE U (qA (Ad (Mx .u64 U H ?_)))));rintro b o w hM H;refine Bz (DU b 1) Ad9 Aej (Bu (DU b 1) (.agg _) U U H ?_);rintro b3 w - H;refine BE U (qA (A6 (AD (v:=(.pointer _)) U U U ?_)));exact⟨b3,b,o,rfl,hM,H⟩
def Pm(n:Nat)(d:Du):Bool:=mayD d && (decide (d.fr<n) && decide (d.to<n))
def Aa8(rs:List Int)(ds:List Du):Bool:=(decide (rs.length<=16) && decide (ds.length<=64)) && (rs.all Db && (ds.all (Pm rs.length) && decide ((EN (ds.map Du.am)).2=0)))
theorem Af0(ds:List Du):∀i,(Fo i ds).map Du.am=ds.map Du.am:=by
 induction ds with
 |nil=>intro i;rfl
 |cons d ds ih=>intro i;show d.am::(Fo (i+1) ds).map Du.am=d.am::ds.map Du.am;rw[ih]
theorem Af1(rs:List Int):decide ((EN rs).2=1) = !rs.all Db:=by
 unfold EN
 cases h:rs.all Db with
 |false=>rw[if_pos rfl];rfl
 |true =>
  rw[if_neg (by decide)]
  split <;> rfl
theorem Af2(rs:List Int)(ds:List Du)(hl:ds.length<=1000000):Aa8 rs ds=DH rs ds:=by
 have h1:decide (ofC (Fo 0 ds) (ds.length+1)=0)=(decide (ds.length<=64) && (ds.all mayD && decide ((EN (ds.map Du.am)).2=0))):=by
  have ha:=Aa4 (ds:=ds) 0;rw[show(((0:Nat):Int)+ds.length+1)=(ds.length:Int)+1 by omega]at ha;have ham:(Fo 0 ds).map (·.am)=ds.map Du.am:=Af0 ds 0;unfold ofC;rw[Ts,ham,show Gu ((ds.length:Int)+1) 0 (Fo 0 ds)=ds.all mayD from ha]
  by_cases h64:64<ds.length
  .rw[if_pos h64,qay (show ¬ds.length<=64 by omega)];rfl
  .rw[if_neg h64,qal (show ds.length<=64 by omega),qb9,if_neg (by rw[qal (show 1<=(ds.length:Int)+1 by omega),qal (show(ds.length:Int)+1<=4611686018427387904 by omega)];decide)]
   cases hm:ds.all mayD with
   |false=>rw[if_pos rfl];rfl
   |true=>rw[if_neg (by decide),qb9]
 have h2:ds.all (Pm rs.length)=(ds.all (fun d=>decide (max d.fr d.to<rs.length)) && ds.all mayD):=by
  rw[qad];simp only[qae,qas,qam,Pm];constructor
  .intro h;exact⟨fun d hd=>by have:=h d hd;omega,fun d hd=>(h d hd).1⟩
  .intro h d hd;have:=h.1 d hd;exact⟨h.2 d hd,by omega,by omega⟩
 unfold Aa8 DH;rw[h1,h2,Af1];cases decide (rs.length<=16) <;> cases decide (ds.length<=64) <;> cases rs.all Db <;> cases ds.all (fun d=>decide (max d.fr d.to<rs.length)) <;> cases ds.all mayD <;> rfl
theorem VF(a b:Option Addr)(n c m e:Nat)(rs:List Int)(ds:List Du)(w:World)(R:Rd w a 1 I1 rs)(hn:rs.length=n)(hn2:n<=1000000)(Rd':Rd w b 7 CM ds)(hm:ds.length=m)(hm2:m<=1000000) :
  Ret prog 72 #[.slice a n c,.slice b m e] w fun v w'=>v=.bool (DH rs ds)/\Ext [] w w':=by
 rw[<-Af2 rs ds (by omega)];subst hn hm;obtain⟨w0,rfl,H⟩:=qE w;obtain⟨tt,htt⟩:=qD (EN (ds.map Du.am));refine A2 (fn:=f72) func72 U [.slice a rs.length c,.slice b ds.length e] U ?_;refine Ad (Ai U (qA (Ap (Ad (B9 (α:=Unit) 261120 (fun _=>[(17,.bool (!(decide (rs.length<=16) && decide (ds.length<=64))))]) (fun _ w'=>Ctx w0 [] w' []) U ?_ ?_)))))
 .refine Ao U (AU AR U (Cp U U (Au U (AE 13 U ?_ ?_))))
  .intro h1;replace h1:=AJ h1;refine Ag U (Ag U (Ag U (A8 U (.bool _) U (Ab ?_))));exact⟨rfl,(),rfl,⟨qaa Value.bool (by rw[qad];simp_all;try omega),trivial⟩,H⟩
  .intro h2;replace h2:=AK h2;refine Ao U (AU BT U (Cp U U (AA U (.bool _) U (Ab ?_))));exact⟨rfl,(),rfl,⟨qaa Value.bool (by rw[qad];simp_all;try omega),trivial⟩,H⟩
 rintro - j17 w H;refine Av _ U ?_ ?_
 .intro h1;replace h1:=Bv h1;refine Ad (Ai U (qA (A6 (Al (AD (v:=(.bool _)) U U U ?_)))));exact⟨qaa Value.bool (by unfold Aa8;rw[show(decide (rs.length<=16) && decide (ds.length<=64))=false by simpa using h1];rfl),H.ext⟩
 .intro h1;replace h1:=Bw h1;have h1':(decide (rs.length<=16) && decide (ds.length<=64))=true:=by simpa using h1
  have hB:Aa8 rs ds=(rs.all Db && (ds.all (Pm rs.length) && decide (tt.2=0))):=by unfold Aa8;rw[h1',htt];rfl
  rw[hB];refine Aq (Aa (Ad (Az U (qA (Ap (Ad (Af U (qA (Ax (Bn 1073479760 (α:=Nat) (fun i=>[(6,.int .i64 (i:Int))]) (fun i w'=>i<=rs.length/\Ctx w0 [] w' []/\∀(k:Nat) (x:Int),k<i->rs[k]?=some x->Db x=true) (fun i=>rs.length - i) 0 U ?_ ?_ ?_))))))))))
  .exact⟨rfl,trivial⟩
  .exact⟨qaf _,H,fun k x h=>absurd h (qaw _)⟩
  .clear H;rintro i j w ⟨hi,H,hb⟩;refine Ap (Ad (Ae U (Ao U (AU AR U (AZ U U (qA (Av _ U ?_ ?_)))))))
   .intro h2;replace h2:=AJ h2;obtain⟨x,hx⟩:=AB (l:=rs) (i:=i);refine Aq (Aa (Ap (Ax (Ad (Ao U (Ae U (AM R AR Bt U U (by rfl) ?_)))))));refine Ba Bm U (((R.ext0 H.ext).fld hx U (j:=0) U)) (Am qB (Oe x _) U ?_);rintro v w ⟨rfl,rfl⟩;refine B1 U (qA (Av _ U ?_ ?_))
    .intro h3;replace h3:=Bv h3;refine Ad (Ai U (qA (A6 (A5 (Al (Al (A5 (Al (AD (v:=(.bool _)) U U U ?_)))))))));exact⟨qaa Value.bool (by rw[Dw hx (show Db x=false by simpa using h3)];rfl),H.ext⟩
    .intro h3;replace h3:=Bw h3;refine Aq (A7 (Aa (Ay (Ae U (Aw U U ?_)))));refine Af U (qA ?_);exact⟨i+1,rfl,⟨rfl,trivial⟩,⟨by omega,H,Gv hx hb (by simpa using h3)⟩,by omega⟩
   .intro h2;replace h2:=AK h2;obtain rfl:i=rs.length:=by omega
    have hal:rs.all Db=true:=Eb fun k x hk hx=>hb k x hk hx;rw[hal,qb9];refine Be (Aj (Aj (AH (Aa (Ap (Ad (Af U (qA (Ax (Bn 1180591620716337561776 (α:=LSt) (fun t=>[(5,.slice t.a t.i t.c),(7,.int .i64 (t.i:Int))]) (fun t w'=>t.i<=ds.length/\OS t.a t.i t.c 1 t.full (((ds.take t.i).map Du.am).map CQ)/\Ctx w0 [] w' (ent t.a 2 t.full)/\∀(k:Nat) (d:Du),k<t.i->ds[k]?=some d->Pm rs.length d=true) (fun t=>ds.length - t.i) ⟨0,none,0,[]⟩ U ?_ ?_ ?_))))))))))
    .exact⟨rfl,rfl,trivial⟩
    .exact⟨qaf _,OS.nil,H,fun k x h=>absurd h (qaw _)⟩
    .clear H;rintro⟨i,a2,c2,full⟩ jj w ⟨hi,O,H,hdb⟩;dsimp only at hi O H hdb;dsimp only;refine Ap (Ad (Ae U (Ao U (AU BT U (AZ U U (qA (Av _ U ?_ ?_)))))))
     .intro h3;replace h3:=AJ h3;obtain⟨d,hd⟩:=AB (l:=ds) (i:=i);refine Aq (Aa (Ap (Ax (Ap (Ad (B9 (α:=Unit) 4611685949707911168 (fun _=>[(61,.bool (!Pm rs.length d))]) (fun _ w'=>Ctx w0 [] w' (ent a2 2 full)) U ?_ ?_))))))
      .refine Ao U (Ae U (AM Rd' BT BC U U (by rfl) ?_));refine Ca _ EF BC U U ((Rd'.ext0 H.ext).row hd U) (Am qB (Aaz d _) U ?_);rintro v w ⟨rfl,hx40⟩;replace H:=H.call hx40;refine B1 U (Au U (AE 42 U ?_ ?_))
       .intro h3;replace h3:=Bv h3;refine Ag U (Ag U (Ag U (Ag U (Ag U (Ag U (Ag U (Ag U (A8 U (.bool _) U (Au U ?_)))))))));refine Ag U (Ag U (Ag U (Ag U (Ag U (Ag U (Ag U (Ag U (A8 U (.bool _) U (Ab ?_)))))))));exact⟨rfl,(),rfl,⟨qaa Value.bool (by unfold Pm;rw[qad];simp_all;try omega),trivial⟩,H⟩
       .intro h4;replace h4:=Bw h4;refine Ao U (Ae U (AM Rd' BT BC U U (by rfl) ?_));refine Ah Dk U (Ba B6 U (((Rd'.ext0 H.ext).fld hd U (j:=1) U)) ?_);refine Ao U (AU AR U (Cq U U (AA U (.bool _) U (Au U (AE 52 U ?_ ?_)))))
        .intro h5;replace h5:=AJ h5;refine Ag U (Ag U (Ag U (Ag U (Ag U (Ag U (Ag U (Ag U (A8 U (.bool _) U (Ab ?_)))))))));exact⟨rfl,(),rfl,⟨qaa Value.bool (by unfold Pm;rw[qad];simp_all;try omega),trivial⟩,H⟩
        .intro h6;replace h6:=AK h6;refine Ao U (Ae U (AM Rd' BT BC U U (by rfl) ?_));refine Ah D7 U (Ba B6 U (((Rd'.ext0 H.ext).fld hd U (j:=2) U)) ?_);refine Ao U (AU AR U (Cq U U (AA U (.bool _) U (Ab ?_))));exact⟨rfl,(),rfl,⟨qaa Value.bool (by unfold Pm;rw[qad];simp_all;try omega),trivial⟩,H⟩
      rintro - j61 w H;refine Av _ U ?_ ?_
      .intro h4;replace h4:=Bv h4;refine Ad (Ai U (qA (A6 (Al (A5 (Al (Al (A5 (Al (AD (v:=(.bool _)) U U U ?_))))))))))
       have h5:ds.all (Pm rs.length)=false:=by
        rw[List.all_eq_false];exact⟨d,qac hd,by simpa using h4⟩
       exact⟨qaa Value.bool (by rw[h5];rfl),H.ext⟩
      .intro h4;replace h4:=Bw h4;refine Aq (Aa (Ay (Ao U (Ao U (Ae U (AM Rd' BT BC U U (by rfl) ?_))))));refine Ah Dl U (Ba Bm U (((Rd'.ext0 H.ext).fld hd U (j:=3) U)) ?_);refine Cs _ (.int _ _) AR Bt Eh U U U U H ?_;rintro b68 w - H;refine C3 (L:=[]) AR AR Bt J9 Eh U U U H O U (by simp[AS]) ?_;rintro a' c' full' w H O;refine Az U (Ab (A7 (Aa (Ay (Ae U (Aw U U ?_))))));refine Af U (qA ?_);refine⟨⟨i+1,a',c',full'⟩,rfl,⟨rfl,rfl,trivial⟩,⟨by dsimp only;omega,by dsimp only;rw[JM hd,qax];exact O,H,fun k x hk hx=>?_⟩,by dsimp only;omega⟩
       rcases qap k i with h7|h7
       .exact hdb k x h7 hx
       .obtain rfl:k=i:=by dsimp only at hk;omega
        rw[hd]at hx;cases hx
        simpa using h4
     .intro h3;replace h3:=AK h3;obtain rfl:i=ds.length:=by omega
      rw[qbf]at O
      have had:ds.all (Pm rs.length)=true:=by
       rw[qas];intro d hd;obtain⟨k,hk⟩:=qbl.1 hd;exact hdb k d (Cb hk) hk
      rw[had,qb9];refine Be (Aj (Aj (AH (Aa (Ad (Ao U (Am qB (Aay a2 ds.length c2 (ds.map Du.am) _ (O.rd1 fun x hx=>H.blk x hx) (by rw[qak])) U ?_)))))));rintro v w ⟨rfl,rfl⟩;rw[<-htt];refine BN U (AF U U (AF U U (Af U (Af U (qA (Ad (Ae U (Cj U U (Ai U ?_)))))))));refine qA (A6 (AD (v:=(.bool _)) U U U ?_));exact⟨rfl,H.ext⟩
def inA(acs:List Ac)(k:Int):Bool:=decide (0<=k) && decide (k<acs.length)
def DA(acs:List Ac)(k:Int):Ac:=if inA acs k=true then acs.getD k.toNat a00 else a00
theorem PB{bd:Nat}(a:Option Addr)(n c:Nat)(acs:List Ac)(k:Int)(w:World)(hd:w.heap[bd]?=some (Bl 162 [.slice a n c]))(R:Rd w a 2 Dm acs)(hn:acs.length=n)(hm:n<=1000000) :
  Ret prog 117 #[ptr bd,.int .i64 k] w fun v w'=>v=.tuple #[.agg (Dm (DA acs k)).toArray,.bool (inA acs k)]/\Ext [] w w':=by
 subst hn;obtain⟨w0,rfl,H⟩:=qE w;refine A2 (fn:=f117) func117 U [.pointer (some ⟨bd,0,none⟩),.int .i64 k] U ?_;refine Ad (AX JC H ?_);rintro b4 w - H;refine Ai U (qA (Ap (Ad (B9 (α:=Unit) 2097088 (fun _=>[(20,.bool (!inA acs k))]) (fun _ w'=>Ctx w0 [] w' [(b4,Bl 43 (Dm a00))]) U ?_ ?_))))
 .refine A9 U (C7 OJ U ?_);refine Au U (AE 8 U ?_ ?_)
  .intro h1;refine Ag U (Ag U (A8 U (.bool _) U (Au U (Ag U (Ag U (Ag U (Ag U (Ag U (Ag U ?_)))))))));refine Ag U (A8 U (.bool _) U (Ab ?_));exact⟨rfl,(),rfl,⟨qaa Value.bool (by unfold inA;rw[qad];simp_all;try omega),trivial⟩,H⟩
  .intro h2;refine Ae U (AZ U U (AA U (.bool _) U (Au U (AE 12 U ?_ ?_))))
   .intro h3;replace h3:=AJ h3;refine Ag U (Ag U (Ag U (Ag U (Ag U (Ag U (Ag U (A8 U (.bool _) U (Ab ?_))))))));exact⟨rfl,(),rfl,⟨qaa Value.bool (by unfold inA;rw[qad];simp_all;try omega),trivial⟩,H⟩
   .intro h4;replace h4:=AK h4;refine Ae U (A9 U (AP U (Ah Fg U (Ba E3 U ((H.old0 (by rw[An hd];rfl))) ?_))));refine AU Dz U (Cq U U (AA U (.bool _) U (Ab ?_)));exact⟨rfl,(),rfl,⟨qaa Value.bool (by unfold inA;rw[qad];simp_all;try omega),trivial⟩,H⟩
 rintro - j20 w H;refine Av _ U ?_ ?_
 .intro h1;replace h1:=Bv h1;refine Ad (Bz [.int .i64 0,.int .i64 0] Al6 JC ?_);refine Bi DP U U U (by simp[AS]) H at0 U ?_;rintro w H;refine Ai U (qA (A6 (Al (Jd U U U SU DP H at0 U (show _=(.bool _)from rfl) ?_))));have h1':inA acs k=false:=by simpa using h1
  exact⟨by unfold DA;rw[h1',if_neg (by decide)];rfl,H.ext⟩
 .intro h1;replace h1:=Bw h1;have h1':inA acs k=true:=by simpa using h1
  have h2:0<=k/\k<acs.length:=by unfold inA at h1';simpa using h1'
  obtain⟨i,rfl⟩:∃i:Nat,k=(i:Int):=⟨k.toNat,by omega⟩;obtain⟨x,hx⟩:=AB (l:=acs) (i:=i);refine Aq (Aa (Ad (A9 U (AP U (Ah Fg U (Ba E3 U ((H.old0 (by rw[An hd];rfl))) ?_))))));refine Ae U (AM R Dz DP U U (by rfl) ?_);refine Ca _ SU DP U U ((R.ext0 H.ext).row hx U) (Bi DP U U U (by exact IJ _) H at0 U ?_);rintro w H;refine Ai U (qA (A6 (Jd U U U SU DP H at0 U (show _=(.bool _)from rfl) ?_)));exact⟨by unfold DA;rw[h1',if_pos rfl,show((i:Int)).toNat=i from rfl,Br hx],H.ext⟩
section
variable {P:Program}{r:Option Nat}{ops rest:List Oper}{Q:Exit->Env->World->Prop}{e:Env}{w:World}{dst:Option Tmp}{ty:TypeId}{pos:String}{af:Array Edge}{g:Option (Nat × Bool)}
theorem Aj9{t k el:TypeId}{kk:IntKind}{x:Operand}{b:Nat}{o:Obj}{m:List (Int × Value)}(hg:Bc ⟨dst,.call ⟨.builtin .len,#[x],#[t]⟩,ty,pos,af,g⟩ ops e=true)(ht:LY P t=some (k,el))(hx:ev e x=.map (some b))(hb:w.heap[b]?=some o)(hM:Ds kk m o)(h:AN P r ops Q rest (put e dst (.int .i64 (m.length:Int))) w):AN P r ops Q (⟨dst,.call ⟨.builtin .len,#[x],#[t]⟩,ty,pos,af,g⟩::rest) e w:=by
 obtain⟨es,clock,rfl,hes,_⟩:=hM
 have hl:es.size=m.length:=by
  have:=qaa List.length hes
  simpa using this
 have hgo:(getObj b).run P w=.ok (.map es clock) w:=by simp[getObj,Sem.run,hb]
 exact BU hg U (by simp[execOp,resolve,invoke,builtin,hx,Builtin.len_,Bj (He ht),hgo,goInt,hl]) h
end
theorem Af3{ds:List Du}{d:Du}(h:Eg (dm ds) d.id=none):KG (dm ds) d.id (G0 d)=dm (ds++[d]):=by
 rw[<-Afo];generalize dm ds=m at h
 induction m with
 |nil=>rfl
 |cons p m ih =>
  have hp:¬p.1=d.id:=by
   intro hp;simp[Eg,hp]at h
  have hb2:(p.1 == d.id)=false:=by simpa using hp
  have hm2:Eg m d.id=none:=by rw[<-h];simp[Eg,hb2]
  simp[KG,hp,ih hm2]
def Nq(N k:Int):Bool:=decide (0<=k) && decide (k<N)
theorem VG(N:Int)(a:Option Addr)(n c:Nat)(k:Int)(w:World):Ret prog 125 #[Dx N a n c,.int .i64 k] w fun v w'=>v=.bool (Nq N k)/\Ext [] w w':=by
 obtain⟨w0,rfl,H⟩:=qE w;refine A2 (fn:=f125) func125 U [Dx N a n c,.int .i64 k] U (Ad (Bu [.int .i64 N,.slice a n c] (.agg _) U U H ?_));rintro b2 w - H;refine Ai U (qA (Ad (Ae U (Cq U U (Au U (AE 7 U ?_ ?_))))))
 .intro h1;replace h1:=AJ h1;refine Ae U (Ah DW U (AG B6 U H at0 U (AZ U U (A8 U (.bool _) U (Ai U (qA (A6 (AD (v:=(.bool _)) U U U ?_))))))));exact⟨qaa Value.bool (by unfold Nq;rw[qad];simp_all;try omega),H.ext⟩
 .intro h2;replace h2:=AK h2;refine Ag U (Ag U (Ag U (Ag U (AA U (.bool _) U (Ai U (qA (A6 (AD (v:=(.bool _)) U U U ?_))))))));exact⟨qaa Value.bool (by unfold Nq;rw[qad];simp_all;try omega),H.ext⟩
theorem DF{xs:List Int}:(EN xs).2=0↔(∀x∈xs,Db x=true)/\Ch xs<=4503599627370496:=by
 unfold EN
 cases h:xs.all Db with
 |false =>
  rw[if_pos rfl];refine⟨fun h=>by simp at h,fun h2=>?_⟩;rw[qas.2 h2.1]at h;cases h
 |true =>
  rw[if_neg (by decide)];rw[qas]at h
  split
  .rename_i h3;exact⟨fun _=>⟨h,h3⟩,fun _=>rfl⟩
  .rename_i h3;exact⟨fun h=>by simp at h,fun h4=>absurd h4.2 h3⟩
theorem Ge{ds:List Du}{nx:Int}:ofC ds nx=0↔ds.length<=64/\(1<=nx/\nx<=4611686018427387904)/\Gu nx 0 ds=true/\(EN (ds.map (·.am))).2=0:=by
 unfold ofC
 by_cases h1:64<ds.length
 .rw[if_pos h1];exact⟨fun h=>by simp at h,fun h=>absurd h.1 (by omega)⟩
 rw[if_neg h1]
 by_cases h2:1<=nx/\nx<=4611686018427387904
 .rw[qal h2.1,qal h2.2,if_neg (by decide)]
  cases h3:Gu nx 0 ds with
  |false=>rw[if_pos rfl];exact⟨fun h=>by simp at h,fun h=>by cases h.2.2.1⟩
  |true=>rw[if_neg (by decide)];exact⟨fun h=>⟨by omega,h2,rfl,h⟩,fun h=>h.2.2.2⟩
 .have:(decide (1<=nx) && decide (nx<=4611686018427387904))=false:=by
   rw[Bool.eq_false_iff];intro h;simp only[qae,qam]at h;exact h2 h
  rw[if_pos this];exact⟨fun h=>by simp at h,fun h=>absurd h.2.1 h2⟩
theorem Aka{nx a b:Int}{ds:List Du}(h:Gu nx b ds=true)(hab:a<=b:=by omega):Gu nx a ds=true:=by
 cases ds with
 |nil=>rfl
 |cons d ds =>
  simp only[Gu,qae,qam]at h |-;exact⟨⟨h.1.1,by omega,h.1.2.2⟩,h.2⟩
def DI:List Du->List Int->List Du
 | [],_=>[]
 |d::ds,[]=>d::ds
 |d::ds,x::xs=>if d.held=true then d::DI ds (x::xs)else if d.am=x then DI ds xs else{ d with am:=d.am - x }::DI ds xs
theorem Oi(ds:List Du):DI ds []=ds:=by cases ds <;> rfl
theorem G2{d:Du}(h:d.held=true)(ds:List Du)(xs:List Int):DI (d::ds) xs=d::DI ds xs:=by
 cases xs with
 |nil=>rw[Oi,Oi]
 |cons x xs=>show(if d.held=true then _ else _)=_;rw[if_pos h]
theorem G3{d:Du}(h:¬d.held=true)(ds:List Du)(x:Int)(xs:List Int):DI (d::ds) (x::xs)=(if d.am=x then[]else[{ d with am:=d.am - x }])++DI ds xs:=by
 show(if d.held=true then _ else _)=_;rw[if_neg h]
 split <;> rfl
theorem Ee(d:Du)(ds:List Du):opn (d::ds)=(if d.held=true then[]else[d])++opn ds:=by
 unfold opn;rw[qbw];cases d.held <;> rfl
def PayIn(os:List Du)(xs:List Int):Prop:=os.length=xs.length/\∀(i:Nat) (d:Du) (x:Int),os[i]?=some d->xs[i]?=some x->0<=x/\x<=d.am
theorem PayIn.tail{d:Du}{x:Int}{os:List Du}{xs:List Int}(h:PayIn (d::os) (x::xs)):(0<=x/\x<=d.am)/\PayIn os xs :=
 ⟨h.2 0 d x rfl rfl,by have:=h.1;simp only[qa6]at this;omega,fun i e y he hy=>h.2 (i+1) e y he hy⟩
theorem PayIn.cons{d:Du}{os:List Du}{xs:List Int}(h:PayIn (d::os) xs):∃x xs',xs=x::xs':=by
 cases xs with
 |nil=>have:=h.1;simp at this
 |cons x xs=>exact⟨x,xs,rfl⟩
theorem IL{motive:List Du->List Int->Prop}(h0:∀xs,motive [] xs)(h1:∀d ds xs,d.held=true->motive ds xs->motive (d::ds) xs)(h2:∀d ds x xs,¬d.held=true->0<=x->x<=d.am->motive ds xs->motive (d::ds) (x::xs)):∀(ds:List Du) (xs:List Int),PayIn (opn ds) xs->motive ds xs
 | [],xs,_=>h0 xs
 |d::ds,xs,h=>by
  rw[Ee]at h
  by_cases hd:d.held=true
  .rw[if_pos hd]at h;exact h1 d ds xs hd (IL h0 h1 h2 ds xs h)
  .rw[if_neg hd]at h;obtain⟨x,xs,rfl⟩:=PayIn.cons h;obtain⟨ha,hb⟩:=PayIn.tail h;exact h2 d ds x xs hd ha.1 ha.2 (IL h0 h1 h2 ds xs hb)
theorem Af4{nx:Int}{ds:List Du}{xs:List Int}(h:PayIn (opn ds) xs):∀ah,Gu nx ah ds=true->Gu nx ah (DI ds xs)=true:=by
 refine IL (motive:=fun ds xs=>∀ah,Gu nx ah ds=true->Gu nx ah (DI ds xs)=true) ?_ ?_ ?_ ds xs h
 .intro xs ah h;exact h
 .intro d ds xs hd ih ah h;rw[G2 hd];simp only[Gu,qae,qam]at h |-;exact⟨h.1,ih _ h.2⟩
 .intro d ds x xs hd h0 h1 ih ah h;rw[G3 hd];simp only[Gu,qae,qam]at h
  by_cases he:d.am=x
  .rw[if_pos he];exact Aka (ih _ h.2)
  .rw[if_neg he];show Gu nx ah ({ d with am:=d.am - x }::DI ds xs)=true;simp only[Gu,qae,qam];refine⟨⟨?_,h.1.2⟩,ih _ h.2⟩;have hm:=h.1.1;unfold mayD Db at hm |-;simp only[qae,qam,qbr,qda]at hm |-;exact⟨hm.1,by omega,by omega,hm.2.2.2⟩
theorem Af5{ds:List Du}{xs:List Int}(h:PayIn (opn ds) xs):(DI ds xs).length<=ds.length:=by
 refine IL (motive:=fun ds xs=>(DI ds xs).length<=ds.length) ?_ ?_ ?_ ds xs h
 .intro xs;exact qan _
 .intro d ds xs hd ih;rw[G2 hd];simpa using ih
 .intro d ds x xs hd _ _ ih;rw[G3 hd,qat,qa6]
  split <;> simp <;> omega
theorem Af6(c:Du->Int)(hc:∀d z,c { d with am:=z }=c d){ds:List Du}{xs:List Int}(h:PayIn (opn ds) xs):Ch ((DI ds xs).map fun d=>c d*d.am)=Ch (ds.map fun d=>c d*d.am) - Ch (List.zipWith (fun d x=>c d*x) (opn ds) xs):=by
 refine IL (motive:=fun ds xs=>Ch ((DI ds xs).map fun d=>c d*d.am)=Ch (ds.map fun d=>c d*d.am) - Ch (List.zipWith (fun d x=>c d*x) (opn ds) xs)) ?_ ?_ ?_ ds xs h
 .intro xs;rfl
 .intro d ds xs hd ih;rw[G2 hd,Ee,if_pos hd,qau,qau,BJ,BJ,ih,qbp];omega
 .intro d ds x xs hd _ _ ih;rw[G3 hd,Ee,if_neg hd,qcm,qbp,qax,ES,ih,qau,BJ];show _=_ - Ch ((c d*x)::List.zipWith _ _ _);rw[BJ]
  by_cases he:d.am=x
  .rw[if_pos he,he];show Ch []+_=_;have:Ch []=0:=rfl;rw[this];omega
  .rw[if_neg he];show Ch [c { d with am:=d.am - x }*(d.am - x)]+_=_;have h1:∀z:Int,Ch [z]=z:=fun z=>by rw[BJ];show z+0=z;omega
   rw[h1,hc,Int.mul_sub];omega
theorem Akb{nx:Int}{ds:List Du}{xs:List Int}(h:PayIn (opn ds) xs)(ho:ofC ds nx=0):ofC (DI ds xs) nx=0:=by
 obtain⟨h1,h2,h3,h4⟩:=Ge.1 ho;have h5:=Af4 h 0 h3;have h6:=Af5 h;have h7:=Af6 (fun _=>1) (fun _ _=>rfl) h;simp only[Int.one_mul]at h7;obtain⟨ha,hb⟩:=DF.1 h4;refine Ge.2 ⟨by omega,h2,h5,DF.2 ⟨fun x hx=>?_,?_⟩⟩
 .obtain⟨d,hd,rfl⟩:=qah.1 hx;have:=((Kt h5).1 d hd).2.2.2;unfold mayD at this;simp only[qae]at this;exact this.2.2.1
 .have h8:0<=Ch (List.zipWith (fun _ x=>x) (opn ds) xs):=FX fun x hx=>by
   obtain⟨i,hi⟩:=qbl.1 hx;rw[qcw]at hi
   cases h9:(opn ds)[i]? with
   |none=>rw[h9]at hi;cases hi
   |some d =>
    cases h10:xs[i]? with
    |none=>rw[h9,h10]at hi;cases hi
    |some y =>
     rw[h9,h10]at hi
     injection hi with hi
     have:=(h.2 i d y h9 h10).1;omega
  show Ch ((DI ds xs).map fun d=>d.am)<=_;rw[h7];show Ch (ds.map fun d=>d.am) - _<=_;have hb':Ch (ds.map fun d=>d.am)<=4503599627370496:=hb;omega
def Mn(ds:List Du):List (Du × Int)->Prop
 | []=>True
 |p::ps=>(Dn ds p.1.id=some p.1/\p.1.held=false/\0<=p.2/\p.2<=p.1.am)/\Mn (G1 ds p.1.id p.2) ps
def Lu(ds:List Du):List (Du × Int)->List Du
 | []=>ds
 |p::ps=>Lu (G1 ds p.1.id p.2) ps
theorem VH(ps qs:List (Du × Int)):∀ds,Lu ds (ps++qs)=Lu (Lu ds ps) qs:=by
 induction ps with
 |nil=>intro ds;rfl
 |cons p ps ih=>intro ds;exact ih _
theorem U8{ps qs:List (Du × Int)}:∀{ds},Mn ds (ps++qs)->Mn ds ps/\Mn (Lu ds ps) qs:=by
 induction ps with
 |nil=>intro ds h;exact⟨trivial,h⟩
 |cons p ps ih=>intro ds h;exact⟨⟨h.1,(ih h.2).1⟩,(ih h.2).2⟩
theorem VI{ds:List Du}{ps:List (Du × Int)}(h:Mn ds ps){i:Nat}{p:Du × Int}(hp:ps[i]?=some p):(Dn (Lu ds (ps.take i)) p.1.id=some p.1/\p.1.held=false/\0<=p.2/\p.2<=p.1.am)/\Lu ds (ps.take (i+1))=G1 (Lu ds (ps.take i)) p.1.id p.2:=by
 have hs:ps=ps.take i++ps.drop i:=(qbn i ps).symm
 have hd:ps.drop i=p::ps.drop (i+1):=by
  have hl:=Cb hp;rw[qdi hl];rw[qbq hl]at hp
  injection hp with hp
  rw[hp]
 rw[hs,hd]at h;refine⟨(U8 h).2.1,?_⟩;rw[qbt,hp];exact VH _ [p] ds
theorem Aa9{ds:List Du}{p:Du × Int}(h:Dn ds p.1.id=some p.1/\p.1.held=false/\0<=p.2/\p.2<=p.1.am):Pj ds p.1.id p.2=0/\VD ds p.1.id p.2=G1 ds p.1.id p.2:=by
 have h1:Pj ds p.1.id p.2=0:=by
  unfold Pj pC;rw[h.1];show(if p.2<0 then(1:Int)else if p.1.held=true then 14 else if p.1.am<p.2 then 12 else 0)=0;rw[if_neg (by omega),h.2.1,if_neg (by decide),if_neg (by omega)]
 exact⟨h1,by unfold VD;rw[if_pos h1]⟩
theorem Af7{P ds:List Du}{k x:Int}(h:∀d∈P,d.id≠k):G1 (P++ds) k x=P++G1 ds k x:=by
 induction P with
 |nil=>rfl
 |cons y P ih =>
  show(if y.id=k then _ else y::G1 (P++ds) k x)=_;rw[if_neg (h y (qaj ..)),ih fun d hd=>h d (qai _ hd)];rfl
theorem Aba{P ds:List Du}{k:Int}(h:∀d∈P,d.id≠k):Dn (P++ds) k=Dn ds k:=by
 unfold Dn;rw[List.find?_append,List.find?_eq_none.2 fun d hd=>by simpa using h d hd];rfl
theorem Akc{ds:List Du}{xs:List Int}(h:PayIn (opn ds) xs):∀P:List Du,((P++ds).map (·.id)).Nodup->Mn (P++ds) ((opn ds).zip xs)/\Lu (P++ds) ((opn ds).zip xs)=P++DI ds xs:=by
 refine IL (motive:=fun ds xs=>∀P:List Du,((P++ds).map (·.id)).Nodup->Mn (P++ds) ((opn ds).zip xs)/\Lu (P++ds) ((opn ds).zip xs)=P++DI ds xs) ?_ ?_ ?_ ds xs h
 .intro xs P _;exact⟨trivial,rfl⟩
 .intro d ds xs hd ih P hn;rw[Ee,if_pos hd,G2 hd,qbp];have:=ih (P++[d]) (by rw[qa9];exact hn);rw[qa9,qa9]at this;exact this
 .intro d ds x xs hd h0 h1 ih P hn
  have hP:∀e∈P,e.id≠d.id:=fun e he h=>by
   rw[qax,qdg]at hn;exact hn.2.2 e.id (qa8 (f:=fun d:Du=>d.id) he) d.id (qa8 (f:=fun d:Du=>d.id) (qaj ..)) h
  have hpl:G1 (P++d::ds) d.id x=P++((if d.am=x then[]else[{ d with am:=d.am - x }])++ds):=by
   rw[Af7 hP]
   congr 1
   show(if d.id=d.id then _ else _)=_;rw[if_pos rfl]
   split <;> rfl
  rw[Ee,if_neg hd,G3 hd];show((Dn (P++d::ds) d.id=some d/\d.held=false/\0<=x/\x<=d.am)/\Mn (G1 (P++d::ds) d.id x) ((opn ds).zip xs))/\Lu (G1 (P++d::ds) d.id x) ((opn ds).zip xs)=_;rw[hpl,<-qa9]
  have hn2:((P++(if d.am=x then([]:List Du)else[{ d with am:=d.am - x }])++ds).map fun d:Du=>d.id).Nodup:=by
   split
   .rw[qa4];refine List.Nodup.sublist ?_ hn;exact List.Sublist.map _ (List.Sublist.append (List.Sublist.refl _) (List.sublist_cons_self _ _))
   .rw[qa9,qax]at *;exact hn
  obtain⟨i1,i2⟩:=ih _ hn2;refine⟨⟨⟨?_,by simpa using hd,h0,h1⟩,i1⟩,by rw[i2,qa9]⟩;rw[Aba hP];unfold Dn;rw[qch,show(d.id == d.id)=true by simp]
theorem Af8{l:List Int}(h:l.Pairwise (·<·)):l.Nodup:=h.imp fun h=>by omega
theorem Lv{nx:Int}{ds:List Du}(h:ofC ds nx=0):(ds.map (·.id)).Nodup:=Af8 (Kt (Ge.1 h).2.2.1).2.1
theorem Af9{nx:Int}{ds:List Du}(h:ofC ds nx=0){d:Du}(hd:d∈ds):0<d.id/\d.id<nx/\mayD d=true:=by
 have:=(Kt (Ge.1 h).2.2.1).1 d hd;exact⟨this.1,this.2.2⟩
theorem C4{d:Du}(h:mayD d=true):(0<=d.fr/\d.fr<16)/\(0<=d.to/\d.to<16)/\d.fr≠d.to/\(1<=d.am/\d.am<=4503599627370496)/\(1<=d.we/\d.we<=1000)/\0<=d.un:=by
 unfold mayD Db E5 at h;simp only[qae,qam,qbr,qda]at h;exact⟨h.1.1,h.1.2.1,h.1.2.2,⟨h.2.1,h.2.2.1.2⟩,⟨h.2.2.2.1,h.2.2.2.2.1⟩,h.2.2.2.2.2⟩
def XF(ds:List Du):Prop:=∀d∈ds,0<=d.am/\d.am<=4503599627370496
theorem Aga{nx:Int}{ds:List Du}(h:ofC ds nx=0):XF ds:=fun d hd=>by
 have:=(C4 (Af9 h hd).2.2).2.2.2.1;omega
theorem Akd{ds:List Du}{k x:Int}{e:Du}(h:XF ds)(hf:Dn ds k=some e)(h0:0<=x)(h1:x<=e.am):XF (G1 ds k x)/\(G1 ds k x).length<=ds.length:=by
 induction ds with
 |nil=>cases hf
 |cons d ds ih =>
  unfold Dn at hf;rw[qch]at hf;have hd:=h d (qaj ..);unfold G1
  by_cases hk:d.id=k
  .rw[show(d.id == k)=true by simpa using hk]at hf
   injection hf with hf
   subst hf;rw[if_pos hk]
   split
   .exact⟨fun e he=>h e (qai _ he),by simp⟩
   .refine⟨fun e he=>?_,by simp⟩
    rcases qag.1 he with rfl|he
    .exact⟨by show 0<=d.am - x;omega,by show d.am - x<=_;omega⟩
    .exact h e (qai _ he)
  .rw[show(d.id == k)=false by simpa using hk]at hf;obtain⟨i1,i2⟩:=ih (fun e he=>h e (qai _ he)) hf;rw[if_neg hk];refine⟨fun e he=>?_,by simpa using i2⟩
   rcases qag.1 he with rfl|he
   .exact hd
   .exact i1 e he
theorem Za{ds:List Du}{ps:List (Du × Int)}(h:XF ds)(hp:Mn ds ps):∀i,XF (Lu ds (ps.take i))/\(Lu ds (ps.take i)).length<=ds.length
 |0=>⟨h,qan _⟩
 |i+1=>by
  obtain⟨i1,i2⟩:=Za h hp i
  cases hi:ps[i]? with
  |none=>rw[qbt,hi];show XF (Lu ds (ps.take i++[]))/\(Lu ds (ps.take i++[])).length<=_;rw[qa4];exact⟨i1,i2⟩
  |some p =>
   obtain⟨h1,h2⟩:=VI hp hi;rw[h2];obtain⟨h3,h4⟩:=Akd i1 h1.1 h1.2.2.1 h1.2.2.2;exact⟨h3,qbe h4 i2⟩
end Go.Proofs.YtdagmpmdcgedcaaGreat
