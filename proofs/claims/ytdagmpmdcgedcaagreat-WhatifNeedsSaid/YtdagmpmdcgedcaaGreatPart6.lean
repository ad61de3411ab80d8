/- Part 6 of the proof. -/
import Derived.Test.YtdagmpmdcgedcaaGreatPart5
set_option maxRecDepth 20000
set_option maxHeartbeats 8000000
namespace Go.Proofs.YtdagmpmdcgedcaaGreat
open Go.GV Tryz
attribute [local irreducible] AN W Wq Wt
abbrev NBl(od n:Nat)(s:Lb)(bh:Nat)(a:Option Addr)(hn c:Nat)(full:List Value):List (Nat × Obj):=(od,Bl 2 (Ce s.d n))::HB bh a hn c full
def Km(src:List Nat):List Tg:=src.map fun v=>(0,v)
theorem V0{src:List Nat}{i v:Nat}(h:src[i]?=some v)(x:Nat):(lb0 (src.take (i+1))).d x=if x=v then 0 else(lb0 (src.take i)).d x:=by
 unfold lb0;dsimp only;rw[CP h]
 by_cases e:x=v
 .subst e;simp
 .simp[e]
theorem Ae4{w:World}{bf oo od oh ob n:Nat}{bh:Nat}{c:Nat}{src:List Nat}{fr:Option Addr}{fc:Nat}(H0:Ctx w ((NBl od n (lb0 []) bh none 0 c []).map (·.1)) w (NBl od n (lb0 []) bh none 0 c []))(O:OS none 0 c 2 [] (([]:List Tg).flatMap FG))(hf:w.heap[bf]?=some (Bl 294 (FB oo od oh ob n)))(hfn:bf∉(NBl od n (lb0 []) bh none 0 c []).map (·.1))(R:Rd w fr 1 I1 (src.map fun v:Nat=>(v:Int)))(hRn:src≠[]->(adr fr).block∉(NBl od n (lb0 []) bh none 0 c []).map (·.1))(hsrc:∀v∈src,v<n)(hnd:src.Nodup)(_:n<=1000000:=by omega)(hsl:src.length<=1000000:=by omega):
  Ret prog 266 #[ptr bf,ptr bh,.slice fr src.length fc] w fun v w'=>v=.bool (decide (0<src.length))/\∃(a':Option Addr) (c':Nat) (full':List Value) (L':List Tg),L'.Perm (Km src)/\HeapL L'/\OS a' src.length c' 2 full' (L'.flatMap FG)/\Ctx w ((NBl od n (lb0 []) bh none 0 c []).map (·.1)) w' (NBl od n (lb0 src) bh a' src.length c' full'):=by
 obtain⟨w0,rfl⟩:=qD w;obtain⟨ids,hids⟩:=qD ((NBl od n (lb0 []) bh none 0 c []).map (·.1));rw[<-hids]at H0 hfn hRn |-;have H:=H0;refine A2 (fn:=f266) func266 U [.pointer (some ⟨bf,0,none⟩),.pointer (some ⟨bh,0,none⟩),.slice fr src.length fc] U ?_;refine Ad (Ai U (qA (Ap (Ad (Ao U (AU Ct U (Ae U (qA (Ax ?_)))))))));refine Bn 17592186042688 (α:=Option Addr × Nat × List Value × List Tg × Nat) (fun t=>[(11,.int .i64 (t.2.2.2.2:Int))]) (fun t w'=>t.2.2.2.2<=src.length/\t.2.2.2.1.Perm (Km (src.take t.2.2.2.2))/\HeapL t.2.2.2.1/\OS t.1 t.2.2.2.2 t.2.1 2 t.2.2.1 (t.2.2.2.1.flatMap FG)/\Ctx w0 ids w' (NBl od n (lb0 (src.take t.2.2.2.2)) bh t.1 t.2.2.2.2 t.2.1 t.2.2.1)) (fun t=>src.length - t.2.2.2.2) (none,c,[],[],0) U ?_ ?_ ?_
 .exact⟨rfl,trivial⟩
 .exact⟨qaf _,.refl _,fun i x y _ h=>(by cases h),O,H⟩
 .rintro⟨a,c,full,L,i⟩ j w ⟨hi,hp,hH,O,H⟩;dsimp only at hi hp hH O H;dsimp only;refine Ad (AZ U U (qA (Ap (Av _ U ?_ ?_))))
  .intro h1;replace h1:=AJ h1;obtain⟨v,hv⟩:=AB (l:=src) (i:=i);have hvn:=hsrc v (qac hv);have hvm:(src.map fun v:Nat=>(v:Int))[i]?=some (v:Int):=by rw[qa1,hv];rfl
   have hne:src≠[]:=fun h=>by rw[h]at hv;cases hv
   have hnot:v∉src.take i:=fun hm=>by
    obtain⟨k,hk⟩:=qdj hm;rw[qb0]at hk
    split at hk
    .have hkl:=Cb hk;obtain⟨h1,h2⟩:=qbh.1 hk;obtain⟨h3,h4⟩:=qbh.1 hv;have:=(List.getElem_inj hnd).1 (h2.trans h4.symm);omega
    .cases hk
   have hdv:(lb0 (src.take i)).d v = -1:=if_neg hnot;have hlm:(src.map fun v:Nat=>(v:Int)).length=src.length:=by rw[qak]
   have hgd:(tab (lb0 (src.take i)).d n)[v]?=some (-1):=by rw[Cd hvn,hdv]
   refine Aq (Aa (Ap (Ax (Ad (AM R Ct D9 U U (by omega) ?_)))));refine Ba B6 U (((R.ext H.ext (hRn hne)).fld hvm U (j:=0) U)) (Af U (qA (Ap (Ad (Ae U (AZ U U (Au U (AE 17 U ?_ ?_))))))))
   .intro h2;replace h2:=AJ h2;omega
   .intro h2;replace h2:=AK h2;refine Ae U (A9 U (AP U (Ah EP U (Ba Cc U ((by rw[An (H.ext.to hf hfn)];rfl)) ?_))));refine AU AR U (Cq U U (AA U (.bool _) U (qA (Av _ U ?_ ?_))))
    .intro h3;replace h3:=AJ h3;omega
    .intro h3;replace h3:=AK h3;refine Aq (Aa (Ad (A9 U (AP U (Ah EP U (Ba Cc U ((by rw[An (H.ext.to hf hfn)];rfl)) ?_))))));refine Ae U (Bq AR Bt U U ?_);refine Ba Bm U (((CE (H.get at0)).fld hgd U (j:=0) U)) ?_;refine C0 U U (qA (Av _ U ?_ ?_))
     .intro h4;replace h4:=CC h4;refine Ad (A9 U (AP U (Ah EP U (Ba Cc U ((by rw[An (H.ext.to hf hfn)];rfl)) ?_))));refine Ae U (Bq AR Bt U U ?_);refine Cl v (fun q => .int .i64 ((lb0 (src.take (i+1))).d q)) (.int _ _) Bt U U U H at0 (by simp) (by rw[V0 hv,if_pos rfl]) (fun q _ hq=>by rw[V0 hv,if_neg hq]) ?_;rintro w H;refine qA (Ay (A9 U (Ae U ?_)));have Hc:=Ctx.comm (L:=[_]) (L':=HB bh a i c full) H;refine Am qB (YF (Ctx.lend (L1:=HB bh a i c full) (L2:=[_]) Hc) O hH 0 v) U ?_;rintro rv w ⟨rfl,a',c',f',L2,hp2,hH2,O2,H2⟩;replace H:=Ctx.comm (L:=HB bh a' (i+1) c' f') (L':=[_]) (Ctx.back (L1:=HB bh a i c full) (L2:=[_]) Hc H2);refine Ab (A7 (Aa (Ay (Aw U U ?_))));refine Ae U (qA ?_);refine⟨(a',c',f',L2,i+1),rfl,⟨rfl,trivial⟩,⟨by dsimp only;omega,?_,hH2,O2,H⟩,by dsimp only;omega⟩
      dsimp only;unfold Km at hp |-;rw[CP hv,qax];exact hp2.trans ((hp.cons _).trans (qe7 _ _).symm)
     .intro h4;replace h4:=CD h4;omega
  .intro h1;replace h1:=AK h1;refine Be (Aj (Aj (AH (Aa (Ad (Ao U (AU Ct U (Cp U U (Ai U (qA (A6 (AD (v:=(.bool _)) U U U ?_))))))))))));obtain rfl:i=src.length:=by omega
   rw[qbf]at hp H;exact⟨qaa Value.bool (by rw[qad];simp),a,c,full,L,hp,hH,O,H⟩
def Nk(g:Gr)(p:Nat->Int)(s:Lb)(a:Nat):Prop:=s.d (g.u a) ≠ -1/\s.h (g.v a)≠0/\s.d (g.u a)+g.len p a=s.d (g.v a)/\s.h (g.u a)+1=s.h (g.v a)
structure BI(g:Gr)(p:Nat->Int)(s:Lb)(all done:Nat->Prop)(by':Nat->Int):Prop where
 val:∀v,by' v = -1\/∃a:Nat,by' v=(a:Int)/\all a/\Nk g p s a/\g.v a=v
 in':∀a,done a->Nk g p s a->by' (g.v a) ≠ -1
theorem BI.skip{g:Gr}{p:Nat->Int}{s:Lb}{all done:Nat->Prop}{by':Nat->Int}(B:BI g p s all done by'){a:Nat}(h:¬Nk g p s a\/by' (g.v a) ≠ -1):BI g p s all (fun x=>x=a\/done x) by' :=
 ⟨B.val,fun x hx hg=>by
  rcases hx with rfl|hx
  .exact h.resolve_left fun h=>h hg
  .exact B.in' x hx hg⟩
theorem BI.put{g:Gr}{p:Nat->Int}{s:Lb}{all done:Nat->Prop}{by':Nat->Int}(B:BI g p s all done by'){a:Nat}(ha:all a)(hg:Nk g p s a):BI g p s all (fun x=>x=a\/done x) (upd by' (g.v a) (a:Int)):=by
 refine⟨fun v=>?_,fun x hx hgx=>?_⟩
 .by_cases e:v=g.v a
  .subst e;exact .inr ⟨a,D0 _ _ _,ha,hg,rfl⟩
  .rw[EM e];exact B.val v
 .by_cases e:g.v x=g.v a
  .rw[e,D0];omega
  .rw[EM e]
   rcases hx with rfl|hx
   .exact absurd U e
   .exact B.in' x hx hgx
theorem BI.congr{g:Gr}{p:Nat->Int}{s:Lb}{all done done':Nat->Prop}{by':Nat->Int}(B:BI g p s all done by')(h:∀x,done' x->done x):BI g p s all done' by':=⟨B.val,fun a ha=>B.in' a (h a ha)⟩
theorem Ae5{w:World}{bf oo od oh ob n:Nat}{s:Lb}{g:Gr}{p:Nat->Int}{outs:List Value}{outL:Nat->List Nat}(hb:w.heap[ob]?=some (Bl 3 (Ce (fun _ => -1) n)))(hf:w.heap[bf]?=some (Bl 294 (FB oo od oh ob n)))(hd:w.heap[od]?=some (Bl 2 (Ce s.d n)))(hh:w.heap[oh]?=some (Bl 3 (Ce (RV s) n)))(ho:w.heap[oo]?=some (Bl 300 outs))(nf:bf≠ob)(nd:od≠ob)(nh:oh≠ob)(no:oo≠ob)(hsd:∀v,-1<=s.d v/\s.d v<=1152921504606846976/\s.h v<=1000000)(hout:∀u,u<n->∃au cu,outs[u]?=some (.slice au (outL u).length cu)/\Rd w au 4 (HW g p) (outL u)/\(outL u≠[]->(adr au).block≠ob)/\(outL u).length<=1000000/\∀x∈outL u,g.u x=u/\g.v x<n /\ -1152921504606846976<=g.len p x/\g.len p x<=1152921504606846976/\x<=1000000)(hn6:n<=1000000:=by omega):
  Ret prog 270 #[ptr bf] w fun v w'=>v=.tuple #[]/\∃by':Nat->Int,BI g p s (fun a=>a∈outL (g.u a)) (fun a=>g.u a<n/\a∈outL (g.u a)) by'/\Ctx w [ob] w' [(ob,Bl 3 (Ce by' n))]:=by
 obtain⟨w0,rfl⟩:=qD w;have H:=Ctx.start1 hb;have nf':bf∉[ob]:=by rw[qab];exact nf
 have nd':od∉[ob]:=by rw[qab];exact nd
 have nh':oh∉[ob]:=by rw[qab];exact nh
 have no':oo∉[ob]:=by rw[qab];exact no
 refine A2 (fn:=f270) func270 U [.pointer (some ⟨bf,0,none⟩)] U ?_;refine Ad (A9 U (AP U (Ah MZ U (Ba Ub U ((by rw[An hf];rfl)) ?_))));refine AU NS U (Ae U (qA (Ax (Bn 649037107316853453566312041148524 (α:=Nat × (Nat->Int)) (fun t=>[(12,.int .i64 (t.1:Int))]) (fun t w'=>t.1<=n/\BI g p s (fun a=>a∈outL (g.u a)) (fun a=>g.u a<t.1/\a∈outL (g.u a)) t.2/\Ctx w0 [ob] w' [(ob,Bl 3 (Ce t.2 n))]) (fun t=>n - t.1) (0,fun _ => -1) U ?_ ?_ ?_))))
 .exact⟨rfl,trivial⟩
 .exact⟨qaf _,⟨fun v => .inl rfl,fun a h=>absurd h.1 (qaw _)⟩,H⟩
 .rintro⟨u,by'⟩ j w ⟨hi,B,H⟩;dsimp only at hi B H;dsimp only;refine Ad (AZ U U (qA (Ap (Av _ U ?_ ?_))))
  .intro h1;replace h1:=AJ h1;obtain⟨au,cu,hou,R,hRn,hul,hx7⟩:=hout u (by omega);refine Aq (Aa (Ap (Ax (Ad (Ae U (Bq NS NU U U ?_))))));refine Ba Xb U ((by rw[An (H.ext.to ho no')];simpa using hou)) ?_;refine Af U (Az U (qA (Ad (Ao U (AU M1 U (Ae U (qA (Ax ?_))))))));obtain⟨La,hLa⟩:=qD (outL u);rw[<-hLa]at R hRn hul hx7 |-;refine Bn 324518553658426726783156020052064 (α:=Nat × (Nat->Int)) (fun t=>[(19,.int .i64 (t.1:Int))]) (fun t w'=>t.1<=La.length/\BI g p s (fun a=>a∈outL (g.u a)) (fun a=>(g.u a<u/\a∈outL (g.u a))\/a∈La.take t.1) t.2/\Ctx w0 [ob] w' [(ob,Bl 3 (Ce t.2 n))]) (fun t=>La.length - t.1) (0,by') U ?_ ?_ ?_
   .exact⟨rfl,trivial⟩
   .exact⟨qaf _,B.congr (fun x hx=>hx.elim id fun h=>by simp at h),H⟩
   .rintro⟨i,by'⟩ j2 w ⟨hi2,B,H⟩;dsimp only at hi2 B H;dsimp only;refine Ad (AZ U U (qA (Ap (Av _ U ?_ ?_))))
    .intro h2;replace h2:=AJ h2;obtain⟨x,hxa⟩:=AB (l:=La) (i:=i);obtain⟨hxu,hxv,hl1,hl2,hx6⟩:=hx7 x (qac hxa);obtain⟨v,hv⟩:=qD (g.v x);obtain⟨ln,hln⟩:=qD (g.len p x);have hrow:HW g p x=[.int .i64 (x:Int),.int .i64 (u:Int),.int .i64 (v:Int),.int .i64 ln]:=by unfold HW;rw[hxu,hv,hln]
     rw[<-hv]at hxv;rw[<-hln]at hl1 hl2;have hne:La≠[]:=fun h=>by rw[h]at hxa;cases hxa
     have hau:(adr au).block∉[ob]:=by rw[qab];exact hRn hne
     have hun:u<n:=by omega
     obtain⟨du,hdu⟩:=qD (s.d u);obtain⟨hu,hhu⟩:=qD (s.h u);obtain⟨dv,hdv⟩:=qD (s.d v);obtain⟨hw,hhw⟩:=qD (s.h v);have hgdu:(tab s.d n)[u]?=some du:=by rw[Cd hun,hdu]
     have hghu:(tab (RV s) n)[u]?=some (hu:Int):=by rw[Cd hun,hhu];rfl
     have hgdv:(tab s.d n)[v]?=some dv:=by rw[Cd hxv,hdv]
     have hghv:(tab (RV s) n)[v]?=some (hw:Int):=by rw[Cd hxv,hhw];rfl
     have hbu:=hsd u;rw[<-hdu,<-hhu]at hbu
     have hgo:Nk g p s x↔(du ≠ -1/\hw≠0/\du+ln=dv/\hu+1=hw):=by
      unfold Nk;rw[hxu,<-hv,<-hln,<-hdu,<-hhu,<-hdv,<-hhw]
     have hall:x∈outL (g.u x):=by rw[hxu,<-hLa];exact qac hxa
     have hsub:∀y,((g.u y<u/\y∈outL (g.u y))\/y∈La.take (i+1))->y=x\/((g.u y<u/\y∈outL (g.u y))\/y∈La.take i):=fun y hy=>by
      rcases hy with hy|hy
      .exact .inr (.inl hy)
      .rw[CP hxa]at hy
       rcases qbg.1 hy with hy|hy
       .exact .inr (.inr hy)
       .exact .inl (qab.1 hy)
     have RD:=CE hd;have RH:=CE hh;refine Aq (Aa (Ap (Ax (Ad (AM R M1 IB U U (by rfl) ?_)))));refine Ca _ Xa IB U U (Rd.rowE (R.ext H.ext hau) hxa hrow U) (AX Lh H ?_);rintro b5 w - H;refine Bi IB U U U (by simp[AS]) H at0 U ?_;rintro w H;refine qA (Ap (Eo 4835703278458516690436096 (α:=Unit) (fun _=>[(81,.bool (!decide (du ≠ -1/\hw≠0/\du+ln=dv/\hu+1=hw)))]) (fun _ w'=>Ctx w0 [ob] w' [(b5,Bl 299 [.int .i64 (x:Int),.int .i64 (u:Int),.int .i64 (v:Int),.int .i64 ln]),(ob,Bl 3 (Ce by' n))]) U ?_ ?_))
     .skip
      refine TV (fun x=>x=_) Bs U ?_;refine BO U (Bh U (A3 EP U (BF Cc U (by rintro _ rfl;exact((by rw[An (H.drew.ext.to hf nf')];rfl))) ?_)));refine AY U (Bd AR Bt U U ?_);refine BF Bm U (by rintro _ rfl;exact(((RD.ext H.drew.ext nd').fld hgdu rfl (j:=0) rfl))) ?_;refine UW U U U (Co U (DE 31 U ?_ ?_))
      .intro h1;replace h1:=AJ h1;refine A4 U (A4 U (A4 U (A4 U (A4 U (A4 U (A4 U (A4 U (A4 U (Gb U (.bool _) U ?_)))))))));refine Co U (A4 U (A4 U (A4 U (A4 U (A4 U (A4 U (A4 U (A4 U (A4 U ?_)))))))));refine A4 U (A4 U (A4 U (A4 U (A4 U (A4 U (A4 U (A4 U (A4 U (A4 U ?_)))))))));refine Gb U (.bool _) U (Co U (A4 U (A4 U (A4 U (A4 U (A4 U (A4 U (A4 U (A4 U ?_)))))))));refine A4 U (A4 U (A4 U (A4 U (A4 U (A4 U (A4 U (A4 U (A4 U (Gb U (.bool _) U ?_)))))))));refine BM ?_;rintro _ rfl;replace H:=H.drew;refine Aa ?_;exact⟨(),rfl,⟨qaa Value.bool (by clear hgdu hghu hgdv hghv hgo hdu hhu hdv hhw;rw[qad];simp_all;try omega),trivial⟩,H⟩
      .intro h2;replace h2:=AK h2;refine BO U (Bh U (A3 IA U (BF GK U (by rintro _ rfl;exact((by rw[An (H.drew.ext.to hf nf')];rfl))) ?_)));refine A3 Gp U (BS B6 U (by rintro _ rfl;exact H.drew) at0 U ?_);refine Bd Ct D9 U U ?_;refine BF B6 U (by rintro _ rfl;exact(((RH.ext H.drew.ext nh').fld hghv rfl (j:=0) rfl))) ?_;refine UW U U U (D6 U (.bool _) U (Co U (DE 42 U ?_ ?_)))
       .intro h3;replace h3:=AJ h3;refine A4 U (A4 U (A4 U (A4 U (A4 U (A4 U (A4 U (A4 U (A4 U (A4 U ?_)))))))));refine A4 U (A4 U (A4 U (A4 U (A4 U (A4 U (A4 U (A4 U (A4 U (Gb U (.bool _) U ?_)))))))));refine Co U (A4 U (A4 U (A4 U (A4 U (A4 U (A4 U (A4 U (A4 U (A4 U ?_)))))))));refine A4 U (A4 U (A4 U (A4 U (A4 U (A4 U (A4 U (A4 U (Gb U (.bool _) U (BM ?_)))))))));rintro _ rfl;replace H:=H.drew;refine Aa ?_;exact⟨(),rfl,⟨qaa Value.bool (by clear hgdu hghu hgdv hghv hgo hdu hhu hdv hhw;rw[qad];simp_all;try omega),trivial⟩,H⟩
       .intro h4;replace h4:=AK h4;refine BO U (Bh U (A3 EP U (BF Cc U (by rintro _ rfl;exact((by rw[An (H.drew.ext.to hf nf')];rfl))) ?_)));refine AY U (Bd AR Bt U U ?_);refine BF Bm U (by rintro _ rfl;exact(((RD.ext H.drew.ext nd').fld hgdu rfl (j:=0) rfl))) ?_;refine A3 Qv U (BS Bm U (by rintro _ rfl;exact H.drew) at0 U ?_);refine CX U U ?_;refine BO U (Bh U (A3 EP U (BF Cc U (by rintro _ rfl;exact((by rw[An (H.drew.ext.to hf nf')];rfl))) ?_)));refine A3 Gp U (BS B6 U (by rintro _ rfl;exact H.drew) at0 U ?_);refine Bd AR Bt U U ?_;refine BF Bm U (by rintro _ rfl;exact(((RD.ext H.drew.ext nd').fld hgdv rfl (j:=0) rfl))) ?_;refine Gi U U (D6 U (.bool _) U (Co U (DE 63 U ?_ ?_)))
        .intro h5;replace h5:=CC h5;refine A4 U (A4 U (A4 U (A4 U (A4 U (A4 U (A4 U (A4 U (A4 U (A4 U ?_)))))))));refine A4 U (A4 U (A4 U (A4 U (A4 U (A4 U (A4 U (Gb U (.bool _) U (BM ?_))))))));rintro _ rfl;replace H:=H.drew;refine Aa ?_;exact⟨(),rfl,⟨qaa Value.bool (by clear hgdu hghu hgdv hghv hgo hdu hhu hdv hhw;rw[qad];simp_all;try omega),trivial⟩,H⟩
        .intro h6;replace h6:=CD h6;refine BO U (Bh U (A3 IA U (BF GK U (by rintro _ rfl;exact((by rw[An (H.drew.ext.to hf nf')];rfl))) ?_)));refine AY U (Bd Ct D9 U U ?_);refine BF B6 U (by rintro _ rfl;exact(((RH.ext H.drew.ext nh').fld hghu rfl (j:=0) rfl))) ?_;refine CX U U ?_;refine BO U (Bh U (A3 IA U (BF GK U (by rintro _ rfl;exact((by rw[An (H.drew.ext.to hf nf')];rfl))) ?_)));refine A3 Gp U (BS B6 U (by rintro _ rfl;exact H.drew) at0 U ?_);refine Bd Ct D9 U U ?_;refine BF B6 U (by rintro _ rfl;exact(((RH.ext H.drew.ext nh').fld hghv rfl (j:=0) rfl))) ?_;refine Gi U U (D6 U (.bool _) U (BM ?_));rintro _ rfl;replace H:=H.drew;refine Aa ?_
         exact⟨(),rfl,⟨qaa Value.bool (by clear hgdu hghu hgdv hghv hgo hdu hhu hdv hhw;rw[qad];simp_all;try omega),trivial⟩,H⟩
     .rintro - j6 w H;refine Av _ U ?_ ?_
      .intro h3;have hng:¬Nk g p s x:=by rw[hgo];exact qbk (by simpa only[qbr]using h3)
       refine Be (Aj (AH (Aa (Ay (Aw U U ?_)))));refine Ae U (qA ?_);exact⟨(i+1,by'),rfl,⟨rfl,trivial⟩,⟨by dsimp only;omega,(B.skip (.inl hng)).congr hsub,H.tail⟩,by dsimp only;omega⟩
      .intro h3;have hg:Nk g p s x:=by rw[hgo];simpa using h3
       have hgb:(tab by' n)[v]?=some (by' v):=Cd hxv;have hnot:by' v ≠ -1->BI g p s (fun a=>a∈outL (g.u a)) (fun a=>(g.u a<u/\a∈outL (g.u a))\/a∈La.take (i+1)) by':=fun h=>(B.skip (.inr (hv ▸ h))).congr hsub
       refine Aq (Aa (CN (fun x=>x=_) Bs U ?_));refine BO U (Bh U (A3 Lf U (BF GK U (by rintro _ rfl;exact((by rw[An (H.drew.ext.to hf nf')];rfl))) ?_)));refine A3 Gp U (BS B6 U (by rintro _ rfl;exact H.drew) at0 U ?_);refine Bd Ct D9 U U ?_;refine BF B6 U (by rintro _ rfl;exact(((CE (H.drew.get at1)).fld hgb rfl (j:=0) rfl))) ?_;refine C6 U (BM ?_);rintro _ rfl;replace H:=H.drew;refine Ad (Ae U (Cj U U (Au U (AE 92 U ?_ ?_))))
       .intro h4;replace h4:=AJ h4;refine Ag U (Ag U (Ag U (Ag U (A8 U (.bool _) U (qA (D4 U (ET [([0,1,2,3,4,5,6,7,8],9)] (fun z=>z.heap[bf]?=some (Bl 294 (FB oo od oh ob n))/\z.heap[b5]?=some (Bl 299 [.int .i64 (x:Int),.int .i64 (u:Int),.int .i64 (v:Int),.int .i64 ln])) [9] Bs (⟨H.drew.ext.to hf nf',H.drew.get at0⟩) ?_)))))));refine AO U U (BZ U (Bp U (A1 Lf U (B5 GK U (fun _ hx=>(by rw[An hx.1];rfl)) ?_))));refine A1 Gp U (B5 B6 U (fun _ hx=>(by rw[An hx.2];rfl)) ?_);refine A1 Qu U (B5 B6 U (fun _ hx=>(by rw[An hx.2];rfl)) ?_);refine AV Ct D9 U U (Bb ?_);replace H:=H.drew;refine Cl v (fun q => .int .i64 (upd by' v (x:Int) q)) (.int _ _) D9 U U U H at1 (by simp) (by rw[D0]) (fun q _ hq=>by rw[EM hq]) ?_;rintro w H
        refine Ab (BH U (BK (A7 (Aa (Ay (Aw U U ?_))))));refine Ae U (qA ?_);exact⟨(i+1,upd by' v (x:Int)),rfl,⟨rfl,trivial⟩,⟨by dsimp only;omega,(hv ▸ B.put hall hg).congr hsub,H.tail⟩,by dsimp only;omega⟩
       .intro h4;replace h4:=AK h4;refine Ah Qu U (AG B6 U H at0 U (Ae U (AZ U U (AA U (.bool _) U (qA (Av _ U ?_ ?_))))))
        .intro h5;replace h5:=AJ h5;refine ET [([0,1,2,3,4,5,6,7,8],9)] (fun z=>z.heap[bf]?=some (Bl 294 (FB oo od oh ob n))/\z.heap[b5]?=some (Bl 299 [.int .i64 (x:Int),.int .i64 (u:Int),.int .i64 (v:Int),.int .i64 ln])) [9] Bs (⟨H.drew.ext.to hf nf',H.drew.get at0⟩) ?_;refine AO U U (BZ U (Bp U (A1 Lf U (B5 GK U (fun _ hx=>(by rw[An hx.1];rfl)) ?_))));refine A1 Gp U (B5 B6 U (fun _ hx=>(by rw[An hx.2];rfl)) ?_);refine A1 Qu U (B5 B6 U (fun _ hx=>(by rw[An hx.2];rfl)) ?_);refine AV Ct D9 U U (Bb ?_);replace H:=H.drew;refine Cl v (fun q => .int .i64 (upd by' v (x:Int) q)) (.int _ _) D9 U U U H at1 (by simp) (by rw[D0]) (fun q _ hq=>by rw[EM hq]) ?_;rintro w H;refine Ab (BH U (BK (A7 (Aa (Ay (Aw U U ?_))))));refine Ae U (qA ?_)
         exact⟨(i+1,upd by' v (x:Int)),rfl,⟨rfl,trivial⟩,⟨by dsimp only;omega,(hv ▸ B.put hall hg).congr hsub,H.tail⟩,by dsimp only;omega⟩
        .intro h5;replace h5:=AK h5;refine Aq (A7 (Aa (Ay (Aw U U ?_))));refine Ae U (qA ?_);exact⟨(i+1,by'),rfl,⟨rfl,trivial⟩,⟨by dsimp only;omega,hnot h4,H.tail⟩,by dsimp only;omega⟩
    .intro h2;replace h2:=AK h2;refine Be (Aj (Aj (AH (A7 (Aa (Ay (Aw U U ?_)))))));refine Ae U (qA ?_);have hiL:i=La.length:=by omega
     refine⟨(u+1,by'),rfl,⟨rfl,trivial⟩,⟨by dsimp only;omega,B.congr fun y hy=>?_,H⟩,by dsimp only;omega⟩;rw[hiL,qbf]
     rcases qap (g.u y) u with h7|h7
     .exact .inl ⟨h7,hy.2⟩
     .have hyu:g.u y=u:=by have:=hy.1;dsimp only at this;omega
      exact .inr (by rw[hLa,<-hyu];exact hy.2)
  .intro h1;replace h1:=AK h1;refine Be (Aj (Aj (AH (Dd U U ?_))));obtain rfl:u=n:=by omega
   exact⟨rfl,by',B,H⟩
structure Slo where
 a:Option Addr
 n:Nat
 c:Nat
 full:List Value
def sloV(s:Slo):Value := .slice s.a s.n s.c
abbrev M9(s:Slo):List (Nat × Obj):=ent s.a 299 s.full
abbrev Aab(nn:Nat)(st:Nat->Slo):List Value:=(List.range nn).map fun u=>sloV (st u)
structure OutR(w0 w:World)(oo nn:Nat)(g:Gr)(p:Nat->Int)(st:Nat->Slo)(sel:Nat->List Nat)(oth:Nat->Prop):Prop where
 tbl:w.heap[oo]?=some (Bl 300 (Aab nn st))
 os:∀u,u<nn->OS (st u).a (st u).n (st u).c 4 (st u).full ((sel u).flatMap (HW g p))
 blk:∀u,u<nn->∀y∈M9 (st u),w.heap[y.1]?=some y.2/\w0.heap.size<=y.1/\¬oth y.1/\y.1≠oo
 ne:∀u v,u<nn->v<nn->u≠v->∀y∈M9 (st u),∀z∈M9 (st v),y.1≠z.1
def QC(oo nn:Nat)(st:Nat->Slo):Mt:=fun x=>x=oo\/∃u,u<nn/\∃y∈M9 (st u),y.1=x
theorem OutR.keep{w0 w w':World}{oo nn:Nat}{g:Gr}{p:Nat->Int}{st:Nat->Slo}{sel:Nat->List Nat}{oth:Nat->Prop}(R:OutR w0 w oo nn g p st sel oth){S:List Nat}(h:Ext S w w')(hS:∀x∈S,¬QC oo nn st x):OutR w0 w' oo nn g p st sel oth :=
 ⟨h.to R.tbl fun hm=>hS _ hm (.inl rfl),R.os,fun u hu y hy=>⟨h.to (R.blk u hu y hy).1 fun hm=>hS _ hm (.inr ⟨u,hu,y,hy,rfl⟩),(R.blk u hu y hy).2⟩,R.ne⟩
def stS(st:Nat->Slo)(u:Nat)(s:Slo):Nat->Slo:=fun q=>if q=u then s else st q
theorem IG(st:Nat->Slo)(u:Nat)(s:Slo):stS st u s u=s:=if_pos rfl
theorem Lq{st:Nat->Slo}{u:Nat}{s:Slo}{q:Nat}(h:q≠u):stS st u s q=st q:=if_neg h
theorem OutR.step{w0 w w':World}{oo nn:Nat}{g:Gr}{p:Nat->Int}{st:Nat->Slo}{sel sel':Nat->List Nat}{oth:Nat->Prop}(R:OutR w0 w oo nn g p st sel oth){u:Nat}(hu:u<nn){s:Slo}(hoth:∀x,oth x->x<w.heap.size)(h0:w0.heap.size<=w.heap.size)(H:Ctx w ((oo::(M9 (st u)).map (·.1))) w' ((oo,Bl 300 (Aab nn (stS st u s)))::M9 s))(O:OS s.a s.n s.c 4 s.full ((sel' u).flatMap (HW g p)))(hsel:∀q,q≠u->sel' q=sel q) :
  OutR w0 w' oo nn g p (stS st u s) sel' oth/\∀x,QC oo nn (stS st u s) x->QC oo nn st x\/w.heap.size<=x:=by
 have hlt:∀q,q<nn->∀y∈M9 (st q),y.1<w.heap.size:=fun q hq y hy=>Bf (R.blk q hq y hy).1;have hoo:=Bf R.tbl;have hnd:=(qbb.1 H.nd).1
 have hnew:∀y∈M9 s,(∃z∈M9 (st u),z.1=y.1)\/w.heap.size<=y.1:=fun y hy=>by
  rcases H.own y (qai _ hy)with h|h
  .rcases qag.1 h with h|h
   .exact absurd h.symm (hnd y hy)
   .obtain⟨z,hz,he⟩:=qah.1 h;exact .inl ⟨z,hz,he⟩
  .exact .inr h
 have hout:∀q,q<nn->q≠u->∀y∈M9 (st q),y.1∉oo::(M9 (st u)).map (·.1):=fun q hq hqu y hy hm=>by
  rcases qag.1 hm with h|h
  .exact(R.blk q hq y hy).2.2.2 h
  .obtain⟨z,hz,he⟩:=qah.1 h;exact R.ne q u hq hu hqu y hy z hz he.symm
 refine⟨⟨H.get at0,fun q hq=>?_,fun q hq y hy=>?_,fun q v hq hv hqv y hy z hz=>?_⟩,fun x hx=>?_⟩
 .by_cases e:q=u
  .subst e;rw[IG];exact O
  .rw[Lq e,hsel q e];exact R.os q hq
 .by_cases e:q=u
  .subst e;rw[IG]at hy;refine⟨H.blk y (qai _ hy),?_,?_,fun h=>hnd y hy h.symm⟩
   .rcases hnew y hy with⟨z,hz,he⟩|h
    .rw[<-he];exact(R.blk q hq z hz).2.1
    .omega
   .rcases hnew y hy with⟨z,hz,he⟩|h
    .rw[<-he];exact(R.blk q hq z hz).2.2.1
    .exact fun ho=>by have:=hoth _ ho;omega
  .rw[Lq e]at hy;obtain⟨h1,h2,h3,h4⟩:=R.blk q hq y hy;exact⟨H.ext.to h1 (hout q hq e y hy),h2,h3,h4⟩
 .by_cases e:q=u
  .subst e;rw[IG]at hy;rw[Lq (Ne.symm hqv)]at hz
   rcases hnew y hy with⟨t,ht,he⟩|h
   .rw[<-he];exact R.ne q v hq hv hqv t ht z hz
   .have:=hlt v hv z hz;omega
  .rw[Lq e]at hy
   by_cases e2:v=u
   .subst e2;rw[IG]at hz
    rcases hnew z hz with⟨t,ht,he⟩|h
    .rw[<-he];exact R.ne q v hq hv hqv y hy t ht
    .have:=hlt q hq y hy;omega
   .rw[Lq e2]at hz;exact R.ne q v hq hv hqv y hy z hz
 .rcases hx with h|⟨q,hq,y,hy,rfl⟩
  .exact .inl (.inl h)
  .by_cases e:q=u
   .subst e;rw[IG]at hy
    rcases hnew y hy with⟨t,ht,he⟩|h
    .exact .inl (.inr ⟨q,hq,t,ht,he⟩)
    .exact .inr h
   .rw[Lq e]at hy;exact .inl (.inr ⟨q,hq,y,hy,rfl⟩)
theorem OutR.ctx{w0 w:World}{oo nn:Nat}{g:Gr}{p:Nat->Int}{st:Nat->Slo}{sel:Nat->List Nat}{oth:Nat->Prop}(R:OutR w0 w oo nn g p st sel oth){u:Nat}(hu:u<nn):Ctx w (oo::(M9 (st u)).map (·.1)) w ((oo,Bl 300 (Aab nn st))::M9 (st u)):=by
 refine⟨.refl _ _,fun x hx=>?_,qbb.2 ⟨fun y hy h=>(R.blk u hu y hy).2.2.2 h.symm,FM⟩,fun x hx => .inl ?_⟩
 .rcases qag.1 hx with rfl|hx
  .exact R.tbl
  .exact(R.blk u hu x hx).1
 .rcases qag.1 hx with rfl|hx
  .exact qaj ..
  .exact qai _ (qah.2 ⟨x,hx,rfl⟩)
def JK(g:Gr)(l:List Nat)(u:Nat):List Nat:=l.filter fun a=>decide (g.u a=u)
theorem Aac{g:Gr}{l:List Nat}{i a:Nat}(h:l[i]?=some a):JK g (l.take (i+1)) (g.u a)=JK g (l.take i) (g.u a)++[a]/\∀q,q≠g.u a->JK g (l.take (i+1)) q=JK g (l.take i) q:=by
 unfold JK;rw[CP h];refine⟨by rw[qco];congr 1;rw[qbw,qal rfl];rfl,fun q hq=>?_⟩;rw[qco,qbw,qay (Ne.symm hq)];simp
theorem Ap9{g:Gr}{cap x p:Nat->Int}{src:List Nat}{n:Nat}{m:Int}{s:Lb}{by':Nat->Int}{all done:Nat->Prop}(D:Done (Pi g cap x p) src n m s)(hA:Us (Pi g cap x p) n m)(B:BI g p s all done by')(hall:∀a,all a->a<2*g.E/\0<Da cap x a)(hdone:∀a,a<2*g.E->0<Da cap x a->done a) :
  Bys g cap x p s fun v=>if by' v = -1 then none else some (by' v).toNat:=by
 have hmem:∀a,a<2*g.E->0<Da cap x a->(g.u a,g.v a,g.len p a)∈Pi g cap x p:=fun a h1 h2=>Lk.2 ⟨a,h1,h2,rfl⟩;refine⟨fun v hv=>?_,fun v hd hh=>?_⟩
 .dsimp only
  by_cases e:by' v = -1
  .rw[if_pos e]
  .exfalso
   rcases B.val v with h|⟨a,_,ha,⟨h1,h2,h3,h4⟩,hva⟩
   .exact e h
   .obtain⟨ha1,ha2⟩:=hall a ha;have hl:=(hA _ (hmem a ha1 ha2)).2.2.1;dsimp only at hl;rw[hva]at h2 h3
    rcases hv with hv|hv
    .have:=D.J.low (g.u a);omega
    .exact h2 hv
 .obtain⟨b,hb,hbv,hb1,hb2,hb3⟩:=D.pre v hd hh;obtain⟨a,ha1,ha2,rfl⟩:=Lk.1 hb;dsimp only at hbv hb1 hb2 hb3;have hg:Nk g p s a:=⟨hb1,by rw[hbv];exact hh,by rw[hbv];exact hb2,by rw[hbv];exact hb3⟩;have hne:=B.in' a (hdone a ha1 ha2) hg;rw[hbv]at hne
  rcases B.val v with h|⟨a',hby,ha',⟨h1,h2,h3,h4⟩,hva⟩
  .exact absurd h hne
  .obtain⟨q1,q2⟩:=hall a' ha';refine⟨a',by dsimp only;rw[if_neg hne,hby];rfl,⟨q1,q2,h1,by rw[hva];exact hd,h3,h4⟩,hva⟩
theorem Aad{n:Nat}{A:List Ar}{src:List Nat}{d:Int}(hA:∀v,v<n->JJ A v<=d)(_:0<=d:=by omega):psi n A (-1) (lb0 src) (Km src)<=src.length+n*(d*(n+1)):=by
 have hg:∀v,gv n (-1) (lb0 src) (Km src) v=(n:Int)+1:=fun v=>by
  unfold gv;rw[if_neg];rintro⟨h1,h2⟩;unfold lb0 at h1 h2;dsimp only at h1 h2
  split at h1 <;> split at h2 <;> omega
 have h1:=Li (f:=fun v=>JJ A v*gv n (-1) (lb0 src) (Km src) v) (g:=fun _=>d*((n:Int)+1)) (k:=n) fun i hi=>by
  rw[hg];exact qey (hA i hi) (by omega)
 have h2:∀(c:Int) (k:Nat),BQ (fun _=>c) k=k*c:=fun c k=>by
  induction k with
  |zero=>show(0:Int)=((0:Nat):Int)*c;rw[show((0:Nat):Int)=0 from rfl,Int.zero_mul]
  |succ k ih =>
   show BQ (fun _=>c) k+c=_;rw[ih,qc5,Int.add_mul];simp
 rw[h2]at h1;unfold psi Km;rw[qak];have h3:BQ (fun v=>JJ A v*gv n (-1) (lb0 src) (List.map (fun v=>((0:Int),v)) src) v) n<=(n:Int)*(d*((n:Int)+1)):=h1;omega
theorem YI{A:List Ar}{src:List Nat}{n:Nat}{m D:Int}{u:Nat}(hA:Us A n m)(hm:0<=m)(hn:n<=60)(hD:0<=D):∀(l dn:List Ar) (s:Lb) (hp:List Tg),DJ A src n m s->Clo A s hp u dn->(∀a∈l,a∈A/\a.1=u)->s.d u=D->PI n D s hp ->
  DJ A src n m (l.foldl Kl (s,hp)).1/\Clo A (l.foldl Kl (s,hp)).1 (l.foldl Kl (s,hp)).2 u (dn++l)/\(l.foldl Kl (s,hp)).1.d u=D/\PI n D (l.foldl Kl (s,hp)).1 (l.foldl Kl (s,hp)).2/\psi n A D (l.foldl Kl (s,hp)).1 (l.foldl Kl (s,hp)).2<=psi n A D s hp+l.length
 | [],dn,s,hp,J,K,_,hu,P=>⟨J,by simpa using K,hu,P,by simp⟩
 |a::l,dn,s,hp,J,K,hl,hu,P=>by
  obtain⟨ha,hau⟩:=hl a (qaj ..);obtain⟨J1,K1,h1,h2,-⟩:=DJ.relax hA hm hn J K ha hau (by rw[hu];omega);obtain⟨P1,h3⟩:=P.relax (A:=A) (a:=a) (by rw[hau];exact hu) hD (hA a ha).2.2.1 J.low fun h=>J1.hops h;obtain⟨r1,r2,r3,r4,r5⟩:=YI hA hm hn hD l (dn++[a]) (HU s a) (Jv s a hp) J1 K1 (fun b hb=>hl b (qai _ hb)) (by rw[h1];exact hu) P1;rw[qa9]at r2;refine⟨r1,r2,r3,r4,?_⟩;rw[qa6,qdz];have h4:Kl (s,hp) a=(HU s a,Jv s a hp):=rfl;rw[h4];omega
structure MI(A:List Ar)(src:List Nat)(n:Nat)(m D:Int)(s:Lb)(hp:List Tg):Prop where
 dj:DJ A src n m s
 clo:Clo A s hp 0 A
 pi:PI n D s hp
theorem Clo.any{A:List Ar}{s:Lb}{hp:List Tg}{u:Nat}(K:Clo A s hp u A)(v:Nat):Clo A s hp v A:=fun x hx=>(K x hx).imp id fun h a ha hax _=>h a ha hax fun _=>ha
theorem Clo.perm{A:List Ar}{s:Lb}{hp hq:List Tg}{u:Nat}{dn:List Ar}(K:Clo A s hp u dn)(h:hp.Perm hq):Clo A s hq u dn:=fun x hx=>(K x hx).imp (fun h'=>h.mem_iff.1 h') id
theorem MI.perm{A:List Ar}{src:List Nat}{n:Nat}{m D:Int}{s:Lb}{hp hq:List Tg}(M:MI A src n m D s hp)(h:hp.Perm hq):MI A src n m D s hq:=⟨M.dj,M.clo.perm h,M.pi.perm h⟩
theorem MI.start{A:List Ar}{src:List Nat}{n:Nat}{m:Int}(hs:∀v∈src,v<n)(hnd:src.Nodup):MI A src n m (-1) (lb0 src) (Km src):=by
 refine⟨DJ.start hs,fun v hv=>?_,fun t ht=>?_,fun t ht=>?_,fun v hv=>?_⟩
 .have hm:v∈src:=by
   rcases Decidable.em (v∈src)with h|h
   .exact h
   .exact absurd (if_neg h) hv
  have:(lb0 src).d v=0:=if_pos hm;rw[this];exact .inl (qah.2 ⟨v,hm,rfl⟩)
 .obtain⟨v,_,rfl⟩:=qah.1 ht;show(-1:Int)<=0;omega
 .obtain⟨v,hv,rfl⟩:=qah.1 ht;have:(lb0 src).d v=0:=if_pos hv;dsimp only;rw[this];omega
 .have hm:v∈src:=by
   rcases Decidable.em (v∈src)with h|h
   .exact h
   .exact absurd (if_neg h) hv
  have h1:(Km src).Nodup:=List.Pairwise.map _ (fun a b h e=>h (Prod.mk.inj e).2) hnd;have h2:=List.nodup_iff_count.1 h1 ((lb0 src).d v,v);have h3:=hs v hm;show _+0<=n;omega
section
variable {A:List Ar}{src:List Nat}{n:Nat}{m D:Int}{s:Lb}{hp:List Tg}{t:Tg}
theorem MI.lt(hA:Us A n m)(M:MI A src n m D s hp){v:Nat}(hv:s.d v ≠ -1):v<n:=by
 by_cases h:s.h v=0
 .exact(M.dj.src' v (M.dj.zero v hv h)).1
 .obtain⟨a,ha,h1,_⟩:=M.dj.pre v hv h;rw[<-h1];exact(hA a ha).2.1
theorem MI.top(hA:Us A n m)(M:MI A src n m D s (t::hp)):t.2<n:=M.lt hA (M.pi.item t (qaj ..)).1
theorem MI.drop(hA:Us A n m)(M:MI A src n m D s (t::hp))(hmin:∀x∈hp,t.1<=x.1)(hne:t.1≠s.d t.2):MI A src n m t.1 s hp/\psi n A t.1 s hp+1<=psi n A D s (t::hp):=by
 obtain⟨P1,h1,-⟩:=M.pi.pop (A:=A) hmin (M.top hA);refine⟨⟨M.dj,fun v hv=>(M.clo v hv).imp (fun h=>?_) id,P1⟩,h1⟩
 rcases qag.1 h with h|h
 .exact absurd (by rw[<-h]) hne
 .exact h
theorem MI.key0(M:MI A src n m D s (t::hp))(he:t.1=s.d t.2):0<=t.1:=by
 have h1:=(M.pi.item t (qaj ..)).1;have:=M.dj.low t.2;omega
theorem MI.go(hA:Us A n m)(hm:0<=m)(hn:n<=60)(M:MI A src n m D s (t::hp))(hmin:∀x∈hp,t.1<=x.1)(he:t.1=s.d t.2){l l1:List Ar}(hl:A.filter (fun a=>decide (a.1=t.2))=l++l1) :
  DJ A src n m (l.foldl Kl (s,hp)).1/\(l1=[]->MI A src n m t.1 (l.foldl Kl (s,hp)).1 (l.foldl Kl (s,hp)).2/\psi n A t.1 (l.foldl Kl (s,hp)).1 (l.foldl Kl (s,hp)).2+1<=psi n A D s (t::hp)):=by
 obtain⟨P1,-,h1⟩:=M.pi.pop (A:=A) hmin (M.top hA)
 have hla:∀a∈l,a∈A/\a.1=t.2:=fun a ha=>by
  have h2:a∈A.filter (fun a=>decide (a.1=t.2)):=by rw[hl];exact qao _ ha
  obtain⟨h3,h4⟩:=qbc.1 h2;exact⟨h3,qbd h4⟩
 have K0:Clo A s hp t.2 []:=fun v hv=>by
  by_cases e:v=t.2
  .exact .inr fun a _ hav hd=>by cases hd e
  .refine(M.clo v hv).imp (fun h=>?_) fun h a ha hav _=>h a ha hav fun _=>ha
   rcases qag.1 h with h|h
   .exact absurd (by rw[<-h]) e
   .exact h
 obtain⟨r1,r2,r3,r4,r5⟩:=YI hA hm hn (M.key0 he) l [] s hp M.dj K0 hla he.symm P1;refine⟨r1,fun hl1=>?_⟩;rw[hl1,qa4]at hl
 have KK:Clo A (l.foldl Kl (s,hp)).1 (l.foldl Kl (s,hp)).2 t.2 A:=fun v hv=>(r2 v hv).imp id fun h a ha hav hd=>h a ha hav fun e=>by
  rw[qbp,<-hl];exact qbc.2 ⟨ha,qal (hav.trans e)⟩
 refine⟨⟨r1,KK.any 0,r4⟩,?_⟩;have h2:=h1 he;have h3:JJ A t.2=(l.length:Nat):=by unfold JJ;rw[hl]
 omega
theorem MI.ends(M:MI A src n m D s []):Done A src n m s:=M.dj.ends M.clo
end
theorem Ae6(g:Gr)(cap x p:Nat->Int):Pi g cap x p=(Fl cap x g.E).map (Kk g p):=rfl
theorem V1(g:Gr)(cap x p:Nat->Int)(u:Nat):(Pi g cap x p).filter (fun a=>decide (a.1=u))=(JK g (Fl cap x g.E) u).map (Kk g p):=by
 rw[Ae6,List.filter_map];rfl
theorem Ux{N:Int}{es:List Ed}{fl pot:List Int}(h:Jg N es fl pot=true):Fine (grE N es) (CA es) (flE fl) (FH pot):=by
 unfold Jg at h;simp only[qae]at h;obtain⟨hw,_,ha⟩:=h;obtain⟨h1,_,h2⟩:=Cw hw;refine⟨fun i hi=>?_,fun a ha' hr=>?_⟩
 .obtain⟨e,he⟩:=AB (l:=es) (i:=i) (h:=hi);obtain⟨x,hx⟩:=AB (l:=fl) (i:=i) (h:=by rw[h1];exact hi);have:=h2 i e x he hx;unfold flE CA;rw[Br he,Br hx];exact this
 .have:=qas.1 ha a (qbc.2 ⟨qaz.2 ha',qal hr⟩);exact qbd this
theorem Uy{N:Int}{es:List Ed}{fl pot:List Int}(hw:Cf N es fl=true)(hp:FQ N pot=true)(h:Fine (grE N es) (CA es) (flE fl) (FH pot)):Jg N es fl pot=true:=by
 unfold Jg;rw[hw,hp,qb9,qb9];refine qas.2 fun a ha=>?_;obtain⟨h1,h2⟩:=qbc.1 ha;exact qal (h.fit a (qaz.1 h1) (qbd h2))
theorem Ajq{N:Int}{es:List Ed}{pot:List Int}(hr:Cv N es=true){B:Int}(hB:∀v,-B<=FH pot v/\FH pot v<=B)(a:Nat):(grE N es).len (FH pot) a<=1000+2*B /\ -(1000+2*B)<=(grE N es).len (FH pot) a:=by
 have h1 : -1000<=(grE N es).c a/\(grE N es).c a<=1000:=by
  have h2 : -1000<=(grE N es).co (a / 2)/\(grE N es).co (a / 2)<=1000:=by
   show -1000<=(es.getD (a / 2) e0).cost/\(es.getD (a / 2) e0).cost<=1000
   rcases qap (a / 2) es.length with h|h
   .obtain⟨e,he⟩:=AB (l:=es) (h:=h);have:=Em ((CB hr).2.2.2.1 e (qac he));rw[Br he];omega
   .rw[qby,qba h];exact⟨by decide,by decide⟩
  unfold Gr.c
  split
  .exact h2
  .omega
 have h3:=hB ((grE N es).u a);have h4:=hB ((grE N es).v a);unfold Gr.len;omega
theorem Ajr{N:Int}{pot:List Int}(hp:FQ N pot=true)(v:Nat) : -1099511627776<=FH pot v/\FH pot v<=1099511627776:=by
 unfold FH
 rcases qap v pot.length with h|h
 .obtain⟨x,hx⟩:=AB (l:=pot) (h:=h);rw[Br hx];exact(Lo hp).2 v x hx
 .rw[qby,qba h];exact⟨by decide,by decide⟩
theorem DJ.dist{A:List Ar}{src:List Nat}{n:Nat}{m:Int}{s:Lb}(J:DJ A src n m s)(hm:0<=m)(hn:n<=60)(v:Nat) : -1<=s.d v/\s.d v<=60*m/\s.h v<=60:=by
 by_cases h:s.d v = -1
 .have h1:=J.none' v h;have:0<=60*m:=by omega
  omega
 .have h1:=J.hops h;have h2:=J.bnd v h;have h3:=J.low v;have h4:(s.h v:Int)*m<=60*m:=qey (by omega) hm;omega
abbrev SC(N:Nat)(ae:Option Addr)(n ce bf bp bo:Nat)(k:Int):List Value:=[.int .i64 (N:Int),.slice ae n ce,.slice (some ⟨bf,0,none⟩) n n,.slice (some ⟨bp,0,none⟩) N N,.slice (some ⟨bo,0,none⟩) N N,.int .i64 k]
def IY(ov:Nat->Int)(N:Nat):List Nat:=(List.range N).filter fun v=>decide (0<ov v)
theorem Tc(ov:Nat->Int)(i:Nat):IY ov (i+1)=IY ov i++if 0<ov i then[i]else[]:=by
 unfold IY;rw[qc9,qco]
 congr 1
 by_cases h:0<ov i <;> simp[h]
theorem Ae7(ov:Nat->Int)(i:Nat):(IY ov i).length<=i:=by
 have:=qdp (fun v=>decide (0<ov v)) (List.range i);rw[qez]at this;exact this
abbrev iN(v:Nat):Value := .int .i64 (v:Int)
structure LSt where
 i:Nat
 a:Option Addr
 c:Nat
 full:List Value
section
variable {w:World}{bs:Nat}{N:Nat}{ae:Option Addr}{n ce bf bp bo:Nat}{k:Int}{ov:Nat->Int}
theorem Xz(hs:w.heap[bs]?=some (Bl 254 (SC N ae n ce bf bp bo k)))(ho:w.heap[bo]?=some (Bl 2 (Ce ov N)))(hN:N<=1000000:=by omega):
  Ret prog 244 #[ptr bs] w fun v w'=>Fresh w w' 3 1 v ((IY ov N).map iN):=by
 obtain⟨w0,rfl,H⟩:=qE w;have R:=CE ho;refine A2 (fn:=f244) func244 U [.pointer (some ⟨bs,0,none⟩)] U ?_;refine Ad (Az U (qA (Ad (Az U (qA (Ap (Ad (A9 U (AP U ?_)))))))));refine Ah HO U (Ba Cc U ((by rw[An hs];rfl)) ?_);refine AU AR U (Ae U (qA (Ax (Bn 8386616 (α:=LSt) (fun t=>[(11,.int .i64 (t.i:Int)),(3,.slice t.a (IY ov t.i).length t.c)]) (fun t w'=>t.i<=N/\OS t.a (IY ov t.i).length t.c 1 t.full ((IY ov t.i).map iN)/\Ctx w0 [] w' (ent t.a 3 t.full)) (fun t=>N - t.i) ⟨0,none,0,[]⟩ U ?_ ?_ ?_))))
 .exact⟨rfl,rfl,trivial⟩
 .exact⟨qaf _,OS.nil,H⟩
 .rintro⟨i,a,c,full⟩ j w ⟨hi,O,H⟩;dsimp only at hi O H;dsimp only;have hpl:=Ae7 ov i;refine Ad (AZ U U (qA (Ap (Av _ U ?_ ?_))))
  .intro h1;replace h1:=AJ h1;have hgd:(tab ov N)[i]?=some (ov i):=Cd (by omega);refine Aq (Aa (Ap (Ax (Ad (Ae U (Bq AR Bt U U ?_))))));refine Ba Bm U (((R.ext0 H.ext).fld hgd U (j:=0) U)) ?_;refine Af U (Af U (qA (Ad (Ae U (Cp U U (qA (Av _ U ?_ ?_)))))))
   .intro h2;replace h2:=AJ h2;have hps:IY ov (i+1)=IY ov i++[i]:=by rw[Tc,if_pos h2]
    refine Ay (Ao U (Ae U (Cs _ (.int _ _) Ct D9 M4 U U U U H ?_)));rintro b20 w - H;refine C3 (L:=[]) Ct Ct D9 Vp M4 U U U H O U (by simp[AS]) ?_;rintro a' c' full' w H O;refine Az U (Ab (A7 (Aa (Ay (Aw U U ?_)))));refine Ae U (qA ?_);exact⟨⟨i+1,a',c',full'⟩,rfl,⟨rfl,by dsimp only;rw[hps,qat];rfl,trivial⟩,⟨by dsimp only;omega,by dsimp only;rw[hps,qat,qax];exact O,H⟩,by dsimp only;omega⟩
   .intro h2;replace h2:=AK h2;have hps:IY ov (i+1)=IY ov i:=by rw[Tc,if_neg (by omega),qa4]
    refine Aq (A7 (Aa (Ay (Aw U U ?_))));refine Ae U (qA ?_);exact⟨⟨i+1,a,c,full⟩,rfl,⟨rfl,by dsimp only;rw[hps];rfl,trivial⟩,⟨by dsimp only;omega,by dsimp only;rw[hps];exact O,H⟩,by dsimp only;omega⟩
  .intro h1;replace h1:=AK h1;refine Be (Aj (Aj (AH (Aa (Ad (Ao U (Az U (qA (A6 (AD (v:=(.slice _ _ _)) U U U ?_))))))))));obtain rfl:i=N:=by omega
   exact Ctx.fresh (L:=[]) H O
theorem X0{od:Nat}{d:Nat->Int}(hs:w.heap[bs]?=some (Bl 254 (SC N ae n ce bf bp bo k)))(ho:w.heap[bo]?=some (Bl 2 (Ce ov N)))(hd:w.heap[od]?=some (Bl 2 (Ce d N)))(hN:N<=1000000:=by omega):
  Ret prog 246 #[ptr bs,.slice (some ⟨od,0,none⟩) N N] w fun v w'=>(∃to:Int,v=.int .i64 to/\((to = -1/\∀u,u<N->¬(ov u<0/\0<=d u))\/∃x:Nat,x<N/\to=x/\ov x<0/\0<=d x))/\w=w':=by
 obtain⟨w0,rfl⟩:=qD w;have RO:=CE ho;have RD:=CE hd;refine A2 (fn:=f246) func246 U [.pointer (some ⟨bs,0,none⟩),.slice (some ⟨od,0,none⟩) N N] U ?_;refine Ad (Af U (qA (Ad (Af U (qA (Ap (Ad (Ao U (AU AR U ?_)))))))));refine Ae U (qA (Ax (Bn 2199023254752 (α:=Nat × Int) (fun t=>[(10,.int .i64 (t.1:Int)),(5,.int .i64 t.2)]) (fun t w'=>w0=w'/\t.1<=N/\((t.2 = -1/\∀u,u<t.1->¬(ov u<0/\0<=d u))\/∃x:Nat,x<N/\t.2=x/\ov x<0/\0<=d x)) (fun t=>N - t.1) (0,-1) U ?_ ?_ ?_)))
 .exact⟨rfl,rfl,trivial⟩
 .exact⟨rfl,qaf _,.inl ⟨rfl,fun u h=>absurd h (qaw _)⟩⟩
 .rintro⟨i,to⟩ j w ⟨rfl,hi,hto⟩;dsimp only at hi hto;dsimp only;refine Ad (AZ U U (qA (Ap (Av _ U ?_ ?_))))
  .intro h1;replace h1:=AJ h1;have hgd:(tab d N)[i]?=some (d i):=Cd (by omega);have hgo:(tab ov N)[i]?=some (ov i):=Cd (by omega);have htd:=CY d N
   obtain⟨dx,hdx⟩:∃dx:Int,0<=to->∃x:Nat,x<N/\to=x/\(tab d N)[x]?=some dx:=by
    rcases hto with⟨h,_⟩|⟨x,hx,h,_⟩
    .exact⟨0,fun h7=>by omega⟩
    .exact⟨d x,fun _=>⟨x,hx,h,Cd hx⟩⟩
   refine Aq (Aa (Ap (Ax (Ad (Ae U (AM RD AR Bt U U (by omega) ?_))))));refine Ba Bm U ((RD.fld hgd U (j:=0) U)) ?_;refine Af U (Af U (qA (Ad (B9 (α:=Unit) 549755781120 (fun _=>[(38,.bool (decide ((ov i<0/\0<=d i)/\(to<0\/d i<dx))))]) (fun _ w'=>w'=w0) U ?_ ?_))))
   .refine A9 U (AP U (Ah HO U (Ba Cc U ((by rw[An hs];rfl)) ?_)));refine Ae U (Bq AR Bt U U ?_);refine Ba Bm U ((RO.fld hgo U (j:=0) U)) ?_;refine AZ U U (Au U (AE 23 U ?_ ?_))
    .intro h1;replace h1:=AJ h1;refine Ae U (Cq U U (A8 U (.bool _) U (Au U (AE 27 U ?_ ?_))))
     .intro h2;replace h2:=AJ h2;refine Ae U (AZ U U (Au U (AE 30 U ?_ ?_)))
      .intro h3;replace h3:=AJ h3;refine Ag U (Ag U (Ag U (Ag U (Ag U (Ag U (A8 U (.bool _) U (A8 U (.bool _) U (Ab ?_))))))));exact⟨rfl,(),rfl,⟨qaa Value.bool (by clear hgd hgo;rw[qad];simp_all;try omega),trivial⟩,rfl⟩
      .intro h4;replace h4:=AK h4;refine Ae U (Ao U (Ae U ?_));obtain⟨x,hx,rfl,hgx⟩:=hdx (by omega);refine AM RD AR Bt U U (by omega) (Ba Bm U (RD.fld hgx U (j:=0) U) ?_);refine AZ U U (AA U (.bool _) U (A8 U (.bool _) U (Ab ?_)));exact⟨rfl,(),rfl,⟨qaa Value.bool (by clear hgd hgo;rw[qad];simp_all;try omega),trivial⟩,rfl⟩
     .intro h5;replace h5:=AK h5;refine Ag U (Ag U (Ag U (Ag U (Ag U (Ag U (Ag U (Ag U (Ag U (Ag U ?_)))))))));refine AA U (.bool _) U (Ab ?_);exact⟨rfl,(),rfl,⟨qaa Value.bool (by clear hgd hgo;rw[qad];simp_all;try omega),trivial⟩,rfl⟩
    .intro h6;replace h6:=AK h6;refine Ag U (Ag U (AA U (.bool _) U (Au U (Ag U (Ag U (Ag U (Ag U (Ag U (Ag U ?_)))))))));refine Ag U (Ag U (Ag U (Ag U (AA U (.bool _) U (Ab ?_)))));exact⟨rfl,(),rfl,⟨qaa Value.bool (by clear hgd hgo;rw[qad];simp_all;try omega),trivial⟩,rfl⟩
   rintro - j38 w hw;subst hw;refine Av _ U ?_ ?_
   .intro h2;have h2:=qbd h2;refine Ay (Ae U (Af U (Ab (A7 (Aa (Ay (Aw U U ?_)))))));refine Ae U (qA ?_);exact⟨(i+1,(i:Int)),rfl,⟨rfl,rfl,trivial⟩,⟨rfl,by dsimp only;omega,.inr ⟨i,by omega,rfl,h2.1⟩⟩,by dsimp only;omega⟩
   .intro h2;have h2:=qbk h2;refine Aq (A7 (Aa (Ay (Aw U U ?_))));refine Ae U (qA ?_);refine⟨(i+1,to),rfl,⟨rfl,rfl,trivial⟩,⟨rfl,by dsimp only;omega,?_⟩,by dsimp only;omega⟩
    rcases hto with⟨h,h7⟩|h
    .refine .inl ⟨h,fun u hu hh=>?_⟩;dsimp only at hu
     by_cases e:u=i
     .subst e;exact h2 ⟨hh,.inl (by omega)⟩
     .exact h7 u (by omega) hh
    .exact .inr h
  .intro h1;replace h1:=AK h1;refine Be (Aj (Aj (AH (Aa (Ad (Ae U (Af U (qA (A6 (AD (v:=(.int _ _)) U U U ?_))))))))));obtain rfl:i=N:=by omega
   exact⟨⟨to,rfl,hto⟩,rfl⟩
def QD(d:Nat->Int)(D:Int)(v:Nat):Int:=if d v<0\/D<d v then D else d v
def IH(p d:Nat->Int)(D:Int)(i v:Nat):Int:=if v<i then p v+QD d D v else p v
theorem Ae8{od:Nat}{d p:Nat->Int}{D:Int}(hs:w.heap[bs]?=some (Bl 254 (SC N ae n ce bf bp bo k)))(hp:w.heap[bp]?=some (Bl 2 (Ce p N)))(hd:w.heap[od]?=some (Bl 2 (Ce d N)))(n1:bs≠bp)(n2:od≠bp)(hD:0<=D/\D<=1152921504606846976)(hpb:∀v,-1152921504606846976<=p v/\p v<=1152921504606846976)(hN:N<=1000000:=by omega):
  Ret prog 249 #[ptr bs,.slice (some ⟨od,0,none⟩) N N,.int .i64 D] w fun v w'=>v=.tuple #[]/\Ctx w [bp] w' [(bp,Bl 2 (Ce (fun v=>p v+QD d D v) N))]:=by
 obtain⟨w0,rfl⟩:=qD w;have H:=Ctx.start1 hp;have n1':bs∉[bp]:=by rw[qab];exact n1
 have n2':od∉[bp]:=by rw[qab];exact n2
 have RD:=CE hd;refine A2 (fn:=f249) func249 U [.pointer (some ⟨bs,0,none⟩),.slice (some ⟨od,0,none⟩) N N,.int .i64 D] U ?_;refine Ad (Ao U (AU AR U (Ae U (qA (Ax ?_)))));have h0:Ce p N=Ce (IH p d D 0) N:=qbi fun v _=>by unfold IH;rw[if_neg (qaw _)]
 rw[h0]at H;refine Bn 17179868352 (α:=Nat) (fun i=>[(10,.int .i64 (i:Int))]) (fun i w'=>i<=N/\Ctx w0 [bp] w' [(bp,Bl 2 (Ce (IH p d D i) N))]) (fun i=>N - i) 0 U ?_ ?_ ?_
 .exact⟨rfl,trivial⟩
 .exact⟨qaf _,H⟩
 .rintro i j w ⟨hi,H⟩;refine Ad (AZ U U (qA (Ap (Av _ U ?_ ?_))))
  .intro h1;replace h1:=AJ h1;have hgd:(tab d N)[i]?=some (d i):=Cd (by omega);have hgp:(tab (IH p d D i) N)[i]?=some (p i):=by rw[Cd (by omega)];unfold IH;rw[if_neg (qei _)]
   have hbi:=hpb i;have hsucc:∀r,r=QD d D i->Value.int .i64 (p i+r)=Value.int .i64 (IH p d D (i+1) i):=fun r hr=>by unfold IH;rw[if_pos (by omega),hr]
   have hoth:∀q,q≠i->Value.int .i64 (IH p d D (i+1) q)=Value.int .i64 (IH p d D i q):=fun q hq=>by
    unfold IH
    by_cases h:q<i
    .rw[if_pos h,if_pos (by omega)]
    .rw[if_neg h,if_neg (by omega)]
   refine Aq (Aa (Ap (Ax (Ad (Ae U (Bq AR Bt U U ?_))))));refine Ba Bm U (((RD.ext H.ext n2').fld hgd U (j:=0) U)) (Af U (Af U (qA (Ap (Ad (Ae U (AZ U U (Au U (AE 17 U ?_ ?_)))))))))
   .intro h1;replace h1:=AJ h1;refine Ag U (Ag U (Ag U (A8 U (.bool _) U (qA (D4 U (Ay (Ae U (Af U (qA ?_)))))))));refine Ay (A9 U (AP U (Ah F9 U (Ba Cc U ((by rw[An (H.ext.to hs n1')];rfl)) ?_))));refine Ae U (Bq AR Bt U U ?_);refine Ba Bm U (((CE (H.get at0)).fld hgp U (j:=0) U)) (Ae U (Aw U U ?_));refine Bq AR Bt U U ?_;refine Cl i (fun q => .int .i64 (IH p d D (i+1) q)) (.int _ _) Bt U U U H at0 (by simp) (hsucc _ (by unfold QD;(rw[if_pos (by omega)];done))).symm (fun q _ hq=>hoth q hq) ?_;rintro w H;refine Ab (A7 (Aa (Ay (Aw U U ?_))));refine Ae U (qA ?_);exact⟨i+1,rfl,⟨rfl,trivial⟩,⟨by omega,H⟩,by omega⟩
   .intro h2;replace h2:=AK h2;refine Ae U (Ae U (Cp U U (AA U (.bool _) U (qA (Av _ U ?_ ?_)))))
    .intro h3;replace h3:=AJ h3;refine Ay (Ae U (Af U (qA (Ay (A9 U (AP U (Ah F9 U (Ba Cc U ((by rw[An (H.ext.to hs n1')];rfl)) ?_))))))));refine Ae U (Bq AR Bt U U ?_);refine Ba Bm U (((CE (H.get at0)).fld hgp U (j:=0) U)) (Ae U (Aw U U ?_));refine Bq AR Bt U U ?_;refine Cl i (fun q => .int .i64 (IH p d D (i+1) q)) (.int _ _) Bt U U U H at0 (by simp) (hsucc _ (by unfold QD;(rw[if_pos (by omega)];done))).symm (fun q _ hq=>hoth q hq) ?_;rintro w H;refine Ab (A7 (Aa (Ay (Aw U U ?_))));refine Ae U (qA ?_);exact⟨i+1,rfl,⟨rfl,trivial⟩,⟨by omega,H⟩,by omega⟩
    .intro h4;replace h4:=AK h4;refine Aq (Aa (Ay (A9 U (AP U (Ah F9 U (Ba Cc U ((by rw[An (H.ext.to hs n1')];rfl)) ?_))))));refine Ae U (Bq AR Bt U U ?_);refine Ba Bm U (((CE (H.get at0)).fld hgp U (j:=0) U)) (Ae U (Aw U U ?_));refine Bq AR Bt U U ?_;refine Cl i (fun q => .int .i64 (IH p d D (i+1) q)) (.int _ _) Bt U U U H at0 (by simp) (hsucc _ (by unfold QD;(rw[if_neg (by omega)];done))).symm (fun q _ hq=>hoth q hq) ?_;rintro w H;refine Ab (A7 (Aa (Ay (Aw U U ?_))));refine Ae U (qA ?_);exact⟨i+1,rfl,⟨rfl,trivial⟩,⟨by omega,H⟩,by omega⟩
  .intro h1;replace h1:=AK h1;refine Be (Aj (Aj (AH (Dd U U ?_))));obtain rfl:i=N:=by omega
   have h9:Ce (IH p d D i) i=Ce (fun v=>p v+QD d D v) i:=qbi fun v hv=>by unfold IH;rw[if_pos (qaz.1 hv)]
   rw[h9]at H;exact⟨rfl,H⟩
end
def Ma(g:Gr)(cap x:Nat->Int)(k:Nat):List Ar:=((List.range k).filter fun a=>decide (0<Da cap x a)).map fun a=>(g.u a,g.v a,g.c a)
theorem Aae(g:Gr)(cap x:Nat->Int)(k:Nat):Ma g cap x (k+1)=Ma g cap x k++if 0<Da cap x k then[(g.u k,g.v k,g.c k)]else[]:=by
 unfold Ma;rw[qc9,qco,qax]
 congr 1
 by_cases h:0<Da cap x k <;> simp[h]
theorem Ae9{g:Gr}{cap x:Nat->Int}{k m:Nat}(h:k<=m):∀a∈Ma g cap x k,a∈Ma g cap x m:=fun a ha=>by
 obtain⟨b,hb,rfl⟩:=qah.1 ha;obtain⟨h1,h2⟩:=qbc.1 hb;exact qah.2 ⟨b,qbc.2 ⟨qaz.2 (by have:=qaz.1 h1;omega),h2⟩,rfl⟩
theorem JL{w:World}{bs:Nat}{t:TypeId}{N:Nat}{ae:Option Addr}{n ce bf bp bo:Nat}{k:Int}(h:w.heap[bs]?=some (Bl t (SC N ae n ce bf bp bo k))):∀j v,[Value.int .i64 (N:Int),.slice ae n ce][j]?=some v->w.cell? ⟨bs,0+j,none⟩=some v:=fun j v hv=>by
 rw[An h,qa2]
 match j,hv with
 |0,hv=>exact hv
 |1,hv=>exact hv
theorem Ajs{x:Nat->Int}{n i:Nat}(h:i<n):flE (tab x n) i=x i:=by
 unfold flE;exact Br (Cd h)
theorem QE{N:Nat}{es:List Ed}{x:Nat->Int}(hw:Cf (N:Int) es (tab x es.length)=true){k:Nat}(hk:k<2*es.length) :
  GD (N:Int) es (k:Int)=(((grE (N:Int) es).u k:Int),((grE (N:Int) es).v k:Int),(grE (N:Int) es).c k)/\Mk (N:Int) es (tab x es.length) (k:Int)=Da (CA es) x k/\(grE (N:Int) es).u k<N/\(grE (N:Int) es).v k<N /\ -1000<=(grE (N:Int) es).c k/\(grE (N:Int) es).c k<=1000/\0<=Da (CA es) x k/\Da (CA es) x k<=4503599627370496:=by
 obtain⟨hl,hr,hin⟩:=Cw hw;obtain⟨e,he,hE,q1,q2,q3,q4,q5,q6⟩:=P6 hr hk;obtain⟨e',xx,he',hx,hro,r1,r2,r3⟩:=P7 hw hk;obtain rfl:e'=e:=qaq (he'.symm.trans he);obtain⟨hxk,rfl⟩:=NZ hx;have hce:CA es (k / 2)=e'.cap:=by unfold CA;rw[Br he]
 have hge:(grE (N:Int) es).f (k / 2)=e'.f.toNat/\(grE (N:Int) es).t (k / 2)=e'.t.toNat/\(grE (N:Int) es).co (k / 2)=e'.cost:=by
  refine⟨?_,?_,?_⟩ <;> (show _=_;unfold grE;dsimp only;rw[Br he])
 rw[hE,hro];unfold Gr.u Gr.v Gr.c Da Ln;rw[hge.1,hge.2.1,hge.2.2,hce];unfold Gt at q1 q2 q3 q4 q5 q6 |-
 by_cases hp:k % 2=1
 .have hp2:¬k % 2=0:=by omega
  simp only[if_pos hp]at q1 q2 q3 q4 q5 q6 |-;simp only[if_neg hp2];exact⟨by rw[qek q1,qek q3],trivial,by omega,by omega,q5,q6,r1,by omega⟩
 .have hp2:k % 2=0:=by omega
  simp only[if_neg hp]at q1 q2 q3 q4 q5 q6 |-;simp only[if_pos hp2];exact⟨by rw[qek q1,qek q3],trivial,by omega,by omega,q5,q6,by omega,by omega⟩
section
variable {w:World}{bs:Nat}{N:Nat}{ae:Option Addr}{ce bf bp bo:Nat}{k:Int}{es:List Ed}{x p:Nat->Int}
theorem Ajt(hs:w.heap[bs]?=some (Bl 254 (SC N ae es.length ce bf bp bo k)))(Re:Rd w ae 4 CJ es)(hen:es≠[]->(adr ae).block≠bp)(hf:w.heap[bf]?=some (Bl 2 (Ce x es.length)))(hp:w.heap[bp]?=some (Bl 2 (Ce p N)))(n1:bs≠bp)(n2:bf≠bp)(hw:Cf (N:Int) es (tab x es.length)=true){p0:Nat->Int}(hF:Fine (grE (N:Int) es) (CA es) x p0) :
  Ret prog 274 #[ptr bs] w fun v w'=>v=.tuple #[]/\Ctx w [bp] w' [(bp,Bl 2 (Ce (FW (Ma (grE (N:Int) es) (CA es) x (2*es.length)) N fun _=>0) N))]:=by
 obtain⟨w0,rfl⟩:=qD w;have H:=Ctx.start1 hp;have n1':bs∉[bp]:=by rw[qab];exact n1
 have n2':bf∉[bp]:=by rw[qab];exact n2
 obtain⟨hwl,hr,-⟩:=Cw hw;obtain⟨hN1,hN40,hn200,-⟩:=CB hr;have hI:I64 (N:Int):=by unfold I64;omega
 obtain⟨g,hg⟩:=qD (grE (N:Int) es);obtain⟨cap,hcap⟩:=qD (CA es)
 have hat:∀{a:Nat},a<2*es.length->GD (N:Int) es (a:Int)=((g.u a:Int),(g.v a:Int),g.c a)/\Mk (N:Int) es (tab x es.length) (a:Int)=Da cap x a/\g.u a<N/\g.v a<N /\ -1000<=g.c a/\g.c a<=1000/\0<=Da cap x a/\Da cap x a<=4503599627370496:=fun ha=>by
  rw[hg,hcap];exact QE hw ha
 rw[<-hg,<-hcap]at hF |-;obtain⟨A,hA⟩:=qD (Ma g cap x (2*es.length));have hgE:g.E=es.length:=by rw[hg];rfl
 have hAm:∀b∈A,b.1<N/\b.2.1<N /\ -1000<=b.2.2:=fun b hb=>by
  rw[hA]at hb;obtain⟨a,ha,rfl⟩:=qah.1 hb;obtain⟨-,-,h1,h2,h3,-⟩:=hat (qaz.1 (qbc.1 ha).1);exact⟨h1,h2,h3⟩
 have hfea:Fea A p0:=by rw[hA,<-hgE];exact Vv hF
 have hfe2:=Xv hfea fun a ha=>⟨(hAm a ha).1,(hAm a ha).2.1⟩;have hfb:=Y9 (A:=A) (m:=1000) (by omega) (fun a ha=>(hAm a ha).2.2) N
 have hbnd:∀r k v,-40000<=(Ma g cap x k).foldl JD (FW A r fun _=>0) v\/2*es.length<k:=fun r k v=>by
  rcases qap (2*es.length) k with h|h
  .exact .inr h
  .refine .inl ?_;have h1:=Up (A:=Ma g cap x k) (p:=FW A r fun _=>0) (f:=DD A N) (fun a ha=>hfe2 a (by rw[hA];exact Ae9 h a ha)) (fun v=>LJ hfe2 (fun v=>by have:=Nf A v (qaf N);exact this) r v) v;have h2:=hfb v;have h3:(N:Int)*1000<=40000:=by omega
   omega
 have hbnd2:∀r k v,(Ma g cap x k).foldl JD (FW A r fun _=>0) v<=0:=fun r k v=>by
  refine qbj (Nh _ _ v) ?_
  induction r with
  |zero=>exact qav _
  |succ r ih=>exact qbj (Nh _ _ v) ih
 rw[<-hA];refine A2 (fn:=f274) func274 U [.pointer (some ⟨bs,0,none⟩)] U ?_;refine Ad (A9 U (AP U (Ah F9 U (Ba Cc U ((by rw[An hs];rfl)) ?_))));refine SO U AR Eh U (by simp[AS]) U H at0 (by simp) ?_;rintro w H;refine qA ?_
 have hz:over (Ce p N) 0 (List.replicate N [Value.int .i64 0]).flatten=Ce (FW A 0 fun _=>0) N:=by
  rw[_root_.Go.GV.over_all (by simp)];show _=(List.range N).map fun _=>Value.int .i64 0;rw[<-Ej];simp
 rw[hz]at H;refine Ad (A9 U (AP U (Ah HM U (Ah DW U (Ba B6 U ((by rw[An (H.ext.to hs n1')];rfl)) ?_)))));refine Ae U (qA (Ax (Bn 151115727451828646772860 (α:=Nat) (fun r=>[(16,.int .i64 (r:Int))]) (fun r w'=>r<=N/\Ctx w0 [bp] w' [(bp,Bl 2 (Ce (FW A r fun _=>0) N))]) (fun r=>N - r) 0 U ?_ ?_ ?_)))
 .exact⟨rfl,trivial⟩
 .exact⟨qaf _,H⟩
 .rintro r j w ⟨hr2,H⟩;refine Ad (AZ U U (qA (Ap (Av _ U ?_ ?_))))
  .intro h1;replace h1:=AJ h1;refine Aq (Aa (Ap (Ax (Ad (A9 U (AP U (Ah F8 U (Ba Cc U ((by rw[An (H.ext.to hs n1')];rfl)) ?_))))))));refine AU AR U (D8 U U ?_);refine Ae U (qA (Ax (Bn 75557863725914306642044 (α:=Nat) (fun a=>[(24,.int .i64 (a:Int))]) (fun a w'=>a<=2*es.length/\Ctx w0 [bp] w' [(bp,Bl 2 (Ce ((Ma g cap x a).foldl JD (FW A r fun _=>0)) N))]) (fun a=>2*es.length - a) 0 U ?_ ?_ ?_)))
   .exact⟨rfl,trivial⟩
   .exact⟨qaf _,H⟩
   .rintro a j2 w ⟨ha2,H⟩;refine Ad (AZ U U (qA (Ap (Av _ U ?_ ?_))))
    .intro h2;replace h2:=AJ h2;have ha:a<2*es.length:=by omega
     obtain⟨hE,hR,q1,q2,q3,q4,q5,q6⟩:=hat ha;obtain⟨un,hun⟩:=qD (g.u a);obtain⟨vn,hvn⟩:=qD (g.v a);obtain⟨co,hco⟩:=qD (g.c a);obtain⟨q,hq⟩:=qD ((Ma g cap x a).foldl JD (FW A r fun _=>0));have hb1:∀v,-40000<=q v/\q v<=0:=fun v=>by rw[hq];exact⟨(hbnd r a v).resolve_right (by omega),hbnd2 r a v⟩
     have hsucc:(Ma g cap x (a+1)).foldl JD (FW A r fun _=>0)=if 0<Da cap x a then JD q (un,vn,co)else q:=by
      rw[Aae,qej,<-hq]
      split
      .rw[hun,hvn,hco];rfl
      .rfl
     rw[<-hq]at H;rw[<-hun,<-hvn,<-hco]at hE;have hE1:(GD (N:Int) es (a:Int)).1=un:=by rw[hE]
     have hE2:(GD (N:Int) es (a:Int)).2.1=vn:=by rw[hE]
     have hE3:(GD (N:Int) es (a:Int)).2.2=co:=by rw[hE]
     rw[<-hun]at q1;rw[<-hvn]at q2;rw[<-hco]at q3 q4;have b1:=hb1 un;have b2:=hb1 vn;have hgu:(tab q N)[un]?=some (q un):=Cd q1;have hgv:(tab q N)[vn]?=some (q vn):=Cd q2;have hne:(es≠[]->(adr ae).block∉[bp]):=fun h=>by rw[qab];exact hen h
     have hes:es≠[]:=fun h=>by rw[h]at ha;simp at ha
     refine Aq (Aa (Ap (Ax (Ad (Ae U (Af U (qA (Ad (A9 U (AP U ?_))))))))));refine Ah HM U (Ca _ CG C2 U U ((JL (H.ext.to hs n1'))) ?_);refine Ae U (Am qB (Uu (N:Int) ae es.length ce es _ (Re.ext H.ext (hne hes)) U hI (a:Int)) U ?_);rintro v w ⟨rfl,hx33⟩;replace H:=H.call hx33;rw[hE1,hE2,hE3];refine BN U (AF U U (AF U U (AF U U (Af U (Af U (Af U (qA (Ad (A9 U ?_)))))))));refine AP U (Ah F9 U (Ba Cc U ((by rw[An (H.ext.to hs n1')];rfl)) ?_));refine Ae U (Bq AR Bt U U ?_);refine Ba Bm U (((CE (H.get at0)).fld hgu U (j:=0) U)) (Ae U (Aw U U ?_));refine Af U (qA (EB 19 Bs U U ?_));refine AY U (BO U (Bh U (A3 F9 U (BF Cc U (by rintro _ rfl;exact((by rw[An (H.drew.ext.to hs n1')];rfl))) ?_))))
     refine AY U (Bd AR Bt U U ?_);refine BF Bm U (by rintro _ rfl;exact(((CE (H.drew.get at0)).fld hgv rfl (j:=0) rfl))) ?_;refine K8 U U (Co U (DE 55 U ?_ ?_))
     .intro h3;replace h3:=AJ h3;refine BO U (Bh U (A3 HM U (Me _ U CG C2 U U (by rintro _ rfl;exact((JL (H.drew.ext.to hs n1')))) ?_)));refine BO U (Bh U (A3 F8 U (BF Cc U (by rintro _ rfl;exact((by rw[An (H.drew.ext.to hs n1')];rfl))) ?_)));refine AY U (BM ?_);replace H:=H.drew;refine Am qB (Uv (N:Int) ae (some ⟨bf,0,none⟩) es.length ce es.length es.length es (tab x es.length) _ (Re.ext H.ext (hne hes)) U hI (CE (H.ext.to hf n2')) (CY _ _) (a:Int)) U ?_;rintro v w ⟨rfl,hx65⟩;replace H:=H.call hx65;rw[hR];refine Cp U U (A8 U (.bool _) U (qA (Av _ U ?_ ?_)))
      .intro h4;replace h4:=AJ h4;refine Ay (A9 U (AP U (Ah F9 U (Ba Cc U ((by rw[An (H.ext.to hs n1')];rfl)) ?_))));refine Ae U (Ae U (Bq AR Bt U U ?_));refine Cl vn (fun z => .int .i64 (upd q vn (q un+co) z)) (.int _ _) Bt U U U H at0 (by simp) (hk:=q2) (by rw[D0,Int.add_comm]) (fun z _ hz=>by rw[EM hz]) ?_;rintro w H;refine Ab (A7 (Aa (Ay (Aw U U ?_))));refine Ae U (qA ?_);refine⟨a+1,rfl,⟨rfl,trivial⟩,⟨by omega,?_⟩,by omega⟩;rw[hsucc,if_pos h4];unfold JD;rw[if_pos (by dsimp only;omega)];exact H
      .intro h4;replace h4:=AK h4;refine Aq (A7 (Aa (Ay (Aw U U ?_))));refine Ae U (qA ?_);refine⟨a+1,rfl,⟨rfl,trivial⟩,⟨by omega,?_⟩,by omega⟩;rw[hsucc,if_neg (by omega)];exact H
     .intro h3;replace h3:=AK h3;refine A4 U (A4 U (A4 U (A4 U (A4 U (A4 U (A4 U (A4 U (A4 U (BM ?_)))))))));replace H:=H.drew;refine Ag U (Ag U (AA U (.bool _) U (qA (D5 U (Aq (A7 (Aa (Ay (Aw U U ?_)))))))));refine Ae U (qA ?_);refine⟨a+1,rfl,⟨rfl,trivial⟩,⟨by omega,?_⟩,by omega⟩;rw[hsucc]
      split
      .unfold JD;rw[if_neg (by dsimp only;omega)];exact H
      .exact H
    .intro h2;replace h2:=AK h2;refine Be (Aj (Aj (AH (A7 (Aa (Ay (Aw U U ?_)))))));refine Ae U (qA ?_);obtain rfl:a=2*es.length:=by omega
     refine⟨r+1,rfl,⟨rfl,trivial⟩,⟨by omega,?_⟩,by omega⟩;rw[<-hA]at H;exact H
  .intro h1;replace h1:=AK h1;refine Be (Aj (Aj (AH (Dd U U ?_))));obtain rfl:r=N:=by omega
   exact⟨rfl,H⟩
end
theorem Afa{g:Gr}{cap x p q:Nat->Int}(h:Fine g cap x p)(hq:Fea (Ma g cap x (2*g.E)) q):Fine g cap x q:=Aeu h hq
theorem QF{g:Gr}(hg:g.Ok){cap x p q:Nat->Int}(h:Fine g cap x p)(hq:∀v,v<g.N->q v=p v):Fine g cap x q :=
 ⟨h.in',fun a ha hr=>by
  have:=h.fit a ha hr;unfold Gr.len at this |-
  rw[hq _ (hg.u ha),hq _ (hg.v ha)];exact this⟩
section
variable {w:World}{bs:Nat}{N:Nat}{ae:Option Addr}{ce bf bp bo:Nat}{k:Int}{es:List Ed}{x p:Nat->Int}
theorem Aaf(hs:w.heap[bs]?=some (Bl 254 (SC N ae es.length ce bf bp bo k)))(Re:Rd w ae 4 CJ es)(hen:es≠[]->(adr ae).block≠bp)(hf:w.heap[bf]?=some (Bl 2 (Ce x es.length)))(hp:w.heap[bp]?=some (Bl 2 (Ce p N)))(n1:bs≠bp)(n2:bf≠bp)(hw:Cf (N:Int) es (tab x es.length)=true)(hF:Fine (grE (N:Int) es) (CA es) x p) :
  Ret prog 250 #[ptr bs] w fun v w'=>v=.tuple #[]/\∃p':Nat->Int,Fine (grE (N:Int) es) (CA es) x p'/\(∀v,v<N -> -1073741824<=p' v/\p' v<=1073741824)/\Ctx w [bp] w' [(bp,Bl 2 (Ce p' N))]:=by
 obtain⟨w0,rfl⟩:=qD w;have H:=Ctx.start1 hp;have R:=CE hp;obtain⟨hwl,hr,-⟩:=Cw hw;obtain⟨hN1,hN40,hn200,-⟩:=CB hr;refine A2 (fn:=f250) func250 U [.pointer (some ⟨bs,0,none⟩)] U ?_;refine Ad (A9 U (AP U (Ah F9 U (Ba Cc U ((by rw[An hs];rfl)) ?_))));refine AU AR U (Ae U (qA (Ax (Bn 4193800 (α:=Nat) (fun i=>[(9,.int .i64 (i:Int))]) (fun i w'=>w0=w'/\i<=N/\∀v,v<i -> -1073741824<=p v/\p v<=1073741824) (fun i=>N - i) 0 U ?_ ?_ ?_))))
 .exact⟨rfl,trivial⟩
 .exact⟨rfl,qaf _,fun v h=>absurd h (qaw _)⟩
 .rintro i j w ⟨rfl,hi,hb⟩;refine Ad (AZ U U (qA (Ap (Av _ U ?_ ?_))))
  .intro h1;replace h1:=AJ h1;have hgp:(tab p N)[i]?=some (p i):=Cd (by omega);refine Aq (Aa (Ap (Ax (Ad (Bq AR Bt U U ?_)))));refine Ba Bm U ((R.fld hgp U (j:=0) U)) ?_;refine Af U (qA (Ad (B9 (α:=Unit) 516096 (fun _=>[(18,.bool (decide (p i < -1073741824\/1073741824<p i)))]) (fun _ w'=>w'=w0) U ?_ ?_)))
   .refine Ae U (AZ U U (Au U (AE 15 U ?_ ?_)))
    .intro h1;replace h1:=AJ h1;refine Ag U (Ag U (A8 U (.bool _) U (Ab ?_)));exact⟨rfl,(),rfl,⟨qaa Value.bool (by clear hgp;rw[qad];simp_all;try omega),trivial⟩,rfl⟩
    .intro h2;replace h2:=AK h2;refine Ae U (Cp U U (AA U (.bool _) U (Ab ?_)));exact⟨rfl,(),rfl,⟨qaa Value.bool (by clear hgp;rw[qad];simp_all;try omega),trivial⟩,rfl⟩
   rintro - j18 w hw;subst hw;refine Av _ U ?_ ?_
   .intro h2;refine Ad (A9 U (Am qB (Ajt hs Re hen hf hp n1 n2 hw hF) U ?_));rintro v w ⟨rfl,H⟩;refine qA (A6 (A5 (Al (Al (A5 (Gx U U ?_))))));obtain⟨g,hg⟩:=qD (grE (N:Int) es);have hgE:g.E=es.length:=by rw[hg];rfl
    rw[<-hg]at H hF |-
    have hAm:∀b∈Ma g (CA es) x (2*es.length),b.1<N/\b.2.1<N /\ -1000<=b.2.2:=fun b hb=>by
     obtain⟨a,ha,rfl⟩:=qah.1 hb;obtain⟨-,-,h1,h2,h3,-⟩:=QE hw (qaz.1 (qbc.1 ha).1);rw[hg];exact⟨h1,h2,h3⟩
    have hfea:Fea (Ma g (CA es) x (2*es.length)) p:=by rw[<-hgE];exact Vv hF
    refine⟨rfl,_,?_,fun v _=>?_,H⟩
    .have h7:=ZU hfea fun a ha=>⟨(hAm a ha).1,(hAm a ha).2.1⟩;rw[<-hgE]at h7 |-;exact Afa hF h7
    .have h7:=Aep hfea (fun a ha=>⟨(hAm a ha).1,(hAm a ha).2.1⟩) (m:=1000) (fun a ha=>(hAm a ha).2.2) N v;omega
   .intro h2;have h2:=qbk h2;refine Aq (A7 (Aa (Ay (Aw U U ?_))));refine Ae U (qA ?_);refine⟨i+1,rfl,⟨rfl,trivial⟩,⟨rfl,by omega,fun v hv=>?_⟩,by omega⟩
    by_cases e:v=i
    .subst e;omega
    .exact hb v (by omega)
  .intro h1;replace h1:=AK h1;refine Be (Aj (Aj (AH (Dd U U ?_))));obtain rfl:i=N:=by omega
   exact⟨rfl,p,hF,hb,H⟩
end
theorem V2(s by':Value)(ob:Option Addr)(on oc:Nat)(bs:Nat)(v:Int)(w:World)(hs:s=ptr bs)(hb:by'=.slice ob on oc):Ret prog 247 #[s,by',.int .i64 v] w fun r w'=>∃b3 b4 b5,r=.func (.func 271) #[] #[ptr b4,ptr b5,ptr b3]/\w'.heap[b3]?=some (Bl 252 [ptr bs])/\w'.heap[b4]?=some (Bl 94 [.slice ob on oc])/\w'.heap[b5]?=some (Bl 3 [.int .i64 v])/\w.heap.size<=b3/\w.heap.size<=b4/\w.heap.size<=b5/\b5≠b3/\b5≠b4/\Ext [] w w':=by
 subst hs hb;obtain⟨w0,rfl,H⟩:=qE w;refine A2 (fn:=f247) func247 U [.pointer (some ⟨bs,0,none⟩),.slice ob on oc,.int .i64 v] U ?_;refine Ad (Bu _ (.pointer _) U U H ?_);rintro b3 w - H;refine Bu _ (.slice _ _ _) U U H ?_;rintro b4 w - H;refine Bu _ (.int _ _) U U H ?_;rintro b5 w - H;refine Dg U .nilFunc U (qA (Ad (Cm [.pointer _,.pointer _,.pointer _] U (Dg U (.func _ _ _) U ?_))));refine qA (A6 (AD (v:=(.func _ _ _)) U U U ?_));have h3:=H.own _ (qac at2);have h4:=H.own _ (qac at1);have h5:=H.own _ (qac at0);exact⟨_,_,_,rfl,H.get at2,H.get at1,H.get at0,h3.elim (fun h=>by cases h) id,h4.elim (fun h=>by cases h) id,h5.elim (fun h=>by cases h) id,H.ne at0 at2 (by decide),H.ne at0 at1 (by decide),H.ext⟩
def byO(by':Nat->Int)(v:Nat):Option Nat:=if by' v = -1 then none else some (by' v).toNat
def Afb(g:Gr)(a:Nat):List Value:=[.int .i64 (a:Int),.int .i64 (g.u a:Int)]
structure BackK(b3 b4 b5 bs ob:Nat)(N:Nat)(ae:Option Addr)(ce bf bp bo:Nat)(k:Int)(es:List Ed)(by':Nat->Int)(M:Mt)(w:World):Prop where
 h4:w.heap[b4]?=some (Bl 94 [.slice (some ⟨ob,0,none⟩) N N])
 h3:w.heap[b3]?=some (Bl 252 [ptr bs])
 hs:w.heap[bs]?=some (Bl 254 (SC N ae es.length ce bf bp bo k))
 ho:w.heap[ob]?=some (Bl 3 (Ce by' N))
 Re:Rd w ae 4 CJ es
 nm:¬M b5
theorem V3{g:Gr}{cap x p:Nat->Int}{s:Lb}{by':Nat->Option Nat}(hB:Bys g cap x p s by'):∀{k v:Nat},s.d v ≠ -1->s.h v=k->(EK by' g k v).length=k
 |0,_,_,_=>rfl
 |k+1,v,hd,hk=>by
  obtain⟨a,h1,h2,h3⟩:=hB.2 v hd (by omega);have hh:=h2.h;rw[h3,hk]at hh;rw[(Ix (g:=g) (k:=k) h1).1,qa6,V3 hB h2.du (by omega)]
theorem V4{b3 b4 b5 bs ob:Nat}{N:Nat}{ae:Option Addr}{ce bf bp bo:Nat}{kk:Int}{es:List Ed}{by':Nat->Int}{x p:Nat->Int}{s:Lb}(hw:Cf (N:Int) es (tab x es.length)=true)(hB:Bys (grE (N:Int) es) (CA es) x p s (byO by'))(hby:∀v,by' v = -1\/∃a:Nat,by' v=(a:Int)/\a<2*es.length){k v:Nat}(hv:v<N)(hd:s.d v ≠ -1)(hk:s.h v=k) :
  Yu prog 271 #[ptr b4,ptr b5,ptr b3] [b5] (fun M w=>BackK b3 b4 b5 bs ob N ae ce bf bp bo kk es by' M w) ((EK (byO by') (grE (N:Int) es) k v).map (Afb (grE (N:Int) es))) (fun w=>w.heap[b5]?=some (Bl 3 [.int .i64 (v:Int)])):=by
 intro l w hS J E hJ0 hJs hEs hK hY;obtain⟨M0,hJ0⟩:=hJ0;obtain⟨w0,rfl⟩:=qD w;have hr:=(Cw hw).2.1;obtain⟨hN1,hN40,hn200,-⟩:=CB hr;have hI:I64 (N:Int):=by unfold I64;omega
 obtain⟨g,hg⟩:=qD (grE (N:Int) es)
 have hat:∀{a:Nat},a<2*es.length->GD (N:Int) es (a:Int)=((g.u a:Int),(g.v a:Int),g.c a)/\g.u a<N:=fun ha=>by
  rw[hg];exact⟨(QE hw ha).1,(QE hw ha).2.2.1⟩
 rw[<-hg]at hB hY |-;have hlen:((EK (byO by') g k v).map (Afb g)).length=k:=by rw[qak,V3 hB hd hk]
 refine A2 (fn:=f271) func271 U [.func (.yield l) #[] #[],.pointer (some ⟨b4,0,none⟩),.pointer (some ⟨b5,0,none⟩),.pointer (some ⟨b3,0,none⟩)] U ?_;refine Ax (Bn 1073741792 (α:=Nat × Nat) (fun _=>[]) (fun t w'=>t.1<=k/\(∃M,J t.1 M w')/\w'.heap[b5]?=some (Bl 3 [.int .i64 (t.2:Int)])/\t.2<N/\s.d t.2 ≠ -1/\s.h t.2=k - t.1/\(EK (byO by') g k v).drop t.1=EK (byO by') g (k - t.1) t.2) (fun t=>k - t.1) (0,v) U ?_ ?_ ?_)
 .exact trivial
 .exact⟨qaf _,⟨M0,hJ0⟩,hS,hv,hd,hk,rfl⟩
 .rintro⟨i,u⟩ j w ⟨hi,⟨M,hJ⟩,hb5,hun,hdu,hhu,hdrop⟩;dsimp only at hi hJ hb5 hun hdu hhu hdrop;dsimp only;have KK:=(hK _ _ _ hJ).2;obtain⟨w1,rfl⟩:=qD w;have H:=Ctx.start1 hb5;have hgb:(tab by' N)[u]?=some (by' u):=Cd hun;refine Ap (Ad (Ba GK U ((by rw[An KK.h4];rfl)) ?_));refine AG B6 U H at0 U (Bq Ct D9 U U ?_);refine Ba B6 U (((CE KK.ho).fld hgb U (j:=0) U)) ?_;refine Cq U U (qA (Av _ U ?_ ?_))
  .intro h1;replace h1:=AJ h1;have hne:byO by' u≠none:=by unfold byO;rw[if_neg (by omega)];exact fun h=>by cases h
   have hh0:s.h u≠0:=fun h=>hne (hB.1 u (.inr h));obtain⟨a,ha,hW,hva⟩:=hB.2 u hdu hh0
   have hba:by' u=(a:Int):=by
    unfold byO at ha;rw[if_neg (by omega)]at ha;have:=qaq ha;omega
   have ha2:a<2*es.length:=by
    rcases hby u with h|⟨a',h,h7⟩
    .omega
    .omega
   obtain⟨hE,hu2⟩:=hat ha2;rw[hba]at hgb;obtain⟨u2,hu2e⟩:=qD (g.u a);obtain⟨v2,hv2e⟩:=qD (g.v a);obtain⟨c2,hc2e⟩:=qD (g.c a);rw[<-hu2e,<-hv2e,<-hc2e]at hE;rw[<-hu2e]at hu2;have hE1:(GD (N:Int) es (a:Int)).1=u2:=by rw[hE]
   have hE2:(GD (N:Int) es (a:Int)).2.1=v2:=by rw[hE]
   have hE3:(GD (N:Int) es (a:Int)).2.2=c2:=by rw[hE]
   have hki:k - i=(k - (i+1))+1:=by omega
   have hps:=(Ix (g:=g) (k:=k - (i+1)) ha).1;rw[<-hki,<-hdrop,<-hu2e]at hps
   have hgi:(EK (byO by') g k v)[i]?=some a:=by
    have:=qaa (·[0]?) hps
    simpa using this
   have hdrop2:(EK (byO by') g k v).drop (i+1)=EK (byO by') g (k - (i+1)) u2:=by
    have:=qaa List.tail hps
    simpa using this
   refine Aq (Aa (Ax (Ad (Ba GK U ((by rw[An KK.h4];rfl)) ?_))));refine AG B6 U H at0 U (Bq Ct D9 U U ?_);refine Ba B6 U (((CE KK.ho).fld hgb U (j:=0) U)) (Af U (qA (Ad (Ba F5 U ((by rw[An KK.h3];rfl)) ?_))));refine AP U (Ah HM U (Ca _ CG C2 U U ((JL KK.hs)) ?_));refine Ae U (Am qB (Uu (N:Int) ae es.length ce es _ KK.Re U hI (a:Int)) U ?_);rintro r w ⟨rfl,hx21⟩;replace H:=H.call hx21;rw[hE1,hE2,hE3];refine BN U (AF U U (AF U U (AF U U (Cz (.int _ _) D9 U U U H at0 (by(simp;done)) ?_))));rintro w H;refine qA ?_;have hJ1:=hJs _ _ _ _ hJ H.ext;have hY1:=hY i (Afb g a) M w (by rw[qa1,hgi];rfl) hJ1;have hb51:=H.get at0;have hnm:=KK.nm;have hwv:Afb g a=[.int .i64 (a:Int),.int .i64 (u2:Int)]:=by rw[hu2e];rfl
   rw[hwv]at hY1;refine Ad (De U (.func _ _ _) U ?_);refine Ae U (AG B6 U H at0 U (HG (vs:=[.int .i64 (a:Int),.int .i64 (u2:Int)]) U hY1 U ?_));rintro u' w hu';obtain⟨bb,rfl,hu1,hu0⟩:∃bb,u'=.bool bb/\(bb=true->(∃M,J (i+1) M w)/\w.heap[b5]?=some (Bl 3 [.int .i64 (u2:Int)]))/\(bb=false->E w):=hu'.elim (fun h=>⟨true,h.1,fun _=>let ⟨M',h1,h2⟩:=h.2;⟨⟨M',h1⟩,h2.to hb51 hnm⟩,fun h=>by cases h⟩) (fun h=>⟨false,h.1,(fun h=>by cases h),fun _=>h.2⟩);refine B1 U (qA (Av _ U ?_ ?_))
   .intro h2;replace h2:=Bv h2;refine A6 (A5 (Al (A5 (Gx U U ?_))));exact .inr (hu0 (by simpa using h2))
   .intro h2;replace h2:=Bw h2;refine Aq (A7 (Aa ?_));obtain⟨hJ2,hb52⟩:=hu1 (by simpa using h2);have hh:=hW.h;rw[hva,<-hu2e]at hh;exact⟨(i+1,u2),rfl,trivial,⟨by dsimp only;omega,hJ2,hb52,hu2,by dsimp only;rw[hu2e];exact hW.du,by dsimp only;omega,hdrop2⟩,by dsimp only;omega⟩
  .intro h1;replace h1:=AK h1
   have hh0:s.h u=0:=by
    rcases qdy (s.h u)with h|h
    .exact h
    .obtain⟨a,ha,-,-⟩:=hB.2 u hdu (by omega);exfalso;unfold byO at ha
     rcases hby u with h7|⟨a',h7,-⟩
     .rw[if_pos h7]at ha;cases ha
     .omega
   refine Be (Aj (Aj (AH (Dd U U ?_))));obtain rfl:i=k:=by omega
   exact .inl ⟨M,by rw[hlen];exact hJ⟩
def Jx:Nat->List Nat
 |1=>[0]|2=>[1,0]|4=>[3]|5=>[4,3]|7=>[6]|8=>[7,6]|10=>[9]|11=>[10,9]
 |12=>[2,1,0,5,4,3,8,7,6,11,10,9]|13=>[12,2,1,0,5,4,3,8,7,6,11,10,9]|15=>[14,13,12,2,1,0,5,4,3,8,7,6,11,10,9]|_=>[]
def OX(i:Nat):Nat:=if i=14 then 11 else 23+i
def Aag(b4 n:Nat)(i:Nat)(B:Nat->Nat):Value :=
 if i=1\/i=4\/i=7\/i=10 then .int .i64 (n:Int)else if i=2\/i=5\/i=8\/i=11 then .slice (some ⟨B i,0,none⟩) n n
 else if i=12 then .agg (FB (B 2) (B 5) (B 8) (B 11) n).toArray else if i=13\/i=14 then ptr (B i)else .pointer (some ⟨b4,0+0,none⟩)
def Fm(n:Nat)(i:Nat):Option ((Nat->Nat)->Obj) :=
 if i=2 then some fun _=>Bl 300 ((List.range n).map fun _ => .slice none 0 0)else if i=5 then some fun _=>Bl 2 (Ce (fun _=>0) n)else if i=8\/i=11 then some fun _=>Bl 3 (Ce (fun _=>0) n)
 else if i=13 then some fun B=>Bl 294 (FB (B 2) (B 5) (B 8) (B 11) n)else if i=14 then some fun _=>Bl 291 [.pointer none]else none
theorem Aah:∀i j,i<15->j<15->OX i=OX j->i=j:=fun i j hi hj h=>by
 unfold OX at h
 split at h <;> split at h <;> omega
theorem wStab(b4 n:Nat)(i k b:Nat)(B:Nat->Nat)(hi:i<15)(hki:k≠i)(hka:k∉Jx i):Aag b4 n i (KT B k b)=Aag b4 n i B/\∀ob,Fm n i=some ob->ob (KT B k b)=ob B:=by
 have h0:KT B k b i=B i:=Hk (Ne.symm hki)
 have h1:i=12\/i=13->KT B k b 2=B 2/\KT B k b 5=B 5/\KT B k b 8=B 8/\KT B k b 11=B 11:=fun h=>by
  have:k≠2/\k≠5/\k≠8/\k≠11:=by
   rcases h with rfl|rfl <;> (simp[Jx]at hka;omega)
  exact⟨Hk (Ne.symm this.1),Hk (Ne.symm this.2.1),Hk (Ne.symm this.2.2.1),Hk (Ne.symm this.2.2.2)⟩
 constructor
 .unfold Aag
  by_cases e:i=12
  .have:=h1 (.inl e);subst e;simp[this]
  .rw[h0];simp[e]
 .intro ob hob;unfold Fm at hob
  by_cases e:i=13
  .have:=h1 (.inr e);subst e;simp at hob;subst hob;simp[this]
  .split at hob
   .cases hob;rfl
   .split at hob
    .cases hob;rfl
    .split at hob
     .cases hob;rfl
     .split at hob
      .cases hob;rfl
      .cases hob
theorem Kn{N:Int}{es:List Ed}(hr:Cv N es=true):(grE N es).Ok:=by
 have h:∀i,i<es.length->(es.getD i e0).f.toNat<N.toNat/\(es.getD i e0).t.toNat<N.toNat:=fun i hi=>by
  obtain⟨e,he⟩:=AB (l:=es) (i:=i) (h:=hi);have:=Em ((CB hr).2.2.2.1 e (qac he));rw[Br he];omega
 exact⟨fun i hi=>(h i hi).1,fun i hi=>(h i hi).2⟩
theorem YJ{cap x:Nat->Int}{k a:Nat}(h:a∈Fl cap x k):a<2*k:=qaz.1 (qbc.1 h).1
def QG(i:Nat)(v:Nat):Int:=if v<i then -1 else 0
theorem YK(i:Nat):QG (i+1) i = -1:=if_pos (by omega)
theorem YL{i q:Nat}(h:q≠i):QG (i+1) q=QG i q:=by unfold QG;split <;> split <;> omega
theorem Aju{P:Program}{e:Env}{w:World}{fn:Func}{R:Value->World->Prop}{t1 t2 t3:Tmp}{v1 v2 v3:Value}(hr:fn.results=#[.tmp t1,.tmp t2,.tmp t3])(h1:e.g t1=v1)(h2:e.g t2=v2)(h3:e.g t3=v3)(h:Marks e.ds w (R (.tuple #[v1,v2,v3]))):Vb P fn R .ret e w :=
 Marks.mono (fun w h tmps ht=>by
  have q1:=(ht t1).trans h1;have q2:=(ht t2).trans h2;have q3:=(ht t3).trans h3;rw[qa5]at q1 q2 q3
  exact⟨_,by simp[results,hr,q1,q2,q3],h⟩) h
theorem X1{L L':List (Nat × Obj)}(h:(L++L').Pairwise (fun x y=>x.1≠y.1)){x:Nat × Obj}(hx:x∈L):x.1∉L'.map (·.1):=fun hm=>by
 obtain⟨y,hy,he⟩:=qah.1 hm;exact(qbz.1 h).2.2 x hx y hy he.symm
theorem Rd.lt{α:Type}{w:World}{a:Option Addr}{s:Nat}{enc:α->List Value}{xs:List α}(R:Rd w a s enc xs)(h:xs≠[])(hs:∀x∈xs,∃v,(enc x)[0]?=some v)(h0:0<s):(adr a).block<w.heap.size:=by
 obtain⟨x,hx⟩:=AB (l:=xs) (i:=0) (h:=qbv.2 h);obtain⟨v,hv⟩:=hs x (qac hx);exact World.block_lt_of_cell? w ⟨(adr a).block,(adr a).off+0*s+0,none⟩ (R.cell 0 x hx 0 v hv h0)
theorem Ajv:(lb0 []).d=fun _ => -1:=by
 funext v
 show(if v∈([]:List Nat)then(0:Int)else -1) = -1;exact if_neg qar
structure WSt where
 s:Lb
 a:Option Addr
 hn:Nat
 c:Nat
 full:List Value
 L:List Tg
 D:Int
theorem Ajw(N:Int)(a b p fr:Option Addr)(n c m d q r fc:Nat)(es:List Ed)(fl pot:List Int)(src:List Nat)(w:World)(R:Rd w a 4 CJ es)(hn:es.length=n)(hN:I64 N)(Rf:Rd w b 1 I1 fl)(hm:fl.length=m)(Rp:Rd w p 1 I1 pot)(hq:pot.length=q)(Rs:Rd w fr 1 I1 (src.map fun v:Nat=>(v:Int)))(hfit:Jg N es fl pot=true)(hsrc:∀v∈src,v<N.toNat)(hnd:src.Nodup)(hs0:0<src.length)(hm2:m<=9223372036854775000:=by omega)(hq2:q<=9223372036854775000:=by omega):
  Ret prog 245 #[Dx N a n c,.slice b m d,.slice p q r,.slice fr src.length fc] w fun v w'=>∃(od ob:Nat) (s:Lb) (by':Nat->Int),v=.tuple #[.slice (some ⟨od,0,none⟩) N.toNat N.toNat,.slice (some ⟨ob,0,none⟩) N.toNat N.toNat,.int .i64 0]/\Done (Pi (grE N es) (CA es) (flE fl) (FH pot)) src N.toNat 2199023256552 s/\Bys (grE N es) (CA es) (flE fl) (FH pot) s (fun v=>if by' v = -1 then none else some (by' v).toNat)/\(∀v,by' v = -1\/∃a:Nat,by' v=(a:Int)/\a<2*es.length)/\Ctx w [] w' [(od,Bl 2 (Ce s.d N.toNat)),(ob,Bl 3 (Ce by' N.toNat))]:=by
 subst hn hm hq;obtain⟨w0,rfl,H⟩:=qE w;refine Iv (fn:=f245) func245 U [Dx N a es.length c,.slice b fl.length d,.slice p pot.length r,.slice fr src.length fc] U (Ad (Bu [.int .i64 N,.slice a es.length c] (.agg _) U U H ?_));rintro b4 w - H;refine Az U (Az U (Af U (qA (Ap (Ad (BV CG C2 U H at0 U (Ao U (Ao U (Am qB (Ajn N a b p es.length c fl.length d pot.length r es fl pot _ (R.ext0 H.ext) U hN (Rf.ext0 H.ext) U hm2 (Rp.ext0 H.ext) U hq2) U ?_)))))))));rintro v w ⟨rfl,hx21⟩;replace H:=H.call hx21;refine B1 U (qA (Av _ U ?_ ?_))
 .intro h1;replace h1:=Bv h1;rw[hfit]at h1;cases h1
 .intro h1;replace h1:=Bw h1;have hw:Cf N es fl=true:=by unfold Jg at hfit;rw[qae]at hfit;exact hfit.1
  obtain⟨hN1,hN40,hn200,-⟩:=CB (Cw hw).2.1;obtain⟨nn,rfl⟩:∃nn:Nat,N=(nn:Int):=⟨N.toNat,by omega⟩;refine Aq (Aa (Eo 137430566912 (α:=Nat × Nat × Nat × Nat × Nat × Nat) (fun z=>[(11,ptr z.1)]) (fun z w'=>Ctx w0 [] w' [(z.1,Bl 291 [ptr z.2.1]),(z.2.1,Bl 294 (FB z.2.2.1 z.2.2.2.1 z.2.2.2.2.1 z.2.2.2.2.2 nn)),(z.2.2.1,Bl 300 ((List.range nn).map fun _ => .slice none 0 0)),(z.2.2.2.1,Bl 2 (Ce (fun _=>0) nn)),(z.2.2.2.2.1,Bl 3 (Ce (fun _=>0) nn)),(z.2.2.2.2.2,Bl 3 (Ce (fun _=>0) nn)),(b4,Bl 51 [.int .i64 (nn:Int),.slice a es.length c])]) U ?_ ?_))
  .skip
   have hb4:=H.get at0;refine Acw (n:=15) (anc:=Jx) OX (Aag b4 nn) (Fm nn) (show Tryz.prog.follows .mixedOrders=true by kernel_rfl) U ?_ Aah (wStab b4 nn) ?_ ?_
   .intro k hk;have:k=0\/k=1\/k=2\/k=3\/k=4\/k=5\/k=6\/k=7\/k=8\/k=9\/k=10\/k=11\/k=12\/k=13\/k=14:=by omega
    simp[Jx];omega
   .intro i o e' w' B hi ho hold hsl hx hbl
    have h4:e'.g 4=ptr b4:=(hold 4 fun j hj h=>by
     have h:(4:Nat)=OX j:=h;unfold OX at h
     split at h <;> omega).trans rfl
    have hc4:w'.heap[b4]?=some (Bl 51 [.int .i64 (nn:Int),.slice a es.length c]):=hx.to (by exact hb4) (by simp);have hcs:i=0\/i=1\/i=2\/i=3\/i=4\/i=5\/i=6\/i=7\/i=8\/i=9\/i=10\/i=11\/i=12\/i=13\/i=14:=by omega
    have hpure:∀{v:Value},Fm nn i=none->Aag b4 nn i (KT B i 0)=v->AQ OX (Aag b4 nn) (Fm nn) i e' w' B (put e' (some (OX i)) v) w':=fun h1 h2=>⟨0,fun ob h=>(by rw[h1]at h;cases h),.refl _ _,by rw[h2]⟩
    rcases hcs with rfl|rfl|rfl|rfl|rfl|rfl|rfl|rfl|rfl|rfl|rfl|rfl|rfl|rfl|rfl
    .cases qaq ho;exact Ah (by kernel_rfl) h4 (Ab (hpure U U))
    .cases qaq ho;exact Ba B6 (hsl 0 (by simp[Jx])) (by rw[An hc4];rfl) (Ab (hpure U U))
    .cases qaq ho;refine F2 NS NU Amx Ap3 (hsl 1 (by simp[Jx])) (hsl 1 (by simp[Jx])) (Ctx.start w' []) fun b w2 hb H=>?_;have hbb:=H.get at0;rw[show((nn:Int)).toNat=nn from rfl,Ej]at hbb;exact Ab ⟨b,fun ob h=>(by obtain rfl:=qaq h;exact⟨by omega,hbb⟩),H.ext,rfl⟩
    .cases qaq ho;exact Ah (by kernel_rfl) h4 (Ab (hpure U U))
    .cases qaq ho;exact Ba B6 (hsl 3 (by simp[Jx])) (by rw[An hc4];rfl) (Ab (hpure U U))
    .cases qaq ho;refine F2 AR Bt J9 Eh (hsl 4 (by simp[Jx])) (hsl 4 (by simp[Jx])) (Ctx.start w' []) fun b w2 hb H=>?_;have hbb:=H.get at0;rw[show((nn:Int)).toNat=nn from rfl,Ej]at hbb;exact Ab ⟨b,fun ob h=>(by obtain rfl:=qaq h;exact⟨by omega,hbb⟩),H.ext,rfl⟩
    .cases qaq ho;exact Ah (by kernel_rfl) h4 (Ab (hpure U U))
    .cases qaq ho;exact Ba B6 (hsl 6 (by simp[Jx])) (by rw[An hc4];rfl) (Ab (hpure U U))
    .cases qaq ho;refine F2 Ct D9 Vp M4 (hsl 7 (by simp[Jx])) (hsl 7 (by simp[Jx])) (Ctx.start w' []) fun b w2 hb H=>?_;have hbb:=H.get at0;rw[show((nn:Int)).toNat=nn from rfl,Ej]at hbb;exact Ab ⟨b,fun ob h=>(by obtain rfl:=qaq h;exact⟨by omega,hbb⟩),H.ext,rfl⟩
    .cases qaq ho;exact Ah (by kernel_rfl) h4 (Ab (hpure U U))
    .cases qaq ho;exact Ba B6 (hsl 9 (by simp[Jx])) (by rw[An hc4];rfl) (Ab (hpure U U))
    .cases qaq ho;refine F2 Ct D9 Vp M4 (hsl 10 (by simp[Jx])) (hsl 10 (by simp[Jx])) (Ctx.start w' []) fun b w2 hb H=>?_;have hbb:=H.get at0;rw[show((nn:Int)).toNat=nn from rfl,Ej]at hbb;exact Ab ⟨b,fun ob h=>(by obtain rfl:=qaq h;exact⟨by omega,hbb⟩),H.ext,rfl⟩
    .cases qaq ho;refine Bz (FB (B 2) (B 5) (B 8) (B 11) nn) Apq Ap2 (hl:=?_) (Ab (hpure U U));show Instr.fill _ _ [(0,e'.g 25),(1,e'.g 28),(2,e'.g 31),(3,e'.g 34)]=_;rw[show e'.g 25=.slice (some ⟨B 2,0,none⟩) nn nn from hsl 2 (by simp[Jx]),show e'.g 28=.slice (some ⟨B 5,0,none⟩) nn nn from hsl 5 (by simp[Jx]),show e'.g 31=.slice (some ⟨B 8,0,none⟩) nn nn from hsl 8 (by simp[Jx]),show e'.g 34=.slice (some ⟨B 11,0,none⟩) nn nn from hsl 11 (by simp[Jx])];rfl
    .cases qaq ho;refine Bu (FB (B 2) (B 5) (B 8) (B 11) nn) (.agg _) (hsl 12 (by simp[Jx])) U (Ctx.start w' []) fun b w2 hb H=>?_;exact Ab ⟨b,fun ob h=>(by obtain rfl:=qaq h;exact⟨by omega,H.get at0⟩),H.ext,rfl⟩
    .cases qaq ho;refine AX Ap1 (Ctx.start w' []) fun b w2 hb H=>?_;exact Ab ⟨b,fun ob h=>(by obtain rfl:=qaq h;exact⟨by omega,H.get at0⟩),H.ext,rfl⟩
   .intro o e' w' B ho A;have hl4:=Bf hb4;have hs0:=H.size;have h9:w.drew.heap.size=w.heap.size:=rfl;have n14_13:B 14≠B 13:=A.ne 14 13 (by omega) (by omega) (by omega) trivial trivial (by simp[Fm]) (by simp[Fm]);have n14_2:B 14≠B 2:=A.ne 14 2 (by omega) (by omega) (by omega) trivial trivial (by simp[Fm]) (by simp[Fm]);have n14_5:B 14≠B 5:=A.ne 14 5 (by omega) (by omega) (by omega) trivial trivial (by simp[Fm]) (by simp[Fm]);have n14_8:B 14≠B 8:=A.ne 14 8 (by omega) (by omega) (by omega) trivial trivial (by simp[Fm]) (by simp[Fm]);have n14_11:B 14≠B 11:=A.ne 14 11 (by omega) (by omega) (by omega) trivial trivial (by simp[Fm]) (by simp[Fm]);have n13_2:B 13≠B 2:=A.ne 13 2 (by omega) (by omega) (by omega) trivial trivial (by simp[Fm]) (by simp[Fm]);have n13_5:B 13≠B 5:=A.ne 13 5 (by omega) (by omega) (by omega) trivial trivial (by simp[Fm]) (by simp[Fm])
    have n13_8:B 13≠B 8:=A.ne 13 8 (by omega) (by omega) (by omega) trivial trivial (by simp[Fm]) (by simp[Fm]);have n13_11:B 13≠B 11:=A.ne 13 11 (by omega) (by omega) (by omega) trivial trivial (by simp[Fm]) (by simp[Fm]);have n2_5:B 2≠B 5:=A.ne 2 5 (by omega) (by omega) (by omega) trivial trivial (by simp[Fm]) (by simp[Fm]);have n2_8:B 2≠B 8:=A.ne 2 8 (by omega) (by omega) (by omega) trivial trivial (by simp[Fm]) (by simp[Fm]);have n2_11:B 2≠B 11:=A.ne 2 11 (by omega) (by omega) (by omega) trivial trivial (by simp[Fm]) (by simp[Fm]);have n5_8:B 5≠B 8:=A.ne 5 8 (by omega) (by omega) (by omega) trivial trivial (by simp[Fm]) (by simp[Fm]);have n5_11:B 5≠B 11:=A.ne 5 11 (by omega) (by omega) (by omega) trivial trivial (by simp[Fm]) (by simp[Fm]);have n8_11:B 8≠B 11:=A.ne 8 11 (by omega) (by omega) (by omega) trivial trivial (by simp[Fm]) (by simp[Fm])
    have k14:=A.blk 14 _ (by omega) trivial (show Fm nn 14=some _ from rfl);have m14:B 14≠b4:=by have:=k14.2;have h9:w.drew.heap.size=w.heap.size:=rfl;omega
    have k13:=A.blk 13 _ (by omega) trivial (show Fm nn 13=some _ from rfl);have m13:B 13≠b4:=by have:=k13.2;have h9:w.drew.heap.size=w.heap.size:=rfl;omega
    have k2:=A.blk 2 _ (by omega) trivial (show Fm nn 2=some _ from rfl);have m2:B 2≠b4:=by have:=k2.2;have h9:w.drew.heap.size=w.heap.size:=rfl;omega
    have k5:=A.blk 5 _ (by omega) trivial (show Fm nn 5=some _ from rfl);have m5:B 5≠b4:=by have:=k5.2;have h9:w.drew.heap.size=w.heap.size:=rfl;omega
    have k8:=A.blk 8 _ (by omega) trivial (show Fm nn 8=some _ from rfl);have m8:B 8≠b4:=by have:=k8.2;have h9:w.drew.heap.size=w.heap.size:=rfl;omega
    have k11:=A.blk 11 _ (by omega) trivial (show Fm nn 11=some _ from rfl);have m11:B 11≠b4:=by have:=k11.2;have h9:w.drew.heap.size=w.heap.size:=rfl;omega
    have Hc:Ctx w0 [] w' [(B 14,Bl 291 [.pointer none]),(B 13,Bl 294 (FB (B 2) (B 5) (B 8) (B 11) nn)),(B 2,Bl 300 ((List.range nn).map fun _ => .slice none 0 0)),(B 5,Bl 2 (Ce (fun _=>0) nn)),(B 8,Bl 3 (Ce (fun _=>0) nn)),(B 11,Bl 3 (Ce (fun _=>0) nn)),(b4,Bl 51 [.int .i64 (nn:Int),.slice a es.length c])]:=by
     refine⟨(H.ext.trans (Ext.drew [] _)).trans A.ext,fun x hx=>?_,?_,fun x hx => .inr ?_⟩
     .simp only[qag,qar,or_false]at hx
      rcases hx with rfl|rfl|rfl|rfl|rfl|rfl|rfl
      .exact k14.1
      .exact k13.1
      .exact k2.1
      .exact k5.1
      .exact k8.1
      .exact k11.1
      .exact A.ext.to hb4 (by simp)
     .simp only[qbb,qag,qar,or_false,forall_eq_or_imp,forall_eq,List.Pairwise.nil,false_imp_iff,implies_true,and_true];exact⟨⟨n14_13,n14_2,n14_5,n14_8,n14_11,m14⟩,⟨n13_2,n13_5,n13_8,n13_11,m13⟩,⟨n2_5,n2_8,n2_11,m2⟩,⟨n5_8,n5_11,m5⟩,⟨n8_11,m8⟩,m11⟩
     .simp only[qag,qar,or_false]at hx;have hb40:=(H.own _ (qaj ..)).elim (fun h=>by cases h) id
      rcases hx with rfl|rfl|rfl|rfl|rfl|rfl|rfl
      .have:=k14.2;dsimp only;omega
      .have:=k13.2;dsimp only;omega
      .have:=k2.2;dsimp only;omega
      .have:=k5.2;dsimp only;omega
      .have:=k8.2;dsimp only;omega
      .have:=k11.2;dsimp only;omega
      .exact hb40
    cases qaq ho;exact Cz (ptr (B 13)) Apv (A.slot 14 (by omega) trivial) (A.slot 13 (by omega) trivial) U Hc at0 (by decide) fun w2 H2=>Ab ⟨(B 14,B 13,B 2,B 5,B 8,B 11),A.ds,⟨A.slot 14 (by omega) trivial,trivial⟩,H2⟩
  .rintro⟨b11,b36,oo,od,oh,ob⟩ j w H;dsimp only at H;dsimp only;refine Ap (Ad (Ah DW U (AG B6 U H at6 U (Ae U (qA (Ax (Bn 36028247263154176 (α:=Nat) (fun i=>[(39,.int .i64 (i:Int))]) (fun i w'=>i<=nn/\Ctx w0 [] w' [(b11,Bl 291 [ptr b36]),(b36,Bl 294 (FB oo od oh ob nn)),(oo,Bl 300 ((List.range nn).map fun _ => .slice none 0 0)),(od,Bl 2 (Ce (QG i) nn)),(oh,Bl 3 (Ce (fun _=>0) nn)),(ob,Bl 3 (Ce (QG i) nn)),(b4,Bl 51 [.int .i64 (nn:Int),.slice a es.length c])]) (fun i=>nn - i) 0 U ?_ ?_ ?_)))))))
   .exact⟨rfl,trivial⟩
   .exact⟨qaf _,H⟩
   .rintro i j2 w ⟨hi,H⟩;refine Ad (AZ U U (qA (Ap (Av _ U ?_ ?_))))
    .intro h2;replace h2:=AJ h2;refine Aq (Aa (Ap (Ax (Ad (Ae U (Af U (qA (ET [([0,1,2,3,4,5,6,7,8,9,10],11),([12],13)] (fun z=>z.heap[b11]?=some (Bl 291 [ptr b36])/\z.heap[b36]?=some (Bl 294 (FB oo od oh ob nn))) [13] Bs (⟨H.drew.get at0,H.drew.get at1⟩) ?_))))))));refine AO U U (B5 Jt U (fun _ hx=>(by rw[An hx.1];rfl)) ?_);refine Bp U (A1 EP U (B5 Cc U (fun _ hx=>(by rw[An hx.2];rfl)) ?_));refine Bg U (B5 Jt U (fun _ hx=>(by rw[An hx.1];rfl)) ?_);refine Bp U (A1 Lf U (B5 GK U (fun _ hx=>(by rw[An hx.2];rfl)) ?_));refine Bg U (AV AR Bt U U ?_);refine Bb ?_;replace H:=H.drew;refine Cl i (fun q => .int .i64 (QG (i+1) q)) (.int _ _) Bt U U U H at3 (by simp) (by rw[YK]) (fun q _ hq=>by rw[YL hq]) ?_;rintro w H;refine Ab (BR (⟨H.get at0,H.get at1⟩) (AO U U ?_))
     refine AV Ct D9 U U ?_;refine Bb (Cl i (fun q => .int .i64 (QG (i+1) q)) (.int _ _) D9 U U U H at5 (by simp) (by rw[YK]) (fun q _ hq=>by rw[YL hq]) ?_);rintro w H;refine Ab (BH U (BK (A7 (Aa (Ay (Aw U U ?_))))));refine Ae U (qA ?_);exact⟨i+1,rfl,⟨rfl,trivial⟩,⟨by omega,H⟩,by omega⟩
    .intro h2;replace h2:=AK h2;obtain rfl:nn=i:=by omega
     have htab:Ce (QG nn) nn=Ce (fun _ => -1) nn:=qbi fun v hv=>by
      show Value.int _ (QG nn v)=Value.int _ (-1);unfold QG;rw[if_pos (qaz.1 hv)]
     rw[htab]at H;have hr:=(Cw hw).2.1;have hp:FQ (nn:Int) pot=true:=by unfold Jg at hfit;rw[qae,qae]at hfit;exact hfit.2.1
     obtain⟨g,hg⟩:=qD (grE (nn:Int) es);obtain⟨pf,hpf⟩:=qD (FH pot);obtain⟨l,hl⟩:=qD (Fl (CA es) (flE fl) es.length);have hgo:g.Ok:=by rw[hg];exact Kn hr
     have hlen400:l.length<=400:=by
      rw[hl];unfold Fl;have:=qdp (fun a=>decide (0<Da (CA es) (flE fl) a)) (List.range (2*es.length));rw[qez]at this;omega
     refine Be (Aj (Aj (AH (Aa (Ap (Ad (BV CG C2 U H at6 U (Ao U (Ao U ?_)))))))));have hb7:=H;refine Am qB (YH (nn:Int) a b p es.length c fl.length d pot.length r _) U ?_;rintro v w ⟨x1,x2,x3,rfl,hb1,hb2,hb3,hs1,hs2,hs3,hx58⟩;replace H:=H.call hx58;refine qA (Ax ?_);obtain⟨ws,rfl⟩:=qD w;have hk1:=Bf hb1;have hk2:=Bf hb2;have hk3:=Bf hb3;have hs07:=H.size;have hoo:=H.get at2;have HL:=(H.perm (qbu (l₁:=[_,_]) (l₂:=[_,_,_,_]))).tail;have hoolt:=Bf hoo;have hoo7:=Bf (hb7.get at2);have hooge:w0.heap.size<=oo:=(H.own (oo,_) (qac (i:=2) rfl)).elim (fun h=>by cases h) id;obtain⟨OL,hOL⟩:=qD ([(b11,Bl 291 [ptr b36]),(b36,Bl 294 (FB oo od oh ob nn)),(od,Bl 2 (Ce (fun _ => -1) nn)),(oh,Bl 3 (Ce (fun _=>0) nn)),(ob,Bl 3 (Ce (fun _ => -1) nn)),(b4,Bl 51 [.int .i64 (nn:Int),.slice a es.length c])]:List (Nat × Obj))
     have HL':Ctx w0 [] ws OL:=by rw[hOL];exact HL
     have hOLlt:∀y∈OL,y.1<ws.heap.size:=fun y hy=>Bf (HL'.blk y hy)
     have hOLoo:∀y∈OL,y.1≠oo:=fun y hy=>by
      have h9:=H.perm (qbu (l₁:=[_,_]) (l₂:=[_,_,_,_]));rw[hOL]at hy;exact fun h=>(qbb.1 h9.nd).1 y hy h.symm
     obtain⟨hD,hhD⟩:=qD ws.heap.size
     have hM:∀{w':World} {st:Nat->Slo} {sel:Nat->List Nat},OutR w0 w' oo nn g pf st sel (fun x=>x<ws.heap.size+2)->∀x,QC oo nn st x->x<w'.heap.size/\x≠ws.heap.size/\x≠ws.heap.size+1:=fun{w' st sel} RO x hx=>by
      rcases hx with rfl|⟨u,hu,y,hy,rfl⟩
      .exact⟨Bf RO.tbl,by omega,by omega⟩
      .have h1:=RO.blk u hu y hy;have h2:=Bf h1.1;have h3:¬y.1<ws.heap.size+2:=h1.2.2.1;exact⟨h2,by omega,by omega⟩
     refine Px (gf:=278) U qB (Vz (b1:=x1) (b2:=x2) (b3:=x3) (a:=a) (b:=b) (p:=p) (c:=c) (d:=d) (r:=r) hw hp) (by kernel_rfl) (by kernel_rfl) (fun v hv=>by obtain⟨p,-,rfl⟩:=qah.1 hv;rfl)
      (fun i M w'=>∃st,M=QC oo nn st/\OutR w0 w' oo nn g pf st (fun u=>JK g (l.take i) u) (fun x=>x<ws.heap.size+2)/\(∀u,u<nn->(st u).n<=i)/\Ctx w0 [] w' OL/\w'.heap[x1]?=some (Bl 51 [.int .i64 (nn:Int),.slice a es.length c])/\w'.heap[x2]?=some (Bl 35 [.slice p pot.length r])/\w'.heap[x3]?=some (Bl 35 [.slice b fl.length d]))
      (fun _=>False) (by simp)
      (fun w2 hx2 _=>⟨_,fun _=>⟨none,0,0,[]⟩,rfl,⟨hx2.to hoo (by simp),fun u _=>OS.nil,(fun u _ y hy=>by cases hy),(fun u v _ _ _ y hy=>by cases hy)⟩,fun u _=>qan _,HL'.call hx2,hx2.to hb1 (by simp),hx2.to hb2 (by simp),hx2.to hb3 (by simp)⟩)
      (fun i M w' w'' hJ hx=>?_) (fun _ _ h _=>h) (fun i M w' hJ=>?_) ?_ ?_ (fun _ h _=>h.elim)
     .obtain⟨st,h1,RO,hni,HJ,g1,g2,g3⟩:=hJ;refine⟨st,h1,RO.keep hx fun x hx hm=>?_,hni,HJ.step hx (fun y hy=>?_) fun z hz => .inr ?_,hx.to g1 ?_,hx.to g2 ?_,hx.to g3 ?_⟩
      .have:=hM RO x hm;simp only[qag,qar,or_false]at hx;omega
      .have:=hOLlt y hy;simp only[qag,qar,or_false];omega
      .simp only[qag,qar,or_false]at hz;omega
      .simp only[qag,qar,or_false];omega
      .simp only[qag,qar,or_false];omega
      .simp only[qag,qar,or_false];omega
     .obtain⟨st,rfl,RO,hni,HJ,g1,g2,g3⟩:=hJ;exact⟨hM RO,g1,g2,g3,R.ext0 HJ.ext,Rf.ext0 HJ.ext,Rp.ext0 HJ.ext⟩
     .rintro i v _ w hxv ⟨st,rfl,RO,hni,HJ,g1,g2,g3⟩ hsz;unfold Mm at hxv;rw[qa1,<-hl,<-hg,<-hpf]at hxv;obtain⟨y,hy,rfl⟩:=qdn.1 hxv;have hil:=Cb hy;have hyl:=qac hy
      have hyu:g.u y<nn:=by
       have h1:=hgo.u (a:=y) (by rw[hl]at hyl;have:=YJ hyl;rw[hg];exact this);rw[hg]at h1 |-;exact h1
      obtain⟨w1,rfl,H⟩:=qE w;refine Ay (AX Lh H ?_);rintro b13 w - H;refine Bi IB U U U (by exact QA _ _ _) H at0 U ?_;rintro w H;refine Ab ?_;refine⟨H.ext,fun wB hxB=>?_⟩;have hb13:=(H.own _ (qaj ..)).elim (fun h=>by cases h) id;have k13:=hxB.to (H.get at0) (by rw[qab];omega);have ROB:=(RO.keep H.ext (fun x hx=>by cases hx)).keep hxB fun x hx hm=>(hM RO x hm).2.2 (qab.1 hx);have HB:=(HJ.call H.ext).step hxB (fun y hy=>by have:=hOLlt y hy;rw[qab];omega) (fun z hz => .inr (by rw[qab.1 hz];omega));have e1:=hxB.to (H.ext.to g1 (by simp)) (by rw[qab];omega);have e2:=hxB.to (H.ext.to g2 (by simp)) (by rw[qab];omega);have e3:=hxB.to (H.ext.to g3 (by simp)) (by rw[qab];omega);have hsB:=hxB.size;have hsH:=H.ext.size
      have HB':=HB;rw[hOL]at HB';have k11:=HB'.get at0;have k36:=HB'.get at1;obtain⟨u,hu⟩:=qD (g.u y);rw[<-hu]at hyu
      have hnot:∀x,x≠oo->(x<ws.heap.size+2\/w1.heap.size<=x)->x∉oo::(M9 (st u)).map (·.1):=fun x h1 h2 h=>by
       rcases qag.1 h with h|h
       .exact h1 h
       .obtain⟨z,hz,he⟩:=qah.1 h;have q1:=RO.blk u hyu z hz;have q2:=Bf q1.1;have q3:¬z.1<ws.heap.size+2:=q1.2.2.1;omega
      have hO11:=hOLoo (b11,_) (by rw[hOL];exact qac (i:=0) rfl);have hO36:=hOLoo (b36,_) (by rw[hOL];exact qac (i:=1) rfl);have hl11:=hOLlt (b11,_) (by rw[hOL];exact qac (i:=0) rfl);have hl36:=hOLlt (b36,_) (by rw[hOL];exact qac (i:=1) rfl);have hoo1:=Bf RO.tbl;dsimp only at hO11 hO36 hl11 hl36;have n11:=hnot b11 hO11 (.inl (by omega));have n36:=hnot b36 hO36 (.inl (by omega));have n13:=hnot b13 (by omega) (.inr hb13);have hgu:(Aab nn st)[u]?=some (.slice (st u).a (st u).n (st u).c):=Ei hyu;have hnu:=hni u hyu;obtain⟨w2,rfl⟩:=qD wB;replace H:=ROB.ctx hyu;have hrow:HW g pf y=[.int .i64 (y:Int),.int .i64 (u:Int),.int .i64 (g.v y:Int),.int .i64 (g.len pf y)]:=by unfold HW;rw[<-hu]
      refine Ax (ET [([0,1,2,3,4,5,6,7,8,9,10,11,12,13,14],15),([],16),([17],18)] (fun z=>z.heap[b11]?=some (Bl 291 [ptr b36])/\z.heap[b36]?=some (Bl 294 (FB oo od oh ob nn))/\z.heap[b13]?=some (Bl 299 (HW g pf y))/\z.heap[oo]?=some (Bl 300 (Aab nn st))) [18] Bs (⟨H.drew.ext.to k11 n11,H.drew.ext.to k36 n36,H.drew.ext.to k13 n13,H.drew.get at0⟩) ?_);refine AO U U (B5 Jt U (fun _ hx=>(by rw[An hx.1];rfl)) ?_);refine Bp U (A1 MZ U (B5 Ub U (fun _ hx=>(by rw[An hx.2.1];rfl)) ?_));refine A1 Vq U (B5 B6 U (fun _ hx=>(by rw[An hx.2.2.1,hrow];rfl)) ?_);refine B5 Jt U (fun _ hx=>(by rw[An hx.1];rfl)) ?_;refine Bp U (A1 MZ U (B5 Ub U (fun _ hx=>(by rw[An hx.2.1];rfl)) ?_));refine A1 Vq U (B5 B6 U (fun _ hx=>(by rw[An hx.2.2.1,hrow];rfl)) ?_);refine AV NS NU U U ?_
      refine B5 Xb U (fun _ hx=>(by rw[An hx.2.2.2];simpa using hgu)) ?_;refine GX _ Xa IB U U (fun _ hx=>(JH hx.2.2.1)) (Bb ?_);replace H:=H.drew;refine Cs (HW g pf y) (.agg _) M1 IB Lh U U U U H ?_;rintro b75 w - H;refine Ab (BR (⟨H.ext.to k11 n11,H.ext.to k36 n36,H.ext.to k13 n13,H.get at1⟩) (AO U U ?_));refine Bb (C3 (L:=[(oo,_)]) M1 M1 IB Amw Lh U U U H (ROB.os u hyu) U (QA g pf y) ?_);rintro a76 c76 f76 w H O76;refine Ab (BR (⟨H.ext.to k11 n11,H.ext.to k36 n36,H.ext.to k13 n13,H.get at0⟩) (AO U U ?_));refine AV NS NU U U ?_;refine Bb (Cl u (fun q=>sloV (stS st u ⟨a76,(st u).n+1,c76,f76⟩ q)) (.slice _ _ _) NU U U U H at0 (by simp) (hk:=hyu) (by rw[IG];rfl) (fun q _ hq=>by rw[Lq hq]) ?_);rintro w H;refine Ab (BH U (BK (A7 ?_)));have hss:=Aac (g:=g) hy;rw[<-hu]at hss
      have hO':OS a76 ((st u).n+1) c76 4 f76 ((JK g (l.take (i+1)) u).flatMap (HW g pf)):=by rw[hss.1,qb1];simpa using O76
      have h02:w0.heap.size<=w2.heap.size:=by omega
      obtain⟨RO',hnewM⟩:=ROB.step hyu (s:=⟨a76,(st u).n+1,c76,f76⟩) (sel':=fun q=>JK g (l.take (i+1)) q) (fun x hx=>by have hx:x<ws.heap.size+2:=hx;omega) h02 H hO' (fun q hq=>hss.2 q hq)
      have hidM:∀x∈oo::(M9 (st u)).map (·.1),QC oo nn st x:=fun x hx=>by
       rcases qag.1 hx with h|h
       .exact .inl h
       .obtain⟨z,hz,he⟩:=qah.1 h;exact .inr ⟨u,hyu,z,hz,he⟩
      refine⟨_,⟨stS st u ⟨a76,(st u).n+1,c76,f76⟩,rfl,RO',fun q hq=>?_,HB.step H.ext (fun z hz=>hnot z.1 (hOLoo z hz) (.inl (by have:=hOLlt z hz;omega))) (fun z hz => .inr ?_),H.ext.to e1 (hnot x1 (by omega) (.inl (by omega))),H.ext.to e2 (hnot x2 (by omega) (.inl (by omega))),H.ext.to e3 (hnot x3 (by omega) (.inl (by omega)))⟩,fun x hx=>?_,_,H.ext,fun x hx => .inl (hidM x hx)⟩
      .by_cases e:q=u
       .subst e;rw[IG];dsimp only;omega
       .rw[Lq e];have:=hni q hq;omega
      .rcases qag.1 hz with h|h
       .rw[h];exact hooge
       .obtain⟨t,ht,he⟩:=qah.1 h;have:=(RO.blk u hyu t ht).2.1;omega
      .exact(hnewM x hx).imp id fun h=>by omega
     .rintro M w ⟨st,rfl,RO,hni,HJ,-,-,-⟩ hD;have htk:l.take (Mm (grE (nn:Int) es) (FH pot) (Fl (CA es) (flE fl) es.length)).length=l:=qcf (by unfold Mm;rw[qak,<-hl];exact qan _);simp only[htk]at RO;clear hni htk;obtain⟨w5,rfl⟩:=qD w;have h59:∀x,QC oo nn st x->x<w5.heap.size:=fun x hx=>(hM RO x hx).1;have h5D:=Bf hD;obtain⟨ids,hids⟩:=qD (OL.map (·.1))
      have hidM:∀x∈ids,¬QC oo nn st x:=fun x hx hm=>by
       rw[hids]at hx;obtain⟨y,hy,rfl⟩:=qah.1 hx;have a1:=hOLlt y hy;have a2:=hOLoo y hy
       rcases hm with h|⟨u,hu,z,hz,he⟩
       .exact a2 h
       .have h3:=(RO.blk u hu z hz).2.2.1;apply h3;show z.1<_;omega
      have hidD:ws.heap.size∉ids:=fun hx=>by
       rw[hids]at hx;obtain⟨y,hy,he⟩:=qah.1 hx;have a1:=hOLlt y hy;omega
      have hB:∀{w':World} {L':List (Nat × Obj)},Ctx w5 ids w' L'->Ctx w0 [] w' L':=fun h=>(Ctx.back (L1:=OL) (L2:=[]) HJ.app_nil (by rw[<-hids];exact h)).nil_app
      have hnotL:∀x,QC oo nn st x->∀{w':World} {L':List (Nat × Obj)},Ctx w5 ids w' L'->x∉L'.map (·.1):=fun x hx {w' L'} h hm=>by
       obtain⟨y,hy,he⟩:=qah.1 hm
       rcases h.own y hy with h1|h1
       .rw[he]at h1;exact hidM x h1 hx
       .have:=h59 x hx;omega
      have H:Ctx w5 ids w5 OL:=by rw[hids];exact HJ.app_nil.lend
      rw[hOL]at H;clear hids;obtain⟨A,hA⟩:=qD (Pi g (CA es) (flE fl) pf);have hF:=Ux hfit;rw[<-hg,<-hpf]at hF
      have hlb:∀a,g.len pf a<=2199023256552 /\ -2199023256552<=g.len pf a:=fun a=>by
       rw[hg,hpf];exact Ajq hr (Ajr hp) a
      have hgN:g.N=nn:=by rw[hg];rfl
      have hgE:g.E=es.length:=by rw[hg];rfl
      have hArcs:Us A nn 2199023256552:=by rw[hA,<-hgN];exact hF.arcs hgo fun a _=>(hlb a).1
      have hlE:l=Fl (CA es) (flE fl) g.E:=by rw[hgE];exact hl
      have hAf:∀u,A.filter (fun a=>decide (a.1=u))=(JK g l u).map (Kk g pf):=fun u=>by rw[hA,hlE];exact V1 g _ _ pf u
      have hsl:∀u,(JK g l u).length<=400:=fun u=>qbe (qdp _ _) hlen400;have hdeg:∀u,JJ A u<=400:=fun u=>by unfold JJ;rw[hAf,qak];have:=hsl u;omega
      have hsn:src.length<=nn:=Ng nn src hnd hsrc;have hfr:src≠[]->(adr fr).block<w0.heap.size:=fun h=>Rd.lt Rs (by simpa using h) (fun x _=>⟨_,rfl⟩) (by decide)
      have hselx:∀u,u<nn->∀x∈JK g l u,g.u x=u/\g.v x<nn/\x<2*es.length:=fun u _ x hx=>by
       obtain⟨h1,h2⟩:=qbc.1 hx;have h3:x<2*es.length:=by rw[hl]at h1;exact YJ h1
       have h4:=hgo.v (a:=x) (by rw[hgE];exact h3);exact⟨qbd h2,by rw[<-hgN];exact h4,h3⟩
      have hstn:∀u,u<nn->(st u).n=(JK g l u).length:=fun u hu=>(RO.os u hu).numN (fun _ _=>rfl) (by decide)
      have hget:∀u,u<nn->(Aab nn st)[u]?=some (.slice (st u).a (JK g l u).length (st u).c):=fun u hu=>by
       have:=Ei (f:=fun u=>sloV (st u)) hu;rw[<-hstn u hu];exact this
      have hrow:∀{w':World} {S:List Nat},Ext S w5 w'->(∀x∈S,x∈ids)->∀u,u<nn->Rd w' (st u).a 4 (HW g pf) (JK g l u):=fun{w' S} hx hS u hu=>by
       have RO':=RO.keep hx fun x hx'=>hidM x (hS x hx');exact(RO'.os u hu).rd (t:=299) (fun y hy=>(RO'.blk u hu y hy).1) (fun _ _=>rfl) (by decide)
      have hrowM:∀u,u<nn->JK g l u≠[]->QC oo nn st (adr (st u).a).block:=fun u hu hne=>by
       obtain⟨b,hb⟩:=(RO.os u hu).form (by rw[hstn u hu];exact qbv.2 hne);exact Or.inr ⟨u,hu,(b,Bl 299 (st u).full),by show _∈ent (st u).a _ _;rw[Aiq hb];exact qaj ..,by rw[hb];rfl⟩
      have hooM:QC oo nn st oo := .inl rfl;refine A7 (Aa (Ad (Am qB (Ajk _) U ?_)));rintro v w ⟨bh,rfl,hbh,hbhv,hx78⟩;replace H:=H.callAdd hx78 hbhv hbh;have Hp0:=H.perm (qbu (l₁:=[_,_,_]) (l₂:=[_,_,_]));have hlb0:=Ajv;have Hp:Ctx w5 ids w (NBl od nn (lb0 []) bh none 0 0 []++[(b11,Bl 291 [ptr b36]),(b36,Bl 294 (FB oo od oh ob nn)),(oh,Bl 3 (Ce (fun _=>0) nn)),(ob,Bl 3 (Ce (fun _ => -1) nn)),(b4,Bl 51 [.int .i64 (nn:Int),.slice a es.length c])]):=by show Ctx w5 ids w ((od,Bl 2 (Ce (lb0 []).d nn))::_);rw[hlb0];exact Hp0
      refine BE U (qA (Ap (Ad (AG Jt U H at1 U (A9 U (Ao U (Am qB (Ae4 (Ctx.lend Hp) OS.nil (Hp.get at3) (X1 (Hp.comm).nd (x:=(b36,_)) (qac (i:=1) U)) ((Rs.ext0 (hB Hp).ext)) (fun hne hm=>by have h1:=hfr hne;have h2:=(hB Hp.left).own;obtain⟨y,hy,he⟩:=qah.1 hm;rcases h2 y hy with h|h;cases h;omega) hsrc hnd) U ?_)))))));rintro v w ⟨rfl,a0,c0,f0,L0,hp0,hH0,O0,H2⟩;replace H:=Ctx.comm (L:=NBl od nn (lb0 src) bh a0 src.length c0 f0) (Ctx.back Hp H2);refine B1 U (qA (Av _ U ?_ ?_))
      .intro h4;replace h4:=Bv h4;have:=qbk h4;omega
      .intro h4;replace h4:=Bw h4;refine Aq (Aa (Ap (Ax ?_)));have hn0:src.length=L0.length:=O0.numN (fun _ _=>rfl) (by decide);have hps:=Aad (n:=nn) (A:=A) (src:=src) (d:=400) fun v _=>hdeg v;have hps2:(nn:Int)*(400*((nn:Int)+1))<=40*(400*41):=Int.mul_le_mul (by omega) (by omega) (by omega) (by omega);refine Bn 81129619071793567861722210074624 (α:=WSt) (fun _=>[]) (fun t w'=>MI A src nn 2199023256552 t.D t.s t.L/\HeapL t.L/\OS t.a t.hn t.c 2 t.full (t.L.flatMap FG)/\psi nn A t.D t.s t.L<=1000000/\Ctx w5 ids w' ([(b11,Bl 291 [ptr b36]),(b36,Bl 294 (FB oo od oh ob nn)),(ob,Bl 3 (Ce (fun _ => -1) nn)),(b4,Bl 51 [.int .i64 (nn:Int),.slice a es.length c])]++GB od oh nn t.s bh t.a t.hn t.c t.full)) (fun t=>(psi nn A t.D t.s t.L).toNat) ⟨lb0 src,a0,src.length,c0,f0,L0,-1⟩ U ?_ ?_ ?_
       .exact trivial
       .refine⟨(MI.start hsrc hnd).perm hp0.symm,hH0,O0,?_,?_⟩
        .dsimp only;rw[QB hp0];omega
        .exact H.perm (List.Perm.cons _ (List.Perm.cons _ (qbu (l₁:=[_,_,_])).symm))
       .rintro⟨s,a',hn,c',full,L,D⟩ j w ⟨MM,hH,O,hpsi,H⟩;dsimp only at MM hH O hpsi H;dsimp only;have hnl:hn=L.length:=O.numN (fun _ _=>rfl) (by decide);have hpl:=Uw (n:=nn) (A:=A) (D:=D) (s:=s) (hp:=L);refine Ap (Ad (A9 U (Am qB (Ajl (H.get (k:=6) U)) U ?_)));rintro v w ⟨rfl,rfl⟩;refine Cp U U (qA (Av _ U ?_ ?_))
        .intro h5;replace h5:=AJ h5
         obtain⟨⟨d,v⟩,L1,rfl⟩:∃t L1,L=t::L1:=by
          cases L with
          |nil=>simp at hnl;omega
          |cons t L1=>exact⟨t,L1,rfl⟩
         obtain⟨q,rfl⟩:=O.form (by omega)
         have hmin:∀x∈L1,d<=x.1:=fun x hx=>by
          obtain⟨i,hi⟩:=qdj hx;have h:=hH.root (r:=(d,v)) rfl (i+1) x (by simpa using hi)
          rcases h with h|h
          .exact Int.le_of_lt h
          .exact Int.le_of_eq h.1
         have hvn:=MM.top hArcs;dsimp only at hvn;obtain⟨dv,hdv⟩:=qD (s.d v);have hgd:(tab s.d nn)[v]?=some dv:=by rw[Cd hvn,hdv]
         refine Aq (Aa (Ax (Ad (A9 U ?_))));have Hc:=Ctx.comm (L:=[_,_,_,_,_,_]) (L':=HB bh (some ⟨q,0,none⟩) hn c' full) H;refine Am qB (Ap8 (Ctx.lend (L1:=HB bh (some ⟨q,0,none⟩) hn c' full) (L2:=[_,_,_,_,_,_]) Hc) O hH) U ?_;rintro rv w ⟨rfl,f2,L2,hp2,hH2,O2,H2⟩;replace H:=Ctx.comm (L:=HB bh (some ⟨q,0,none⟩) L1.length c' f2) (L':=[_,_,_,_,_,_]) (Ctx.back (L1:=HB bh (some ⟨q,0,none⟩) hn c' full) (L2:=[_,_,_,_,_,_]) Hc H2);refine BN U (AF U U (AF U U (AF U U (Af U (Af U (Af U (qA ?_)))))));have MM2:MI A src nn 2199023256552 D s ((d,v)::L2):=MM.perm ((hp2.cons _).symm);have hmin2:∀x∈L2,d<=x.1:=fun x hx=>hmin x (hp2.mem_iff.1 hx);have hps3:psi nn A D s ((d,v)::L2)=psi nn A D s ((d,v)::L1):=QB (hp2.cons _);refine Ad (Ae U (AG Jt U H at0 U (AP U (Ah EP U (AG Cc U H at1 U (Ae U (Bq AR Bt U U ?_)))))))
         refine Ba Bm U (((CE (H.get at4)).fld hgd U (j:=0) U)) (Cj U U (qA (Av _ U ?_ ?_)))
         .intro h6;replace h6:=AJ h6;have he:(d,v).1=s.d (d,v).2:=by dsimp only;rw[<-hdv];exact h6
          obtain⟨La,hLa⟩:=qD (JK g l v);have hll:La.length<=400:=by rw[hLa];exact hsl v
          have hfold:∀k,(goP g pf s L2 (La.take k))=(((La.take k).map (Kk g pf)).foldl Kl (s,L2)):=fun k=>rfl
          have hgoes:∀k,DJ A src nn 2199023256552 (goP g pf s L2 (La.take k)).1:=fun k=>by
           rw[hfold];exact(MM2.go hArcs (by omega) (by omega) hmin2 he (l:=(La.take k).map (Kk g pf)) (l1:=(La.drop k).map (Kk g pf)) (by rw[<-qax,qbn,hLa];exact hAf v)).1
          obtain⟨M3,hps4⟩:=(MM2.go hArcs (by omega) (by omega) hmin2 he (l:=La.map (Kk g pf)) (l1:=[]) (by rw[qa4,hLa];exact hAf v)).2 rfl;have RO1:=RO.keep H.ext hidM;have RX:=hrow H.ext (fun _ h=>h) v hvn;have hgv:=hget v hvn;rw[<-hLa]at RX hgv;refine Ay (AG Jt U H at0 U (A9 U (Ae U ?_)));have Hc:=Ctx.comm (L:=[_,_,_,_]) (L':=GB od oh nn s bh (some ⟨q,0,none⟩) L1.length c' f2) H
          refine Am qB (Ajp (Ctx.lend (L1:=GB od oh nn s bh (some ⟨q,0,none⟩) L1.length c' f2) (L2:=[_,_,_,_]) Hc) O2 hH2 (H.get at1) (X1 (L:=[_,_,_,_]) H.nd (x:=(b36,_)) (qac (i:=1) U)) RO1.tbl (hnotL oo hooM (Ctx.left (L':=[_,_,_,_]) Hc)) hgv hvn RX (fun hne=>hnotL _ (hrowM v hvn (hLa ▸ hne)) (Ctx.left (L':=[_,_,_,_]) Hc)) (fun x hx=>by rw[hLa]at hx;have h7:=hselx v hvn x hx;have h8:=hlb x;exact⟨h7.1,h7.2.1,by omega,by omega⟩) (by simp only[qa6]at hnl hpl;omega) (fun k x _=>by have h7:=(hgoes k).dist (by omega) (by omega) x;exact⟨h7.1,by omega,by omega⟩)) U ?_;rintro rv w ⟨rfl,a3,hn3,c3,f3,L3,hp3,hH3,O3,H3⟩;replace H:=Ctx.comm (L:=GB od oh nn (goP g pf s L2 La).1 bh a3 hn3 c3 f3) (L':=[_,_,_,_]) (Ctx.back (L1:=GB od oh nn s bh (some ⟨q,0,none⟩) L1.length c' f2) (L2:=[_,_,_,_]) Hc H3);refine Ab (A7 (Aa ?_))
          have hps7:psi nn A d (goP g pf s L2 La).1 (goP g pf s L2 La).2+1<=psi nn A D s ((d,v)::L2):=hps4
          have hps5:psi nn A d (goP g pf s L2 La).1 L3+1<=psi nn A D s ((d,v)::L1):=by
           rw[QB hp3,<-hps3];exact hps7
          have hps6:=Uw (n:=nn) (A:=A) (D:=d) (s:=(goP g pf s L2 La).1) (hp:=L3);exact⟨⟨(goP g pf s L2 La).1,a3,hn3,c3,f3,L3,d⟩,rfl,trivial,⟨MI.perm M3 hp3.symm,hH3,O3,by dsimp only;omega,H⟩,by dsimp only;omega⟩
         .intro h6;replace h6:=AK h6;have hne:(d,v).1≠s.d (d,v).2:=by dsimp only;rw[<-hdv];exact h6
          obtain⟨M3,hps4⟩:=MM2.drop hArcs hmin2 hne;have hps6:=Uw (n:=nn) (A:=A) (D:=d) (s:=s) (hp:=L2);refine Aq (A7 (Aa ?_));exact⟨⟨s,some ⟨q,0,none⟩,L1.length,c',f2,L2,d⟩,rfl,trivial,⟨M3,hH2,O2,by dsimp only at hps4 |-;omega,H⟩,by dsimp only at hps4 |-;omega⟩
        .intro h5;replace h5:=AK h5;obtain rfl:L=[]:=qb5 (by omega);have DN:=MM.ends;have hsd:=fun v=>MM.dj.dist (by omega) (by omega) v;have hge:∀u,u<nn->g.u u=g.u u:=fun _ _=>rfl;have RO1:=RO.keep H.ext hidM;have hooG:=hnotL oo hooM H;have Hp4:=H.perm (qbu (l₁:=[_,_]) (l₂:=[_,_,_]++_));have hobM:∀u,u<nn->JK g l u≠[]->(adr (st u).a).block≠ob:=fun u hu hne e=>hnotL _ (hrowM u hu hne) H (by rw[e];exact qah.2 ⟨(ob,_),qac (i:=2) rfl,rfl⟩)
         refine Be (Aj (Aj (AH (Aa (Ad (AG Jt U H at0 U (Am qB (Ae5 (outL:=fun u=>JK g l u) (g:=g) (p:=pf) (s:=s) (H.get at2) (H.get at1) (H.get at4) (H.get at5) RO1.tbl (H.ne at1 at2 (by decide)) (H.ne at4 at2 (by decide)) (H.ne at5 at2 (by decide)) (fun e=>hooG (by rw[e];exact qah.2 ⟨(ob,_),qac (i:=2) rfl,rfl⟩)) (fun v=>by have h7:=hsd v;omega) (fun u hu=>⟨_,_,hget u hu,hrow H.ext (fun _ h=>h) u hu,hobM u hu,by have:=hsl u;omega,fun x hx=>by have h7:=hselx u hu x hx;have h8:=hlb x;exact⟨h7.1,h7.2.1,by omega,by omega,by omega⟩⟩)) U ?_)))))));rintro rv w ⟨rfl,by',BB,H3⟩;replace H:=Ctx.back (L1:=[_]) (L2:=[_,_,_,_,_]++_) Hp4 H3;refine qA (CN (fun x=>x=_) Bs U ?_);refine BS Jt U (by rintro _ rfl;exact H.drew) at1 U ?_;refine Bh U (A3 EP U (BS Cc U (by rintro _ rfl;exact H.drew) at2 U ?_))
         refine BS Jt U (by rintro _ rfl;exact H.drew) at1 U ?_;refine Bh U (A3 Lf U (BS GK U (by rintro _ rfl;exact H.drew) at2 U ?_));refine SM U U (SM U U (C6 U (BM ?_)));rintro _ rfl;replace H:=H.drew;refine A6 (Aju U U U U ?_);have hodlt:=hOLlt (od,_) (by rw[hOL];exact qac (i:=2) rfl);have hoblt:=hOLlt (ob,_) (by rw[hOL];exact qac (i:=4) rfl);dsimp only at hodlt hoblt
         have hall:∀a,a∈JK g l (g.u a)->a<2*g.E/\0<Da (CA es) (flE fl) a:=fun x hx=>by
          have h1:=(qbc.1 hx).1;rw[hlE]at h1;obtain⟨h2,h3⟩:=qbc.1 h1;exact⟨qaz.1 h2,qbd h3⟩
         have BY:=Ap9 (cap:=CA es) (x:=flE fl) (by rw[<-hA];exact DN) (by rw[<-hA];exact hArcs) BB hall (fun x h1 h2=>⟨by rw[<-hgN];exact hgo.u h1,qbc.2 ⟨by rw[hlE];exact qbc.2 ⟨qaz.2 h1,qal h2⟩,qal rfl⟩⟩);refine Iw (H.ext.to hD hidD) U fun wF hxF=>⟨od,ob,s,by',rfl,?_,?_,fun v=>?_,?_⟩
         .rw[hA,hg,hpf]at DN;exact DN
         .rw[hg,hpf]at BY;exact BY
         .rcases BB.val v with h|⟨x,h1,h2,-⟩
          .exact .inl h
          .exact .inr ⟨x,h1,by rw[<-hgE];exact(hall x h2).1⟩
         .refine((hB H).sub (L':=[(od,Bl 2 (Ce s.d nn)),(ob,Bl 3 (Ce by' nn))]) (fun x hx=>?_) ?_).step hxF (fun x hx=>?_) fun x hx => .inr ?_
          .simp only[qag,qar,or_false]at hx
           rcases hx with rfl|rfl
           .exact qac (i:=4) U
           .exact qac (i:=0) U
          .simp only[qbb,qab,forall_eq,qar,false_imp_iff,implies_true,List.Pairwise.nil,and_true];exact H.ne at4 at0 (by decide)
          .simp only[qag,qar,or_false]at hx;rw[qab]
           rcases hx with rfl|rfl
           .dsimp only;omega
           .dsimp only;omega
          .rw[qab.1 hx];exact hs07
theorem OS.setf{α:Type}{a:Option Addr}{n c s:Nat}{full:List Value}{enc:α->List Value}{L:List α}(O:OS a n c s full (L.flatMap enc))(hs:∀x,(enc x).length=s){i j:Nat}{x y:α}{v:Value}(hx:L[i]?=some x)(hj:j<s)(hy:enc y=(enc x).set j v):OS a n c s (full.set (i*s+j) v) ((L.set i y).flatMap enc):=by
 refine⟨O.zero,O.none',by rw[qb4];exact O.len,O.le,?_⟩;rw[O.split,Aji (fun z _=>hs z) hx hj hy];have h1:=O.llen;rw[FE fun z _=>hs z]at h1;exact qct (by rw[FE fun z _=>hs z,qb4,h1])
def edC(es:List Ed)(c:Nat->Int)(i:Nat):Ed:={ es.getD i e0 with cap:=c i }
def esC(es:List Ed)(c:Nat->Int):List Ed:=(List.range es.length).map (edC es c)
theorem Ko(es:List Ed)(c:Nat->Int):(esC es c).length=es.length:=by unfold esC;simp
theorem Kp{es:List Ed}{c:Nat->Int}{i:Nat}(h:i<es.length):(esC es c)[i]?=some (edC es c i):=Ei h
theorem LO{es:List Ed}{c d:Nat->Int}(h:∀i,i<es.length->c i=d i):esC es c=esC es d:=qbi fun i hi=>by unfold edC;rw[h i (qaz.1 hi)]
theorem YM{es:List Ed}{c d:Nat->Int}{i:Nat}{e:Ed}(he:edC es d i=e)(h:∀j,j<es.length->j≠i->d j=c j):(esC es c).set i e=esC es d:=J5 he fun j hj hn=>by unfold edC;rw[h j hj hn]
theorem QH(es:List Ed):esC es (CA es)=es:=by
 refine qb2 fun i=>?_
 rcases qap i es.length with h|h
 .obtain⟨e,he⟩:=AB (h:=h);rw[Kp h,he];unfold edC CA;rw[Br he]
 .rw[qba (by rw[Ko];exact h),qba h]
theorem Aqa{es:List Ed}{c:Nat->Int}{i:Nat}(h:i<es.length):CA (esC es c) i=c i:=by
 unfold CA;rw[Br (Kp h)];rfl
theorem grE_C(N:Int)(es:List Ed)(c:Nat->Int):grE N (esC es c)=grE N es:=by
 have h:∀i,((esC es c).getD i e0).f=(es.getD i e0).f/\((esC es c).getD i e0).t=(es.getD i e0).t/\((esC es c).getD i e0).cost=(es.getD i e0).cost:=fun i=>by
  rcases qap i es.length with h|h
  .rw[Br (Kp h)];exact⟨rfl,rfl,rfl⟩
  .rw[qby,qba (by rw[Ko];exact h),qby,qba h];exact⟨rfl,rfl,rfl⟩
 unfold grE;rw[Ko]
 congr 1
 .funext i;rw[(h i).1]
 .funext i;rw[(h i).2.1]
 .funext i;rw[(h i).2.2]
theorem Td{α:Type}{f g:α->Nat}:∀{l:List α},(∀x∈l,f x<=g x)->(l.map f).sum<=(l.map g).sum
 | [],_=>qan _
 |x::l,h=>by
  have h1:=h x (qaj ..);have h2:=Td (l:=l) fun y hy=>h y (qai _ hy);simp only[qau,List.sum_cons];omega
theorem YN{N:Int}{es:List Ed}{c:Nat->Int}(h:Cv N es=true)(hc:∀i,i<es.length->0<=c i/\c i<=CA es i):Cv N (esC es c)=true:=by
 obtain⟨h1,h2,h3,h4,h5⟩:=CB h
 have h6:Fh (esC es c)<=Fh es:=by
  have e1:Fh es=((List.range es.length).map fun i=>GC (es.getD i e0)).sum:=by
   conv=>lhs;rw[<-QH es]
   unfold Fh esC;rw[qb8]
   congr 1
  have e2:Fh (esC es c)=((List.range es.length).map fun i=>GC (edC es c i)).sum:=by
   unfold Fh esC;rw[qb8]
   congr 1
  rw[e1,e2];refine Td fun i hi=>?_;have h7:=hc i (qaz.1 hi);unfold GC edC;dsimp only;exact qcr _ (by unfold CA at h7;omega)
 have h7:(esC es c).all (EL N)=true:=qas.2 fun e he=>by
  obtain⟨i,hi,rfl⟩:=qah.1 he;have hil:=qaz.1 hi;obtain⟨e,he⟩:=AB (h:=hil);have h8:=Em (h4 e (qac he));have h9:=hc i hil;unfold CA at h9;rw[Br he]at h9;unfold edC EL IF;rw[Br he];dsimp only;simp only[qae,qam];omega
 unfold Cv;rw[h7,Ko];simp only[qae,qam];exact⟨⟨h1,h2⟩,h3,trivial,by omega⟩
theorem Afc{N:Int}{es:List Ed}{c x:Nat->Int}(h:Cv N es=true)(hc:∀i,i<es.length->0<=c i/\c i<=CA es i)(hx:∀i,i<es.length->0<=x i/\x i<=c i):Cf N (esC es c) (tab x es.length)=true:=by
 unfold Cf;rw[YN h hc,CY,Ko,qal rfl];refine qas.2 fun b hb=>?_;obtain⟨i,hi⟩:=qdj hb
 have hil:i<es.length:=by
  have:=Cb hi;rw[qck,Ko,CY]at this;omega
 rw[M8 (Kp hil) (Cd hil)]at hi;obtain rfl:=qaq hi;have:=hx i hil;unfold inB edC;simp only[qae,qam,id_eq];omega
def GW(es:List Ed)(k i:Nat):Int:=(((CA es i).toNat / 2 ^ k:Nat):Int)
theorem P8{N:Int}{es:List Ed}(h:Cv N es=true)(k:Nat):∀i,i<es.length->0<=GW es k i/\GW es k i<=CA es i:=fun i hi=>by
 obtain⟨e,he⟩:=AB (h:=hi);have h8:=Em ((CB h).2.2.2.1 e (qac he));have h9:(CA es i).toNat / 2 ^ k<=(CA es i).toNat:=Nat.div_le_self _ _;have h7:0<=CA es i:=by unfold CA;rw[Br he];omega
 unfold GW;obtain⟨z,hz⟩:=qD ((CA es i).toNat / 2 ^ k);rw[<-hz]at h9 |-;omega
theorem Te(es:List Ed)(k i:Nat):2*GW es (k+1) i<=GW es k i/\GW es k i<=2*GW es (k+1) i+1:=by
 have h:(CA es i).toNat / 2 ^ (k+1)=((CA es i).toNat / 2 ^ k) / 2:=by rw[Nat.pow_succ,Nat.div_div_eq_div_mul]
 unfold GW;rw[h];obtain⟨z,hz⟩:=qD ((CA es i).toNat / 2 ^ k);rw[<-hz];omega
theorem Aai{N:Int}{es:List Ed}(h:Cv N es=true):∀i,i<es.length->GW es 0 i=CA es i:=fun i hi=>by
 have h7:=P8 h 0 i hi;unfold GW at h7 |-;rw[Nat.pow_zero,Nat.div_one]at h7 |-;omega
theorem P9{N:Int}{es:List Ed}(h:Cv N es=true):∀i,i<es.length->0<=CA es i/\CA es i<=4503599627370496:=fun i hi=>by
 obtain⟨e,he⟩:=AB (h:=hi);have h8:=Em ((CB h).2.2.2.1 e (qac he));unfold CA;rw[Br he];omega
theorem Ob{g:Gr}{cap cap' x p:Nat->Int}(h:Fine g cap x p)(hc:∀i,i<g.E->cap' i=cap i):Fine g cap' x p:=by
 refine⟨fun i hi=>by rw[hc i hi];exact h.in' i hi,fun a ha hr=>h.fit a ha ?_⟩;unfold Da at hr |-;rw[hc _ (by omega)]at hr;exact hr
theorem YO{g:Gr}{x:Nat->Int}(hx:∀i,i<g.E->0<=x i/\x i<=4503599627370496)(v:Nat)(hE:g.E<=200:=by omega): -900719925474099200<=BP g x v/\BP g x v<=900719925474099200:=by
 have h:=JF (g:=g) (x:=x) (c:=4503599627370496) v (k:=g.E) hx;have h2:(g.E:Int)*4503599627370496<=200*4503599627370496:=by omega
 unfold BP;omega
end Go.Proofs.YtdagmpmdcgedcaaGreat
