/- Part 7 of the proof. -/
import Derived.Test.YtfnfnmgilmejmaaGreatPart6
set_option maxRecDepth 20000
set_option maxHeartbeats 8000000
namespace Go.Proofs.YtfnfnmgilmejmaaGreat
open Go.GV Go.Proofs.Tryz
attribute [local irreducible] A4 W Wq Wt
variable{kk:Int}{es:List Ed}{full:List Value}{N a a' b b' bf bo bp bs c ce hi i j l lo m n o p q r x y z:Nat}{f g h ov:Nat->Int}{ae:Option Addr}{w:World}
def YR(cap x:Nat->Int)(l:List Nat)(m:Int):Int:=l.foldl (fun m a=>min m (C3 cap x a)) m
def R9(es:List Ed)(n:Nat)(x p ov:Nat->Int)(b:Bool)(x' p' ov':Nat->Int):Prop :=
 (Gm ov n=[]/\b=false/\x'=x/\p'=p/\ov'=ov) \/
 (Gm ov n≠[]/\b=true/\∃(s:Lb) (by':Nat->Int) (tv f0:Nat) (l:List Nat) (m:Int),Done (K8 (grE (n:Int) es) (Ck es) x p) (Gm ov n) (grE (n:Int) es).N 2199023256552 s/\WaysX (grE (n:Int) es) (Ck es) x p s by'/\YJ ov s.d n (tv:Int)/\l=DC (byO by') (grE (n:Int) es) (s.h tv) tv/\f0=OC (grE (n:Int) es) tv l /\
  m=min (YR (Ck es) x l (-ov tv)) (ov f0)/\x'=Fa m x l/\p'=narF es n x' (fun v=>p v+KA s.d (s.d tv) v)/\ov'=upd (upd ov f0 (ov f0 - m)) tv (ov tv+m))
theorem Ac9{x p:Nat->Int}(H0:Ctx w ((SL bs bf bp bo N ae es.length ce kk x p ov full).map (·.1)) w<|SL bs bf bp bo N ae es.length ce kk x p ov full)(O:OS ae es.length ce 4 full (es.flatMap Co))(hr:Cd (N:Int) es=true)(hF:Fine (grE (N:Int) es) (Ck es) x p)(hov:∀v,v<N->ov v=BJ (grE (N:Int) es) x v)(hpb:∀v,v<N -> -1073741824<=p v/\p v<=1073741824)(hxn:flE (tab x es.length)=x)(hpn:E7 (tab p N)=p) :
  Ret prog 200 #[ptr bs] w fun v w'=>∃(b:Bool) (x' p' ov':Nat->Int) (kk':Int),v=.bool b/\Ctx w ((SL bs bf bp bo N ae es.length ce kk x p ov full).map (·.1)) w' (SL bs bf bp bo N ae es.length ce kk' x' p' ov' full)/\Fine (grE (N:Int) es) (Ck es) x' p'/\(∀v,v<N->ov' v=BJ (grE (N:Int) es) x' v)/\(∀v,v<N -> -1073741824<=p' v/\p' v<=1073741824) /\
   (b=false->∀v,v<N->BJ (grE (N:Int) es) x' v<=0)/\(b=true->GF (grE (N:Int) es) x'+1<=GF (grE (N:Int) es) x)/\R9 es N x p ov b x' p' ov':=by
 obtain⟨w0,rfl⟩:=qD w;obtain⟨ids,hids⟩:=qD<|(SL bs bf bp bo N ae es.length ce kk x p ov full).map (·.1);rw[<-hids]at H0 |-;have H:=H0;obtain⟨hN1,hN40,hn200,hall,-⟩:=Cr hr;have hI:I64 (N:Int):=by unfold I64;omega
 have hw:=LU hr hF;have hpot:=Ac7 hpb;have hfit:Hg (N:Int) es (tab x es.length) (tab p N)=true:=PY hw hpot (by rw[hxn,hpn];exact hF);obtain⟨hsrc,hsnd,hsm⟩:=Ai0 (ov:=ov) (N:=N);have hRe:∀{z:World},(∀y∈ent ae 195 full,z.heap[y.1]?=some y.2)->Rd z ae 4 Co es:=fun h=>O.rd h (fun _ _=>rfl) (by decide);obtain⟨g,hg⟩:=qD<|grE (N:Int) es;have hgE:g.E=es.length:=by rw[hg];rfl
 have hgN:g.N=N:=by rw[hg];rfl
 have hgo:g.Ok:=by rw[hg];exact JW hr
 have hxb:=hF.in';rw[<-hg]at hF hov hxb |-;rw[hgE]at hxb;have hcb:=Mp hr
 have hovb:∀v,v<N -> -900719925474099200<=ov v/\ov v<=900719925474099200:=fun v hv=>by
  rw[hov v hv];exact UV (fun i hi=>by have h1:=hxb i (by omega);have h2:=hcb i (by omega);omega) v
 refine Gx (fn:=f200) func200 U [.pointer<|some ⟨bs,0,none⟩] U ?_;refine Af<|Be _ (.pointer _) U U H ?_;rintro b1 w - H;refine A5 U<|qA<|Af<|Bh qf U H at0 U<|Aj qB (TF (H.get at1)<|H.get (k:=4) U) U ?_;rintro v w ⟨⟨fr,fn,fc,ff,rfl,Of,hbf⟩,hx14⟩;have hfn:=Of.num;subst hfn;have Rs:Rd w fr 1 I1 ((Gm ov N).map fun v:Nat=>(v:Int)):=Rd.map<|Of.rd1 (f:=iN) fun y hy=>(hbf y hy).1;replace H:=H.call hx14;refine AP U<|qA<|AB<|Af<|AH U<|Cp qf U<|Ct U U<|qA<|iB U ?_ ?_
 .intro h1;refine Af<|A5 U<|qA<|Bf<|AD<|Kt (v:=(.bool _)) U U ?_;have hp0:Gm ov N=[]:=qck (by omega);have H2:=H.tail;refine⟨false,x,p,ov,kk,rfl,H2,hF,hov,hpb,fun _ v hv=>?_,(fun h=>by cases h),.inl ⟨hp0,rfl,rfl,rfl,rfl⟩⟩;rw[<-hov v hv]
  rcases qcn 0 (ov v)with h|h
  .have:=(hsm v).2 ⟨hv,h⟩;rw[hp0]at this;cases this
  .exact h
 .intro h1;have hs0:0<(Gm ov N).length:=by omega
  refine A1<|Aa<|BG [([0,1,2,3,4,5,6,7,8,9,10,11,12],13),([14,15,16,17,18,19],20)] (fun z=>z.heap[b1]?=some (Bl 259 [ptr bs])/\z.heap[bs]?=some (Bl 261 (SC N ae es.length ce bf bp bo kk))) [] AW (⟨H.drew.get at0,H.drew.get at1⟩) ?_;refine A0 U U<|AU qf U (fun _ hx=>(by rw[Ai hx.1];rfl)) ?_;refine A7 U<|Ah qf U<|EZ _ qf qf U U (fun _ hx=>(HX hx.2)) ?_;refine AU qf U (fun _ hx=>(by rw[Ai hx.1];rfl)) ?_;refine A7 U<|Ah qf U<|AU qf U (fun _ hx=>(by rw[Ai hx.2];rfl)) ?_;refine AU qf U (fun _ hx=>(by rw[Ai hx.1];rfl)) ?_;refine A7 U<|Ah qf U<|AU qf U (fun _ hx=>(by rw[Ai hx.2];rfl)) ?_;refine Bq U<|A6 ?_;replace H:=H.drew
  refine Aj qB (Ac6 (N:Int) ae (some ⟨bf,0,none⟩) (some ⟨bp,0,none⟩) fr es.length ce es.length es.length N N fc es (tab x es.length) (tab p N) (Gm ov N) _ (hRe fun y hy=>H.blk y<|qap [_,_,_,_,_] hy) U hI (Cv<|H.get at2) (CP _ _) (Cv<|H.get at3) (CP _ _) (Rs.ext0<|Ext.drew [] _) hfit hsrc hsnd hs0) U ?_;rintro rv w ⟨od,ob,s,by',hrv,DN,BY,hby,WX,H3⟩;rw[qa7]at hrv DN H3;subst hrv;replace H:=Ctx.back (L1:=[]) (L2:=_::_::_::_::_::_) H H3;refine Ab<|Bv (⟨H.get at2,H.get at3⟩)<|A0 U U ?_;refine CK U<|AZ U U<|AZ U U<|AZ U U<|DA U<|DA U<|A6<|Ag U<|Ab<|Bv (⟨H.get at2,H.get at3⟩)<|Bu ?_;refine AB<|Af<|Ad U<|CV U U<|qA<|iB U ?_ ?_
  .intro h2;exact absurd h2<|by decide
  .intro h2;have hlow:=DN.J.low;have hds:∀v,v∈Gm ov N->s.d v=0/\s.h v=0:=fun v hv=>(DN.J.src' v hv).2;rw[<-hg,hxn,hpn]at DN BY WX;rw[<-hgN]at DN;refine A1<|Aa<|Af<|Bh qf U H at2 U<|AH U<|Aj qB (TG (H.get at3) (H.get at6)<|H.get at0) U ?_;rintro rv w ⟨⟨to,rfl,hto⟩,rfl⟩;refine Ag U<|qA<|AB<|Af<|Ad U<|CH U U<|qA<|iB U ?_ ?_
   .intro h3;exfalso
    rcases hto with⟨h,h7⟩|⟨tv,_,h,-,-,-⟩
    .obtain⟨v0,hv0⟩:=Au (h:=hs0);have hm:=qad hv0;have h8:=(hsm v0).1 hm;obtain⟨z,hz1,hz2,hz3⟩:=reach hgo hF DN (v:=v0) (by omega) (by rw[(hds v0 hm).1];omega) (by rw[<-hov v0 h8.1];exact h8.2);rw[hgN]at hz1;exact h7 z hz1 ⟨by rw[hov z hz1];exact hz3,(hlow z).resolve_left hz2⟩
    .omega
   .intro h3;have hnear:=hto
    obtain⟨tv,htv,rfl,hov0,hd0⟩:∃tv:Nat,tv<N/\to=tv/\ov tv<0/\0<=s.d tv:=by
     rcases hto with⟨h,_⟩|⟨q,h5,h6,h7,h8,-⟩
     .omega
     .exact⟨q,h5,h6,h7,h8⟩
    have hdt:s.d tv ≠ -1:=by omega
    have hovt:=hovb tv htv;have hgot:(tab ov N)[tv]?=some (ov tv):=BP htv;refine A1<|Aa<|Dk 4494803534349056 (α:=Nat × Nat) (fun z=>[(8,ptr z.1),(9,ptr z.2)]) (fun z w'=>Ctx w0 ids w' ((z.1,Bl 3 [.int .i64 (tv:Int)])::(z.2,Bl 2 [.int .i64 (-ov tv)])::(od,Bl 2 (BF s.d N))::(ob,Bl 3 (BF by' N))::(b1,Bl 259 [ptr bs])::SL bs bf bp bo N ae es.length ce kk x p ov full)) U ?_ ?_
    .skip
     refine Km (.two [0,1,2,3,4,5,6,7,8] 9 (.one [] 10 (.one [] 11 (.one [] 12 .stop))) 10 (.one [] 9 (.one [] 11 (.one [] 12 .stop)))) (fun z=>z.heap[b1]?=some (Bl 259 [ptr bs])/\z.heap[bs]?=some (Bl 261 (SC N ae es.length ce bf bp bo kk))/\z.heap[bo]?=some (Bl 2 (BF ov N))) AW (⟨H.drew.get at2,H.drew.get at3,H.drew.get at6⟩) ?_;refine F6 U U U<|AG U<|AU qf U (fun _ hx=>(by rw[Ai hx.1];rfl)) ?_;refine A7 U<|Ah qf U<|AU qf U (fun _ hx=>(by rw[Ai hx.2.1];rfl)) ?_;refine AG U<|AA qf qf U U ?_;refine AU qf U (fun _ hx=>((Cv hx.2.2).fld hgot rfl (j:=0) rfl))<|Ob U U ?_;refine A6 ?_;replace H:=H.drew;refine⟨?_,?_⟩
     .skip
      refine AN qf H ?_;rintro b8 w - H;refine Ab<|B3 (⟨H.get at3,H.get at4,H.get at7⟩)<|B1 U U ?_;refine A6<|AN qf H ?_;rintro b9 w - H;refine Ab<|B3 (⟨H.get at4,H.get at5,H.get at8⟩)<|B1 U U ?_;refine A6<|Ch (.int _ _) qf U U U H at1 (by decide) ?_;rintro w H;refine Ab<|B3 (⟨H.get at4,H.get at5,H.get at8⟩)<|B1 U U ?_;refine A6<|Ch (.int _ _) qf U U U H at0 (by decide) ?_;rintro w H;refine Ab<|B3 (⟨H.get at4,H.get at5,H.get at8⟩)<|Db ?_;refine Aa ?_;exact⟨(b8,b9),rfl,⟨rfl,rfl,trivial⟩,H.perm<|List.Perm.swap ..⟩
     .skip
      refine AN qf H ?_;rintro b9 w - H;refine Ab<|B3 (⟨H.get at3,H.get at4,H.get at7⟩)<|B1 U U ?_;refine A6<|AN qf H ?_;rintro b8 w - H;refine Ab<|B3 (⟨H.get at4,H.get at5,H.get at8⟩)<|B1 U U ?_;refine A6<|Ch (.int _ _) qf U U U H at0 (by decide) ?_;rintro w H;refine Ab<|B3 (⟨H.get at4,H.get at5,H.get at8⟩)<|B1 U U ?_;refine A6<|Ch (.int _ _) qf U U U H at1 (by decide) ?_;rintro w H;refine Ab<|B3 (⟨H.get at4,H.get at5,H.get at8⟩)<|Db ?_;refine Aa ?_;exact⟨(b8,b9),rfl,⟨rfl,rfl,trivial⟩,H⟩
    .rintro⟨b8,b9⟩ j w H;dsimp only at H;dsimp only;obtain⟨path,hpath⟩:=qD<|DC (byO by') g (s.h tv) tv;have BY':Bys g (Ck es) x p s (byO by'):=BY;obtain⟨q1,q2,q3,q4⟩:=Jx BY' hdt rfl;have hpe:=MW BY' hdt rfl;have hwp:=OE BY' hdt rfl;rw[<-hpath]at q1 hpe hwp;have hsd0:=fun v=>DN.J.dist (by omega) (by omega) v;refine AB<|Af<|Bh qf U H at4 U<|AH U<|Ad U ?_;have hlt:=Ctx.ltI H;have hwb0:=H.size;refine Aj qB (Ru _ _ (some ⟨ob,0,none⟩) N N bs (tv:Int) _ U U) U ?_;rintro rv w ⟨b3,b4,b5,rfl,hb3,hb4,hb5,s3,s4,s5,n53,n54,hx55⟩;replace H:=H.call hx55;refine qA<|AK ?_;obtain⟨ws,rfl⟩:=qD w;have l3:=AX hb3;have l4:=AX hb4;have l5:=AX hb5;have hwsz:=H.size;have h05:w0.heap.size<=b5:=qa3 hwb0 s5;have n8:=hlt b8<|qah ..;have n9:=hlt b9 (qae _<|qah ..)
     refine MP (gf:=264) U qB (Rz (b3:=b3) (b4:=b4) (b5:=b5) (bs:=bs) (ob:=ob) (N:=N) (ae:=ae) (ce:=ce) (bf:=bf) (bp:=bp) (bo:=bo) (kk:=kk) (es:=es) (by':=by') (x:=x) (p:=p) (s:=s) hw (by rw[<-hg];exact BY') hby htv hdt U) (by kernel_rfl) (by kernel_rfl) (fun v hv=>by obtain⟨p,-,rfl⟩:=qak.1 hv;rfl)
      (fun i M w'=>(M=fun y=>y=b8\/y=b9)/\(∃mo:Int,Ctx w0 ids w' ((b8,Bl 3 [.int .i64 ((OC g tv (path.take i):Nat):Int)])::(b9,Bl 2 [.int .i64<|mo])::(od,Bl 2 (BF s.d N))::(ob,Bl 3 (BF by' N))::(b1,Bl 259 [ptr bs])::SL bs bf bp bo N ae es.length ce kk (x) (p) (ov) full)/\0<mo/\mo <= -ov tv/\(∀a∈path.take i,mo<=C3 (Ck es) x a)/\mo=YR (Ck es) x (path.take i) (-ov tv))/\w'.heap[b3]?=some (Bl 259 [ptr bs])/\w'.heap[b4]?=some (Bl 282 [.slice (some ⟨ob,0,none⟩) N N]))
      (fun _=>False) (by simp only[qab];omega) (fun w2 hx2=>hx2.to hb5<|by simp)
      (fun w2 hx2 _=>⟨_,rfl,⟨-ov tv,H.call hx2,by omega,qa4 _,(fun a ha=>by cases ha),rfl⟩,hx2.to hb3<|by simp,hx2.to hb4<|by simp⟩)
      (fun i M w' w'' hJ hx=>?_) (fun _ _ h _=>h) (fun i M w' hJ=>?_) ?_ ?_ (fun _ h _=>h.elim)
     .obtain⟨hM,⟨mo,HJ,m1,m2,m3,m4⟩,g3,g4⟩:=hJ;refine⟨hM,⟨mo,HJ.step hx (fun y hy=>?_) fun z hz => .inr ?_,m1,m2,m3,m4⟩,hx.to g3 ?_,hx.to g4 ?_⟩
      .have h7:=qa6 (f:=(·.1)) hy;have:=hlt y.1 h7;simp only[qaf,qan,or_false];omega
      .simp only[qaf,qan,or_false]at hz;omega
      .simp only[qaf,qan,or_false];omega
      .simp only[qaf,qan,or_false];omega
     .obtain⟨hM,⟨mo,HJ,m1,m2,m3,m4⟩,g3,g4⟩:=hJ;refine⟨fun y hy=>?_,g4,g3,HJ.get at5,HJ.get at3,hRe fun y hy=>HJ.blk y<|qap [_,_,_,_,_,_,_,_,_] hy,?_⟩
      .rw[hM]at hy
       rcases hy with rfl|rfl
       .exact⟨AX<|HJ.get at0,by omega,by omega⟩
       .exact⟨AX<|HJ.get at1,by omega,by omega⟩
      .rw[hM];dsimp only;omega
     .rintro i v _ w hxv ⟨rfl,⟨mo,HJ,m1,m2,m3,m4⟩,g3,g4⟩ hsz;rw[<-hg,<-hpath,qa9]at hxv;obtain⟨a,ha,rfl⟩:=qdc.1 hxv;obtain⟨hWa,-⟩:=q1 a<|qad ha;have hWlt:=hWa.lt;obtain⟨-,hR,-⟩:=Ng hw (k:=a) (by omega);obtain⟨w1,rfl⟩:=qD w;refine Af<|Ag U<|qA<|Aw<|Ag U<|Ab ?_;refine⟨Ext.refl _ _,fun wB hxB=>?_⟩;have HB:=HJ.step hxB (fun y hy=>by have h7:=qa6 (f:=(·.1)) hy;have:=hlt y.1 h7;rw[qab];omega) fun z hz => .inr (by rw[qab.1 hz];omega);have e3:=hxB.to g3 (by rw[qab];omega);have e4:=hxB.to g4 (by rw[qab];omega);have k1:=HB.get at4;have ks:=HB.get at5;have kf:=HB.get at6;have hn1:=FV (L:=[_,_]) HB.nd (x:=(b1,_))<|qad (i:=2) rfl;have hns:=FV (L:=[_,_]) HB.nd (x:=(bs,_)) (qad (i:=3) rfl)
      have hnf:=FV (L:=[_,_]) HB.nd (x:=(bf,_))<|qad (i:=4) rfl;have hke:∀y∈ent ae 195 full,wB.heap[y.1]?=some y.2/\y.1∉[b8,b9]:=fun y hy=>⟨HB.blk y<|qap [_,_,_,_,_,_,_,_,_] hy,FV (L:=[_,_]) HB.nd<|qap [_,_,_,_,_,_,_] hy⟩;obtain⟨w2,rfl⟩:=qD wB;have H:=Ctx.lend (L1:=[_,_]) (L2:=_::_::_::_::_::_::_::_) HB;refine AK<|Eb [([0,1,2,3,4,5,6,7,8,9,10],11),([12],13),([],14)] (fun z=>z.heap[b9]?=some (Bl 2 [.int .i64 mo])/\z.heap[b1]?=some (Bl 259 [ptr bs])/\z.heap[bs]?=some (Bl 261 (SC N ae es.length ce bf bp bo kk))) [14] AW (⟨H.drew.get at1,H.drew.ext.to k1 hn1,H.drew.ext.to ks hns⟩) ?_;refine A0 U U<|AG U<|AU qf U (fun _ hx=>(by rw[Ai hx.1];rfl)) ?_;refine AU qf U (fun _ hx=>(by rw[Ai hx.2.1];rfl)) ?_;refine A7 U<|Ah qf U<|EZ _ qf qf U U (fun _ hx=>(HX hx.2.2)) ?_
      refine AU qf U (fun _ hx=>(by rw[Ai hx.2.1];rfl)) ?_;refine A7 U<|Ah qf U<|AU qf U (fun _ hx=>(by rw[Ai hx.2.2];rfl)) ?_;refine AG U<|A6 ?_;replace H:=H.drew;refine Aj qB (PV (N:Int) ae (some ⟨bf,0,none⟩) es.length ce es.length es.length es (tab x es.length) _ (hRe fun y hy=>H.ext.to (hke y hy).1 (hke y hy).2) U hI (Cv<|H.ext.to kf hnf) (CP _ _) (a:Int)) U ?_;rintro v w ⟨rfl,hx69⟩;replace H:=H.call hx69;rw[hR];refine Ab<|Bv (⟨H.get at1,H.ext.to k1 hn1,H.ext.to ks hns⟩)<|A0 U U ?_;refine X7 U U U<|A6<|Ch (.int _ _) qf U U U H at0 (by(simp;done)) ?_;rintro w H;refine Ab<|Bv (⟨H.get at1,H.ext.to k1 hn1,H.ext.to ks hns⟩)<|A0 U U ?_;refine A6<|Ch (.int _ _) qf U U U H at1 (by(simp;done)) ?_;rintro w H;refine Ab<|Bw U<|Bu<|Av ?_;have hrm:=hWa.room;have HH:=Ctx.back (L1:=[_,_]) (L2:=_::_::_::_::_::_::_::_) HB H
      refine⟨_,⟨rfl,⟨min mo<|C3 (Ck es) x a,by rw[Wf ha];exact HH,by omega,by omega,fun a' ha'=>?_,by unfold YR at m4 |-;rw[EA ha,qdr,<-m4];rfl⟩,H.ext.to e3 (by simp only[qas,qbv,qaf,qan,or_false];omega),H.ext.to e4 (by simp only[qas,qbv,qaf,qan,or_false];omega)⟩,fun x hx => .inl hx,_,H.ext,fun x hx => .inl (by simpa using hx)⟩;rw[EA ha]at ha'
      rcases qa2.1 ha' with h|h
      .have:=m3 a' h;omega
      .rw[qab.1 h];omega
     .rintro M w ⟨-,⟨mo,HJ,m1,m2,m3,m4⟩,-,-⟩ hD;have hxl:(List.map (YN<|grE (N:Int) es)<|DC (byO by') (grE (N:Int) es) (s.h tv) tv).length=path.length:=by rw[qaj,<-hg,<-hpath]
      rw[hxl,qba]at HJ m3 m4;obtain⟨f0,hf0⟩:=qD<|OC g tv path;rw[<-hf0]at HJ hwp;rw[<-hwp]at q3 q4;have hf0s:=(hsm f0).1 (by have h7:=DN.J.zero f0 q3 q4;rw[hgN]at h7;exact h7);have hovf:=hovb f0 hf0s.1;have hgof:(tab ov N)[f0]?=some (ov f0):=BP hf0s.1;have H:=HJ.add hD (.inr hwsz) (fun y hy e=>by have h7:=qa6 (f:=(·.1)) hy;have:=hlt y.1 h7;omega);refine Av<|Aa<|De 9 AW U U ?_;refine B7 qf U (by rintro _ rfl;exact H.drew) at2 U ?_;refine B7 qf U (by rintro _ rfl;exact H.drew) at5 U ?_;refine Bc U<|Aq qf U<|B7 qf U (by rintro _ rfl;exact H.drew) at6 U ?_;refine B7 qf U (by rintro _ rfl;exact H.drew) at1 U ?_;refine Bt qf qf U U ?_;refine BD qf U (by rintro _ rfl;exact(((Cv<|H.drew.get at9).fld hgof rfl (j:=0) rfl))) ?_;refine Afn U U U<|Cc ?_;replace H:=H.drew
      refine Ch (.int _ _) qf U U U H at2 (by(simp;done)) ?_;rintro w H;refine qA<|AB ?_;obtain⟨mm,hmm⟩:=qD<|min mo<|ov f0;rw[<-hmm]at H;have hmm0:0<mm/\mm<=ov f0/\mm <= -ov tv:=by omega
      refine Af<|Bh qf U H at5 U<|AH U<|Ad U ?_;have hlt2:=Ctx.ltI H;have hwb2:=H.size;refine Aj qB (Ru _ _ (some ⟨ob,0,none⟩) N N bs (tv:Int) _ U U) U ?_;rintro rv w ⟨c3,c4,c5,rfl,hc3,hc4,hc5,t3,t4,t5,nc53,nc54,hx83⟩;replace H:=H.call hx83;refine qA<|AK ?_;obtain⟨wt,rfl⟩:=qD w;have j3:=AX hc3;have j4:=AX hc4;have j5:=AX hc5;have hwtz:=H.size;have nbf:=hlt2 bf<|qad (i:=7) rfl
      refine MP (gf:=264) U qB (Rz (b3:=c3) (b4:=c4) (b5:=c5) (bs:=bs) (ob:=ob) (N:=N) (ae:=ae) (ce:=ce) (bf:=bf) (bp:=bp) (bo:=bo) (kk:=kk) (es:=es) (by':=by') (x:=x) (p:=p) (s:=s) hw (by rw[<-hg];exact BY') hby htv hdt U) (by kernel_rfl) (by kernel_rfl) (fun v hv=>by obtain⟨p,-,rfl⟩:=qak.1 hv;rfl)
       (fun i M w'=>(M=fun y=>y=bf)/\Ctx w0 ids w' ((ws.heap.size,.deferred<|some [])::((b8,Bl 3 [.int .i64 (f0:Int)])::(b9,Bl 2 [.int .i64<|mm])::(od,Bl 2 (BF s.d N))::(ob,Bl 3 (BF by' N))::(b1,Bl 259 [ptr bs])::SL bs bf bp bo N ae es.length ce kk (Fa mm x<|path.take i) (p) (ov) full))/\w'.heap[c3]?=some (Bl 259 [ptr bs])/\w'.heap[c4]?=some (Bl 282 [.slice (some ⟨ob,0,none⟩) N N]))
       (fun _=>False) (by simp only[qab];omega) (fun w2 hx2=>hx2.to hc5<|by simp)
       (fun w2 hx2 _=>⟨_,rfl,H.call hx2,hx2.to hc3<|by simp,hx2.to hc4<|by simp⟩)
       (fun i M w' w'' hJ hx=>?_) (fun _ _ h _=>h) (fun i M w' hJ=>?_) ?_ ?_ (fun _ h _=>h.elim)
      .obtain⟨hM,HJ,g3,g4⟩:=hJ;refine⟨hM,HJ.step hx (fun y hy=>?_) fun z hz => .inr ?_,hx.to g3 ?_,hx.to g4 ?_⟩
       .have h7:=qa6 (f:=(·.1)) hy;have:=hlt2 y.1 h7;simp only[qaf,qan,or_false];omega
       .simp only[qaf,qan,or_false]at hz;omega
       .simp only[qaf,qan,or_false];omega
       .simp only[qaf,qan,or_false];omega
      .obtain⟨hM,HJ,g3,g4⟩:=hJ;refine⟨fun y hy=>?_,g4,g3,HJ.get at6,HJ.get at4,hRe fun y hy=>HJ.blk y<|qap [_,_,_,_,_,_,_,_,_,_] hy,?_⟩
       .rw[hM]at hy;rw[hy];exact⟨AX<|HJ.get at7,by omega,by omega⟩
       .rw[hM];dsimp only;omega
      .rintro i v _ w hxv ⟨rfl,HJ,g3,g4⟩ hsz;rw[<-hg,<-hpath,qa9]at hxv;obtain⟨a,ha,rfl⟩:=qdc.1 hxv;have ham:=qad ha;obtain⟨hWa,-⟩:=q1 a ham;have hWlt:=hWa.lt;have hai:a / 2<es.length:=by omega
       have hm4:=m3 a ham;have hcb2:=hcb (a / 2) hai;have hxb2:=hxb (a / 2) hai;have hxa:Fa mm x (path.take i) (a / 2)=x (a / 2):=Ip fun b hb=>Wh hpe ha b hb;have hgxa:(tab (Fa mm x<|path.take i) es.length)[a / 2]?=some (x<|a / 2):=by rw[BP hai,hxa]
       have hsuc:∀z,Fa mm x (path.take<|i+1) z=if z=a / 2 then(if a % 2=0 then x (a / 2)+mm else x (a / 2) - mm)else Fa mm x (path.take i) z:=fun z=>by
        rw[Wg ha];unfold HO
        by_cases e:z=a / 2
        .rw[if_pos e,if_pos e,e,hxa]
        .rw[if_neg e,if_neg e]
       have ha9:a<9223372036854775808:=by omega
       have hml:mm<=C3 (Ck es) x a:=by omega
       obtain⟨w1,rfl⟩:=qD w;refine Aw<|Ag U<|Ab ?_;refine⟨Ext.refl _ _,fun wB hxB=>?_⟩;have HB:=HJ.step hxB (fun y hy=>by have h7:=qa6 (f:=(·.1)) hy;have:=hlt2 y.1 h7;rw[qab];omega) fun z hz => .inr (by rw[qab.1 hz];omega);have e3:=hxB.to g3 (by rw[qab];omega);have e4:=hxB.to g4 (by rw[qab];omega);have HP:=HB.perm<|qbl (l₁:=[_,_,_,_,_,_,_]) (l₂:=_::_::_);have k1:=HP.get at6;have ks:=HP.get at7;have k9:=HP.get at3;have hn1:=FV (L:=[_]) HP.nd (x:=(b1,_))<|qad (i:=5) rfl;have hns:=FV (L:=[_]) HP.nd (x:=(bs,_))<|qad (i:=6) rfl;have hn9:=FV (L:=[_]) HP.nd (x:=(b9,_))<|qad (i:=2) rfl;have hnc:bf≠c3/\bf≠c4:=by omega
       obtain⟨w2,rfl⟩:=qD wB;have H:=Ctx.lend (L1:=[_]) (L2:=_::_::_::_::_::_::_::_::_::_) HP;clear HJ g3 g4 hlt hlt2 m1 m2 m3 q1 hpe hwp hRe hall hxb hovb hsrc hsnd hsm hds hlow hto hfit hpot hw hov hpb DN BY BY' hby hd0 hovt hgot hgof hwb0 hwb2 hWa ham ha hxv hsz hxB hsd0 hcb q2 q3 q4 hF;refine AK<|Af<|Ad U<|MO (a:=a) (b:=1) U U U ha9 (by decide) ?_;rw[Nat.and_one_is_mod];refine Ct U U<|qA<|iB U ?_ ?_
       .intro hpar;have hp2:a % 2=0:=by omega
        unfold C3 at hml;rw[if_pos hp2]at hml;refine Eb [([0,1,2,3,4,5,6,7,8,9,10],11)] (fun z=>z.heap[b1]?=some (Bl 259 [ptr bs])/\z.heap[bs]?=some (Bl 261 (SC N ae es.length ce bf bp bo kk))/\z.heap[b9]?=some (Bl 2 [.int .i64 mm])/\z.heap[bf]?=some (Bl 2 (BF (Fa mm x<|path.take i) es.length))) [11] AW (⟨H.drew.ext.to k1 hn1,H.drew.ext.to ks hns,H.drew.ext.to k9 hn9,H.drew.get at0⟩) ?_;refine A0 U U<|AU qf U (fun _ hx=>(by rw[Ai hx.1];rfl)) ?_;refine A7 U<|Ah qf U<|AU qf U (fun _ hx=>(by rw[Ai hx.2.1];rfl)) ?_;refine AG U<|Od (a:=a) (n:=1) U U U ?_;rw[Nat.pow_one];refine AA qf qf U U ?_;refine AU qf U (fun _ hx=>((Cv hx.2.2.2).fld hgxa rfl (j:=0) rfl))<|AU qf U (fun _ hx=>(by rw[Ai hx.2.2.1];rfl)) ?_;refine Dt U U<|AA qf qf U U ?_
        refine A6 ?_;replace H:=H.drew;refine BZ (a / 2) (fun z => .int .i64 (Fa mm x (path.take<|i+1) z)) (.int _ _) qf U U U H at0 (by omega) (hk:=hai) (by rw[hsuc,if_pos rfl,if_pos hp2]) (fun z _ hz=>by(try dsimp only);rw[hsuc,if_neg hz]) ?_;rintro w H;refine Ab<|Bw U<|Bu<|Av ?_;have HH:=(Ctx.back (L1:=[_]) (L2:=_::_::_::_::_::_::_::_::_::_) HP H).perm (qbl (l₁:=[_,_,_,_,_,_,_]) (l₂:=_::_::_)).symm;exact⟨_,⟨rfl,HH,H.ext.to e3 (by rw[qas,qbv,qab];exact Ne.symm hnc.1),H.ext.to e4 (by rw[qas,qbv,qab];exact Ne.symm hnc.2)⟩,fun x hx => .inl hx,_,H.ext,fun x hx => .inl (qab.1 hx)⟩
       .intro hpar;have hp2:¬a % 2=0:=by omega
        unfold C3 at hml;rw[if_neg hp2]at hml;refine Eb [([0,1,2,3,4,5,6,7,8,9,10],11)] (fun z=>z.heap[b1]?=some (Bl 259 [ptr bs])/\z.heap[bs]?=some (Bl 261 (SC N ae es.length ce bf bp bo kk))/\z.heap[b9]?=some (Bl 2 [.int .i64 mm])/\z.heap[bf]?=some (Bl 2 (BF (Fa mm x<|path.take i) es.length))) [11] AW (⟨H.drew.ext.to k1 hn1,H.drew.ext.to ks hns,H.drew.ext.to k9 hn9,H.drew.get at0⟩) ?_;refine A0 U U<|AU qf U (fun _ hx=>(by rw[Ai hx.1];rfl)) ?_;refine A7 U<|Ah qf U<|AU qf U (fun _ hx=>(by rw[Ai hx.2.1];rfl)) ?_;refine AG U<|Od (a:=a) (n:=1) U U U ?_;rw[Nat.pow_one];refine AA qf qf U U ?_;refine AU qf U (fun _ hx=>((Cv hx.2.2.2).fld hgxa rfl (j:=0) rfl))<|AU qf U (fun _ hx=>(by rw[Ai hx.2.2.1];rfl)) ?_;refine D9 U U<|AA qf qf U U ?_
        refine A6 ?_;replace H:=H.drew;refine BZ (a / 2) (fun z => .int .i64 (Fa mm x (path.take<|i+1) z)) (.int _ _) qf U U U H at0 (by omega) (hk:=hai) (by rw[hsuc,if_pos rfl,if_neg hp2]) (fun z _ hz=>by(try dsimp only);rw[hsuc,if_neg hz]) ?_;rintro w H;refine Ab<|Bw U<|Bu<|Av ?_;have HH:=(Ctx.back (L1:=[_]) (L2:=_::_::_::_::_::_::_::_::_::_) HP H).perm (qbl (l₁:=[_,_,_,_,_,_,_]) (l₂:=_::_::_)).symm;exact⟨_,⟨rfl,HH,H.ext.to e3 (by rw[qas,qbv,qab];exact Ne.symm hnc.1),H.ext.to e4 (by rw[qas,qbv,qab];exact Ne.symm hnc.2)⟩,fun x hx => .inl hx,_,H.ext,fun x hx => .inl (qab.1 hx)⟩
      .rintro M w ⟨-,HJ,-,-⟩ hD2;rw[hxl,qba]at HJ;have H:=HJ.add hD2 (.inr hwtz) (fun y hy e=>by have h7:=qa6 (f:=(·.1)) hy;have:=hlt2 y.1 h7;omega);replace H:=H.erase 5;obtain⟨x',hx'⟩:∃x',x'=Fa mm x path:=⟨_,rfl⟩;rw[<-hx']at H;have FF:=VQ hF DN BY' hdt (m:=mm) (fun a ha=>by have:=m3 a<|hpath ▸ ha;omega);rw[<-hpath,<-hx']at FF;have hov':∀z,BJ g x' z=BJ g x z+mm*(one (tv=z) - one (f0=z)):=fun z=>by rw[hx',hpath,hwp];exact LQ g mm BY' z x hdt rfl
       have hw':=LU hr (x:=x') (by rw[<-hg];exact FF);have hne:tv≠f0:=fun e=>by rw[e]at hov0;omega
       have hgo2:(tab (upd ov f0<|ov f0 - mm) N)[tv]?=some (ov tv):=by rw[BP htv,Dy hne]
       have hgdt:(tab s.d N)[tv]?=some (s.d tv):=BP htv;have hsdt:=hsd0 tv;have hpf:=Ac8 hpn hpb
       have hne0:es≠[]->(adr ae).block≠bp:=fun h e=>by
        obtain⟨q,rfl⟩:=O.form<|qbu.2 h;have h7:=TI (L:=[_,_,_,_]) H0.nd (x:=(bp,_))<|qad (i:=2) rfl;exact h7 (by show bp∈[q];rw[qab];exact e.symm)
       have hex:=VR (g:=g) (x:=x) (x':=x') (u:=f0) (v:=tv) (m:=mm) (by rw[<-hov f0 hf0s.1];omega) (by rw[<-hov tv htv];omega) hov'
       have KEY:∀p',p'=narF es N x' (fun v=>p v+KA s.d (s.d tv) v)->R9 es N x p ov true x' p' (upd (upd ov f0<|ov f0 - mm) tv<|ov tv+mm):=fun p' hp' =>
        .inr ⟨fun h=>by rw[h]at hs0;exact absurd hs0<|by decide,rfl,s,by',tv,f0,path,mm,by rw[<-hg,hgN];rw[hgN]at DN;exact DN,by rw[<-hg];exact WX,hnear,by rw[<-hg];exact hpath,by rw[<-hg];exact hf0,by rw[hmm,m4],hx',hp',rfl⟩
       refine Av<|Aa ?_;clear hlt hlt2 q1 hpe hall hxb hovb hsrc hsnd hsm hds hlow hto hfit hpot hw DN BY BY' hby hwb0 hwb2 hsd0 hcb q2 q3 q4 HJ;refine De 10 AW U U (B7 qf U (by rintro _ rfl;exact H.drew) at5 U ?_);refine Bc U<|Aq qf U<|B7 qf U (by rintro _ rfl;exact H.drew) at6 U ?_;refine B7 qf U (by rintro _ rfl;exact H.drew) at2 U ?_;refine Bt qf qf U U ?_;refine BD qf U (by rintro _ rfl;exact(((Cv<|H.drew.get at9).fld hgof rfl (j:=0) rfl))) ?_;refine B7 qf U (by rintro _ rfl;exact H.drew) at3 U ?_;refine HI U U U<|Bt qf qf U U ?_;refine Cc ?_;replace H:=H.drew;refine BZ f0 (fun z => .int .i64 (upd ov f0 (ov f0 - mm) z)) (.int _ _) qf U U U H at9 (by simp) (hk:=hf0s.1) (by rw[CI]) (fun z _ hz=>by(try dsimp only);rw[Dy hz]) ?_;rintro w H
       refine qA<|De 10 AW U U ?_;refine B7 qf U (by rintro _ rfl;exact H.drew) at5 U ?_;refine Bc U<|Aq qf U<|B7 qf U (by rintro _ rfl;exact H.drew) at6 U ?_;refine AS U<|Bt qf qf U U ?_;refine BD qf U (by rintro _ rfl;exact(((Cv<|H.drew.get at9).fld hgo2 rfl (j:=0) rfl))) ?_;refine B7 qf U (by rintro _ rfl;exact H.drew) at3 U ?_;refine Fw U U<|Bt qf qf U U ?_;refine Cc ?_;replace H:=H.drew;refine BZ tv (fun z => .int .i64 (upd (upd ov f0<|ov f0 - mm) tv (ov tv+mm) z)) (.int _ _) qf U U U H at9 (by simp) (hk:=htv) (by rw[CI]) (fun z _ hz=>by(try dsimp only);rw[Dy hz]) ?_;rintro w H;refine qA<|De 6 AW U U ?_;refine B7 qf U (by rintro _ rfl;exact H.drew) at5 U ?_;refine BT U<|BT U<|AS U<|Bt qf qf U U ?_
       refine BD qf U (by rintro _ rfl;exact(((Cv<|H.drew.get at4).fld hgdt rfl (j:=0) rfl))) ?_;refine Cc ?_;replace H:=H.drew;have Hp:=H.perm<|qbl (l₁:=[_,_,_,_,_,_,_,_]) (l₂:=_::_);refine Aj qB (YK (H.get at6) (H.get at8) (H.get at4) (H.ne at6 at8<|by decide) (H.ne at4 at8<|by decide) ⟨by omega,by omega⟩ hpf) U ?_;rintro rv w ⟨rfl,H2⟩;replace H:=Ctx.back (L1:=[_]) (L2:=_::_::_::_::_::_::_::_::_::_) Hp H2;refine qA<|Af<|Bh qf U H at6 U<|Aj qB (Wa (H.get at7) (hRe fun y hy=>H.blk y<|qap [_,_,_,_,_,_,_,_,_,_] hy) hne0 (H.get at8) (H.get at0) (H.ne at7 at0<|by decide) (H.ne at8 at0<|by decide) hw' (by rw[<-hg];exact FF)) U ?_;rintro rv w ⟨rfl,p',hp',FF2,hpb',H2⟩;replace H:=Ctx.back (L1:=[_]) (L2:=_::_::_::_::_::_::_::_::_::_) H H2
       refine qA<|Af<|Bh qf U H at6 U<|AR U<|Ae qf U<|Bh qf U H at7 U<|LS U U U ?_;intro kk2;refine AR U<|Ae qf U<|Ch (.int _ _) qf U U U H at7 (by(simp;done)) ?_;rintro w H;refine qA<|Af<|A5 U<|qA<|Bf<|Kt (v:=(.bool _)) U U<|We (H.get at1) (H.get at2) (H.ne at2 at1<|by decide) U fun wF hxF=>?_;have HF:=(H.perm (qbl (l₁:=[_,_,_,_,_,_,_,_]) (l₂:=_::_)).symm);rw[<-hg]at FF2;refine⟨true,x',p',upd (upd ov f0<|ov f0 - mm) tv<|ov tv+mm,kk2,rfl,(HF.drop 6).step hxF (fun y hy=>FV (L:=[_,_]) HF.nd<|qco (i:=4) hy) fun z hz => .inr ?_,FF2,fun z hz=>?_,hpb',(fun h=>by cases h),(fun _=>by omega),KEY p' hp'⟩
       .simp only[qaf,qan,or_false]at hz;omega
       .rw[hov',<-hov z hz]
        by_cases e1:z=tv
        .subst e1;rw[CI,EM rfl,E3<|Ne.symm hne];omega
        .rw[Dy e1,E3<|Ne.symm e1]
         by_cases e2:z=f0
         .subst e2;rw[CI,EM rfl];omega
         .rw[Dy e2,E3<|Ne.symm e2];omega
def Nk:List UInt8:=[0]++List.replicate 1 1++List.replicate 2 2++List.replicate 4 3++List.replicate 8 4++List.replicate 16 5++List.replicate 32 6++List.replicate 64 7++List.replicate 128 8
theorem Wi:∀i,i<256->∃b:UInt8,Nk[i]?=some b/\i<2 ^ b.toNat/\b.toNat<=8/\(0<i->2 ^ b.toNat<=2*i):=fun i hi=>by
 have h:(List.range 256).all (fun i=>match Nk[i]? with|some b=>decide (i<2 ^ b.toNat) && (decide (b.toNat<=8) && (decide (i=0) || decide (2 ^ b.toNat<=2*i)))|none=>false)=true:=by kernel_rfl
 have h1:=qaw.1 h i<|qa5.2 hi
 cases hb:Nk[i]? with
 |none=>rw[hb]at h1;cases h1
 |some b =>
  rw[hb]at h1;simp only[qag,Bool.or_eq_true,qav]at h1;exact⟨b,rfl,h1.1,h1.2.1,fun h=>h1.2.2.resolve_left<|by omega⟩
theorem TJ{k:Nat}(h:x / 2 ^ k<2 ^ n):x<2 ^ (n+k):=by
 rw[Nat.pow_add];exact(Nat.div_lt_iff_lt_mul<|Nat.two_pow_pos k).1 h
theorem TK{k:Nat}(h:2 ^ n<=2*(x / 2 ^ k)):2 ^ (n+k)<=2*x:=by
 rw[Nat.pow_add];have h1:2 ^ n*2 ^ k<=2*(x / 2 ^ k)*2 ^ k:=qcs _ h;have h2:x / 2 ^ k*2 ^ k<=x:=Nat.div_mul_le_self x _;rw[Nat.mul_assoc]at h1;omega
theorem RC(x:Nat)(hx:x<=4503599627370496)(w:World):Ret prog 198 #[.int .u64 (x:Int)] w fun v w'=>∃r:Nat,v=.int .i64 (r:Int)/\x<2 ^ r/\r<=64/\(0<x->2 ^ r<=2*x)/\(x=0->r=0)/\w=w':=by
 obtain⟨w0,rfl,H⟩:=qE w;refine iG func198 U ?_;refine qG 10 ?_;refine EH 101 (α:=Nat × Nat) (fun z=>[(0,.int .u64 (z.1:Int)),(2,.int .i64 (z.2:Int))]) (fun z w'=>w0=w'/\(∀k,z.1<2 ^ k->x<2 ^ (k+z.2))/\(∀k,2 ^ k<=2*z.1->2 ^ (k+z.2)<=2*x)/\(0<x->0<z.1)/\z.1<4294967296/\z.2<=32/\(x=0->z.1=0/\z.2=0)) U ?_ ?_
 .skip
  refine iB U ?_ ?_
  .intro h;refine Af<|Ad U<|EL (n:=32) U U ?_;refine qG 7 ?_;exact⟨(x / 2 ^ 32,32),rfl,⟨rfl,rfl,trivial⟩,rfl,fun k hk=>TJ hk,fun k hk=>TK hk,fun _=>by dsimp only;omega,by dsimp only;omega,by dsimp only;omega,fun hx0=>by dsimp only;omega⟩
  .intro h;refine A1<|Aa ?_;exact⟨(x,0),rfl,⟨rfl,rfl,trivial⟩,rfl,fun k hk=>hk,fun k hk=>hk,fun h=>h,by dsimp only;omega,by dsimp only;omega,fun hx0=>by dsimp only;omega⟩
 .rintro⟨y,n⟩ j w ⟨rfl,hk,hg,h0,hy,hn,hz⟩;dsimp only at hk hg h0 hy hn hz;dsimp only;refine qG 6 ?_;refine EH 7685 (α:=Nat × Nat) (fun z=>[(0,.int .u64 (z.1:Int)),(2,.int .i64 (z.2:Int))]) (fun z w'=>w0=w'/\(∀k,z.1<2 ^ k->x<2 ^ (k+z.2))/\(∀k,2 ^ k<=2*z.1->2 ^ (k+z.2)<=2*x)/\(0<x->0<z.1)/\z.1<65536/\z.2<=48/\(x=0->z.1=0/\z.2=0)) U ?_ ?_
  .skip
   refine iB U ?_ ?_
   .intro h;refine Af<|Ad U<|EL (n:=16) U U ?_;refine qG 9 ?_;exact⟨(y / 2 ^ 16,n+16),rfl,⟨rfl,rfl,trivial⟩,rfl,fun k h7=>by have:=hk _<|TJ h7;rw[show k+(n+16)=k+16+n by omega];exact this,(fun k h7=>by have:=hg _<|TK h7;rw[show k+(n+16)=k+16+n by omega];exact this),fun _=>by dsimp only;omega,by dsimp only;omega,by dsimp only;omega,fun hx0=>by dsimp only;omega⟩
   .intro h;refine A1<|Aa ?_;exact⟨(y,n),rfl,⟨rfl,rfl,trivial⟩,rfl,hk,hg,h0,by dsimp only;omega,by dsimp only;omega,fun hx0=>by dsimp only;omega⟩
  .rintro⟨y,n⟩ j2 w ⟨rfl,hk,hg,h0,hy,hn,hz⟩;dsimp only at hk hg h0 hy hn hz;dsimp only;refine qG 6 ?_;refine EH 491525 (α:=Nat × Nat) (fun z=>[(0,.int .u64 (z.1:Int)),(2,.int .i64 (z.2:Int))]) (fun z w'=>w0=w'/\(∀k,z.1<2 ^ k->x<2 ^ (k+z.2))/\(∀k,2 ^ k<=2*z.1->2 ^ (k+z.2)<=2*x)/\(0<x->0<z.1)/\z.1<256/\z.2<=56/\(x=0->z.1=0/\z.2=0)) U ?_ ?_
   .skip
    refine iB U ?_ ?_
    .intro h;refine Af<|Ad U<|EL (n:=8) U U ?_;refine qG 9 ?_;exact⟨(y / 2 ^ 8,n+8),rfl,⟨rfl,rfl,trivial⟩,rfl,fun k h7=>by have:=hk _<|TJ h7;rw[show k+(n+8)=k+8+n by omega];exact this,(fun k h7=>by have:=hg _<|TK h7;rw[show k+(n+8)=k+8+n by omega];exact this),fun _=>by dsimp only;omega,by dsimp only;omega,by dsimp only;omega,fun hx0=>by dsimp only;omega⟩
    .intro h;refine A1<|Aa ?_;exact⟨(y,n),rfl,⟨rfl,rfl,trivial⟩,rfl,hk,hg,h0,by dsimp only;omega,by dsimp only;omega,fun hx0=>by dsimp only;omega⟩
   .rintro⟨y,n⟩ j3 w ⟨rfl,hk,hg,h0,hy,hn,hz⟩;dsimp only at hk hg h0 hy hn hz;dsimp only;obtain⟨b,hb,hb1,hb2,hb3⟩:=Wi y hy;have hb0:(bv b)=.int .u8 ((b.toNat:Nat):Int):=rfl;refine Af<|Ad U<|Ad U<|SX U U qf qf ?_;refine VF (l:=Nk) b U qf U hb ?_;rw[hb0];refine qG 7 ?_;refine⟨n+b.toNat,qaa (Value.int .i64)<|by omega,?_,by omega,fun hx0=>?_,fun hx0=>?_,rfl⟩
    .have:=hk _ hb1;rw[qdi];exact this
    .have:=hg _<|hb3<|h0 hx0;rw[qdi];exact this
    .obtain⟨rfl,rfl⟩:=hz hx0;have h7:Nk[0]?=some (0:UInt8):=rfl;rw[h7]at hb;obtain rfl:=qal hb;rfl
structure Bk where
 b:Nat
 c:Nat
 f:List Value
instance:Inhabited Bk:=⟨⟨0,0,[]⟩⟩
def Gn:Nat->List Nat
 |1=>[0]|4=>[3]|5=>[2,4,3]|6=>[1,0,5,2,4,3]|8=>[7]|9=>[8,7]|10=>[9,8,7]|12=>[11]|13=>[12,11]|15=>[14]|16=>[15,14]
 |17=>[6,1,0,5,2,4,3,10,9,8,7,13,12,11,16,15,14]|18=>[17,6,1,0,5,2,4,3,10,9,8,7,13,12,11,16,15,14]|19=>[18,17,6,1,0,5,2,4,3,10,9,8,7,13,12,11,16,15,14]|_=>[]
def sQ(n:Nat)(B:Nat->Bk):Bk:=if n=0 then⟨(B 2).b,0,[]⟩else B 5
def sSC(N n:Nat)(B:Nat->Bk):List Value:=SC N (some ⟨(sQ n B).b,0,none⟩) n (sQ n B).c (B 10).b (B 13).b (B 16).b 0
def RG(b1:Nat)(N n:Nat)(a:Option Addr)(c:Nat)(i:Nat)(B:Nat->Bk):Value :=
 if i=0\/i=11\/i=14 then .pointer (some ⟨b1,0+0,none⟩)else if i=1\/i=12\/i=15 then .int .i64 (N:Int)
 else if i=2 then .slice (some ⟨(B 2).b,0,none⟩) 0 0 else if i=3\/i=7 then .pointer (some ⟨b1,0+1,none⟩)else if i=4\/i=8 then .slice a n c
 else if i=5 then .slice (some ⟨(sQ n B).b,0,none⟩) n (sQ n B).c else if i=6 then .agg #[.int .i64 (N:Int),.slice (some ⟨(sQ n B).b,0,none⟩) n (sQ n B).c]
 else if i=9 then .int .i64 (n:Int)else if i=10 then .slice (some ⟨(B 10).b,0,none⟩) n n else if i=13 then .slice (some ⟨(B 13).b,0,none⟩) N N
 else if i=16 then .slice (some ⟨(B 16).b,0,none⟩) N N else if i=17 then .agg (sSC N n B).toArray else ptr (B 18).b
def Gp(N n:Nat)(i:Nat):Option ((Nat->Bk)->Obj) :=
 if i=2 then some fun _=>Bl 195 []else if i=5 then(if n=0 then none else some fun B=>Bl 195 (B 5).f)else if i=10 then some fun _=>Bl 2 (BF (fun _=>0) n)else if i=13\/i=16 then some fun _=>Bl 2 (BF (fun _=>0) N)
 else if i=18 then some fun B=>Bl 261 (sSC N n B)else none
def Ae7(n:Nat)(es:List Ed)(i:Nat)(b:Bk):Prop:=i=5->n=0\/OS (some ⟨b.b,0,none⟩) n b.c 4 b.f (es.flatMap Co)
theorem sStab(b1 N n:Nat)(a:Option Addr)(c i k:Nat)(b:Bk)(B:Nat->Bk)(hi:i<19)(hki:k≠i)(hka:k∉Gn i):RG b1 N n a c i (IF B k b)=RG b1 N n a c i B/\∀ob,Gp N n i=some ob->ob (IF B k b)=ob B:=by
 have hne:∀j,k≠j->IF B k b j=B j:=fun j h=>Hf<|Ne.symm h;have hq:k≠2->k≠5->sQ n (IF B k b)=sQ n B:=fun h2 h5=>by unfold sQ;rw[hne 2 h2,hne 5 h5]
 have hcs:i=0\/i=1\/i=2\/i=3\/i=4\/i=5\/i=6\/i=7\/i=8\/i=9\/i=10\/i=11\/i=12\/i=13\/i=14\/i=15\/i=16\/i=17\/i=18:=by omega
 have hs:(k≠2/\k≠5/\k≠10/\k≠13/\k≠16)->sSC N n (IF B k b)=sSC N n B:=fun h=>by unfold sSC;rw[hq h.1 h.2.1,hne 10 h.2.2.1,hne 13 h.2.2.2.1,hne 16 h.2.2.2.2]
 rcases hcs with rfl|rfl|rfl|rfl|rfl|rfl|rfl|rfl|rfl|rfl|rfl|rfl|rfl|rfl|rfl|rfl|rfl|rfl|rfl <;> simp only[Gn,qaf,qan,or_false,not_or,not_false_eq_true]at hka <;> (try simp[RG,Gp]) <;> (try rw[hne _ hki]) <;> (try rw[hq (by omega)<|by omega]) <;> (try rw[hs<|by omega]) <;> (try (constructor)) <;> (try rfl) <;> (try (split <;> simp)) <;> (try (intro ob h;subst h;rw[hne _ hki])) <;> (try (intro ob h;subst h;rw[hs<|by omega])) <;> (try exact⟨rfl,rfl⟩) <;> (try (intro _;rfl))
abbrev CA(f:Nat->Int)(m:Nat):List Value:=(List.range m).map fun i => .int .u64 (f i)
theorem Cy(h:w.heap[q]?=some (Bl 24 (CA f m)))(hi:i<m:=by omega):w.cell? ⟨q,0+i*1,none⟩=some (.int .u64<|f i):=by
 rw[Ai h,qa0,qdd,Ds hi]
def sw(f:Nat->Int)(i j k:Nat):Int:=if k=j then f i else if k=i then f j else f k
theorem D5(f:Nat->Int)(i j:Nat):sw f i j j=f i:=if_pos rfl
theorem D3{k:Nat}(h:k≠j):sw f i j k=if k=i then f j else f k:=if_neg h
theorem GK(f:Nat->Int)(i j:Nat):sw f i j i=f j:=by
 unfold sw
 by_cases e:i=j
 .subst e;rw[if_pos rfl]
 .rw[if_neg e,if_pos rfl]
theorem Eo{k:Nat}(h1:k≠i:=by omega)(h2:k≠j:=by omega):sw f i j k=f k:=by unfold sw;rw[if_neg h2,if_neg h1]
inductive Sw (a b:Nat):(Nat->Int)->(Nat->Int)->Prop
 |refl (f:Nat->Int):Sw a b f f
 |step {f g:Nat->Int} (h:Sw a b f g) (i j:Nat) (hi:a<=i/\i<b) (hj:a<=j/\j<b):Sw a b f (sw g i j)
theorem Sw.trans(h1:Sw a b f g)(h2:Sw a b g h):Sw a b f h:=by
 induction h2 with
 |refl=>exact h1
 |step _ i j hi hj ih=>exact ih.step i j hi hj
theorem Sw.mono(h:Sw a b f g)(ha:a'<=a)(hb:b<=b'):Sw a' b' f g:=by
 induction h with
 |refl=>exact .refl _
 |step _ i j hi hj ih=>exact ih.step i j ⟨by omega,by omega⟩ ⟨by omega,by omega⟩
theorem Sw.out(h:Sw a b f g):∀k,(k<a\/b<=k)->g k=f k:=by
 induction h with
 |refl=>exact fun _ _=>rfl
 |step _ i j hi hj ih=>exact fun k hk=>by rw[Eo];exact ih k hk
theorem Sw.mem(h:Sw a b f g):∀k,a<=k->k<b->∃k',a<=k'/\k'<b/\g k=f k':=by
 induction h with
 |refl=>exact fun k h1 h2=>⟨k,h1,h2,rfl⟩
 | @step g h i j hi hj ih =>
  intro k h1 h2
  by_cases e2:k=j
  .rw[e2,D5];exact ih i hi.1 hi.2
  .by_cases e1:k=i
   .rw[e1,GK];exact ih j hj.1 hj.2
   .rw[Eo (h1:=e1) (h2:=e2)];exact ih k h1 h2
theorem Ai1(hi:i<n:=by omega)(hj:j<n:=by omega):(tab (sw f i j) n).Perm<|tab f n:=by
 have h:=Ls (L:=tab f n) (i:=i) (j:=j) (x:=f i) (y:=f j) (BP hi)<|BP hj
 have e:((tab f n).set i<|f j).set j (f i)=tab (sw f i j) n:=by
  unfold tab;rw[HK (g:=fun k=>if k=i then f j else f k) (if_pos rfl) fun k _ hk=>if_neg hk,HK (g:=sw f i j) (D5 f i j) fun k _ hk=>D3 hk]
 rw[e]at h;exact h
theorem Sw.perm(h:Sw a b f g)(hb:b<=n):(tab g n).Perm<|tab f n:=by
 induction h with
 |refl=>exact .refl _
 |step _ i j hi hj ih=>exact(Ai1).trans ih
def II(f:Nat->Int)(a b:Nat):Prop:=∀x y,a<=x->x<y->y<b->f x<=f y
def InsU(f:Nat->Int)(a j i:Nat):Prop:=∀x y,a<=x->x<y->y<=i->y≠j->f x<=f y
theorem InsU.step(h:InsU f a j i)(ha:a<j)(hi:j<=i)(hlt:f j<f (j - 1)):InsU (sw f j<|j - 1) a (j - 1) i:=fun x y hx hxy hy hne=>by
 by_cases e1:y=j
 .subst e1;rw[GK]
  by_cases e2:x=y - 1
  .rw[e2,D5];omega
  .rw[Eo (h2:=e2)];exact h x (y - 1) hx (by omega) (by omega)<|by omega
 .rw[Eo (h1:=e1) (h2:=hne)]
  by_cases e2:x=j - 1
  .rw[e2,D5];exact h j y (by omega) (by omega) hy e1
  .by_cases e3:x=j
   .rw[e3,GK];exact h (j - 1) y (by omega) (by omega) hy e1
   .rw[Eo (h1:=e3) (h2:=e2)];exact h x y hx hxy hy e1
theorem InsU.done(h:InsU f a j i)(hj:a<=j)(hj0:a<j->f (j - 1)<=f j):II f a<|i+1:=fun x y hx hxy hy=>by
 by_cases e:y=j
 .subst e;have h1:=hj0 (by omega)
  by_cases e2:x=y - 1
  .rw[e2];exact h1
  .exact qbj (h x (y - 1) hx (by omega) (by omega)<|by omega) h1
 .exact h x y hx hxy (by omega) e
theorem EI(x y:Int)(w:World):Ret prog 243 #[.int .u64 x,.int .u64 y] w fun v w'=>v=.bool (decide (x<y))/\w=w':=by
 have nan:∀(x:Int) (w:World),Ret prog 271 #[.int .u64 x] w fun v w'=>v=.bool false/\w=w':=fun x w=>by
  refine iG func271 U ?_;refine qG 13 ?_;exact⟨qaa Value.bool<|by simp,rfl⟩
 refine iG func243 U ?_;refine qG 6 ?_;refine Aj qB (nan x w) U ?_;rintro v w ⟨rfl,rfl⟩;refine Bj U<|Az 7 U ?_ ?_
 .intro h1;refine Ad U<|Aj qB (nan y _) U ?_;rintro v w ⟨rfl,rfl⟩;refine qG 3 ?_;refine iC 12 U ?_ ?_
  .intro h2;refine qG 9 ?_;exact⟨qaa Value.bool<|by simp_all,rfl⟩
  .intro h3;refine qG 9 ?_;exact⟨qaa Value.bool<|by simp_all,rfl⟩
 .intro h4;refine qG 14 ?_;exact⟨qaa Value.bool<|by simp_all,rfl⟩
section
variable {w:World}{q n c m a b:Nat}{f:Nat->Int}
theorem PZ(hd:w.heap[q]?=some (Bl 24 (CA f m)))(hab:a<=b)(hn:n<=m)(hm:n<=1000000000)(hb:b<=n:=by omega):
  Ret prog 237 #[.slice (some ⟨q,0,none⟩) n c,.int .i64 (a:Int),.int .i64 (b:Int)] w fun v w'=>v=.tuple #[]/\∃g,Sw a b f g/\II g a b/\Ctx w [q] w' [(q,Bl 24 (CA g m))]:=by
 obtain⟨w0,rfl⟩:=qD w;have H:=Ctx.start1 hd;refine iG func237 U ?_;refine qG 7 ?_;refine AY 562949953420480 (α:=Nat × (Nat->Int)) (fun t=>[(6,.int .i64 (t.1:Int))]) (fun t w'=>a+1<=t.1/\t.1<=max b (a+1)/\Sw a b f t.2/\II t.2 a t.1/\Ctx w0 [q] w' [(q,Bl 24 (CA t.2 m))]) (fun t=>b - t.1) (a+1,f) U ?_ ?_ ?_
 .exact⟨qaa (Value.int .i64) (by dsimp only;omega),trivial⟩
 .exact⟨qaq _,by dsimp only;omega,.refl _,fun x y h1 h2 h3=>by dsimp only at h3;omega,H⟩
 .rintro⟨i,g⟩ j0 w ⟨hi1,hi2,hS,hO,H⟩;dsimp only at hi1 hi2 hS hO H;dsimp only;refine qGp 7 ?_ ?_
  .intro h1;refine qG 10 ?_;refine AY 562949953355904 (α:=Nat × (Nat->Int)) (fun t=>[(7,.int .i64 (t.1:Int))]) (fun t w'=>a<=t.1/\t.1<=i/\Sw a b f t.2/\InsU t.2 a t.1 i/\Ctx w0 [q] w' [(q,Bl 24 (CA t.2 m))]) (fun t=>t.1) (i,g) U ?_ ?_ ?_
   .exact⟨rfl,trivial⟩
   .exact⟨by dsimp only;omega,qaq _,hS,fun x y hx hxy hy hne=>hO x y hx hxy (by dsimp only at hne;omega),H⟩
   .rintro⟨j,g⟩ j1 w ⟨hj1,hj2,hS,hI,H⟩;dsimp only at hj1 hj2 hS hI H;dsimp only;have e1:(j:Int).toNat=j:=rfl;have e2:((j:Int) - 1).toNat=j - 1:=by omega
    refine AB<|De 13 AW U U ?_;refine qG 4 ?_;refine iD 19 U ?_ ?_
    .intro h2;refine qG 3 ?_;refine BD qf U (by rintro _ rfl;exact((Cy<|H.drew.get at0))) ?_;refine qG 4 ?_;refine BD qf U (by rintro _ rfl;exact((Cy<|H.drew.get at0)))<|Cc ?_;replace H:=H.drew;refine Aj qB (EI _ _ _) U ?_;rintro v w ⟨rfl,rfl⟩;refine qGc 3 ?_ ?_
     .intro h3;rw[e1,e2]at h3;have h3:=qbe h3;refine A1<|Aa<|AB<|AK<|Eb [([0,1,2,3,4,5,6,7,8,9,10,11,12,13,14],15),([16],17)] (fun z=>z.heap[q]?=some (Bl 24 (CA g m))) [15,17] AW (H.drew.get at0) ?_;refine A0 U U<|Bq U<|AG U<|Bq U<|AG U<|D9 U U ?_;refine Bq U<|AG U<|D9 U U ?_;refine AA qf qf U U<|AU qf U (fun _ hx=>(Cy hx)) ?_;refine Bq U<|AG U<|AA qf qf U U ?_;refine AU qf U (fun _ hx=>(Cy hx))<|AA qf qf U U ?_;refine A6 ?_;replace H:=H.drew
      refine BZ j (fun k => .int .u64 (if k=j then g (j - 1)else g k)) (.int _ _) qf U U U H at0 (by omega) (by rw[if_pos rfl];exact qaa (fun z=>Value.int .u64<|g z)<|by omega) (fun k _ hk=>by rw[if_neg hk]) ?_;rintro w H;refine Ab<|Bw U<|A0 U U ?_;refine AA qf qf U U ?_;refine A6<|BZ (j - 1) (fun k => .int .u64 (sw g j (j - 1) k)) (.int _ _) qf U U U H at0 (by omega) (by rw[D5];rfl) (fun k _ hk=>by rw[D3 hk]) ?_;rintro w H;refine Ab<|Bw U<|Bu<|Av<|Aa<|Aw<|Ad U<|Cf U U ?_;refine Ag U<|qA ?_;exact⟨(j - 1,sw g j<|j - 1),rfl,⟨qaa (Value.int .i64) (by dsimp only;omega),trivial⟩,⟨by dsimp only;omega,by dsimp only;omega,hS.step j (j - 1) ⟨by omega,by omega⟩ ⟨by omega,by omega⟩,hI.step (by omega) hj2 h3,H⟩,by dsimp only;omega⟩
     .intro h3;rw[e1,e2]at h3;have h3:=qbq h3;refine Bi<|Am<|Am<|A8<|Av<|Aa<|Aw<|Ad U<|Ap U U ?_;refine Ag U<|qA ?_;exact⟨(i+1,g),rfl,⟨rfl,trivial⟩,⟨by dsimp only;omega,by dsimp only;omega,hS,hI.done hj1 fun _=>by omega,H⟩,by dsimp only;omega⟩
    .intro h2;refine qG 10 ?_;replace H:=H.drew;refine Al U<|B9 U (.bool _) U<|qA<|FT U<|Bi<|Am<|Am<|A8<|Av<|Aa<|Aw<|Ad U<|Ap U U ?_;refine Ag U<|qA ?_;exact⟨(i+1,g),rfl,⟨rfl,trivial⟩,⟨by dsimp only;omega,by dsimp only;omega,hS,hI.done hj1 fun h=>by omega,H⟩,by dsimp only;omega⟩
  .intro h1;refine qG 5 ?_;exact⟨rfl,g,hS,fun x y hx hxy hy=>hO x y hx hxy<|by omega,H⟩
end
def HeapU(g:Nat->Int)(o lo hi:Nat):Prop:=∀i c,lo<=i->(c=2*i+1\/c=2*i+2)->c<hi->g (o+c)<=g (o+i)
structure SiftU(g:Nat->Int)(o lo r hi:Nat):Prop where
 oth:∀i c,lo<=i->i≠r->(c=2*i+1\/c=2*i+2)->c<hi->g (o+c)<=g (o+i)
 up:∀p c,lo<=p->(r=2*p+1\/r=2*p+2)->(c=2*r+1\/c=2*r+2)->c<hi->g (o+c)<=g (o+p)
theorem SiftU.start(h:HeapU g o (lo+1) hi):SiftU g o lo lo hi:=⟨fun i c hi hne hc hh=>h i c (by omega) hc hh,fun p c hp hr _ _=>by omega⟩
theorem SiftU.done(h:SiftU g o lo r hi)(hr:∀c,(c=2*r+1\/c=2*r+2)->c<hi->g (o+c)<=g (o+r)):HeapU g o lo hi:=fun i c hl hc hh=>by
 by_cases e:i=r
 .subst e;exact hr c hc hh
 .exact h.oth i c hl e hc hh
theorem SiftU.step(h:SiftU g o lo r hi)(_:lo<=r)(hc:c=2*r+1\/c=2*r+2)(hch:c<hi)(hmax:∀d,(d=2*r+1\/d=2*r+2)->d<hi->g (o+d)<=g (o+c))(hlt:g (o+r)<g (o+c)):SiftU (sw g (o+r)<|o+c) o lo c hi:=by
 refine⟨fun i d hi' hne hd hh=>?_,fun p e hp hcp he hh=>?_⟩
 .by_cases e1:i=r
  .rw[e1,GK]
   by_cases e2:d=c
   .rw[e2,D5];omega
   .rw[Eo];exact hmax d (by omega) hh
  .rw[Eo (k:=o+i)]
   by_cases e2:d=r
   .rw[e2,GK];exact h.up i c hi' (by omega) hc hch
   .rw[Eo];exact h.oth i d hi' e1 hd hh
 .have e1:p=r:=by omega
  rw[e1,GK,Eo];exact h.oth c e (by omega) (by omega) he hh
theorem HeapU.root(h:HeapU g o 0 hi):∀i,i<hi->g (o+i)<=g (o+0):=fun i=>by
 induction i using Nat.strongRecOn with
 |_ i ih =>
  intro hi'
  rcases qdk i with h0|h0
  .rw[h0];exact qa4 _
  .exact qbj (h ((i - 1) / 2) i (qai _) (by omega) hi') (ih ((i - 1) / 2) (by omega)<|by omega)
section
variable {w:World}{q n c m:Nat}{f:Nat->Int}
theorem UX(hd:w.heap[q]?=some (Bl 24 (CA f m)))(hn:n<=m)(hm:n<=1000000000)(hH:HeapU f o (lo+1) hi)(hb:o+hi<=n:=by omega)(hl:lo<=1000000000:=by omega):
  Ret prog 266 #[.slice (some ⟨q,0,none⟩) n c,.int .i64 (lo:Int),.int .i64 (hi:Int),.int .i64 (o:Int)] w fun v w'=>v=.tuple #[]/\∃g,Sw o (o+hi) f g/\HeapU g o lo hi/\Ctx w [q] w' [(q,Bl 24 (CA g m))]:=by
 obtain⟨w0,rfl⟩:=qD w;have H:=Ctx.start1 hd;refine iG func266 U ?_;refine qG 6 ?_;refine AY 75557863725914323417856 (α:=Nat × (Nat->Int)) (fun t=>[(8,.int .i64 (t.1:Int))]) (fun t w'=>lo<=t.1/\t.1<=1000000000/\Sw o (o+hi) f t.2/\SiftU t.2 o lo t.1 hi/\Ctx w0 [q] w' [(q,Bl 24 (CA t.2 m))]) (fun t=>1000000000 - t.1) (lo,f) U ?_ ?_ ?_
 .exact⟨rfl,trivial⟩
 .exact⟨qaq _,hl,.refl _,.start hH,H⟩
 .rintro⟨r,g⟩ j0 w ⟨hr1,hr2,hS,hD,H⟩;dsimp only at hr1 hr2 hS hD H;dsimp only;refine qG 5 ?_;rw[show 2*(r:Int)+1=((2*r+1:Nat):Int)by omega];refine qGp 10 ?_ ?_
  .intro h1;refine qG 6 ?_;exact⟨rfl,g,hS,hD.done fun c hc hh=>by omega,H⟩
  .intro h1;have e1:((o:Int)+((2*r+1:Nat):Int)).toNat=o+(2*r+1):=by omega
   have e2:((o:Int)+((2*r+1:Nat):Int)+1).toNat=o+(2*r+2):=by omega
   refine A1<|Aa<|AB<|Dk 137438822400 (α:=Unit) (fun _=>[(36,.bool<|decide (2*r+2<hi/\g (o+(2*r+1))<g (o+(2*r+2))))]) (fun _ w'=>Ctx w0 [q] w' [(q,Bl 24 (CA g m))]) U ?_ ?_
   .skip
    refine DL 18 AW U U ?_;refine qG 5 ?_;refine iD 21 U ?_ ?_
    .intro h1;refine qG 5 ?_;refine BD qf U (by rintro _ rfl;exact((Cy<|H.drew.get at0))) ?_;refine qG 6 ?_;refine BD qf U (by rintro _ rfl;exact((Cy<|H.drew.get at0)))<|Cc ?_;replace H:=H.drew;refine Aj qB (EI _ _ _) U ?_;rintro v w ⟨rfl,rfl⟩;rw[e1,e2];refine qG 3 ?_;exact⟨(),rfl,⟨qaa Value.bool (by rw[qac];simp_all;try omega),trivial⟩,H⟩
    .intro h2;refine qG 14 ?_;replace H:=H.drew;refine qG 4 ?_;exact⟨(),rfl,⟨qaa Value.bool (by rw[qac];simp_all;try omega),trivial⟩,H⟩
   .rintro - j1 w H;refine EH 412316860928 (α:=Nat) (fun d=>[(9,.int .i64 (d:Int))]) (fun d w'=>(d=2*r+1\/d=2*r+2)/\d<hi/\(∀e,(e=2*r+1\/e=2*r+2)->e<hi->g (o+e)<=g (o+d))/\Ctx w0 [q] w' [(q,Bl 24 (CA g m))]) U ?_ ?_
    .skip
     refine A3 _ U ?_ ?_
     .intro h2;have h2:=qbe h2;refine qG 6 ?_;refine⟨2*r+2,rfl,⟨qaa (Value.int .i64)<|by omega,trivial⟩,.inr rfl,h2.1,fun e he _=>?_,H⟩
      rcases he with rfl|rfl
      .omega
      .omega
     .intro h2;have h2:=qbq h2;refine A1<|Aa ?_;refine⟨2*r+1,rfl,⟨rfl,trivial⟩,.inl rfl,by omega,fun e he hh=>?_,H⟩
      rcases he with rfl|rfl
      .omega
      .rcases qcn (g<|o+(2*r+1)) (g<|o+(2*r+2))with h7|h7
       .exact absurd ⟨hh,h7⟩ h2
       .exact h7
    .rintro d j2 w ⟨hd1,hd2,hmax,H⟩;have e3:((o:Int)+(r:Int)).toNat=o+r:=by omega
     have e4:((o:Int)+(d:Int)).toNat=o+d:=by omega
     refine AB<|De 12 AW U U ?_;refine qG 5 ?_;refine BD qf U (by rintro _ rfl;exact((Cy<|H.drew.get at0))) ?_;refine qG 5 ?_;refine BD qf U (by rintro _ rfl;exact((Cy<|H.drew.get at0)))<|Cc ?_;replace H:=H.drew;refine Aj qB (EI _ _ _) U ?_;rintro v w ⟨rfl,rfl⟩;rw[e3,e4];refine qGp 3 ?_ ?_
     .intro h3;refine qG 6 ?_;have h3:¬g (o+r)<g (o+d):=by simpa using h3
      exact⟨rfl,g,hS,hD.done fun c hc hh=>qbj (hmax c hc hh)<|by omega,H⟩
     .intro h3;have h3:g (o+r)<g (o+d):=by simpa using h3
      refine A1<|Aa<|BG [([0,1,2,3,4,5,6,7,8,9,10,11,12,13,14,15,16,17,18,19,20],21),([22],23)] (fun z=>z.heap[q]?=some (Bl 24 (CA g m))) [21,23] AW (H.drew.get at0) ?_;refine A0 U U<|Bq U<|AG U<|AG U<|Dt U U ?_;refine Bq U<|AG U<|AG U<|Dt U U ?_;refine Bq U<|AG U<|AG U<|Dt U U ?_;refine AA qf qf U U<|AU qf U (fun _ hx=>(Cy hx)) ?_;refine Bq U<|AG U<|AG U<|Dt U U ?_;refine AA qf qf U U<|AU qf U (fun _ hx=>(Cy hx)) ?_;refine AA qf qf U U<|A6 ?_;replace H:=H.drew
      refine BZ (o+r) (fun k => .int .u64 (if k=o+r then g (o+d)else g k)) (.int _ _) qf U U U H at0 (by omega) (by rw[if_pos rfl];exact qaa (fun z=>Value.int .u64<|g z)<|by omega) (fun k _ hk=>by rw[if_neg hk]) ?_;rintro w H;refine Ab<|Bw U<|A0 U U ?_;refine AA qf qf U U ?_;refine A6<|BZ (o+d) (fun k => .int .u64 (sw g (o+r) (o+d) k)) (.int _ _) qf U U U H at0 (by omega) (by rw[D5];exact qaa (fun z=>Value.int .u64<|g z)<|by omega) (fun k _ hk=>by rw[D3 hk]) ?_;rintro w H;refine Ab<|Bw U<|Bu<|Aw<|Ad U<|Ag U<|Ab<|Av<|Aa ?_;exact⟨(d,sw g (o+r)<|o+d),rfl,⟨rfl,trivial⟩,⟨by dsimp only;omega,by dsimp only;omega,hS.step _ _ ⟨by omega,by omega⟩ ⟨by omega,by omega⟩,hD.step hr1 hd1 hd2 hmax h3,H⟩,by dsimp only;omega⟩
structure HsU(g:Nat->Int)(a i b:Nat):Prop where
 srt:II g (a+i) b
 le:∀x y,x<i->a+i<=y->y<b->g (a+x)<=g y
theorem RJ(hd:w.heap[q]?=some (Bl 24 (CA f m)))(hn:n<=m)(hm:n<=1000000000)(hab:a<b:=by omega)(hb:b<=n:=by omega):
  Ret prog 238 #[.slice (some ⟨q,0,none⟩) n c,.int .i64 (a:Int),.int .i64 (b:Int)] w fun v w'=>v=.tuple #[]/\∃g,Sw a b f g/\II g a b/\Ctx w [q] w' [(q,Bl 24 (CA g m))]:=by
 obtain⟨w0,rfl⟩:=qD w;have H:=Ctx.start1 hd;obtain⟨l,rfl⟩:∃l,b=a+l:=⟨b - a,by omega⟩;have hl:((a+l:Nat):Int) - (a:Int)=(l:Int):=by omega
 have hl1:(l:Int) - 1=((l - 1:Nat):Int):=by omega
 refine iG func238 U ?_;refine qG 13 ?_;rw[hl];refine qG 7 ?_;refine Hn U U (show _<=(9223372036854775807:Int)by omega) ?_;refine qG 4 ?_;refine AY 133956096 (α:=Nat × (Nat->Int)) (fun t=>[(9,.int .i64<|(t.1:Int) - 1)]) (fun t w'=>t.1<=l+1/\Sw a (a+l) f t.2/\HeapU t.2 a t.1 l/\Ctx w0 [q] w' [(q,Bl 24 (CA t.2 m))]) (fun t=>t.1) ((l - 1) / 2+1,f) U ?_ ?_ ?_
 .exact⟨qaa (Value.int .i64) (by dsimp only;omega),trivial⟩
 .exact⟨by dsimp only;omega,.refl _,fun i c h1 h2 h3=>by dsimp only at h1;omega,H⟩
 .rintro⟨k,g⟩ j0 w ⟨hk,hS,hP,H⟩;dsimp only at hk hS hP H;dsimp only
  rcases k with _|k
  .skip
   refine qGp 6 ?_ ?_
   .intro h1;omega
   .intro h1;refine Bi<|Am<|Am<|A8<|Aa<|Af<|Ad U<|Cf U U ?_;refine Ag U<|qA<|AK<|AY 72057593501058048 (α:=Nat × (Nat->Int)) (fun t=>[(10,.int .i64<|(t.1:Int) - 1)]) (fun t w'=>t.1<=l/\Sw a (a+l) f t.2/\HeapU t.2 a 0 t.1/\HsU t.2 a t.1 (a+l)/\Ctx w0 [q] w' [(q,Bl 24 (CA t.2 m))]) (fun t=>t.1) (l,g) U ?_ ?_ ?_
    .exact⟨rfl,trivial⟩
    .exact⟨qaq _,hS,hP,⟨fun x y h1 h2 h3=>by dsimp only at h1;omega,fun x y h1 h2 h3=>by dsimp only at h2;omega⟩,H⟩
    .rintro⟨k,g⟩ j1 w ⟨hk,hS,hP,hQ,H⟩;dsimp only at hk hS hP hQ H;dsimp only
     rcases k with _|k
     .skip
      refine qGp 6 ?_ ?_
      .intro h2;omega
      .intro h2;refine qG 5 ?_;exact⟨rfl,g,hS,hQ.srt,H⟩
     .rw[show((k+1:Nat):Int) - 1=(k:Int)by omega];refine qGp 6 ?_ ?_
      .intro h2;refine A1<|Aa<|AB<|AK<|BG [([0,1,2,3,4,5,6,7,8,9,10,11,12,13,14,15,16],17),([18],19)] (fun z=>z.heap[q]?=some (Bl 24 (CA g m))) [17,19] AW (H.drew.get at0) ?_;refine A0 U U<|Bq U<|AG U<|Bq U<|AG U<|AG U<|Dt U U ?_;refine Bq U<|AG U<|AG U<|Dt U U ?_;refine AA qf qf U U<|AU qf U (fun _ hx=>(Cy hx)) ?_;refine Bq U<|AG U<|AA qf qf U U ?_;refine AU qf U (fun _ hx=>(Cy hx))<|AA qf qf U U ?_;refine A6 ?_;replace H:=H.drew
       refine BZ (a+0) (fun z => .int .u64 (if z=a+0 then g (a+k)else g z)) (.int _ _) qf U U U H at0 (by omega) (by rw[if_pos rfl];exact qaa (fun z=>Value.int .u64<|g z)<|by omega) (fun z _ hz=>by rw[if_neg hz]) ?_;rintro w H;refine Ab<|Bw U<|A0 U U ?_;refine AA qf qf U U ?_;refine A6<|BZ (a+k) (fun z => .int .u64 (sw g (a+0) (a+k) z)) (.int _ _) qf U U U H at0 (by omega) (by rw[D5];exact qaa (fun z=>Value.int .u64<|g z)<|by omega) (fun z _ hz=>by rw[D3 hz]) ?_;rintro w H;refine Ab<|Bw U<|Bu<|Aw<|AH U<|Ad U<|Ad U<|Ad U<|Aj qB (UX (lo:=0) (hi:=k) (o:=a) (f:=sw g (a+0)<|a+k) (H.get at0) hn hm (fun i c h1 h2 h3=>by rw[Eo,Eo];exact hP i c (by omega) h2<|by omega)) U ?_;rintro rv w ⟨rfl,g2,hS2,hP2,H2⟩
       replace H:=Ctx.back (L1:=[_]) (L2:=[]) H H2;refine Ab<|Av<|Aa<|Aw<|Ad U<|Cf U U ?_;refine Ag U<|qA ?_;have hout:=fun z hz=>hS2.out z hz;have hk2:g2 (a+k)=g (a+0):=by rw[hout _<|.inr<|qaq _,D5]
       have hot:∀z,a+k<z->g2 z=g z:=fun z hz=>by rw[hout _<|.inr<|by omega,Eo]
       refine⟨(k,g2),rfl,⟨rfl,trivial⟩,⟨by dsimp only;omega,(hS.step (a+0) (a+k) ⟨by omega,by omega⟩ ⟨by omega,by omega⟩).trans<|hS2.mono (qaq _)<|by omega,hP2,⟨fun x y h1 h2 h3=>?_,fun x y h1 h2 h3=>?_⟩,H⟩,by dsimp only;omega⟩
       .dsimp only at h1 |-;rw[hot y<|by omega]
        by_cases e:x=a+k
        .rw[e,hk2];exact hQ.le 0 y (by omega) (by omega) h3
        .rw[hot x<|by omega];exact hQ.srt x y (by omega) h2 h3
       .dsimp only at h1 h2 |-;obtain⟨z,hz1,hz2,hz3⟩:=hS2.mem (a+x) (by omega) (by omega)
        obtain⟨u,hu1,hu2⟩:∃u,u<k+1/\g2 (a+x)=g (a+u):=by
         by_cases e:z=a+0
         .exact⟨k,by omega,by rw[hz3,e,GK]⟩
         .exact⟨z - a,by omega,by rw[hz3,Eo (h1:=e)];congr 1;omega⟩
        rw[hu2]
        by_cases e:y=a+k
        .rw[e,hk2];exact hP.root u hu1
        .rw[hot y<|by omega];exact hQ.le u y hu1 (by omega) h3
      .intro h2;omega
  .rw[show((k+1:Nat):Int) - 1=(k:Int)by omega];refine qGp 6 ?_ ?_
   .intro h1;refine qG 9 ?_;refine Aj qB (UX (lo:=k) (hi:=l) (o:=a) (f:=g) (H.get at0) hn hm hP) U ?_;rintro rv w ⟨rfl,g2,hS2,hP2,H2⟩;replace H:=Ctx.back (L1:=[_]) (L2:=[]) H H2;refine Ab<|Av<|Aa<|Aw<|Ad U<|Cf U U ?_;refine Ag U<|qA ?_;exact⟨(k,g2),rfl,⟨rfl,trivial⟩,⟨by dsimp only;omega,hS.trans hS2,hP2,H⟩,by dsimp only;omega⟩
   .intro h1;omega
end
section
variable {w:World}{q n c m s:Nat}{k:Int}{f:Nat->Int}
theorem Lu(hd:w.heap[q]?=some (Bl 24 (CA f m)))(hs:w.heap[s]?=some (Bl 3 [.int .i64 k]))(hj:j<n)(hn:n<=m)(_:n<=1000000000)(hi:i<n:=by omega):
  Ret prog 279 #[.slice (some ⟨q,0,none⟩) n c,.int .i64 (i:Int),.int .i64 (j:Int),ptr s] w fun v w'=>∃(x y:Nat) (k':Int),((x=i/\y=j)\/(x=j/\y=i))/\v=.tuple #[.int .i64 (x:Int),.int .i64 (y:Int)]/\Ctx w [s] w' [(s,Bl 3 [.int .i64 k'])]:=by
 obtain⟨w0,rfl⟩:=qD w;have H:=Ctx.start1 hs;refine iG func279 U ?_;refine qG 6 ?_;refine De 8 AW U U ?_;refine qG 3 ?_;refine BD qf U (by rintro _ rfl;exact((Cy (w:=w0.drew) hd))) ?_;refine qG 3 ?_;refine BD qf U (by rintro _ rfl;exact((Cy (w:=w0.drew) hd)))<|Cc ?_;replace H:=H.drew;refine Aj qB (EI _ _ _) U ?_;rintro v w ⟨rfl,rfl⟩;refine qGc 2 ?_ ?_
 .intro h1;refine qG 4 ?_;refine LS U U U ?_;intro k2;refine qG 2 ?_;rintro w H;refine qG 12 ?_;exact⟨j,i,k2,.inr ⟨rfl,rfl⟩,rfl,H⟩
 .intro h1;refine qG 11 ?_;exact⟨i,j,k,.inl ⟨rfl,rfl⟩,rfl,H⟩
theorem OG(hd:w.heap[q]?=some (Bl 24 (CA f m)))(hs:w.heap[s]?=some (Bl 3 [.int .i64 k]))(hne:q≠s)(hn:n<=m)(hm:n<=1000000000)(hi:i<n:=by omega)(hj:j<n:=by omega)(hl:l<n:=by omega):
  Ret prog 270 #[.slice (some ⟨q,0,none⟩) n c,.int .i64 (i:Int),.int .i64 (j:Int),.int .i64 (l:Int),ptr s] w fun v w'=>∃(x:Nat) (k':Int),(x=i\/x=j\/x=l)/\v=.int .i64 (x:Int)/\Ctx w [s] w' [(s,Bl 3 [.int .i64 k'])]:=by
 obtain⟨w0,rfl⟩:=qD w;have H:=Ctx.start1 hs;have hq:q∉[s]:=by rw[qab];exact hne
 refine iG func270 U ?_;refine qG 9 ?_;refine Aj qB (Lu (i:=i) (j:=j) (H.ext.to hd hq) (H.get at0) (hi:=hi) hj hn hm) U ?_;rintro v w ⟨x1,y1,k1,h1,rfl,H2⟩;replace H:=Ctx.back (L1:=[_]) (L2:=[]) H H2;refine qG 12 ?_;refine Aj qB (Lu (i:=y1) (j:=l) (H.ext.to hd hq) (H.get at0) hl hn hm) U ?_;rintro v w ⟨x2,y2,k2,h2,rfl,H2⟩;replace H:=Ctx.back (L1:=[_]) (L2:=[]) H H2;refine qG 12 ?_;refine Aj qB (Lu (i:=x1) (j:=x2) (H.ext.to hd hq) (H.get at0) (by omega) hn hm) U ?_;rintro v w ⟨x3,y3,k3,h3,rfl,H2⟩;replace H:=Ctx.back (L1:=[_]) (L2:=[]) H H2;refine qG 14 ?_;exact⟨y3,k3,by omega,rfl,H⟩
theorem Ix(hd:w.heap[q]?=some (Bl 24 (CA f m)))(hs:w.heap[s]?=some (Bl 3 [.int .i64 k]))(hne:q≠s)(hn:n<=m)(hm:n<=1000000000)(hi0:0<i:=by omega)(hi:i+1<n:=by omega):
  Ret prog 269 #[.slice (some ⟨q,0,none⟩) n c,.int .i64 (i:Int),ptr s] w fun v w'=>∃(x:Nat) (k':Int),(x+1=i\/x=i\/x=i+1)/\v=.int .i64 (x:Int)/\Ctx w [s] w' [(s,Bl 3 [.int .i64 k'])]:=by
 obtain⟨w0,rfl⟩:=qD w;refine iG func269 U ?_;refine qG 8 ?_;rw[show(i:Int) - 1=((i - 1:Nat):Int)by omega];refine qG 3 ?_;rw[show(i:Int)+1=((i+1:Nat):Int)by omega];refine AV U<|Aj qB (OG (i:=i - 1) (j:=i) (l:=i+1) hd hs hne hn hm) U ?_;rintro v w ⟨x1,k1,h1,rfl,H⟩;refine qG 5 ?_;exact⟨x1,k1,by omega,rfl,H⟩
theorem YS(hd:w.heap[q]?=some (Bl 24 (CA f m)))(hn:n<=m)(hm:n<=1000000000)(hab:a<b:=by omega)(hb:b<=n:=by omega):
  Ret prog 240 #[.slice (some ⟨q,0,none⟩) n c,.int .i64 (a:Int),.int .i64 (b:Int)] w fun v w'=>∃(x:Nat) (h:Int),a<=x/\x<b/\v=.tuple #[.int .i64 (x:Int),.int .i64 h]/\Ext [] w w':=by
 obtain⟨w0,rfl,H⟩:=qE w;obtain⟨l,rfl⟩:∃l,b=a+l:=⟨b - a,by omega⟩;have hl:((a+l:Nat):Int) - (a:Int)=(l:Int):=by omega
 have hql:=AX hd;refine iG func240 U ?_;refine qG 9 ?_;rw[hl];refine qG 5 ?_;rintro b9 w - H;refine qG 5 ?_;refine Hn U U (show _<=(9223372036854775807:Int)by omega)<|Fm U U<|Ap U U ?_;rw[show(a:Int)+(l:Int) / 4*1=((a+l / 4:Nat):Int)by omega];refine qG 6 ?_;refine Hn U U (show _<=(9223372036854775807:Int)by omega)<|Fm U U<|Ap U U ?_;rw[show(a:Int)+(l:Int) / 4*2=((a+l / 4*2:Nat):Int)by omega];refine qG 6 ?_;refine Hn U U (show _<=(9223372036854775807:Int)by omega)<|Fm U U<|Ap U U ?_;rw[show(a:Int)+(l:Int) / 4*3=((a+l / 4*3:Nat):Int)by omega]
 refine qG 9 ?_;have hqs:=H.own _<|qah ..
 have hne:q≠b9:=fun e=>by subst e;rcases hqs with h|h;cases h;dsimp only at h;omega
 refine EH 562941363493888 (α:=Nat × Int) (fun z=>[(11,.int .i64 (z.1:Int))]) (fun z w'=>a<=z.1/\z.1<a+l/\Ctx w0 [] w' [(b9,Bl 3 [.int .i64 z.2])]) U ?_ ?_
 .skip
  refine iB U ?_ ?_
  .intro h1;refine qG 6 ?_;refine EH 17557826313216 (α:=Nat × Nat × Nat × Int) (fun z=>[(10,.int .i64 (z.1:Int)),(11,.int .i64 (z.2.1:Int)),(12,.int .i64 (z.2.2.1:Int))]) (fun z w'=>(a<=z.1/\z.1<a+l)/\(a<=z.2.1/\z.2.1<a+l)/\(a<=z.2.2.1/\z.2.2.1<a+l)/\Ctx w0 [] w' [(b9,Bl 3 [.int .i64 z.2.2.2])]) U ?_ ?_
   .skip
    refine iB U ?_ ?_
    .intro h2;refine Af<|AH U<|Ad U<|Aj qB (Ix (i:=a+l / 4) (H.ext.to hd<|by simp) (H.get at0) hne hn hm) U ?_;rintro v w ⟨x1,k1,h3,rfl,H2⟩;replace H:=Ctx.back (L1:=[_]) (L2:=[]) H H2;refine qG 6 ?_;refine Aj qB (Ix (i:=a+l / 4*2) (H.ext.to hd<|by simp) (H.get at0) hne hn hm) U ?_;rintro v w ⟨x2,k2,h4,rfl,H2⟩;replace H:=Ctx.back (L1:=[_]) (L2:=[]) H H2;refine qG 6 ?_;refine Aj qB (Ix (i:=a+l / 4*3) (H.ext.to hd<|by simp) (H.get at0) hne hn hm) U ?_;rintro v w ⟨x3,k3,h5,rfl,H2⟩;replace H:=Ctx.back (L1:=[_]) (L2:=[]) H H2;refine qG 3 ?_;exact⟨(x1,x2,x3,k3),rfl,⟨rfl,rfl,rfl,trivial⟩,by dsimp only;omega,by dsimp only;omega,by dsimp only;omega,H⟩
    .intro h2;refine A1<|Aa ?_;exact⟨(a+l / 4,a+l / 4*2,a+l / 4*3,_),rfl,⟨rfl,rfl,rfl,trivial⟩,by dsimp only;omega,by dsimp only;omega,by dsimp only;omega,H⟩
   .rintro⟨x1,x2,x3,k1⟩ j1 w ⟨g1,g2,g3,H⟩;dsimp only at g1 g2 g3 H;dsimp only;refine qG 5 ?_;refine Aj qB (OG (i:=x1) (j:=x2) (l:=x3) (H.ext.to hd<|by simp) (H.get at0) hne hn hm) U ?_;rintro v w ⟨x4,k4,h3,rfl,H2⟩;replace H:=Ctx.back (L1:=[_]) (L2:=[]) H H2;refine qG 3 ?_;exact⟨(x4,k4),rfl,⟨rfl,trivial⟩,by dsimp only;omega,by dsimp only;omega,H⟩
  .intro h1;refine A1<|Aa ?_;exact⟨(a+l / 4*2,_),rfl,⟨rfl,trivial⟩,by dsimp only;omega,by dsimp only;omega,H⟩
 .rintro⟨x,k⟩ j w ⟨g1,g2,H⟩;dsimp only at g1 g2 H;dsimp only;refine qGp 10 ?_ ?_
  .intro h1;refine qG 9 ?_;exact⟨x,_,g1,g2,rfl,H.ext⟩
  .intro h2;refine qGp 5 ?_ ?_
   .intro h3;refine qG 9 ?_;exact⟨x,_,g1,g2,rfl,H.ext⟩
   .intro h4;refine qG 9 ?_;exact⟨x,_,g1,g2,rfl,H.ext⟩
theorem TL(hd:w.heap[q]?=some (Bl 24 (CA f m)))(hn:n<=m)(hm:n<=1000000000)(hab:a<b:=by omega)(hb:b<=n:=by omega):
  Ret prog 241 #[.slice (some ⟨q,0,none⟩) n c,.int .i64 (a:Int),.int .i64 (b:Int)] w fun v w'=>v=.tuple #[]/\∃g,Sw a b f g/\Ctx w [q] w' [(q,Bl 24 (CA g m))]:=by
 obtain⟨w0,rfl⟩:=qD w;have H:=Ctx.start1 hd;refine iG func241 U ?_;refine qG 8 ?_;rw[show(b:Int) - 1=((b - 1:Nat):Int)by omega];refine qG 4 ?_;refine AY 4294965440 (α:=Nat × Nat × (Nat->Int)) (fun t=>[(6,.int .i64 (t.1:Int)),(7,.int .i64 (t.2.1:Int))]) (fun t w'=>a<=t.1/\t.2.1<b/\t.1<=b/\Sw a b f t.2.2/\Ctx w0 [q] w' [(q,Bl 24 (CA t.2.2 m))]) (fun t=>b - t.1) (a,b - 1,f) U ?_ ?_ ?_
 .exact⟨rfl,rfl,trivial⟩
 .exact⟨qaq _,by dsimp only;omega,by dsimp only;omega,.refl _,H⟩
 .rintro⟨i,j,g⟩ j0 w ⟨g1,g2,g3,hS,H⟩;dsimp only at g1 g2 g3 hS H;dsimp only;refine qGp 7 ?_ ?_
  .intro h1;refine A1<|Aa<|AK<|BG [([0,1,2,3,4,5,6,7,8,9,10,11,12],13),([14],15)] (fun z=>z.heap[q]?=some (Bl 24 (CA g m))) [13,15] AW (H.drew.get at0) ?_;refine A0 U U<|Bq U<|AG U<|Bq U<|AG U<|Bq U<|AG U<|AA qf qf U U ?_;refine AU qf U (fun _ hx=>(Cy hx))<|Bq U<|AG U<|AA qf qf U U ?_;refine AU qf U (fun _ hx=>(Cy hx))<|AA qf qf U U ?_;refine A6 ?_;replace H:=H.drew;refine BZ i (fun z => .int .u64 (if z=i then g j else g z)) (.int _ _) qf U U U H at0 (by omega) (by rw[if_pos rfl];exact qaa (fun z=>Value.int .u64<|g z)<|by omega) (fun z _ hz=>by rw[if_neg hz]) ?_;rintro w H;refine Ab<|Bw U<|A0 U U ?_;refine AA qf qf U U ?_
   refine A6<|BZ j (fun z => .int .u64 (sw g i j z)) (.int _ _) qf U U U H at0 (by omega) (by rw[D5];exact qaa (fun z=>Value.int .u64<|g z)<|by omega) (fun z _ hz=>by rw[D3 hz]) ?_;rintro w H;refine Ab<|Bw U<|Bu<|Af<|Ad U<|Ap U U ?_;refine Ag U<|qA<|Aw<|Ad U<|Cf U U ?_;refine Ag U<|Ab<|Av<|Aa ?_;exact⟨(i+1,j - 1,sw g i j),rfl,⟨qaa (Value.int .i64) (by dsimp only;omega),qaa (Value.int .i64) (by dsimp only;omega),trivial⟩,⟨by dsimp only;omega,by dsimp only;omega,by dsimp only;omega,hS.step i j ⟨by omega,by omega⟩ ⟨by omega,by omega⟩,H⟩,by dsimp only;omega⟩
  .intro h1;refine qG 5 ?_;exact⟨rfl,g,hS,H⟩
end
structure PartU(g:Nat->Int)(a mid b:Nat):Prop where
 le:∀x,a<=x->x<mid->g x<=g mid
 ge:∀y,mid<y->y<b->g mid<=g y
theorem OH(h1:∀x,a<x->x<=j->g x<g a)(h2:∀y,j<y->y<b->g a<=g y)(hj:a<=j:=by omega):PartU (sw g j a) a j b:=by
 have hv:sw g j a j=g a:=GK g j a;refine⟨fun x hx hxj=>?_,fun y hy hyb=>?_⟩
 .rw[hv]
  by_cases e:x=a
  .rw[e,D5];exact Int.le_of_lt<|h1 j (by omega)<|qaq _
  .rw[Eo (h2:=e)];exact Int.le_of_lt<|h1 x (by omega)<|by omega
 .rw[hv,Eo];exact h2 y hy hyb
theorem OJ(h:a+1<=i/\i<=j+1/\j<b/\(∀x,a<x->x<i->g x<g a)/\∀y,j<y->y<b->g a<=g y)(hij:i<j)(hi:g a<=g i)(hj:g j<g a) :
  a+1<=i+1/\i+1<=j - 1+1/\j - 1<b/\(∀x,a<x->x<i+1->sw g i j x<sw g i j a)/\∀y,j - 1<y->y<b->sw g i j a<=sw g i j y:=by
 obtain⟨h1,h2,h3,h4,h5⟩:=h;have ha:sw g i j a=g a:=Eo;rw[ha];refine⟨by omega,by omega,by omega,fun x hx hxi=>?_,fun y hy hyb=>?_⟩
 .by_cases e:x=i
  .rw[e,GK];exact hj
  .rw[Eo (h1:=e)];exact h4 x hx<|by omega
 .by_cases e:y=j
  .rw[e,D5];exact hi
  .rw[Eo (h2:=e)];exact h5 y (by omega) hyb
section
variable {w:World}{q n c m:Nat}{f:Nat->Int}
theorem Qa(hd:w.heap[q]?=some (Bl 24 (CA f m)))(hn:n<=m)(hm:n<=1000000000)(hp:a<=p/\p<b)(hab:a<b:=by omega)(hb:b<=n:=by omega):
  Ret prog 245 #[.slice (some ⟨q,0,none⟩) n c,.int .i64 (a:Int),.int .i64 (b:Int),.int .i64 (p:Int)] w fun v w'=>∃(mid:Nat) (t:Bool) (g:Nat->Int),v=.tuple #[.int .i64 (mid:Int),.bool t]/\Sw a b f g/\a<=mid/\mid<b/\PartU g a mid b/\Ctx w [q] w' [(q,Bl 24 (CA g m))]:=by
 obtain⟨w0,rfl⟩:=qD w;have H:=Ctx.start1 hd;refine iG func245 U ?_;refine Af<|Ag U<|A5 U<|qA<|BG [([0,1,2,3,4,5,6,7,8,9,10,11,12],13),([14],15)] (fun z=>z.heap[q]?=some (Bl 24 (CA (f) m))) [13,15] AW (H.drew.get at0) ?_;refine A0 U U<|Bq U<|AG U<|Bq U<|AG U<|Bq U<|AG U<|AA qf qf U U ?_;refine AU qf U (fun _ hx=>(Cy hx))<|Bq U<|AG U<|AA qf qf U U ?_;refine AU qf U (fun _ hx=>(Cy hx))<|AA qf qf U U ?_;refine A6 ?_;replace H:=H.drew
 refine BZ (a) (fun z => .int .u64 (if z=a then(f) (p)else(f) z)) (.int _ _) qf U U U H at0 (by omega) (by rw[if_pos rfl];exact qaa (fun z=>Value.int .u64<|(f) z)<|by omega) (fun z _ hz=>by rw[if_neg hz]) ?_;rintro w H;refine Ab<|Bw U<|A0 U U ?_;refine AA qf qf U U ?_;refine A6<|BZ (p) (fun z => .int .u64 (sw (f) (a) (p) z)) (.int _ _) qf U U U H at0 (by omega) (by rw[D5];exact qaa (fun z=>Value.int .u64<|(f) z)<|by omega) (fun z _ hz=>by rw[D3 hz]) ?_;rintro w H;refine Ab<|Bw U<|Bu ?_;have hS0:=(Sw.refl (a:=a) (b:=b) f).step a p ⟨by omega,by omega⟩ hp;obtain⟨g,hg⟩:=qD<|sw f a p;rw[<-hg]at hS0 H;have hi0:a+1<=(a+1)/\(a+1)<=(b - 1)+1/\(b - 1)<b/\(∀x,a<x->x<(a+1)->(g) x<(g) a)/\∀y,(b - 1)<y->y<b->(g) a<=(g) y:=⟨qaq _,by omega,by omega,fun x h1 h2=>by omega,fun y h1 h2=>by omega⟩
 refine Af<|Ad U<|Ap U U ?_;rw[show(a:Int)+1=((a+1:Nat):Int)by omega];refine Ad U<|Cf U U ?_;rw[show(b:Int) - 1=((b - 1:Nat):Int)by omega];refine Ag U<|Ag U<|qA<|AB<|AK<|AY 70367670436864 (α:=Nat) (fun i=>[(10,.int .i64 (i:Int))]) (fun i w'=>(a+1<=i/\i<=(b - 1)+1/\(b - 1)<b/\(∀x,a<x->x<i->(g) x<(g) a)/\∀y,(b - 1)<y->y<b->(g) a<=(g) y)/\Ctx w0 [q] w' [(q,Bl 24 (CA (g) m))]) (fun i=>b - i) (a+1) U ?_ ?_ ?_
 .exact⟨by rfl,trivial⟩
 .exact⟨by assumption,H⟩
 .rintro i jx w ⟨hiv,H⟩;refine AB<|Dk 17591112302592 (α:=Unit) (fun _=>[(43,.bool<|decide (i<=b - 1/\g i<g a))]) (fun _ w'=>Ctx w0 [q] w' [(q,Bl 24 (CA (g) m))]) U ?_ ?_
  .skip
   refine DL 12 AW U U (AS U<|AS U<|LK U U<|EU U<|iD 33 U ?_ ?_)
   .intro h1;refine BT U<|AS U<|Bt qf qf U U ?_;refine BD qf U (by rintro _ rfl;exact((Cy<|H.drew.get at0))) ?_;refine BT U<|AS U<|Bt qf qf U U ?_;refine BD qf U (by rintro _ rfl;exact((Cy<|H.drew.get at0))) ?_;refine Cc ?_;replace H:=H.drew;refine Aj qB (EI _ _ _) U ?_;rintro v w ⟨rfl,rfl⟩;simp only[qa7];refine Bz U (.bool _) U<|qA ?_;exact⟨(),rfl,⟨qaa Value.bool (by clear hiv;rw[qac];simp_all;try omega),trivial⟩,H⟩
   .intro h2;refine BX U<|BX U<|BX U<|BX U<|BX U<|BX U<|BX U<|BX U<|Cc ?_;replace H:=H.drew;refine Al U<|B9 U (.bool _) U<|qA ?_;exact⟨(),rfl,⟨qaa Value.bool (by clear hiv;rw[qac];simp_all;try omega),trivial⟩,H⟩
  .rintro - jy w H;refine A3 _ U ?_ ?_
   .intro hc;have hc:=qbe hc;refine A1<|Aa<|AK<|Aw<|Ad U<|Ap U U ?_;refine Ag U<|Ab<|Av<|Aa ?_;exact⟨i+1,rfl,⟨qaa (Value.int .i64)<|by omega,trivial⟩,⟨⟨by omega,by omega,by omega,fun x h1 h2=>(if e:x=i then by rw[e];exact hc.2 else hiv.2.2.2.1 x h1<|by omega),hiv.2.2.2.2⟩,H⟩,by omega⟩
   .intro hc;have hc:=qbq hc;have hci:=hc;have hi0:=hiv;refine Bi<|Am<|Am<|A8<|Aa<|AB<|AK<|AY 9223301668110600192 (α:=Nat) (fun j=>[(11,.int .i64 (j:Int))]) (fun j w'=>(a+1<=i/\i<=j+1/\j<b/\(∀x,a<x->x<i->(g) x<(g) a)/\∀y,j<y->y<b->(g) a<=(g) y)/\Ctx w0 [q] w' [(q,Bl 24 (CA (g) m))]) (fun j=>j) (b - 1) U ?_ ?_ ?_
    .exact⟨by rfl,trivial⟩
    .exact⟨by assumption,H⟩
    .rintro j jx w ⟨hiv,H⟩;refine AB<|Dk 2305772640469516288 (α:=Unit) (fun _=>[(60,.bool<|decide (i<=j/\g a<=g j))]) (fun _ w'=>Ctx w0 [q] w' [(q,Bl 24 (CA (g) m))]) U ?_ ?_
     .skip
      refine DL 12 AW U U (AS U<|AS U<|LK U U<|EU U<|iD 49 U ?_ ?_)
      .intro h3;refine BT U<|AS U<|Bt qf qf U U ?_;refine BD qf U (by rintro _ rfl;exact((Cy<|H.drew.get at0))) ?_;refine BT U<|AS U<|Bt qf qf U U ?_;refine BD qf U (by rintro _ rfl;exact((Cy<|H.drew.get at0))) ?_;refine Cc ?_;replace H:=H.drew;refine Aj qB (EI _ _ _) U ?_;rintro v w ⟨rfl,rfl⟩;simp only[qa7];refine Df U<|Bz U (.bool _) U<|qA ?_;exact⟨(),rfl,⟨qaa Value.bool (by clear hiv;rw[qac];simp_all;try omega),trivial⟩,H⟩
      .intro h4;refine BX U<|BX U<|BX U<|BX U<|BX U<|BX U<|BX U<|BX U<|Cc ?_;replace H:=H.drew;refine Al U<|Al U<|B9 U (.bool _) U<|qA ?_;exact⟨(),rfl,⟨qaa Value.bool (by clear hiv;rw[qac];simp_all;try omega),trivial⟩,H⟩
     .rintro - jy w H;refine A3 _ U ?_ ?_
      .intro hc;have hc:=qbe hc;refine A1<|Aa<|AK<|Aw<|Ad U<|Cf U U ?_;refine Ag U<|Ab<|Av<|Aa ?_;exact⟨j - 1,rfl,⟨qaa (Value.int .i64)<|by omega,trivial⟩,⟨⟨by omega,by omega,by omega,hiv.2.2.2.1,fun y h1 h2=>(if e:y=j then by rw[e];exact hc.2 else hiv.2.2.2.2 y (by omega) h2)⟩,H⟩,by omega⟩
      .intro hc;have hc:=qbq hc;have hci:¬(i<=j/\g i<g a):=fun h=>hci ⟨by omega,h.2⟩;refine Bi<|Am<|Am<|A8<|Aa<|AB<|Af<|Ad U<|Ad U<|Es U U<|qA<|iB U ?_ ?_
       .intro h5;have hji:j+1=i:=by omega
        refine BG [([0,1,2,3,4,5,6,7,8,9,10,11,12],13),([14],15)] (fun z=>z.heap[q]?=some (Bl 24 (CA (g) m))) [13,15] AW (H.drew.get at0)<|A0 U U ?_;refine Bq U<|AG U<|Bq U<|AG U<|Bq U<|AG U<|AA qf qf U U ?_;refine AU qf U (fun _ hx=>(Cy hx))<|Bq U<|AG U<|AA qf qf U U ?_;refine AU qf U (fun _ hx=>(Cy hx))<|AA qf qf U U ?_;refine A6 ?_;replace H:=H.drew;refine BZ (j) (fun z => .int .u64 (if z=j then(g) (a)else(g) z)) (.int _ _) qf U U U H at0 (by omega) (by rw[if_pos rfl];exact qaa (fun z=>Value.int .u64<|(g) z)<|by omega) (fun z _ hz=>by rw[if_neg hz]) ?_;rintro w H;refine Ab<|Bw U<|A0 U U ?_;refine AA qf qf U U ?_
        refine A6<|BZ (a) (fun z => .int .u64 (sw (g) (j) (a) z)) (.int _ _) qf U U U H at0 (by omega) (by rw[D5];exact qaa (fun z=>Value.int .u64<|(g) z)<|by omega) (fun z _ hz=>by rw[D3 hz]) ?_;rintro w H;refine Ab<|Bw U<|Bu<|Af<|Ad U<|Ag U<|A5 U<|qA<|Bf<|AD<|Cz (v1:=(.int _ _)) (v2:=(.bool _)) U U U U ?_;exact⟨j,true,sw g j a,rfl,hS0.step j a ⟨by omega,by omega⟩ ⟨by omega,by omega⟩,by omega,by omega,OH (fun x h1 h2=>hiv.2.2.2.1 x h1<|by omega) hiv.2.2.2.2,H⟩
       .intro h5
        have hne:i<j:=by
         rcases qao i j with h|h
         .exact h
         .obtain rfl:i=j:=by omega
          exact absurd ⟨qaq i,by rcases qcn (g i) (g a)with h7|h7;exact absurd ⟨qaq i,h7⟩ hci;exact h7⟩ hc
        have hgi:g a<=g i:=by rcases qcn (g i) (g a)with h7|h7;exact absurd ⟨by omega,h7⟩ hci;exact h7
        have hgj:g j<g a:=by rcases qcn (g j) (g a)with h7|h7;exact h7;exact absurd ⟨by omega,h7⟩ hc
        refine A1<|Aa<|BG [([0,1,2,3,4,5,6,7,8,9,10,11,12],13),([14],15)] (fun z=>z.heap[q]?=some (Bl 24 (CA (g) m))) [13,15] AW (H.drew.get at0) ?_;refine A0 U U<|Bq U<|AG U<|Bq U<|AG U<|Bq U<|AG U<|AA qf qf U U ?_;refine AU qf U (fun _ hx=>(Cy hx))<|Bq U<|AG U<|AA qf qf U U ?_;refine AU qf U (fun _ hx=>(Cy hx))<|AA qf qf U U ?_;refine A6 ?_;replace H:=H.drew;refine BZ (i) (fun z => .int .u64 (if z=i then(g) (j)else(g) z)) (.int _ _) qf U U U H at0 (by omega) (by rw[if_pos rfl];exact qaa (fun z=>Value.int .u64<|(g) z)<|by omega) (fun z _ hz=>by rw[if_neg hz]) ?_;rintro w H;refine Ab<|Bw U<|A0 U U ?_;refine AA qf qf U U ?_
        refine A6<|BZ (j) (fun z => .int .u64 (sw (g) (i) (j) z)) (.int _ _) qf U U U H at0 (by omega) (by rw[D5];exact qaa (fun z=>Value.int .u64<|(g) z)<|by omega) (fun z _ hz=>by rw[D3 hz]) ?_;rintro w H;refine Ab<|Bw U<|Bu<|Af<|Ad U<|Ap U U ?_;refine Ag U<|qA<|Af<|Ad U<|Cf U U ?_;refine Ag U<|qA<|AB<|AK<|AY 11417981541647678414640987641481260342710373376 (α:=Nat × Nat × (Nat->Int)) (fun t=>[(10,.int .i64 (t.1:Int)),(11,.int .i64 (t.2.1:Int))]) (fun t w'=>(a+1<=t.1/\t.1<=t.2.1+1/\t.2.1<b/\(∀x,a<x->x<t.1->(t.2.2) x<(t.2.2) a)/\∀y,t.2.1<y->y<b->(t.2.2) a<=(t.2.2) y)/\Sw a b f t.2.2/\Ctx w0 [q] w' [(q,Bl 24 (CA t.2.2 m))]) (fun t=>b - t.1) (i+1,j - 1,sw g i j) U ?_ ?_ ?_
        .exact⟨rfl,qaa (Value.int .i64) (by dsimp only;omega),trivial⟩
        .exact⟨OJ hiv hne hgi hgj,hS0.step i j ⟨by omega,by omega⟩ ⟨by omega,by omega⟩,H⟩
        .rintro⟨i,j,g⟩ j0 w ⟨hi0,hS0,H⟩;dsimp only at hi0 hS0 H;dsimp only;obtain⟨i0,hi0e⟩:=qD i;obtain⟨j1,hj1e⟩:=qD j;have hi1:i0<=i/\a+1<=i/\i<=j+1/\j<b/\(∀x,a<x->x<i->(g) x<(g) a)/\∀y,j<y->y<b->(g) a<=(g) y:=⟨by omega,hi0⟩;refine AK<|AB<|AK<|AY 41537741042978506913543222282159104 (α:=Nat) (fun i=>[(10,.int .i64 (i:Int))]) (fun i w'=>(i0<=i/\a+1<=i/\i<=j+1/\j<b/\(∀x,a<x->x<i->(g) x<(g) a)/\∀y,j<y->y<b->(g) a<=(g) y)/\Ctx w0 [q] w' [(q,Bl 24 (CA (g) m))]) (fun i=>j+1 - i) i U ?_ ?_ ?_
         .exact⟨by rfl,trivial⟩
         .exact⟨hi1,H⟩
         .rintro i jx w ⟨hiv,H⟩;refine AB<|Dk 10383959891769541142360244306837504 (α:=Unit) (fun _=>[(112,.bool<|decide (i<=j/\g i<g a))]) (fun _ w'=>Ctx w0 [q] w' [(q,Bl 24 (CA (g) m))]) U ?_ ?_
          .skip
           refine DL 12 AW U U (AS U<|AS U<|LK U U<|EU U<|iD 102 U ?_ ?_)
           .intro h5;refine BT U<|AS U<|Bt qf qf U U ?_;refine BD qf U (by rintro _ rfl;exact((Cy<|H.drew.get at0))) ?_;refine BT U<|AS U<|Bt qf qf U U ?_;refine BD qf U (by rintro _ rfl;exact((Cy<|H.drew.get at0))) ?_;refine Cc ?_;replace H:=H.drew;refine Aj qB (EI _ _ _) U ?_;rintro v w ⟨rfl,rfl⟩;simp only[qa7];refine Bz U (.bool _) U<|qA ?_;exact⟨(),rfl,⟨qaa Value.bool (by clear hiv;rw[qac];simp_all;try omega),trivial⟩,H⟩
           .intro h6;refine BX U<|BX U<|BX U<|BX U<|BX U<|BX U<|BX U<|BX U<|Cc ?_;replace H:=H.drew;refine Al U<|B9 U (.bool _) U<|qA ?_;exact⟨(),rfl,⟨qaa Value.bool (by clear hiv;rw[qac];simp_all;try omega),trivial⟩,H⟩
          .rintro - jy w H;refine A3 _ U ?_ ?_
           .intro hc;have hc:=qbe hc;refine A1<|Aa<|AK<|Aw<|Ad U<|Ap U U ?_;refine Ag U<|Ab<|Av<|Aa ?_;exact⟨i+1,rfl,⟨qaa (Value.int .i64)<|by omega,trivial⟩,⟨⟨by omega,by omega,by omega,by omega,fun x h1 h2=>(if e:x=i then by rw[e];exact hc.2 else hiv.2.2.2.2.1 x h1<|by omega),hiv.2.2.2.2.2⟩,H⟩,by omega⟩
           .intro hc;have hc:=qbq hc;have hci:=hc;have hi2:j<=j1/\a+1<=i/\i<=j+1/\j<b/\(∀x,a<x->x<i->(g) x<(g) a)/\∀y,j<y->y<b->(g) a<=(g) y:=⟨by omega,hiv.2⟩;have hi3:=hiv.1;refine Bi<|Am<|Am<|A8<|Aa<|AB<|AK<|AY 5444476332360147136792965474937657624576 (α:=Nat) (fun j=>[(11,.int .i64 (j:Int))]) (fun j w'=>(j<=j1/\a+1<=i/\i<=j+1/\j<b/\(∀x,a<x->x<i->(g) x<(g) a)/\∀y,j<y->y<b->(g) a<=(g) y)/\Ctx w0 [q] w' [(q,Bl 24 (CA (g) m))]) (fun j=>j) j U ?_ ?_ ?_
            .exact⟨by rfl,trivial⟩
            .exact⟨hi2,H⟩
            .rintro j jx w ⟨hiv,H⟩;refine AB<|Dk 1361087929308885575232470185756439085056 (α:=Unit) (fun _=>[(129,.bool<|decide (i<=j/\g a<=g j))]) (fun _ w'=>Ctx w0 [q] w' [(q,Bl 24 (CA (g) m))]) U ?_ ?_
             .skip
              refine DL 12 AW U U (AS U<|AS U<|LK U U<|EU U<|iD 118 U ?_ ?_)
              .intro h7;refine BT U<|AS U<|Bt qf qf U U ?_;refine BD qf U (by rintro _ rfl;exact((Cy<|H.drew.get at0))) ?_;refine BT U<|AS U<|Bt qf qf U U ?_;refine BD qf U (by rintro _ rfl;exact((Cy<|H.drew.get at0))) ?_;refine Cc ?_;replace H:=H.drew;refine Aj qB (EI _ _ _) U ?_;rintro v w ⟨rfl,rfl⟩;simp only[qa7];refine Df U<|Bz U (.bool _) U<|qA ?_;exact⟨(),rfl,⟨qaa Value.bool (by clear hiv;rw[qac];simp_all;try omega),trivial⟩,H⟩
              .intro h8;refine BX U<|BX U<|BX U<|BX U<|BX U<|BX U<|BX U<|BX U<|Cc ?_;replace H:=H.drew;refine Al U<|Al U<|B9 U (.bool _) U<|qA ?_;exact⟨(),rfl,⟨qaa Value.bool (by clear hiv;rw[qac];simp_all;try omega),trivial⟩,H⟩
             .rintro - jy w H;refine A3 _ U ?_ ?_
              .intro hc;have hc:=qbe hc;refine A1<|Aa<|AK<|Aw<|Ad U<|Cf U U ?_;refine Ag U<|Ab<|Av<|Aa ?_;exact⟨j - 1,rfl,⟨qaa (Value.int .i64)<|by omega,trivial⟩,⟨⟨by omega,by omega,by omega,by omega,hiv.2.2.2.2.1,fun y h1 h2=>(if e:y=j then by rw[e];exact hc.2 else hiv.2.2.2.2.2 y (by omega) h2)⟩,H⟩,by omega⟩
              .intro hc;have hc:=qbq hc;have hci:¬(i<=j/\g i<g a):=fun h=>hci ⟨by omega,h.2⟩;replace hiv:=hiv.2;refine Bi<|Am<|Am<|A8<|Aa<|AB<|Af<|Ad U<|Ad U<|Es U U<|qA<|iB U ?_ ?_
               .intro h5;have hji:j+1=i:=by omega
                refine Bi<|Am<|Gv U<|Am<|A8<|Aa<|BG [([0,1,2,3,4,5,6,7,8,9,10,11,12],13),([14],15)] (fun z=>z.heap[q]?=some (Bl 24 (CA (g) m))) [13,15] AW (H.drew.get at0) ?_;refine A0 U U<|Bq U<|AG U<|Bq U<|AG U<|Bq U<|AG U<|AA qf qf U U ?_;refine AU qf U (fun _ hx=>(Cy hx))<|Bq U<|AG U<|AA qf qf U U ?_;refine AU qf U (fun _ hx=>(Cy hx))<|AA qf qf U U ?_;refine A6 ?_;replace H:=H.drew;refine BZ (j) (fun z => .int .u64 (if z=j then(g) (a)else(g) z)) (.int _ _) qf U U U H at0 (by omega) (by rw[if_pos rfl];exact qaa (fun z=>Value.int .u64<|(g) z)<|by omega) (fun z _ hz=>by rw[if_neg hz]) ?_;rintro w H;refine Ab<|Bw U<|A0 U U ?_;refine AA qf qf U U ?_
                refine A6<|BZ (a) (fun z => .int .u64 (sw (g) (j) (a) z)) (.int _ _) qf U U U H at0 (by omega) (by rw[D5];exact qaa (fun z=>Value.int .u64<|(g) z)<|by omega) (fun z _ hz=>by rw[D3 hz]) ?_;rintro w H;refine Ab<|Bw U<|Bu<|Af<|Ad U<|Ag U<|A5 U<|qA<|Bf<|Cz (v1:=(.int _ _)) (v2:=(.bool _)) U U U U ?_;exact⟨j,false,sw g j a,rfl,hS0.step j a ⟨by omega,by omega⟩ ⟨by omega,by omega⟩,by omega,by omega,OH (fun x h1 h2=>hiv.2.2.2.1 x h1<|by omega) hiv.2.2.2.2,H⟩
               .intro h5
                have hne:i<j:=by
                 rcases qao i j with h|h
                 .exact h
                 .obtain rfl:i=j:=by omega
                  exact absurd ⟨qaq i,by rcases qcn (g i) (g a)with h7|h7;exact absurd ⟨qaq i,h7⟩ hci;exact h7⟩ hc
                refine A1<|Aa<|BG [([0,1,2,3,4,5,6,7,8,9,10,11,12],13),([14],15)] (fun z=>z.heap[q]?=some (Bl 24 (CA (g) m))) [13,15] AW (H.drew.get at0) ?_;refine A0 U U<|Bq U<|AG U<|Bq U<|AG U<|Bq U<|AG U<|AA qf qf U U ?_;refine AU qf U (fun _ hx=>(Cy hx))<|Bq U<|AG U<|AA qf qf U U ?_;refine AU qf U (fun _ hx=>(Cy hx))<|AA qf qf U U ?_;refine A6 ?_;replace H:=H.drew;refine BZ (i) (fun z => .int .u64 (if z=i then(g) (j)else(g) z)) (.int _ _) qf U U U H at0 (by omega) (by rw[if_pos rfl];exact qaa (fun z=>Value.int .u64<|(g) z)<|by omega) (fun z _ hz=>by rw[if_neg hz]) ?_;rintro w H;refine Ab<|Bw U<|A0 U U ?_;refine AA qf qf U U ?_
                refine A6<|BZ (j) (fun z => .int .u64 (sw (g) (i) (j) z)) (.int _ _) qf U U U H at0 (by omega) (by rw[D5];exact qaa (fun z=>Value.int .u64<|(g) z)<|by omega) (fun z _ hz=>by rw[D3 hz]) ?_;rintro w H;refine Ab<|Bw U<|Bu<|Af<|Ad U<|Ap U U ?_;refine Ag U<|qA<|Aw<|Ad U<|Cf U U ?_;refine Ag U<|Ab<|Av<|Aa ?_
                have hgi:g a<=g i:=by rcases qcn (g i) (g a)with h7|h7;exact absurd ⟨by omega,h7⟩ hci;exact h7
                have hgj:g j<g a:=by rcases qcn (g j) (g a)with h7|h7;exact h7;exact absurd ⟨by omega,h7⟩ hc
                exact⟨(i+1,j - 1,sw g i j),rfl,⟨rfl,qaa (Value.int .i64) (by dsimp only;omega),trivial⟩,⟨OJ hiv hne hgi hgj,hS0.step i j ⟨by omega,by omega⟩ ⟨by omega,by omega⟩,H⟩,by dsimp only;omega⟩
end
theorem Ada(h:a+1<=i/\i<=j+1/\j<b/\(∀x,a<x->x<i->(g) x<=(g) a)/\∀y,j<y->y<b->(g) a<(g) y)(hij:i<j)(hi:g a<g i)(hj:g j<=g a):a+1<=i+1/\i+1<=(j - 1)+1/\(j - 1)<b/\(∀x,a<x->x<i+1->(sw g i j) x<=(sw g i j) a)/\∀y,(j - 1)<y->y<b->(sw g i j) a<(sw g i j) y:=by
 obtain⟨h1,h2,h3,h4,h5⟩:=h;have ha:sw g i j a=g a:=Eo;rw[ha];refine⟨by omega,by omega,by omega,fun x hx hxi=>?_,fun y hy hyb=>?_⟩
 .by_cases e:x=i
  .rw[e,GK];exact hj
  .rw[Eo (h1:=e)];exact h4 x hx<|by omega
 .by_cases e:y=j
  .rw[e,D5];exact hi
  .rw[Eo (h2:=e)];exact h5 y (by omega) hyb
section
variable {w:World}{q n c m:Nat}{f:Nat->Int}
theorem Wj(hd:w.heap[q]?=some (Bl 24 (CA f m)))(hn:n<=m)(hm:n<=1000000000)(hp:a<=p/\p<b)(hab:a<b:=by omega)(hb:b<=n:=by omega):
  Ret prog 244 #[.slice (some ⟨q,0,none⟩) n c,.int .i64 (a:Int),.int .i64 (b:Int),.int .i64 (p:Int)] w fun v w'=>∃(i:Nat) (g:Nat->Int),v=.int .i64 (i:Int)/\Sw a b f g/\a<i/\i<=b/\g a=f p/\(∀x,a<=x->x<i->g x<=g a)/\(∀y,i<=y->y<b->g a<g y)/\Ctx w [q] w' [(q,Bl 24 (CA g m))]:=by
 obtain⟨w0,rfl⟩:=qD w;have H:=Ctx.start1 hd;refine iG func244 U ?_;refine Af<|Ag U<|qA<|BG [([0,1,2,3,4,5,6,7,8,9,10,11,12],13),([14],15)] (fun z=>z.heap[q]?=some (Bl 24 (CA (f) m))) [13,15] AW (H.drew.get at0) ?_;refine A0 U U<|Bq U<|AG U<|Bq U<|AG U<|Bq U<|AG U<|AA qf qf U U ?_;refine AU qf U (fun _ hx=>(Cy hx))<|Bq U<|AG U<|AA qf qf U U ?_;refine AU qf U (fun _ hx=>(Cy hx))<|AA qf qf U U ?_;refine A6 ?_;replace H:=H.drew
 refine BZ (a) (fun z => .int .u64 (if z=a then(f) (p)else(f) z)) (.int _ _) qf U U U H at0 (by omega) (by rw[if_pos rfl];exact qaa (fun z=>Value.int .u64<|(f) z)<|by omega) (fun z _ hz=>by rw[if_neg hz]) ?_;rintro w H;refine Ab<|Bw U<|A0 U U ?_;refine AA qf qf U U ?_;refine A6<|BZ (p) (fun z => .int .u64 (sw (f) (a) (p) z)) (.int _ _) qf U U U H at0 (by omega) (by rw[D5];exact qaa (fun z=>Value.int .u64<|(f) z)<|by omega) (fun z _ hz=>by rw[D3 hz]) ?_;rintro w H;refine Ab<|Bw U<|Bu ?_;have hS0:=(Sw.refl (a:=a) (b:=b) f).step a p ⟨by omega,by omega⟩ hp;obtain⟨g,hg⟩:=qD<|sw f a p;have hga:g a=f p:=by rw[hg,GK]
 rw[<-hg]at hS0 H;refine Af<|Ad U<|Ap U U ?_;rw[show(a:Int)+1=((a+1:Nat):Int)by omega];refine Ad U<|Cf U U ?_;rw[show(b:Int) - 1=((b - 1:Nat):Int)by omega];refine Ag U<|Ag U<|qA<|AB<|AK<|AY 9671406556917032860780032 (α:=Nat × Nat × (Nat->Int)) (fun t=>[(9,.int .i64 (t.1:Int)),(10,.int .i64 (t.2.1:Int))]) (fun t w'=>(a+1<=t.1/\t.1<=t.2.1+1/\t.2.1<b/\(∀x,a<x->x<t.1->(t.2.2) x<=(t.2.2) a)/\∀y,t.2.1<y->y<b->(t.2.2) a<(t.2.2) y)/\t.2.2 a=f p/\Sw a b f t.2.2/\Ctx w0 [q] w' [(q,Bl 24 (CA t.2.2 m))]) (fun t=>b - t.1) (a+1,b - 1,g) U ?_ ?_ ?_
 .exact⟨rfl,rfl,trivial⟩
 .exact⟨⟨qaq _,by dsimp only;omega,by dsimp only;omega,fun x h1 h2=>by dsimp only at h2;omega,fun y h1 h2=>by dsimp only at h1;omega⟩,hga,hS0,H⟩
 .rintro⟨i,j,g⟩ j0 w ⟨hi0,hga,hS0,H⟩;dsimp only at hi0 hga hS0 H;dsimp only;obtain⟨i0,hi0e⟩:=qD i;obtain⟨j1,hj1e⟩:=qD j;have hi1:i0<=i/\a+1<=i/\i<=j+1/\j<b/\(∀x,a<x->x<i->(g) x<=(g) a)/\∀y,j<y->y<b->(g) a<(g) y:=⟨by omega,hi0⟩;refine AK<|AB<|AK<|AY 70368207307264 (α:=Nat) (fun i=>[(9,.int .i64 (i:Int))]) (fun i w'=>(i0<=i/\a+1<=i/\i<=j+1/\j<b/\(∀x,a<x->x<i->(g) x<=(g) a)/\∀y,j<y->y<b->(g) a<(g) y)/\Ctx w0 [q] w' [(q,Bl 24 (CA (g) m))]) (fun i=>j+1 - i) i U ?_ ?_ ?_
  .exact⟨by rfl,trivial⟩
  .exact⟨hi1,H⟩
  .rintro i jx w ⟨hiv,H⟩;refine AB<|Dk 17591649173504 (α:=Unit) (fun _=>[(43,.bool<|decide (i<=j/\¬g a<g i))]) (fun _ w'=>Ctx w0 [q] w' [(q,Bl 24 (CA (g) m))]) U ?_ ?_
   .skip
    refine DL 12 AW U U (AS U<|AS U<|LK U U<|EU U<|iD 32 U ?_ ?_)
    .intro h1;refine BT U<|AS U<|Bt qf qf U U ?_;refine BD qf U (by rintro _ rfl;exact((Cy<|H.drew.get at0))) ?_;refine BT U<|AS U<|Bt qf qf U U ?_;refine BD qf U (by rintro _ rfl;exact((Cy<|H.drew.get at0))) ?_;refine Cc ?_;replace H:=H.drew;refine Aj qB (EI _ _ _) U ?_;rintro v w ⟨rfl,rfl⟩;simp only[qa7];refine Df U<|Bz U (.bool _) U<|qA ?_;exact⟨(),rfl,⟨qaa Value.bool (by clear hiv;rw[qac];simp_all;try omega),trivial⟩,H⟩
    .intro h2;refine BX U<|BX U<|BX U<|BX U<|BX U<|BX U<|BX U<|BX U<|Cc ?_;replace H:=H.drew;refine Al U<|Al U<|B9 U (.bool _) U<|qA ?_;exact⟨(),rfl,⟨qaa Value.bool (by clear hiv;rw[qac];simp_all;try omega),trivial⟩,H⟩
   .rintro - jy w H;refine A3 _ U ?_ ?_
    .intro hc;have hc:=qbe hc;refine A1<|Aa<|AK<|Aw<|Ad U<|Ap U U ?_;refine Ag U<|Ab<|Av<|Aa ?_;exact⟨i+1,rfl,⟨qaa (Value.int .i64)<|by omega,trivial⟩,⟨⟨by omega,by omega,by omega,by omega,fun x h1 h2=>(if e:x=i then by rw[e];omega else hiv.2.2.2.2.1 x h1<|by omega),hiv.2.2.2.2.2⟩,H⟩,by omega⟩
    .intro hc;have hc:=qbq hc;have hci:=hc;have hi2:j<=j1/\a+1<=i/\i<=j+1/\j<b/\(∀x,a<x->x<i->(g) x<=(g) a)/\∀y,j<y->y<b->(g) a<(g) y:=⟨by omega,hiv.2⟩;have hi3:=hiv.1;refine Bi<|Am<|Am<|A8<|Aa<|AB<|AK<|AY 4611615649683211264 (α:=Nat) (fun j=>[(10,.int .i64 (j:Int))]) (fun j w'=>(j<=j1/\a+1<=i/\i<=j+1/\j<b/\(∀x,a<x->x<i->(g) x<=(g) a)/\∀y,j<y->y<b->(g) a<(g) y)/\Ctx w0 [q] w' [(q,Bl 24 (CA (g) m))]) (fun j=>j) j U ?_ ?_ ?_
     .exact⟨by rfl,trivial⟩
     .exact⟨hi2,H⟩
     .rintro j jx w ⟨hiv,H⟩;refine AB<|Dk 1152851135862669312 (α:=Unit) (fun _=>[(59,.bool<|decide (i<=j/\g a<g j))]) (fun _ w'=>Ctx w0 [q] w' [(q,Bl 24 (CA (g) m))]) U ?_ ?_
      .skip
       refine DL 12 AW U U (AS U<|AS U<|LK U U<|EU U<|iD 49 U ?_ ?_)
       .intro h3;refine BT U<|AS U<|Bt qf qf U U ?_;refine BD qf U (by rintro _ rfl;exact((Cy<|H.drew.get at0))) ?_;refine BT U<|AS U<|Bt qf qf U U ?_;refine BD qf U (by rintro _ rfl;exact((Cy<|H.drew.get at0))) ?_;refine Cc ?_;replace H:=H.drew;refine Aj qB (EI _ _ _) U ?_;rintro v w ⟨rfl,rfl⟩;simp only[qa7];refine Bz U (.bool _) U<|qA ?_;exact⟨(),rfl,⟨qaa Value.bool (by clear hiv;rw[qac];simp_all;try omega),trivial⟩,H⟩
       .intro h4;refine BX U<|BX U<|BX U<|BX U<|BX U<|BX U<|BX U<|BX U<|Cc ?_;replace H:=H.drew;refine Al U<|B9 U (.bool _) U<|qA ?_;exact⟨(),rfl,⟨qaa Value.bool (by clear hiv;rw[qac];simp_all;try omega),trivial⟩,H⟩
      .rintro - jy w H;refine A3 _ U ?_ ?_
       .intro hc;have hc:=qbe hc;refine A1<|Aa<|AK<|Aw<|Ad U<|Cf U U ?_;refine Ag U<|Ab<|Av<|Aa ?_;exact⟨j - 1,rfl,⟨qaa (Value.int .i64)<|by omega,trivial⟩,⟨⟨by omega,by omega,by omega,by omega,hiv.2.2.2.2.1,fun y h1 h2=>(if e:y=j then by rw[e];exact hc.2 else hiv.2.2.2.2.2 y (by omega) h2)⟩,H⟩,by omega⟩
       .intro hc;have hc:=qbq hc;have hci:¬(i<=j/\¬g a<g i):=fun h=>hci ⟨by omega,h.2⟩;replace hiv:=hiv.2;refine Bi<|Am<|Am<|A8<|Aa<|AB<|Af<|Ad U<|Ad U<|Es U U<|qA<|iB U ?_ ?_
        .intro h5;have hji:j+1=i:=by omega
         refine Bi<|Am<|Gv U<|Am<|A8<|Aa<|Af<|Ad U<|Ag U<|qA<|Bf<|B6 (v:=(.int _ _)) U U U ?_;exact⟨i,g,rfl,hS0,by omega,by omega,hga,fun x h1 h2=>(if e:x=a then by rw[e];exact qa4 _ else hiv.2.2.2.1 x (by omega) h2),fun y h1 h2=>hiv.2.2.2.2 y (by omega) h2,H⟩
        .intro h5
         have hgi:g a<g i:=by rcases qcn (g a) (g i)with h7|h7;exact h7;exact absurd ⟨by omega,by omega⟩ hci
         have hgj:g j<=g a:=by rcases qcn (g a) (g j)with h7|h7;exact absurd ⟨by omega,h7⟩ hc;exact h7
         have hne:i<j:=by
          rcases qao i j with h|h
          .exact h
          .obtain rfl:i=j:=by omega
           omega
         refine A1<|Aa<|BG [([0,1,2,3,4,5,6,7,8,9,10,11,12],13),([14],15)] (fun z=>z.heap[q]?=some (Bl 24 (CA (g) m))) [13,15] AW (H.drew.get at0) ?_;refine A0 U U<|Bq U<|AG U<|Bq U<|AG U<|Bq U<|AG U<|AA qf qf U U ?_;refine AU qf U (fun _ hx=>(Cy hx))<|Bq U<|AG U<|AA qf qf U U ?_;refine AU qf U (fun _ hx=>(Cy hx))<|AA qf qf U U ?_;refine A6 ?_;replace H:=H.drew;refine BZ (i) (fun z => .int .u64 (if z=i then(g) (j)else(g) z)) (.int _ _) qf U U U H at0 (by omega) (by rw[if_pos rfl];exact qaa (fun z=>Value.int .u64<|(g) z)<|by omega) (fun z _ hz=>by rw[if_neg hz]) ?_;rintro w H;refine Ab<|Bw U<|A0 U U ?_;refine AA qf qf U U ?_
         refine A6<|BZ (j) (fun z => .int .u64 (sw (g) (i) (j) z)) (.int _ _) qf U U U H at0 (by omega) (by rw[D5];exact qaa (fun z=>Value.int .u64<|(g) z)<|by omega) (fun z _ hz=>by rw[D3 hz]) ?_;rintro w H;refine Ab<|Bw U<|Bu<|Af<|Ad U<|Ap U U ?_;refine Ag U<|qA<|Aw<|Ad U<|Cf U U ?_;refine Ag U<|Ab<|Av<|Aa ?_;exact⟨(i+1,j - 1,sw g i j),rfl,⟨rfl,qaa (Value.int .i64) (by dsimp only;omega),trivial⟩,⟨Ada hiv hne hgi hgj,(Eo).trans hga,hS0.step i j ⟨by omega,by omega⟩ ⟨by omega,by omega⟩,H⟩,by dsimp only;omega⟩
theorem TM(hd:w.heap[q]?=some (Bl 24 (CA f m)))(hn:n<=m)(hm:n<=1000000000)(hLB:0<a->∀x,a<=x->x<b->f (a - 1)<=f x)(hab:a<b:=by omega)(hb:b<=n:=by omega):
  Ret prog 242 #[.slice (some ⟨q,0,none⟩) n c,.int .i64 (a:Int),.int .i64 (b:Int)] w fun v w'=>∃(t:Bool) (g:Nat->Int),v=.bool t/\Sw a b f g/\(t=true->II g a b)/\Ctx w [q] w' [(q,Bl 24 (CA g m))]:=by
 obtain⟨w0,rfl⟩:=qD w;have H:=Ctx.start1 hd;refine iG func242 U ?_;refine Af<|A5 U<|qA<|Af<|Ad U<|Ap U U ?_;rw[show(a:Int)+1=((a+1:Nat):Int)by omega];refine Ag U<|qA<|AB<|Af<|Ag U<|qA<|AK<|AY 10889035741470030830827987437816582760384 (α:=Nat × Nat × (Nat->Int)) (fun t=>[(8,.int .i64 (t.1:Int)),(7,.int .i64 (t.2.1:Int))]) (fun t w'=>t.1<=5/\(a+1<=t.2.1/\t.2.1<=b/\II t.2.2 a t.2.1)/\Sw a b f t.2.2/\Ctx w0 [q] w' [(q,Bl 24 (CA t.2.2 m))]) (fun t=>5 - t.1) (0,a+1,f) U ?_ ?_ ?_
 .exact⟨rfl,rfl,trivial⟩
 .exact⟨by dsimp only;omega,⟨qaq _,by dsimp only;omega,fun x y h1 h2 h3=>by dsimp only at h3;omega⟩,.refl _,H⟩
 .rintro⟨st,i,g⟩ j0 w ⟨hst,hi0,hS0,H⟩;dsimp only at hst hi0 hS0 H;dsimp only;refine AB<|Af<|Ad U<|CH U U<|qA<|iB U ?_ ?_
  .intro h1
   have hLBg:0<a->∀g',Sw a b f g'->∀x,a<=x->x<b->g' (a - 1)<=g' x:=fun h0 g' h x hx hxb=>by
    obtain⟨z,hz1,hz2,hz3⟩:=h.mem x hx hxb;rw[h.out (a - 1)<|.inl<|by omega,hz3];exact hLB h0 z hz1 hz2
   refine A1<|Aa<|AB<|AK<|AB<|AK<|AY 34359607424 (α:=Nat) (fun i=>[(7,.int .i64 (i:Int))]) (fun i w'=>(a+1<=i/\i<=b/\II g a i)/\Ctx w0 [q] w' [(q,Bl 24 (CA (g) m))]) (fun i=>b - i) i U ?_ ?_ ?_
   .exact⟨by rfl,trivial⟩
   .exact⟨hi0,H⟩
   .rintro i jx w ⟨hiv,H⟩;refine AB<|Dk 8589803520 (α:=Unit) (fun _=>[(32,.bool<|decide (i<b/\¬g i<g (i - 1)))]) (fun _ w'=>Ctx w0 [q] w' [(q,Bl 24 (CA (g) m))]) U ?_ ?_
    .skip
     refine DL 13 AW U U (AS U<|AS U<|JC U U<|EU U<|iD 20 U ?_ ?_)
     .intro h1;refine BT U<|AS U<|Bt qf qf U U ?_;refine BD qf U (by rintro _ rfl;exact((Cy<|H.drew.get at0))) ?_;refine BT U<|AS U<|HI U U U ?_;refine Bt qf qf U U ?_;refine BD qf U (by rintro _ rfl;exact((Cy<|H.drew.get at0))) ?_;refine Cc ?_;replace H:=H.drew;refine Aj qB (EI _ _ _) U ?_;rintro v w ⟨rfl,rfl⟩;rw[show((i:Int) - 1).toNat=i - 1 by omega,qa7];refine Df U<|Bz U (.bool _) U<|qA ?_;exact⟨(),rfl,⟨qaa Value.bool (by clear hiv;rw[qac];simp_all;try omega),trivial⟩,H⟩
     .intro h2;refine BX U<|BX U<|BX U<|BX U<|BX U<|BX U<|BX U<|BX U<|BX U<|Cc ?_;replace H:=H.drew;refine Al U<|Al U<|B9 U (.bool _) U<|qA ?_;exact⟨(),rfl,⟨qaa Value.bool (by clear hiv;rw[qac];simp_all;try omega),trivial⟩,H⟩
    .rintro - jy w H;refine A3 _ U ?_ ?_
     .intro hc;have hc:=qbe hc;refine A1<|Aa<|AK<|Aw<|Ad U<|Ap U U ?_;refine Ag U<|Ab<|Av<|Aa ?_;exact⟨i+1,rfl,⟨qaa (Value.int .i64)<|by omega,trivial⟩,⟨⟨by omega,by omega,fun x y hx hxy hy=>(if e:y=i then(by rw[e];exact(if e2:x=i - 1 then by rw[e2];omega else qbj (hiv.2.2 x (i - 1) hx (by omega)<|by omega)<|by omega))else hiv.2.2 x y hx hxy (by omega))⟩,H⟩,by omega⟩
     .intro hc;have hc:=qbq hc;refine Bi<|Am<|Am<|A8<|Aa<|AB<|Af<|Ad U<|Ad U<|Ct U U<|qA<|iB U ?_ ?_
      .intro h2;refine Af<|A5 U<|qA<|Bf<|AD<|Bn<|AD<|AD<|Bn<|AD<|B6 (v:=(.bool _)) U U U ?_;obtain rfl:i=b:=by omega
       exact⟨true,g,rfl,hS0,fun _=>hiv.2.2,H⟩
      .intro h2;have hib:i<b:=by omega
       have hlt:g i<g (i - 1):=by rcases qcn (g i) (g<|i - 1)with h7|h7;exact h7;exact absurd ⟨hib,by omega⟩ hc
       refine A1<|Aa<|AB<|Af<|Ad U<|Ad U<|Cf U U ?_;refine CH U U<|qA<|iB U ?_ ?_
       .intro h3;refine Af<|A5 U<|qA<|Bf<|AD<|Bn<|AD<|AD<|Bn<|AD<|B6 (v:=(.bool _)) U U U ?_;exact⟨false,g,rfl,hS0,(fun h=>by cases h),H⟩
       .intro h3;refine A1<|Aa<|BG [([0,1,2,3,4,5,6,7,8,9,10,11,12,13,14],15),([16],17)] (fun z=>z.heap[q]?=some (Bl 24 (CA (g) m))) [15,17] AW (H.drew.get at0) ?_;refine A0 U U<|Bq U<|AG U<|Bq U<|AG U<|D9 U U ?_;refine Bq U<|AG U<|D9 U U ?_;refine AA qf qf U U<|AU qf U (fun _ hx=>(Cy hx)) ?_;refine Bq U<|AG U<|AA qf qf U U ?_;refine AU qf U (fun _ hx=>(Cy hx))<|AA qf qf U U ?_;refine A6 ?_;replace H:=H.drew;refine BZ (i) (fun z => .int .u64 (if z=i then(g) (i - 1)else(g) z)) (.int _ _) qf U U U H at0 (by omega) (by rw[if_pos rfl];exact qaa (fun z=>Value.int .u64<|(g) z)<|by omega) (fun z _ hz=>by rw[if_neg hz]) ?_;rintro w H
        refine Ab<|Bw U<|A0 U U ?_;refine AA qf qf U U ?_;refine A6<|BZ (i - 1) (fun z => .int .u64 (sw (g) (i) (i - 1) z)) (.int _ _) qf U U U H at0 (by omega) (by rw[D5];exact qaa (fun z=>Value.int .u64<|(g) z)<|by omega) (fun z _ hz=>by rw[D3 hz]) ?_;rintro w H;refine Ab<|Bw U<|Bu<|AB ?_;have hS1:=hS0.step i (i - 1) ⟨by omega,by omega⟩ ⟨by omega,by omega⟩;have hI1:InsU (sw g i<|i - 1) a (i - 1)<|i - 1:=fun x y hx hxy hy hne=>by rw[Eo,Eo];exact hiv.2.2 x y hx hxy<|by omega
        obtain⟨g1,hg1⟩:=qD<|sw g i<|i - 1;rw[<-hg1]at hS1 hI1 H;refine Af<|Ad U<|Ad U<|Cf U U ?_;refine IW U U<|qA<|EH 39614081252520482778344587776 (α:=Nat->Int) (fun _=>[]) (fun g w'=>II g a i/\Sw a b f g/\Ctx w0 [q] w' [(q,Bl 24 (CA g m))]) U ?_ ?_
        .skip
         refine iB U ?_ ?_
         .intro h4;refine Af<|Ad U<|Cf U U ?_;rw[show(i:Int) - 1=((i - 1:Nat):Int)by omega];refine Ag U<|qA<|AK<|AY 39614081238685424723062424064 (α:=Nat × (Nat->Int)) (fun t=>[(9,.int .i64 (t.1:Int))]) (fun t w'=>(a<=t.1/\t.1<=i - 1/\InsU t.2 a t.1 (i - 1))/\Sw a b f t.2/\Ctx w0 [q] w' [(q,Bl 24 (CA t.2 m))]) (fun t=>t.1) (i - 1,g1) U ?_ ?_ ?_
          .exact⟨rfl,trivial⟩
          .exact⟨⟨by dsimp only;omega,qaq _,hI1⟩,hS1,H⟩
          .rintro⟨j,g⟩ j3 w ⟨hj,hS,H⟩;dsimp only at hj hS H;dsimp only;have hex:(a<j->g (j - 1)<=g j)->II g a i:=fun h7=>by have h8:=hj.2.2.done hj.1 h7;rw[show i - 1+1=i by omega]at h8;exact h8
           refine AB<|Af<|Ad U<|IW U U<|qA<|iB U ?_ ?_
           .intro h5;refine A1<|Aa<|AB<|AK<|AB<|De 9 AW U U ?_;refine BT U<|AS U<|Bt qf qf U U ?_;refine BD qf U (by rintro _ rfl;exact((Cy<|H.drew.get at0))) ?_;refine BT U<|AS U<|HI U U U ?_;refine Bt qf qf U U ?_;refine BD qf U (by rintro _ rfl;exact((Cy<|H.drew.get at0))) ?_;refine Cc ?_;replace H:=H.drew;refine Aj qB (EI _ _ _) U ?_;rintro v w ⟨rfl,rfl⟩;rw[show((j:Int) - 1).toNat=j - 1 by omega,qa7];refine Df U<|qA<|iB U ?_ ?_
            .intro h6;have h6:¬g j<g (j - 1):=by simpa using h6
             refine Bi<|Am<|Gv U<|Am<|Am<|A8<|Aa ?_;exact⟨g,rfl,trivial,hex fun _=>by omega,hS,H⟩
            .intro h6;have h6:g j<g (j - 1):=by simpa using h6
             have haj:a<j:=by
              rcases qao a j with h|h
              .exact h
              .obtain rfl:a=j:=by omega
               have:=hLBg (by omega) g hS a (qaq _) hab;omega
             refine A1<|Aa<|Eb [([0,1,2,3,4,5,6,7,8,9,10,11,12,13,14],15),([16],17)] (fun z=>z.heap[q]?=some (Bl 24 (CA (g) m))) [15,17] AW (H.drew.get at0) ?_;refine A0 U U<|Bq U<|AG U<|Bq U<|AG U<|D9 U U ?_;refine Bq U<|AG U<|D9 U U ?_;refine AA qf qf U U<|AU qf U (fun _ hx=>(Cy hx)) ?_;refine Bq U<|AG U<|AA qf qf U U ?_;refine AU qf U (fun _ hx=>(Cy hx))<|AA qf qf U U ?_;refine A6 ?_;replace H:=H.drew;refine BZ (j) (fun z => .int .u64 (if z=j then(g) (j - 1)else(g) z)) (.int _ _) qf U U U H at0 (by omega) (by rw[if_pos rfl];exact qaa (fun z=>Value.int .u64<|(g) z)<|by omega) (fun z _ hz=>by rw[if_neg hz]) ?_;rintro w H
             refine Ab<|Bw U<|A0 U U ?_;refine AA qf qf U U ?_;refine A6<|BZ (j - 1) (fun z => .int .u64 (sw (g) (j) (j - 1) z)) (.int _ _) qf U U U H at0 (by omega) (by rw[D5];exact qaa (fun z=>Value.int .u64<|(g) z)<|by omega) (fun z _ hz=>by rw[D3 hz]) ?_;rintro w H;refine Ab<|Bw U<|Bu<|Av<|Aa<|Aw<|Ad U<|Cf U U ?_;refine Ag U<|qA ?_;exact⟨(j - 1,sw g j<|j - 1),rfl,⟨qaa (Value.int .i64) (by dsimp only;omega),trivial⟩,⟨⟨by dsimp only;omega,by dsimp only;omega,hj.2.2.step haj hj.2.1 h6⟩,hS.step j (j - 1) ⟨by omega,by omega⟩ ⟨by omega,by omega⟩,H⟩,by dsimp only;omega⟩
           .intro h5;refine Bi<|Am<|Am<|A8<|Aa ?_;exact⟨g,rfl,trivial,hex fun _=>by omega,hS,H⟩
         .intro h4;refine A1<|Aa ?_;exact⟨g1,rfl,trivial,fun x y hx hxy hy=>by omega,hS1,H⟩
        .rintro g2 j4 w ⟨hO2,hS2,H⟩;refine Af<|Ad U<|Ad U<|Cf U U ?_;refine IW U U<|qA<|iB U ?_ ?_
         .intro h4;refine Af<|Ad U<|Ap U U ?_;rw[show(i:Int)+1=((i+1:Nat):Int)by omega];refine Ag U<|qA<|AK<|AY 10889035738934729630371528634823176356864 (α:=Nat × (Nat->Int)) (fun t=>[(10,.int .i64 (t.1:Int))]) (fun t w'=>(i+1<=t.1/\t.1<=b/\II t.2 a i)/\Sw a b f t.2/\Ctx w0 [q] w' [(q,Bl 24 (CA t.2 m))]) (fun t=>b - t.1) (i+1,g2) U ?_ ?_ ?_
          .exact⟨rfl,trivial⟩
          .exact⟨⟨qaq _,by dsimp only;omega,hO2⟩,hS2,H⟩
          .rintro⟨j,g⟩ j5 w ⟨hj,hS,H⟩;dsimp only at hj hS H;dsimp only;refine AB<|Af<|Ad U<|Ad U<|CH U U<|qA<|iB U ?_ ?_
           .intro h5;refine A1<|Aa<|AB<|AK<|AB<|De 9 AW U U ?_;refine BT U<|AS U<|Bt qf qf U U ?_;refine BD qf U (by rintro _ rfl;exact((Cy<|H.drew.get at0))) ?_;refine BT U<|AS U<|HI U U U ?_;refine Bt qf qf U U ?_;refine BD qf U (by rintro _ rfl;exact((Cy<|H.drew.get at0))) ?_;refine Cc ?_;replace H:=H.drew;refine Aj qB (EI _ _ _) U ?_;rintro v w ⟨rfl,rfl⟩;rw[show((j:Int) - 1).toNat=j - 1 by omega,qa7];refine Df U<|qA<|iB U ?_ ?_
            .intro h6;refine Bi<|Am<|Gv U<|Am<|Am<|A8<|Av<|Aa<|Aw<|Ad U<|Ap U U ?_;refine Ag U<|qA ?_;exact⟨(st+1,i,g),rfl,⟨rfl,rfl,trivial⟩,⟨by dsimp only;omega,⟨by dsimp only;omega,by dsimp only;omega,hj.2.2⟩,hS,H⟩,by dsimp only;omega⟩
            .intro h6;refine A1<|Aa<|Eb [([0,1,2,3,4,5,6,7,8,9,10,11,12,13,14],15),([16],17)] (fun z=>z.heap[q]?=some (Bl 24 (CA (g) m))) [15,17] AW (H.drew.get at0) ?_;refine A0 U U<|Bq U<|AG U<|Bq U<|AG U<|D9 U U ?_;refine Bq U<|AG U<|D9 U U ?_;refine AA qf qf U U<|AU qf U (fun _ hx=>(Cy hx)) ?_;refine Bq U<|AG U<|AA qf qf U U ?_;refine AU qf U (fun _ hx=>(Cy hx))<|AA qf qf U U ?_;refine A6 ?_;replace H:=H.drew;refine BZ (j) (fun z => .int .u64 (if z=j then(g) (j - 1)else(g) z)) (.int _ _) qf U U U H at0 (by omega) (by rw[if_pos rfl];exact qaa (fun z=>Value.int .u64<|(g) z)<|by omega) (fun z _ hz=>by rw[if_neg hz]) ?_;rintro w H
             refine Ab<|Bw U<|A0 U U ?_;refine AA qf qf U U ?_;refine A6<|BZ (j - 1) (fun z => .int .u64 (sw (g) (j) (j - 1) z)) (.int _ _) qf U U U H at0 (by omega) (by rw[D5];exact qaa (fun z=>Value.int .u64<|(g) z)<|by omega) (fun z _ hz=>by rw[D3 hz]) ?_;rintro w H;refine Ab<|Bw U<|Bu<|Av<|Aa<|Aw<|Ad U<|Ap U U ?_;refine Ag U<|qA ?_;exact⟨(j+1,sw g j<|j - 1),rfl,⟨rfl,trivial⟩,⟨⟨by dsimp only;omega,by dsimp only;omega,fun x y hx hxy hy=>by dsimp only;rw[Eo,Eo];exact hj.2.2 x y hx hxy hy⟩,hS.step j (j - 1) ⟨by omega,by omega⟩ ⟨by omega,by omega⟩,H⟩,by dsimp only;omega⟩
           .intro h5;refine Bi<|Am<|Am<|A8<|Av<|Aa<|Aw<|Ad U<|Ap U U ?_;refine Ag U<|qA ?_;exact⟨(st+1,i,g),rfl,⟨rfl,rfl,trivial⟩,⟨by dsimp only;omega,⟨by dsimp only;omega,by dsimp only;omega,hj.2.2⟩,hS,H⟩,by dsimp only;omega⟩
         .intro h4;refine A1<|Av<|Aa<|Aw<|Ad U<|Ap U U ?_;refine Ag U<|qA ?_;exact⟨(st+1,i,g2),rfl,⟨rfl,rfl,trivial⟩,⟨by dsimp only;omega,⟨by dsimp only;omega,by dsimp only;omega,hO2⟩,hS2,H⟩,by dsimp only;omega⟩
  .intro h1;refine Bi<|Am<|Am<|A8<|Aa<|Af<|A5 U<|qA<|Bf<|B6 (v:=(.bool _)) U U U ?_;exact⟨false,g,rfl,hS0,(fun h=>by cases h),H⟩
end
theorem TN(x:Nat)(w:World)(hx:x<=4503599627370496:=by omega):Ret prog 210 #[.int .u64 (x:Int)] w fun v w'=>∃r:Nat,v=.int .i64 (r:Int)/\x<2 ^ r/\r<=64/\(0<x->2 ^ r<=2*x)/\w=w':=by
 refine iG func210 U ?_;refine qGc 5 ?_ ?_
 .intro h;cases h
 .intro h;refine qG 4 ?_;refine Aj qB (RC x hx w) U ?_;rintro v w ⟨r,rfl,h1,h2,h3,-,rfl⟩;refine qG 5 ?_;exact⟨r,rfl,h1,h2,h3,rfl⟩
theorem Adb(l:Nat)(w:World)(h0:0<l:=by omega)(hl:l<=1000000000:=by omega):Ret prog 267 #[.int .i64 (l:Int)] w fun v w'=>∃r:Nat,v=.int .u64 (r:Int)/\0<r/\r<=2*l/\w=w':=by
 refine iG func267 U ?_;refine qG 7 ?_;refine Aj qB (TN l w) U ?_;rintro v w ⟨r,rfl,h1,h2,h3,rfl⟩;refine SY (a:=1) (n:=r) U U U h2 ?_;refine qG 5 ?_;have h4:=h3 h0;have h5:=Nat.two_pow_pos r;exact⟨2 ^ r,qaa (Value.int .u64)<|by rw[Nat.one_mul,qct<|by omega],h5,h4,rfl⟩
theorem YT(hx:x<18446744073709551616)(hy:y<18446744073709551616):x ^^^ y<18446744073709551616:=Nat.xor_lt_two_pow (n:=64) hx hy
section
variable {w:World}{q n c m s:Nat}{f:Nat->Int}
theorem Adc(hs:w.heap[s]?=some (Bl 325 [.int .u64 (z:Int)]))(hz:z<18446744073709551616) :
  Ret prog 268 #[ptr s] w fun v w'=>∃z':Nat,v=.int .u64 (z':Int)/\z'<18446744073709551616/\Ctx w [s] w' [(s,Bl 325 [.int .u64 (z':Int)])]:=by
 obtain⟨w0,rfl⟩:=qD w;have H:=Ctx.start1 hs;refine iG func268 U ?_;have b1:=Nat.mod_lt (z*2 ^ 13) (show 0<18446744073709551616 by decide);obtain⟨y1,hy1⟩:=qD<|z*2 ^ 13 % 18446744073709551616;rw[<-hy1]at b1;refine qG 4 ?_;refine De 9 AW U U (BE U<|Bc U<|B7 qf U (by rintro _ rfl;exact H.drew) at0 U<|BE U<|Bc U<|B7 qf U (by rintro _ rfl;exact H.drew) at0 U<|Oa (a:=z) (n:=13) U U U ?_);rw[<-hy1];refine Lj (a:=z) (b:=y1) U U U hz b1<|Bc U<|Cc ?_;replace H:=H.drew;refine qG 1 ?_;rintro w H;refine qA ?_;obtain⟨z1,hz1⟩:=qD<|z ^^^ y1;have c1:=YT hz b1;rw[<-hz1]at c1;replace H:Ctx w0 [s] w [(s,Bl 325 [.int .u64 (z1:Int)])]:=by rw[hz1];exact H
 have b2:z1 / 2 ^ 7<18446744073709551616:=Nat.lt_of_le_of_lt (Nat.div_le_self _ _) c1;obtain⟨y2,hy2⟩:=qD<|z1 / 2 ^ 7;rw[<-hy2]at b2;refine De 9 AW U U (BE U<|Bc U<|B7 qf U (by rintro _ rfl;exact H.drew) at0 U ?_);refine BE U<|Bc U<|B7 qf U (by rintro _ rfl;exact H.drew) at0 U ?_;refine VC (a:=z1) (n:=7) U U U ?_;rw[<-hy2];refine Lj (a:=z1) (b:=y2) U U U c1 b2<|Bc U<|Cc ?_;replace H:=H.drew;refine qG 1 ?_;rintro w H;refine qA ?_;obtain⟨z2,hz2⟩:=qD<|z1 ^^^ y2;have c2:=YT c1 b2;rw[<-hz2]at c2;replace H:Ctx w0 [s] w [(s,Bl 325 [.int .u64 (z2:Int)])]:=by rw[hz2];exact H
 have b3:=Nat.mod_lt (z2*2 ^ 17) (show 0<18446744073709551616 by decide);obtain⟨y3,hy3⟩:=qD<|z2*2 ^ 17 % 18446744073709551616;rw[<-hy3]at b3;refine De 9 AW U U (BE U<|Bc U<|B7 qf U (by rintro _ rfl;exact H.drew) at0 U ?_);refine BE U<|Bc U<|B7 qf U (by rintro _ rfl;exact H.drew) at0 U ?_;refine Oa (a:=z2) (n:=17) U U U ?_;rw[<-hy3];refine Lj (a:=z2) (b:=y3) U U U c2 b3<|Bc U<|Cc ?_;replace H:=H.drew;refine qG 1 ?_;rintro w H;refine qG 11 ?_;exact⟨z2 ^^^ y3,rfl,YT c2 b3,H⟩
theorem YU(hd:w.heap[q]?=some (Bl 24 (CA f m)))(hn:n<=m)(hm:n<=1000000000)(hab:a<b:=by omega)(hb:b<=n:=by omega):
  Ret prog 239 #[.slice (some ⟨q,0,none⟩) n c,.int .i64 (a:Int),.int .i64 (b:Int)] w fun v w'=>v=.tuple #[]/\∃g,Sw a b f g/\Ctx w [q] w' [(q,Bl 24 (CA g m))]:=by
 obtain⟨w0,rfl⟩:=qD w;have H:=Ctx.start1 hd;obtain⟨l,rfl⟩:∃l,b=a+l:=⟨b - a,by omega⟩;have hl:((a+l:Nat):Int) - (a:Int)=(l:Int):=by omega
 refine iG func239 U ?_;refine qG 4 ?_;rw[hl];refine qGp 8 ?_ ?_
 .intro h1;refine qG 4 ?_;rintro b7 w - H;refine qG 1 ?_;rintro w H;refine qG 4 ?_;refine Aj qB (Adb l _) U ?_;rintro v w ⟨M,rfl,hM0,hM,rfl⟩;refine qG 6 ?_;refine Hn U U (show _<=(9223372036854775807:Int)by omega) ?_;refine qG 3 ?_;rw[show(a:Int)+(l:Int) / 4*2 - 1=((a+l / 4*2 - 1:Nat):Int)by omega];refine qG 4 ?_;refine AY 36893488147351995904 (α:=Nat × (Nat->Int) × Nat) (fun t=>[(9,.int .i64 (t.1:Int))]) (fun t w'=>a<=t.1/\t.1<=a+l / 4*2+2/\t.2.2<18446744073709551616/\Sw a (a+l) f t.2.1/\Ctx w0 [q] w' [(b7,Bl 325 [.int .u64 (t.2.2:Int)]),(q,Bl 24 (CA t.2.1 m))]) (fun t=>a+l / 4*2+2 - t.1) (a+l / 4*2 - 1,f,l) U ?_ ?_ ?_
  .exact⟨rfl,trivial⟩
  .exact⟨by dsimp only;omega,by dsimp only;omega,by dsimp only;omega,.refl _,H⟩
  .rintro⟨i,g,z⟩ j0 w ⟨hi1,hi2,hz,hS,H⟩;dsimp only at hi1 hi2 hz hS H;dsimp only;refine qG 5 ?_;refine Hn U U (show _<=(9223372036854775807:Int)by omega) ?_;refine qGp 6 ?_ ?_
   .intro h2;refine qG 5 ?_;refine Aj qB (Adc (H.get at0) hz) U ?_;rintro v w ⟨z2,rfl,hz2,H2⟩;replace H:=Ctx.back (L1:=[_]) (L2:=[_]) H H2;refine Ad U<|JQ U U U ?_;rw[show(M:Int) - 1=((M - 1:Nat):Int)by omega];refine Il (a:=z2) (b:=M - 1) U U U (ha:=hz2) ?_;have hand:z2 &&& (M - 1)<=M - 1:=Nat.and_le_right;refine qG 11 ?_;obtain⟨r,hr⟩:=qD<|z2 &&& (M - 1);have hr2:r<=M - 1:=by rw[hr];exact Nat.and_le_right
    rw[<-hr];refine EH 123145302311936 (α:=Nat) (fun r=>[(10,.int .i64 (r:Int))]) (fun r w'=>r<l/\Ctx w0 [q] w' [(b7,Bl 325 [.int .u64 (z2:Int)]),(q,Bl 24 (CA g m))]) U ?_ ?_
    .skip
     refine iB U ?_ ?_
     .intro h3;refine qG 7 ?_;exact⟨r - l,rfl,⟨qaa (Value.int .i64)<|by omega,trivial⟩,by omega,H⟩
     .intro h3;refine A1<|Aa ?_;exact⟨r,rfl,⟨rfl,trivial⟩,by omega,H⟩
    .rintro r2 j1 w ⟨hr3,H⟩;refine Eb [([0,1,2,3,4,5,6,7,8,9,10,11,12,13,14,15,16],17),([18],19)] (fun z=>z.heap[q]?=some (Bl 24 (CA (g) m))) [17,19] AW (H.drew.get at1)<|A0 U U ?_;refine Bq U<|AG U<|Bq U<|AG U<|AG U<|Dt U U ?_;refine Bq U<|AG U<|AG U<|Dt U U ?_;refine AA qf qf U U<|AU qf U (fun _ hx=>(Cy hx)) ?_;refine Bq U<|AG U<|AA qf qf U U ?_;refine AU qf U (fun _ hx=>(Cy hx))<|AA qf qf U U ?_;refine A6 ?_;replace H:=H.drew;refine BZ (i) (fun z => .int .u64 (if z=i then(g) (a+r2)else(g) z)) (.int _ _) qf U U U H at1 (by omega) (by rw[if_pos rfl];exact qaa (fun z=>Value.int .u64<|(g) z)<|by omega) (fun z _ hz=>by rw[if_neg hz]) ?_;rintro w H
     refine Ab<|Bw U<|A0 U U ?_;refine AA qf qf U U ?_;refine A6<|BZ (a+r2) (fun z => .int .u64 (sw (g) (i) (a+r2) z)) (.int _ _) qf U U U H at1 (by omega) (by rw[D5];exact qaa (fun z=>Value.int .u64<|(g) z)<|by omega) (fun z _ hz=>by rw[D3 hz]) ?_;rintro w H;refine Ab<|Bw U<|Bu<|Av<|Aa<|Aw<|Ad U<|Ap U U ?_;refine Ag U<|qA ?_;exact⟨(i+1,sw g i<|a+r2,z2),rfl,⟨rfl,trivial⟩,⟨by dsimp only;omega,by dsimp only;omega,hz2,hS.step i (a+r2) ⟨by omega,by omega⟩ ⟨by omega,by omega⟩,H⟩,by dsimp only;omega⟩
   .intro h2;refine qG 5 ?_;exact⟨rfl,g,hS,H.tail⟩
 .intro h1;refine A1<|Ii U U ?_;exact⟨rfl,f,.refl _,H⟩
end
end Go.Proofs.YtfnfnmgilmejmaaGreat
