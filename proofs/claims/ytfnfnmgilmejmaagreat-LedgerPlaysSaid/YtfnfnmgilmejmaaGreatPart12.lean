/- Part 12 of the proof. -/
import Derived.Test.YtfnfnmgilmejmaaGreatPart11
set_option maxRecDepth 20000
set_option maxHeartbeats 8000000
namespace Go.Proofs.YtfnfnmgilmejmaaGreat
open Go.GV Go.Proofs.Tryz
attribute [local irreducible] A4 W Wq Wt
variable{α:Type}{net:Bool}{d:Du}{code nx u x:Int}{s s':Ld}{B L' P R:List (Nat × Obj)}{acs:List Ac}{X Y ds:List Du}{l:List Int}{ps:List MemPlace}{S S0:List Nat}{arch e3 f fd full full' g:List Value}{b b3 ba bd bl br bx c cd i n:Nat}{T:Nat->Prop}{o:Obj}{a ad:Option Addr}{q:RSl}{r:Rnd}{t:TypeId}{v v1 v2 v3:Value}{w w' w0 w1:World}
section
variable {bd b:Nat}{nx:Int}{o:Obj}{ds:List Du}
theorem Adx{k:Int}(w:World)(hd:w.heap[bd]?=some (Bl 156 (DU b nx)))(hb:w.heap[b]?=some o)(hM:CQ .u64 (dm ds) o)(hbd:bd≠b)(hof:ofC ds nx=0) :
  Ret prog 99 #[ptr bd,.int .u64 k] w fun v w'=>v=.int .i64 (F3 ds k true)/\∃o',CQ .u64 (dm<|EX ds k true) o'/\Ctx w [b] w' [(b,o')]:=by
 obtain⟨w0,rfl⟩:=qD w;refine iG func99 U ?_;refine qG 7 ?_;refine Aj qB (Vq true _ hd hb hM hbd hof) U ?_;rintro v w ⟨rfl,E⟩;refine qG 5 ?_;exact⟨rfl,E⟩
theorem Ue{k:Int}(w:World)(hd:w.heap[bd]?=some (Bl 156 (DU b nx)))(hb:w.heap[b]?=some o)(hM:CQ .u64 (dm ds) o)(hbd:bd≠b)(hof:ofC ds nx=0) :
  Ret prog 100 #[ptr bd,.int .u64 k] w fun v w'=>v=.int .i64 (F3 ds k false)/\∃o',CQ .u64 (dm<|EX ds k false) o'/\Ctx w [b] w' [(b,o')]:=by
 obtain⟨w0,rfl⟩:=qD w;refine iG func100 U ?_;refine qG 7 ?_;refine Aj qB (Vq false _ hd hb hM hbd hof) U ?_;rintro v w ⟨rfl,E⟩;refine qG 5 ?_;exact⟨rfl,E⟩
theorem Sx{k:Int}(w:World)(hd:w.heap[bd]?=some (Bl 156 (DU b nx)))(hb:w.heap[b]?=some o)(hM:CQ .u64 (dm ds) o)(hbd:bd≠b)(hof:ofC ds nx=0) :
  Ret prog 152 #[ptr bd,.int .u64 k,.func (.func 153) #[] #[]] w fun v w'=>v=.int .i64 (I8 ds k)/\∃o',CQ .u64 (dm<|IK ds k) o'/\Ctx w [b] w' [(b,o')]:=by
 cases hf:Cn ds k with
 |none =>
  have hc:I8 ds k=11:=by unfold I8;rw[hf]
  refine Ret.mono (Nx (cl:=[]) w hd hb hM hbd hf) fun v w' ⟨h1,o',h2,h3⟩=>⟨by rw[hc];exact h1,o',?_,h3⟩;rw[ZY (by rw[hc];decide)];exact h2
 |some d =>
  have hid:=(GQ hf).2;have hc:I8 ds k=0:=by unfold I8;rw[hf]
  refine Ret.mono (Sv (cl:=[]) (e:={ d with am:=0 }) w hd hb hM hbd hf hid qB fun b7 w' hb7 hx' h7=>Ud w' h7) fun v w' ⟨h1,o',h2,h3⟩=>⟨by rw[hc];exact h1,o',?_,h3⟩;unfold trnD at h2;rw[if_neg<|by decide,if_pos rfl,LY<|J6 hof]at h2;exact h2
theorem WM{k:Int}(w:World)(hd:w.heap[bd]?=some (Bl 156 (DU b nx)))(hb:w.heap[b]?=some o)(hM:CQ .u64 (dm ds) o)(hbd:bd≠b)(hof:ofC ds nx=0) :
  Ret prog 101 #[ptr bd,.int .u64 k] w fun v w'=>v=.int .i64 (I8 ds k)/\∃o',CQ .u64 (dm<|IK ds k) o'/\Ctx w [b] w' [(b,o')]:=by
 obtain⟨w0,rfl⟩:=qD w;refine iG func101 U ?_;refine qG 7 ?_;refine Aj qB (Sx _ hd hb hM hbd hof) U ?_;rintro v w ⟨rfl,E⟩;refine qG 5 ?_;exact⟨rfl,E⟩
end
def Qr(ds:List Du)(u:Int)(i:Nat):List Du:=(ds.take i).filter (fun d=>decide (u<=d.un))++ds.drop i
def Fe(ds:List Du)(u:Int)(i:Nat):List Value:=((ds.take i).filter fun d => !decide (u<=d.un)).map fun d => .int .u64 d.id
theorem Ady(h:∀x∈X,x.id≠d.id):JR (dm (X++d::Y)) d.id=dm (X++Y):=by
 induction X with
 |nil=>show(if d.id=d.id then dm Y else _)=_;rw[if_pos rfl];rfl
 |cons x X ih =>
  show(if x.id=d.id then _ else(x.id,Fj x)::JR (dm (X++d::Y)) d.id)=_;rw[if_neg<|h x<|qah ..,ih fun y hy=>h y<|qae _ hy];rfl
theorem Sy(hof:ofC ds nx=0)(hd:ds[i]?=some d) :
  (u<=d.un->Qr ds u (i+1)=Qr ds u i/\Fe ds u (i+1)=Fe ds u i)/\(¬u<=d.un->JR (dm<|Qr ds u i) d.id=dm (Qr ds u<|i+1)/\Fe ds u (i+1)=Fe ds u i++[.int .u64 d.id]):=by
 have hil:=BH hd;have ht:ds.take (i+1)=ds.take i++[d]:=qbr.trans (by rw[hd];rfl)
 have hdr:ds.drop i=d::ds.drop (i+1):=by
  have h1:=qdz hil;have h2:=qb4 hil;rw[hd]at h2
  injection h2 with h2
  rw[h1,h2]
 have hn:∀x∈ds.take i,x.id≠d.id:=fun x hx=>by
  have h1:=(EK hof).2;rw[<-qbp i ds,qau,qby,hdr]at h1;exact Int.ne_of_lt<|h1.2.2 x.id (qa6 hx) d.id<|qa6<|qah ..
 constructor
 .intro h;unfold Qr Fe;rw[ht,qcj,qcj,hdr];constructor
  .rw[qbo,if_pos<|by simpa using h,qel,qaz];rfl
  .rw[qbo,if_neg<|by simpa using h,qel,qar]
 .intro h;unfold Qr Fe;rw[ht,qcj,qcj,hdr];constructor
  .rw[qbo,if_neg<|by simpa using h,qel,qar];exact Ady fun x hx=>hn x (qbc.1 hx).1
  .rw[qbo,if_pos<|by simpa using h,qel,qau];rfl
theorem Sz(ds:List Du)(u:Int):(Fe ds u ds.length).length=ds.length - (Gh ds u).length/\Qr ds u ds.length=Gh ds u:=by
 unfold Fe Qr Gh;rw[qba,List.drop_length,qar,qaj];refine⟨?_,rfl⟩
 induction ds with
 |nil=>rfl
 |cons d ds ih =>
  have h1:=qcy (fun d=>decide (u<=d.un)) ds;rw[qbo,qbo]
  by_cases h:u<=d.un
  .rw[if_neg<|by simpa using h,if_pos<|by simpa using h,qbd,qbd,ih];omega
  .rw[if_pos<|by simpa using h,if_neg<|by simpa using h,qbd,qbd,ih];omega
structure ExS where
 i:Nat
 o:Obj
 a:Option Addr
 c:Nat
 full:List Value
theorem WN(w:World)(hd:w.heap[bd]?=some (Bl 156 (DU b nx)))(hb:w.heap[b]?=some o)(hM:CQ .u64 (dm ds) o)(hbd:bd≠b)(hof:ofC ds nx=0) :
  Ret prog 102 #[ptr bd,.int .i64 u] w fun v w'=>∃o',CQ .u64 (dm<|Gh ds u) o'/\Ctx w [b] w' [(b,o')]/\∃a c,v=.slice a (ds.length - (Gh ds u).length) c:=by
 obtain⟨w0,rfl⟩:=qD w;obtain⟨h64,-,h3,-⟩:=CB hof;have hbl:=AX hb;refine iG func102 U ?_;refine qG 11 ?_;refine Aj qB (KC _ hd hb hM<|Jj hof) U ?_;rintro v w ⟨ds',hS,F⟩;have hde:=KL hS (Hw h3).2.1;rw[hde]at F;obtain⟨a3,n3,c3,f3,rfl,O3,hb3⟩:=F.ex;obtain rfl:=O3.numN (fun _ _=>rfl) (by decide);have hx9:=F.ext;refine qG 5 ?_;obtain⟨w1,rfl⟩:=qD w;have R:Rd w1 a3 7 BK ds:=OS.rd O3 (fun x hx=>(hb3 x hx).1) (fun _ _=>rfl)<|by decide
 have hnb:ds≠[]->(adr a3).block∉[b]:=fun hne=>by
  have hpos:=qbu.2 hne;obtain⟨q,rfl⟩:=O3.form hpos;have h1:=(hb3 (q,Bl 111 f3)<|qab.2 rfl).2;rw[qab];show ¬q=b;dsimp only at h1;omega
 have H:=Ctx.start1 (hx9.to hb<|by simp);have hd1:=hx9.to hd (by simp);have hn:bd∉[b]:=by rw[qab];exact hbd
 refine AY 2147481760 (α:=ExS) (fun t=>[(5,.slice t.a (Fe ds u t.i).length t.c),(11,.int .i64 (t.i:Int))]) (fun t w'=>t.i<=ds.length/\CQ .u64 (dm<|Qr ds u t.i) t.o/\OS t.a (Fe ds u t.i).length t.c 1 t.full (Fe ds u t.i)/\Ctx w1 [b] w' ((b,t.o)::ent t.a 24 t.full)) (fun t=>ds.length - t.i) ⟨0,o,none,0,[]⟩ U ?_ ?_ ?_
 .exact⟨rfl,rfl,trivial⟩
 .exact⟨qai _,hM,OS.nil,H⟩
 .rintro⟨i,o,a,c,full⟩ j w ⟨hi,hM,O,H⟩;dsimp only at hi hM O H;dsimp only;refine qGp 5 ?_ ?_
  .intro h1;obtain⟨d,hdi⟩:=Au (l:=ds) (i:=i);have hne:ds≠[]:=fun h=>by rw[h]at hdi;cases hdi
   have hdl:(Fe ds u i).length<=ds.length:=by unfold Fe;rw[qaj];exact qa3 (qcy ..) (by rw[qa8];omega)
   obtain⟨hs1,hs2⟩:=Sy (u:=u) hof hdi;refine qG 5 ?_;refine A2 R qf qf U U (by rfl)<|BC _ qf qf U U (((R.ext' H.ext fun _=>hnb hne).row hdi U))<|AN qf H ?_;rintro b7 w - H;refine AM qf U U U (by exact Cx _) H at0 U ?_;rintro w H;refine qGp 9 ?_ ?_
   .intro h2;obtain⟨hs3,hs4⟩:=hs2 (by omega);have hl4:(Fe ds u<|i+1).length=(Fe ds u i).length+1:=by rw[hs4,qat,qb6]
    refine qG 5 ?_;rintro b22 w - H;refine BL (L:=[_,_]) qf qf qf qf qf U U U H O U (by simp[AF]) ?_;rintro a' c' full' w H O;refine AP U<|qA<|DL 6 AW U U ?_;refine BE U<|Bc U<|Aq qf U<|BD qf U (by rintro _ rfl;exact((H.drew.old (Ai hd1 _) hn))) ?_;refine Aq qf U<|B7 qf U (by rintro _ rfl;exact H.drew) at0 U ?_;refine Cc ?_;replace H:=H.drew;refine Lp U qf qf U U H at1 hM ?_;rintro o2 w hM2 H;refine Ab<|Av<|Aa<|Aw<|Ap U U ?_;refine Ad U<|qA ?_;rw[hs3]at hM2;exact⟨⟨i+1,o2,a',c',full'⟩,rfl,⟨by dsimp only;rw[hl4];rfl,rfl,trivial⟩,⟨by dsimp only;omega,hM2,by dsimp only;rw[hl4,hs4];exact O,H.tail⟩,by dsimp only;omega⟩
   .intro h2;obtain⟨hs3,hs4⟩:=hs1 (by omega);refine A1<|Av<|Aa<|Aw<|Ap U U ?_;refine Ad U<|qA ?_;exact⟨⟨i+1,o,a,c,full⟩,rfl,⟨by dsimp only;rw[hs4];rfl,rfl,trivial⟩,⟨by dsimp only;omega,by dsimp only;rw[hs3];exact hM,by dsimp only;rw[hs4];exact O,H.tail⟩,by dsimp only;omega⟩
  .intro h1;obtain rfl:i=ds.length:=by omega
   obtain⟨g1,g2⟩:=Sz ds u;rw[g2]at hM;refine Bi<|Am<|Am<|A8<|Aa<|Af<|AH U<|AP U<|qA<|Bf<|B6 (v:=(.slice _ _ _)) U U U ?_;exact⟨o,hM,⟨(hx9.mono<|by simp).trans H.ext,fun y hy=>H.blk y<|qaf.2<|.inl<|qab.1 hy,by simp,fun y hy=>by rw[qab.1 hy];exact .inl<|qab.2 rfl⟩,a,c,by rw[g1]⟩
theorem Aao(fr to x we un:Int)(w:World)(hd:w.heap[bd]?=some (Bl 156 (DU b nx)))(hb:w.heap[b]?=some o)(hM:CQ .u64 (dm ds) o)(hbd:bd≠b)(hof:ofC ds nx=0) :
  Ret prog 98 #[ptr bd,.int .i64 fr,.int .i64 to,.int .i64 x,.int .i64 we,.int .i64 un] w fun v w'=>v=.tuple #[.int .u64<|if FQ ds nx fr to x we un=0 then nx else 0,.int .i64<|FQ ds nx fr to x we un] /\
   ∃o',CQ .u64 (dm<|Gq ds nx fr to x we un) o'/\Ctx w [bd,b] w' [(bd,Bl 156 (DU b<|I6 ds nx fr to x we un)),(b,o')]:=by
 obtain⟨w0,rfl⟩:=qD w
 have H:Ctx w0 [bd,b] w0 [(bd,Bl 156 (DU b nx)),(b,o)]:=⟨Ext.refl _ _,fun y hy=>by
  simp only[qaf,qan,or_false]at hy
  rcases hy with rfl|rfl
  .exact hd
  .exact hb,by simp only[qbf,qab,forall_eq,qan,false_implies,implies_true,List.Pairwise.nil,and_true];exact hbd,fun y hy=>by
  simp only[qaf,qan,or_false]at hy
  rcases hy with rfl|rfl
  .exact .inl (qah ..)
  .exact .inl (qae _<|qah ..)⟩
 obtain⟨hlen,hnx,-,-⟩:=CB hof;have hnew:∀x∈ds,x.id≠nx:=fun x hx=>Int.ne_of_lt ((EK hof).1 x hx).2.2;have hdl:(dm ds).length=ds.length:=by unfold dm;rw[qaj]
 have hno:DR (dm ds) nx=none:=OQ hnew;obtain⟨d,hdd⟩:=qD<|Ub nx fr to x we un;obtain⟨tt,htt⟩:=qD<|Dp<|ds.map Du.am++[x];have henc:[Value.int .u64 nx,.int .i64 fr,.int .i64 to,.int .i64 x,.int .i64 we,.int .i64 un,.bool false]=BK d:=by rw[hdd];rfl
 have hadd:FQ ds nx fr to x we un=if CZ d=false then 1 else if 64<=ds.length\/4611686018427387904<=nx then 6 else if tt.2≠0 then 13 else 0:=by rw[htt,hdd];rfl
 have herr:∀c,c≠0->FQ ds nx fr to x we un=c->Gq ds nx fr to x we un=ds/\I6 ds nx fr to x we un=nx:=fun c h0 hc=>add_none (by rw[hc];exact h0);refine iG func98 U ?_;refine qGc 11 ?_ ?_
 .intro h0;cases h0
 .intro h0;refine qG 12 ?_;refine Bd (BK d) qf qf (hl:=by rw[<-henc];kernel_rfl)<|AN qf H ?_;rintro b14 w - H;refine AM qf U U U (by exact Cx d) H at0 U ?_;rintro w H;refine qG 6 ?_;refine Aj qB (Vb d _) U ?_;rintro v w ⟨rfl,hx31⟩;replace H:=H.call hx31;refine qGp 4 ?_ ?_
  .intro h1
   have hm:CZ d=false:=by cases hh:CZ d with|false=>rfl|true=>rw[hh]at h1;cases h1
   have hc:FQ ds nx fr to x we un=1:=by rw[hadd,if_pos hm]
   obtain⟨hc1,hc2⟩:=herr 1 (by decide) hc;refine qG 9 ?_;rw[hc,hc1,hc2,if_neg<|by decide];exact⟨rfl,o,hM,H.tail⟩
  .intro h1
   have hm:CZ d=true:=by cases hh:CZ d with|true=>rfl|false=>rw[hh]at h1;cases h1
   rw[hm]at hadd;rw[if_neg<|by decide]at hadd;refine qG 6 ?_;refine Adj U qf U (H.get at2) hM ?_;rw[hdl];refine qG 4 ?_;refine iE 33 U ?_ ?_
   .intro h2;have hc:FQ ds nx fr to x we un=6:=by rw[hadd,if_pos<|.inl<|by omega]
    obtain⟨hc1,hc2⟩:=herr 6 (by decide) hc;refine qG 12 ?_;rw[hc,hc1,hc2,if_neg<|by decide];exact⟨rfl,o,hM,H.tail⟩
   .intro h2;refine qG 9 ?_;refine iE 33 U ?_ ?_
    .intro h3;have hc:FQ ds nx fr to x we un=6:=by rw[hadd,if_pos<|.inr<|by omega]
     obtain⟨hc1,hc2⟩:=herr 6 (by decide) hc;refine qG 9 ?_;rw[hc,hc1,hc2,if_neg<|by decide];exact⟨rfl,o,hM,H.tail⟩
    .intro h3;rw[if_neg<|by omega]at hadd;refine A1<|Av<|Aa<|AB<|Af<|AV U<|Aj qB (Nn _ (H.get at1) (H.get at2) hM) U ?_;rintro v w ⟨l,hlp,F⟩;obtain⟨a3,n3,c3,f3,rfl,O3,hb3⟩:=F.ex;have hl3:=O3.llen;rw[qaj]at hl3;have hlq:=hlp.length_eq;rw[qaj]at hlq;replace H:Ctx w0 [bd,b] w<|[(b14,Bl 111 (BK d)),(bd,Bl 156 (DU b nx)),(b,o)]++ent a3 2 f3:=H.callEnt F.ext hb3 DX;refine qG 2 ?_;rintro b49 w - H;refine BL (L:=[_,_,_]) qf qf qf qf qf U U U H O3 U (by simp[AF]) ?_;rintro a' c' full' w H O;refine Aj qB (J0 a' (n3+1) c' (l++[x]) _ (OS.rd1 (f:=Cu) (t:=2) (xs:=l++[x]) (by rw[qau];exact O) fun y hy=>H.blk y<|qap [_,_,_] hy) (by rw[qat];show l.length+1=_;omega)) U ?_;rintro v w ⟨rfl,rfl⟩;rw[OP<|hlp.append_right [x]];rw[<-htt]
     refine qGp 12 ?_ ?_
     .intro h4
      have ht13:tt.2=13:=by
       rw[htt]at h4 |-;have hxm:=Cq.2 (show 0<=x/\x<=4503599627370496 by obtain⟨-,-,-,hxa,-⟩:=CD hm;rw[hdd]at hxa;change 1<=x/\x<=_ at hxa;exact⟨by omega,hxa.2⟩)
       have hall:(ds.map Du.am++[x]).all C0=true:=by
        rw[List.all_append,qag];refine⟨qaw.2 fun y hy=>?_,by simpa using hxm⟩;exact(CU.1 (DZ.1 hof).2.2.2).1 y hy
       unfold Dp at h4 |-;rw[if_neg (by rw[hall];decide)]at h4 |-
       split at h4
       .exact absurd U h4
       .rename_i hh;rw[if_neg hh]
      have hc:FQ ds nx fr to x we un=13:=by rw[hadd,if_pos (by rw[ht13];decide)]
      obtain⟨hc1,hc2⟩:=herr 13 (by decide) hc;refine qG 9 ?_;rw[hc,hc1,hc2,if_neg<|by decide,ht13];exact⟨rfl,o,hM,H.left.tail⟩
     .intro h4;have hc:FQ ds nx fr to x we un=0:=by rw[hadd,if_neg<|by omega]
      replace H:=H.left;refine A1<|Aa<|De 7 AW U U ?_;refine BE U<|Bc U<|Aq qf U<|B7 qf U (by rintro _ rfl;exact H.drew) at1 U ?_;refine Aq qf U<|B7 qf U (by rintro _ rfl;exact H.drew) at0 U ?_;refine MF U qf qf U (by rintro _ rfl;exact H.drew) at0 U ?_;refine Cc ?_;replace H:=H.drew;refine Ik (Fj d) U qf qf U U U H at2 hM ?_;rintro o2 w hM2 H;refine qG 11 ?_;rintro w H;refine qG 11 ?_;have hid:d.id=nx:=by rw[hdd];rfl
      rw[<-hid]at hno;rw[Z0 hno]at hM2;unfold Gq I6;rw[hc,if_pos rfl,if_pos rfl,if_pos rfl];rw[hdd]at hM2 |-;exact⟨rfl,o2,hM2,H.tail⟩
def Ny(N M:Int)(xs ys:List Ed):Bool:=decide (N=M) && decide (xs=ys)
theorem Nz(N M:Int)(a b:Option Addr)(n c m d:Nat)(xs ys:List Ed)(w:World)(R:Rd w a 4 Co xs)(hn:xs.length=n)(hn2:n<=1000000)(Ry:Rd w b 4 Co ys)(hm:ys.length=m)(hm2:m<=1000000) :
  Ret prog 176 #[CM N a n c,CM M b m d] w fun v w'=>v=.bool (Ny N M xs ys)/\Ext [] w w':=by
 subst hn hm;obtain⟨w0,rfl,H⟩:=qE w;refine iG func176 U<|Af<|Be [.int .i64 N,.slice a xs.length c] (.agg _) U U H ?_;rintro b2 w - H;refine Be [.int .i64 M,.slice b ys.length d] (.agg _) U U H ?_;rintro b3 w - H;refine qG 5 ?_;refine Bo (α:=Unit) 1048512 (fun _=>[(19,.bool<|!(decide (N=M) && decide (xs.length=ys.length)))]) (fun _ w'=>Ctx w0 [] w' [(b3,Bl 53 [.int .i64 M,.slice b ys.length d]),(b2,Bl 53 [.int .i64 N,.slice a xs.length c])]) U ?_ ?_
 .refine qG 6 ?_;refine iC 11 U ?_ ?_
  .intro h1;refine qG 9 ?_;exact⟨rfl,(),rfl,⟨qaa Value.bool (by rw[qac];simp_all;try omega),trivial⟩,H⟩
  .intro h2;refine qG 9 ?_;exact⟨rfl,(),rfl,⟨qaa Value.bool (by rw[qac];simp_all;try omega),trivial⟩,H⟩
 rintro - j19 w H;refine iB U ?_ ?_
 .intro h1;refine qG 7 ?_;have h1':¬(N=M/\xs.length=ys.length):=by simpa using h1
  refine⟨qaa Value.bool ?_,H.ext⟩;unfold Ny
  by_cases h2:N=M
  .rw[qam h2,qa1 fun h=>h1' ⟨h2,by rw[h]⟩];rfl
  .rw[qa1 h2];rfl
 .intro h1;have h1':N=M/\xs.length=ys.length:=by simpa using h1
  have hsb:Ny N M xs ys=decide (xs=ys):=by unfold Ny;rw[qam h1'.1];rfl
  have hle:=h1'.2;rw[hsb];refine qG 8 ?_;refine AY 274876858416 (α:=Nat) (fun i=>[(5,.int .i64 (i:Int))]) (fun i w'=>i<=xs.length/\Ctx w0 [] w' [(b3,Bl 53 [.int .i64 M,.slice b ys.length d]),(b2,Bl 53 [.int .i64 N,.slice a xs.length c])]/\∀(k:Nat) (x y:Ed),k<i->xs[k]?=some x->ys[k]?=some y->x=y) (fun i=>xs.length - i) 0 U ?_ ?_ ?_
  .exact⟨rfl,trivial⟩
  .exact⟨qai _,H,fun k x y h=>absurd h<|qay _⟩
  .clear H;rintro i j w ⟨hi,H,hb⟩;refine qGp 9 ?_ ?_
   .intro h2;obtain⟨x,hx⟩:=Au (l:=xs) (i:=i);obtain⟨y,hy⟩:=Au (l:=ys) (i:=i);refine A1<|Aa<|AB<|AK<|CG (fun x=>x=_) AW U ?_;refine Aq qf U<|B7 qf U (by rintro _ rfl;exact H.drew) at1 U ?_;refine AS U<|Br R qf qf U U (by rfl) ?_;refine FI _ qf qf U U (by rintro _ rfl;exact((R.ext0 H.drew.ext).row hx rfl)) ?_;refine Aq qf U<|B7 qf U (by rintro _ rfl;exact H.drew) at0 U ?_;refine AS U<|Br Ry qf qf U U (by rfl) ?_;refine FI _ qf qf U U (by rintro _ rfl;exact((Ry.ext0 H.drew.ext).row hy rfl)) ?_;refine UA (ks:=[true,true,true,true]) (xs:=Co x) (ys:=Co y) (decide (x=y)) U U U ⟨rfl,rfl,rfl,rfl,trivial⟩ (RZ x y) ?_;refine Cc ?_;rintro _ rfl;replace H:=H.drew;refine A3 _ U ?_ ?_
    .intro h3;refine qG 11 ?_;have hne:¬x=y:=by simpa using h3
     exact⟨qaa Value.bool (qa1 fun h=>by subst h;rw[hx]at hy;injection hy with hy;exact hne hy).symm,H.ext⟩
    .intro h3;refine A1<|Av<|Aa<|Aw<|Ad U<|Ap U U ?_;refine Ag U<|qA ?_;have heq:x=y:=by simpa using h3
     refine⟨i+1,rfl,⟨rfl,trivial⟩,⟨by omega,H,fun k x' y' hk hx' hy'=>?_⟩,by omega⟩
     rcases qao k i with h7|h7
     .exact hb k x' y' h7 hx' hy'
     .obtain rfl:k=i:=by omega
      rw[hx]at hx';rw[hy]at hy';cases hx';cases hy';exact heq
   .intro h2;refine Bi<|Am<|Am<|A8<|Aa<|Af<|A5 U<|qA<|Bf<|B6 (v:=(.bool _)) U U U ?_;have hin:i=xs.length:=by omega
    rw[hin]at hb;exact⟨qaa Value.bool (qam<|J2 hle hb).symm,H.ext⟩
def RdAt(w:World)(br:Nat)(ds:List Du):Prop:=∃a c nx,w.heap[br]?=some (Bl 132 [.slice a ds.length c,.int .u64 nx])/\Rd w a 7 BK ds
theorem RdAt.ext0(h:RdAt w br ds)(he:Ext [] w w'):RdAt w' br ds:=by
 obtain⟨a,c,nx,h1,h2⟩:=h;exact⟨a,c,nx,he.to h1<|by simp,h2.ext0 he⟩
theorem N0(ha:CO acs=0)(w:World)(A:AcAt w 96 bx acs) :
  Ret prog 212 #[ptr bx] w fun v w'=>Ext [] w w'/\∃a c,v=.slice a (acs.map CF).length c/\Rd w' a 1 I1 (acs.map CF):=by
 obtain⟨h1,h2,-⟩:=BM.1 ha;obtain⟨a,c,g1,g2⟩:=A;refine Ret.mono (RS a acs.length c acs w g1 g2 U h2) fun v w' F=>⟨F.ext,?_⟩;obtain⟨a',n',c',f',rfl,O,hb⟩:=F.ex;obtain rfl:=O.num;exact⟨a',c',rfl,O.rd1 fun x hx=>(hb x hx).1⟩
theorem WO(ha:CO acs=0)(hd:ofC ds nx=0)(w:World)(A:AcAt w 96 ba acs)(D:RdAt w br ds)(RA:RAt w r q)(he:r.es.length<=1000000)(hi:r.ids.length<=1000000) :
  Ret prog 168 #[ptr ba,ptr br,.agg (AE r q).toArray] w fun v w'=>v=.bool (Jl acs ds r)/\Ext [] w w':=by
 obtain⟨w0,rfl,H⟩:=qE w;have hn16:=(BM.1 ha).1;have hm64:=(DZ.1 hd).1;obtain⟨rs,hrs⟩:=qD<|acs.map CF;have hrl:rs.length=acs.length:=by rw[hrs,qaj]
 obtain⟨aD,cD,nx',hbr,RD⟩:=D;refine iG func168 U ?_;refine Af<|Be (AE r q) (.agg _) U U H ?_;rintro b5 w - H;refine A5 U<|qA ?_;have hx5:=H.ext;have h5:=H.get at0;obtain⟨w5,rfl⟩:=qD w;have hbr5:=hx5.to hbr (by simp);refine Dk 16776064 (α:=NowZ) (fun z=>[(7,ptr z.b),(8,.slice z.aI z.nI z.cI),(9,.int .i64 z.code)]) (NowI w0 rs ds r.cmp b5<|Bl 57 (AE r q)) U ?_ ?_
 .skip
  refine Km (.two [0,2,3,4,5,6,7] 1 (.two [] 8 (.one [9,10,11,12] 13 (.one [] 14 (.one [] 15 (.one [] 16 .stop)))) 13 (.one [] 8 (.one [9,10,11,12] 14 (.one [] 15 (.one [] 16 .stop))))) 13 (.one [] 1 (.one [] 8 (.one [9,10,11,12] 14 (.one [] 15 (.one [] 16 .stop)))))) (fun z=>Ext [] w5 z) AW (Ext.drew [] w5)<|F6 U U U ?_;refine Bm U<|Bm U<|A7 U<|Ah qf U<|AU qf U (fun _ hx=>(by rw[Ai<|hx.to hbr5<|by simp];rfl)) ?_;refine Ah qf U<|AU qf U (fun _ hx=>(by rw[Ai<|hx.to h5<|by simp];rfl)) ?_;refine A6 ?_;have E:=Ext.drew [] w5;refine⟨?_,?_⟩
  .skip
   refine Aj qB (N0 ha _<|A.ext0<|hx5.trans E) U ?_;rintro v w ⟨hx13,a2,c2,rfl,R2⟩;rw[<-hrs]at R2 |-;replace E:=E.trans hx13;refine Ab<|B3 (by exact E) ?_;refine F6 U U U<|A6 ?_;refine⟨?_,?_⟩
   .skip
    refine Aj qB (Jk a2 aD _ c2 _ cD rs ds r.cmp _ R2 U (RD.ext0<|hx5.trans E) U) U ?_;rintro v w hR;obtain⟨hx20,N,aE,nE,cE,aI,nI,cI,code,rfl,hU⟩:=hR.uni;replace E:=E.trans hx20;refine Ab<|B3 (by exact E) ?_;refine B1 U U<|CK U<|AZ U U<|AZ U U<|AZ U U<|A6 ?_;have H:=Ctx.start w [];refine AN qf H ?_;rintro b7 w - H;refine Ab<|B3 (by exact E.trans H.ext) ?_;refine B1 U U<|A6<|AM qf U U U (by simp[AF]) H at0 U ?_;rintro w H;refine Ab<|B3 (by exact E.trans H.ext) ?_;refine B1 U U<|A6<|AP U<|Ab<|B3 (by exact E.trans H.ext) ?_;refine B1 U U<|A6<|Ag U<|Ab<|B3 (by exact E.trans H.ext) ?_;refine Db<|Aa ?_;exact⟨⟨b7,N,aE,nE,cE,aI,nI,cI,code⟩,rfl,⟨rfl,rfl,rfl,trivial⟩,hx5.trans<|E.trans H.ext,(E.trans H.ext).to h5<|by simp,H.get at0,hU [] _ (by simp) H.ext⟩
   .skip
    have H:=Ctx.start w [];refine AN qf H ?_;rintro b7 w - H;have hn7:w5.heap.size<=b7:=qa3 E.size<|(H.own _<|qah ..).elim (fun h=>by cases h) id;replace E:=E.trans H.ext;have hb7:=H.get at0;replace R2:=R2.ext0 H.ext;refine Ab<|B3 (by exact E) ?_;refine B1 U U<|A6 ?_;have hl7:=AX hb7;refine Aj qB (Jk a2 aD _ c2 _ cD rs ds r.cmp _ R2 U (RD.ext0<|hx5.trans E) U) U ?_;rintro v w hR;obtain⟨hx20,N,aE,nE,cE,aI,nI,cI,code,rfl,hU⟩:=hR.uni;replace E:=E.trans hx20;replace hb7:=hx20.to hb7 (by simp);have H:=Ctx.start1 hb7;refine Ab<|B3 (by exact E) ?_;refine B1 U U<|CK U<|AZ U U<|AZ U U<|AZ U U<|A6<|AM qf U U U (by simp[AF]) H at0 U ?_;rintro w H;refine Ab<|B3 (by exact E.then H.ext fun x hx => .inr (by rw[qab.1 hx];exact hn7)) ?_;refine B1 U U ?_
    refine A6<|AP U<|Ab<|B3 (by exact E.then H.ext fun x hx => .inr (by rw[qab.1 hx];exact hn7)) ?_;refine B1 U U ?_;refine A6<|Ag U<|Ab<|B3 (by exact E.then H.ext fun x hx => .inr (by rw[qab.1 hx];exact hn7)) ?_;refine Db<|Aa ?_;have E2:=E.then H.ext fun x hx => .inr (by rw[qab.1 hx];exact hn7);exact⟨⟨b7,N,aE,nE,cE,aI,nI,cI,code⟩,rfl,⟨rfl,rfl,rfl,trivial⟩,hx5.trans E2,E2.to h5<|by simp,H.get at0,hU [b7] _ (by simpa using hl7) H.ext⟩
  .skip
   have H:=Ctx.start (World.drew w5) [];refine AN qf H ?_;rintro b7 w - H;have hn7:w5.heap.size<=b7:=qa3 E.size<|(H.own _<|qah ..).elim (fun h=>by cases h) id;replace E:=E.trans H.ext;have hb7:=H.get at0;refine Ab<|B3 (by exact E) ?_;refine B1 U U<|A6<|Aj qB (N0 ha _<|A.ext0<|hx5.trans E) U ?_;rintro v w ⟨hx13,a2,c2,rfl,R2⟩;rw[<-hrs]at R2 |-;replace E:=E.trans hx13;replace hb7:=hx13.to hb7 (by simp);refine Ab<|B3 (by exact E) ?_;refine B1 U U<|A6 ?_;have hl7:=AX hb7;refine Aj qB (Jk a2 aD _ c2 _ cD rs ds r.cmp _ R2 U (RD.ext0<|hx5.trans E) U) U ?_;rintro v w hR;obtain⟨hx20,N,aE,nE,cE,aI,nI,cI,code,rfl,hU⟩:=hR.uni;replace E:=E.trans hx20;replace hb7:=hx20.to hb7 (by simp);have H:=Ctx.start1 hb7;refine Ab<|B3 (by exact E) ?_;refine B1 U U ?_
   refine CK U<|AZ U U<|AZ U U<|AZ U U<|A6<|AM qf U U U (by simp[AF]) H at0 U ?_;rintro w H;refine Ab<|B3 (by exact E.then H.ext fun x hx => .inr (by rw[qab.1 hx];exact hn7)) ?_;refine B1 U U ?_;refine A6<|AP U<|Ab<|B3 (by exact E.then H.ext fun x hx => .inr (by rw[qab.1 hx];exact hn7)) ?_;refine B1 U U ?_;refine A6<|Ag U<|Ab<|B3 (by exact E.then H.ext fun x hx => .inr (by rw[qab.1 hx];exact hn7)) ?_;refine Db<|Aa ?_;have E2:=E.then H.ext fun x hx => .inr (by rw[qab.1 hx];exact hn7);exact⟨⟨b7,N,aE,nE,cE,aI,nI,cI,code⟩,rfl,⟨rfl,rfl,rfl,trivial⟩,hx5.trans E2,E2.to h5<|by simp,H.get at0,hU [b7] _ (by simpa using hl7) H.ext⟩
 .rintro⟨b7,N,aE,nE,cE,aI,nI,cI,code⟩ j1 w ⟨hx0,h5',hb7,hU⟩;dsimp only at hb7 hU;dsimp only;obtain⟨w1,rfl,H⟩:=qE w;have RA1:=RA.ext0 hx0
  rcases hU with⟨hb,rfl,-⟩|⟨hb,rfl,rfl,rfl,RE,aI',cI',hI,RI⟩
  .skip
   refine AB<|Af<|Ad U<|CV U U<|Bj U<|iC 26 U ?_ ?_
   .intro g1;refine Al U<|Al U<|Al U<|Al U<|Al U<|Bz U (.bool _) U<|Bj U<|Al U<|Al U<|Al U ?_;refine Al U<|Al U<|Al U<|Bz U (.bool _) U<|qA<|EG U<|Af<|A5 U<|qA<|Bf<|AD<|B6 (v:=(.bool _)) U U U ?_;exact⟨qaa Value.bool (by unfold Jl;rw[<-hrs,hb];rfl),hx0⟩
   .intro g1;exact absurd g1<|by decide
  .skip
   cases hI;obtain⟨es,hes⟩:=qD<|Cm rs (opn ds) r.cmp;obtain⟨is,his⟩:=qD<|(opn ds).map Du.id;have hel:es.length<=1000000:=by have:=EW ds;rw[hes,Hi];split <;> omega
   have hil:is.length<=1000000:=by have:=EW ds;rw[his,qaj];omega
   have hB:Jl acs ds r=(decide (((rs.length+1:Nat):Int)=r.N) && (decide (es=r.es) && decide (is=r.ids))):=by unfold Jl;rw[<-hrs,hb,<-hrl,hes,his];rfl
   rw[<-hes]at RE hb7;rw[<-his]at RI |-;rw[hB];refine AB<|Af<|Bo (α:=Unit) 2199006478336 (fun _=>[(40,.bool<|!((decide (((rs.length+1:Nat):Int)=r.N) && decide (es=r.es)) && decide (is.length=r.ids.length)))]) (fun _ w'=>Ctx w1 [] w' []) U ?_ ?_
   .refine Ad U (CV U U<|Bj U<|iC 26 U ?_ ?_)
    .intro h1;refine Al U<|Al U<|Al U<|Al U<|Al U<|Bz U (.bool _) U<|Bj U<|Al U<|Al U<|Al U ?_;refine Al U<|Al U<|Al U<|Bz U (.bool _) U<|Ab ?_;exact⟨rfl,(),rfl,⟨qaa Value.bool (by rw[qac];simp_all;done),trivial⟩,H⟩
    .intro h2;refine BC _ qf qf U U ((BQ (b:=b7) (t:=53) (l:=[.int .i64 ((rs.length+1:Nat):Int),.slice aE es.length cE]) (H.ext.to hb7<|by simp) 0 [.int .i64 ((rs.length+1:Nat):Int),.slice aE es.length cE] U))<|Ae qf U<|BC _ qf qf U U ((BQ (b:=b5) (t:=57) (l:=AE r q) (H.ext.to h5'<|by simp) 4 [.int .i64 r.N,.slice q.aE r.es.length q.cE] U)) ?_;refine Aj qB (Nz _ r.N aE q.aE _ cE _ q.cE es r.es _ (RE.ext0 H.ext) U hel (RA1.E.ext0 H.ext) U he) U ?_;rintro v w ⟨rfl,hx30⟩;replace H:=H.call hx30;rw[show Ny ((rs.length+1:Nat):Int) r.N es r.es=(decide (((rs.length+1:Nat):Int)=r.N) && decide (es=r.es))from rfl];refine Df U<|B9 U (.bool _) U<|Bj U<|iC 33 U ?_ ?_
     .intro h3;refine Al U<|Al U<|Al U<|Al U<|Al U<|Al U<|Bz U (.bool _) U<|Ab ?_;exact⟨rfl,(),rfl,⟨qaa Value.bool (by rw[qac];simp_all;grind),trivial⟩,H⟩
     .intro h4;refine AH U<|Cp qf U<|Ae qf U<|A9 qf U ((by rw[Ai<|H.ext.to h5'<|by simp];rfl)) ?_;refine Cp qf U<|CV U U<|B9 U (.bool _) U<|Ab ?_;exact⟨rfl,(),rfl,⟨qaa Value.bool (by rw[qac];simp_all;omega),trivial⟩,H⟩
   rintro - j40 w H;refine iB U ?_ ?_
   .intro h1;refine Af<|A5 U<|qA<|Bf<|AD<|B6 (v:=(.bool _)) U U U ?_;refine⟨qaa Value.bool ?_,hx0.trans H.ext⟩;rw[<-qdt]at h1;simp only[qag,qav]at h1
    symm
    rw[<-qdt];simp only[qag,qav];exact fun h=>h1 ⟨⟨h.1,h.2.1⟩,by rw[h.2.2]⟩
   .intro h1;simp only[qag,qav]at h1;obtain⟨⟨g1,g2⟩,hle⟩:=h1;rw[qam g1,qam g2,qbs,qbs];refine A1<|Aa<|AB<|Af<|Ag U<|qA<|AK<|AY 144112989052601408 (α:=Nat) (fun i=>[(10,.int .i64 (i:Int))]) (fun i w'=>i<=is.length/\Ctx w1 [] w' []/\∀(k:Nat) (x y:Int),k<i->is[k]?=some x->r.ids[k]?=some y->x=y) (fun i=>is.length - i) 0 U ?_ ?_ ?_
    .exact⟨rfl,trivial⟩
    .exact⟨qai _,H,fun k x y h=>absurd h<|qay _⟩
    .clear H;rintro i j w ⟨hi7,H,hb7'⟩;refine AB<|Af<|Ad U<|AH U<|Cp qf U<|CH U U<|qA<|iB U ?_ ?_
     .intro h2;obtain⟨x,hx⟩:=Au (l:=is) (i:=i);obtain⟨y,hy⟩:=Au (l:=r.ids) (i:=i);have RII:=RA1.I;refine A1<|Aa<|AB<|AK<|CG (fun x=>x=_) AW U ?_;refine BT U<|AS U<|Br RI qf qf U U (by rfl) ?_;refine BD qf U (by rintro _ rfl;exact(((RI.ext0 H.drew.ext).fld hx rfl (j:=0) rfl))) ?_;refine Aq qf U<|BD qf U (by rintro _ rfl;exact((by rw[Ai<|H.drew.ext.to h5'<|by simp];rfl))) ?_;refine AS U<|Br RII qf qf U U (by rfl) ?_;refine BD qf U (by rintro _ rfl;exact(((RII.ext0 H.drew.ext).fld hy rfl (j:=0) rfl))) ?_;refine LM U U<|Cc ?_;rintro _ rfl;replace H:=H.drew;refine iB U ?_ ?_
      .intro h3;refine Af<|A5 U<|qA<|Bf<|Bn<|AD<|AD<|Bn<|AD<|B6 (v:=(.bool _)) U U U ?_;have hne:¬x=y:=h3;exact⟨qaa Value.bool (qa1 fun h=>by subst h;rw[hx]at hy;injection hy with hy;exact hne hy).symm,hx0.trans H.ext⟩
      .intro h3;refine A1<|Av<|Aa<|Aw<|Ad U<|Ap U U ?_;refine Ag U<|qA ?_;have heq:x=y:=by omega
       refine⟨i+1,rfl,⟨rfl,trivial⟩,⟨by omega,H,fun k x' y' hk hx' hy'=>?_⟩,by omega⟩
       rcases qao k i with h7|h7
       .exact hb7' k x' y' h7 hx' hy'
       .obtain rfl:k=i:=by omega
        rw[hx]at hx';rw[hy]at hy';cases hx';cases hy';exact heq
     .intro h2;refine Bi<|Am<|Am<|A8<|Aa<|Af<|A5 U<|qA<|Bf<|B6 (v:=(.bool _)) U U U ?_;have hin:i=is.length:=by omega
      rw[hin]at hb7';exact⟨qaa Value.bool (qam<|J2 hle hb7').symm,hx0.trans H.ext⟩
theorem Aff(A B C:α)(E R:List α):(A::B::C::(E++R)).Perm<|(C::E)++(A::B::R):=by
 classical exact qb7.2 fun x=>by simp only[qce,qbz];omega
theorem permS(A B C D:α)(E F G:List α):(A::B::C::(E++D::(F++G))).Perm<|(A::B::C::D::(E++G))++F:=by
 classical exact qb7.2 fun x=>by simp only[qce,qbz];omega
theorem permF(A B C D:α)(E F G:List α):((A::B::C::D::(E++G))++F).Perm<|(D::C::(E++F))++(A::B::G):=by
 classical exact qb7.2 fun x=>by simp only[qce,qbz];omega
theorem permI(A B C D:α)(E F G:List α):((A::B::G)++(D::C::(E++F))).Perm (A::B::C::(E++D::(F++G))):=by
 classical exact qb7.2 fun x=>by simp only[qce,qbz];omega
abbrev RDU(ad:Option Addr)(m cd:Nat)(nx:Int):Obj:=Bl 132 [.slice ad m cd,.int .u64 nx]
theorem Uf{k:Int}(H:Ctx w0 S w<|((bd,RDU a ds.length c nx)::ent a 111 full)++R)(O:OS a ds.length c 7 full (ds.flatMap BK))(ham:∀d∈ds,0<=d.am/\d.am<=4503599627370496)(hn2:ds.length<=1000000:=by omega):
  Ret prog 169 #[ptr bd,.int .u64 k,.int .i64 x] w fun v w'=>v=.int .i64 (GP ds k x)/\∃a' c' full',OS a' (IJ ds k x).length c' 7 full' ((IJ ds k x).flatMap BK)/\Ctx w0 S w' (((bd,RDU a' (IJ ds k x).length c' nx)::ent a' 111 full')++R):=by
 have hnd:=(qby.1 H.nd).1;rw[qbf]at hnd;refine Ret.mono (Wz a c full w (H.get at0) O (fun y hy=>⟨H.blk y<|qax _<|qae _ hy,fun h=>hnd.1 y hy h.symm⟩) hn2 ham) fun v w' h=>?_;obtain⟨h1,a',c',full',hb,O',hE,hx⟩:=h;refine⟨h1,a',c',full',O',Ctx.back H ⟨hx,fun y hy=>?_,?_,fun y hy=>?_⟩⟩
 .rcases qaf.1 hy with rfl|hy
  .exact hb
  .exact(hE y hy).1
 .exact qbf.2 ⟨fun y hy h=>(hE y hy).2.1 h.symm,DX⟩
 .rcases qaf.1 hy with rfl|hy
  .exact .inl (qah ..)
  .rcases(hE y hy).2.2 with h|h
   .exact .inl (qae _ h)
   .exact .inr h
abbrev RX(ba:Nat)(a:Option Addr)(n c:Nat)(full:List Value)(br:Nat)(ad:Option Addr)(m cd:Nat)(nx:Int)(fd:List Value):List (Nat × Obj):=(ba,Bl 96 [.slice a n c])::(br,RDU ad m cd nx)::(ent ad 111 fd++ent a 162 full)
structure RP7 where
 i:Nat
 ad:Option Addr
 cd:Nat
 fd:List Value
theorem S2(ha:CO acs=0)(hd:ofC ds nx=0)(w:World)(H0:Ctx w ((RX ba a acs.length c full br ad ds.length cd nx fd).map (·.1)) w<|RX ba a acs.length c full br ad ds.length cd nx fd)(O:OS a acs.length c 2 full (acs.flatMap Cg))(OD:OS ad ds.length cd 7 fd (ds.flatMap BK))(RA:RAt w r q)(hoff:ROff q r (·∈(RX ba a acs.length c full br ad ds.length cd nx fd).map (·.1)))(he:r.es.length<=1000000)(hi:r.ids.length<=1000000)(hf:r.fl.length<=1000000)(hp:r.pot.length<=1000000) :
  Ret prog 116 #[ptr ba,ptr br,.agg (AE r q).toArray] w fun v w'=>v=.int .i64 (Dl acs ds r)/\∃full' ad' cd' fd',OS a acs.length c 2 full' ((DE acs ds r).flatMap Cg)/\OS ad' (DM acs ds r).length cd' 7 fd' ((DM acs ds r).flatMap BK) /\
   Ctx w ((RX ba a acs.length c full br ad ds.length cd nx fd).map (·.1)) w' (RX ba a acs.length c full' br ad' (DM acs ds r).length cd' nx fd'):=by
 obtain⟨w0,rfl,H⟩:=qE w;have hn16:=(BM.1 ha).1;have hm64:=(DZ.1 hd).1;have hba:=H0.get at0;have hbr:=H0.get at1;have RAc:Rd w0 a 2 Cg acs:=OS.rd O (fun x hx=>H0.blk x<|qae _<|qae _<|qap _ hx) (fun _ _=>rfl) (by decide);have RDu:Rd w0 ad 7 BK ds:=OS.rd OD (fun x hx=>H0.blk x<|qae _<|qae _<|qax _ hx) (fun _ _=>rfl) (by decide);have A:AcAt w0 96 ba acs:=⟨a,c,hba,RAc⟩;have D:RdAt w0 br ds:=⟨ad,cd,nx,hbr,RDu⟩;obtain⟨ck,hck⟩:=qD<|Ev r.N r.es r.fl r.pot;obtain⟨nw,hnw⟩:=qD<|Jl acs ds r;refine iG func116 U ?_;refine Af<|Be (AE r q) (.agg _) U U H ?_;rintro b5 w - H;refine qG 6 ?_
 refine BC _ qf qf U U ((BQ (b:=b5) (t:=57) (l:=AE r q) (H.get at0) 4 [.int .i64 r.N,.slice q.aE r.es.length q.cE] U))<|Ae qf U<|BC _ qf qf U U ((BQ (b:=b5) (t:=57) (l:=AE r q) (H.get at0) 6 [.slice q.aF r.fl.length q.cF,.slice q.aP r.pot.length q.cP] U))<|Aj qB (LV r.N q.aE q.aF q.aP _ q.cE _ q.cF _ q.cP r.es r.fl r.pot _ (RA.E.ext0 H.ext) U (by omega) (RA.F.ext0 H.ext) U (by omega) (RA.P.ext0 H.ext) U<|by omega) U ?_;rintro v w ⟨rfl,hx14⟩;rw[<-hck];replace H:=H.call hx14;refine qGp 3 ?_ ?_
 .intro h1;refine qG 7 ?_;have h1':ck=false:=by simpa using h1
  have hC:Dl acs ds r=1:=by unfold Dl;rw[<-hck,if_pos h1']
  unfold DE DM;rw[hC,if_neg<|by decide,if_neg<|by decide];exact⟨rfl,full,ad,cd,fd,O,OD,H0.call H.ext⟩
 .intro h1;have h1':ck=true:=by simpa using h1
  refine qG 7 ?_;refine Aj qB (WO ha hd _ (A.ext0 H.ext) (D.ext0 H.ext) (RA.ext0 H.ext) he hi) U ?_;rintro v w ⟨rfl,hx19⟩;rw[<-hnw];replace H:=H.call hx19;refine qGp 3 ?_ ?_
  .intro h2;refine qG 7 ?_;have h2':nw=false:=by simpa using h2
   have hC:Dl acs ds r=3:=by unfold Dl;rw[<-hck,h1',if_neg<|by decide,<-hnw,if_pos h2']
   unfold DE DM;rw[hC,if_neg<|by decide,if_neg<|by decide];exact⟨rfl,full,ad,cd,fd,O,OD,H0.call H.ext⟩
  .intro h2;have h2':nw=true:=by simpa using h2
   have hC:Dl acs ds r=0:=by unfold Dl;rw[<-hck,h1',if_neg<|by decide,<-hnw,h2',if_neg<|by decide]
   have F:=EQ ha hd hC;unfold DE DM;rw[hC,if_pos rfl,if_pos rfl];have hSh:=(Hj ha (fun k a hk=>(F.by' k a hk).2) F.sum).1;obtain⟨f,hf0⟩:=qD (fun i=>Em (grE (((acs.map CF).length+1:Nat):Int)<|Cm (acs.map CF) (opn ds) r.cmp) (flE r.fl) i:Nat->Nat->Int);have hfe:byK (acs.map CF) (opn ds) r.cmp r.fl=f (opn ds).length:=by rw[hf0];rfl
   rw[hfe]at hSh |-;have hf00:f 0=fun _=>0:=by rw[hf0];rfl
   obtain⟨m,hm⟩:=qD<|(opn ds).length;have hml:m<=64:=by have:=EW ds;omega
   have hmf:m<=r.fl.length:=by rw[F.len,F.es,Hi];omega
   have hltm:(r.fl.take m).length=m:=by rw[qa8];omega
   rw[<-hm]at hSh |-;refine qG 6 ?_;refine A9 qf U ((by rw[Ai<|H.ext.to hbr<|by simp];rfl))<|Aj qB (JZ ad _ cd ds _ (RDu.ext0 H.ext) U) U ?_;rintro v w F25;obtain⟨a7,n7,c7,f7,rfl,O7,hb7⟩:=F25.ex;have hn7:=O7.numN (fun _ _=>rfl) (by decide);rw[<-hm]at hn7;have hn7':m=n7:=by omega
   subst hn7';replace H:=H.callEnt F25.ext hb7 DX;refine qG 7 ?_;refine A9 qf U ((by rw[Ai<|H.ext.to hba<|by simp];rfl)) ?_;refine qG 2 ?_;rintro b31 w - H;rw[qa7,DP]at H;rw[qa7];refine qG 9 ?_;have E9:=H.ext;obtain⟨L9,hL9⟩:=qD ((b31,Bl 2 (List.map (fun _=>Value.int .i64 0)<|List.range acs.length))::(b5,Bl 57 (AE r q))::(br,RDU ad ds.length cd nx)::(ent ad 111 fd++(ba,Bl 96 [.slice a acs.length c])::(ent a 162 full++ent a7 111 f7)));have HFp:Ctx w0 ((RX ba a acs.length c full br ad ds.length cd nx fd).map (·.1)) w L9:=by rw[hL9];exact(Ctx.callEnt H0 H.ext (fun x hx=>⟨H.blk x hx,(H.own x hx).elim (fun h=>by cases h) id⟩) H.nd).comm.perm (permI _ _ _ _ _ _ _)
   obtain⟨S9,hS9⟩:=qD<|L9.map (·.1);have RA9:=RA.ext0 E9
   have hoff9:ROff q r (·∈S9):=(hoff.or RA.lt).mono fun x hx=>by
    rw[hS9]at hx;obtain⟨y,hy,rfl⟩:=qak.1 hx;exact HFp.own y hy
   obtain⟨w9,rfl⟩:=qD w;have HF:Ctx w0 ((RX ba a acs.length c full br ad ds.length cd nx fd).map (·.1)) w9<|L9++[]:=by rw[qar];exact HFp
   clear HFp;have H:Ctx w9 S9 w9 L9:=by rw[hS9];exact Ctx.lend HF
   refine AY 9671406556917029102682624 (α:=RP7) (fun t=>[(9,.int .i64 (t.i:Int))]) (fun t w'=>t.i<=m/\OS t.ad (Gu ds<|((opn ds).zip<|r.fl.take m).take t.i).length t.cd 7 t.fd ((Gu ds<|((opn ds).zip<|r.fl.take m).take t.i).flatMap BK)/\Ctx w9 S9 w' ((b31,Bl 2 (BF (f t.i) acs.length))::(b5,Bl 57 (AE r q))::(br,RDU t.ad (Gu ds<|((opn ds).zip<|r.fl.take m).take t.i).length t.cd nx)::(ent t.ad 111 t.fd++(ba,Bl 96 [.slice a acs.length c])::(ent a 162 full++ent a7 111 f7)))) (fun t=>m - t.i) ⟨0,ad,cd,fd⟩ U ?_ ?_ ?_
   .exact⟨rfl,trivial⟩
   .refine⟨qai _,OD,?_⟩;dsimp only;rw[hf00];rw[hL9]at H;exact H
   .clear H;rintro⟨i,ad1,cd1,fd1⟩ jj w ⟨hi7,OD1,H⟩;dsimp only at hi7 OD1 H;dsimp only;have hmem:∀x∈ent a7 111 f7,x∈((b31,Bl 2 (BF (f i) acs.length))::(b5,Bl 57 (AE r q))::(br,RDU ad1 (Gu ds<|((opn ds).zip<|r.fl.take m).take i).length cd1 nx)::(ent ad1 111 fd1++(ba,Bl 96 [.slice a acs.length c])::(ent a 162 full++ent a7 111 f7))):=fun x hx=>qae _<|qae _<|qae _<|qap _<|qae _<|qap _ hx;have RO1:Rd w a7 7 BK (opn ds):=OS.rd O7 (fun x hx=>H.blk x<|hmem x hx) (fun _ _=>rfl) (by decide);refine qGp 8 ?_ ?_
    .intro h3;obtain⟨d,hdi⟩:=Au (l:=opn ds) (i:=i);obtain⟨x,hxi⟩:=Au (l:=r.fl) (i:=i);have hxt:(r.fl.take m)[i]?=some x:=by rw[qbt,if_pos<|by omega];exact hxi
     have hps:((opn ds).zip<|r.fl.take m)[i]?=some (d,x):=by rw[qcc];exact⟨hdi,hxt⟩
     have hok:=F.ok;rw[<-hm]at hok;obtain⟨⟨hfd,hheld,hx0,hx1⟩,hnext⟩:=Nq hok hps;dsimp only at hfd hheld hx0 hx1 hnext;obtain⟨ham7,hlen7⟩:=Qg (Afa hd) hok i;have hDI:=F.B.open'.due d<|qad hdi;rw[qaj]at hDI;have hdm:=CD hDI.1;have hfr7:d.fr<(acs.length:Int):=hDI.2.1;have hto7:d.to<(acs.length:Int):=hDI.2.2;have hfr8:=hdm.1.1;have hto8:=hdm.2.1.1
     have hfb:∀k,-1152921504606846976<=f i k/\f i k<=1152921504606846976:=fun k=>by
      have:=GG (g:=grE (((acs.map CF).length+1:Nat):Int)<|Cm (acs.map CF) (opn ds) r.cmp) (x:=flE r.fl) (c:=4503599627370496) k (k:=i) fun j hj=>by
       obtain⟨d',hd'⟩:=Au (l:=opn ds) (i:=j);obtain⟨x',hx'⟩:=Au (l:=r.fl) (i:=j);have h1:=F.pay.2 j d' x' hd' (by rw[qbt,if_pos<|by omega];exact hx');have h2:=(CD (F.B.open'.due d'<|qad hd').1).2.2.2.1;show 0<=r.fl.getD j 0/\r.fl.getD j 0<=_;rw[Bp hx'];omega
      rw[hf0];dsimp only;omega
     have hfs:∀k,f (i+1) k=f i k+(one (d.to.toNat=k) - one (d.fr.toNat=k))*x:=fun k=>by
      rw[hf0];dsimp only;rw[G1,Se<|I4 hdi,Sf<|I4 hdi,show flE r.fl i=x from Bp hxi];rfl
     obtain⟨fn,hfn⟩:∃fn:Nat,d.fr=fn:=⟨d.fr.toNat,by omega⟩;obtain⟨tn,htn⟩:∃tn:Nat,d.to=tn:=⟨d.to.toNat,by omega⟩;obtain⟨f1,hf1⟩:=qD<|upd (f i) fn<|f i fn - x;have hof:f1 fn=f i fn - x:=by rw[hf1,CI]
     have hon:∀q,q≠fn->f1 q=f i q:=fun q hq=>by rw[hf1,Dy hq]
     have hst:∀q,f (i+1) q=upd f1 tn (f1 tn+x) q:=fun q=>by
      rw[hfs,hfn,htn,qa7,qa7]
      by_cases h1:q=tn
      .subst h1;rw[CI,EM rfl]
       by_cases h2:fn=q
       .subst h2;rw[EM rfl,hof];omega
       .rw[E3 h2,hon q<|Ne.symm h2];omega
      .rw[Dy h1,E3<|Ne.symm h1]
       by_cases h2:fn=q
       .subst h2;rw[EM rfl,hof];omega
       .rw[E3 h2,hon q<|Ne.symm h2];omega
     have hb1:=hfb fn;have hb2:=hfb tn
     have hot : -1157425104234217472<=f1 tn/\f1 tn<=1157425104234217472:=by
      by_cases h:tn=fn
      .rw[h,hof];omega
      .rw[hon tn h];omega
     have hp1:=Aff (b31,Bl 2 (BF (f<|i+1) acs.length)) (b5,Bl 57 (AE r q)) (br,RDU ad1 (Gu ds<|((opn ds).zip<|r.fl.take m).take i).length cd1 nx) (ent ad1 111 fd1) ((ba,Bl 96 [.slice a acs.length c])::(ent a 162 full++ent a7 111 f7));obtain⟨R7,hR7⟩:=qD (ent ad1 111 fd1++(ba,Bl 96 [.slice a acs.length c])::(ent a 162 full++ent a7 111 f7));rw[<-hR7]at hp1 H hmem;have RF9:=RA9.F
     refine A1<|Aa<|AB<|AK<|De 16 AW U U (BT U<|BT U<|AS U<|Br RO1 qf qf U U (by omega)<|Aq qf U<|BD qf U (by rintro _ rfl;exact(((OS.rd O7 (fun x hx=>H.drew.blk x<|by exact hmem x hx) (fun _ _=>rfl)<|by decide).fld hdi rfl (j:=1) rfl)))<|Bt qf qf U U<|U0 fn _ U qf U (by rintro _ rfl;exact H.drew) at0 (by rw[hfn];simp) U<|Aq qf U<|Aq qf U<|B7 qf U (by rintro _ rfl;exact H.drew) at1 U<|AS U<|Br RF9 qf qf U U (by rfl)<|BD qf U (by rintro _ rfl;exact(((RF9.ext' H.drew.ext hoff9.F).fld hxi rfl (j:=0) rfl))) ?_);refine qG 3 ?_;replace H:=H.drew;refine BZ fn (fun q => .int .i64 (f1 q)) (.int _ _) qf U U U H at0 (by rw[hfn];simp) (by rw[hof]) (fun q _ hq=>by rw[hon q hq]) ?_;rintro w H
     have hmem2:∀x∈ent a7 111 f7,x∈((b31,Bl 2 (BF f1 acs.length))::(b5,Bl 57 (AE r q))::(br,RDU ad1 (Gu ds<|((opn ds).zip<|r.fl.take m).take i).length cd1 nx)::R7):=fun x hx=>qae _<|qae _<|qae _ (by rw[hR7];exact qap _<|qae _<|qap _ hx)
     refine qA<|De 16 AW U U (BT U<|BT U<|AS U<|Br RO1 qf qf U U (by omega)<|Aq qf U<|BD qf U (by rintro _ rfl;exact(((OS.rd O7 (fun x hx=>H.drew.blk x<|by exact hmem2 x hx) (fun _ _=>rfl)<|by decide).fld hdi rfl (j:=2) rfl)))<|Bt qf qf U U<|U0 tn _ U qf U (by rintro _ rfl;exact H.drew) at0 (by rw[htn];simp) U<|Aq qf U<|Aq qf U<|B7 qf U (by rintro _ rfl;exact H.drew) at1 U<|AS U<|Br RF9 qf qf U U (by rfl)<|BD qf U (by rintro _ rfl;exact(((RF9.ext' H.drew.ext hoff9.F).fld hxi rfl (j:=0) rfl))) ?_);refine qG 3 ?_;replace H:=H.drew;refine BZ tn (fun q => .int .i64 (f (i+1) q)) (.int _ _) qf U U U H at0 (by rw[htn];simp) (by rw[hst,CI]) (fun q _ hq=>by rw[hst,Dy hq]) ?_;rintro w H
     have hmem3:∀x∈ent a7 111 f7,x∈((b31,Bl 2 (BF (f<|i+1) acs.length))::(b5,Bl 57 (AE r q))::(br,RDU ad1 (Gu ds<|((opn ds).zip<|r.fl.take m).take i).length cd1 nx)::R7):=fun x hx=>qae _<|qae _<|qae _ (by rw[hR7];exact qap _<|qae _<|qap _ hx);refine qA<|DL 12 AW U U ?_;refine BE U<|BT U<|AS U<|Br RO1 qf qf U U (by omega) ?_;refine Aq qf U<|BD qf U (by rintro _ rfl;exact(((OS.rd O7 (fun x hx=>H.drew.blk x<|by exact hmem3 x hx) (fun _ _=>rfl)<|by decide).fld hdi rfl (j:=0) rfl))) ?_;refine Aq qf U<|Aq qf U<|B7 qf U (by rintro _ rfl;exact H.drew) at1 U ?_;refine AS U<|Br RF9 qf qf U U (by rfl) ?_
     refine BD qf U (by rintro _ rfl;exact(((RF9.ext' H.drew.ext hoff9.F).fld hxi rfl (j:=0) rfl))) ?_;refine Cc ?_;replace H:=H.drew;obtain⟨hc0,hS⟩:=OZ (p:=(d,x)) ⟨hfd,hheld,hx0,hx1⟩;dsimp only at hc0 hS;refine Aj qB (Uf (k:=d.id) (x:=x) (H.perm hp1) OD1 ham7) U ?_;rintro v w ⟨rfl,ad2,cd2,fd2,OD2,H2⟩;rw[hS,<-hnext]at OD2 H2;replace H:=H2.perm (Aff _ _ _ _ _).symm;refine Ab<|Av<|Aa<|Aw<|Ad U<|Ap U U ?_;refine Ag U<|qA ?_;exact⟨⟨i+1,ad2,cd2,fd2⟩,rfl,⟨rfl,trivial⟩,⟨by dsimp only;omega,OD2,H⟩,by dsimp only;omega⟩
    .intro h3;obtain rfl:i=m:=by omega
     have hall:=F.all;rw[<-hm]at hall;rw[qc5 (by rw[qb3,<-hm,qa8];omega),hall]at OD1 H;replace H:=H.perm<|permS _ _ _ _ _ _ _;have hnd:=qby.1 H.nd;refine Bi<|Am<|Am<|A8<|Aa<|Af<|AV U<|AH U<|Aj qB (RU (bd:=ba) a (some ⟨b31,0,none⟩) c acs.length acs.length full acs (tab (f i) acs.length) _ (H.get at3) O (fun x hx=>⟨H.blk x<|qap _ hx,fun h=>hnd.2.2 _ (qae _<|qae _<|qae _<|qah ..) x hx h.symm⟩) (Cv<|H.get at0)<|CP _ _) U ?_;rintro v w ⟨rfl,full',O',hb',hx85⟩;refine qG 8 ?_;have HT:=Ctx.turnEnt H hx85 hb';rw[hS9]at HT;have HB:=Ctx.back HF HT;rw[qar]at HB;exact⟨rfl,full',ad1,cd1,fd1,O',OD1,(HB.perm<|permF _ _ _ _ _ _ _).left⟩
structure Four where
 bx:Nat
 a:Option Addr
 c:Nat
 full:List Value
 bd:Nat
 b:Nat
 o:Obj
 ba:Nat
 ra:Option Addr
 rc:Nat
 rfull:List Value
 br:Nat
 ad:Option Addr
 cd:Nat
 fd:List Value
def Four.L(z:Four)(acs:List Ac)(ds:List Du)(nx:Int):List (Nat × Obj):=LX z.bx z.a acs.length z.c z.full z.bd z.b nx z.o++RX z.ba z.ra acs.length z.rc z.rfull z.br z.ad ds.length z.cd nx z.fd
structure Four.Ok(z:Four)(acs:List Ac)(ds:List Du):Prop where
 O:OS z.a acs.length z.c 2 z.full (acs.flatMap Cg)
 M:CQ .u64 (dm ds) z.o
 RO:OS z.ra acs.length z.rc 2 z.rfull (acs.flatMap Cg)
 RD:OS z.ad ds.length z.cd 7 z.fd (ds.flatMap BK)
theorem L7(B L R:List α):(B++(L++R)).Perm<|L++(B++R):=by
 classical exact qb7.2 fun x=>by simp only[qce];omega
theorem Ctx.mid{L:List (Nat × Obj)}(H:Ctx w0 S w<|B++(L++R))(H':Ctx w (L.map (·.1)) w' L'):Ctx w0 S w' (B++(L'++R)) :=
 (Ctx.back (H.perm<|L7 B L R) H').perm (L7 B L' R).symm
theorem Ctx.in'{L:List (Nat × Obj)}(H:Ctx w0 S w<|B++(L++R)):Ctx w (L.map (·.1)) w L:=Ctx.lend<|H.perm<|L7 B L R
structure RBnd(r:Rnd):Prop where
 N:I64 r.N
 es:r.es.length<=1000000
 ids:r.ids.length<=1000000
 fl:r.fl.length<=1000000
 pot:r.pot.length<=1000000
theorem S4(P:PlanR acs ds net r):RBnd r:=by
 obtain⟨h1,h2,-⟩:=G4.1 P.chk;obtain⟨g1,g2,g3,-⟩:=Cr (Cj (E4 h1).1).2.1;have g4:=(Cj (E4 h1).1).1;have g5:=(Je h2).1;refine⟨⟨by omega,by omega⟩,by omega,?_,by omega,by omega⟩;rw[P.ids,qaj]
 have:(opn ds).length<=r.es.length:=by rw[P.es,Hi];omega
 omega
theorem WP(ha:CO acs=0)(hd:ofC ds nx=0)(H:Ctx w0 S w<|B++(LX bx a acs.length c full bd b nx o++R))(O:OS a acs.length c 2 full (acs.flatMap Cg))(hM:CQ .u64 (dm ds) o)(RA:RAt w r q)(hoff:ROff q r (·∈(LX bx a acs.length c full bd b nx o).map (·.1)))(hr:RBnd r) :
  Ret prog 104 #[ptr bx,ptr bd,.agg (AE r q).toArray] w fun v w'=>v=.int .i64 (Dl acs ds r)/\∃full' o',OS a acs.length c 2 full' ((DE acs ds r).flatMap Cg)/\CQ .u64 (dm<|DM acs ds r) o' /\
   Ext ((LX bx a acs.length c full bd b nx o).map (·.1)) w w'/\Ctx w0 S w' (B++(LX bx a acs.length c full' bd b nx o'++R)):=by
 refine Ret.mono (ZS ha hd w (Ctx.in' H) O hM RA hoff hr.N hr.es hr.ids hr.fl hr.pot) fun v w' h=>?_;obtain⟨h1,full',o',O',hM',H'⟩:=h;exact⟨h1,full',o',O',hM',H'.ext,Ctx.mid H H'⟩
theorem Vr:(ent a t f).map (·.1)=(ent a t g).map (·.1):=by cases a <;> rfl
theorem Pj(h:0<l.length:=by omega):l.take 1=[flE l 0]:=by
 cases l with
 |nil=>exact absurd h<|by decide
 |cons x l=>rfl
structure Lm where
 bl:Nat
 ba:Nat
 bd:Nat
 br:Nat
 b:Nat
 a:Option Addr
 c:Nat
 full:List Value
 o:Obj
 arch:List Value
abbrev LL(m:Lm)(s:Ld):List (Nat × Obj):=(m.bl,Bl 93 [ptr m.ba,ptr m.bd,ptr m.br,.int .i64 s.day])::(m.br,Bl 159 m.arch)::LX m.ba m.a s.acs.length m.c m.full m.bd m.b s.nx m.o
abbrev CR(m:Lm)(s:Ld):List Nat:=(LL m s).map fun x=>x.1
def KIn(w:World)(arch:List Value)(r:Rnd)(T:Nat->Prop):Prop :=
 ∃q,(∀j v,(AE r q)[j]?=some v->arch[(r.no % 4).toNat*8+j]?=some v)/\RAt w r q/\ROff q r T
structure LdIn(w:World)(m:Lm)(s:Ld)(T:Nat->Prop):Prop where
 O:OS m.a s.acs.length m.c 2 m.full (s.acs.flatMap Cg)
 M:CQ .u64 (dm s.ds) m.o
 ok:s.Ok
 len:m.arch.length=34
 n:m.arch[32]?=some (.int .u64 s.rn.length)
 no:m.arch[33]?=some (.int .u64 s.no)
 kept:∀r∈s.rn,KIn w m.arch r T
 own:∀x∈CR m s,T x
 low:∀x,T x->x<w.heap.size
abbrev BN(k:Ak):List Value:=[.int .u8 k.kd,.int .i64 k.a,.int .i64 k.b,.int .i64 k.x,.int .i64 k.w,.int .i64 k.u,.int .u64 k.id]
theorem Ctx.acs7(H:Ctx w0 S w<|P++ent a t full)(he:Ext ((ent a t full).map fun x=>x.1) w w')(hb:∀x∈ent a t full',w'.heap[x.1]?=some x.2):Ctx w0 S w'<|P++ent a t full':=by
 have h1:Ctx w ((ent a t full).map fun x=>x.1) w'<|ent a t full':=⟨he,hb,DX,fun x hx => .inl (by
  rw[Vr (f:=full) (g:=full')]
  exact qa6 (f:=fun x:Nat × Obj=>x.1) hx)⟩
 exact(Ctx.back H.comm h1).comm
theorem LdIn.turn{m m':Lm}(I:LdIn w m s T)(he:Ext S w w')(hs:∀x∈S,T x)(O:OS m'.a s'.acs.length m'.c 2 m'.full (s'.acs.flatMap Cg))(M:CQ .u64 (dm s'.ds) m'.o)(ok:s'.Ok)(ha:m'.arch=m.arch)(hr:s'.rn=s.rn)(hn:s'.no=s.no)(hid:∀x∈CR m' s',(T x\/w.heap.size<=x)/\x<w'.heap.size) :
  LdIn w' m' s' (fun x=>T x\/x∈CR m' s') where
 O:=O
 M:=M
 ok:=ok
 len:=by rw[ha];exact I.len
 n:=by rw[ha,hr];exact I.n
 no:=by rw[ha,hn];exact I.no
 kept:=fun r h=>by
  rw[hr]at h;obtain⟨q,h1,h2,h3⟩:=I.kept r h;rw[ha];exact⟨q,h1,h2.ext he<|h3.mono hs,(h3.or h2.lt).mono fun x hx=>hx.elim .inl fun hx=>(hid x hx).1⟩
 own:=fun x hx => .inr hx
 low:=fun x hx=>hx.elim (fun h=>qbb (I.low x h) he.size) fun h=>(hid x h).2
def FG(w:World)(m:Lm)(s:Ld)(T:Nat->Prop)(k:Ak)(v:Value)(w':World):Prop :=
 ∃a n c full code l s' m',v=.tuple #[.slice a n c,.int .i64 code]/\OS a n c 1 full (l.map Cu)/\C9 s k s' (rp l code)/\Ctx w (CR m s) w' (LL m' s'++ent a 2 full)/\(∀x∈ent a 2 full,w.heap.size<=x.1)/\LdIn w' m' s' (fun x=>T x\/x∈CR m' s')/\m'.bl=m.bl
theorem Dz{m m':Lm}{k:Ak}(I:LdIn w m s T)(H:Ctx w (CR m s) w1<|P++LL m' s')(F:Fresh w1 w' 2 1 (.slice a n c) (l.map Cu))(hst:C9 s k s'<|rp l code)(O:OS m'.a s'.acs.length m'.c 2 m'.full (s'.acs.flatMap Cg))(M:CQ .u64 (dm s'.ds) m'.o)(ok:s'.Ok)(ha:m'.arch=m.arch)(hr:s'.rn=s.rn)(hn:s'.no=s.no)(hbl:m'.bl=m.bl):FG w m s T k (.tuple #[.slice a n c,.int .i64 code]) w':=by
 obtain⟨a',n',c',full,hv,OF,hb⟩:=F.ex;cases hv;have H1:Ctx w (CR m s) w1<|LL m' s':=H.right;have H2:=H1.callEnt F.ext hb DX;refine⟨a,n,c,full,code,l,s',m',rfl,OF,hst,H2,fun x hx=>qa3 H1.size (hb x hx).2,I.turn H2.ext I.own O M ok ha hr hn fun x hx=>?_,hbl⟩;obtain⟨y,hy,rfl⟩:=qak.1 hx;exact⟨(H1.own y hy).imp_left<|I.own _,AX<|H2.left.blk y hy⟩
structure AkIn(k:Ak):Prop where
 kd:0<=k.kd/\k.kd<=255
 a:I64 k.a
 b:I64 k.b
 x:I64 k.x
 w:I64 k.w
 u:I64 k.u
 id:0<=k.id/\k.id<=18446744073709551615
theorem FR{l:List Value}{L:List (Nat × Obj)}(H:Ctx w0 [] w ((b,Bl t l)::L))(hn:l.length=n):Fresh w0 w t 1 (.slice (some ⟨b,0,none⟩) n n) l:=by
 subst hn;refine⟨⟨some ⟨b,0,none⟩,l.length,l.length,l,rfl,⟨fun p hp=>?_,fun h=>?_,by rw[qdd],qaq _,by rw[qdd,qba]⟩,fun x hx=>?_⟩,H.ext⟩
 .cases hp;rfl
 .cases h
 .rw[qab.1 hx];exact⟨H.get at0,(H.own _<|qah ..).elim (fun h=>by cases h) id⟩
theorem Mv(k e:Int)(w:World)(hl:w.heap[bl]?=some (Bl 93 [ptr ba,v1,v2,v3]))(hd:AcB ba a acs.length c w)(R:Rd w a 2 Cg acs)(hn:acs.length<=1000000:=by omega):
  Ret prog 94 #[ptr bl,.int .i64 k,.int .i64 e] w fun v w'=>∃a' c',v=.tuple #[.slice a' 2 c',.int .i64<|if e=0/\inA acs k=false then 10 else e]/\Fresh w w' 2 1 (.slice a' 2 c') ((IL acs k).map Cu):=by
 obtain⟨w0,rfl,H⟩:=qE w;refine iG func94 U ?_;refine qG 9 ?_;refine A9 qf U ((H.old (Ai hl _)<|by simp))<|Ad U<|Aj qB (Ms a _ c acs k _ (H.ext.to hd<|by simp) (R.ext0 H.ext) U hn) U ?_;rintro v w ⟨rfl,hx16⟩;replace H:=H.call hx16;refine qG 4 ?_;rintro b8 w - H;refine qG 1 ?_;rintro w H;refine qG 5 ?_;refine Bo (α:=Unit) 33030144 (fun _=>[(24,.bool<|decide (e=0) && !inA acs k)]) (fun _ w'=>Ctx w0 [] w' [(b8,Bl 162 (Cg<|Da acs k))]) U ?_ ?_
 .refine qG 3 ?_;refine iC 21 U ?_ ?_
  .intro h1;refine qG 4 ?_;exact⟨rfl,(),rfl,⟨qaa Value.bool (by rw[qac];simp_all;try omega),trivial⟩,H⟩
  .intro h2;refine qG 4 ?_;exact⟨rfl,(),rfl,⟨qaa Value.bool (by rw[qac];simp_all;try omega),trivial⟩,H⟩
 rintro - j24 w H;refine A3 _ U ?_ ?_
 .intro h1;rw[qag,qav,qcf]at h1;rw[if_pos h1];refine qG 9 ?_;refine Cs [.int .i64 (Da acs k).ba,.int .i64 (Da acs k).re] qf qf qf H ?_;rintro b29 w - H;refine qG 7 ?_;exact⟨_,_,rfl,FR H rfl⟩
 .intro h1;rw[if_neg (fun h=>by rw[h.2,qam h.1]at h1;cases h1)];refine qG 7 ?_;refine Cs [.int .i64 (Da acs k).ba,.int .i64 (Da acs k).re] qf qf qf H ?_;rintro b29 w - H;refine qG 7 ?_;exact⟨_,_,rfl,FR H rfl⟩
theorem Aap{m:Lm}{k:Ak}(hk:k.kd=2)(hin:AkIn k)(w:World)(I:LdIn w m s T)(H0:Ctx w (CR m s) w<|LL m s) :
  Ret prog 43 #[ptr m.bl,.agg (BN k).toArray] w (FG w m s T k):=by
 obtain⟨w0,rfl⟩:=qD w;obtain⟨bl,ba,bd,br,b,a,c,full,o,arch⟩:=m;obtain⟨S0,hS0⟩:=qD<|CR ⟨bl,ba,bd,br,b,a,c,full,o,arch⟩ s;have H:Ctx w0 S0 w0 ((bl,Bl 93 [ptr ba,ptr bd,ptr br,.int .i64 s.day])::(br,Bl 159 arch)::(ba,Bl 153 [.slice a s.acs.length c])::(bd,Bl 156 (DU b s.nx))::(b,o)::ent a 162 full):=by rw[hS0];exact H0
 have hn16:=(BM.1 I.ok.ac).1;obtain⟨hok,hlen,-⟩:=KS I.ok.ac k.a k.x;have hoth:Dn s k={ s with acs:=DF s.acs k.a k.x }:=by unfold Dn;rw[if_neg<|by omega,if_pos hk]
 have hokS:({ s with acs:=DF s.acs k.a k.x }:Ld).Ok:=by rw[<-hoth];exact IA I.ok k hin.u.2
 have hstep:C9 s k { s with acs:=DF s.acs k.a k.x }<|rp (IL (DF s.acs k.a k.x) k.a)<|DW s.acs k.a k.x:=by
  unfold C9;rw[if_neg<|by omega];exact⟨hoth.symm,by unfold Dq;rw[if_neg<|by omega,if_pos hk]⟩
 have hcode:(if DW s.acs k.a k.x=0/\inA (DF s.acs k.a k.x) k.a=false then 10 else DW s.acs k.a k.x)=DW s.acs k.a k.x:=by
  rw[if_neg];rintro⟨h1,h2⟩
  rcases Kb s.acs k.a k.x with⟨h3,-⟩|⟨-,h4,-⟩
  .exact h3 h1
  .have h5:inA (DF s.acs k.a k.x) k.a=inA s.acs k.a:=by unfold inA;rw[hlen]
   rw[h5,h4]at h2;cases h2
 refine iG func43 U ?_;refine Af<|Be (BN k) (.agg _) U U H ?_;rintro b3 w - H;refine qG 4 ?_;refine BG [([0,1,2,3,4,5,6,7,8,9,10],11),([],12),([13,14,15],16)] (fun z=>z.heap[b3]?=some (Bl 46 (BN k))/\z.heap[bl]?=some (Bl 93 [ptr ba,ptr bd,ptr br,.int .i64 s.day])) [] AW (⟨H.drew.get at0,H.drew.get at1⟩)<|A0 U U<|Bm U<|Ah qf U<|AU qf U (fun _ hx=>(by rw[Ai hx.1];rfl))<|Bm U<|A7 U<|Ah qf U<|AU qf U (fun _ hx=>(by rw[Ai hx.2];rfl))<|Ah qf U<|AU qf U (fun _ hx=>(by rw[Ai hx.1];rfl))<|Ah qf U<|AU qf U (fun _ hx=>(by rw[Ai hx.1];rfl))<|A6 ?_;replace H:=H.drew;refine Aj qB (Aaj _ (H.get at3) I.O (fun y hy=>H.blk y<|qap [_,_,_,_,_,_] hy) I.ok.ac) U ?_;rintro v w ⟨rfl,full',O',hb',he'⟩
 replace H:Ctx w0 S0 w ((b3,Bl 46 (BN k))::(bl,Bl 93 [ptr ba,ptr bd,ptr br,.int .i64 s.day])::(br,Bl 159 arch)::(ba,Bl 153 [.slice a (DF s.acs k.a k.x).length c])::(bd,Bl 156 (DU b s.nx))::(b,o)::ent a 162 full'):=(by rw[hlen];exact Ctx.acs7 (P:=[_,_,_,_,_,_]) H he' hb');replace O':OS a (DF s.acs k.a k.x).length c 2 full' ((DF s.acs k.a k.x).flatMap Cg):=(by rw[hlen];exact O');refine Ab<|Bv (⟨H.get at0,H.get at1⟩)<|A0 U U ?_;refine A6<|Aj qB (Mv k.a _ _ (H.get at1) (H.get at3)<|OS.rd (t:=162) O' (fun y hy=>H.blk y<|qap [_,_,_,_,_,_] hy) (fun _ _=>rfl)<|by decide) U ?_;rintro v w ⟨a',c',rfl,F⟩;rw[hcode];have H8:=H;replace H:=H.call F.ext;refine Ab<|Bv (⟨H.get at0,H.get at1⟩)<|A0 U U ?_;refine AZ U U<|AZ U U<|DA U<|A6<|Ag U<|Ab<|Bv (⟨H.get at0,H.get at1⟩)<|Bu<|Bf<|Cz (v1:=(.slice _ _ _)) (v2:=(.int _ _)) U U U U ?_;subst hS0
 exact Dz (P:=[_]) (m':=⟨bl,ba,bd,br,b,a,c,full',o,arch⟩) (s':={ s with acs:=DF s.acs k.a k.x }) I H8 F hstep O' I.M hokS U U U U
theorem Aaq{m:Lm}{k:Ak}(hk:k.kd=3)(hin:AkIn k)(w:World)(I:LdIn w m s T)(H0:Ctx w (CR m s) w<|LL m s) :
  Ret prog 44 #[ptr m.bl,.agg (BN k).toArray] w (FG w m s T k):=by
 obtain⟨w0,rfl⟩:=qD w;obtain⟨bl,ba,bd,br,b,a,c,full,o,arch⟩:=m;obtain⟨S0,hS0⟩:=qD<|CR ⟨bl,ba,bd,br,b,a,c,full,o,arch⟩ s;have H:Ctx w0 S0 w0 ((bl,Bl 93 [ptr ba,ptr bd,ptr br,.int .i64 s.day])::(br,Bl 159 arch)::(ba,Bl 153 [.slice a s.acs.length c])::(bd,Bl 156 (DU b s.nx))::(b,o)::ent a 162 full):=by rw[hS0];exact H0
 have hn16:=(BM.1 I.ok.ac).1;obtain⟨hok,hlen,-⟩:=KT I.ok.ac k.a k.x;have hoth:Dn s k={ s with acs:=D8 s.acs k.a k.x }:=by unfold Dn;rw[if_neg<|by omega,if_neg<|by omega,if_pos hk]
 have hokS:({ s with acs:=D8 s.acs k.a k.x }:Ld).Ok:=by rw[<-hoth];exact IA I.ok k hin.u.2
 have hstep:C9 s k { s with acs:=D8 s.acs k.a k.x }<|rp (IL (D8 s.acs k.a k.x) k.a)<|DG s.acs k.a k.x:=by
  unfold C9;rw[if_neg<|by omega];exact⟨hoth.symm,by unfold Dq;rw[if_neg<|by omega,if_neg<|by omega,if_pos hk]⟩
 have hcode:(if DG s.acs k.a k.x=0/\inA (D8 s.acs k.a k.x) k.a=false then 10 else DG s.acs k.a k.x)=DG s.acs k.a k.x:=by
  rw[if_neg];rintro⟨h1,h2⟩
  rcases Kc s.acs k.a k.x with⟨h3,-⟩|⟨-,h4,-⟩
  .exact h3 h1
  .have h5:inA (D8 s.acs k.a k.x) k.a=inA s.acs k.a:=by unfold inA;rw[hlen]
   rw[h5,h4]at h2;cases h2
 refine iG func44 U ?_;refine Af<|Be (BN k) (.agg _) U U H ?_;rintro b3 w - H;refine qG 4 ?_;refine BG [([0,1,2,3,4,5,6,7,8,9,10],11),([],12),([13,14,15],16)] (fun z=>z.heap[b3]?=some (Bl 46 (BN k))/\z.heap[bl]?=some (Bl 93 [ptr ba,ptr bd,ptr br,.int .i64 s.day])) [] AW (⟨H.drew.get at0,H.drew.get at1⟩)<|A0 U U<|Bm U<|Ah qf U<|AU qf U (fun _ hx=>(by rw[Ai hx.1];rfl))<|Bm U<|A7 U<|Ah qf U<|AU qf U (fun _ hx=>(by rw[Ai hx.2];rfl))<|Ah qf U<|AU qf U (fun _ hx=>(by rw[Ai hx.1];rfl))<|Ah qf U<|AU qf U (fun _ hx=>(by rw[Ai hx.1];rfl))<|A6 ?_;replace H:=H.drew;refine Aj qB (Aak _ (H.get at3) I.O (fun y hy=>H.blk y<|qap [_,_,_,_,_,_] hy) I.ok.ac) U ?_;rintro v w ⟨rfl,full',O',hb',he'⟩
 replace H:Ctx w0 S0 w ((b3,Bl 46 (BN k))::(bl,Bl 93 [ptr ba,ptr bd,ptr br,.int .i64 s.day])::(br,Bl 159 arch)::(ba,Bl 153 [.slice a (D8 s.acs k.a k.x).length c])::(bd,Bl 156 (DU b s.nx))::(b,o)::ent a 162 full'):=(by rw[hlen];exact Ctx.acs7 (P:=[_,_,_,_,_,_]) H he' hb');replace O':OS a (D8 s.acs k.a k.x).length c 2 full' ((D8 s.acs k.a k.x).flatMap Cg):=(by rw[hlen];exact O');refine Ab<|Bv (⟨H.get at0,H.get at1⟩)<|A0 U U ?_;refine A6<|Aj qB (Mv k.a _ _ (H.get at1) (H.get at3)<|OS.rd (t:=162) O' (fun y hy=>H.blk y<|qap [_,_,_,_,_,_] hy) (fun _ _=>rfl)<|by decide) U ?_;rintro v w ⟨a',c',rfl,F⟩;rw[hcode];have H8:=H;replace H:=H.call F.ext;refine Ab<|Bv (⟨H.get at0,H.get at1⟩)<|A0 U U ?_;refine AZ U U<|AZ U U<|DA U<|A6<|Ag U<|Ab<|Bv (⟨H.get at0,H.get at1⟩)<|Bu<|Bf<|Cz (v1:=(.slice _ _ _)) (v2:=(.int _ _)) U U U U ?_;subst hS0
 exact Dz (P:=[_]) (m':=⟨bl,ba,bd,br,b,a,c,full',o,arch⟩) (s':={ s with acs:=D8 s.acs k.a k.x }) I H8 F hstep O' I.M hokS U U U U
theorem Adz{m:Lm}{k:Ak}(hk:k.kd=4)(hin:AkIn k)(w:World)(I:LdIn w m s T)(H0:Ctx w (CR m s) w<|LL m s) :
  Ret prog 45 #[ptr m.bl,.agg (BN k).toArray] w (FG w m s T k):=by
 obtain⟨w0,rfl⟩:=qD w;obtain⟨bl,ba,bd,br,b,a,c,full,o,arch⟩:=m;obtain⟨S0,hS0⟩:=qD<|CR ⟨bl,ba,bd,br,b,a,c,full,o,arch⟩ s;have H:Ctx w0 S0 w0 ((bl,Bl 93 [ptr ba,ptr bd,ptr br,.int .i64 s.day])::(br,Bl 159 arch)::(ba,Bl 153 [.slice a s.acs.length c])::(bd,Bl 156 (DU b s.nx))::(b,o)::ent a 162 full):=by rw[hS0];exact H0
 have hn16:=(BM.1 I.ok.ac).1;obtain⟨hok,hlen,-⟩:=Nt I.ok.ac k.a k.x;have hoth:Dn s k={ s with acs:=Fg s.acs k.a k.x }:=by unfold Dn;(iterate 3 rw[if_neg<|by omega]);rw[if_pos hk]
 have hokS:({ s with acs:=Fg s.acs k.a k.x }:Ld).Ok:=by rw[<-hoth];exact IA I.ok k hin.u.2
 have hstep:C9 s k { s with acs:=Fg s.acs k.a k.x }<|rp (IL (Fg s.acs k.a k.x) k.a)<|GW s.acs k.a k.x:=by
  unfold C9;rw[if_neg<|by omega];exact⟨hoth.symm,by unfold Dq;(iterate 3 rw[if_neg<|by omega]);rw[if_pos hk]⟩
 have hcode:(if GW s.acs k.a k.x=0/\inA (Fg s.acs k.a k.x) k.a=false then 10 else GW s.acs k.a k.x)=GW s.acs k.a k.x:=by
  rw[if_neg];rintro⟨h1,h2⟩
  rcases Pe s.acs k.a k.x with⟨h3,-⟩|⟨-,h4,-⟩
  .exact h3 h1
  .have h5:inA (Fg s.acs k.a k.x) k.a=inA s.acs k.a:=by unfold inA;rw[hlen]
   rw[h5,h4]at h2;cases h2
 refine Ao (fn:=Tryz.f45) func45 U [.pointer<|some ⟨bl,0,none⟩,.agg (BN k).toArray] U ?_;refine Af<|Be (BN k) (.agg _) U U H ?_;rintro b3 w - H;refine qG 4 ?_;refine BG [([0,1,2,3,4,5,6,7,8,9,10],11),([],12),([13,14,15],16)] (fun z=>z.heap[b3]?=some (Bl 46 (BN k))/\z.heap[bl]?=some (Bl 93 [ptr ba,ptr bd,ptr br,.int .i64 s.day])) [] AW (⟨H.drew.get at0,H.drew.get at1⟩)<|A0 U U<|Bm U<|Ah qf U<|AU qf U (fun _ hx=>(by rw[Ai hx.1];rfl))<|Bm U<|A7 U<|Ah qf U<|AU qf U (fun _ hx=>(by rw[Ai hx.2];rfl))<|Ah qf U<|AU qf U (fun _ hx=>(by rw[Ai hx.1];rfl))<|Ah qf U<|AU qf U (fun _ hx=>(by rw[Ai hx.1];rfl))<|A6 ?_;replace H:=H.drew;refine Aj qB (Adw _ (H.get at3) I.O (fun y hy=>H.blk y<|qap [_,_,_,_,_,_] hy) I.ok.ac) U ?_;rintro v w ⟨rfl,full',O',hb',he'⟩
 replace H:Ctx w0 S0 w ((b3,Bl 46 (BN k))::(bl,Bl 93 [ptr ba,ptr bd,ptr br,.int .i64 s.day])::(br,Bl 159 arch)::(ba,Bl 153 [.slice a (Fg s.acs k.a k.x).length c])::(bd,Bl 156 (DU b s.nx))::(b,o)::ent a 162 full'):=(by rw[hlen];exact Ctx.acs7 (P:=[_,_,_,_,_,_]) H he' hb');replace O':OS a (Fg s.acs k.a k.x).length c 2 full' ((Fg s.acs k.a k.x).flatMap Cg):=(by rw[hlen];exact O');refine Ab<|Bv (⟨H.get at0,H.get at1⟩)<|A0 U U ?_;refine A6<|Aj qB (Mv k.a _ _ (H.get at1) (H.get at3)<|OS.rd (t:=162) O' (fun y hy=>H.blk y<|qap [_,_,_,_,_,_] hy) (fun _ _=>rfl)<|by decide) U ?_;rintro v w ⟨a',c',rfl,F⟩;rw[hcode];have H8:=H;replace H:=H.call F.ext;refine Ab<|Bv (⟨H.get at0,H.get at1⟩)<|A0 U U ?_;refine AZ U U<|AZ U U<|DA U<|A6<|Ag U<|Ab<|Bv (⟨H.get at0,H.get at1⟩)<|Bu<|Bf<|Cz (v1:=(.slice _ _ _)) (v2:=(.int _ _)) U U U U ?_;subst hS0
 exact Dz (P:=[_]) (m':=⟨bl,ba,bd,br,b,a,c,full',o,arch⟩) (s':={ s with acs:=Fg s.acs k.a k.x }) I H8 F hstep O' I.M hokS U U U U
open Go.GV Go.Proofs.Tryz Go.ChangeShapes Go.WideShapes
section
variable {H:Type}{enc:TypeId × Value->H}{w:World}{base:Nat}{spare:Nat->Bool}{held:Bool}
theorem Aar:∃fs,Tryz.prog.underlying 46=some (.struct fs)/\(List.range 7).map (fun i=>fs[i]?.map fun f=>(f.type,f.offset))=[some (5,0),some (3,1),some (3,2),some (2,3),some (2,4),some (2,5),some (24,6)]:=⟨_,underlying46,by kernel_rfl⟩
theorem Vs:Tryz.prog.cellsOf 46=7:=by kernel_rfl
theorem Ajh:∀n cs y,DataW.trod enc prog w base spare held n 46 cs=some y->∃k:Ak,cs=BN k/\AkIn k:=by
 intro n cs y h;obtain⟨fs,ht,hf⟩:=Aar;have hl:=Gz ht h;rw[Vs]at hl;simp only[List.range,List.range.loop,qas,qbv,qci,and_true]at hf;obtain⟨f0,f1,f2,f3,f4,f5,f6⟩:=hf;obtain⟨a,ha,a1,a2⟩:=CX ht h 0 0 f0 underlying5;obtain⟨b,hb,hb'⟩:=CX ht h 1 1 f1 underlying3;obtain⟨c,hc,hc'⟩:=CX ht h 2 2 f2 underlying3;obtain⟨d,hd,hd'⟩:=CX ht h 3 3 f3 underlying2;obtain⟨e,he,he'⟩:=CX ht h 4 4 f4 underlying2;obtain⟨f,hf,hf'⟩:=CX ht h 5 5 f5 underlying2;obtain⟨g,hg,g1,g2⟩:=CX ht h 6 6 f6 underlying24;refine⟨⟨a,b,c,d,e,f,g⟩,?_,⟨⟨a1,a2⟩,hb',hc',hd',he',hf',g1,g2⟩⟩
 match cs,hl with
 | [_,_,_,_,_,_,_],_ =>
  simp at ha hb hc hd he hf hg;simp[ha,hb,hc,hd,he,hf,hg]
set_option maxRecDepth 100000 in
theorem Ad0{d:DataW H}(hv:Value.okWide prog w .any b 29 v)(h:DataW.Trod enc prog w base spare held 29 v d ps):∃a c l,v=.slice a l.length c/\Rd w a 7 BN l/\∀x∈l,AkIn x:=by
 obtain⟨a,c,l,h1,h2,-,-,h3⟩:=Ab9 underlying29 Vs Ajh (okWide_slice underlying29 hv) h;exact⟨a,c,l,h1,h2,h3⟩
end
theorem PlD.hold{k:Int}{b:Bool}:∀{ds:List Du} {i:Nat} {d:Du},(ds.map Du.id).Nodup->PlD ds k i d->(ds.map fun x=>if x.id=k then{ x with held:=b }else x)=ds.set i { d with held:=b }
 | [],_,_,_,h=>by have:=h.at';cases this
 |y::ds,0,d,hn,h=>by
  have h1:=h.at'
  injection h1 with h1
  subst h1;rw[qas,qc3]at hn;rw[qas,if_pos h.id,List.set_cons_zero];refine qaa (_::·)<|(qbk fun x hx=>?_).trans<|List.map_id ds
  have:¬x.id=k:=fun hxk=>hn.1 (by rw[h.id,<-hxk];exact qa6 hx)
  rw[if_neg this];rfl
 |y::ds,i+1,d,hn,h=>by
  have h1:=h.fst 0 y (Nat.succ_pos _) rfl;rw[qas,qc3]at hn;rw[qas,if_neg h1,List.set_cons_succ,PlD.hold hn.2 ⟨h.at',h.id,fun j e hj he=>h.fst (j+1) e (qej hj) he⟩]
theorem PlD.cut{k:Int}:∀{ds:List Du} {i:Nat} {d:Du},(ds.map Du.id).Nodup->PlD ds k i d->IK ds k=ds.eraseIdx i
 | [],_,_,_,h=>by have:=h.at';cases this
 |y::ds,0,d,hn,h=>by
  have h1:=h.at'
  injection h1 with h1
  subst h1;rw[qas,qc3]at hn;unfold IK;rw[qbo,if_neg<|by simpa using h.id,List.eraseIdx_cons_zero];refine qd6.2 fun x hx=>?_
  have:¬x.id=k:=fun hxk=>hn.1 (by rw[h.id,<-hxk];exact qa6 hx)
  simpa using this
 |y::ds,i+1,d,hn,h=>by
  have h1:=h.fst 0 y (Nat.succ_pos _) rfl;rw[qas,qc3]at hn;have ih:=PlD.cut hn.2 ⟨h.at',h.id,fun j e hj he=>h.fst (j+1) e (qej hj) he⟩;unfold IK at ih |-;rw[qbo,if_pos<|by simpa using h1,List.eraseIdx_cons_succ,ih]
theorem WQ{k:Int}(h:Cn ds k=none):IK ds k=ds:=qd6.2 fun x hx=>by
 have h1:=qek.1 h x hx
 simpa using h1
section
variable {bd c:Nat}{a:Option Addr}{full:List Value}{ds:List Du}{nx k:Int}{S:List Nat}{w0 w:World}{R:List (Nat × Obj)}
theorem L8(H0:Ctx w0 S w ((bd,RDU a ds.length c nx)::(ent a 111 full++R)))(O:OS a ds.length c 7 full (ds.flatMap BK))(_:ds.length<=1000000:=by omega):Rd w a 7 BK ds :=
 OS.rd O (fun y hy=>H0.blk y<|qae _<|qax _ hy) (fun _ _=>rfl) (by omega)
theorem Ug(h:(v=.int .i64 (-1)/\Cn ds k=none)\/∃(i:Nat) (d:Du),v=.int .i64 (i:Int)/\PlD ds k i d):∃pi:Int,v=.int .i64 pi/\((pi = -1/\Cn ds k=none)\/∃(i:Nat) (d:Du),pi=(i:Int)/\PlD ds k i d) :=
 h.elim (fun h=>⟨-1,h.1,.inl ⟨rfl,h.2⟩⟩) (fun⟨i,d,h1,h2⟩=>⟨i,h1,.inr ⟨i,d,rfl,h2⟩⟩)
theorem N1(b:Bool)(H0:Ctx w0 S w ((bd,RDU a ds.length c nx)::(ent a 111 full++R)))(O:OS a ds.length c 7 full (ds.flatMap BK))(hof:ofC ds nx=0) :
  Ret prog 172 #[ptr bd,.int .u64 k,.bool b] w fun v w'=>v=.int .i64 (F3 ds k b)/\∃full',OS a ds.length c 7 full' ((EX ds k b).flatMap BK)/\Ctx w0 S w' ((bd,RDU a ds.length c nx)::(ent a 111 full'++R)):=by
 have H:=H0;have hd:=H.get at0;have hn:=(CB hof).1;have Rr:=L8 H O;have hno:∀{z:Int},F3 ds k b=z->z≠0->EX ds k b=ds:=fun h1 h2=>by unfold EX;rw[h1,if_neg h2]
 refine iG func172 U ?_;refine qG 7 ?_;refine Aj qB (KE a ds.length c ds nx k _ hd Rr U<|by omega) U ?_;rintro v w ⟨rfl,hpl⟩;obtain⟨pi,rfl,hpi⟩:=Ug hpl;refine qGp 9 ?_ ?_
 .intro h1;refine qG 7 ?_
  rcases hpi with⟨-,hf⟩|⟨i,d,rfl,-⟩
  .have hC:F3 ds k b=11:=by unfold F3;rw[hf]
   rw[hno hC<|by decide,hC];exact⟨rfl,full,O,H⟩
  .omega
 .intro h1;obtain⟨i,d,hpe,P⟩:∃(i:Nat) (d:Du),pi=(i:Int)/\PlD ds k i d:=hpi.elim (fun h=>by omega) id;subst hpe;have hil:=BH P.at';have hC0:F3 ds k b=if d.held=b then 14 else 0:=by unfold F3;rw[P.find]
  refine qG 9 ?_;refine A2 Rr qf qf U U (by rfl)<|Ae qf U<|A9 qf U ((Rr.fld P.at' U (j:=6) U))<|Bj U<|Ab0 qf U U U<|qA<|A3 _ U ?_ ?_
  .intro h2;refine qG 7 ?_;have hC:F3 ds k b=14:=by rw[hC0,if_pos<|by simpa using h2]
   rw[hno hC<|by decide,hC];exact⟨rfl,full,O,H⟩
  .intro h2;have hC:F3 ds k b=0:=by rw[hC0,if_neg<|by simpa using h2]
   obtain⟨q,rfl⟩:=O.form (by omega);replace H:Ctx w0 S w ((bd,RDU (some ⟨q,0,none⟩) ds.length c nx)::(q,Bl 111 full)::R):=H;have hOl:=O.len;have hOle:=O.le;have O1:=OS.setf O (y:={ d with held:=b }) (j:=6) (v := .bool b) (fun _=>rfl) P.at' (by decide) rfl;refine qG 9 ?_;refine A2 Rr qf qf U U (by rfl)<|Ae qf U<|Ch (.bool _) qf U U U H at1 (by show 0+((i:Int)).toNat*7+6<full.length;omega) ?_;rintro w H;refine qG 8 ?_;have hD:EX ds k b=ds.set i { d with held:=b }:=by unfold EX;rw[if_pos hC];exact P.hold<|J6 hof
   rw[hD,hC];refine⟨rfl,_,O1,?_⟩;rw[show i*7+6=0+((i:Int)).toNat*7+6 by omega];exact H
theorem Uh(H0:Ctx w0 S w ((bd,RDU a ds.length c nx)::(ent a 111 full++R)))(O:OS a ds.length c 7 full (ds.flatMap BK))(hof:ofC ds nx=0) :
  Ret prog 124 #[ptr bd,.int .u64 k] w fun v w'=>v=.int .i64 (F3 ds k true)/\∃full',OS a ds.length c 7 full' ((EX ds k true).flatMap BK)/\Ctx w0 S w' ((bd,RDU a ds.length c nx)::(ent a 111 full'++R)):=by
 refine iG func124 U ?_;refine qG 7 ?_;refine Aj qB (N1 true H0 O hof) U ?_;rintro v w ⟨rfl,h⟩;refine qG 5 ?_;exact⟨rfl,h⟩
theorem NL(H0:Ctx w0 S w ((bd,RDU a ds.length c nx)::(ent a 111 full++R)))(O:OS a ds.length c 7 full (ds.flatMap BK))(hof:ofC ds nx=0) :
  Ret prog 125 #[ptr bd,.int .u64 k] w fun v w'=>v=.int .i64 (F3 ds k false)/\∃full',OS a ds.length c 7 full' ((EX ds k false).flatMap BK)/\Ctx w0 S w' ((bd,RDU a ds.length c nx)::(ent a 111 full'++R)):=by
 refine iG func125 U ?_;refine qG 7 ?_;refine Aj qB (N1 false H0 O hof) U ?_;rintro v w ⟨rfl,h⟩;refine qG 5 ?_;exact⟨rfl,h⟩
theorem Qs(H0:Ctx w0 S w ((bd,RDU a ds.length c nx)::(ent a 111 full++R)))(O:OS a ds.length c 7 full (ds.flatMap BK))(hof:ofC ds nx=0) :
  Ret prog 126 #[ptr bd,.int .u64 k] w fun v w'=>v=.int .i64 (I8 ds k)/\∃a' c' full' R',OS a' (IK ds k).length c' 7 full' ((IK ds k).flatMap BK)/\Ctx w0 S w' ((bd,RDU a' (IK ds k).length c' nx)::(ent a' 111 full'++(R'++R))):=by
 have H:=H0;have hd:=H.get at0;have hn:=(CB hof).1;have Rr:=L8 H O;refine iG func126 U ?_;refine qG 7 ?_;refine Aj qB (KE a ds.length c ds nx k _ hd Rr U<|by omega) U ?_;rintro v w ⟨rfl,hpl⟩;obtain⟨pi,rfl,hpi⟩:=Ug hpl;refine qGp 9 ?_ ?_
 .intro h1;refine qG 7 ?_
  rcases hpi with⟨-,hf⟩|⟨i,d,rfl,-⟩
  .have hC:I8 ds k=11:=by unfold I8;rw[hf]
   rw[WQ hf,hC];exact⟨rfl,a,c,full,[],O,H⟩
  .omega
 .intro h1;obtain⟨i,d,hpe,P⟩:∃(i:Nat) (d:Du),pi=(i:Int)/\PlD ds k i d:=hpi.elim (fun h=>by omega) id;subst hpe;have hil:=BH P.at';have hC:I8 ds k=0:=by unfold I8;rw[P.find]
  have hne:∀y∈ent a 111 full,y.1≠bd:=fun y hy h=>(qbf.1 H.nd).1 y (qax _ hy) h.symm;refine qG 5 ?_;refine Aj qB (OV a ds.length c i ds nx _ hd (fun z hz=>OS.rd O (fun y hy=>hz.to (H.blk y<|qae _<|qax _ hy) (by rw[qab];exact hne y hy)) (fun _ _=>rfl)<|by omega) U O.le hil) U ?_;rintro v w ⟨rfl,a3,c3,f3,O3,H3⟩;have H9:=Ctx.back (L1:=[_]) H H3;refine qG 8 ?_;rw[P.cut<|J6 hof,hC];exact⟨rfl,a3,c3,f3,ent a 111 full,O3,H9⟩
end
theorem WR(w:World):Ret prog 34 #[] w fun v w'=>∃b,v=ptr b/\Ctx w [] w' [(b,RDU none 0 0 1)]:=by
 obtain⟨w0,rfl,H⟩:=qE w;refine iG func34 U<|Af<|Bx U<|qA<|Af<|Bd [.slice none 0 0,.int .u64 1] qf qf ?_;refine Be [.slice none 0 0,.int .u64 1] (.agg _) U U H ?_;rintro b w - H;refine qG 5 ?_;exact⟨b,rfl,H⟩
def KU(ds:List Du)(u:Int)(i:Nat):List Du:=(ds.take i).filter fun d=>decide (u<=d.un)
theorem Aas(hd:ds[i]?=some d):(u<=d.un->KU ds u (i+1)=KU ds u i++[d])/\(¬u<=d.un->KU ds u (i+1)=KU ds u i):=by
 unfold KU;rw[qbr,hd,Option.toList_some,qcj];exact⟨fun h=>by rw[qbo,if_pos<|by simpa using h];rfl,fun h=>by rw[qbo,if_neg<|by simpa using h];simp⟩
theorem Pk(A B C:List α):((A++B)++C).Perm ((C++B)++A) :=
 qb5.trans (by rw[qaz];exact qc6 C qb5)
structure ExR where
 i:Nat
 a5:Option Addr
 c5:Nat
 f5:List Value
 a6:Option Addr
 c6:Nat
 f6:List Value
section
variable {bd c:Nat}{a:Option Addr}{full:List Value}{ds:List Du}{nx k u:Int}{S:List Nat}{w0 w:World}{R:List (Nat × Obj)}
theorem Pm(hd:w.heap[bd]?=some (RDU a ds.length c nx))(R:Rd w a 7 BK ds)(hn:ds.length<=1000000:=by omega):
  Ret prog 129 #[ptr bd,.int .u64 k] w fun v w'=>v=.tuple #[Fj<|GS ds k,.bool (Cn ds k).isSome]/\Ext [] w w':=by
 obtain⟨w0,rfl,H⟩:=qE w;refine iG func129 U ?_;refine Af<|AN qf H ?_;rintro b4 w - H;refine qG 6 ?_;refine Aj qB (KE a ds.length c ds nx k _ (H.ext.to hd<|by simp) (R.ext0 H.ext) U hn) U ?_;rintro v w ⟨rfl,hpl⟩;obtain⟨pi,rfl,hpi⟩:=Ug hpl;refine qGp 9 ?_ ?_
 .intro h1;refine Af<|Bd (BK d00) qf qf ?_;refine AM qf U U U (by exact Cx _) H at0 U ?_;rintro w H;refine qG 5 ?_;refine DV U U U qf qf H at0 U (show _=(.bool _)from rfl) ?_
  rcases hpi with⟨-,hf⟩|⟨i,d,rfl,-⟩
  .unfold GS;rw[hf];exact⟨rfl,H.ext⟩
  .omega
 .intro h1;obtain⟨i,d,hpe,P⟩:∃(i:Nat) (d:Du),pi=(i:Int)/\PlD ds k i d:=hpi.elim (fun h=>by omega) id;subst hpe;have hil:=BH P.at';refine qG 6 ?_;refine A9 qf U ((H.old0 (by rw[Ai hd];rfl)))<|Ad U<|A2 R qf qf U U (by rfl)<|BC _ qf qf U U (((R.ext0 H.ext).row P.at' U))<|AM qf U U U (by exact Cx _) H at0 U ?_;rintro w H;refine qG 4 ?_;refine DV U U U qf qf H at0 U (show _=(.bool _)from rfl) ?_;unfold GS;rw[P.find];exact⟨rfl,H.ext⟩
theorem Qt(H0:Ctx w0 S w ((bd,RDU a ds.length c nx)::(ent a 111 full++R)))(O:OS a ds.length c 7 full (ds.flatMap BK))(hof:ofC ds nx=0) :
  Ret prog 127 #[ptr bd,.int .i64 u] w fun v w'=>(∃a5 c5,v=.slice a5 (ds.length - (Gh ds u).length) c5)/\∃a' c' full' R',OS a' (Gh ds u).length c' 7 full' ((Gh ds u).flatMap BK)/\Ctx w0 S w' ((bd,RDU a' (Gh ds u).length c' nx)::(ent a' 111 full'++(R'++R))):=by
 have H:=H0;have hn:=(CB hof).1;obtain⟨B,hB⟩:=qD ((bd,RDU a ds.length c nx)::(ent a 111 full++R));rw[<-hB]at H;have hb0:∀{z:World} {A C:List (Nat × Obj)},Ctx w0 S z ((A++B)++C)->z.heap[bd]?=some (RDU a ds.length c nx)/\Rd z a 7 BK ds:=fun h=>⟨h.blk _<|qax _<|qap _ (by rw[hB];exact qah ..),OS.rd O (fun y hy=>h.blk y<|qax _<|qap _ (by rw[hB];exact qae _<|qax _ hy)) (fun _ _=>rfl)<|by omega⟩;refine iG func127 U ?_;refine qG 18 ?_
 refine AY 281474976710624 (α:=ExR) (fun t=>[(5,.slice t.a5 (Fe ds u t.i).length t.c5),(6,.slice t.a6 (KU ds u t.i).length t.c6),(7,.int .i64 (t.i:Int))]) (fun t w'=>t.i<=ds.length/\OS t.a5 (Fe ds u t.i).length t.c5 1 t.f5 (Fe ds u t.i)/\OS t.a6 (KU ds u t.i).length t.c6 7 t.f6 ((KU ds u t.i).flatMap BK)/\Ctx w0 S w' ((ent t.a6 111 t.f6++B)++ent t.a5 24 t.f5)) (fun t=>ds.length - t.i) ⟨0,none,0,[],none,0,[]⟩ U ?_ ?_ ?_
 .exact⟨rfl,rfl,rfl,trivial⟩
 .exact⟨qai _,OS.nil,OS.nil,by rw[show((ent none 111 []++B)++ent none 24 [])=B from qar _];exact H⟩
 .clear H;rintro⟨i,a5,c5,f5,a6,c6,f6⟩ j w ⟨hi,O5,O6,H⟩;dsimp only at hi O5 O6 H;dsimp only;obtain⟨hb,Rr⟩:=hb0 H;have hdl:(Fe ds u i).length<=ds.length:=by unfold Fe;rw[qaj];exact qa3 (qcy ..) (by rw[qa8];omega)
  have hkl:(KU ds u i).length<=ds.length:=by unfold KU;exact qa3 (qcy ..) (by rw[qa8];omega)
  refine qG 6 ?_;refine A9 qf U ((by rw[Ai hb];rfl)) ?_;refine qGp 4 ?_ ?_
  .intro h1;obtain⟨d,hdi⟩:=Au (l:=ds) (i:=i);obtain⟨hs1,hs2⟩:=Sy (u:=u) hof hdi;obtain⟨hk1,hk2⟩:=Aas (u:=u) hdi;refine qG 8 ?_;refine A9 qf U ((by rw[Ai hb];rfl))<|Ad U<|A2 Rr qf qf U U (by rfl)<|Ae qf U<|A9 qf U ((Rr.fld hdi U (j:=5) U)) ?_;refine qGp 4 ?_ ?_
   .intro h2;obtain⟨-,hs4⟩:=hs2 (by omega);have hk4:=hk2 (by omega);have hl4:(Fe ds u<|i+1).length=(Fe ds u i).length+1:=by rw[hs4,qat,qb6]
    refine qG 5 ?_;refine A9 qf U ((by rw[Ai hb];rfl))<|Ad U<|A2 Rr qf qf U U (by rfl)<|Ae qf U<|A9 qf U ((Rr.fld hdi U (j:=0) U)) ?_;refine qG 1 ?_;rintro b36 w - H;refine BL (L:=ent a6 111 f6++B) (new:=[.int .u64 d.id]) qf qf qf qf qf U U U H O5 U (by simp[AF]) ?_;rintro a' c' full' w H O5;refine AP U<|Ab<|Av<|Aa<|Aw<|Ad U<|Ap U U ?_;refine Ag U<|qA ?_;exact⟨⟨i+1,a',c',full',a6,c6,f6⟩,rfl,⟨by dsimp only;rw[hl4];rfl,by dsimp only;rw[hk4];rfl,rfl,trivial⟩,⟨by dsimp only;omega,by dsimp only;rw[hl4,hs4];exact O5,by dsimp only;rw[hk4];exact O6,H⟩,by dsimp only;omega⟩
   .intro h2;obtain⟨-,hs4⟩:=hs1 (by omega);have hk4:=hk1 (by omega);have hl4:(KU ds u<|i+1).length=(KU ds u i).length+1:=by rw[hk4,qat,qb6]
    refine qG 5 ?_;refine A9 qf U ((by rw[Ai hb];rfl))<|Ad U<|A2 Rr qf qf U U (by rfl)<|BC _ qf qf U U ((Rr.row hdi U)) ?_;refine qG 1 ?_;rintro b46 w - H;refine BL (L:=ent a5 24 f5++B) (new:=BK d) qf qf qf qf qf U U U (H.perm<|(Pk _ _ _).cons _) O6 U (Cx _) ?_;rintro a' c' full' w H O6;refine AP U<|Ab<|Av<|Aa<|Aw<|Ad U<|Ap U U ?_;refine Ag U<|qA ?_;exact⟨⟨i+1,a5,c5,f5,a',c',full'⟩,rfl,⟨by dsimp only;rw[hs4];rfl,by dsimp only;rw[hl4];rfl,rfl,trivial⟩,⟨by dsimp only;omega,by dsimp only;rw[hs4];exact O5,by dsimp only;rw[hl4,hk4,qbn,qem];exact O6,H.perm<|Pk _ _ _⟩,by dsimp only;omega⟩
  .intro h1;obtain rfl:i=ds.length:=by omega
   obtain⟨g1,-⟩:=Sz ds u;have g2:KU ds u ds.length=Gh ds u:=by unfold KU Gh;rw[qba]
   replace H:Ctx w0 S w ((bd,RDU a ds.length c nx)::((ent a6 111 f6++(ent a 111 full++R))++ent a5 24 f5)):=H.perm (by rw[hB];exact List.Perm.append_right _ qbl);refine Bi<|Am<|Am<|A8<|Aa<|Af<|AV U<|AH U<|AR U<|Ae qf U<|Ch (.slice _ _ _) qf U U U H at0 (by(simp;done)) ?_;rintro w H;refine qG 9 ?_;rw[g2]at O6 H;refine⟨⟨a5,c5,by rw[g1]⟩,a6,c6,f6,ent a 111 full++ent a5 24 f5,O6,H.perm<|List.Perm.cons _ ?_⟩;rw[qaz,qaz,qaz];exact qc6 _<|qc6 _ qb5
end
theorem Aat(F R A:List α):((F++R)++A).Perm<|(R++A)++F:=by rw[qaz];exact qb5
section
variable {bd c:Nat}{a:Option Addr}{full:List Value}{ds:List Du}{nx:Int}{S:List Nat}{w0 w:World}{R:List (Nat × Obj)}
theorem WS(fr to x we un:Int)(H0:Ctx w0 S w ((bd,RDU a ds.length c nx)::(ent a 111 full++R)))(O:OS a ds.length c 7 full (ds.flatMap BK))(hof:ofC ds nx=0) :
  Ret prog 123 #[ptr bd,.int .i64 fr,.int .i64 to,.int .i64 x,.int .i64 we,.int .i64 un] w fun v w'=>v=.tuple #[.int .u64<|if FQ ds nx fr to x we un=0 then nx else 0,.int .i64<|FQ ds nx fr to x we un] /\
   ∃a' c' full' R',OS a' (Gq ds nx fr to x we un).length c' 7 full' ((Gq ds nx fr to x we un).flatMap BK)/\Ctx w0 S w' ((bd,RDU a' (Gq ds nx fr to x we un).length c'<|I6 ds nx fr to x we un)::(ent a' 111 full'++(R++R'))):=by
 have H:=H0;have hn:=(CB hof).1;have hnx:=(CB hof).2.1;obtain⟨e,he⟩:=qD<|Ub nx fr to x we un;obtain⟨C,hC⟩:=qD<|FQ ds nx fr to x we un;have hcc:C=if CZ e=false then 1 else if 64<=ds.length\/4611686018427387904<=nx then 6 else if(Dp<|ds.map Du.am++[x]).2≠0 then 13 else 0:=by rw[hC,he];rfl
 have hno:C≠0->Gq ds nx fr to x we un=ds/\I6 ds nx fr to x we un=nx:=fun h=>add_none (by rw[<-hC];exact h);rw[<-hC]
 have hend:∀{w':World} {R':List (Nat × Obj)},C≠0->Ctx w0 S w' ((bd,RDU a ds.length c nx)::(ent a 111 full++(R++R')))->∃a' c' full' R',OS a' (Gq ds nx fr to x we un).length c' 7 full' ((Gq ds nx fr to x we un).flatMap BK)/\Ctx w0 S w' ((bd,RDU a' (Gq ds nx fr to x we un).length c'<|I6 ds nx fr to x we un)::(ent a' 111 full'++(R++R'))):=fun h h2=>by
  rw[(hno h).1,(hno h).2];exact⟨a,c,full,_,O,h2⟩
 have hrn:∀{w':World},Ctx w0 S w' ((bd,RDU a ds.length c nx)::(ent a 111 full++R))->Ctx w0 S w' ((bd,RDU a ds.length c nx)::(ent a 111 full++(R++[]))):=fun h=>by rw[qar];exact h
 refine iG func123 U ?_;refine qG 15 ?_;refine Bd (BK<|Ub nx fr to x we un) qf qf ?_;rw[<-he];refine AN qf H ?_;rintro b14 w - H;refine AM qf U U U (by exact Cx _) H at0 U ?_;rintro w H;refine qG 5 ?_;refine Aj qB (Ly e _) U ?_;rintro v w ⟨rfl,hx9⟩;replace H:=H.call hx9;refine qGp 3 ?_ ?_
 .intro h1;refine qG 8 ?_;have h:C=1:=by rw[hcc,if_pos<|by simpa using h1]
  exact⟨by rw[h];rfl,hend (by omega)<|hrn H.tail⟩
 .intro h1;replace h1:CZ e=true:=by simpa using h1
  have hx:=(CD h1).2.2.2.1;rw[show e.am=x by rw[he];rfl]at hx;refine qG 4 ?_;refine Bo (α:=Unit) 8795019280384 (fun _=>[(42,.bool<|decide (64<=ds.length\/4611686018427387904<=nx))]) (fun _ w'=>Ctx w0 S w' ((b14,Bl 111 (BK e))::(bd,RDU a ds.length c nx)::(ent a 111 full++R))) U ?_ ?_
  .refine qG 7 ?_;refine iC 36 U ?_ ?_
   .intro h1;refine qG 7 ?_;exact⟨rfl,(),rfl,⟨qaa Value.bool (by rw[qac];simp_all;try omega),trivial⟩,H⟩
   .intro h2;refine qG 7 ?_;exact⟨rfl,(),rfl,⟨qaa Value.bool (by rw[qac];simp_all;try omega),trivial⟩,H⟩
  rintro - j42 w H;refine A3 _ U ?_ ?_
  .intro h2;replace h2:=qbe h2;refine qG 8 ?_;have h:C=6:=by rw[hcc,if_neg (by rw[h1];decide),if_pos h2]
   exact⟨by rw[h];rfl,hend (by omega)<|hrn H.tail⟩
  .intro h2;replace h2:=qbq h2;obtain⟨tt,htt⟩:=qD<|Dp<|ds.map Du.am++[x];have hcc2:C=if tt.2≠0 then 13 else 0:=by rw[hcc,if_neg (by rw[h1];decide),if_neg h2,htt]
   have ht2:tt.2=0\/tt.2=13:=by
    rw[htt];unfold Dp
    have h3:(ds.map Du.am++[x]).all C0=true:=by
     rw[List.all_append,qag];exact⟨qaw.2 (CU.1 (DZ.1 hof).2.2.2).1,by rw[List.all_cons,List.all_nil,qcx];exact Cq.2 ⟨by omega,hx.2⟩⟩
    rw[if_neg (by rw[h3];decide)]
    split
    .exact .inl U
    .exact .inr U
   have Rr:=L8 (R:=R) H.tail O;refine qG 7 ?_;refine Aj qB (RV _ ds.length c ds _ Rr U) U ?_;rintro v w F4;obtain⟨a4,n4,c4,f4,rfl,O4,hb4⟩:=F4.ex;replace H:=H.callEnt F4.ext hb4 DX;have hl4:=O4.llen;rw[qaj,qaj]at hl4;obtain rfl:n4=ds.length:=by omega
   refine qG 2 ?_;rintro b50 w - H;refine BL (L:=(b14,Bl 111 (BK e))::(bd,RDU a ds.length c nx)::(ent a 111 full++R)) (new:=[.int .i64 x]) qf qf qf qf qf U U U H O4 U (by simp[AF]) ?_;rintro a5 c5 f5 w H O5;have R5:Rd w a5 1 I1 (ds.map Du.am++[x]):=OS.rd1 (by rw[qau];exact O5) fun y hy=>H.blk y<|qap _ hy;refine Aj qB (HZ a5 _ c5 (ds.map Du.am++[x]) _ R5 (by rw[qat,qaj];rfl)) U ?_;rintro v w ⟨rfl,rfl⟩;rw[<-htt];replace H:Ctx w0 S w<|((b14,Bl 111 (BK e))::(bd,RDU a ds.length c nx)::(R++ent a5 2 f5))++ent a 111 full:=H.perm<|((Aat _ _ _).cons _).cons _;refine qGp 13 ?_ ?_
   .intro h3;refine qG 9 ?_;have h:C=13:=by rw[hcc2,if_pos h3]
    exact⟨by rw[h,ht2.resolve_left h3];rfl,hend (by omega)<|H.tail.perm<|List.Perm.cons _ qb5⟩
   .intro h3;have h:C=0:=by rw[hcc2,if_neg fun hh=>hh h3]
    have hD:Gq ds nx fr to x we un=ds++[e]:=by unfold Gq;rw[<-hC,if_pos h,he]
    have hN:I6 ds nx fr to x we un=nx+1:=by unfold I6;rw[<-hC,if_pos h]
    refine A1<|Aa<|BG [([0,1,2,3,4,5],6),([],7),([],8),([9],10)] (fun z=>z.heap[b14]?=some (Bl 111 (BK e))/\z.heap[bd]?=some (RDU a ds.length c nx)) [10] AW (⟨H.drew.get at0,H.drew.get at1⟩) ?_;refine A0 U U<|Bm U<|Bm U<|A7 U<|Ah qf U<|AU qf U (fun _ hx=>(by rw[Ai hx.2];rfl)) ?_;refine EZ _ qf qf U U (fun _ hx=>(BQ hx.1 0 (BK e) rfl))<|A6 ?_;replace H:=H.drew;refine qG 1 ?_;rintro b64 w - H;refine Ab<|Bv (⟨H.get at1,H.get at2⟩)<|A0 U U ?_;refine A6<|BL (L:=(b14,Bl 111 (BK e))::(bd,RDU a ds.length c nx)::(R++ent a5 2 f5)) (new:=BK e) qf qf qf qf qf U U U H O U (Cx _) ?_;rintro a' c' full' w H O1;refine Ab<|Bv (⟨H.get at0,H.get at1⟩)<|A0 U U ?_;refine A6<|AR U<|Ab<|Bv (⟨H.get at0,H.get at1⟩)<|A0 U U ?_;refine Ah qf U<|A6<|Ch (.slice _ _ _) qf U U U H at1 (by(simp;done)) ?_;rintro w H
    refine Ab<|Bw U<|Bu<|Af<|AV U<|AR U<|Ae qf U<|Bh qf U H at1 U<|Et U U ?_;refine AR U<|Ae qf U<|Ch (.int _ _) qf U U U H at1 (by(simp;done)) ?_;rintro w H;refine qG 11 ?_;rw[hD,hN,h];refine⟨by rw[if_pos rfl,he];rfl,a',c',full',ent a5 2 f5,?_,?_⟩
    .rw[qbn,qat];exact O1
    .rw[qat];exact H.tail.perm<|List.Perm.cons _ qb5
end
theorem GY(w:World):Fresh w w 2 1 (.slice none 0 0) (([]:List Int).map Cu):=Fresh.nil (Ctx.start w []) _ _
theorem KV(k:Int)(w:World)(hl:w.heap[bl]?=some (Bl 93 [ptr ba,v1,v2,v3]))(hd:AcB ba a acs.length c w)(R:Rd w a 2 Cg acs)(hn:acs.length<=1000000) :
  Ret prog 38 #[ptr bl,.int .i64 k] w fun v w'=>v=.bool (inA acs k)/\Ext [] w w':=by
 obtain⟨w0,rfl,H⟩:=qE w;refine iG func38 U ?_;refine qG 8 ?_;refine A9 qf U ((H.old (Ai hl _)<|by simp))<|Ad U<|Aj qB (Ms a _ c acs k _ (H.ext.to hd<|by simp) (R.ext0 H.ext) U hn) U ?_;rintro v w ⟨rfl,hx16⟩;replace H:=H.call hx16;refine qG 4 ?_;rintro b5 w - H;refine qG 1 ?_;rintro w H;refine qG 10 ?_;exact⟨rfl,H.ext⟩
theorem Aau{m:Lm}{k:Ak}(hk:k.kd=6)(hin:AkIn k)(w:World)(I:LdIn w m s T)(H0:Ctx w (CR m s) w<|LL m s) :
  Ret prog 47 #[ptr m.bl,.agg (BN k).toArray] w (FG w m s T k):=by
 obtain⟨w0,rfl⟩:=qD w;obtain⟨bl,ba,bd,br,b,a,c,full,o,arch⟩:=m;obtain⟨S0,hS0⟩:=qD<|CR ⟨bl,ba,bd,br,b,a,c,full,o,arch⟩ s;have H:Ctx w0 S0 w0 ((bl,Bl 93 [ptr ba,ptr bd,ptr br,.int .i64 s.day])::(br,Bl 159 arch)::(ba,Bl 153 [.slice a s.acs.length c])::(bd,Bl 156 (DU b s.nx))::(b,o)::ent a 162 full):=by rw[hS0];exact H0
 have hn16:=(BM.1 I.ok.ac).1;have hbdb:bd≠b:=H.ne (i:=3) (j:=4) rfl rfl (by decide);have hoth:Dn s k={ s with ds:=EX s.ds k.id true }:=by unfold Dn;(iterate 5 rw[if_neg<|by omega]);rw[if_pos hk]
 have hokS:({ s with ds:=EX s.ds k.id true }:Ld).Ok:=by rw[<-hoth];exact IA I.ok k hin.u.2
 have hstep:C9 s k { s with ds:=EX s.ds k.id true }<|rp []<|F3 s.ds k.id true:=by
  unfold C9;rw[if_neg<|by omega];exact⟨hoth.symm,by unfold Dq;(iterate 5 rw[if_neg<|by omega]);rw[if_pos hk]⟩
 refine iG func47 U ?_;refine Af<|Be (BN k) (.agg _) U U H ?_;rintro b3 w - H;refine AP U<|Ag U<|qA<|BG [([0,1,2,3,4,5],6),([7],8)] (fun z=>z.heap[b3]?=some (Bl 46 (BN k))/\z.heap[bl]?=some (Bl 93 [ptr ba,ptr bd,ptr br,.int .i64 s.day])) [6,8] AW (⟨H.drew.get at0,H.drew.get at1⟩) ?_;refine A0 U U<|Bm U<|A7 U<|Ah qf U<|AU qf U (fun _ hx=>(by rw[Ai hx.2];rfl)) ?_;refine Ah qf U<|AU qf U (fun _ hx=>(by rw[Ai hx.1];rfl)) ?_;refine A6 ?_;replace H:=H.drew;refine Aj qB (Adx _ (H.get at4) (H.get at5) I.M hbdb I.ok.du) U ?_;rintro v w ⟨rfl,o',hM',H7⟩;replace H:=Ctx.mid (B:=[_,_,_,_,_]) (L:=[_]) H H7;refine Ab<|Bw U<|A0 U U ?_;refine DA U<|A6<|Ag U<|Ab<|Bw U<|Bu<|Bf<|Cz (v1:=(.slice _ _ _)) (v2:=(.int _ _)) U U U U ?_;subst hS0
 exact Dz (P:=[_]) (m':=⟨bl,ba,bd,br,b,a,c,full,o',arch⟩) (s':={ s with ds:=EX s.ds k.id true }) I H (GY _) hstep I.O hM' hokS U U U U
theorem S5{m:Lm}{k:Ak}(hk:k.kd=7)(hin:AkIn k)(w:World)(I:LdIn w m s T)(H0:Ctx w (CR m s) w<|LL m s) :
  Ret prog 48 #[ptr m.bl,.agg (BN k).toArray] w (FG w m s T k):=by
 obtain⟨w0,rfl⟩:=qD w;obtain⟨bl,ba,bd,br,b,a,c,full,o,arch⟩:=m;obtain⟨S0,hS0⟩:=qD<|CR ⟨bl,ba,bd,br,b,a,c,full,o,arch⟩ s;have H:Ctx w0 S0 w0 ((bl,Bl 93 [ptr ba,ptr bd,ptr br,.int .i64 s.day])::(br,Bl 159 arch)::(ba,Bl 153 [.slice a s.acs.length c])::(bd,Bl 156 (DU b s.nx))::(b,o)::ent a 162 full):=by rw[hS0];exact H0
 have hn16:=(BM.1 I.ok.ac).1;have hbdb:bd≠b:=H.ne (i:=3) (j:=4) rfl rfl (by decide);have hoth:Dn s k={ s with ds:=EX s.ds k.id false }:=by unfold Dn;(iterate 6 rw[if_neg<|by omega]);rw[if_pos hk]
 have hokS:({ s with ds:=EX s.ds k.id false }:Ld).Ok:=by rw[<-hoth];exact IA I.ok k hin.u.2
 have hstep:C9 s k { s with ds:=EX s.ds k.id false }<|rp []<|F3 s.ds k.id false:=by
  unfold C9;rw[if_neg<|by omega];exact⟨hoth.symm,by unfold Dq;(iterate 6 rw[if_neg<|by omega]);rw[if_pos hk]⟩
 refine iG func48 U ?_;refine Af<|Be (BN k) (.agg _) U U H ?_;rintro b3 w - H;refine AP U<|Ag U<|qA<|BG [([0,1,2,3,4,5],6),([7],8)] (fun z=>z.heap[b3]?=some (Bl 46 (BN k))/\z.heap[bl]?=some (Bl 93 [ptr ba,ptr bd,ptr br,.int .i64 s.day])) [6,8] AW (⟨H.drew.get at0,H.drew.get at1⟩) ?_;refine A0 U U<|Bm U<|A7 U<|Ah qf U<|AU qf U (fun _ hx=>(by rw[Ai hx.2];rfl)) ?_;refine Ah qf U<|AU qf U (fun _ hx=>(by rw[Ai hx.1];rfl)) ?_;refine A6 ?_;replace H:=H.drew;refine Aj qB (Ue _ (H.get at4) (H.get at5) I.M hbdb I.ok.du) U ?_;rintro v w ⟨rfl,o',hM',H7⟩;replace H:=Ctx.mid (B:=[_,_,_,_,_]) (L:=[_]) H H7;refine Ab<|Bw U<|A0 U U ?_;refine DA U<|A6<|Ag U<|Ab<|Bw U<|Bu<|Bf<|Cz (v1:=(.slice _ _ _)) (v2:=(.int _ _)) U U U U ?_;subst hS0
 exact Dz (P:=[_]) (m':=⟨bl,ba,bd,br,b,a,c,full,o',arch⟩) (s':={ s with ds:=EX s.ds k.id false }) I H (GY _) hstep I.O hM' hokS U U U U
theorem Ui{m:Lm}{k:Ak}(hk:k.kd=8)(hin:AkIn k)(w:World)(I:LdIn w m s T)(H0:Ctx w (CR m s) w<|LL m s) :
  Ret prog 49 #[ptr m.bl,.agg (BN k).toArray] w (FG w m s T k):=by
 obtain⟨w0,rfl⟩:=qD w;obtain⟨bl,ba,bd,br,b,a,c,full,o,arch⟩:=m;obtain⟨S0,hS0⟩:=qD<|CR ⟨bl,ba,bd,br,b,a,c,full,o,arch⟩ s;have H:Ctx w0 S0 w0 ((bl,Bl 93 [ptr ba,ptr bd,ptr br,.int .i64 s.day])::(br,Bl 159 arch)::(ba,Bl 153 [.slice a s.acs.length c])::(bd,Bl 156 (DU b s.nx))::(b,o)::ent a 162 full):=by rw[hS0];exact H0
 have hn16:=(BM.1 I.ok.ac).1;have hbdb:bd≠b:=H.ne (i:=3) (j:=4) rfl rfl (by decide);have hoth:Dn s k={ s with ds:=IK s.ds k.id }:=by unfold Dn;(iterate 7 rw[if_neg<|by omega]);rw[if_pos hk]
 have hokS:({ s with ds:=IK s.ds k.id }:Ld).Ok:=by rw[<-hoth];exact IA I.ok k hin.u.2
 have hstep:C9 s k { s with ds:=IK s.ds k.id }<|rp []<|I8 s.ds k.id:=by
  unfold C9;rw[if_neg<|by omega];exact⟨hoth.symm,by unfold Dq;(iterate 7 rw[if_neg<|by omega]);rw[if_pos hk]⟩
 refine iG func49 U ?_;refine Af<|Be (BN k) (.agg _) U U H ?_;rintro b3 w - H;refine AP U<|Ag U<|qA<|BG [([0,1,2,3,4,5],6),([7],8)] (fun z=>z.heap[b3]?=some (Bl 46 (BN k))/\z.heap[bl]?=some (Bl 93 [ptr ba,ptr bd,ptr br,.int .i64 s.day])) [6,8] AW (⟨H.drew.get at0,H.drew.get at1⟩) ?_;refine A0 U U<|Bm U<|A7 U<|Ah qf U<|AU qf U (fun _ hx=>(by rw[Ai hx.2];rfl)) ?_;refine Ah qf U<|AU qf U (fun _ hx=>(by rw[Ai hx.1];rfl)) ?_;refine A6 ?_;replace H:=H.drew;refine Aj qB (WM _ (H.get at4) (H.get at5) I.M hbdb I.ok.du) U ?_;rintro v w ⟨rfl,o',hM',H7⟩;replace H:=Ctx.mid (B:=[_,_,_,_,_]) (L:=[_]) H H7;refine Ab<|Bw U<|A0 U U ?_;refine DA U<|A6<|Ag U<|Ab<|Bw U<|Bu<|Bf<|Cz (v1:=(.slice _ _ _)) (v2:=(.int _ _)) U U U U ?_;subst hS0
 exact Dz (P:=[_]) (m':=⟨bl,ba,bd,br,b,a,c,full,o',arch⟩) (s':={ s with ds:=IK s.ds k.id }) I H (GY _) hstep I.O hM' hokS U U U U
theorem Aav{m:Lm}{k:Ak}(hk:k.kd=12)(_:AkIn k)(w:World)(I:LdIn w m s T)(H0:Ctx w (CR m s) w<|LL m s) :
  Ret prog 52 #[ptr m.bl,.agg (BN k).toArray] w (FG w m s T k):=by
 obtain⟨w0,rfl⟩:=qD w;obtain⟨bl,ba,bd,br,b,a,c,full,o,arch⟩:=m;obtain⟨S0,hS0⟩:=qD<|CR ⟨bl,ba,bd,br,b,a,c,full,o,arch⟩ s;have H:Ctx w0 S0 w0 ((bl,Bl 93 [ptr ba,ptr bd,ptr br,.int .i64 s.day])::(br,Bl 159 arch)::(ba,Bl 153 [.slice a s.acs.length c])::(bd,Bl 156 (DU b s.nx))::(b,o)::ent a 162 full):=by rw[hS0];exact H0
 have hn16:=(BM.1 I.ok.ac).1;have hbdb:bd≠b:=H.ne (i:=3) (j:=4) rfl rfl (by decide)
 have hstep:C9 s k s<|rp (IL s.acs k.a)<|if(0:Int)=0/\inA s.acs k.a=false then 10 else 0:=by
  unfold C9;rw[if_neg<|by omega];have hR:Dq s k=if inA s.acs k.a=true then⟨0,IL s.acs k.a⟩else⟨10,[]⟩:=by unfold Dq;(iterate 9 rw[if_neg<|by omega]);rw[if_pos hk]
  refine⟨by unfold Dn;iterate 9 rw[if_neg<|by omega],?_⟩;rw[hR]
  cases inA s.acs k.a with
  |true=>rfl
  |false=>rfl
 refine iG func52 U ?_;refine Af<|Be (BN k) (.agg _) U U H ?_;rintro b3 w - H;refine qG 8 ?_;refine Aj qB (Mv k.a _ _ (H.get at1) (H.get at3)<|OS.rd (t:=162) I.O (fun y hy=>H.blk y<|qap [_,_,_,_,_,_] hy) (fun _ _=>rfl)<|by decide) U ?_;rintro v w ⟨a',c',rfl,F⟩;have H8:=H;replace H:=H.call F.ext;refine qG 8 ?_;subst hS0;exact Dz (P:=[_]) (m':=⟨bl,ba,bd,br,b,a,c,full,o,arch⟩) (s':=s) I H8 F hstep I.O I.M I.ok U U U U
def OpnR(w0:World)(S0:List Nat)(w:World)(s:Ld)(arch:List Value)(b3:Nat)(e3:List Value)(bl ba bd br b c:Nat)(a:Option Addr)(full:List Value)(o:Obj)(i' code:Int):Prop :=
 (16<=s.acs.length/\code=6/\Ctx w0 S0 w ((b3,Bl 46 e3)::(bl,Bl 93 [ptr ba,ptr bd,ptr br,.int .i64 s.day])::(br,Bl 159 arch)::LX ba a s.acs.length c full bd b s.nx o)) \/
 (s.acs.length<16/\i'=(s.acs.length:Int)/\code=0/\∃a' c' full',OS a' (s.acs++[a00]).length c' 2 full' ((s.acs++[a00]).flatMap Cg)/\Ctx w0 S0 w ((b3,Bl 46 e3)::(bl,Bl 93 [ptr ba,ptr bd,ptr br,.int .i64 s.day])::(br,Bl 159 arch)::LX ba a' (s.acs++[a00]).length c' full' bd b s.nx o))
theorem Aaw(H:Ctx w0 S0 w ((b3,Bl 46 e3)::(bl,Bl 93 [ptr ba,ptr bd,ptr br,.int .i64 s.day])::(br,Bl 159 arch)::LX ba a s.acs.length c full bd b s.nx o))(h:(16<=s.acs.length->v=.tuple #[.int .i64 0,.int .i64 6]/\Ctx w ((AL ba (bd,Bl 156 (DU b s.nx)) (b,o) a s.acs.length c full).map fun x=>x.1) w' (AL ba (bd,Bl 156 (DU b s.nx)) (b,o) a s.acs.length c full)) /\
   (s.acs.length<16->v=.tuple #[.int .i64 (s.acs.length:Int),.int .i64 0]/\∃a' c' full',OS a' (s.acs++[a00]).length c' 2 full' ((s.acs++[a00]).flatMap Cg)/\Ctx w ((AL ba (bd,Bl 156 (DU b s.nx)) (b,o) a s.acs.length c full).map fun x=>x.1) w' (AL ba (bd,Bl 156 (DU b s.nx)) (b,o) a' (s.acs++[a00]).length c' full'))) :
  ∃i' code,v=.tuple #[.int .i64 i',.int .i64 code]/\OpnR w0 S0 w' s arch b3 e3 bl ba bd br b c a full o i' code:=by
 have hb:∀{L':List (Nat × Obj)},Ctx w ((AL ba (bd,Bl 156 (DU b s.nx)) (b,o) a s.acs.length c full).map fun x=>x.1) w' L'->Ctx w0 S0 w' ([(b3,Bl 46 e3),(bl,Bl 93 [ptr ba,ptr bd,ptr br,.int .i64 s.day]),(br,Bl 159 arch)]++L'):=fun{L'} h1=>(Ctx.back (L1:=AL ba (bd,Bl 156 (DU b s.nx)) (b,o) a s.acs.length c full) (L2:=[_,_,_]) (H.comm (L:=[_,_,_])) h1).comm
 rcases qao s.acs.length 16 with h16|h16
 .obtain⟨rfl,a',c',full',O',H1⟩:=h.2 h16;exact⟨_,_,rfl,.inr ⟨h16,rfl,rfl,a',c',full',O',hb H1⟩⟩
 .obtain⟨rfl,H1⟩:=h.1 h16;exact⟨_,_,rfl,.inl ⟨h16,rfl,hb H1⟩⟩
theorem Aax{m:Lm}{k:Ak}(hk:k.kd=1)(hin:AkIn k)(w:World)(I:LdIn w m s T)(H0:Ctx w (CR m s) w<|LL m s) :
  Ret prog 42 #[ptr m.bl,.agg (BN k).toArray] w (FG w m s T k):=by
 obtain⟨w0,rfl⟩:=qD w;obtain⟨bl,ba,bd,br,b,a,c,full,o,arch⟩:=m;obtain⟨S0,hS0⟩:=qD<|CR ⟨bl,ba,bd,br,b,a,c,full,o,arch⟩ s;have H:Ctx w0 S0 w0 ((bl,Bl 93 [ptr ba,ptr bd,ptr br,.int .i64 s.day])::(br,Bl 159 arch)::(ba,Bl 153 [.slice a s.acs.length c])::(bd,Bl 156 (DU b s.nx))::(b,o)::ent a 162 full):=by rw[hS0];exact H0
 have hn16:=(BM.1 I.ok.ac).1;have hbdb:bd≠b:=H.ne (i:=3) (j:=4) rfl rfl (by decide)
 have hstep:∀l,(s.acs.length<16->l=[(s.acs.length:Int)])->C9 s k (Dn s k) (rp l<|if s.acs.length<16 then 0 else 6):=fun l hl=>by
  unfold C9;rw[if_neg<|by omega];refine⟨rfl,?_⟩;unfold Dq;rw[if_pos hk]
  by_cases h:s.acs.length<16
  .rw[if_pos h,hl h]
  .rw[if_neg h,JL<|by decide,JL<|by decide]
 have hokS:=IA I.ok k hin.u.2;have hoth:Dn s k=if s.acs.length<16 then{ s with acs:=s.acs++[a00] }else s:=by unfold Dn;rw[if_pos hk]
 refine iG func42 U ?_;refine Af<|Be (BN k) (.agg _) U U H ?_;rintro b3 w - H;refine qG 9 ?_;have HL:=Ctx.lend (L1:=AL ba (bd,Bl 156 (DU b s.nx)) (b,o) a s.acs.length c full) (L2:=[(b3,Bl 46 (BN k)),(bl,Bl 93 [ptr ba,ptr bd,ptr br,.int .i64 s.day]),(br,Bl 159 arch)])<|H.comm (L:=[_,_,_]);refine Aj qB (WJ HL I.O) U ?_;rintro v w hres;obtain⟨i',code,rfl,hr⟩:∃i' code,v=.tuple #[.int .i64 i',.int .i64 code]/\OpnR w0 S0 w s arch b3 (BN k) bl ba bd br b c a full o i' code:=Aaw H hres;refine qG 9 ?_;have H:=Ctx.start w [];refine C5 [.int .i64 i'] (.int .i64 i') qf qf qf U U U U H ?_;rintro b17 w2 - H17;refine qG 7 ?_;subst hS0
 rcases hr with⟨h16,rfl,H1⟩|⟨h16,rfl,rfl,a',c',full',O',H1⟩
 .rw[hoth,if_neg<|by omega]at hokS hstep;rw[if_neg<|by omega]at hstep;exact Dz (P:=[_]) (m':=⟨bl,ba,bd,br,b,a,c,full,o,arch⟩) (s':=s) (l:=[i']) I H1 (FR (n:=1) (l:=[Cu i']) H17 U) (hstep [i'] fun h=>by omega) I.O I.M I.ok U U U U
 .rw[hoth,if_pos h16]at hokS hstep;rw[if_pos h16]at hstep;exact Dz (P:=[_]) (m':=⟨bl,ba,bd,br,b,a',c',full',o,arch⟩) (s':={ s with acs:=s.acs++[a00] }) (l:=[(s.acs.length:Int)]) I H1 (FR (n:=1) (l:=[Cu (s.acs.length:Int)]) H17 U) (hstep [_] fun _=>rfl) O' I.M hokS U U U U
theorem Ad1{m:Lm}{k:Ak}(hk:k.kd=5)(hin:AkIn k)(w:World)(I:LdIn w m s T)(H0:Ctx w (CR m s) w<|LL m s) :
  Ret prog 46 #[ptr m.bl,.agg (BN k).toArray] w (FG w m s T k):=by
 obtain⟨w0,rfl⟩:=qD w;obtain⟨bl,ba,bd,br,b,a,c,full,o,arch⟩:=m;obtain⟨S0,hS0⟩:=qD<|CR ⟨bl,ba,bd,br,b,a,c,full,o,arch⟩ s;have H:Ctx w0 S0 w0 ((bl,Bl 93 [ptr ba,ptr bd,ptr br,.int .i64 s.day])::(br,Bl 159 arch)::(ba,Bl 153 [.slice a s.acs.length c])::(bd,Bl 156 (DU b s.nx))::(b,o)::ent a 162 full):=by rw[hS0];exact H0
 have hn16:=(BM.1 I.ok.ac).1;have hbdb:bd≠b:=H.ne (i:=3) (j:=4) rfl rfl (by decide);have hS:Dn s k=if(inA s.acs k.a && inA s.acs k.b)=true/\s.day<=k.u then{ s with ds:=Gq s.ds s.nx k.a k.b k.x k.w k.u,nx:=I6 s.ds s.nx k.a k.b k.x k.w k.u }else s:=by unfold Dn;(iterate 4 rw[if_neg<|by omega]);rw[if_pos hk]
 have hR:Dq s k=if(inA s.acs k.a && inA s.acs k.b)=false then⟨10,[]⟩else if k.u<s.day then⟨1,[]⟩else rp [IntKind.i64.wrap s.nx] (FQ s.ds s.nx k.a k.b k.x k.w k.u):=by unfold Dq;(iterate 4 rw[if_neg<|by omega]);rw[if_pos hk]
 have hstep:∀s' p,Dn s k=s'->Dq s k=p->C9 s k s' p:=fun s' p h1 h2=>by
  unfold C9;rw[if_neg<|by omega];exact⟨h1.symm,h2.symm⟩
 have hokS:=IA I.ok k hin.u.2;obtain⟨-,hnx,-,-⟩:=CB I.ok.du;have hw:IntKind.i64.wrap s.nx=s.nx:=CC (show(-9223372036854775808:Int)<=s.nx by omega) (show s.nx<=(9223372036854775807:Int)by omega);refine iG func46 U ?_;refine Af<|Be (BN k) (.agg _) U U H ?_;rintro b3 w - H;refine qG 7 ?_;refine Bo (α:=Unit) 2096896 (fun _=>[(8,.bool<|!(inA s.acs k.a && inA s.acs k.b))]) (fun _ w'=>Ctx w0 S0 w'<|[(b3,Bl 46 (BN k)),(bl,Bl 93 [ptr ba,ptr bd,ptr br,.int .i64 s.day]),(br,Bl 159 arch),(ba,Bl 153 [.slice a s.acs.length c]),(bd,Bl 156 (DU b s.nx)),(b,o)]++ent a 162 full) U ?_ ?_
 .refine qG 3 ?_;refine Aj qB (KV k.a _ (H.get at1) (H.get at3) (OS.rd (t:=162) I.O (fun y hy=>H.blk y<|qap [_,_,_,_,_,_] hy) (fun _ _=>rfl)<|by decide)<|by omega) U ?_;rintro v w ⟨rfl,hxb⟩;replace H:=H.call hxb;refine qG 2 ?_;refine iC 14 U ?_ ?_
  .intro h1;refine qG 8 ?_;exact⟨rfl,(),rfl,⟨qaa Value.bool (by cases h1:inA s.acs k.a <;> cases h2:inA s.acs k.b <;> simp_all),trivial⟩,H⟩
  .intro h2;refine qG 3 ?_;refine Aj qB (KV k.b _ (H.get at1) (H.get at3) (OS.rd (t:=162) I.O (fun y hy=>H.blk y<|qap [_,_,_,_,_,_] hy) (fun _ _=>rfl)<|by decide)<|by omega) U ?_;rintro v w ⟨rfl,hxb⟩;replace H:=H.call hxb;refine qG 4 ?_;exact⟨rfl,(),rfl,⟨qaa Value.bool (by cases h1:inA s.acs k.a <;> cases h2:inA s.acs k.b <;> simp_all),trivial⟩,H⟩
 rintro - j8 w H;refine iB U ?_ ?_
 .intro h1;replace h1:(inA s.acs k.a && inA s.acs k.b)=false:=by revert h1;cases(inA s.acs k.a && inA s.acs k.b) <;> simp
  refine qG 9 ?_;subst hS0;exact Dz (P:=[_]) (m':=⟨bl,ba,bd,br,b,a,c,full,o,arch⟩) (s':=s) (l:=[]) (code:=10) I H (GY _) (hstep _ _ (by rw[hS,if_neg (by rw[h1];simp)]) (by rw[hR,if_pos h1];rfl)) I.O I.M I.ok U U U U
 .intro h1;replace h1:(inA s.acs k.a && inA s.acs k.b)=true:=by revert h1;cases(inA s.acs k.a && inA s.acs k.b) <;> simp
  refine CG (fun x=>x=_) AW U<|Aq qf U<|B7 qf U (by rintro _ rfl;exact H.drew) at0 U ?_;refine BE U<|Bc U<|Aq qf U<|B7 qf U (by rintro _ rfl;exact H.drew) at1 U ?_;refine JC U U<|Ll U U<|Cc ?_;rintro _ rfl;replace H:=H.drew;refine iB U ?_ ?_
  .intro h2;refine qG 9 ?_;subst hS0;exact Dz (P:=[_]) (m':=⟨bl,ba,bd,br,b,a,c,full,o,arch⟩) (s':=s) (l:=[]) (code:=1) I H (GY _) (hstep _ _ (by rw[hS,if_neg fun h=>by omega]) (by rw[hR,if_neg (by rw[h1];decide),if_pos h2];rfl)) I.O I.M I.ok U U U U
  .intro h2;rw[hS,if_pos ⟨h1,by omega⟩]at hokS;obtain⟨y,hy,hy0⟩:∃y,(if FQ s.ds s.nx k.a k.b k.x k.w k.u=0 then s.nx else 0)=y/\0<=y/\y<=4611686018427387904:=⟨_,rfl,by split <;> omega,by split <;> omega⟩
   have hst:C9 s k { s with ds:=Gq s.ds s.nx k.a k.b k.x k.w k.u,nx:=I6 s.ds s.nx k.a k.b k.x k.w k.u }<|rp [y]<|FQ s.ds s.nx k.a k.b k.x k.w k.u:=hstep _ _ (by rw[hS,if_pos ⟨h1,by omega⟩]) (by
    rw[hR,if_neg (by rw[h1];decide),if_neg h2,hw]
    by_cases h0:FQ s.ds s.nx k.a k.b k.x k.w k.u=0
    .rw[if_pos h0]at hy;rw[hy]
    .rw[JL h0,JL h0])
   refine A1<|Av<|Aa<|BG [([0,1,2,3,4,5,6,7,8,9,10,11,12,13],14),([15,16,17,18],19)] (fun z=>z.heap[b3]?=some (Bl 46 (BN k))/\z.heap[bl]?=some (Bl 93 [ptr ba,ptr bd,ptr br,.int .i64 s.day])) [14,19] AW (⟨H.drew.get at0,H.drew.get at1⟩) ?_;refine A0 U U<|Bm U<|A7 U<|Ah qf U<|AU qf U (fun _ hx=>(by rw[Ai hx.2];rfl)) ?_;refine Ah qf U<|AU qf U (fun _ hx=>(by rw[Ai hx.1];rfl)) ?_;refine Ah qf U<|AU qf U (fun _ hx=>(by rw[Ai hx.1];rfl)) ?_;refine Ah qf U<|AU qf U (fun _ hx=>(by rw[Ai hx.1];rfl)) ?_;refine Ah qf U<|AU qf U (fun _ hx=>(by rw[Ai hx.1];rfl)) ?_;refine Ah qf U<|AU qf U (fun _ hx=>(by rw[Ai hx.1];rfl)) ?_;refine A6 ?_;replace H:=H.drew;refine Aj qB (Aao k.a k.b k.x k.w k.u _ (H.get at4) (H.get at5) I.M hbdb I.ok.du) U ?_;rintro v w ⟨rfl,o',hM',H7⟩;rw[hy]
   replace H:=Ctx.mid (B:=[_,_,_,_]) (L:=[_,_]) H H7;refine Ab<|Bw U<|A0 U U ?_;refine CK U<|AZ U U<|AZ U U<|FM U<|A6<|Ag U<|Ab<|Bw U<|Bu<|Af<|Ad U ?_;refine Hd U U qf qf ?_;have H17:=Ctx.start w [];refine C5 [.int .i64 y] (.int .i64 y) qf qf qf U U U U H17 ?_;rintro b49 w2 - H17;refine qG 7 ?_;subst hS0;exact Dz (P:=[_]) (m':=⟨bl,ba,bd,br,b,a,c,full,o',arch⟩) (s':={ s with ds:=Gq s.ds s.nx k.a k.b k.x k.w k.u,nx:=I6 s.ds s.nx k.a k.b k.x k.w k.u }) (l:=[y]) I H (FR (n:=1) (l:=[Cu y]) H17 U) hst I.O hM' hokS U U U U
theorem Aay{m:Lm}{k:Ak}(hk:k.kd=9)(hin:AkIn k)(w:World)(I:LdIn w m s T)(H0:Ctx w (CR m s) w<|LL m s) :
  Ret prog 50 #[ptr m.bl,.agg (BN k).toArray] w (FG w m s T k):=by
 obtain⟨w0,rfl⟩:=qD w;obtain⟨bl,ba,bd,br,b,a,c,full,o,arch⟩:=m;obtain⟨S0,hS0⟩:=qD<|CR ⟨bl,ba,bd,br,b,a,c,full,o,arch⟩ s;have H:Ctx w0 S0 w0 ((bl,Bl 93 [ptr ba,ptr bd,ptr br,.int .i64 s.day])::(br,Bl 159 arch)::(ba,Bl 153 [.slice a s.acs.length c])::(bd,Bl 156 (DU b s.nx))::(b,o)::ent a 162 full):=by rw[hS0];exact H0
 have hn16:=(BM.1 I.ok.ac).1;have hbdb:bd≠b:=H.ne (i:=3) (j:=4) rfl rfl (by decide);have hS:Dn s k=if s.day<=k.u then{ s with day:=k.u,ds:=Gh s.ds k.u }else s:=by unfold Dn;(iterate 8 rw[if_neg<|by omega]);rw[if_pos hk]
 have hR:Dq s k=if k.u<s.day then⟨3,[]⟩else⟨0,[((s.ds.length - (Gh s.ds k.u).length:Nat):Int)]⟩:=by unfold Dq;(iterate 8 rw[if_neg<|by omega]);rw[if_pos hk]
 have hstep:∀s' p,Dn s k=s'->Dq s k=p->C9 s k s' p:=fun s' p h1 h2=>by
  unfold C9;rw[if_neg<|by omega];exact⟨h1.symm,h2.symm⟩
 have hokS:=IA I.ok k hin.u.2;refine iG func50 U ?_;refine Af<|Be (BN k) (.agg _) U U H ?_;rintro b3 w - H;refine qG 5 ?_;refine CG (fun x=>x=_) AW U<|Aq qf U<|B7 qf U (by rintro _ rfl;exact H.drew) at0 U<|BE U<|Bc U<|Aq qf U<|B7 qf U (by rintro _ rfl;exact H.drew) at1 U<|JC U U<|Cc ?_;rintro _ rfl;replace H:=H.drew;refine iB U ?_ ?_
 .intro h1;refine qG 8 ?_;subst hS0;exact Dz (P:=[_]) (m':=⟨bl,ba,bd,br,b,a,c,full,o,arch⟩) (s':=s) (l:=[]) (code:=3) I H (GY _) (hstep _ _ (by rw[hS,if_neg<|by omega]) (by rw[hR,if_pos h1];rfl)) I.O I.M I.ok U U U U
 .intro h1;rw[hS,if_pos<|by omega]at hokS;refine qG 9 ?_;rintro w H;refine qA<|De 6 AW U U ?_;refine BE U<|Bc U<|Aq qf U<|B7 qf U (by rintro _ rfl;exact H.drew) at1 U ?_;refine Aq qf U<|B7 qf U (by rintro _ rfl;exact H.drew) at0 U ?_;refine Cc ?_;replace H:=H.drew;refine Aj qB (WN (u:=k.u) _ (H.get at4) (H.get at5) I.M hbdb I.ok.du) U ?_;rintro v w ⟨o',hM',H7,a7,c7,rfl⟩;replace H:=Ctx.mid (B:=[_,_,_,_,_]) (L:=[_]) H H7;refine Cp qf U ?_;have H17:=Ctx.start w [];refine C5 [.int .i64 ((s.ds.length - (Gh s.ds k.u).length:Nat):Int)] (.int .i64 _) qf qf qf U U U U H17 ?_;rintro b26 w2 - H17;refine qG 6 ?_;subst hS0
  exact Dz (P:=[_]) (m':=⟨bl,ba,bd,br,b,a,c,full,o',arch⟩) (s':={ s with day:=k.u,ds:=Gh s.ds k.u }) (l:=[((s.ds.length - (Gh s.ds k.u).length:Nat):Int)]) (code:=0) I H (FR (n:=1) (l:=[Cu ((s.ds.length - (Gh s.ds k.u).length:Nat):Int)]) H17 U) (hstep _ _ (by rw[hS,if_pos<|by omega]) (by rw[hR,if_neg h1];rfl)) I.O hM' hokS U U U U
end Go.Proofs.YtfnfnmgilmejmaaGreat
