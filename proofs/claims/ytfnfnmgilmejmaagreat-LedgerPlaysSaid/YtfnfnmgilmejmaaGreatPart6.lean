/- Part 6 of the proof. -/
import Derived.Test.YtfnfnmgilmejmaaGreatPart5
set_option maxRecDepth 20000
set_option maxHeartbeats 8000000
namespace Go.Proofs.YtfnfnmgilmejmaaGreat
open Go.GV Go.Proofs.Tryz
variable{α β:Type}{e:Env}{fn:Func}{g:Gr}{B D kk m:Int}{s:Lb}{L L':List (Nat × Obj)}{A dn l1:List Ar}{ds:List Deferred}{es:List Ed}{fl pot:List Int}{S l src:List Nat}{hp hq:List Tg}{full:List Value}{xs:List α}{D1 D2 b3 b4 b5 bf bo bp bs ce cw i j n ob od u v:Nat}{by' c c' cap cap' d ov p p0 q:Nat->Int}{ae aw:Option Addr}{P:Program}{t1 t3:Tmp}{v1 v2 v3:Value}{R:Value->World->Prop}{w w0:World}{K:World->Prop}
structure MI(A:List Ar)(src:List Nat)(n:Nat)(m D:Int)(s:Lb)(hp:List Tg):Prop where
 dj:DJ A src n m s
 clo:Clo A s hp 0 A
 pi:PI n D s hp
theorem Clo.any(K:Clo A s hp u A)(v:Nat):Clo A s hp v A:=fun x hx=>(K x hx).imp id fun h a ha hax _=>h a ha hax fun _=>ha
theorem Clo.perm(K:Clo A s hp u dn)(h:hp.Perm hq):Clo A s hq u dn:=fun x hx=>(K x hx).imp (fun h'=>h.mem_iff.1 h') id
theorem MI.perm(M:MI A src n m D s hp)(h:hp.Perm hq):MI A src n m D s hq:=⟨M.dj,M.clo.perm h,M.pi.perm h⟩
theorem MI.start(hs:∀v∈src,v<n)(hnd:src.Nodup):MI A src n m (-1) (lb0 src)<|It src:=by
 refine⟨DJ.start hs,fun v hv=>?_,fun t ht=>?_,fun t ht=>?_,fun v hv=>?_⟩
 .have hm:v∈src:=by
   rcases Decidable.em (v∈src)with h|h
   .exact h
   .exact absurd (if_neg h) hv
  have:(lb0 src).d v=0:=if_pos hm
  rw[this];exact .inl<|qak.2 ⟨v,hm,rfl⟩
 .obtain⟨v,_,rfl⟩:=qak.1 ht;show(-1:Int)<=0;omega
 .obtain⟨v,hv,rfl⟩:=qak.1 ht
  have:(lb0 src).d v=0:=if_pos hv
  dsimp only;rw[this];omega
 .have hm:v∈src:=by
   rcases Decidable.em (v∈src)with h|h
   .exact h
   .exact absurd (if_neg h) hv
  have h1:(It src).Nodup:=List.Pairwise.map _ (fun a b h e=>h (Prod.mk.inj e).2) hnd;have h2:=List.nodup_iff_count.1 h1 ((lb0 src).d v,v);have h3:=hs v hm;show _+0<=n;omega
section
variable {A:List Ar}{src:List Nat}{n:Nat}{m D:Int}{s:Lb}{hp:List Tg}{t:Tg}
theorem MI.lt(hA:PS A n m)(M:MI A src n m D s hp)(hv:s.d v ≠ -1):v<n:=by
 by_cases h:s.h v=0
 .exact(M.dj.src' v<|M.dj.zero v hv h).1
 .obtain⟨a,ha,h1,_⟩:=M.dj.pre v hv h;rw[<-h1];exact(hA a ha).2.1
theorem MI.top(hA:PS A n m)(M:MI A src n m D s (t::hp)):t.2<n:=M.lt hA (M.pi.item t<|qah ..).1
theorem MI.drop(hA:PS A n m)(M:MI A src n m D s (t::hp))(hmin:∀x∈hp,t.1<=x.1)(hne:t.1≠s.d t.2):MI A src n m t.1 s hp/\psi n A t.1 s hp+1<=psi n A D s (t::hp):=by
 obtain⟨P1,h1,-⟩:=M.pi.pop (A:=A) hmin<|M.top hA;refine⟨⟨M.dj,fun v hv=>(M.clo v hv).imp (fun h=>?_) id,P1⟩,h1⟩
 rcases qaf.1 h with h|h
 .exact absurd (by rw[<-h]) hne
 .exact h
theorem MI.key0(M:MI A src n m D s (t::hp))(he:t.1=s.d t.2):0<=t.1:=by
 have h1:=(M.pi.item t<|qah ..).1;have:=M.dj.low t.2;omega
theorem MI.go(hA:PS A n m)(hm:0<=m)(hn:n<=60)(M:MI A src n m D s (t::hp))(hmin:∀x∈hp,t.1<=x.1)(he:t.1=s.d t.2){l:List Ar}(hl:A.filter (fun a=>decide (a.1=t.2))=l++l1) :
  DJ A src n m (l.foldl Ir (s,hp)).1/\(l1=[]->MI A src n m t.1 (l.foldl Ir (s,hp)).1 (l.foldl Ir (s,hp)).2/\psi n A t.1 (l.foldl Ir (s,hp)).1 (l.foldl Ir (s,hp)).2+1<=psi n A D s (t::hp)):=by
 obtain⟨P1,-,h1⟩:=M.pi.pop (A:=A) hmin<|M.top hA
 have hla:∀a∈l,a∈A/\a.1=t.2:=fun a ha=>by
  have h2:a∈A.filter (fun a=>decide (a.1=t.2)):=by rw[hl];exact qax _ ha
  obtain⟨h3,h4⟩:=qbc.1 h2;exact⟨h3,qbe h4⟩
 have K0:Clo A s hp t.2 []:=fun v hv=>by
  by_cases e:v=t.2
  .exact .inr fun a _ hav hd=>by cases hd e
  .refine(M.clo v hv).imp (fun h=>?_) fun h a ha hav _=>h a ha hav fun _=>ha
   rcases qaf.1 h with h|h
   .exact absurd (by rw[<-h]) e
   .exact h
 obtain⟨r1,r2,r3,r4,r5⟩:=UP hA hm hn (M.key0 he) l [] s hp M.dj K0 hla he.symm P1;refine⟨r1,fun hl1=>?_⟩;rw[hl1,qar]at hl
 have KK:Clo A (l.foldl Ir (s,hp)).1 (l.foldl Ir (s,hp)).2 t.2 A:=fun v hv=>(r2 v hv).imp id fun h a ha hav hd=>h a ha hav fun e=>by
  rw[qcm,<-hl];exact qbc.2 ⟨ha,qam<|hav.trans e⟩
 refine⟨⟨r1,KK.any 0,r4⟩,?_⟩;have h2:=h1 he;have h3:HV A t.2=(l.length:Nat):=by unfold HV;rw[hl]
 omega
theorem MI.ends(M:MI A src n m D s []):Done A src n m s:=M.dj.ends M.clo
theorem MI.rlx(M:MI A src n m D s []):∀a∈A,s.d a.1 ≠ -1->Rlx s a:=fun a ha h=>(M.clo a.1 h).elim (fun h=>by cases h) fun h=>h a ha rfl fun _=>ha
end
theorem YH(g:Gr)(cap x p:Nat->Int):K8 g cap x p=(Ej cap x g.E).map (Iq g p):=rfl
theorem Rt(g:Gr)(cap x p:Nat->Int)(u:Nat):(K8 g cap x p).filter (fun a=>decide (a.1=u))=(Ht g (Ej cap x g.E) u).map (Iq g p):=by
 rw[YH,List.filter_map];rfl
theorem PX{N:Int}(h:Hg N es fl pot=true):Fine (grE N es) (Ck es) (flE fl)<|E7 pot:=by
 unfold Hg at h;simp only[qag]at h;obtain⟨hw,_,ha⟩:=h;obtain⟨h1,_,h2⟩:=Cj hw;refine⟨fun i hi=>?_,fun a ha' hr=>?_⟩
 .obtain⟨e,he⟩:=Au (l:=es) (i:=i) (h:=hi);obtain⟨x,hx⟩:=Au (l:=fl) (i:=i) (h:=by rw[h1];exact hi);have:=h2 i e x he hx;unfold flE Ck;rw[Bp he,Bp hx];exact this
 .have:=qaw.1 ha a<|qbc.2 ⟨qa5.2 ha',qam hr⟩;exact qbe this
theorem PY{N:Int}(hw:BO N es fl=true)(hp:EN N pot=true)(h:Fine (grE N es) (Ck es) (flE fl)<|E7 pot):Hg N es fl pot=true:=by
 unfold Hg;rw[hw,hp,qbs,qbs];refine qaw.2 fun a ha=>?_;obtain⟨h1,h2⟩:=qbc.1 ha;exact qam<|h.fit a (qa5.1 h1)<|qbe h2
theorem Ac0{N:Int}(hr:Cd N es=true)(hB:∀v,-B<=E7 pot v/\E7 pot v<=B)(a:Nat):(grE N es).len (E7 pot) a<=1000+2*B /\ -(1000+2*B)<=(grE N es).len (E7 pot) a:=by
 have h1 : -1000<=(grE N es).c a/\(grE N es).c a<=1000:=by
  have h2 : -1000<=(grE N es).co (a / 2)/\(grE N es).co (a / 2)<=1000:=by
   show -1000<=(es.getD (a / 2) e0).cost/\(es.getD (a / 2) e0).cost<=1000
   rcases qao (a / 2) es.length with h|h
   .obtain⟨e,he⟩:=Au (l:=es) (h:=h);have:=Dw<|(Cr hr).2.2.2.1 e<|qad he;rw[Bp he];omega
   .rw[qb1,qbg h];exact⟨by decide,by decide⟩
  unfold Gr.c
  split
  .exact h2
  .omega
 have h3:=hB<|(grE N es).u a;have h4:=hB<|(grE N es).v a;unfold Gr.len;omega
theorem Ac1{N:Int}(hp:EN N pot=true)(v:Nat) : -1099511627776<=E7 pot v/\E7 pot v<=1099511627776:=by
 unfold E7
 rcases qao v pot.length with h|h
 .obtain⟨x,hx⟩:=Au (l:=pot) (h:=h);rw[Bp hx];exact(Je hp).2 v x hx
 .rw[qb1,qbg h];exact⟨by decide,by decide⟩
theorem DJ.dist(J:DJ A src n m s)(hm:0<=m)(hn:n<=60)(v:Nat) : -1<=s.d v/\s.d v<=60*m/\s.h v<=60:=by
 by_cases h:s.d v = -1
 .have h1:=J.none' v h
  have:0<=60*m:=by omega
  omega
 .have h1:=J.hops h;have h2:=J.bnd v h;have h3:=J.low v;have h4:(s.h v:Int)*m<=60*m:=qeh (by omega) hm;omega
attribute [local irreducible] A4 W Wq Wt
abbrev SC(N:Nat)(ae:Option Addr)(n ce bf bp bo:Nat)(k:Int):List Value:=[.int .i64 (N:Int),.slice ae n ce,.slice (some ⟨bf,0,none⟩) n n,.slice (some ⟨bp,0,none⟩) N N,.slice (some ⟨bo,0,none⟩) N N,.int .i64 k]
def Gm(ov:Nat->Int)(N:Nat):List Nat:=(List.range N).filter fun v=>decide (0<ov v)
theorem Ox(ov:Nat->Int)(i:Nat):Gm ov (i+1)=Gm ov i++if 0<ov i then[i]else[]:=by
 unfold Gm;rw[qd3,qcj]
 congr 1
 by_cases h:0<ov i <;> simp[h]
theorem YI(ov:Nat->Int)(i:Nat):(Gm ov i).length<=i:=by
 have:=qcy (fun v=>decide (0<ov v))<|List.range i;rw[List.length_range]at this;exact this
abbrev iN(v:Nat):Value := .int .i64 (v:Int)
structure LSt where
 i:Nat
 a:Option Addr
 c:Nat
 full:List Value
section
variable {w:World}{bs:Nat}{N:Nat}{ae:Option Addr}{n ce bf bp bo:Nat}{k:Int}{ov:Nat->Int}
theorem TF(hs:w.heap[bs]?=some (Bl 261 (SC N ae n ce bf bp bo k)))(ho:w.heap[bo]?=some (Bl 2 (BF ov N)))(hN:N<=1000000:=by omega):
  Ret prog 229 #[ptr bs] w fun v w'=>Fresh w w' 3 1 v ((Gm ov N).map iN):=by
 obtain⟨w0,rfl,H⟩:=qE w;have R:=Cv ho;refine iG func229 U ?_;refine qG 13 ?_;refine A9 qf U ((by rw[Ai hs];rfl)) ?_;refine qG 5 ?_;refine AY 8386616 (α:=LSt) (fun t=>[(11,.int .i64 (t.i:Int)),(3,.slice t.a (Gm ov t.i).length t.c)]) (fun t w'=>t.i<=N/\OS t.a (Gm ov t.i).length t.c 1 t.full ((Gm ov t.i).map iN)/\Ctx w0 [] w' (ent t.a 3 t.full)) (fun t=>N - t.i) ⟨0,none,0,[]⟩ U ?_ ?_ ?_
 .exact⟨rfl,rfl,trivial⟩
 .exact⟨qai _,OS.nil,H⟩
 .rintro⟨i,a,c,full⟩ j w ⟨hi,O,H⟩;dsimp only at hi O H;dsimp only;have hpl:=YI ov i;refine qGp 5 ?_ ?_
  .intro h1;have hgd:(tab ov N)[i]?=some (ov i):=BP (by omega);refine qG 7 ?_;refine A9 qf U (((R.ext0 H.ext).fld hgd U (j:=0) U)) ?_;refine qGp 9 ?_ ?_
   .intro h2;have hps:Gm ov (i+1)=Gm ov i++[i]:=by rw[Ox,if_pos h2]
    refine qG 4 ?_;rintro b20 w - H;refine BL (L:=[]) qf qf qf qf qf U U U H O U (by simp[AF]) ?_;rintro a' c' full' w H O;refine AP U<|Ab<|Av<|Aa<|Aw<|Ap U U ?_;refine Ad U<|qA ?_;exact⟨⟨i+1,a',c',full'⟩,rfl,⟨rfl,by dsimp only;rw[hps,qat];rfl,trivial⟩,⟨by dsimp only;omega,by dsimp only;rw[hps,qat,qau];exact O,H⟩,by dsimp only;omega⟩
   .intro h2;have hps:Gm ov (i+1)=Gm ov i:=by rw[Ox,if_neg<|by omega,qar]
    refine A1<|Av<|Aa<|Aw<|Ap U U ?_;refine Ad U<|qA ?_;exact⟨⟨i+1,a,c,full⟩,rfl,⟨rfl,by dsimp only;rw[hps];rfl,trivial⟩,⟨by dsimp only;omega,by dsimp only;rw[hps];exact O,H⟩,by dsimp only;omega⟩
  .intro h1;refine Bi<|Am<|Am<|A8<|Aa<|Af<|AH U<|AP U<|qA<|Bf<|B6 (v:=(.slice _ _ _)) U U U ?_;obtain rfl:i=N:=by omega
   exact Ctx.fresh (L:=[]) H O
def YJ(ov d:Nat->Int)(n:Nat)(to:Int):Prop:=(to = -1/\∀u,u<n->¬(ov u<0/\0<=d u))\/∃x:Nat,x<n/\to=x/\ov x<0/\0<=d x/\∀y,y<n->ov y<0->0<=d y->d x<d y\/(d x=d y/\x<=y)
theorem TG(hs:w.heap[bs]?=some (Bl 261 (SC N ae n ce bf bp bo k)))(ho:w.heap[bo]?=some (Bl 2 (BF ov N)))(hd:w.heap[od]?=some (Bl 2 (BF d N)))(hN:N<=1000000:=by omega):
  Ret prog 231 #[ptr bs,.slice (some ⟨od,0,none⟩) N N] w fun v w'=>(∃to:Int,v=.int .i64 to/\YJ ov d N to)/\w=w':=by
 obtain⟨w0,rfl⟩:=qD w;have RO:=Cv ho;have RD:=Cv hd;refine iG func231 U ?_;refine qG 16 ?_;refine AY 2199023254752 (α:=Nat × Int) (fun t=>[(10,.int .i64 (t.1:Int)),(5,.int .i64 t.2)]) (fun t w'=>w0=w'/\t.1<=N/\YJ ov d t.1 t.2) (fun t=>N - t.1) (0,-1) U ?_ ?_ ?_
 .exact⟨rfl,rfl,trivial⟩
 .exact⟨rfl,qai _,.inl ⟨rfl,fun u h=>absurd h<|qay _⟩⟩
 .rintro⟨i,to⟩ j w ⟨rfl,hi,hto⟩;dsimp only at hi hto;dsimp only;refine qGp 5 ?_ ?_
  .intro h1;have hgd:(tab d N)[i]?=some (d i):=BP (by omega);have hgo:(tab ov N)[i]?=some (ov i):=BP (by omega);have htd:=CP d N
   obtain⟨dx,hdx⟩:∃dx:Int,0<=to->∃x:Nat,x<N/\to=x/\(tab d N)[x]?=some dx:=by
    rcases hto with⟨h,_⟩|⟨x,hx,h,_⟩
    .exact⟨0,fun h7=>by omega⟩
    .exact⟨d x,fun _=>⟨x,by omega,h,BP<|by omega⟩⟩
   refine qG 6 ?_;refine A2 RD qf qf U U (by omega)<|A9 qf U ((RD.fld hgd U (j:=0) U)) ?_;refine qG 5 ?_;refine Bo (α:=Unit) 549755781120 (fun _=>[(38,.bool<|decide ((ov i<0/\0<=d i)/\(to<0\/d i<dx)))]) (fun _ w'=>w'=w0) U ?_ ?_
   .refine qG 3 ?_;refine A9 qf U ((by rw[Ai hs];rfl))<|Ad U<|BA qf qf U U<|A9 qf U ((RO.fld hgo U (j:=0) U))<|CH U U<|Bj U<|iC 23 U ?_ ?_
    .intro h1;refine qG 4 ?_;refine iC 27 U ?_ ?_
     .intro h2;refine qG 3 ?_;refine iC 30 U ?_ ?_
      .intro h3;refine qG 9 ?_;exact⟨rfl,(),rfl,⟨qaa Value.bool (by clear hgd hgo;rw[qac];simp_all;try omega),trivial⟩,rfl⟩
      .intro h4;refine qG 3 ?_;obtain⟨x,hx,rfl,hgx⟩:=hdx (by omega);refine A2 RD qf qf U U (by omega)<|A9 qf U (RD.fld hgx U (j:=0) U) ?_;refine qG 4 ?_;exact⟨rfl,(),rfl,⟨qaa Value.bool (by clear hgd hgo;rw[qac];simp_all;try omega),trivial⟩,rfl⟩
     .intro h5;refine qG 12 ?_;exact⟨rfl,(),rfl,⟨qaa Value.bool (by clear hgd hgo;rw[qac];simp_all;try omega),trivial⟩,rfl⟩
    .intro h6;refine qG 16 ?_;exact⟨rfl,(),rfl,⟨qaa Value.bool (by clear hgd hgo;rw[qac];simp_all;try omega),trivial⟩,rfl⟩
   rintro - j38 w hw;subst hw;refine A3 _ U ?_ ?_
   .intro h2;have h2:=qbe h2;refine Aw<|Ad U<|Ag U<|Ab<|Av<|Aa<|Aw<|Ap U U ?_;refine Ad U<|qA ?_;refine⟨(i+1,(i:Int)),rfl,⟨rfl,rfl,trivial⟩,⟨rfl,by dsimp only;omega,.inr ⟨i,by dsimp only;omega,rfl,h2.1.1,h2.1.2,fun y hy k1 k2=>?_⟩⟩,by dsimp only;omega⟩;dsimp only at hy
    by_cases e:y=i
    .subst e;exact .inr ⟨rfl,qaq _⟩
    .rcases hto with⟨h,h7⟩|⟨x,hx,h,h3,h4,h5⟩
     .exact absurd ⟨k1,k2⟩ (h7 y<|by omega)
     .obtain⟨x',hx',hxx,hdx'⟩:=hdx (by omega);obtain rfl:x'=x:=by omega
      rw[BP hx']at hdx';obtain rfl:=qal hdx';have h6:=h5 y (by omega) k1 k2;have h8:=h2.2;exact .inl<|by omega
   .intro h2;have h2:=qbq h2;refine A1<|Av<|Aa<|Aw<|Ap U U ?_;refine Ad U<|qA ?_;refine⟨(i+1,to),rfl,⟨rfl,rfl,trivial⟩,⟨rfl,by dsimp only;omega,?_⟩,by dsimp only;omega⟩
    rcases hto with⟨h,h7⟩|h
    .refine .inl ⟨h,fun u hu hh=>?_⟩;dsimp only at hu
     by_cases e:u=i
     .subst e;exact h2 ⟨hh,.inl<|by omega⟩
     .exact h7 u (by omega) hh
    .obtain⟨x,hx,h,h3,h4,h5⟩:=h;refine .inr ⟨x,by dsimp only;omega,h,h3,h4,fun y hy k1 k2=>?_⟩;dsimp only at hy
     by_cases e:y=i
     .subst e;obtain⟨x',hx',hxx,hdx'⟩:=hdx (by omega);obtain rfl:x'=x:=by omega
      rw[BP hx']at hdx';obtain rfl:=qal hdx'
      by_cases h9:d y<d x'
      .exact absurd ⟨⟨k1,k2⟩,.inr h9⟩ h2
      .omega
     .exact h5 y (by omega) k1 k2
  .intro h1;refine Bi<|Am<|Am<|A8<|Aa<|Af<|Ad U<|Ag U<|qA<|Bf<|B6 (v:=(.int _ _)) U U U ?_;obtain rfl:i=N:=by omega
   exact⟨⟨to,rfl,hto⟩,rfl⟩
def KA(d:Nat->Int)(D:Int)(v:Nat):Int:=if d v<0\/D<d v then D else d v
def GJ(p d:Nat->Int)(D:Int)(i v:Nat):Int:=if v<i then p v+KA d D v else p v
theorem YK(hs:w.heap[bs]?=some (Bl 261 (SC N ae n ce bf bp bo k)))(hp:w.heap[bp]?=some (Bl 2 (BF p N)))(hd:w.heap[od]?=some (Bl 2 (BF d N)))(n1:bs≠bp)(n2:od≠bp)(hD:0<=D/\D<=1152921504606846976)(hpb:∀v,-1152921504606846976<=p v/\p v<=1152921504606846976)(hN:N<=1000000:=by omega):
  Ret prog 233 #[ptr bs,.slice (some ⟨od,0,none⟩) N N,.int .i64 D] w fun v w'=>v=.tuple #[]/\Ctx w [bp] w' [(bp,Bl 2 (BF (fun v=>p v+KA d D v) N))]:=by
 obtain⟨w0,rfl⟩:=qD w;have H:=Ctx.start1 hp;have n1':bs∉[bp]:=by rw[qab];exact n1
 have n2':od∉[bp]:=by rw[qab];exact n2
 have RD:=Cv hd;refine iG func233 U ?_;refine qG 7 ?_;have h0:BF p N=BF (GJ p d D 0) N:=qbk fun v _=>by unfold GJ;rw[if_neg<|qay _]
 rw[h0]at H;refine AY 17179868352 (α:=Nat) (fun i=>[(10,.int .i64 (i:Int))]) (fun i w'=>i<=N/\Ctx w0 [bp] w' [(bp,Bl 2 (BF (GJ p d D i) N))]) (fun i=>N - i) 0 U ?_ ?_ ?_
 .exact⟨rfl,trivial⟩
 .exact⟨qai _,H⟩
 .rintro i j w ⟨hi,H⟩;refine qGp 5 ?_ ?_
  .intro h1;have hgd:(tab d N)[i]?=some (d i):=BP (by omega);have hgp:(tab (GJ p d D i) N)[i]?=some (p i):=by rw[BP<|by omega];unfold GJ;rw[if_neg<|Nat.lt_irrefl _]
   have hbi:=hpb i;have hsucc:∀r,r=KA d D i->Value.int .i64 (p i+r)=Value.int .i64 (GJ p d D (i+1) i):=fun r hr=>by unfold GJ;rw[if_pos<|by omega,hr]
   have hoth:∀q,q≠i->Value.int .i64 (GJ p d D (i+1) q)=Value.int .i64 (GJ p d D i q):=fun q hq=>by
    unfold GJ
    by_cases h:q<i
    .rw[if_pos h,if_pos<|by omega]
    .rw[if_neg h,if_neg<|by omega]
   refine qG 7 ?_;refine A9 qf U (((RD.ext H.ext n2').fld hgd U (j:=0) U)) ?_;refine qG 9 ?_;refine iC 17 U ?_ ?_
   .intro h1;refine Al U<|Al U<|Al U<|Bz U (.bool _) U<|qA<|EG U<|Aw<|Ad U<|Ag U<|qA ?_;refine Aw<|AV U<|AR U<|Ae qf U<|A9 qf U ((by rw[Ai<|H.ext.to hs n1'];rfl)) ?_;refine Ad U<|BA qf qf U U ?_;refine A9 qf U (((Cv<|H.get at0).fld hgp U (j:=0) U))<|Ad U<|Ap U U ?_;refine BA qf qf U U ?_;refine BZ i (fun q => .int .i64 (GJ p d D (i+1) q)) (.int _ _) qf U U U H at0 (by simp) (hsucc _ (by unfold KA;(rw[if_pos<|by omega];done))).symm (fun q _ hq=>hoth q hq) ?_;rintro w H;refine Ab<|Av<|Aa<|Aw<|Ap U U ?_;refine Ad U<|qA ?_;exact⟨i+1,rfl,⟨rfl,trivial⟩,⟨by omega,H⟩,by omega⟩
   .intro h2;refine qGp 6 ?_ ?_
    .intro h3;refine Aw<|Ad U<|Ag U<|qA<|Aw<|AV U<|AR U<|Ae qf U<|A9 qf U ((by rw[Ai<|H.ext.to hs n1'];rfl)) ?_;refine Ad U<|BA qf qf U U ?_;refine A9 qf U (((Cv<|H.get at0).fld hgp U (j:=0) U))<|Ad U<|Ap U U ?_;refine BA qf qf U U ?_;refine BZ i (fun q => .int .i64 (GJ p d D (i+1) q)) (.int _ _) qf U U U H at0 (by simp) (hsucc _ (by unfold KA;(rw[if_pos<|by omega];done))).symm (fun q _ hq=>hoth q hq) ?_;rintro w H;refine Ab<|Av<|Aa<|Aw<|Ap U U ?_;refine Ad U<|qA ?_;exact⟨i+1,rfl,⟨rfl,trivial⟩,⟨by omega,H⟩,by omega⟩
    .intro h4;refine A1<|Aa<|Aw<|AV U<|AR U<|Ae qf U<|A9 qf U ((by rw[Ai<|H.ext.to hs n1'];rfl)) ?_;refine Ad U<|BA qf qf U U ?_;refine A9 qf U (((Cv<|H.get at0).fld hgp U (j:=0) U))<|Ad U<|Ap U U ?_;refine BA qf qf U U ?_;refine BZ i (fun q => .int .i64 (GJ p d D (i+1) q)) (.int _ _) qf U U U H at0 (by simp) (hsucc _ (by unfold KA;(rw[if_neg<|by omega];done))).symm (fun q _ hq=>hoth q hq) ?_;rintro w H;refine Ab<|Av<|Aa<|Aw<|Ap U U ?_;refine Ad U<|qA ?_;exact⟨i+1,rfl,⟨rfl,trivial⟩,⟨by omega,H⟩,by omega⟩
  .intro h1;refine qG 5 ?_;obtain rfl:i=N:=by omega
   have h9:BF (GJ p d D i) i=BF (fun v=>p v+KA d D v) i:=qbk fun v hv=>by unfold GJ;rw[if_pos<|qa5.1 hv]
   rw[h9]at H;exact⟨rfl,H⟩
end
def IH(g:Gr)(cap x:Nat->Int)(k:Nat):List Ar:=((List.range k).filter fun a=>decide (0<C3 cap x a)).map fun a=>(g.u a,g.v a,g.c a)
theorem VZ(g:Gr)(cap x:Nat->Int)(k:Nat):IH g cap x (k+1)=IH g cap x k++if 0<C3 cap x k then[(g.u k,g.v k,g.c k)]else[]:=by
 unfold IH;rw[qd3,qcj,qau]
 congr 1
 by_cases h:0<C3 cap x k <;> simp[h]
theorem YL{x:Nat->Int}{k m:Nat}(h:k<=m):∀a∈IH g cap x k,a∈IH g cap x m:=fun a ha=>by
 obtain⟨b,hb,rfl⟩:=qak.1 ha;obtain⟨h1,h2⟩:=qbc.1 hb;exact qak.2 ⟨b,qbc.2 ⟨qa5.2 (by have:=qa5.1 h1;omega),h2⟩,rfl⟩
theorem HX{t:TypeId}{N:Nat}{k:Int}(h:w.heap[bs]?=some (Bl t<|SC N ae n ce bf bp bo k)):∀j v,[Value.int .i64 (N:Int),.slice ae n ce][j]?=some v->w.cell? ⟨bs,0+j,none⟩=some v:=fun j v hv=>by
 rw[Ai h,qa0]
 match j,hv with
 |0,hv=>exact hv
 |1,hv=>exact hv
theorem Ac2{x:Nat->Int}(h:i<n):flE (tab x n) i=x i:=by
 unfold flE;exact Bp<|BP h
theorem Ng{N:Nat}{x:Nat->Int}(hw:BO (N:Int) es (tab x es.length)=true){k:Nat}(hk:k<2*es.length) :
  Fy (N:Int) es (k:Int)=(((grE (N:Int) es).u k:Int),((grE (N:Int) es).v k:Int),(grE (N:Int) es).c k)/\JG (N:Int) es (tab x es.length) (k:Int)=C3 (Ck es) x k/\(grE (N:Int) es).u k<N/\(grE (N:Int) es).v k<N /\ -1000<=(grE (N:Int) es).c k/\(grE (N:Int) es).c k<=1000/\0<=C3 (Ck es) x k/\C3 (Ck es) x k<=4503599627370496:=by
 obtain⟨hl,hr,hin⟩:=Cj hw;obtain⟨e,he,hE,q1,q2,q3,q4,q5,q6⟩:=Mm hr hk;obtain⟨e',xx,he',hx,hro,r1,r2,r3⟩:=Mn hw hk;obtain rfl:e'=e:=qal<|he'.symm.trans he;obtain⟨hxk,rfl⟩:=Lr hx;have hce:Ck es (k / 2)=e'.cap:=by unfold Ck;rw[Bp he]
 have hge:(grE (N:Int) es).f (k / 2)=e'.f.toNat/\(grE (N:Int) es).t (k / 2)=e'.t.toNat/\(grE (N:Int) es).co (k / 2)=e'.cost:=by
  refine⟨?_,?_,?_⟩ <;> (show _=_;unfold grE;dsimp only;rw[Bp he])
 rw[hE,hro];unfold Gr.u Gr.v Gr.c C3 Jd;rw[hge.1,hge.2.1,hge.2.2,hce];unfold Fh at q1 q2 q3 q4 q5 q6 |-
 by_cases hp:k % 2=1
 .have hp2:¬k % 2=0:=by omega
  simp only[if_pos hp]at q1 q2 q3 q4 q5 q6 |-;simp only[if_neg hp2];exact⟨by rw[qd4 q1,qd4 q3],trivial,by omega,by omega,q5,q6,r1,by omega⟩
 .have hp2:k % 2=0:=by omega
  simp only[if_neg hp]at q1 q2 q3 q4 q5 q6 |-;simp only[if_pos hp2];exact⟨by rw[qd4 q1,qd4 q3],trivial,by omega,by omega,q5,q6,by omega,by omega⟩
section
variable {w:World}{bs:Nat}{N:Nat}{ae:Option Addr}{ce bf bp bo:Nat}{k:Int}{es:List Ed}{x p:Nat->Int}
theorem Ac3(hs:w.heap[bs]?=some (Bl 261 (SC N ae es.length ce bf bp bo k)))(Re:Rd w ae 4 Co es)(hen:es≠[]->(adr ae).block≠bp)(hf:w.heap[bf]?=some (Bl 2 (BF x es.length)))(hp:w.heap[bp]?=some (Bl 2 (BF p N)))(n1:bs≠bp)(n2:bf≠bp)(hw:BO (N:Int) es (tab x es.length)=true)(hF:Fine (grE (N:Int) es) (Ck es) x p0) :
  Ret prog 265 #[ptr bs] w fun v w'=>v=.tuple #[]/\Ctx w [bp] w' [(bp,Bl 2 (BF (Eu (IH (grE (N:Int) es) (Ck es) x<|2*es.length) N fun _=>0) N))]:=by
 obtain⟨w0,rfl⟩:=qD w;have H:=Ctx.start1 hp;have n1':bs∉[bp]:=by rw[qab];exact n1
 have n2':bf∉[bp]:=by rw[qab];exact n2
 obtain⟨hwl,hr,-⟩:=Cj hw;obtain⟨hN1,hN40,hn200,-⟩:=Cr hr;have hI:I64 (N:Int):=by unfold I64;omega
 obtain⟨g,hg⟩:=qD<|grE (N:Int) es;obtain⟨cap,hcap⟩:=qD<|Ck es
 have hat:∀{a:Nat},a<2*es.length->Fy (N:Int) es (a:Int)=((g.u a:Int),(g.v a:Int),g.c a)/\JG (N:Int) es (tab x es.length) (a:Int)=C3 cap x a/\g.u a<N/\g.v a<N /\ -1000<=g.c a/\g.c a<=1000/\0<=C3 cap x a/\C3 cap x a<=4503599627370496:=fun ha=>by
  rw[hg,hcap];exact Ng hw ha
 rw[<-hg,<-hcap]at hF |-;obtain⟨A,hA⟩:=qD<|IH g cap x<|2*es.length;have hgE:g.E=es.length:=by rw[hg];rfl
 have hAm:∀b∈A,b.1<N/\b.2.1<N /\ -1000<=b.2.2:=fun b hb=>by
  rw[hA]at hb;obtain⟨a,ha,rfl⟩:=qak.1 hb;obtain⟨-,-,h1,h2,h3,-⟩:=hat<|qa5.1 (qbc.1 ha).1;exact⟨h1,h2,h3⟩
 have hfea:Fea A p0:=by rw[hA,<-hgE];exact Rg hF
 have hfe2:=TB hfea fun a ha=>⟨(hAm a ha).1,(hAm a ha).2.1⟩;have hfb:=UG (A:=A) (m:=1000) (by omega) (fun a ha=>(hAm a ha).2.2) N
 have hbnd:∀r k v,-40000<=(IH g cap x k).foldl HN (Eu A r fun _=>0) v\/2*es.length<k:=fun r k v=>by
  rcases qao (2*es.length) k with h|h
  .exact .inr h
  .refine .inl ?_;have h1:=PM (A:=IH g cap x k) (p:=Eu A r fun _=>0) (f:=DD A N) (fun a ha=>hfe2 a (by rw[hA];exact YL h a ha)) (fun v=>Jv hfe2 (fun v=>by have:=K3 A v<|qai N;exact this) r v) v;have h2:=hfb v;have h3:(N:Int)*1000<=40000:=by omega
   omega
 have hbnd2:∀r k v,(IH g cap x k).foldl HN (Eu A r fun _=>0) v<=0:=fun r k v=>by
  refine qbj (K5 _ _ v) ?_
  induction r with
  |zero=>exact qa4 _
  |succ r ih=>exact qbj (K5 _ _ v) ih
 rw[<-hA];refine iG func265 U ?_;refine qG 4 ?_;refine A9 qf U ((by rw[Ai hs];rfl))<|Og U qf qf U (by simp[AF]) U H at0 (by simp) ?_;rintro w H;refine qA ?_
 have hz:over (BF p N) 0 (List.replicate N [Value.int .i64 0]).flatten=BF (Eu A 0 fun _=>0) N:=by
  rw[_root_.Go.GV.over_all<|by simp];show _=(List.range N).map fun _=>Value.int .i64 0;rw[<-DP];simp
 rw[hz]at H;refine qG 5 ?_;refine A9 qf U ((by rw[Ai<|H.ext.to hs n1'];rfl)) ?_;refine qG 4 ?_;refine AY 151115727451828646772860 (α:=Nat) (fun r=>[(16,.int .i64 (r:Int))]) (fun r w'=>r<=N/\Ctx w0 [bp] w' [(bp,Bl 2 (BF (Eu A r fun _=>0) N))]) (fun r=>N - r) 0 U ?_ ?_ ?_
 .exact⟨rfl,trivial⟩
 .exact⟨qai _,H⟩
 .rintro r j w ⟨hr2,H⟩;refine qGp 5 ?_ ?_
  .intro h1;refine qG 8 ?_;refine A9 qf U ((by rw[Ai<|H.ext.to hs n1'];rfl)) ?_;refine qG 6 ?_;refine AY 75557863725914306642044 (α:=Nat) (fun a=>[(24,.int .i64 (a:Int))]) (fun a w'=>a<=2*es.length/\Ctx w0 [bp] w' [(bp,Bl 2 (BF ((IH g cap x a).foldl HN<|Eu A r fun _=>0) N))]) (fun a=>2*es.length - a) 0 U ?_ ?_ ?_
   .exact⟨rfl,trivial⟩
   .exact⟨qai _,H⟩
   .rintro a j2 w ⟨ha2,H⟩;refine qGp 5 ?_ ?_
    .intro h2;have ha:a<2*es.length:=by omega
     obtain⟨hE,hR,q1,q2,q3,q4,q5,q6⟩:=hat ha;obtain⟨un,hun⟩:=qD<|g.u a;obtain⟨vn,hvn⟩:=qD<|g.v a;obtain⟨co,hco⟩:=qD<|g.c a;obtain⟨q,hq⟩:=qD<|(IH g cap x a).foldl HN<|Eu A r fun _=>0;have hb1:∀v,-40000<=q v/\q v<=0:=fun v=>by rw[hq];exact⟨(hbnd r a v).resolve_right<|by omega,hbnd2 r a v⟩
     have hsucc:(IH g cap x<|a+1).foldl HN (Eu A r fun _=>0)=if 0<C3 cap x a then HN q (un,vn,co)else q:=by
      rw[VZ,qdr,<-hq]
      split
      .rw[hun,hvn,hco];rfl
      .rfl
     rw[<-hq]at H;rw[<-hun,<-hvn,<-hco]at hE;have hE1:(Fy (N:Int) es (a:Int)).1=un:=by rw[hE]
     have hE2:(Fy (N:Int) es (a:Int)).2.1=vn:=by rw[hE]
     have hE3:(Fy (N:Int) es (a:Int)).2.2=co:=by rw[hE]
     rw[<-hun]at q1;rw[<-hvn]at q2;rw[<-hco]at q3 q4;have b1:=hb1 un;have b2:=hb1 vn;have hgu:(tab q N)[un]?=some (q un):=BP q1;have hgv:(tab q N)[vn]?=some (q vn):=BP q2;have hne:(es≠[]->(adr ae).block∉[bp]):=fun h=>by rw[qab];exact hen h
     have hes:es≠[]:=fun h=>by rw[h]at ha;simp at ha
     refine qG 13 ?_;refine BC _ qf qf U U ((HX<|H.ext.to hs n1'))<|Ad U<|Aj qB (PU (N:Int) ae es.length ce es _ (Re.ext H.ext<|hne hes) U hI (a:Int)) U ?_;rintro v w ⟨rfl,hx33⟩;replace H:=H.call hx33;rw[hE1,hE2,hE3];refine qG 13 ?_;refine A9 qf U ((by rw[Ai<|H.ext.to hs n1'];rfl))<|Ad U<|BA qf qf U U<|A9 qf U (((Cv<|H.get at0).fld hgu U (j:=0) U)) ?_;refine qG 5 ?_;refine De 19 AW U U ?_;refine qG 4 ?_;refine BD qf U (by rintro _ rfl;exact((by rw[Ai<|H.drew.ext.to hs n1'];rfl)))<|AS U<|Bt qf qf U U<|BD qf U (by rintro _ rfl;exact(((Cv<|H.drew.get at0).fld hgv rfl (j:=0) rfl)))<|JC U U<|EU U<|iD 55 U ?_ ?_
     .intro h3;refine qG 3 ?_;refine FI _ qf qf U U (by rintro _ rfl;exact((HX<|H.drew.ext.to hs n1')))<|BE U<|Bc U<|Aq qf U<|BD qf U (by rintro _ rfl;exact((by rw[Ai<|H.drew.ext.to hs n1'];rfl)))<|AS U<|Cc ?_;replace H:=H.drew;refine Aj qB (PV (N:Int) ae (some ⟨bf,0,none⟩) es.length ce es.length es.length es (tab x es.length) _ (Re.ext H.ext<|hne hes) U hI (Cv<|H.ext.to hf n2') (CP _ _) (a:Int)) U ?_;rintro v w ⟨rfl,hx65⟩;replace H:=H.call hx65;rw[hR];refine qGp 4 ?_ ?_
      .intro h4;refine qG 4 ?_;refine A9 qf U ((by rw[Ai<|H.ext.to hs n1'];rfl)) ?_;refine qG 3 ?_;refine BZ vn (fun z => .int .i64 (upd q vn (q un+co) z)) (.int _ _) qf U U U H at0 (by simp) (hk:=q2) (by rw[CI,Int.add_comm]) (fun z _ hz=>by rw[Dy hz]) ?_;rintro w H;refine Ab<|Av<|Aa<|Aw<|Ap U U ?_;refine Ad U<|qA ?_;refine⟨a+1,rfl,⟨rfl,trivial⟩,⟨by omega,?_⟩,by omega⟩;rw[hsucc,if_pos h4];unfold HN;rw[if_pos (by dsimp only;omega)];exact H
      .intro h4;refine A1<|Av<|Aa<|Aw<|Ap U U ?_;refine Ad U<|qA ?_;refine⟨a+1,rfl,⟨rfl,trivial⟩,⟨by omega,?_⟩,by omega⟩;rw[hsucc,if_neg<|by omega];exact H
     .intro h3;refine qG 10 ?_;replace H:=H.drew;refine Al U<|Al U<|B9 U (.bool _) U<|qA<|FT U<|A1<|Av<|Aa<|Aw<|Ap U U ?_;refine Ad U<|qA ?_;refine⟨a+1,rfl,⟨rfl,trivial⟩,⟨by omega,?_⟩,by omega⟩;rw[hsucc]
      split
      .unfold HN;rw[if_neg (by dsimp only;omega)];exact H
      .exact H
    .intro h2;refine Bi<|Am<|Am<|A8<|Av<|Aa<|Aw<|Ap U U ?_;refine Ad U<|qA ?_;obtain rfl:a=2*es.length:=by omega
     refine⟨r+1,rfl,⟨rfl,trivial⟩,⟨by omega,?_⟩,by omega⟩;rw[<-hA]at H;exact H
  .intro h1;refine qG 5 ?_;obtain rfl:r=N:=by omega
   exact⟨rfl,H⟩
end
theorem YM{x:Nat->Int}(h:Fine g cap x p)(hq:Fea (IH g cap x<|2*g.E) q):Fine g cap x q:=Y5 h hq
theorem Nh(hg:g.Ok){x:Nat->Int}(h:Fine g cap x p)(hq:∀v,v<g.N->q v=p v):Fine g cap x q :=
 ⟨h.in',fun a ha hr=>by
  have:=h.fit a ha hr;unfold Gr.len at this |-
  rw[hq _<|hg.u ha,hq _<|hg.v ha];exact this⟩
def TH(p:Nat->Int)(n:Nat):Bool:=(List.range n).all fun v=>decide (-1073741824<=p v/\p v<=1073741824)
theorem Oy:TH p n=true↔∀v,v<n -> -1073741824<=p v/\p v<=1073741824:=by
 unfold TH;rw[qaw];exact⟨fun h v hv=>qbe<|h v<|qa5.2 hv,fun h v hv=>qam<|h v<|qa5.1 hv⟩
def narF(es:List Ed)(n:Nat)(x p:Nat->Int):Nat->Int:=if TH p n=true then p else Eu (IH (grE (n:Int) es) (Ck es) x (2*es.length)) n fun _=>0
section
variable {w:World}{bs:Nat}{N:Nat}{ae:Option Addr}{ce bf bp bo:Nat}{k:Int}{es:List Ed}{x p:Nat->Int}
theorem Wa(hs:w.heap[bs]?=some (Bl 261 (SC N ae es.length ce bf bp bo k)))(Re:Rd w ae 4 Co es)(hen:es≠[]->(adr ae).block≠bp)(hf:w.heap[bf]?=some (Bl 2 (BF x es.length)))(hp:w.heap[bp]?=some (Bl 2 (BF p N)))(n1:bs≠bp)(n2:bf≠bp)(hw:BO (N:Int) es (tab x es.length)=true)(hF:Fine (grE (N:Int) es) (Ck es) x p) :
  Ret prog 234 #[ptr bs] w fun v w'=>v=.tuple #[]/\∃p':Nat->Int,p'=narF es N x p/\Fine (grE (N:Int) es) (Ck es) x p'/\(∀v,v<N -> -1073741824<=p' v/\p' v<=1073741824)/\Ctx w [bp] w' [(bp,Bl 2 (BF p' N))]:=by
 obtain⟨w0,rfl⟩:=qD w;have H:=Ctx.start1 hp;have R:=Cv hp;obtain⟨hwl,hr,-⟩:=Cj hw;obtain⟨hN1,hN40,hn200,-⟩:=Cr hr;refine iG func234 U ?_;refine qG 4 ?_;refine A9 qf U ((by rw[Ai hs];rfl)) ?_;refine qG 5 ?_;refine AY 4193800 (α:=Nat) (fun i=>[(9,.int .i64 (i:Int))]) (fun i w'=>w0=w'/\i<=N/\∀v,v<i -> -1073741824<=p v/\p v<=1073741824) (fun i=>N - i) 0 U ?_ ?_ ?_
 .exact⟨rfl,trivial⟩
 .exact⟨rfl,qai _,fun v h=>absurd h<|qay _⟩
 .rintro i j w ⟨rfl,hi,hb⟩;refine qGp 5 ?_ ?_
  .intro h1;have hgp:(tab p N)[i]?=some (p i):=BP (by omega);refine qG 6 ?_;refine A9 qf U ((R.fld hgp U (j:=0) U)) ?_;refine qG 4 ?_;refine Bo (α:=Unit) 516096 (fun _=>[(18,.bool<|decide (p i < -1073741824\/1073741824<p i))]) (fun _ w'=>w'=w0) U ?_ ?_
   .refine qG 3 ?_;refine iC 15 U ?_ ?_
    .intro h1;refine qG 4 ?_;exact⟨rfl,(),rfl,⟨qaa Value.bool (by clear hgp;rw[qac];simp_all;try omega),trivial⟩,rfl⟩
    .intro h2;refine qG 4 ?_;exact⟨rfl,(),rfl,⟨qaa Value.bool (by clear hgp;rw[qac];simp_all;try omega),trivial⟩,rfl⟩
   rintro - j18 w hw;subst hw;refine A3 _ U ?_ ?_
   .intro h2;refine Af<|AV U<|Aj qB (Ac3 hs Re hen hf hp n1 n2 hw hF) U ?_;rintro v w ⟨rfl,H⟩;refine qG 8 ?_
    have hnf:narF es N x p=Eu (IH (grE (N:Int) es) (Ck es) x<|2*es.length) N fun _=>0:=if_neg fun h=>by
     have h3:=Oy.1 h i (by omega);have h4:=qbe h2;omega
    rw[<-hnf]at H;obtain⟨g,hg⟩:=qD<|grE (N:Int) es;have hgE:g.E=es.length:=by rw[hg];rfl
    rw[<-hg]at hF hnf |-
    have hAm:∀b∈IH g (Ck es) x (2*es.length),b.1<N/\b.2.1<N /\ -1000<=b.2.2:=fun b hb=>by
     obtain⟨a,ha,rfl⟩:=qak.1 hb;obtain⟨-,-,h1,h2,h3,-⟩:=Ng hw<|qa5.1 (qbc.1 ha).1;rw[hg];exact⟨h1,h2,h3⟩
    have hfea:Fea (IH g (Ck es) x<|2*es.length) p:=by rw[<-hgE];exact Rg hF
    refine⟨rfl,_,rfl,?_,fun v _=>?_,H⟩ <;> rw[hnf]
    .have h7:=VP hfea fun a ha=>⟨(hAm a ha).1,(hAm a ha).2.1⟩;rw[<-hgE]at h7 |-;exact YM hF h7
    .have h7:=Y0 hfea (fun a ha=>⟨(hAm a ha).1,(hAm a ha).2.1⟩) (m:=1000) (fun a ha=>(hAm a ha).2.2) N v;omega
   .intro h2;have h2:=qbq h2;refine A1<|Av<|Aa<|Aw<|Ap U U ?_;refine Ad U<|qA ?_;refine⟨i+1,rfl,⟨rfl,trivial⟩,⟨rfl,by omega,fun v hv=>?_⟩,by omega⟩
    by_cases e:v=i
    .subst e;omega
    .exact hb v (by omega)
  .intro h1;refine qG 5 ?_;obtain rfl:i=N:=by omega
   exact⟨rfl,p,(if_pos<|Oy.2 hb).symm,hF,hb,H⟩
end
theorem Ru(s by':Value)(ob:Option Addr)(on oc:Nat)(bs:Nat)(v:Int)(w:World)(hs:s=ptr bs)(hb:by'=.slice ob on oc):Ret prog 232 #[s,by',.int .i64 v] w fun r w'=>∃b3 b4 b5,r=.func (.func 264) #[] #[ptr b4,ptr b5,ptr b3]/\w'.heap[b3]?=some (Bl 259 [ptr bs])/\w'.heap[b4]?=some (Bl 282 [.slice ob on oc])/\w'.heap[b5]?=some (Bl 3 [.int .i64 v])/\w.heap.size<=b3/\w.heap.size<=b4/\w.heap.size<=b5/\b5≠b3/\b5≠b4/\Ext [] w w':=by
 subst hs hb;obtain⟨w0,rfl,H⟩:=qE w;refine iG func232 U ?_;refine qG 2 ?_;rintro b3 w - H;refine qG 1 ?_;rintro b4 w - H;refine qG 1 ?_;rintro b5 w - H;refine Dr U .nilFunc U<|qA<|Af<|Ci [.pointer _,.pointer _,.pointer _] U ?_;refine qG 5 ?_;have h3:=H.own _<|qad at2;have h4:=H.own _<|qad at1;have h5:=H.own _<|qad at0;exact⟨_,_,_,rfl,H.get at2,H.get at1,H.get at0,h3.elim (fun h=>by cases h) id,h4.elim (fun h=>by cases h) id,h5.elim (fun h=>by cases h) id,H.ne at0 at2<|by decide,H.ne at0 at1<|by decide,H.ext⟩
def byO(by':Nat->Int)(v:Nat):Option Nat:=if by' v = -1 then none else some (by' v).toNat
def YN(g:Gr)(a:Nat):List Value:=[.int .i64 (a:Int),.int .i64 (g.u a:Int)]
structure BackK(b3 b4 b5 bs ob:Nat)(N:Nat)(ae:Option Addr)(ce bf bp bo:Nat)(k:Int)(es:List Ed)(by':Nat->Int)(M:Mt)(w:World):Prop where
 h4:w.heap[b4]?=some (Bl 282 [.slice (some ⟨ob,0,none⟩) N N])
 h3:w.heap[b3]?=some (Bl 259 [ptr bs])
 hs:w.heap[bs]?=some (Bl 261 (SC N ae es.length ce bf bp bo k))
 ho:w.heap[ob]?=some (Bl 3 (BF by' N))
 Re:Rd w ae 4 Co es
 nm:¬M b5
theorem Rx{g:Gr}{cap x p:Nat->Int}{s:Lb}{by':Nat->Option Nat}(hB:Bys g cap x p s by'):∀{k v:Nat},s.d v ≠ -1->s.h v=k->(DC by' g k v).length=k
 |0,_,_,_=>rfl
 |k+1,v,hd,hk=>by
  obtain⟨a,h1,h2,h3⟩:=hB.2 v hd (by omega);have hh:=h2.h;rw[h3,hk]at hh;rw[(G0 (g:=g) (k:=k) h1).1,qbd,Rx hB h2.du<|by omega]
theorem Rz{N:Nat}{x:Nat->Int}(hw:BO (N:Int) es (tab x es.length)=true)(hB:Bys (grE (N:Int) es) (Ck es) x p s<|byO by')(hby:∀v,by' v = -1\/∃a:Nat,by' v=(a:Int)/\a<2*es.length){k:Nat}(hv:v<N)(hd:s.d v ≠ -1)(hk:s.h v=k) :
  U3 prog 264 #[ptr b4,ptr b5,ptr b3] [b5] (fun M w=>BackK b3 b4 b5 bs ob N ae ce bf bp bo kk es by' M w) ((DC (byO by') (grE (N:Int) es) k v).map<|YN<|grE (N:Int) es) (fun w=>w.heap[b5]?=some (Bl 3 [.int .i64 (v:Int)])):=by
 intro l w hS J E hJ0 hJs hEs hK hY;obtain⟨M0,hJ0⟩:=hJ0;obtain⟨w0,rfl⟩:=qD w;have hr:=(Cj hw).2.1;obtain⟨hN1,hN40,hn200,-⟩:=Cr hr;have hI:I64 (N:Int):=by unfold I64;omega
 obtain⟨g,hg⟩:=qD<|grE (N:Int) es
 have hat:∀{a:Nat},a<2*es.length->Fy (N:Int) es (a:Int)=((g.u a:Int),(g.v a:Int),g.c a)/\g.u a<N:=fun ha=>by
  rw[hg];exact⟨(Ng hw ha).1,(Ng hw ha).2.2.1⟩
 rw[<-hg]at hB hY |-;have hlen:((DC (byO by') g k v).map<|YN g).length=k:=by rw[qaj,Rx hB hd hk]
 refine iG func264 U ?_;refine AK<|AY 1073741792 (α:=Nat × Nat) (fun _=>[]) (fun t w'=>t.1<=k/\(∃M,J t.1 M w')/\w'.heap[b5]?=some (Bl 3 [.int .i64 (t.2:Int)])/\t.2<N/\s.d t.2 ≠ -1/\s.h t.2=k - t.1/\(DC (byO by') g k v).drop t.1=DC (byO by') g (k - t.1) t.2) (fun t=>k - t.1) (0,v) U ?_ ?_ ?_
 .exact trivial
 .exact⟨qai _,⟨M0,hJ0⟩,hS,hv,hd,hk,rfl⟩
 .rintro⟨i,u⟩ j w ⟨hi,⟨M,hJ⟩,hb5,hun,hdu,hhu,hdrop⟩;dsimp only at hi hJ hb5 hun hdu hhu hdrop;dsimp only;have KK:=(hK _ _ _ hJ).2;obtain⟨w1,rfl⟩:=qD w;have H:=Ctx.start1 hb5;have hgb:(tab by' N)[u]?=some (by' u):=BP hun;refine AB<|Af<|A9 qf U ((by rw[Ai KK.h4];rfl)) ?_;refine qG 2 ?_;refine A9 qf U (((Cv KK.ho).fld hgb U (j:=0) U)) ?_;refine qGp 3 ?_ ?_
  .intro h1;have hne:byO by' u≠none:=by unfold byO;rw[if_neg<|by omega];exact fun h=>by cases h
   have hh0:s.h u≠0:=fun h=>hne<|hB.1 u<|.inr h;obtain⟨a,ha,hW,hva⟩:=hB.2 u hdu hh0
   have hba:by' u=(a:Int):=by
    unfold byO at ha;rw[if_neg<|by omega]at ha;have:=qal ha;omega
   have ha2:a<2*es.length:=by
    rcases hby u with h|⟨a',h,h7⟩
    .omega
    .omega
   obtain⟨hE,hu2⟩:=hat ha2;rw[hba]at hgb;obtain⟨u2,hu2e⟩:=qD<|g.u a;obtain⟨v2,hv2e⟩:=qD<|g.v a;obtain⟨c2,hc2e⟩:=qD<|g.c a;rw[<-hu2e,<-hv2e,<-hc2e]at hE;rw[<-hu2e]at hu2;have hE1:(Fy (N:Int) es (a:Int)).1=u2:=by rw[hE]
   have hE2:(Fy (N:Int) es (a:Int)).2.1=v2:=by rw[hE]
   have hE3:(Fy (N:Int) es (a:Int)).2.2=c2:=by rw[hE]
   have hki:k - i=(k - (i+1))+1:=by omega
   have hps:=(G0 (g:=g) (k:=k - (i+1)) ha).1;rw[<-hki,<-hdrop,<-hu2e]at hps
   have hgi:(DC (byO by') g k v)[i]?=some a:=by
    have:=qaa (·[0]?) hps
    simpa using this
   have hdrop2:(DC (byO by') g k v).drop (i+1)=DC (byO by') g (k - (i+1)) u2:=by
    have:=qaa List.tail hps
    simpa using this
   refine A1<|Aa<|AK<|Af<|A9 qf U ((by rw[Ai KK.h4];rfl)) ?_;refine qG 2 ?_;refine A9 qf U (((Cv KK.ho).fld hgb U (j:=0) U))<|Ag U<|qA<|Af<|A9 qf U ((by rw[Ai KK.h3];rfl))<|AR U<|Ae qf U<|BC _ qf qf U U ((HX KK.hs))<|Ad U<|Aj qB (PU (N:Int) ae es.length ce es _ KK.Re U hI (a:Int)) U ?_;rintro r w ⟨rfl,hx21⟩;replace H:=H.call hx21;rw[hE1,hE2,hE3];refine qG 5 ?_;rintro w H;refine qA ?_;have hJ1:=hJs _ _ _ _ hJ H.ext;have hY1:=hY i (YN g a) M w (by rw[qa9,hgi];rfl) hJ1;have hb51:=H.get at0;have hnm:=KK.nm;have hwv:YN g a=[.int .i64 (a:Int),.int .i64 (u2:Int)]:=by rw[hu2e];rfl
   rw[hwv]at hY1;refine qG 4 ?_;refine Gb (vs:=[.int .i64 (a:Int),.int .i64 (u2:Int)]) U hY1 U ?_;rintro u' w hu';obtain⟨bb,rfl,hu1,hu0⟩:∃bb,u'=.bool bb/\(bb=true->(∃M,J (i+1) M w)/\w.heap[b5]?=some (Bl 3 [.int .i64 (u2:Int)]))/\(bb=false->E w):=hu'.elim (fun h=>⟨true,h.1,fun _=>let ⟨M',h1,h2⟩:=h.2;⟨⟨M',h1⟩,h2.to hb51 hnm⟩,fun h=>by cases h⟩) fun h=>⟨false,h.1,(fun h=>by cases h),fun _=>h.2⟩;refine qGp 3 ?_ ?_
   .intro h2;refine qG 5 ?_;exact .inr<|hu0<|by simpa using h2
   .intro h2;refine A1<|Av<|Aa ?_;obtain⟨hJ2,hb52⟩:=hu1 (by simpa using h2);have hh:=hW.h;rw[hva,<-hu2e]at hh;exact⟨(i+1,u2),rfl,trivial,⟨by dsimp only;omega,hJ2,hb52,hu2,by dsimp only;rw[hu2e];exact hW.du,by dsimp only;omega,hdrop2⟩,by dsimp only;omega⟩
  .intro h1
   have hh0:s.h u=0:=by
    rcases qdk (s.h u)with h|h
    .exact h
    .obtain⟨a,ha,-,-⟩:=hB.2 u hdu (by omega);exfalso;unfold byO at ha
     rcases hby u with h7|⟨a',h7,-⟩
     .rw[if_pos h7]at ha;cases ha
     .omega
   refine qG 5 ?_;obtain rfl:i=k:=by omega
   exact .inl ⟨M,by rw[hlen];exact hJ⟩
def Hu:Nat->List Nat
 |1=>[0]|2=>[1,0]|4=>[3]|5=>[4,3]|7=>[6]|8=>[7,6]|10=>[9]|11=>[10,9]
 |12=>[2,1,0,5,4,3,8,7,6,11,10,9]|13=>[12,2,1,0,5,4,3,8,7,6,11,10,9]|15=>[14,13,12,2,1,0,5,4,3,8,7,6,11,10,9]|_=>[]
def LR(i:Nat):Nat:=if i=14 then 11 else 23+i
def Wb(b4 n:Nat)(i:Nat)(B:Nat->Nat):Value :=
 if i=1\/i=4\/i=7\/i=10 then .int .i64 (n:Int)else if i=2\/i=5\/i=8\/i=11 then .slice (some ⟨B i,0,none⟩) n n
 else if i=12 then .agg (FB (B 2) (B 5) (B 8) (B 11) n).toArray else if i=13\/i=14 then ptr (B i)else .pointer (some ⟨b4,0+0,none⟩)
def Ek(n:Nat)(i:Nat):Option ((Nat->Nat)->Obj) :=
 if i=2 then some fun _=>Bl 316 ((List.range n).map fun _ => .slice none 0 0)else if i=5 then some fun _=>Bl 2 (BF (fun _=>0) n)else if i=8\/i=11 then some fun _=>Bl 3 (BF (fun _=>0) n)
 else if i=13 then some fun B=>Bl 310 (FB (B 2) (B 5) (B 8) (B 11) n)else if i=14 then some fun _=>Bl 307 [.pointer none]else none
theorem Wc:∀i j,i<15->j<15->LR i=LR j->i=j:=fun i j hi hj h=>by
 unfold LR at h
 split at h <;> split at h <;> omega
theorem wStab(b4 n:Nat)(i k b:Nat)(B:Nat->Nat)(hi:i<15)(hki:k≠i)(hka:k∉Hu i):Wb b4 n i (Lo B k b)=Wb b4 n i B/\∀ob,Ek n i=some ob->ob (Lo B k b)=ob B:=by
 have h0:Lo B k b i=B i:=Ku<|Ne.symm hki
 have h1:i=12\/i=13->Lo B k b 2=B 2/\Lo B k b 5=B 5/\Lo B k b 8=B 8/\Lo B k b 11=B 11:=fun h=>by
  have:k≠2/\k≠5/\k≠8/\k≠11:=by
   rcases h with rfl|rfl <;> (simp[Hu]at hka;omega)
  exact⟨Ku<|Ne.symm this.1,Ku<|Ne.symm this.2.1,Ku<|Ne.symm this.2.2.1,Ku<|Ne.symm this.2.2.2⟩
 constructor
 .unfold Wb
  by_cases e:i=12
  .have:=h1<|.inl e;subst e;simp[this]
  .rw[h0];simp[e]
 .intro ob hob;unfold Ek at hob
  by_cases e:i=13
  .have:=h1<|.inr e;subst e;simp at hob;subst hob;simp[this]
  .split at hob
   .cases hob;rfl
   .split at hob
    .cases hob;rfl
    .split at hob
     .cases hob;rfl
     .split at hob
      .cases hob;rfl
      .cases hob
theorem JW{N:Int}(hr:Cd N es=true):(grE N es).Ok:=by
 have h:∀i,i<es.length->(es.getD i e0).f.toNat<N.toNat/\(es.getD i e0).t.toNat<N.toNat:=fun i hi=>by
  obtain⟨e,he⟩:=Au (l:=es) (i:=i) (h:=hi);have:=Dw<|(Cr hr).2.2.2.1 e<|qad he;rw[Bp he];omega
 exact⟨fun i hi=>(h i hi).1,fun i hi=>(h i hi).2⟩
theorem UQ{x:Nat->Int}{k a:Nat}(h:a∈Ej cap x k):a<2*k:=qa5.1 (qbc.1 h).1
def Ni(i:Nat)(v:Nat):Int:=if v<i then -1 else 0
theorem UR(i:Nat):Ni (i+1) i = -1:=if_pos<|by omega
theorem US{q:Nat}(h:q≠i):Ni (i+1) q=Ni i q:=by unfold Ni;split <;> split <;> omega
theorem Ac4{t2:Tmp}(hr:fn.results=#[.tmp t1,.tmp t2,.tmp t3])(h1:e.g t1=v1)(h2:e.g t2=v2)(h3:e.g t3=v3)(h:Marks e.ds w<|R<|.tuple #[v1,v2,v3]):QK P fn R .ret e w :=
 Marks.mono (fun w h tmps ht=>by
  have q1:=(ht t1).trans h1;have q2:=(ht t2).trans h2;have q3:=(ht t3).trans h3;rw[qbm]at q1 q2 q3
  exact⟨_,by simp[results,hr,q1,q2,q3],h⟩) h
theorem TI(h:(L++L').Pairwise fun x y=>x.1≠y.1){x:Nat × Obj}(hx:x∈L):x.1∉L'.map (·.1):=fun hm=>by
 obtain⟨y,hy,he⟩:=qak.1 hm;exact(qby.1 h).2.2 x hx y hy he.symm
theorem Rd.lt{a:Option Addr}{s:Nat}{enc:α->List Value}(R:Rd w a s enc xs)(h:xs≠[])(hs:∀x∈xs,∃v,(enc x)[0]?=some v)(h0:0<s):(adr a).block<w.heap.size:=by
 obtain⟨x,hx⟩:=Au (l:=xs) (i:=0) (h:=qbu.2 h);obtain⟨v,hv⟩:=hs x<|qad hx;exact World.block_lt_of_cell? w ⟨(adr a).block,(adr a).off+0*s+0,none⟩<|R.cell 0 x hx 0 v hv h0
theorem Ac5:(lb0 []).d=fun _ => -1:=by
 funext v
 show(if v∈([]:List Nat)then(0:Int)else -1) = -1;exact if_neg qan
structure WSt where
 s:Lb
 a:Option Addr
 hn:Nat
 c:Nat
 full:List Value
 L:List Tg
 D:Int
theorem Ac6(N:Int)(a b p fr:Option Addr)(n c m d q r fc:Nat)(es:List Ed)(fl pot:List Int)(src:List Nat)(w:World)(R:Rd w a 4 Co es)(hn:es.length=n)(hN:I64 N)(Rf:Rd w b 1 I1 fl)(hm:fl.length=m)(Rp:Rd w p 1 I1 pot)(hq:pot.length=q)(Rs:Rd w fr 1 I1 (src.map fun v:Nat=>(v:Int)))(hfit:Hg N es fl pot=true)(hsrc:∀v∈src,v<N.toNat)(hnd:src.Nodup)(hs0:0<src.length)(hm2:m<=9223372036854775000:=by omega)(hq2:q<=9223372036854775000:=by omega):
  Ret prog 230 #[CM N a n c,.slice b m d,.slice p q r,.slice fr src.length fc] w fun v w'=>∃(od ob:Nat) (s:Lb) (by':Nat->Int),v=.tuple #[.slice (some ⟨od,0,none⟩) N.toNat N.toNat,.slice (some ⟨ob,0,none⟩) N.toNat N.toNat,.int .i64 0]/\Done (K8 (grE N es) (Ck es) (flE fl)<|E7 pot) src N.toNat 2199023256552 s/\Bys (grE N es) (Ck es) (flE fl) (E7 pot) s (fun v=>if by' v = -1 then none else some (by' v).toNat)/\(∀v,by' v = -1\/∃a:Nat,by' v=(a:Int)/\a<2*es.length)/\WaysX (grE N es) (Ck es) (flE fl) (E7 pot) s by'/\Ctx w [] w' [(od,Bl 2 (BF s.d N.toNat)),(ob,Bl 3 (BF by' N.toNat))]:=by
 subst hn hm hq;obtain⟨w0,rfl,H⟩:=qE w;refine Gx (fn:=f230) func230 U [CM N a es.length c,.slice b fl.length d,.slice p pot.length r,.slice fr src.length fc] U<|Af<|Be [.int .i64 N,.slice a es.length c] (.agg _) U U H ?_;rintro b4 w - H;refine AP U<|AP U<|Ag U<|qA<|AB<|Af<|Dh qf qf U H at0 U<|AH U<|AH U<|Aj qB (Acx N a b p es.length c fl.length d pot.length r es fl pot _ (R.ext0 H.ext) U hN (Rf.ext0 H.ext) U hm2 (Rp.ext0 H.ext) U hq2) U ?_;rintro v w ⟨rfl,hx21⟩;replace H:=H.call hx21;refine Df U<|qA<|A3 _ U ?_ ?_
 .intro h1;replace h1:=Ba h1;rw[hfit]at h1;cases h1
 .intro h1;replace h1:=Bb h1;have hw:BO N es fl=true:=by unfold Hg at hfit;rw[qag]at hfit;exact hfit.1
  obtain⟨hN1,hN40,hn200,-⟩:=Cr (Cj hw).2.1;obtain⟨nn,rfl⟩:∃nn:Nat,N=(nn:Int):=⟨N.toNat,by omega⟩;refine A1<|Aa<|Dk 137430566912 (α:=Nat × Nat × Nat × Nat × Nat × Nat) (fun z=>[(11,ptr z.1)]) (fun z w'=>Ctx w0 [] w' [(z.1,Bl 307 [ptr z.2.1]),(z.2.1,Bl 310 (FB z.2.2.1 z.2.2.2.1 z.2.2.2.2.1 z.2.2.2.2.2 nn)),(z.2.2.1,Bl 316 ((List.range nn).map fun _ => .slice none 0 0)),(z.2.2.2.1,Bl 2 (BF (fun _=>0) nn)),(z.2.2.2.2.1,Bl 3 (BF (fun _=>0) nn)),(z.2.2.2.2.2,Bl 3 (BF (fun _=>0) nn)),(b4,Bl 53 [.int .i64 (nn:Int),.slice a es.length c])]) U ?_ ?_
  .skip
   have hb4:=H.get at0;refine XI (n:=15) (anc:=Hu) LR (Wb b4 nn) (Ek nn) (show Tryz.prog.follows .mixedOrders=true by kernel_rfl) U ?_ Wc (wStab b4 nn) ?_ ?_
   .intro k hk
    have:k=0\/k=1\/k=2\/k=3\/k=4\/k=5\/k=6\/k=7\/k=8\/k=9\/k=10\/k=11\/k=12\/k=13\/k=14:=by omega
    simp[Hu];omega
   .intro i o e' w' B hi ho hold hsl hx hbl
    have h4:e'.g 4=ptr b4:=(hold 4 fun j hj h=>by
     have h:(4:Nat)=LR j:=h;unfold LR at h
     split at h <;> omega).trans rfl
    have hc4:w'.heap[b4]?=some (Bl 53 [.int .i64 (nn:Int),.slice a es.length c]):=hx.to (by exact hb4) (by simp);have hcs:i=0\/i=1\/i=2\/i=3\/i=4\/i=5\/i=6\/i=7\/i=8\/i=9\/i=10\/i=11\/i=12\/i=13\/i=14:=by omega
    have hpure:∀{v:Value},Ek nn i=none->Wb b4 nn i (Lo B i 0)=v->AQ LR (Wb b4 nn) (Ek nn) i e' w' B (put e' (some<|LR i) v) w':=fun h1 h2=>⟨0,fun ob h=>(by rw[h1]at h;cases h),.refl _ _,by rw[h2]⟩
    rcases hcs with rfl|rfl|rfl|rfl|rfl|rfl|rfl|rfl|rfl|rfl|rfl|rfl|rfl|rfl|rfl
    .cases qal ho;exact Ae (by kernel_rfl) h4<|Ab<|hpure U U
    .cases qal ho;exact A9 qf (hsl 0 (by simp[Hu])) (by rw[Ai hc4];rfl)<|Ab<|hpure U U
    .cases qal ho;refine Hb qf qf qf qf (hsl 1 (by simp[Hu])) (hsl 1 (by simp[Hu])) (Ctx.start w' []) fun b w2 hb H=>?_;have hbb:=H.get at0;rw[show((nn:Int)).toNat=nn from rfl,DP]at hbb;exact Ab ⟨b,fun ob h=>(by obtain rfl:=qal h;exact⟨by omega,hbb⟩),H.ext,rfl⟩
    .cases qal ho;exact Ae (by kernel_rfl) h4<|Ab<|hpure U U
    .cases qal ho;exact A9 qf (hsl 3 (by simp[Hu])) (by rw[Ai hc4];rfl)<|Ab<|hpure U U
    .cases qal ho;refine Hb qf qf qf qf (hsl 4 (by simp[Hu])) (hsl 4 (by simp[Hu])) (Ctx.start w' []) fun b w2 hb H=>?_;have hbb:=H.get at0;rw[show((nn:Int)).toNat=nn from rfl,DP]at hbb;exact Ab ⟨b,fun ob h=>(by obtain rfl:=qal h;exact⟨by omega,hbb⟩),H.ext,rfl⟩
    .cases qal ho;exact Ae (by kernel_rfl) h4<|Ab<|hpure U U
    .cases qal ho;exact A9 qf (hsl 6 (by simp[Hu])) (by rw[Ai hc4];rfl)<|Ab<|hpure U U
    .cases qal ho;refine Hb qf qf qf qf (hsl 7 (by simp[Hu])) (hsl 7 (by simp[Hu])) (Ctx.start w' []) fun b w2 hb H=>?_;have hbb:=H.get at0;rw[show((nn:Int)).toNat=nn from rfl,DP]at hbb;exact Ab ⟨b,fun ob h=>(by obtain rfl:=qal h;exact⟨by omega,hbb⟩),H.ext,rfl⟩
    .cases qal ho;exact Ae (by kernel_rfl) h4<|Ab<|hpure U U
    .cases qal ho;exact A9 qf (hsl 9 (by simp[Hu])) (by rw[Ai hc4];rfl)<|Ab<|hpure U U
    .cases qal ho;refine Hb qf qf qf qf (hsl 10 (by simp[Hu])) (hsl 10 (by simp[Hu])) (Ctx.start w' []) fun b w2 hb H=>?_;have hbb:=H.get at0;rw[show((nn:Int)).toNat=nn from rfl,DP]at hbb;exact Ab ⟨b,fun ob h=>(by obtain rfl:=qal h;exact⟨by omega,hbb⟩),H.ext,rfl⟩
    .cases qal ho;refine Bd (FB (B 2) (B 5) (B 8) (B 11) nn) qf qf (hl:=?_)<|Ab<|hpure U U;show Instr.fill _ _ [(0,e'.g 25),(1,e'.g 28),(2,e'.g 31),(3,e'.g 34)]=_;rw[show e'.g 25=.slice (some ⟨B 2,0,none⟩) nn nn from hsl 2 (by simp[Hu]),show e'.g 28=.slice (some ⟨B 5,0,none⟩) nn nn from hsl 5 (by simp[Hu]),show e'.g 31=.slice (some ⟨B 8,0,none⟩) nn nn from hsl 8 (by simp[Hu]),show e'.g 34=.slice (some ⟨B 11,0,none⟩) nn nn from hsl 11 (by simp[Hu])];rfl
    .cases qal ho;refine Be (FB (B 2) (B 5) (B 8) (B 11) nn) (.agg _) (hsl 12 (by simp[Hu])) U (Ctx.start w' []) fun b w2 hb H=>?_;exact Ab ⟨b,fun ob h=>(by obtain rfl:=qal h;exact⟨by omega,H.get at0⟩),H.ext,rfl⟩
    .cases qal ho;refine AN qf (Ctx.start w' []) fun b w2 hb H=>?_;exact Ab ⟨b,fun ob h=>(by obtain rfl:=qal h;exact⟨by omega,H.get at0⟩),H.ext,rfl⟩
   .intro o e' w' B ho A;have hl4:=AX hb4;have hs0:=H.size;have h9:w.drew.heap.size=w.heap.size:=rfl;have n14_13:B 14≠B 13:=A.ne 14 13 (by omega) (by omega) (by omega) trivial trivial (by simp[Ek]) (by simp[Ek]);have n14_2:B 14≠B 2:=A.ne 14 2 (by omega) (by omega) (by omega) trivial trivial (by simp[Ek]) (by simp[Ek]);have n14_5:B 14≠B 5:=A.ne 14 5 (by omega) (by omega) (by omega) trivial trivial (by simp[Ek]) (by simp[Ek]);have n14_8:B 14≠B 8:=A.ne 14 8 (by omega) (by omega) (by omega) trivial trivial (by simp[Ek]) (by simp[Ek]);have n14_11:B 14≠B 11:=A.ne 14 11 (by omega) (by omega) (by omega) trivial trivial (by simp[Ek]) (by simp[Ek]);have n13_2:B 13≠B 2:=A.ne 13 2 (by omega) (by omega) (by omega) trivial trivial (by simp[Ek]) (by simp[Ek]);have n13_5:B 13≠B 5:=A.ne 13 5 (by omega) (by omega) (by omega) trivial trivial (by simp[Ek]) (by simp[Ek])
    have n13_8:B 13≠B 8:=A.ne 13 8 (by omega) (by omega) (by omega) trivial trivial (by simp[Ek]) (by simp[Ek]);have n13_11:B 13≠B 11:=A.ne 13 11 (by omega) (by omega) (by omega) trivial trivial (by simp[Ek]) (by simp[Ek]);have n2_5:B 2≠B 5:=A.ne 2 5 (by omega) (by omega) (by omega) trivial trivial (by simp[Ek]) (by simp[Ek]);have n2_8:B 2≠B 8:=A.ne 2 8 (by omega) (by omega) (by omega) trivial trivial (by simp[Ek]) (by simp[Ek]);have n2_11:B 2≠B 11:=A.ne 2 11 (by omega) (by omega) (by omega) trivial trivial (by simp[Ek]) (by simp[Ek]);have n5_8:B 5≠B 8:=A.ne 5 8 (by omega) (by omega) (by omega) trivial trivial (by simp[Ek]) (by simp[Ek]);have n5_11:B 5≠B 11:=A.ne 5 11 (by omega) (by omega) (by omega) trivial trivial (by simp[Ek]) (by simp[Ek]);have n8_11:B 8≠B 11:=A.ne 8 11 (by omega) (by omega) (by omega) trivial trivial (by simp[Ek]) (by simp[Ek])
    have k14:=A.blk 14 _ (by omega) trivial (show Ek nn 14=some _ from rfl);have m14:B 14≠b4:=by have:=k14.2;have h9:w.drew.heap.size=w.heap.size:=rfl;omega
    have k13:=A.blk 13 _ (by omega) trivial (show Ek nn 13=some _ from rfl);have m13:B 13≠b4:=by have:=k13.2;have h9:w.drew.heap.size=w.heap.size:=rfl;omega
    have k2:=A.blk 2 _ (by omega) trivial (show Ek nn 2=some _ from rfl);have m2:B 2≠b4:=by have:=k2.2;have h9:w.drew.heap.size=w.heap.size:=rfl;omega
    have k5:=A.blk 5 _ (by omega) trivial (show Ek nn 5=some _ from rfl);have m5:B 5≠b4:=by have:=k5.2;have h9:w.drew.heap.size=w.heap.size:=rfl;omega
    have k8:=A.blk 8 _ (by omega) trivial (show Ek nn 8=some _ from rfl);have m8:B 8≠b4:=by have:=k8.2;have h9:w.drew.heap.size=w.heap.size:=rfl;omega
    have k11:=A.blk 11 _ (by omega) trivial (show Ek nn 11=some _ from rfl);have m11:B 11≠b4:=by have:=k11.2;have h9:w.drew.heap.size=w.heap.size:=rfl;omega
    have Hc:Ctx w0 [] w' [(B 14,Bl 307 [.pointer none]),(B 13,Bl 310 (FB (B 2) (B 5) (B 8) (B 11) nn)),(B 2,Bl 316 ((List.range nn).map fun _ => .slice none 0 0)),(B 5,Bl 2 (BF (fun _=>0) nn)),(B 8,Bl 3 (BF (fun _=>0) nn)),(B 11,Bl 3 (BF (fun _=>0) nn)),(b4,Bl 53 [.int .i64 (nn:Int),.slice a es.length c])]:=by
     refine⟨(H.ext.trans<|Ext.drew [] _).trans A.ext,fun x hx=>?_,?_,fun x hx => .inr ?_⟩
     .simp only[qaf,qan,or_false]at hx
      rcases hx with rfl|rfl|rfl|rfl|rfl|rfl|rfl
      .exact k14.1
      .exact k13.1
      .exact k2.1
      .exact k5.1
      .exact k8.1
      .exact k11.1
      .exact A.ext.to hb4 (by simp)
     .simp only[qbf,qaf,qan,or_false,forall_eq_or_imp,forall_eq,List.Pairwise.nil,false_imp_iff,implies_true,and_true];exact⟨⟨n14_13,n14_2,n14_5,n14_8,n14_11,m14⟩,⟨n13_2,n13_5,n13_8,n13_11,m13⟩,⟨n2_5,n2_8,n2_11,m2⟩,⟨n5_8,n5_11,m5⟩,⟨n8_11,m8⟩,m11⟩
     .simp only[qaf,qan,or_false]at hx;have hb40:=(H.own _<|qah ..).elim (fun h=>by cases h) id
      rcases hx with rfl|rfl|rfl|rfl|rfl|rfl|rfl
      .have:=k14.2;dsimp only;omega
      .have:=k13.2;dsimp only;omega
      .have:=k2.2;dsimp only;omega
      .have:=k5.2;dsimp only;omega
      .have:=k8.2;dsimp only;omega
      .have:=k11.2;dsimp only;omega
      .exact hb40
    cases qal ho;exact Ch (ptr<|B 13) qf (A.slot 14 (by omega) trivial) (A.slot 13 (by omega) trivial) U Hc at0 (by decide) fun w2 H2=>Ab ⟨(B 14,B 13,B 2,B 5,B 8,B 11),A.ds,⟨A.slot 14 (by omega) trivial,trivial⟩,H2⟩
  .rintro⟨b11,b36,oo,od,oh,ob⟩ j w H;dsimp only at H;dsimp only;refine AB<|Af<|Ae qf U<|Bh qf U H at6 U<|Ad U<|qA<|AK<|AY 36028247263154176 (α:=Nat) (fun i=>[(39,.int .i64 (i:Int))]) (fun i w'=>i<=nn/\Ctx w0 [] w' [(b11,Bl 307 [ptr b36]),(b36,Bl 310 (FB oo od oh ob nn)),(oo,Bl 316 ((List.range nn).map fun _ => .slice none 0 0)),(od,Bl 2 (BF (Ni i) nn)),(oh,Bl 3 (BF (fun _=>0) nn)),(ob,Bl 3 (BF (Ni i) nn)),(b4,Bl 53 [.int .i64 (nn:Int),.slice a es.length c])]) (fun i=>nn - i) 0 U ?_ ?_ ?_
   .exact⟨rfl,trivial⟩
   .exact⟨qai _,H⟩
   .rintro i j2 w ⟨hi,H⟩;refine Af<|CH U U<|qA<|AB<|A3 _ U ?_ ?_
    .intro h2;replace h2:=Ax h2;refine A1<|Aa<|AB<|AK<|Af<|Ad U<|Ag U<|qA<|Eb [([0,1,2,3,4,5,6,7,8,9,10],11),([12],13)] (fun z=>z.heap[b11]?=some (Bl 307 [ptr b36])/\z.heap[b36]?=some (Bl 310 (FB oo od oh ob nn))) [13] AW (⟨H.drew.get at0,H.drew.get at1⟩) ?_;refine A0 U U<|AU qf U (fun _ hx=>(by rw[Ai hx.1];rfl)) ?_;refine A7 U<|Ah qf U<|AU qf U (fun _ hx=>(by rw[Ai hx.2];rfl)) ?_;refine AG U<|AU qf U (fun _ hx=>(by rw[Ai hx.1];rfl)) ?_;refine A7 U<|Ah qf U<|AU qf U (fun _ hx=>(by rw[Ai hx.2];rfl)) ?_;refine AG U<|AA qf qf U U ?_;refine A6 ?_;replace H:=H.drew;refine BZ i (fun q => .int .i64 (Ni (i+1) q)) (.int _ _) qf U U U H at3 (by simp) (by rw[UR]) (fun q _ hq=>by rw[US hq]) ?_;rintro w H;refine Ab (Bv (⟨H.get at0,H.get at1⟩)<|A0 U U ?_)
     refine AA qf qf U U ?_;refine A6<|BZ i (fun q => .int .i64 (Ni (i+1) q)) (.int _ _) qf U U U H at5 (by simp) (by rw[UR]) (fun q _ hq=>by rw[US hq]) ?_;rintro w H;refine Ab<|Bw U<|Bu<|Av<|Aa<|Aw<|Ap U U ?_;refine Ad U<|qA ?_;exact⟨i+1,rfl,⟨rfl,trivial⟩,⟨by omega,H⟩,by omega⟩
    .intro h2;replace h2:=Ay h2;obtain rfl:nn=i:=by omega
     have htab:BF (Ni nn) nn=BF (fun _ => -1) nn:=qbk fun v hv=>by
      show Value.int _ (Ni nn v)=Value.int _ (-1);unfold Ni;rw[if_pos<|qa5.1 hv]
     rw[htab]at H;have hr:=(Cj hw).2.1;have hp:EN (nn:Int) pot=true:=by unfold Hg at hfit;rw[qag,qag]at hfit;exact hfit.2.1
     obtain⟨g,hg⟩:=qD<|grE (nn:Int) es;obtain⟨pf,hpf⟩:=qD<|E7 pot;obtain⟨l,hl⟩:=qD<|Ej (Ck es) (flE fl) es.length;have hgo:g.Ok:=by rw[hg];exact JW hr
     have hlen400:l.length<=400:=by
      rw[hl];unfold Ej;have:=qcy (fun a=>decide (0<C3 (Ck es) (flE fl) a))<|List.range<|2*es.length;rw[List.length_range]at this;omega
     refine Bi<|Am<|Am<|A8<|Aa<|AB<|Af<|Dh qf qf U H at6 U<|AH U<|AH U ?_;have hb7:=H;refine Aj qB (UO (nn:Int) a b p es.length c fl.length d pot.length r _) U ?_;rintro v w ⟨x1,x2,x3,rfl,hb1,hb2,hb3,hs1,hs2,hs3,hx58⟩;replace H:=H.call hx58;refine qA<|AK ?_;obtain⟨ws,rfl⟩:=qD w;have hk1:=AX hb1;have hk2:=AX hb2;have hk3:=AX hb3;have hs07:=H.size;have hoo:=H.get at2;have HL:=(H.perm<|qbl (l₁:=[_,_]) (l₂:=[_,_,_,_])).tail;have hoolt:=AX hoo;have hoo7:=AX<|hb7.get at2;have hooge:w0.heap.size<=oo:=(H.own (oo,_)<|qad (i:=2) rfl).elim (fun h=>by cases h) id;obtain⟨OL,hOL⟩:=qD ([(b11,Bl 307 [ptr b36]),(b36,Bl 310 (FB oo od oh ob nn)),(od,Bl 2 (BF (fun _ => -1) nn)),(oh,Bl 3 (BF (fun _=>0) nn)),(ob,Bl 3 (BF (fun _ => -1) nn)),(b4,Bl 53 [.int .i64 (nn:Int),.slice a es.length c])]:List<|Nat × Obj)
     have HL':Ctx w0 [] ws OL:=by rw[hOL];exact HL
     have hOLlt:∀y∈OL,y.1<ws.heap.size:=fun y hy=>AX<|HL'.blk y hy
     have hOLoo:∀y∈OL,y.1≠oo:=fun y hy=>by
      have h9:=H.perm<|qbl (l₁:=[_,_]) (l₂:=[_,_,_,_]);rw[hOL]at hy;exact fun h=>(qbf.1 h9.nd).1 y hy h.symm
     obtain⟨hD,hhD⟩:=qD ws.heap.size
     have hM:∀{w':World} {st:Nat->Slo} {sel:Nat->List Nat},OutR w0 w' oo nn g pf st sel (fun x=>x<ws.heap.size+2)->∀x,Nf oo nn st x->x<w'.heap.size/\x≠ws.heap.size/\x≠ws.heap.size+1:=fun{w' st sel} RO x hx=>by
      rcases hx with rfl|⟨u,hu,y,hy,rfl⟩
      .exact⟨AX RO.tbl,by omega,by omega⟩
      .have h1:=RO.blk u hu y hy;have h2:=AX h1.1;have h3:¬y.1<ws.heap.size+2:=h1.2.2.1;exact⟨h2,by omega,by omega⟩
     refine Mk (gf:=274) U qB (Rn (b1:=x1) (b2:=x2) (b3:=x3) (a:=a) (b:=b) (p:=p) (c:=c) (d:=d) (r:=r) hw hp) (by kernel_rfl) (by kernel_rfl) (fun v hv=>by obtain⟨p,-,rfl⟩:=qak.1 hv;rfl)
      (fun i M w'=>∃st,M=Nf oo nn st/\OutR w0 w' oo nn g pf st (fun u=>Ht g (l.take i) u) (fun x=>x<ws.heap.size+2)/\(∀u,u<nn->(st u).n<=i)/\Ctx w0 [] w' OL/\w'.heap[x1]?=some (Bl 53 [.int .i64 (nn:Int),.slice a es.length c])/\w'.heap[x2]?=some (Bl 41 [.slice p pot.length r])/\w'.heap[x3]?=some (Bl 41 [.slice b fl.length d]))
      (fun _=>False) (by simp)
      (fun w2 hx2 _=>⟨_,fun _=>⟨none,0,0,[]⟩,rfl,⟨hx2.to hoo<|by simp,fun u _=>OS.nil,(fun u _ y hy=>by cases hy),(fun u v _ _ _ y hy=>by cases hy)⟩,fun u _=>qaq _,HL'.call hx2,hx2.to hb1<|by simp,hx2.to hb2<|by simp,hx2.to hb3<|by simp⟩)
      (fun i M w' w'' hJ hx=>?_) (fun _ _ h _=>h) (fun i M w' hJ=>?_) ?_ ?_ (fun _ h _=>h.elim)
     .obtain⟨st,h1,RO,hni,HJ,g1,g2,g3⟩:=hJ;refine⟨st,h1,RO.keep hx fun x hx hm=>?_,hni,HJ.step hx (fun y hy=>?_) fun z hz => .inr ?_,hx.to g1 ?_,hx.to g2 ?_,hx.to g3 ?_⟩
      .have:=hM RO x hm;simp only[qaf,qan,or_false]at hx;omega
      .have:=hOLlt y hy;simp only[qaf,qan,or_false];omega
      .simp only[qaf,qan,or_false]at hz;omega
      .simp only[qaf,qan,or_false];omega
      .simp only[qaf,qan,or_false];omega
      .simp only[qaf,qan,or_false];omega
     .obtain⟨st,rfl,RO,hni,HJ,g1,g2,g3⟩:=hJ;exact⟨hM RO,g1,g2,g3,R.ext0 HJ.ext,Rf.ext0 HJ.ext,Rp.ext0 HJ.ext⟩
     .rintro i v _ w hxv ⟨st,rfl,RO,hni,HJ,g1,g2,g3⟩ hsz;unfold JI at hxv;rw[qa9,<-hl,<-hg,<-hpf]at hxv;obtain⟨y,hy,rfl⟩:=qdc.1 hxv;have hil:=BH hy;have hyl:=qad hy
      have hyu:g.u y<nn:=by
       have h1:=hgo.u (a:=y) (by rw[hl]at hyl;have:=UQ hyl;rw[hg];exact this);rw[hg]at h1 |-;exact h1
      obtain⟨w1,rfl,H⟩:=qE w;refine Aw<|AN qf H ?_;rintro b13 w - H;refine AM qf U U U (by exact Nc _ _ _) H at0 U ?_;rintro w H;refine Ab ?_;refine⟨H.ext,fun wB hxB=>?_⟩;have hb13:=(H.own _<|qah ..).elim (fun h=>by cases h) id;have k13:=hxB.to (H.get at0) (by rw[qab];omega);have ROB:=(RO.keep H.ext fun x hx=>by cases hx).keep hxB fun x hx hm=>(hM RO x hm).2.2<|qab.1 hx;have HB:=(HJ.call H.ext).step hxB (fun y hy=>by have:=hOLlt y hy;rw[qab];omega) fun z hz => .inr (by rw[qab.1 hz];omega);have e1:=hxB.to (H.ext.to g1<|by simp) (by rw[qab];omega);have e2:=hxB.to (H.ext.to g2<|by simp) (by rw[qab];omega);have e3:=hxB.to (H.ext.to g3<|by simp) (by rw[qab];omega);have hsB:=hxB.size;have hsH:=H.ext.size
      have HB':=HB;rw[hOL]at HB';have k11:=HB'.get at0;have k36:=HB'.get at1;obtain⟨u,hu⟩:=qD<|g.u y;rw[<-hu]at hyu
      have hnot:∀x,x≠oo->(x<ws.heap.size+2\/w1.heap.size<=x)->x∉oo::(JV<|st u).map (·.1):=fun x h1 h2 h=>by
       rcases qaf.1 h with h|h
       .exact h1 h
       .obtain⟨z,hz,he⟩:=qak.1 h;have q1:=RO.blk u hyu z hz;have q2:=AX q1.1;have q3:¬z.1<ws.heap.size+2:=q1.2.2.1;omega
      have hO11:=hOLoo (b11,_) (by rw[hOL];exact qad (i:=0) rfl);have hO36:=hOLoo (b36,_) (by rw[hOL];exact qad (i:=1) rfl);have hl11:=hOLlt (b11,_) (by rw[hOL];exact qad (i:=0) rfl);have hl36:=hOLlt (b36,_) (by rw[hOL];exact qad (i:=1) rfl);have hoo1:=AX RO.tbl;dsimp only at hO11 hO36 hl11 hl36;have n11:=hnot b11 hO11 (.inl<|by omega);have n36:=hnot b36 hO36 (.inl<|by omega);have n13:=hnot b13 (by omega)<|.inr hb13;have hgu:(VW nn st)[u]?=some (.slice (st u).a (st u).n (st u).c):=Ds hyu;have hnu:=hni u hyu;obtain⟨w2,rfl⟩:=qD wB;replace H:=ROB.ctx hyu;have hrow:Ge g pf y=[.int .i64 (y:Int),.int .i64 (u:Int),.int .i64 (g.v y:Int),.int .i64<|g.len pf y]:=by unfold Ge;rw[<-hu]
      refine AK<|Eb [([0,1,2,3,4,5,6,7,8,9,10,11,12,13,14],15),([],16),([17],18)] (fun z=>z.heap[b11]?=some (Bl 307 [ptr b36])/\z.heap[b36]?=some (Bl 310 (FB oo od oh ob nn))/\z.heap[b13]?=some (Bl 315 (Ge g pf y))/\z.heap[oo]?=some (Bl 316 (VW nn st))) [18] AW (⟨H.drew.ext.to k11 n11,H.drew.ext.to k36 n36,H.drew.ext.to k13 n13,H.drew.get at0⟩) ?_;refine A0 U U<|AU qf U (fun _ hx=>(by rw[Ai hx.1];rfl)) ?_;refine A7 U<|Ah qf U<|AU qf U (fun _ hx=>(by rw[Ai hx.2.1];rfl)) ?_;refine Ah qf U<|AU qf U (fun _ hx=>(by rw[Ai hx.2.2.1,hrow];rfl)) ?_;refine AU qf U (fun _ hx=>(by rw[Ai hx.1];rfl)) ?_;refine A7 U<|Ah qf U<|AU qf U (fun _ hx=>(by rw[Ai hx.2.1];rfl)) ?_;refine Ah qf U<|AU qf U (fun _ hx=>(by rw[Ai hx.2.2.1,hrow];rfl)) ?_;refine AA qf qf U U ?_
      refine AU qf U (fun _ hx=>(by rw[Ai hx.2.2.2];simpa using hgu)) ?_;refine EZ _ qf qf U U (fun _ hx=>(HS hx.2.2.1))<|A6 ?_;replace H:=H.drew;refine C5 (Ge g pf y) (.agg _) qf qf qf U U U U H ?_;rintro b75 w - H;refine Ab<|Bv (⟨H.ext.to k11 n11,H.ext.to k36 n36,H.ext.to k13 n13,H.get at1⟩)<|A0 U U ?_;refine A6<|BL (L:=[(oo,_)]) qf qf qf qf qf U U U H (ROB.os u hyu) U (Nc g pf y) ?_;rintro a76 c76 f76 w H O76;refine Ab<|Bv (⟨H.ext.to k11 n11,H.ext.to k36 n36,H.ext.to k13 n13,H.get at0⟩)<|A0 U U ?_;refine AA qf qf U U ?_;refine A6<|BZ u (fun q=>sloV<|stS st u ⟨a76,(st u).n+1,c76,f76⟩ q) (.slice _ _ _) qf U U U H at0 (by simp) (hk:=hyu) (by rw[GI];rfl) (fun q _ hq=>by rw[Jf hq]) ?_;rintro w H;refine Ab<|Bw U<|Bu<|Av ?_;have hss:=VX (g:=g) hy;rw[<-hu]at hss
      have hO':OS a76 ((st u).n+1) c76 4 f76 ((Ht g (l.take<|i+1) u).flatMap<|Ge g pf):=by rw[hss.1,qbn];simpa using O76
      have h02:w0.heap.size<=w2.heap.size:=by omega
      obtain⟨RO',hnewM⟩:=ROB.step hyu (s:=⟨a76,(st u).n+1,c76,f76⟩) (sel':=fun q=>Ht g (l.take<|i+1) q) (fun x hx=>by have hx:x<ws.heap.size+2:=hx;omega) h02 H hO' fun q hq=>hss.2 q hq
      have hidM:∀x∈oo::(JV<|st u).map (·.1),Nf oo nn st x:=fun x hx=>by
       rcases qaf.1 hx with h|h
       .exact .inl h
       .obtain⟨z,hz,he⟩:=qak.1 h;exact .inr ⟨u,hyu,z,hz,he⟩
      refine⟨_,⟨stS st u ⟨a76,(st u).n+1,c76,f76⟩,rfl,RO',fun q hq=>?_,HB.step H.ext (fun z hz=>hnot z.1 (hOLoo z hz)<|.inl (by have:=hOLlt z hz;omega)) fun z hz => .inr ?_,H.ext.to e1<|hnot x1 (by omega)<|.inl<|by omega,H.ext.to e2<|hnot x2 (by omega)<|.inl<|by omega,H.ext.to e3<|hnot x3 (by omega)<|.inl<|by omega⟩,fun x hx=>?_,_,H.ext,fun x hx => .inl (hidM x hx)⟩
      .by_cases e:q=u
       .subst e;rw[GI];dsimp only;omega
       .rw[Jf e];have:=hni q hq;omega
      .rcases qaf.1 hz with h|h
       .rw[h];exact hooge
       .obtain⟨t,ht,he⟩:=qak.1 h;have:=(RO.blk u hyu t ht).2.1;omega
      .exact(hnewM x hx).imp id fun h=>by omega
     .rintro M w ⟨st,rfl,RO,hni,HJ,-,-,-⟩ hD;have htk:l.take (JI (grE (nn:Int) es) (E7 pot)<|Ej (Ck es) (flE fl) es.length).length=l:=qc5 (by unfold JI;rw[qaj,<-hl];exact qaq _);simp only[htk]at RO;clear hni htk;obtain⟨w5,rfl⟩:=qD w;have h59:∀x,Nf oo nn st x->x<w5.heap.size:=fun x hx=>(hM RO x hx).1;have h5D:=AX hD;obtain⟨ids,hids⟩:=qD (OL.map (·.1))
      have hidM:∀x∈ids,¬Nf oo nn st x:=fun x hx hm=>by
       rw[hids]at hx;obtain⟨y,hy,rfl⟩:=qak.1 hx;have a1:=hOLlt y hy;have a2:=hOLoo y hy
       rcases hm with h|⟨u,hu,z,hz,he⟩
       .exact a2 h
       .have h3:=(RO.blk u hu z hz).2.2.1;apply h3;show z.1<_;omega
      have hidD:ws.heap.size∉ids:=fun hx=>by
       rw[hids]at hx;obtain⟨y,hy,he⟩:=qak.1 hx;have a1:=hOLlt y hy;omega
      have hB:∀{w':World} {L':List (Nat × Obj)},Ctx w5 ids w' L'->Ctx w0 [] w' L':=fun h=>(Ctx.back (L1:=OL) (L2:=[]) HJ.app_nil (by rw[<-hids];exact h)).nil_app
      have hnotL:∀x,Nf oo nn st x->∀{w':World} {L':List (Nat × Obj)},Ctx w5 ids w' L'->x∉L'.map (·.1):=fun x hx {w' L'} h hm=>by
       obtain⟨y,hy,he⟩:=qak.1 hm
       rcases h.own y hy with h1|h1
       .rw[he]at h1;exact hidM x h1 hx
       .have:=h59 x hx;omega
      have H:Ctx w5 ids w5 OL:=by rw[hids];exact HJ.app_nil.lend
      rw[hOL]at H;clear hids;obtain⟨A,hA⟩:=qD<|K8 g (Ck es) (flE fl) pf;have hF:=PX hfit;rw[<-hg,<-hpf]at hF
      have hlb:∀a,g.len pf a<=2199023256552 /\ -2199023256552<=g.len pf a:=fun a=>by
       rw[hg,hpf];exact Ac0 hr (Ac1 hp) a
      have hgN:g.N=nn:=by rw[hg];rfl
      have hgE:g.E=es.length:=by rw[hg];rfl
      have hArcs:PS A nn 2199023256552:=by rw[hA,<-hgN];exact hF.arcs hgo fun a _=>(hlb a).1
      have hlE:l=Ej (Ck es) (flE fl) g.E:=by rw[hgE];exact hl
      have hAf:∀u,A.filter (fun a=>decide (a.1=u))=(Ht g l u).map (Iq g pf):=fun u=>by rw[hA,hlE];exact Rt g _ _ pf u
      have hsl:∀u,(Ht g l u).length<=400:=fun u=>qa3 (qcy _ _) hlen400;have hdeg:∀u,HV A u<=400:=fun u=>by unfold HV;rw[hAf,qaj];have:=hsl u;omega
      have hsn:src.length<=nn:=K4 nn src hnd hsrc;have hfr:src≠[]->(adr fr).block<w0.heap.size:=fun h=>Rd.lt Rs (by simpa using h) (fun x _=>⟨_,rfl⟩)<|by decide
      have hselx:∀u,u<nn->∀x∈Ht g l u,g.u x=u/\g.v x<nn/\x<2*es.length:=fun u _ x hx=>by
       obtain⟨h1,h2⟩:=qbc.1 hx;have h3:x<2*es.length:=by rw[hl]at h1;exact UQ h1
       have h4:=hgo.v (a:=x) (by rw[hgE];exact h3);exact⟨qbe h2,by rw[<-hgN];exact h4,h3⟩
      have hstn:∀u,u<nn->(st u).n=(Ht g l u).length:=fun u hu=>(RO.os u hu).numN (fun _ _=>rfl)<|by decide
      have hget:∀u,u<nn->(VW nn st)[u]?=some (.slice (st u).a (Ht g l u).length (st u).c):=fun u hu=>by
       have:=Ds (f:=fun u=>sloV<|st u) hu;rw[<-hstn u hu];exact this
      have hrow:∀{w':World} {S:List Nat},Ext S w5 w'->(∀x∈S,x∈ids)->∀u,u<nn->Rd w' (st u).a 4 (Ge g pf) (Ht g l u):=fun{w' S} hx hS u hu=>by
       have RO':=RO.keep hx fun x hx'=>hidM x<|hS x hx';exact(RO'.os u hu).rd (t:=315) (fun y hy=>(RO'.blk u hu y hy).1) (fun _ _=>rfl) (by decide)
      have hrowM:∀u,u<nn->Ht g l u≠[]->Nf oo nn st (adr (st u).a).block:=fun u hu hne=>by
       obtain⟨b,hb⟩:=(RO.os u hu).form (by rw[hstn u hu];exact qbu.2 hne);exact Or.inr ⟨u,hu,(b,Bl 315 (st u).full),by show _∈ent (st u).a _ _;rw[Abz hb];exact qah ..,by rw[hb];rfl⟩
      have hooM:Nf oo nn st oo := .inl rfl;refine Av<|Aa<|Af<|Aj qB (Acu _) U ?_;rintro v w ⟨bh,rfl,hbh,hbhv,hx78⟩;replace H:=H.callAdd hx78 hbhv hbh;have Hp0:=H.perm<|qbl (l₁:=[_,_,_]) (l₂:=[_,_,_]);have hlb0:=Ac5;have Hp:Ctx w5 ids w<|NBl od nn (lb0 []) bh none 0 0 []++[(b11,Bl 307 [ptr b36]),(b36,Bl 310 (FB oo od oh ob nn)),(oh,Bl 3 (BF (fun _=>0) nn)),(ob,Bl 3 (BF (fun _ => -1) nn)),(b4,Bl 53 [.int .i64 (nn:Int),.slice a es.length c])]:=by show Ctx w5 ids w ((od,Bl 2 (BF (lb0 []).d nn))::_);rw[hlb0];exact Hp0
      refine Bx U<|qA<|AB<|Af<|Bh qf U H at1 U<|AV U<|AH U<|Aj qB (YF (Ctx.lend Hp) OS.nil (Hp.get at3) (TI (Hp.comm).nd (x:=(b36,_))<|qad (i:=1) U) ((Rs.ext0 (hB Hp).ext)) (fun hne hm=>by have h1:=hfr hne;have h2:=(hB Hp.left).own;obtain⟨y,hy,he⟩:=qak.1 hm;rcases h2 y hy with h|h;cases h;omega) hsrc hnd) U ?_;rintro v w ⟨rfl,a0,c0,f0,L0,hp0,hH0,O0,H2⟩;replace H:=Ctx.comm (L:=NBl od nn (lb0 src) bh a0 src.length c0 f0)<|Ctx.back Hp H2;refine Df U<|qA<|A3 _ U ?_ ?_
      .intro h4;replace h4:=Ba h4;have:=qbq h4;omega
      .intro h4;replace h4:=Bb h4;refine A1<|Aa<|AB<|AK ?_;have hn0:src.length=L0.length:=O0.numN (fun _ _=>rfl) (by decide);have hps:=VY (n:=nn) (A:=A) (src:=src) (d:=400) fun v _=>hdeg v;have hps2:(nn:Int)*(400*((nn:Int)+1))<=40*(400*41):=Int.mul_le_mul (by omega) (by omega) (by omega) (by omega);refine AY 81129619071793567861722210074624 (α:=WSt) (fun _=>[]) (fun t w'=>MI A src nn 2199023256552 t.D t.s t.L/\HeapL t.L/\OS t.a t.hn t.c 2 t.full (t.L.flatMap E6)/\psi nn A t.D t.s t.L<=1000000/\Ctx w5 ids w' ([(b11,Bl 307 [ptr b36]),(b36,Bl 310 (FB oo od oh ob nn)),(ob,Bl 3 (BF (fun _ => -1) nn)),(b4,Bl 53 [.int .i64 (nn:Int),.slice a es.length c])]++GB od oh nn t.s bh t.a t.hn t.c t.full)) (fun t=>(psi nn A t.D t.s t.L).toNat) ⟨lb0 src,a0,src.length,c0,f0,L0,-1⟩ U ?_ ?_ ?_
       .exact trivial
       .refine⟨(MI.start hsrc hnd).perm hp0.symm,hH0,O0,?_,?_⟩
        .dsimp only;rw[Nd hp0];omega
        .exact H.perm (List.Perm.cons _<|List.Perm.cons _ (qbl (l₁:=[_,_,_])).symm)
       .rintro⟨s,a',hn,c',full,L,D⟩ j w ⟨MM,hH,O,hpsi,H⟩;dsimp only at MM hH O hpsi H;dsimp only;have hnl:hn=L.length:=O.numN (fun _ _=>rfl) (by decide);have hpl:=PW (n:=nn) (A:=A) (D:=D) (s:=s) (hp:=L);refine AB<|Af<|AV U<|Aj qB (Acv<|H.get (k:=6) U) U ?_;rintro v w ⟨rfl,rfl⟩;refine Es U U<|qA<|A3 _ U ?_ ?_
        .intro h5;replace h5:=Ax h5
         obtain⟨⟨d,v⟩,L1,rfl⟩:∃t L1,L=t::L1:=by
          cases L with
          |nil=>simp at hnl;omega
          |cons t L1=>exact⟨t,L1,rfl⟩
         obtain⟨q,rfl⟩:=O.form<|by omega
         have hmin:∀x∈L1,d<=x.1:=fun x hx=>by
          obtain⟨i,hi⟩:=qc7 hx;have h:=hH.root (r:=(d,v)) rfl (i+1) x (by simpa using hi)
          rcases h with h|h
          .exact Int.le_of_lt h
          .exact Int.le_of_eq h.1
         have hvn:=MM.top hArcs;dsimp only at hvn;obtain⟨dv,hdv⟩:=qD<|s.d v;have hgd:(tab s.d nn)[v]?=some dv:=by rw[BP hvn,hdv]
         refine A1<|Aa<|AK<|Af<|AV U ?_;have Hc:=Ctx.comm (L:=[_,_,_,_,_,_]) (L':=HB bh (some ⟨q,0,none⟩) hn c' full) H;refine Aj qB (Aix (Ctx.lend (L1:=HB bh (some ⟨q,0,none⟩) hn c' full) (L2:=[_,_,_,_,_,_]) Hc) O hH) U ?_;rintro rv w ⟨rfl,f2,L2,hp2,hH2,O2,H2⟩;replace H:=Ctx.comm (L:=HB bh (some ⟨q,0,none⟩) L1.length c' f2) (L':=[_,_,_,_,_,_])<|Ctx.back (L1:=HB bh (some ⟨q,0,none⟩) hn c' full) (L2:=[_,_,_,_,_,_]) Hc H2;refine E0 U<|BV U U<|BV U U<|BV U U<|Ag U<|Ag U<|Ag U<|qA ?_;have MM2:MI A src nn 2199023256552 D s ((d,v)::L2):=MM.perm<|(hp2.cons _).symm;have hmin2:∀x∈L2,d<=x.1:=fun x hx=>hmin x<|hp2.mem_iff.1 hx;have hps3:psi nn A D s ((d,v)::L2)=psi nn A D s ((d,v)::L1):=Nd<|hp2.cons _;refine Af<|Ad U<|Bh qf U H at0 U<|AR U<|Ae qf U<|Bh qf U H at1 U<|Ad U<|BA qf qf U U ?_
         refine A9 qf U (((Cv<|H.get at4).fld hgd U (j:=0) U))<|Ct U U<|qA<|A3 _ U ?_ ?_
         .intro h6;replace h6:=Ax h6;have he:(d,v).1=s.d (d,v).2:=by dsimp only;rw[<-hdv];exact h6
          obtain⟨La,hLa⟩:=qD<|Ht g l v;have hll:La.length<=400:=by rw[hLa];exact hsl v
          have hfold:∀k,(goP g pf s L2<|La.take k)=(((La.take k).map<|Iq g pf).foldl Ir (s,L2)):=fun k=>rfl
          have hgoes:∀k,DJ A src nn 2199023256552 (goP g pf s L2<|La.take k).1:=fun k=>by
           rw[hfold];exact(MM2.go hArcs (by omega) (by omega) hmin2 he (l:=(La.take k).map<|Iq g pf) (l1:=(La.drop k).map<|Iq g pf) (by rw[<-qau,qbp,hLa];exact hAf v)).1
          obtain⟨M3,hps4⟩:=(MM2.go hArcs (by omega) (by omega) hmin2 he (l:=La.map<|Iq g pf) (l1:=[]) (by rw[qar,hLa];exact hAf v)).2 rfl;have RO1:=RO.keep H.ext hidM;have RX:=hrow H.ext (fun _ h=>h) v hvn;have hgv:=hget v hvn;rw[<-hLa]at RX hgv;refine Aw<|Bh qf U H at0 U<|AV U<|Ad U ?_;have Hc:=Ctx.comm (L:=[_,_,_,_]) (L':=GB od oh nn s bh (some ⟨q,0,none⟩) L1.length c' f2) H
          refine Aj qB (Acz (Ctx.lend (L1:=GB od oh nn s bh (some ⟨q,0,none⟩) L1.length c' f2) (L2:=[_,_,_,_]) Hc) O2 hH2 (H.get at1) (TI (L:=[_,_,_,_]) H.nd (x:=(b36,_))<|qad (i:=1) U) RO1.tbl (hnotL oo hooM<|Ctx.left (L':=[_,_,_,_]) Hc) hgv hvn RX (fun hne=>hnotL _ (hrowM v hvn<|hLa ▸ hne)<|Ctx.left (L':=[_,_,_,_]) Hc) (fun x hx=>by rw[hLa]at hx;have h7:=hselx v hvn x hx;have h8:=hlb x;exact⟨h7.1,h7.2.1,by omega,by omega⟩) (by simp only[qbd]at hnl hpl;omega) (fun k x _=>by have h7:=(hgoes k).dist (by omega) (by omega) x;exact⟨h7.1,by omega,by omega⟩)) U ?_;rintro rv w ⟨rfl,a3,hn3,c3,f3,L3,hp3,hH3,O3,H3⟩;replace H:=Ctx.comm (L:=GB od oh nn (goP g pf s L2 La).1 bh a3 hn3 c3 f3) (L':=[_,_,_,_])<|Ctx.back (L1:=GB od oh nn s bh (some ⟨q,0,none⟩) L1.length c' f2) (L2:=[_,_,_,_]) Hc H3;refine Ab<|Av<|Aa ?_
          have hps7:psi nn A d (goP g pf s L2 La).1 (goP g pf s L2 La).2+1<=psi nn A D s ((d,v)::L2):=hps4
          have hps5:psi nn A d (goP g pf s L2 La).1 L3+1<=psi nn A D s ((d,v)::L1):=by
           rw[Nd hp3,<-hps3];exact hps7
          have hps6:=PW (n:=nn) (A:=A) (D:=d) (s:=(goP g pf s L2 La).1) (hp:=L3);exact⟨⟨(goP g pf s L2 La).1,a3,hn3,c3,f3,L3,d⟩,rfl,trivial,⟨MI.perm M3 hp3.symm,hH3,O3,by dsimp only;omega,H⟩,by dsimp only;omega⟩
         .intro h6;replace h6:=Ay h6;have hne:(d,v).1≠s.d (d,v).2:=by dsimp only;rw[<-hdv];exact h6
          obtain⟨M3,hps4⟩:=MM2.drop hArcs hmin2 hne;have hps6:=PW (n:=nn) (A:=A) (D:=d) (s:=s) (hp:=L2);refine A1<|Av<|Aa ?_;exact⟨⟨s,some ⟨q,0,none⟩,L1.length,c',f2,L2,d⟩,rfl,trivial,⟨M3,hH2,O2,by dsimp only at hps4 |-;omega,H⟩,by dsimp only at hps4 |-;omega⟩
        .intro h5;replace h5:=Ay h5;obtain rfl:L=[]:=qck (by omega);have DN:=MM.ends;have hsd:=fun v=>MM.dj.dist (by omega) (by omega) v;have hge:∀u,u<nn->g.u u=g.u u:=fun _ _=>rfl;have RO1:=RO.keep H.ext hidM;have hooG:=hnotL oo hooM H;have Hp4:=H.perm<|qbl (l₁:=[_,_]) (l₂:=[_,_,_]++_);have hobM:∀u,u<nn->Ht g l u≠[]->(adr (st u).a).block≠ob:=fun u hu hne e=>hnotL _ (hrowM u hu hne) H (by rw[e];exact qak.2 ⟨(ob,_),qad (i:=2) rfl,rfl⟩)
         refine Bi<|Am<|Am<|A8<|Aa<|Af<|Bh qf U H at0 U<|Aj qB (YG (outL:=fun u=>Ht g l u) (g:=g) (p:=pf) (s:=s) (H.get at2) (H.get at1) (H.get at4) (H.get at5) RO1.tbl (H.ne at1 at2<|by decide) (H.ne at4 at2<|by decide) (H.ne at5 at2<|by decide) (fun e=>hooG (by rw[e];exact qak.2 ⟨(ob,_),qad (i:=2) rfl,rfl⟩)) (fun v=>by have h7:=hsd v;omega) fun u hu=>⟨_,_,hget u hu,hrow H.ext (fun _ h=>h) u hu,hobM u hu,by have:=hsl u;omega,fun x hx=>by have h7:=hselx u hu x hx;have h8:=hlb x;exact⟨h7.1,h7.2.1,by omega,by omega,by omega⟩⟩) U ?_;rintro rv w ⟨rfl,by',BB,H3⟩;replace H:=Ctx.back (L1:=[_]) (L2:=[_,_,_,_,_]++_) Hp4 H3;refine qA<|CG (fun x=>x=_) AW U ?_;refine B7 qf U (by rintro _ rfl;exact H.drew) at1 U ?_;refine Bc U<|Aq qf U<|B7 qf U (by rintro _ rfl;exact H.drew) at2 U ?_
         refine B7 qf U (by rintro _ rfl;exact H.drew) at1 U ?_;refine Bc U<|Aq qf U<|B7 qf U (by rintro _ rfl;exact H.drew) at2 U ?_;refine Oc U U<|Oc U U<|Gw U U<|Cc ?_;rintro _ rfl;replace H:=H.drew;refine Bf<|Ac4 U U U U ?_;have hodlt:=hOLlt (od,_) (by rw[hOL];exact qad (i:=2) rfl);have hoblt:=hOLlt (ob,_) (by rw[hOL];exact qad (i:=4) rfl);dsimp only at hodlt hoblt
         have hall:∀a,a∈Ht g l (g.u a)->a<2*g.E/\0<C3 (Ck es) (flE fl) a:=fun x hx=>by
          have h1:=(qbc.1 hx).1;rw[hlE]at h1;obtain⟨h2,h3⟩:=qbc.1 h1;exact⟨qa5.1 h2,qbe h3⟩
         have hdn:∀x,x<2*g.E->0<C3 (Ck es) (flE fl) x->g.u x<nn/\x∈Ht g l (g.u x):=fun x h1 h2=>⟨by rw[<-hgN];exact hgo.u h1,qbc.2 ⟨by rw[hlE];exact qbc.2 ⟨qa5.2 h1,qam h2⟩,qam rfl⟩⟩;have BY:=Aiy (cap:=Ck es) (x:=flE fl) (by rw[<-hA];exact DN) (by rw[<-hA];exact hArcs) BB hall hdn
         have WX:WaysX g (Ck es) (flE fl) pf s by':=by
          refine⟨by rw[<-hA];exact MM.rlx,fun v a h b h1 h2 h3 h4=>BB.fst v a h b (hdn b h1 h2) h3 h4,fun v a h=>?_,fun b h1 h2 h3=>BB.in' b (hdn b h1 h2) h3,fun v=>(BB.val v).imp id fun⟨a,h,_⟩=>⟨a,h⟩⟩
          rcases BB.val v with h'|⟨c,h',h1,h2,h3⟩
          .omega
          .obtain rfl:a=c:=by omega
           exact⟨(hall a h1).1,(hall a h1).2,h2,h3⟩
         refine Gy (H.ext.to hD hidD) U fun wF hxF=>⟨od,ob,s,by',rfl,?_,?_,fun v=>?_,?_,?_⟩
         .rw[hA,hg,hpf]at DN;exact DN
         .rw[hg,hpf]at BY;exact BY
         .rcases BB.val v with h|⟨x,h1,h2,-⟩
          .exact .inl h
          .exact .inr ⟨x,h1,by rw[<-hgE];exact(hall x h2).1⟩
         .rw[hg,hpf]at WX;exact WX
         .refine((hB H).sub (L':=[(od,Bl 2 (BF s.d nn)),(ob,Bl 3 (BF by' nn))]) (fun x hx=>?_) ?_).step hxF (fun x hx=>?_) fun x hx => .inr ?_
          .simp only[qaf,qan,or_false]at hx
           rcases hx with rfl|rfl
           .exact qad (i:=4) U
           .exact qad (i:=0) U
          .simp only[qbf,qab,forall_eq,qan,false_imp_iff,implies_true,List.Pairwise.nil,and_true];exact H.ne at4 at0<|by decide
          .simp only[qaf,qan,or_false]at hx;rw[qab]
           rcases hx with rfl|rfl
           .dsimp only;omega
           .dsimp only;omega
          .rw[qab.1 hx];exact hs07
theorem OS.setf{a:Option Addr}{c s:Nat}{enc:α->List Value}{L:List α}(O:OS a n c s full<|L.flatMap enc)(hs:∀x,(enc x).length=s){x y:α}{v:Value}(hx:L[i]?=some x)(hj:j<s)(hy:enc y=(enc x).set j v):OS a n c s (full.set (i*s+j) v)<|(L.set i y).flatMap enc:=by
 refine⟨O.zero,O.none',by rw[qb8];exact O.len,O.le,?_⟩;rw[O.split,Acr (fun z _=>hs z) hx hj hy];have h1:=O.llen;rw[E5 fun z _=>hs z]at h1;exact qc1<|by rw[E5 fun z _=>hs z,qb8,h1]
def edC(es:List Ed)(c:Nat->Int)(i:Nat):Ed:={ es.getD i e0 with cap:=c i }
def esC(es:List Ed)(c:Nat->Int):List Ed:=(List.range es.length).map (edC es c)
theorem Iu(es:List Ed)(c:Nat->Int):(esC es c).length=es.length:=by unfold esC;simp
theorem Iv(h:i<es.length):(esC es c)[i]?=some (edC es c i):=Ds h
theorem Jz(h:∀i,i<es.length->c i=d i):esC es c=esC es d:=qbk fun i hi=>by unfold edC;rw[h i<|qa5.1 hi]
theorem UT{e:Ed}(he:edC es d i=e)(h:∀j,j<es.length->j≠i->d j=c j):(esC es c).set i e=esC es d:=HK he fun j hj hn=>by unfold edC;rw[h j hj hn]
theorem Nj(es:List Ed):esC es (Ck es)=es:=by
 refine qca fun i=>?_
 rcases qao i es.length with h|h
 .obtain⟨e,he⟩:=Au (h:=h);rw[Iv h,he];unfold edC Ck;rw[Bp he]
 .rw[qbg (by rw[Iu];exact h),qbg h]
theorem Aiz(h:i<es.length):Ck (esC es c) i=c i:=by
 unfold Ck;rw[Bp<|Iv h];rfl
theorem grE_C(N:Int)(es:List Ed)(c:Nat->Int):grE N (esC es c)=grE N es:=by
 have h:∀i,((esC es c).getD i e0).f=(es.getD i e0).f/\((esC es c).getD i e0).t=(es.getD i e0).t/\((esC es c).getD i e0).cost=(es.getD i e0).cost:=fun i=>by
  rcases qao i es.length with h|h
  .rw[Bp<|Iv h];exact⟨rfl,rfl,rfl⟩
  .rw[qb1,qbg (by rw[Iu];exact h),qb1,qbg h];exact⟨rfl,rfl,rfl⟩
 unfold grE;rw[Iu]
 congr 1
 .funext i;rw[(h i).1]
 .funext i;rw[(h i).2.1]
 .funext i;rw[(h i).2.2]
theorem Oz{α:Type}{f g:α->Nat}:∀{l:List α},(∀x∈l,f x<=g x)->(l.map f).sum<=(l.map g).sum
 | [],_=>qaq _
 |x::l,h=>by
  have h1:=h x<|qah ..;have h2:=Oz (l:=l) fun y hy=>h y<|qae _ hy;simp only[qas,List.sum_cons];omega
theorem UU{N:Int}(h:Cd N es=true)(hc:∀i,i<es.length->0<=c i/\c i<=Ck es i):Cd N (esC es c)=true:=by
 obtain⟨h1,h2,h3,h4,h5⟩:=Cr h
 have h6:Eh (esC es c)<=Eh es:=by
  have e1:Eh es=((List.range es.length).map fun i=>Fx<|es.getD i e0).sum:=by
   conv=>lhs;rw[<-Nj es]
   unfold Eh esC;rw[qcb]
   congr 1
  have e2:Eh (esC es c)=((List.range es.length).map fun i=>Fx<|edC es c i).sum:=by
   unfold Eh esC;rw[qcb]
   congr 1
  rw[e1,e2];refine Oz fun i hi=>?_;have h7:=hc i<|qa5.1 hi;unfold Fx edC;dsimp only;exact qcs _ (by unfold Ck at h7;omega)
 have h7:(esC es c).all (DK N)=true:=qaw.2 fun e he=>by
  obtain⟨i,hi,rfl⟩:=qak.1 he;have hil:=qa5.1 hi;obtain⟨e,he⟩:=Au (h:=hil);have h8:=Dw<|h4 e<|qad he;have h9:=hc i hil;unfold Ck at h9;rw[Bp he]at h9;unfold edC DK GH;rw[Bp he];dsimp only;simp only[qag,qav];omega
 unfold Cd;rw[h7,Iu];simp only[qag,qav];exact⟨⟨h1,h2⟩,h3,trivial,by omega⟩
theorem YO{N:Int}{x:Nat->Int}(h:Cd N es=true)(hc:∀i,i<es.length->0<=c i/\c i<=Ck es i)(hx:∀i,i<es.length->0<=x i/\x i<=c i):BO N (esC es c) (tab x es.length)=true:=by
 unfold BO;rw[UU h hc,CP,Iu,qam rfl];refine qaw.2 fun b hb=>?_;obtain⟨i,hi⟩:=qc7 hb
 have hil:i<es.length:=by
  have:=BH hi;rw[qcl,Iu,CP]at this;omega
 rw[JU (Iv hil)<|BP hil]at hi;obtain rfl:=qal hi;have:=hx i hil;unfold inB edC;simp only[qag,qav,id_eq];omega
def Fi(es:List Ed)(k i:Nat):Int:=(((Ck es i).toNat / 2 ^ k:Nat):Int)
theorem Mo{N:Int}(h:Cd N es=true)(k:Nat):∀i,i<es.length->0<=Fi es k i/\Fi es k i<=Ck es i:=fun i hi=>by
 obtain⟨e,he⟩:=Au (h:=hi);have h8:=Dw<|(Cr h).2.2.2.1 e<|qad he;have h9:(Ck es i).toNat / 2 ^ k<=(Ck es i).toNat:=Nat.div_le_self _ _;have h7:0<=Ck es i:=by unfold Ck;rw[Bp he];omega
 unfold Fi;obtain⟨z,hz⟩:=qD<|(Ck es i).toNat / 2 ^ k;rw[<-hz]at h9 |-;omega
theorem OB(es:List Ed)(k i:Nat):2*Fi es (k+1) i<=Fi es k i/\Fi es k i<=2*Fi es (k+1) i+1:=by
 have h:(Ck es i).toNat / 2 ^ (k+1)=((Ck es i).toNat / 2 ^ k) / 2:=by rw[Nat.pow_succ,Nat.div_div_eq_div_mul]
 unfold Fi;rw[h];obtain⟨z,hz⟩:=qD<|(Ck es i).toNat / 2 ^ k;rw[<-hz];omega
theorem Wd{N:Int}(h:Cd N es=true):∀i,i<es.length->Fi es 0 i=Ck es i:=fun i hi=>by
 have h7:=Mo h 0 i hi;unfold Fi at h7 |-;rw[Nat.pow_zero,Nat.div_one]at h7 |-;omega
theorem Mp{N:Int}(h:Cd N es=true):∀i,i<es.length->0<=Ck es i/\Ck es i<=4503599627370496:=fun i hi=>by
 obtain⟨e,he⟩:=Au (h:=hi);have h8:=Dw<|(Cr h).2.2.2.1 e<|qad he;unfold Ck;rw[Bp he];omega
theorem Lt{x:Nat->Int}(h:Fine g cap x p)(hc:∀i,i<g.E->cap' i=cap i):Fine g cap' x p:=by
 refine⟨fun i hi=>by rw[hc i hi];exact h.in' i hi,fun a ha hr=>h.fit a ha ?_⟩;unfold C3 at hr |-;rw[hc _<|by omega]at hr;exact hr
theorem UV{x:Nat->Int}(hx:∀i,i<g.E->0<=x i/\x i<=4503599627370496)(v:Nat)(hE:g.E<=200:=by omega): -900719925474099200<=BJ g x v/\BJ g x v<=900719925474099200:=by
 have h:=GG (g:=g) (x:=x) (c:=4503599627370496) v (k:=g.E) hx;have h2:(g.E:Int)*4503599627370496<=200*4503599627370496:=by omega
 unfold BJ;omega
def Iw(c c':Nat->Int)(i j:Nat):Int:=if j<i then c' j else c j
def flW(g:Gr)(c' x p:Nat->Int)(i j:Nat):Int:=if j<i then IG g c' x p j else x j
theorem UW(h:j≠i):Iw c c' (i+1) j=Iw c c' i j:=by unfold Iw;split <;> split <;> first|rfl|omega
theorem YP{x:Nat->Int}(h:j≠i):flW g c' x p (i+1) j=flW g c' x p i j:=by unfold flW;split <;> split <;> first|rfl|omega
abbrev FL(bf bo n N:Nat)(x ov:Nat->Int)(ae:Option Addr)(full:List Value):List (Nat × Obj):=(bf,Bl 2 (BF x n))::(bo,Bl 2 (BF ov N))::ent ae 195 full
theorem YQ{N:Nat}{k:Nat}{x:Nat->Int}(H0:Ctx w ((FL bf bo es.length N x ov ae full).map (·.1)) w<|FL bf bo es.length N x ov ae full)(O:OS ae es.length ce 4 full ((esC es c).flatMap Co))(hs:w.heap[bs]?=some (Bl 261 (SC N ae es.length ce bf bp bo kk)))(hbs:bs∉(FL bf bo es.length N x ov ae full).map (·.1))(hp:w.heap[bp]?=some (Bl 2 (BF p N)))(hbp:bp∉(FL bf bo es.length N x ov ae full).map (·.1))(Rw:Rd w aw 4 Co es)(hRw:es≠[]->(adr aw).block∉(FL bf bo es.length N x ov ae full).map (·.1))(hr:Cd (N:Int) es=true)(hc:∀i,i<es.length->2*c i<=Fi es k i/\Fi es k i<=2*c i+1)(hF:Fine (grE (N:Int) es) c x p)(hx0:∀v,v<N->BJ (grE (N:Int) es) x v=0)(hov:∀v,v<N->ov v=0)(hpb:∀v,v<N -> -1073741824<=p v/\p v<=1073741824)(hk:k<=64:=by omega):
  Ret prog 199 #[ptr bs,CM (N:Int) aw es.length cw,.int .i64 (k:Int)] w fun v w'=>v=.tuple #[]/\∃full',OS ae es.length ce 4 full' ((esC es<|Fi es k).flatMap Co) /\
   Ctx w ((FL bf bo es.length N x ov ae full).map (·.1)) w' (FL bf bo es.length N (IG (grE (N:Int) es) (Fi es k) x p) (BJ (grE (N:Int) es)<|IG (grE (N:Int) es) (Fi es k) x p) ae full'):=by
 obtain⟨w0,rfl⟩:=qD w;obtain⟨ids,hids⟩:=qD<|(FL bf bo es.length N x ov ae full).map (·.1);rw[<-hids]at H0 hbs hbp hRw |-;have H:=H0;obtain⟨hN1,hN40,hn200,hall,-⟩:=Cr hr;obtain⟨g,hg⟩:=qD<|grE (N:Int) es;obtain⟨c',hc'⟩:∃c',c'=Fi es k:=⟨_,rfl⟩;have hgE:g.E=es.length:=by rw[hg];rfl
 have hgo:g.Ok:=by rw[hg];exact JW hr
 have hin:=Mo hr k;have hcb:=Mp hr;rw[<-hg]at hF hx0 |-;rw[<-hc']at hc hin |-;have hF2:=MX hF (cap':=c') fun i hi=>hc i (by rw[<-hgE];exact hi)
 have hxb:∀i,i<es.length->0<=x i/\2*x i<=c' i/\c' i<=4503599627370496:=fun i hi=>by
  have h1:=hF.in' i (by rw[hgE];exact hi);have h2:=hc i hi;have h3:=hin i hi;have h4:=hcb i hi;omega
 have hmix:∀i v,-900719925474099200<=BJ g (Hs g c' x p i) v/\BJ g (Hs g c' x p i) v<=900719925474099200:=fun i v=>UV (fun j hj=>by
  have h1:=hxb j (by rw[<-hgE];exact hj);have h2:=hF2.in' j hj;unfold Hs
  split <;> omega) v
 refine iG func199 U ?_;refine Af<|Be [.int .i64 (N:Int),.slice aw es.length cw] (.agg _) U U H ?_;rintro b4 w - H;refine qG 6 ?_;refine A9 qf U ((by rw[Ai<|H.ext.to hs hbs];rfl)) ?_;refine qG 5 ?_;refine AY 21778071482940061661655974875633165517248 (α:=Nat × List Value) (fun t=>[(14,.int .i64 (t.1:Int))]) (fun t w'=>t.1<=es.length/\OS ae es.length ce 4 t.2 ((esC es<|Iw c c' t.1).flatMap Co)/\Ctx w0 ids w' ((b4,Bl 53 [.int .i64 (N:Int),.slice aw es.length cw])::FL bf bo es.length N (flW g c' x p t.1) (BJ g<|Hs g c' x p t.1) ae t.2)) (fun t=>es.length - t.1) (0,full) U ?_ ?_ ?_
 .exact⟨rfl,trivial⟩
 .refine⟨qai _,?_,?_⟩
  .rw[Jz (d:=c) fun i _=>by unfold Iw;rw[if_neg<|qay _]];exact O
  .have e1:BF (flW g c' x p 0) es.length=BF x es.length:=qbk fun i _=>by unfold flW;rw[if_neg<|qay _]
   have e2:BF (BJ g<|Hs g c' x p 0) N=BF ov N:=qbk fun v hv=>by
    have hv:=qa5.1 hv;rw[Y3<|hx0 v hv,hov v hv]
   dsimp only[FL];rw[e1,e2];exact H
 .rintro⟨i,full1⟩ j w ⟨hi,O,H⟩;dsimp only at hi O H;dsimp only;refine qGp 5 ?_ ?_
  .intro h1;have hil:i<es.length:=by omega
   obtain⟨e,he⟩:=Au (h:=hil);have hee:=Dw<|hall e<|qad he;obtain⟨un,hun⟩:∃un:Nat,e.f=un:=⟨e.f.toNat,by omega⟩;obtain⟨vn,hvn⟩:∃vn:Nat,e.t=vn:=⟨e.t.toNat,by omega⟩;obtain⟨cc,hcc⟩:∃cc:Nat,e.cap=cc:=⟨e.cap.toNat,by omega⟩;have hgf:g.f i=un:=by rw[hg];show(es.getD i e0).f.toNat=un;rw[Bp he,hun];rfl
   have hgt:g.t i=vn:=by rw[hg];show(es.getD i e0).t.toNat=vn;rw[Bp he,hvn];rfl
   have hgc:g.co i=e.cost:=by rw[hg];show(es.getD i e0).cost=_;rw[Bp he]
   have hck:c' i=((cc / 2 ^ k:Nat):Int):=by
    rw[hc'];unfold Fi Ck;rw[Bp he,hcc];rfl
   have hunN:un<N:=by omega
   have hvnN:vn<N:=by omega
   obtain⟨q,rfl⟩:=O.form (by omega);have hxi:=hxb i hil;obtain⟨xi,hxie⟩:=qD<|x i;obtain⟨ck,hcke⟩:=qD<|c' i;rw[<-hxie,<-hcke]at hxi;rw[<-hcke]at hck;have hgx:(tab (flW g c' x p i) es.length)[i]?=some xi:=by rw[BP hil,hxie];unfold flW;rw[if_neg<|Nat.lt_irrefl _]
   have hcap2:(Co e)[2]?=some (.int .i64 (cc:Int)):=by unfold Co;rw[hcc];rfl
   have hes:es≠[]:=fun h=>by rw[h]at he;cases he
   have hqn:=O.le;have hOl:=O.len;refine A1<|Aa<|AB<|AK<|Af<|Ad U<|Ag U<|qA<|Af<|AV U<|AR U ?_;refine Ae qf U<|Ae qf U<|A9 qf U ((by rw[Ai<|H.ext.to hs hbs];rfl)) ?_;refine Ad U<|BA qf qf U U ?_;refine Bx U<|qA<|Af<|AV U<|AR U<|Ae qf U<|A9 qf U ((by rw[Ai<|H.ext.to hs hbs];rfl)) ?_;refine Ad U<|BA qf qf U U ?_;refine A9 qf U (((Cv<|H.get at1).fld hgx U (j:=0) U))<|Fm U U ?_;refine BA qf qf U U<|BZ i (fun z => .int .i64 (if z=i then xi*2 else flW g c' x p i z)) (.int _ _) qf U U U H at1 (by simp) (hk:=hil) (by rw[if_pos rfl]) (fun z _ hz=>by rw[if_neg hz]) ?_;rintro w H;refine qG 7 ?_
   refine A2 Rw qf qf U U (by rfl)<|Ae qf U<|A9 qf U (((Rw.ext H.ext<|hRw hes).fld he U (j:=2) hcap2))<|Ad U<|Im (a:=cc) (n:=k) U U U ?_;rw[<-hck];refine AR U<|Ae qf U<|Ch (.int _ _) qf U U U H at3 (by omega) ?_;rintro w H;refine qA ?_;rw[show 0+((i:Int)).toNat*4+2=i*4+2 by omega]at H;have O1:=OS.setf O (y:=edC es (Iw c c'<|i+1) i) (j:=2) (v := .int .i64 ck) (fun _=>rfl) (Iv (c:=Iw c c' i) hil) (by decide) (by unfold edC Co Iw;dsimp only;rw[if_pos<|by omega,<-hcke];rfl);rw[UT rfl (fun j _ hj=>UW hj)]at O1;obtain⟨full2,hf2⟩:=qD<|full1.set (i*4+2)<|.int .i64 ck;rw[<-hf2]at O1
   replace H:Ctx w0 ids w ((b4,Bl 53 [.int .i64 (N:Int),.slice aw es.length cw])::(bf,Bl 2 (BF (fun z=>if z=i then xi*2 else flW g c' x p i z) es.length))::(bo,Bl 2 (BF (BJ g<|Hs g c' x p i) N))::[(q,Bl 195 full2)]):=by rw[hf2];exact H
   have hrow:=Iv (c:=Iw c c'<|i+1) hil
   have henc:Co (edC es (Iw c c'<|i+1) i)=[.int .i64 (un:Int),.int .i64 (vn:Int),.int .i64 ck,.int .i64 e.cost]:=by
    unfold edC Co Iw;rw[Bp he];dsimp only;rw[if_pos<|by omega,hun,hvn,<-hcke]
   have hfin:IG g c' x p i=if 2*xi<ck/\e.cost+p un - p vn<0 then ck else 2*xi:=by
    unfold IG;rw[hgc,hgf,hgt,<-hxie,<-hcke]
   have hms:=fun v=>Y4 (g:=g) (cap':=c') (x:=x) (p:=p) (k:=i) v;rw[hgf,hgt,<-hxie]at hms;obtain⟨pu,hpu⟩:=qD<|p un;obtain⟨pv,hpv⟩:=qD<|p vn;have hpbu:=hpb un hunN;have hpbv:=hpb vn hvnN;rw[<-hpu]at hpbu hfin;rw[<-hpv]at hpbv hfin;have hgpu:(tab p N)[un]?=some pu:=by rw[BP hunN,hpu]
   have hgpv:(tab p N)[vn]?=some pv:=by rw[BP hvnN,hpv]
   have hgx2:(tab (fun z=>if z=i then xi*2 else flW g c' x p i z) es.length)[i]?=some (xi*2):=by rw[BP hil,if_pos rfl]
   have RP:=Cv hp;have hRE:∀{z:World},z.heap[q]?=some (Bl 195 full2)->Rd z (some ⟨q,0,none⟩) 4 Co (esC es<|Iw c c'<|i+1):=fun h=>O1.rd (t:=195) (fun y hy=>by have hy:=qab.1 hy;rw[hy];exact h) (fun _ _=>rfl) (by decide);have RE:=hRE<|H.drew.get at3;refine Dk 38685626227650541404553216 (α:=Unit) (fun _=>[(84,.bool<|decide (xi*2<ck/\e.cost+pu - pv<0))]) (fun _ w'=>Ctx w0 ids w' ((b4,Bl 53 [.int .i64 (N:Int),.slice aw es.length cw])::(bf,Bl 2 (BF (fun z=>if z=i then xi*2 else flW g c' x p i z) es.length))::(bo,Bl 2 (BF (BJ g<|Hs g c' x p i) N))::[(q,Bl 195 full2)])) U ?_ ?_
   .skip
    refine Uz (fun x=>x=_) AW U ?_;refine BE U<|Bc U<|Aq qf U<|BD qf U (by rintro _ rfl;exact((by rw[Ai<|H.drew.ext.to hs hbs];rfl))) ?_;refine AS U<|Bt qf qf U U ?_;refine BD qf U (by rintro _ rfl;exact(((Cv<|H.drew.get at1).fld hgx2 rfl (j:=0) rfl))) ?_;refine BE U<|Bc U<|Aq qf U<|BD qf U (by rintro _ rfl;exact((RE.fld hrow rfl (j:=2) (by rw[henc];rfl)))) ?_;refine JC U U<|EU U<|iD 56 U ?_ ?_
    .intro h1;refine qG 3 ?_;refine BD qf U (by rintro _ rfl;exact((RE.fld hrow rfl (j:=3) (by rw[henc];rfl))))<|BE U<|Bc U<|Aq qf U<|BD qf U (by rintro _ rfl;exact((by rw[Ai<|H.drew.ext.to hs hbs];rfl)))<|BE U<|Bc U<|Aq qf U<|BD qf U (by rintro _ rfl;exact((RE.fld hrow rfl (j:=0) (by rw[henc];rfl))))<|Bt qf qf U U<|BD qf U (by rintro _ rfl;exact(((RP.ext H.drew.ext hbp).fld hgpu rfl (j:=0) rfl))) ?_;refine qG 4 ?_;refine BD qf U (by rintro _ rfl;exact((by rw[Ai<|H.drew.ext.to hs hbs];rfl)))<|BE U<|Bc U<|Aq qf U<|BD qf U (by rintro _ rfl;exact((RE.fld hrow rfl (j:=1) (by rw[henc];rfl))))<|Bt qf qf U U<|BD qf U (by rintro _ rfl;exact(((RP.ext H.drew.ext hbp).fld hgpv rfl (j:=0) rfl))) ?_;refine qG 4 ?_;rintro _ rfl;replace H:=H.drew;refine Aa ?_
     exact⟨(),rfl,⟨qaa Value.bool (by clear hgx hgx2 hgpu hgpv hcke hxie hpu hpv hms hmix hxb hfin henc hrow hgf hgt hgc;rw[qac];simp_all;try omega),trivial⟩,H⟩
    .intro h2;refine qG 29 ?_;rintro _ rfl;replace H:=H.drew;refine Aa ?_;exact⟨(),rfl,⟨qaa Value.bool (by clear hgx hgx2 hgpu hgpv hcke hxie hpu hpv hms hmix hxb hfin henc hrow hgf hgt hgc;rw[qac];simp_all;try omega),trivial⟩,H⟩
   .rintro - j6 w H;refine A3 _ U ?_ ?_
    .intro h2;have h2:=qbe h2;rw[if_pos ⟨by omega,h2.2⟩]at hfin;have ob1:=hmix i un;have ob2:=hmix i vn;have ob3:=hmix (i+1) un;have ob4:=hmix (i+1) vn;obtain⟨ov1,hov1⟩:=qD<|BJ g<|Hs g c' x p i;have hgo2:(tab ov1 N)[vn]?=some (ov1 vn):=BP hvnN;have hgo1:(tab (upd ov1 vn<|ov1 vn+(ck - xi*2)) N)[un]?=some (upd ov1 vn (ov1 vn+(ck - xi*2)) un):=BP hunN;rw[<-hov1]at ob1 ob2 H;rw[hms,hfin,<-hov1]at ob3 ob4
     have ob5:upd ov1 vn (ov1 vn+(ck - xi*2)) un=ov1 un+(ck - xi*2)*one (vn=un):=by
      by_cases e:un=vn
      .rw[e,CI,EM rfl];omega
      .rw[Dy e,E3<|Ne.symm e];omega
     have ob6:∀u,one (vn=u)=0\/one (vn=u)=1:=fun u=>by unfold one;split <;> omega
     have ob7:=ob6 un
     have ob8 : -1801439850948198400<=upd ov1 vn (ov1 vn+(ck - xi*2)) un/\upd ov1 vn (ov1 vn+(ck - xi*2)) un<=1801439850948198400:=by
      rw[ob5]
      rcases ob7 with h|h <;> rw[h] <;> omega
     refine CG (fun x=>x=_) AW U<|BE U<|Bc U<|Aq qf U<|BD qf U (by rintro _ rfl;exact(((hRE<|H.drew.get at3).fld hrow rfl (j:=2) (by rw[henc];rfl))))<|BE U<|Bc U<|Aq qf U<|BD qf U (by rintro _ rfl;exact((by rw[Ai<|H.drew.ext.to hs hbs];rfl)))<|AS U<|Bt qf qf U U<|BD qf U (by rintro _ rfl;exact(((Cv<|H.drew.get at1).fld hgx2 rfl (j:=0) rfl))) ?_;refine qG 3 ?_;rintro _ rfl;replace H:=H.drew;refine Af<|AV U<|AR U<|Ae qf U<|A9 qf U ((by rw[Ai<|H.ext.to hs hbs];rfl)) ?_;refine Ad U<|BA qf qf U U ?_;refine A9 qf U (((Cv<|H.get at1).fld hgx2 U (j:=0) U))<|Ad U<|Ap U U ?_;refine BA qf qf U U ?_
     refine BZ i (fun z => .int .i64 (if z=i then ck else flW g c' x p i z)) (.int _ _) qf U U U H at1 (by simp) (hk:=hil) (by rw[if_pos rfl];congr 1;omega) (fun z _ hz=>by dsimp only;rw[if_neg hz,if_neg hz]) ?_;rintro w H;refine qA<|De 13 AW U U (BE U<|Bc U<|Aq qf U<|BD qf U (by rintro _ rfl;exact((by rw[Ai<|H.drew.ext.to hs hbs];rfl)))<|BE U<|Bc U<|Aq qf U<|BD qf U (by rintro _ rfl;exact(((hRE<|H.drew.get at3).fld hrow rfl (j:=1) (by rw[henc];rfl))))<|Bt qf qf U U<|BD qf U (by rintro _ rfl;exact(((Cv<|H.drew.get at2).fld hgo2 rfl (j:=0) rfl))) ?_);refine qG 4 ?_;replace H:=H.drew;refine BZ vn (fun z => .int .i64 (upd ov1 vn (ov1 vn+(ck - xi*2)) z)) (.int _ _) qf U U U H at2 (by simp) (hk:=hvnN) (by rw[CI]) (fun z _ hz=>by rw[Dy hz]) ?_;rintro w H
     refine qA<|DL 13 AW U U (BE U<|Bc U<|Aq qf U<|BD qf U (by rintro _ rfl;exact((by rw[Ai<|H.drew.ext.to hs hbs];rfl)))<|BE U<|Bc U<|Aq qf U<|BD qf U (by rintro _ rfl;exact(((hRE<|H.drew.get at3).fld hrow rfl (j:=0) (by rw[henc];rfl))))<|Bt qf qf U U<|BD qf U (by rintro _ rfl;exact(((Cv<|H.drew.get at2).fld hgo1 rfl (j:=0) rfl))) ?_);refine qG 4 ?_;replace H:=H.drew;refine BZ un (fun z => .int .i64 (upd (upd ov1 vn<|ov1 vn+(ck - xi*2)) un (upd ov1 vn (ov1 vn+(ck - xi*2)) un - (ck - xi*2)) z)) (.int _ _) qf U U U H at2 (by simp) (hk:=hunN) (by rw[CI]) (fun z _ hz=>by rw[Dy hz]) ?_;rintro w H;refine Ab<|Av<|Aa<|Aw<|Ap U U ?_;refine Ad U<|qA ?_
     have e1:BF (fun z=>if z=i then ck else flW g c' x p i z) es.length=BF (flW g c' x p<|i+1) es.length:=qbk fun z _=>by
      dsimp only
      by_cases e:z=i
      .subst e;rw[if_pos rfl];unfold flW;rw[if_pos<|by omega,hfin]
      .rw[if_neg e,YP e]
     have e2:BF (upd (upd ov1 vn<|ov1 vn+(ck - xi*2)) un<|upd ov1 vn (ov1 vn+(ck - xi*2)) un - (ck - xi*2)) N=BF (BJ g<|Hs g c' x p<|i+1) N:=qbk fun z _=>by
      congr 1
      rw[hms,hfin,<-hov1]
      by_cases e:z=un
      .subst e;rw[CI,ob5,EM rfl]
       rcases ob7 with h|h <;> rw[h] <;> omega
      .rw[Dy e,E3 (p:=un=z)<|Ne.symm e]
       by_cases e3:z=vn
       .subst e3;rw[CI,EM rfl];omega
       .rw[Dy e3,E3<|Ne.symm e3];omega
     refine⟨(i+1,full2),rfl,⟨rfl,trivial⟩,⟨by dsimp only;omega,O1,?_⟩,by dsimp only;omega⟩;dsimp only[FL];rw[<-e1,<-e2];exact H
    .intro h2;have h2:=qbq h2;rw[if_neg fun h=>h2 ⟨by omega,h.2⟩]at hfin;refine A1<|Av<|Aa<|Aw<|Ap U U ?_;refine Ad U (qA ?_)
     have e1:BF (fun z=>if z=i then xi*2 else flW g c' x p i z) es.length=BF (flW g c' x p<|i+1) es.length:=qbk fun z _=>by
      dsimp only
      by_cases e:z=i
      .subst e;rw[if_pos rfl];unfold flW;rw[if_pos<|by omega,hfin];congr 1;omega
      .rw[if_neg e,YP e]
     have e2:BF (BJ g<|Hs g c' x p i) N=BF (BJ g<|Hs g c' x p<|i+1) N:=qbk fun z _=>by
      congr 1
      rw[hms,hfin,Int.sub_self,Int.zero_mul,qds]
     refine⟨(i+1,full2),rfl,⟨rfl,trivial⟩,⟨by dsimp only;omega,O1,?_⟩,by dsimp only;omega⟩;dsimp only[FL];rw[<-e1,<-e2];exact H
  .intro h1;refine qG 5 ?_;obtain rfl:i=es.length:=by omega
   rw[Jz (d:=c') fun i hi=>by unfold Iw;rw[if_pos hi]]at O
   have e1:BF (flW g c' x p es.length) es.length=BF (IG g c' x p) es.length:=qbk fun z hz=>by
    unfold flW;rw[if_pos<|qa5.1 hz]
   have e2:BF (BJ g<|Hs g c' x p es.length) N=BF (BJ g<|IG g c' x p) N:=qbk fun z _=>by
    congr 1
    refine JT (fun i hi=>?_) z;rw[<-hgE];exact Ace hi
   refine⟨rfl,full1,O,?_⟩;have H:=H.tail;dsimp only[FL]at H |-;rw[e1,e2]at H;exact H
section
variable {P:Program}{r:Option Nat}{ops rest:List Oper}{Q:Exit->Env->World->Prop}{e:Env}{w:World}{dst:Option Tmp}{ty:TypeId}{pos:String}{af:Array Edge}{gd:Option (Nat × Bool)}{t t2:TypeId}{x y:Operand}{a b:Int}
theorem LS(hg:AJ ⟨dst,.binOp .add t x y t2,ty,pos,af,gd⟩ ops e=true)(hx:ev e x=.int .i64 a)(hy:ev e y=.int .i64 b)(h:∀z,A4 P r ops Q rest (put e dst<|.int .i64 z) w):A4 P r ops Q (⟨dst,.binOp .add t x y t2,ty,pos,af,gd⟩::rest) e w:=B8 (v := .int .i64 (IntKind.i64.wrap<|a+b)) hg rfl (BW hx hy<|by simp[binOp,Op.intArith]) (h _)
theorem We(h2:w.heap[D2]?=some (.deferred<|some []))(h1:w.heap[D1]?=some (.deferred<|some []))(hne:D1≠D2)(hds:ds=[{ target := .collected D2,args:=#[] },{ target := .collected D1,args:=#[] }])(hK:∀wF,Ext [D2,D1] w wF->K wF):Marks ds w K:=by
 subst hds;have x2:=Ext.setB w D2<|.deferred none;have x1:=Ext.setB (w.putObj D2<|.deferred none) D1<|.deferred none;refine⟨D2,rfl,h2,D1,rfl,x2.to h1 (by rw[qab];exact hne),hK _<|(x2.mono<|by simp).trans<|x1.mono<|by simp⟩
end
theorem Rd.map{a:Option Addr}{s:Nat}{enc:α->List Value}{f:β->α}{xs:List β}(R:Rd w a s (fun x=>enc<|f x) xs):Rd w a s enc<|xs.map f:=by
 refine⟨fun h=>R.some' fun h'=>h (by rw[h'];rfl),fun i x hx j v hv hj=>?_⟩;rw[qa9]at hx;obtain⟨y,hy,rfl⟩:=qdc.1 hx;exact R.cell i y hy j v hv hj
def OC(g:Gr)(v:Nat)(l:List Nat):Nat:=l.foldl (fun _ a=>g.u a) v
theorem Wf{a:Nat}(h:l[i]?=some a):OC g v (l.take<|i+1)=g.u a:=by
 unfold OC;rw[EA h,qdr];rfl
theorem OE{g:Gr}{cap x p:Nat->Int}{s:Lb}{by':Nat->Option Nat}(hB:Bys g cap x p s by'):∀{k v:Nat},s.d v ≠ -1->s.h v=k->OC g v (DC by' g k v)=LP by' g k v
 |0,_,_,_=>rfl
 |k+1,v,hd,hk=>by
  obtain⟨a,h1,h2,h3⟩:=hB.2 v hd (by omega);have hh:=h2.h;rw[h3,hk]at hh;obtain⟨e1,e2⟩:=G0 (g:=g) (k:=k) h1;rw[e1,e2,<-OE hB h2.du (by omega)];rfl
theorem Wg{x:Nat->Int}{a:Nat}(h:l[i]?=some a):Fa m x (l.take<|i+1)=HO m (Fa m x<|l.take i) a:=by
 unfold Fa;rw[EA h,qdr];rfl
theorem LU{N:Int}{x:Nat->Int}(hr:Cd N es=true)(h:Fine (grE N es) (Ck es) x p):BO N es (tab x es.length)=true:=by
 have h1:=YO (c:=Ck es) (x:=x) hr (fun i hi=>by have:=Mp hr i hi;omega) fun i hi=>h.in' i hi;rw[Nj]at h1;exact h1
theorem Ac7{N:Nat}(hp:∀v,v<N -> -1073741824<=p v/\p v<=1073741824):EN (N:Int) (tab p N)=true:=by
 unfold EN;rw[CP,qam rfl,qcx];refine qaw.2 fun x hx=>?_;obtain⟨i,hi⟩:=qc7 hx;obtain⟨h1,rfl⟩:=Lr hi;have:=hp i h1;unfold J8;simp only[qag,qav];omega
theorem Ctx.ltI(H:Ctx w0 S w L):∀b∈L.map (·.1),b<w.heap.size:=fun b hb=>by
 obtain⟨y,hy,rfl⟩:=qak.1 hb;exact AX<|H.blk y hy
theorem FV(h:(L++L').Pairwise fun x y=>x.1≠y.1){x:Nat × Obj}(hx:x∈L'):x.1∉L.map (·.1):=fun hm=>by
 obtain⟨y,hy,he⟩:=qak.1 hm;exact(qby.1 h).2.2 y hy x hx he
theorem Wh{R:α->α->Prop}{l:List α}(h:l.Pairwise R){a:α}(ha:l[i]?=some a):∀b∈l.take i,R b a:=fun b hb=>by
 rw[<-qbp i l]at h;exact(qby.1 h).2.2 b hb a (qad (i:=0) (by rw[qc0];exact ha))
theorem Ac8{N:Nat}(hpn:E7 (tab p N)=p)(hpb:∀v,v<N -> -1073741824<=p v/\p v<=1073741824)(v:Nat) : -1152921504606846976<=p v/\p v<=1152921504606846976:=by
 rcases qao v N with h|h
 .have:=hpb v h;omega
 .rw[<-hpn];unfold E7;rw[qb1,qbg (by rw[CP];exact h)];exact⟨by decide,by decide⟩
abbrev SL(bs bf bp bo:Nat)(N:Nat)(ae:Option Addr)(n ce:Nat)(k:Int)(x p ov:Nat->Int)(full:List Value):List (Nat × Obj) :=
 (bs,Bl 261 (SC N ae n ce bf bp bo k))::(bf,Bl 2 (BF x n))::(bp,Bl 2 (BF p N))::(bo,Bl 2 (BF ov N))::ent ae 195 full
theorem Ai0{N:Nat}:(∀v∈Gm ov N,v<N)/\(Gm ov N).Nodup/\∀v,v∈Gm ov N↔v<N/\0<ov v:=by
 have h:∀v,v∈Gm ov N↔v<N/\0<ov v:=fun v=>by unfold Gm;rw[qbc,qa5,qav]
 exact⟨fun v hv=>((h v).1 hv).1,List.nodup_range.filter _,h⟩
end Go.Proofs.YtfnfnmgilmejmaaGreat
